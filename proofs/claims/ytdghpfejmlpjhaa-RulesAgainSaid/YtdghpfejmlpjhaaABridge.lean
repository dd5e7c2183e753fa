/- s -/
import Derived.Test.YtdghpfejmlpjhaaASimN
import Derived.Test.YtdghpfejmlpjhaaAWp
import Derived.Carry
import Derived.DataReads
import Derived.ProofKit
import Derived.OpenShut
set_option linter.unusedVariables false
set_option linter.unusedSimpArgs false
namespace Go.AM
open Go.RowKit
def memOf (w:World):Mem:=fun b o=>mc w b o
theorem memOf_cons (w:World):Cons (memOf w) w:=fun b o u h=>h
def CellsR (M:Mem) (xs:List AV) (cs:List Value):Prop:=xs.length=cs.length∧∀ (j:Nat) c v,xs[j]? = some c→cs[j]? = some v→R M c v
def Reads (P:Program) (t:TypeId) {α:Type} (f:α→AV) (ok:α→Prop):Prop :=
 ∀ (H:Type) (enc:TypeId×Value→H) (w:World) (fuel:Nat) (cs:List Value) (x:DataW H×List MemPlace),
  DataW.trod enc P w 0 (fun _=>true) true fuel t cs=some x→∃ a,ok a∧CellsR (memOf w) (f a).cells cs
section
variable {P:Program}
theorem CellsR.one {M:Mem} {c:AV} {v:Value} (h:R M c v):CellsR M [c] [v]:=by
 refine⟨rfl,fun j c' v' hc hv=>?_⟩
 cases j with
 | zero=>simp at hc hv;subst hc;subst hv;exact h
 | succ j=>simp at hc
theorem CellsR.append {M:Mem} {xs ys:List AV} {cs ds:List Value} (h:CellsR M xs cs) (k:CellsR M ys ds):CellsR M (xs++ys) (cs++ds):=by
 refine⟨by simp[h.1,k.1],fun j c v hc hv=>?_⟩
 by_cases hj:j<xs.length
 ·rw[List.getElem?_append_left hj]at hc;rw[List.getElem?_append_left (by rw[← h.1];exact hj)]at hv;exact h.2 j c v hc hv
 ·rw[List.getElem?_append_right (by omega)]at hc;rw[List.getElem?_append_right (by rw[← h.1];omega),← h.1]at hv;exact k.2 _ c v hc hv
theorem reads_int {t:TypeId} {k:IntKind} (ht:P.underlying t=some (.int k)):Reads P t (AV.int k) (fun n=>(Lit.int k n).wf=true):=by
 intro H enc w fuel cs x h
 cases fuel with
 | zero=>cases h
 | succ fuel =>
  unfold DataW.trod at h;rw[ht]at h
  split at h <;> try (first | (rename_i e _;cases e;done) | cases h)
  all_goals try (rename_i e;cases e;done)
  rename_i k1 k2 n e;cases e
  split at h
  ·rename_i hk;obtain⟨rfl,hwf⟩:=hk;exact⟨n,hwf,.one (.int _ _)⟩
  ·cases h
theorem reads_bool {t:TypeId} (ht:P.underlying t=some .bool):Reads P t AV.bool (fun _=>True):=by
 intro H enc w fuel cs x h
 cases fuel with
 | zero=>cases h
 | succ fuel =>
  unfold DataW.trod at h;rw[ht]at h
  split at h <;> try (first | (rename_i e _;cases e;done) | cases h)
  all_goals try (rename_i e;cases e;done)
  exact⟨_,trivial,.one (.bool _)⟩
theorem choose_list {α:Type} {Pr:Nat→α→Prop}:∀ (n:Nat),(∀ i,i<n→∃ x,Pr i x)→∃ l:List α,l.length=n∧∀ i x,l[i]? = some x→Pr i x
 | 0,_=>⟨[],rfl,fun i x h=>by simp at h⟩
 | n+1,h=>by
  obtain⟨l,h1,h2⟩:=choose_list n (fun i hi=>h i (by omega));obtain⟨x,hx⟩:=h n (by omega);refine⟨l++[x],by simp[h1],fun i y hy=>?_⟩
  by_cases hi:i<l.length
  ·rw[List.getElem?_append_left hi]at hy;exact h2 i y hy
  ·rw[List.getElem?_append_right (by omega)]at hy
   have:i - l.length=0:=by
    cases hh:i - l.length with
    | zero=>rfl
    | succ m=>rw[hh]at hy;simp at hy
   rw[this]at hy
   simp at hy
   subst hy
   have:i=n:=by omega
   subst this;exact hx
theorem cells?_get {w:World} {base n:Nat} {a:Addr} {cs:List Value} (h:w.cells? base a n=some cs):cs.length=n∧∀ i,i<n→w.cell? (a.add i)=cs[i]?:=by
 unfold World.cells? at h
 split at h
 ·refine⟨by simpa using mapM_some_length h,fun i hi=>?_⟩;exact mapM_some_get h i i (by simp[hi])
 ·cases h
theorem spot_none {w:World} {a:Addr} {v:Value} (h:w.cell? a=some v):a.spot=none:=by
 unfold World.cell? at h
 split at h
 ·split at h
  ·cases h
  ·rename_i hs
   simpa using hs
 ·cases h
theorem add_eq {a:Addr} (h:a.spot=none) (n:Nat):a.add n=⟨a.block,a.off+n,none⟩:=by
 obtain⟨b,o,s⟩:=a;simp only at h;subst h;unfold Addr.add
 split
 ·rename_i e;subst e;rfl
 ·rfl
theorem YM {α:Type} {f:α→AV} {ok:α→Prop} {t e k:Nat} (ht:P.underlying t=some (.slice e)) (hk:P.cellsOf e=k) (hk0:0<k) (he:Reads P e f ok) (hlen:∀ x,(f x).cells.length=k) (hone:∀ x,(f x).cells.all AV.one=true) :
  Reads P t (encL e k f) (fun l=>l.length≤maxLen∧∀ x,x∈l→ok x):=by
 intro H enc w fuel cs x h
 cases fuel with
 | zero=>cases h
 | succ fuel =>
  unfold DataW.trod at h;rw[ht]at h
  split at h <;> try (first | (rename_i e _;cases e;done) | cases h)
  all_goals try (rename_i e;cases e;done)
  ·exact⟨[],⟨Nat.zero_le _,fun x hx=>by cases hx⟩,.one (.lstn _ _ _)⟩
  ·rename_i t1 e1 a len cap e2;cases e2;simp only at h
   split at h
   ·rename_i hc;obtain⟨hb,hlc,hcm⟩:=hc;rw[Option.bind_eq_some_iff]at h;obtain⟨elems,h1,h2⟩:=h
    have hel:∀ i,i<len→∃ y:α,ok y∧∃ cs,w.cells? 0 (a.add (i * k)) k=some cs∧CellsR (memOf w) (f y).cells cs:=by
     intro i hi;have hlenE:=mapM_some_length h1
     simp at hlenE
     have:=mapM_some_get h1 i i (by simp[hi]);have hsome:elems[i]? = some (elems[i]'(by omega)):=List.getElem?_eq_getElem _;rw[hsome]at this;rw[hk,Option.bind_eq_some_iff]at this;obtain⟨cs,hcs,htr⟩:=this;obtain⟨y,hy,hr⟩:=he H enc w fuel cs _ htr;exact⟨y,hy,cs,hcs,hr⟩
    obtain⟨l,hll,hl⟩:=choose_list (Pr:=fun i y=>ok y∧∃ cs,w.cells? 0 (a.add (i * k)) k=some cs∧CellsR (memOf w) (f y).cells cs) len hel;refine⟨l,⟨by omega,fun x hx=>?_⟩,?_⟩
    ·obtain⟨i,hi⟩:=List.mem_iff_getElem?.1 hx;exact (hl i x hi).1
    refine .one ?_
    cases len with
    | zero =>
     have:l=[]:=List.length_eq_zero_iff.1 hll;subst this;exact .lste _ _ _ _ _
    | succ len =>
     have hspot:a.spot=none:=by
      have hx:l[0]? = some (l[0]'(by omega)):=List.getElem?_eq_getElem _;obtain⟨_,cs,hcs,_⟩:=hl 0 _ hx;obtain⟨c1,c2⟩:=cells?_get hcs;have:=c2 0 hk0;have hc0:cs[0]? = some (cs[0]'(by omega)):=List.getElem?_eq_getElem _;rw[hc0]at this
      simp[Addr.add]at this
      exact spot_none this
     obtain⟨b,off,spot⟩:=a;simp only at hspot;subst hspot
     have hlenk:∀ x,x∈l.map f→x.cells.length=k:=by
      intro x hx;obtain⟨y,_,rfl⟩:=List.mem_map.1 hx;exact hlen y
     have hcell:∀ (j:Nat) c,(flat (l.map f))[j]? = some c→∃ u,w.cell? ⟨b,off+j,none⟩=some u∧R (memOf w) c u:=by
      intro j c hc
      have hjl:j<l.length * k:=by
       have:=(List.getElem?_eq_some_iff.1 hc).1;rw[qW hlenk]at this
       simpa using this
      have hik:j / k<l.length:=Nat.div_lt_of_lt_mul (by rw[Nat.mul_comm];exact hjl);have hy:l[j / k]? = some (l[j / k]'hik):=List.getElem?_eq_getElem _
      have hfy:(l.map f)[j / k]? = some (f (l[j / k]'hik)):=by rw[List.getElem?_map,hy];rfl
      have hmod:j % k<k:=Nat.mod_lt _ hk0;have hfl:=QY hlenk hfy (j % k) hmod
      have hdm:j / k * k+j % k=j:=by rw[Nat.mul_comm];exact Nat.div_add_mod j k
      rw[hdm,hc]at hfl;obtain⟨_,cs,hcs,hcr⟩:=hl _ _ hy;obtain⟨c1,c2⟩:=cells?_get hcs;have hcell:=c2 (j % k) hmod;have hv:cs[j % k]? = some (cs[j % k]'(by omega)):=List.getElem?_eq_getElem _;rw[hv,add_eq (a:=⟨b,off,none⟩) rfl,add_eq rfl]at hcell;refine⟨_,?_,hcr.2 _ _ _ hfl.symm hv⟩
      simpa[Nat.add_assoc,hdm] using hcell
     rw[← hll];have hmap:(l.map f).length=l.length:=List.length_map _;unfold encL;rw[← hmap];refine .lst (fun j=>(w.cell? ⟨b,off+j,none⟩).getD undef) (by rw[hmap];omega) hlenk ?_ ?_ ?_
     ·intro x hx;obtain⟨y,_,rfl⟩:=List.mem_map.1 hx;exact hone y
     ·intro j c hc;obtain⟨u,hu,hr⟩:=hcell j c hc;rw[hu];refine mc_of_cell hu (QM (hr.one (Zr (fun x hx=>?_) hc)));obtain⟨y,_,rfl⟩:=List.mem_map.1 hx;exact hone y
     ·intro j c hc;obtain⟨u,hu,hr⟩:=hcell j c hc;rw[hu];exact hr
   ·cases h
def FieldsR (P:Program):List Field→Nat→Nat→{α:Type}→(α→List AV)→(α→Prop)→Prop:=fun fs off size α f ok =>
 ∀ (H:Type) (enc:TypeId×Value→H) (w:World) (fuel:Nat) (cs:List Value),cs.length=size →
  (∀ g,g∈fs→∃ x,DataW.trod enc P w 0 (fun _=>true) true fuel g.type ((cs.drop g.offset).take (P.cellsOf g.type))=some x) →
  ∃ a,ok a∧CellsR (memOf w) (f a) (cs.drop off)
theorem YO {off size:Nat} (h:size=off):FieldsR P [] off size (fun _:Unit=>[]) (fun _=>True):=by
 intro H enc w fuel cs hl _;refine⟨(),trivial,?_⟩;rw[List.drop_of_length_le (by omega)];exact⟨rfl,fun j c v hc=>by simp at hc⟩
theorem JQ {fd:Field} {fs:List Field} {off off' size n:Nat} {α β:Type} {f:α→AV} {ok:α→Prop} {g:β→List AV} {ok':β→Prop} (ho:fd.offset=off) (hs:P.cellsOf fd.type=n) (hn:off+n=off') (he:Reads P fd.type f ok) (hr:FieldsR P fs off' size g ok') :
  FieldsR P (fd::fs) off size (fun x:α×β=>(f x.1).cells++g x.2) (fun x=>ok x.1∧ok' x.2):=by
 intro H enc w fuel cs hl h;obtain⟨x,hx⟩:=h fd (by simp);obtain⟨a,h1,h2⟩:=he H enc w fuel _ _ hx;obtain⟨b,h3,h4⟩:=hr H enc w fuel cs hl (fun g hg=>h g (by simp[hg]));refine⟨(a,b),⟨h1,h3⟩,?_⟩;rw[ho,hs]at h2;have:=h2.append h4;rw[← hn]at this
 have e:(cs.drop off).take n++cs.drop (off+n)=cs.drop off:=by
  rw[← List.drop_drop,List.take_append_drop]
 rw[e]at this;exact this
theorem Ye {t size:Nat} {fs:Array Field} {α β:Type} {g:β→List AV} {ok':β→Prop} (mk:β→α) {f:α→AV} {ok:α→Prop} (ht:P.underlying t=some (.struct fs)) (hs:P.cellsOf t=size) (hf:FieldsR P fs.toList 0 size g ok') (hcells:∀ b,(f (mk b)).cells=g b) (hok:∀ b,ok' b→ok (mk b)):Reads P t f ok:=by
 intro H enc w fuel cs x h
 cases fuel with
 | zero=>cases h
 | succ fuel =>
  unfold DataW.trod at h;rw[ht]at h
  have key:cs.length=size∧∃ xs,fs.toList.mapM (fun fd=>DataW.trod enc P w 0 (fun _=>true) true fuel fd.type ((cs.drop fd.offset).take (P.cellsOf fd.type)))=some xs:=by
   simp only at h
   split at h
   ·rename_i hl;rw[hs]at hl;rw[Option.map_eq_some_iff]at h;obtain⟨xs,h1,_⟩:=h;exact⟨hl,xs,h1⟩
   ·cases h
  obtain⟨hl,xs,hm⟩:=key
  obtain⟨b,h1,h2⟩:=hf H enc w fuel cs hl (fun fd hfd=>by
   obtain⟨i,hi⟩:=List.mem_iff_getElem?.1 hfd;have h3:=mapM_some_get hm i fd hi;have hlen:=mapM_some_length hm
   have hix:i<xs.length:=by rw[hlen];exact (List.getElem?_eq_some_iff.1 hi).1
   exact⟨xs[i],h3.trans (List.getElem?_eq_getElem hix)⟩)
  refine⟨mk b,hok b h1,?_⟩;rw[hcells]
  simpa using h2
theorem Reads.arg {α:Type} {f:α→AV} {ok:α→Prop} {t:TypeId} (h:Reads P t f ok) {H:Type} {enc:TypeId×Value→H} {w:World} {v:Value} {d:DataW H} {ps:List MemPlace} (ht:DataW.Trod enc P w 0 (fun _=>true) true t v d ps) (hv:(f · |>.cells)=(fun x=>[f x]):=by rfl) (hone:v.cells.toList=[v]):∃ a,ok a∧R (memOf w) (f a) v:=by
 obtain⟨fuel,hf⟩:=ht;obtain⟨a,h1,h2⟩:=h H enc w fuel _ _ hf;refine⟨a,h1,?_⟩;have e:(f a).cells=[f a]:=congrFun hv a
 have h3:CellsR (memOf w) [f a] [v]:=by
  rw[← e];rw[hone]at h2;exact h2
 exact h3.2 0 _ _ rfl rfl
end
end Go.AM
