import Derived.Test.YtoiejpkfpjingaaASimN
import Derived.Test.YtoiejpkfpjingaaAWp
import Derived.Carry
import Derived.DataReads
import Derived.ProofKit
import Derived.OpenShut
import Derived.Sort.Grow
import Derived.Test.YtoiejpkfpjingaaChecked
import Derived.Shelf.SlGeneric
import Derived.Ground.SlgnProg
import Derived.Shelf.SlicesE.Delete
import Derived.Test.YtoiejpkfpjingaaASimK
import Derived.Test.YtoiejpkfpjingaaASimX
import Derived.Shelf.Sort.Plain
import Derived.Shelf.Slices.In.SortNone
import Derived.Test.YtoiejpkfpjingaaProg
import Derived.Sort.OwnSortedInts
set_option linter.all false
set_option maxRecDepth 100000
open List renaming getElem?_eq_getElem→A0, map→A2, getElem?_append_left→A5, getElem?_append_right→A6, getElem?_map→A7, length_eraseIdx→B0, getElem?_eraseIdx→B5, eq_nil_of_length_eq_zero→C5, getD_eq_getElem?_getD→C6
open Go.Sem renaming run→A1
open Bool renaming false_eq_true→A3
open Array renaming getElem?_eq_getElem→A4, toList_filter→A9, getElem?_modify→B9, length_toList→C2, getElem?_toList→C4
open Go.Result renaming andThen→A8
open Option renaming bind_eq_some_iff→B6
open Nat renaming le_of_succ_le_succ→B7, eq_of_beq_eq_true→C0, le_of_ble_eq_true→C7
namespace Go.AM
open Go.RowKit
def memOf (w:World):Mem:=fun b o=>mc w b o
theorem qcv (w:World):Cons (memOf w) w:=fun b o u h=>h
def CellsR (M:Mem) (xs:List AV) (cs:List Value):Prop:=xs.length=cs.length∧∀ (j:Nat) c v,xs[j]? = some c→cs[j]? = some v→R M c v
def Reads (P:Program) (t:TypeId) {α:Type} (f:α→AV) (ok:α→Prop):Prop :=
 ∀ (H:Type) (enc:TypeId×Value→H) (w:World) (fuel:Nat) (cs:List Value) (x:DataW H×List MemPlace),
  DataW.trod enc P w 0 (fun _=>true) true fuel t cs=some x→∃ a,ok a∧CellsR (memOf w) (f a).cells cs
def ReadsN (N:Nat) (P:Program) (t:TypeId) {α:Type} (f:α→AV) (ok:α→Prop):Prop :=
 ∀ (H:Type) (enc:TypeId×Value→H) (w:World) (fuel:Nat) (cs:List Value) (x:DataW H×List MemPlace),fuel≤N →
  DataW.trod enc P w 0 (fun _=>true) true fuel t cs=some x→∃ a,ok a∧CellsR (memOf w) (f a).cells cs
section
variable {P:Program}
theorem Reads.toN {t:TypeId} {α:Type} {f:α→AV} {ok:α→Prop} (h:Reads P t f ok) (N:Nat):ReadsN N P t f ok:=fun H enc w fuel cs x _ k=>h H enc w fuel cs x k
theorem ReadsN.all {t:TypeId} {α:Type} {f:α→AV} {ok:α→Prop} (h:∀ N,ReadsN N P t f ok):Reads P t f ok:=fun H enc w fuel cs x k=>h fuel H enc w fuel cs x (Nat.le_refl _) k
theorem ReadsN.mono {t:TypeId} {α:Type} {f:α→AV} {ok:α→Prop} {N M:Nat} (h:ReadsN M P t f ok) (hl:N≤M):ReadsN N P t f ok:=fun H enc w fuel cs x k=>h H enc w fuel cs x (Nat.le_trans k hl)
theorem CellsR.one {M:Mem} {c:AV} {v:Value} (h:R M c v):CellsR M [c] [v]:=by
 refine⟨rfl,fun j c' v' hc hv=>?_⟩
 cases j with
 | zero=>simp at hc hv;subst hc;subst hv;exact h
 | succ j=>simp at hc
theorem CellsR.append {M:Mem} {xs ys:List AV} {cs ds:List Value} (h:CellsR M xs cs) (k:CellsR M ys ds):CellsR M (xs++ys) (cs++ds):=by
 refine⟨by simp[h.1,k.1],fun j c v hc hv=>?_⟩;by_cases hj:j<xs.length
 ·rw[A5 hj]at hc;rw[A5 (by rw[← h.1];exact hj)]at hv;exact h.2 j c v hc hv
 ·rw[A6 (by omega)]at hc;rw[A6 (by rw[← h.1];omega),← h.1]at hv;exact k.2 _ c v hc hv
theorem Us {t:TypeId} {k:IntKind} (ht:P.underlying t=some (.int k)):Reads P t (AV.int k) (fun n=>(Lit.int k n).wf=true):=by
 intro H enc w fuel cs x h
 cases fuel with
 | zero=>cases h
 | succ fuel =>
  unfold DataW.trod at h;rw[ht]at h
  split at h <;> try (first | (rename_i e _;cases e;done) | cases h)
  all_goals try (rename_i e;cases e;done)
  rename_i k1 k2 n e;cases e;split at h
  ·rename_i hk;obtain⟨rfl,hwf⟩:=hk;exact⟨n,hwf,.one (.int _ _)⟩
  ·cases h
theorem UY {α:Type} {Pr:Nat→α→Prop}:∀ (n:Nat),(∀ i,i<n→∃ x,Pr i x)→∃ l:List α,l.length=n∧∀ i x,l[i]? = some x→Pr i x
 | 0,_=>⟨[],rfl,fun i x h=>by simp at h⟩
 | n+1,h=>by
  obtain⟨l,h1,h2⟩:=UY n (fun i hi=>h i (by omega));obtain⟨x,hx⟩:=h n (by omega);refine⟨l++[x],by simp[h1],fun i y hy=>?_⟩;by_cases hi:i<l.length
  ·rw[A5 hi]at hy;exact h2 i y hy
  ·rw[A6 (by omega)]at hy
   have:i - l.length=0:=by
    cases hh:i - l.length with
    | zero=>rfl
    | succ m=>rw[hh]at hy;simp at hy
   rw[this]at hy;simp at hy;subst hy
   have:i=n:=by omega
   subst this;exact hx
theorem Ho {w:World} {base n:Nat} {a:Addr} {cs:List Value} (h:w.cells? base a n=some cs):cs.length=n∧∀ i,i<n→w.cell? (a.add i)=cs[i]?:=by
 unfold World.cells? at h;split at h
 ·refine⟨by simpa using mapM_some_length h,fun i hi=>?_⟩;exact mapM_some_get h i i (by simp[hi])
 ·cases h
theorem qdi {w:World} {a:Addr} {v:Value} (h:w.cell? a=some v):a.spot=none:=by
 unfold World.cell? at h;split at h
 ·split at h
  ·cases h
  ·rename_i hs
   simpa using hs
 ·cases h
theorem qeS {a:Addr} (h:a.spot=none) (n:Nat):a.add n=⟨a.block,a.off+n,none⟩:=by
 obtain⟨b,o,s⟩:=a;simp only at h;subst h;unfold Addr.add;split
 ·rename_i e;subst e;rfl
 ·rfl
theorem qaq {N:Nat} {α:Type} {f:α→AV} {ok:α→Prop} {t e k:Nat} (ht:P.underlying t=some (.slice e)) (hk:P.cellsOf e=k) (hk0:0<k) (he:ReadsN N P e f ok) (hlen:∀ x,(f x).cells.length=k) (hone:∀ x,(f x).cells.all AV.one=true) :
  ReadsN (N+1) P t (encL e k f) (fun l=>l.length≤maxLen∧∀ x,x∈l→ok x):=by
 intro H enc w fuel cs x hN h
 cases fuel with
 | zero=>cases h
 | succ fuel =>
  unfold DataW.trod at h;rw[ht]at h
  split at h <;> try (first | (rename_i e _;cases e;done) | cases h)
  all_goals try (rename_i e;cases e;done)
  ·exact⟨[],⟨Nat.zero_le _,fun x hx=>by cases hx⟩,.one (.lstn _ _ _)⟩
  ·rename_i t1 e1 a len cap e2;cases e2;simp only at h;split at h
   ·rename_i hc;obtain⟨hb,hlc,hcm⟩:=hc;rw[B6]at h;obtain⟨elems,h1,h2⟩:=h
    have hel:∀ i,i<len→∃ y:α,ok y∧∃ cs,w.cells? 0 (a.add (i * k)) k=some cs∧CellsR (memOf w) (f y).cells cs:=by
     intro i hi;have hlenE:=mapM_some_length h1;simp at hlenE;have:=mapM_some_get h1 i i (by simp[hi]);have hsome:elems[i]? = some (elems[i]'(by omega)):=A0 _;rw[hsome]at this;rw[hk,B6]at this;obtain⟨cs,hcs,htr⟩:=this;obtain⟨y,hy,hr⟩:=he H enc w fuel cs _ (B7 hN) htr;exact⟨y,hy,cs,hcs,hr⟩
    obtain⟨l,hll,hl⟩:=UY (Pr:=fun i y=>ok y∧∃ cs,w.cells? 0 (a.add (i * k)) k=some cs∧CellsR (memOf w) (f y).cells cs) len hel;refine⟨l,⟨by omega,fun x hx=>?_⟩,?_⟩
    ·obtain⟨i,hi⟩:=List.mem_iff_getElem?.1 hx;exact (hl i x hi).1
    refine .one ?_
    cases len with
    | zero =>
     have:l=[]:=List.length_eq_zero_iff.1 hll;subst this;exact .lste _ _ _ _ _
    | succ len =>
     have hspot:a.spot=none:=by
      have hx:l[0]? = some (l[0]'(by omega)):=A0 _;obtain⟨_,cs,hcs,_⟩:=hl 0 _ hx;obtain⟨c1,c2⟩:=Ho hcs;have:=c2 0 hk0;have hc0:cs[0]? = some (cs[0]'(by omega)):=A0 _;rw[hc0]at this;simp[Addr.add]at this;exact qdi this
     obtain⟨b,off,spot⟩:=a;simp only at hspot;subst hspot
     have hlenk:∀ x,x∈l.map f→x.cells.length=k:=by
      intro x hx;obtain⟨y,_,rfl⟩:=List.mem_map.1 hx;exact hlen y
     have hcell:∀ (j:Nat) c,(flat (l.map f))[j]? = some c→∃ u,w.cell? ⟨b,off+j,none⟩=some u∧R (memOf w) c u:=by
      intro j c hc
      have hjl:j<l.length * k:=by
       have:=(List.getElem?_eq_some_iff.1 hc).1;rw[jn hlenk]at this
       simpa using this
      have hik:j / k<l.length:=Nat.div_lt_of_lt_mul (by rw[Nat.mul_comm];exact hjl);have hy:l[j / k]? = some (l[j / k]'hik):=A0 _
      have hfy:(l.map f)[j / k]? = some (f (l[j / k]'hik)):=by rw[A7,hy];rfl
      have hmod:j % k<k:=Nat.mod_lt _ hk0;have hfl:=Xf hlenk hfy (j % k) hmod
      have hdm:j / k * k+j % k=j:=by rw[Nat.mul_comm];exact Nat.div_add_mod j k
      rw[hdm,hc]at hfl;obtain⟨_,cs,hcs,hcr⟩:=hl _ _ hy;obtain⟨c1,c2⟩:=Ho hcs;have hcell:=c2 (j % k) hmod;have hv:cs[j % k]? = some (cs[j % k]'(by omega)):=A0 _;rw[hv,qeS (a:=⟨b,off,none⟩) rfl,qeS rfl]at hcell;refine⟨_,?_,hcr.2 _ _ _ hfl.symm hv⟩
      simpa[Nat.add_assoc,hdm] using hcell
     rw[← hll];have hmap:(l.map f).length=l.length:=List.length_map _;unfold encL;rw[← hmap];refine .lst (fun j=>(w.cell? ⟨b,off+j,none⟩).getD undef) (by rw[hmap];omega) hlenk ?_ ?_ ?_
     ·intro x hx;obtain⟨y,_,rfl⟩:=List.mem_map.1 hx;exact hone y
     ·intro j c hc;obtain⟨u,hu,hr⟩:=hcell j c hc;rw[hu];refine Vo hu (QE (hr.one (YF (fun x hx=>?_) hc)));obtain⟨y,_,rfl⟩:=List.mem_map.1 hx;exact hone y
     ·intro j c hc;obtain⟨u,hu,hr⟩:=hcell j c hc;rw[hu];exact hr
   ·cases h
theorem qbh {α:Type} {f:α→AV} {ok:α→Prop} {t e k:Nat} (ht:P.underlying t=some (.slice e)) (hk:P.cellsOf e=k) (hk0:0<k) (he:Reads P e f ok) (hlen:∀ x,(f x).cells.length=k) (hone:∀ x,(f x).cells.all AV.one=true) :
  Reads P t (encL e k f) (fun l=>l.length≤maxLen∧∀ x,x∈l→ok x) :=
 ReadsN.all fun N=>(qaq ht hk hk0 (he.toN N) hlen hone).mono (Nat.le_succ N)
def ZH (N:Nat) (P:Program):List Field→Nat→Nat→{α:Type}→(α→List AV)→(α→Prop)→Prop:=fun fs off size α f ok =>
 ∀ (H:Type) (enc:TypeId×Value→H) (w:World) (fuel:Nat) (cs:List Value),fuel≤N→cs.length=size →
  (∀ g,g∈fs→∃ x,DataW.trod enc P w 0 (fun _=>true) true fuel g.type ((cs.drop g.offset).take (P.cellsOf g.type))=some x) →
  ∃ a,ok a∧CellsR (memOf w) (f a) (cs.drop off)
abbrev FieldsR (P:Program) (fs:List Field) (off size:Nat) {α:Type} (f:α→List AV) (ok:α→Prop):Prop:=∀ N,ZH N P fs off size f ok
theorem qaC {N off size:Nat} (h:size=off):ZH N P [] off size (fun _:Unit=>[]) (fun _=>True):=by
 intro H enc w fuel cs _ hl _;refine⟨(),trivial,?_⟩;rw[List.drop_of_length_le (by omega)];exact⟨rfl,fun j c v hc=>by simp at hc⟩
theorem HF {N:Nat} {fd:Field} {fs:List Field} {off off' size n:Nat} {α β:Type} {f:α→AV} {ok:α→Prop} {g:β→List AV} {ok':β→Prop} (ho:fd.offset=off) (hs:P.cellsOf fd.type=n) (hn:off+n=off') (he:ReadsN N P fd.type f ok) (hr:ZH N P fs off' size g ok') :
  ZH N P (fd::fs) off size (fun x:α×β=>(f x.1).cells++g x.2) (fun x=>ok x.1∧ok' x.2):=by
 intro H enc w fuel cs hN hl h;obtain⟨x,hx⟩:=h fd (by simp);obtain⟨a,h1,h2⟩:=he H enc w fuel _ _ hN hx;obtain⟨b,h3,h4⟩:=hr H enc w fuel cs hN hl (fun g hg=>h g (by simp[hg]));refine⟨(a,b),⟨h1,h3⟩,?_⟩;rw[ho,hs]at h2;have:=h2.append h4;rw[← hn]at this
 have e:(cs.drop off).take n++cs.drop (off+n)=cs.drop off:=by
  rw[← List.drop_drop,List.take_append_drop]
 rw[e]at this;exact this
theorem qbI {off size:Nat} (h:size=off):FieldsR P [] off size (fun _:Unit=>[]) (fun _=>True):=fun N=>qaC h
theorem Zb {fd:Field} {fs:List Field} {off off' size n:Nat} {α β:Type} {f:α→AV} {ok:α→Prop} {g:β→List AV} {ok':β→Prop} (ho:fd.offset=off) (hs:P.cellsOf fd.type=n) (hn:off+n=off') (he:Reads P fd.type f ok) (hr:FieldsR P fs off' size g ok') :
  FieldsR P (fd::fs) off size (fun x:α×β=>(f x.1).cells++g x.2) (fun x=>ok x.1∧ok' x.2):=fun N=>HF ho hs hn (he.toN N) (hr N)
theorem Hy {N t size:Nat} {fs:Array Field} {α β:Type} {g:β→List AV} {ok':β→Prop} (mk:β→α) {f:α→AV} {ok:α→Prop} (ht:P.underlying t=some (.struct fs)) (hs:P.cellsOf t=size) (hf:ZH N P fs.toList 0 size g ok') (hcells:∀ b,(f (mk b)).cells=g b) (hok:∀ b,ok' b→ok (mk b)):ReadsN (N+1) P t f ok:=by
 intro H enc w fuel cs x hN h
 cases fuel with
 | zero=>cases h
 | succ fuel =>
  unfold DataW.trod at h;rw[ht]at h
  have key:cs.length=size∧∃ xs,fs.toList.mapM (fun fd=>DataW.trod enc P w 0 (fun _=>true) true fuel fd.type ((cs.drop fd.offset).take (P.cellsOf fd.type)))=some xs:=by
   simp only at h;split at h
   ·rename_i hl;rw[hs]at hl;rw[Option.map_eq_some_iff]at h;obtain⟨xs,h1,_⟩:=h;exact⟨hl,xs,h1⟩
   ·cases h
  obtain⟨hl,xs,hm⟩:=key
  obtain⟨b,h1,h2⟩:=hf H enc w fuel cs (B7 hN) hl (fun fd hfd=>by
   obtain⟨i,hi⟩:=List.mem_iff_getElem?.1 hfd;have h3:=mapM_some_get hm i fd hi;have hlen:=mapM_some_length hm
   have hix:i<xs.length:=by rw[hlen];exact (List.getElem?_eq_some_iff.1 hi).1
   exact⟨xs[i],h3.trans (A0 hix)⟩)
  refine⟨mk b,hok b h1,?_⟩;rw[hcells]
  simpa using h2
theorem qap {t size:Nat} {fs:Array Field} {α β:Type} {g:β→List AV} {ok':β→Prop} (mk:β→α) {f:α→AV} {ok:α→Prop} (ht:P.underlying t=some (.struct fs)) (hs:P.cellsOf t=size) (hf:FieldsR P fs.toList 0 size g ok') (hcells:∀ b,(f (mk b)).cells=g b) (hok:∀ b,ok' b→ok (mk b)):Reads P t f ok :=
 ReadsN.all fun N=>(Hy mk ht hs (hf N) hcells hok).mono (Nat.le_succ N)
theorem Reads.arg {α:Type} {f:α→AV} {ok:α→Prop} {t:TypeId} (h:Reads P t f ok) {H:Type} {enc:TypeId×Value→H} {w:World} {v:Value} {d:DataW H} {ps:List MemPlace} (ht:DataW.Trod enc P w 0 (fun _=>true) true t v d ps) (hv:(f · |>.cells)=(fun x=>[f x]):=by rfl) (hone:v.cells.toList=[v]):∃ a,ok a∧R (memOf w) (f a) v:=by
 obtain⟨fuel,hf⟩:=ht;obtain⟨a,h1,h2⟩:=h H enc w fuel _ _ hf;refine⟨a,h1,?_⟩;have e:(f a).cells=[f a]:=congrFun hv a
 have h3:CellsR (memOf w) [f a] [v]:=by
  rw[← e];rw[hone]at h2;exact h2
 exact h3.2 0 _ _ rfl rfl
end
end Go.AM
namespace Go.AM
open Go.RowKit Go.ChangeShapes
theorem Va {H:Type} {enc:TypeId×Value→H} {P:Program} (hl:laidOutB P=true) {W W':World} {sp:Nat→Bool}:∀ {ts:List TypeId} {vs:List Value} {ds:List (DataW H)} {ps:List MemPlace},
  (∀ t,t∈ts→P.readableRec t=true∧t<P.types.size)→DataW.TrodAll enc P W 0 (fun _=>true) true ts vs ds ps→(∀ p,p∈ps→W.sameAt W' p)→(∀ p,p∈ps→sp p.block=true)→DataW.TrodAll enc P W' 0 sp true ts vs ds ps
 | [],vs,ds,ps,_,h,_,_=>by
  obtain⟨rfl,rfl,rfl⟩:=trodAll_nil h;exact trodAll_mk0
 | t::ts,vs,ds,ps,ht,h,hs,hp=>by
  obtain⟨v,vs',d,ds',p,q,rfl,rfl,rfl,h1,h2⟩:=trodAll_cons h;obtain⟨r1,r2⟩:=ht t (by simp);exact trodAll_cons_mk (WideElems.Trod_stays hl r1 r2 h1 (fun x hx=>hs x (by simp[hx])) (fun x hx=>hp x (by simp[hx])))
   (Va hl (fun t h=>ht t (by simp[h])) h2 (fun x hx=>hs x (by simp[hx])) (fun x hx=>hp x (by simp[hx])))
def ArgsR (M:Mem) (avs:List AV) (vs:List Value):Prop:=avs.length=vs.length∧∀ (j:Nat) c v,avs[j]? = some c→vs[j]? = some v→R M c v
theorem ArgsR.nil {M:Mem}:ArgsR M [] []:=⟨rfl,fun j c v h=>by simp at h⟩
theorem ArgsR.cons {M:Mem} {x:AV} {v:Value} {xs:List AV} {vs:List Value} (h:R M x v) (hs:ArgsR M xs vs):ArgsR M (x::xs) (v::vs):=by
 refine⟨by simp[hs.1],fun j c u hc hu=>?_⟩
 cases j with
 | zero=>simp at hc hu;subst hc;subst hu;exact h
 | succ j=>exact hs.2 j c u (by simpa using hc) (by simpa using hu)
def Hp (P:Program) (t:TypeId):Bool:=match P.underlying t with
 | some (.int _) | some .bool | some .string | some (.slice _)=>true
 | _=>false
theorem qdA {P:Program} {W:World} {base:Nat} {t:TypeId} {v:Value} (ht:Hp P t=true) (h:Value.okWide P W .any base t v):v.cells.toList=[v]:=by
 cases v with
 | agg cs =>
  unfold Hp at ht;split at ht <;> (rename_i e;simp[Value.okWide,e,Cell.okWide,Cell.ok]at h) <;> cases ht
 | _=>rfl
def rowType (P:Program) (t:TypeId):Bool:=match P.underlying t with
 | some (.struct _) | some (.array _ _)=>true
 | _=>false
theorem qdm {P:Program} {W:World} {base:Nat} {t:TypeId} {v:Value} (ht:rowType P t=true) (h:Value.okWide P W .any base t v):∃ cs,v=.agg cs:=by
 unfold rowType at ht;split at ht
 ·rename_i e;simp only[Value.okWide,e]at h;obtain⟨cs,h1,_⟩:=h;exact⟨cs,h1⟩
 ·rename_i e;simp only[Value.okWide,e]at h;obtain⟨cs,h1,_⟩:=h;exact⟨cs,h1⟩
 ·cases ht
theorem qav {H:Type} {enc:TypeId×Value→H} {P:Program} {f:Nat} {fn:Func} {s:ChangeSpec} {tb:TypeId} (hmix:P.follows .mixedOrders=true) (hl:laidOutB P=true) (hb:P.underlying tb=some .bool) (hres:fn.resultTypes=#[tb])
  (hts:∀ t,t∈fn.params.toList→P.readableRec t=true∧t<P.types.size) (hv:s.vars=[])
  (hs:∀ ds:List (DataW H),ds.length=fn.params.toList.length→s.fn H (ds++[])={ results:=[.lit (.bool true)],args:=ds })
  (hrun:∀ (W:World) (vs:List Value) (ds:List (DataW H)) (ps:List MemPlace),(∀ (j:Nat) t v,fn.params.toList[j]? = some t→vs[j]? = some v→Hp P t=true→v.cells.toList=[v])→(∀ (j:Nat) t v,fn.params.toList[j]? = some t→vs[j]? = some v→rowType P t=true→∃ cs,v=.agg cs)→DataW.TrodAll enc P W 0 (fun _=>true) true fn.params.toList vs ds ps→∃ avs,ArgsR (memOf W) avs vs∧Run P (.call f avs (.bool true)))
  (W:World) (hgl:GlobW W) (base:Nat) (args:Array Value) (ds gs:List (DataW H)) (before:List MemPlace) (hval:∀ (j:Nat) t v,fn.params[j]? = some t→args[j]? = some v→Value.okWide P W .any base t v) (hW:DataW.Whole enc P fn.params.toList s.vars false W args.toList ds gs before) :
  Calls P f args W fun e W'=>∃ v,e=.returned v∧s.post enc P fn false true false false W args v W':=by
 have hW':=hW;obtain⟨p,q,hA,hV,rfl,hfz,hnd⟩:=hW;rw[hv]at hV;obtain⟨rfl,rfl⟩:=trodVars_none hV;obtain⟨avs,⟨h1,h2⟩,hr⟩:=hrun W args.toList ds p (fun j t v h1 h2 hc=>qdA hc (hval j t v (by simpa using h1) (by simpa using h2))) (fun j t v h1 h2 hc=>qdm hc (hval j t v (by simpa using h1) (by simpa using h2))) hA
 have hlen:ds.length=fn.params.toList.length:=by
  have:∀ {ts:List TypeId} {vs:List Value} {ds:List (DataW H)} {ps:List MemPlace},DataW.TrodAll enc P W 0 (fun _=>true) true ts vs ds ps→ds.length=ts.length:=by
   intro ts
   induction ts with
   | nil=>intro vs ds ps h;obtain⟨_,rfl,_⟩:=trodAll_nil h;rfl
   | cons t ts ih =>
    intro vs ds ps h;obtain⟨v,vs',d,ds',p,q,rfl,rfl,rfl,_,h2⟩:=trodAll_cons h;simp[ih h2]
  exact this hA
 have hc:=ZJ hmix hr (memOf W) W args.toList (fun g hg=>(hgl g hg).imp fun m hm=>Vo hm rfl) (qcv W) h1 h2;have hc':Calls P f args W _:=hc
 refine hc'.mono fun e W' hh=>?_
 obtain⟨v,M',he,hB,_,_,_,hR,_⟩:=hh;cases hR;subst he;have hfn:=hs ds hlen;refine⟨_,rfl,ds,[],p++[],[],p,[],hW',?_,?_,?_,?_,fun h=>by cases h⟩
 ·rw[hfn,hres];exact trodAll_mk1 (shut_bool hb _)
 ·rw[hfn];exact Va hl hts hA (fun x hx=>hB.same (hW'.lt x (by simp[hx]))) (fun x hx=>by simpa using hW'.lt x (by simp[hx]))
 ·rw[hv,hfn];rfl
 ·exact World.keptBut_mono (fun x hx=>⟨hx,Or.inr (Or.inl (by simpa using hx))⟩) (hB.frame (·∈p++[]))
end Go.AM
namespace Go.AM
open Go.RowKit Go.Sort Go.Proofs
theorem Vt (zs:List Int) (k:IntKind):flat (zs.map (AV.int k))=zs.map (AV.int k):=by
 unfold flat;rw[List.flatMap_map];simp only[AV.cells];exact List.map_eq_flatMap.symm
theorem qdn {O:Gh} {M:Mem} {w:World} {e e':Nat} {k:IntKind} {zs:List Int} {v:Value} (hne:zs≠[]) (ho:Sat O M w 2000000 (.obj e 1 (zs.map (AV.int k))) undef) (hv:ValOk O M w (.sb 2000000 e' 1 0 zs.length) v) :
  ∃ g cap cur,v=.slice (some ⟨g,0,none⟩) zs.length cap∧O true 2000000=some g∧RowAt w g cur e∧zs.length≤cap∧cap≤maxLen∧cur.size=O.siz 2000000∧zs.length≤cur.size∧(∀ o,M g o=none)∧Holds (Value.int k) w g 0 zs.toArray:=by
 obtain⟨k0,k1,k2,k3⟩:=ho;obtain⟨q1,q2⟩:=hv;have hpos:0<zs.length:=List.length_pos_iff.2 hne
 rcases q2 with ⟨h0,_⟩ | ⟨g,cap,rfl,p1,p2,p3,p4⟩
 ·omega
 rcases k3 with ⟨h0,_⟩ | ⟨g',cur,r1,r2,r3,r4,r5,r6⟩
 ·exact absurd (List.map_eq_nil_iff.1 h0) hne
 have hgg:g'=g:=by rw[p1]at r1;exact (Option.some.inj r1).symm
 subst hgg;rw[Vt]at r6
 have r4':zs.length≤cur.size:=by simpa using r4
 refine⟨g',cap,cur,rfl,p1,r2,p3,by omega,r3,r4',r5,fun j hj=>?_⟩
 have hj:j<zs.length:=by simpa using hj
 have hjc:j<cur.size:=by omega
 have h1:=r6 j (.int k zs[j]) cur[j] (by simp[hj]) (by simp[hjc]);have h2:cur[j]=Value.int k zs[j]:=h1.int_inv;obtain⟨el,fz,hb,hfz⟩:=r2;constructor
 ·simp only[World.cell?,hb,Nat.zero_add,Option.isSome_none,A3,if_false];rw[A4 hjc,h2];simp[hj]
 ·simp only[World.frozen?,hb,Nat.zero_add,Bool.and_eq_false_iff,decide_eq_false_iff_not]
  rcases hfz with ⟨_,rfl⟩ | ⟨_,hf⟩
  ·exact .inr (by simp)
  ·exact .inl (by omega)
theorem qck {O:Gh} {M:Mem} {w w':World} {e g n:Nat} {k:IntKind} {zs ys:List Int} {os:Array Obj} {cur:Array Value} (hlen:ys.length=zs.length) (hne:zs≠[]) (ho:Sat O M w 2000000 (.obj e 1 (zs.map (AV.int k))) undef)
  (hC:Cons M w) (hO:∀ i c g,O i c=some g→i=true∧g<w.heap.size) (hOi:∀ c c' g,O true c=some g→O true c'=some g→c=c') (hg:O true 2000000=some g)
  (hw:w'=grow (Go.Sort.putRow (Value.int k) (Sort.ahead w n) g 0 ys.toArray) os) :
  BelowD (fun k=>k<w.heap.size∧∀ c,O true c≠some k) w w'∧Cons M w'∧(∀ i c g,O i c=some g→g<w'.heap.size∧(w.heap.size≤g∨∃ c',O true c'=some g))∧(∀ i i' c c' g,O i c=some g→O i' c'=some g→i=i'∧c=c') ∧
   Sat O M w' 2000000 (.obj e 1 (ys.map (AV.int k))) undef:=by
 obtain⟨k0,k1,k2,k3⟩:=ho
 rcases k3 with ⟨h0,_⟩ | ⟨g',cur,r1,r2,r3,r4,r5,r6⟩
 ·exact absurd (List.map_eq_nil_iff.1 h0) hne
 have hgg:g'=g:=by rw[hg]at r1;exact (Option.some.inj r1).symm
 subst hgg;have hgs:g'<w.heap.size:=(hO _ _ _ hg).2;obtain⟨el,fz,hb,hfz⟩:=r2
 have hb':w'.heap[g']? = some (.cells (putCells (Value.int k) 0 ys.toArray cur) el fz):=by
  subst hw;rw[heap_grow_old _ _ (by simpa using hgs)];simp[Go.Sort.putRow,mapBlock,Sort.ahead,B9,hb,onCells]
 have hbk:∀ q,q<w.heap.size→q≠g'→w'.heap[q]? = w.heap[q]?:=by
  intro q hq hne2;subst hw;rw[heap_grow_old _ _ (by simpa using hq)]
  have:g'≠q:=fun e=>hne2 e.symm
  simp[Go.Sort.putRow,mapBlock,Sort.ahead,B9,this]
 have hsz:w.heap.size≤w'.heap.size:=by subst hw;simp[grow]
 have hps:(putCells (Value.int k) 0 ys.toArray cur).size=cur.size:=by simp[putCells]
 refine⟨⟨by subst hw;rfl,by subst hw;rfl,by subst hw;rfl,hsz,fun q hq=>hbk q hq.1 fun e1=>hq.2 2000000 (by rw[e1];exact hg)⟩,?_,fun i c g hh=>?_,fun i i' c c' g hh hh'=>?_,?_⟩
 ·intro b o u hu;have h1:=hC b o u hu;have hb2:=Zh h1
  have hne2:b≠g':=fun e1=>by rw[e1,r5]at hu;cases hu
  rw[Qm (hbk b hb2 hne2)];exact h1
 ·obtain⟨rfl,h2⟩:=hO i c g hh;exact⟨Nat.lt_of_lt_of_le h2 hsz,.inr ⟨c,hh⟩⟩
 ·obtain⟨rfl,_⟩:=hO i c g hh;obtain⟨rfl,_⟩:=hO i' c' g hh';exact⟨rfl,hOi c c' g hh hh'⟩
 ·refine⟨k0,fun y hy=>?_,by simpa[hlen] using k2,.inr ⟨g',_,hg,⟨el,fz,hb',?_⟩,by rw[hps];exact r3,by rw[hps];simpa[hlen] using r4,r5,fun j c u hc hu=>?_⟩⟩
  ·obtain⟨z,_,rfl⟩:=List.mem_map.1 hy;exact⟨rfl,rfl⟩
  ·rcases hfz with hf | ⟨h1,h2⟩
   ·exact .inl hf
   ·exact .inr ⟨h1,by rw[hps];exact h2⟩
  ·rw[Vt]at hc;have hj:=(List.getElem?_eq_some_iff.1 hc).1;rw[List.length_map]at hj
   have hjc:j<cur.size:=by
    have:zs.length≤cur.size:=by simpa using r4
    omega
   rw[A7,A0 hj]at hc;cases hc
   have:(putCells (Value.int k) 0 ys.toArray cur)[j]? = some (Value.int k ys[j]):=by
    simp[putCells,hjc,hj]
   rw[this]at hu;cases hu;exact .int _ _
end Go.AM
namespace Go.Proofs
open Go.Shelf
def Try.lDel_ren:Go.Shelf.Ren:=⟨fun | 45=>91 | n=>n,fun | 22=>24 | 23=>3 | 3=>3 | 4=>4 | 0=>0 | n=>n,fun | n=>n⟩
theorem Try.lDel:Go.Proofs.SlLaysE.n45 Try.prog Try.lDel_ren:={
 mixed:=by kernel_rfl
 f45:=⟨Try.f91.name,by decide,Try.func91.trans (congrArg some (by kernel_rfl))⟩
 t0:=Try.underlying0
 a0:=Try.isAgg0
 z0:=Try.sizeOf0
 v0:=Try.zeroValue0
 t3:=Try.underlying3
 a3:=Try.isAgg3
 z3:=Try.sizeOf3
 v3:=Try.zeroValue3
 t4:=Try.underlying4
 a4:=Try.isAgg4
 z4:=Try.sizeOf4
 v4:=Try.zeroValue4
 t22:=Try.underlying24
 a22:=Try.isAgg24
 z22:=Try.sizeOf24
 v22:=Try.zeroValue24
 a23:=Try.isAgg3
 z23:=Try.sizeOf3 }
end Go.Proofs
namespace Go.AM
open Go.RowKit Go.Sort Go.Proofs Go.Lib
theorem delInfo:∃ i0,Try.prog.info? 3=some i0∧i0.size=1:=by
 have h:(Try.prog.info? 3).map (·.size)=some 1:=by kernel_rfl
 cases hi:Try.prog.info? 3 with
 | none=>rw[hi]at h;cases h
 | some i0=>rw[hi]at h;exact⟨i0,rfl,Option.some.inj h⟩
theorem delete1 {a1:List Int} {i:Nat} (hi:i<a1.length) (hl:a1.length≤4611686018427387904) :
  CallMOk Try.prog 91 [.sb 2000000 3 1 0 a1.length,.int .i64 (i:Nat),.int .i64 ((i:Nat)+1)] [(2000000,.obj 3 1 (a1.map (AV.int .i64)))] (.sb 2000000 3 1 0 (a1.length - 1)) [(2000000,.obj 3 1 ((a1.take i++a1.drop (i+1)++[0]).map (AV.int .i64)))]:=by
 intro M O w vs hG hC hlen hO hOi hR hH
 have h0:a1≠[]:=fun e=>by rw[e]at hi;cases hi
 obtain⟨v,v1,v2,rfl⟩:∃ v v1 v2,vs=[v,v1,v2]:=by
  match vs,hlen with
  | [v,v1,v2],_=>exact⟨v,v1,v2,rfl⟩
 have hv:=hR 0 _ v rfl rfl;obtain rfl:v1=.int .i64 (i:Nat):=(hR 1 _ v1 rfl rfl).1.int_inv;obtain rfl:v2=.int .i64 ((i:Nat)+1):=(hR 2 _ v2 rfl rfl).1.int_inv;have ho:=hH 2000000 (.obj 3 1 (a1.map (AV.int .i64))) rfl;obtain⟨g,cap,cur,rfl,p1,p2,p3,p4,p5,p6,p7,p8⟩:=qdn h0 ho hv
 have hsz:a1.toArray.size=a1.length:=by simp
 obtain⟨i0,hi0,hz1⟩:=delInfo;have hcon:=AnyE.slices_Delete Try.lDel (Value.int .i64) (fun _=>rfl) (0:Int) Try.zeroValue3 i0 hi0 hz1 g 0 cap i (i+1) a1.toArray w p8 (by rw[hsz];omega) (by unfold maxLen at p4;omega) (by omega) (by rw[hsz];omega);change Calls Try.prog 91 _ _ _ at hcon;rw[hsz]at hcon
 have e1:((i+1:Nat):Int)=(i:Int)+1:=by omega
 rw[e1]at hcon;refine hcon.mono ?_
 rintro ed w' ⟨rfl,q,hw⟩
 have e2:i+1 - i=1:=by omega
 rw[e2]at hw ⊢
 have hys:(a1.take i++a1.drop (i+1)++[0]).length=a1.length:=by
  simp;omega
 obtain⟨b1,b2,b3,b4,b5⟩:=qck (cur:=cur) hys h0 ho hC hO hOi p1 (n:=q) (os:=#[]) (w':=w') (by rw[grow_empty];exact hw);refine⟨_,M,O,rfl,b1,Sub.refl M,b2,fun _ _ _ _=>rfl,b3,b4,fun c _ _=>Gh.Eq1.refl O c,?_,fun id x hx=>?_⟩
 ·obtain⟨q1,q2⟩:=hv;refine⟨by omega,?_⟩
  rcases q2 with ⟨h1,_⟩ | ⟨g',cap',hvv,s1,s2,s3,s4⟩
  ·exact absurd (List.length_eq_zero_iff.1 h1) h0
  ·cases hvv;exact .inr ⟨g,cap,rfl,p1,s2,by show a1.length - 1≤cap;omega,s4⟩
 ·simp only[look]at hx;split at hx
  ·rename_i hb;cases hx;obtain rfl:=(C0 hb).symm;exact b5
  ·cases hx
end Go.AM
namespace Go.AM
open Go.RowKit
open Go.ChangeMaps (setBlock)
open Go.MapKept (heap_set)
section
variable {bs:Base} {n:Nat} {M:Mem} {O:Gh} {env:Env} {a:Act} {w:World} {P:Program}
theorem qaY (ty:TypeId) {g bm since c0:Nat} {seen:Array Nat} {es:Array MapEntry} {clock:Nat} (hg:w.heap[g]? = some (.mapIter (some bm) since seen c0)) (hb:w.heap[bm]? = some (.map es clock)) (hold:∀ x∈es.toList,x.born<since) (hsc:since≤c0) :
  ((leftOf es seen).size=0∧(Instr.next (.pointer (some ⟨g,0,none⟩)) false ty).run P w=.ok (.tuple #[.bool false]) w) ∨
  ∃ (j:Nat) (hj:j<(leftOf es seen).size) (w1:World),(w1=w∨w1=w.drew)∧(Instr.next (.pointer (some ⟨g,0,none⟩)) false ty).run P w=.ok (.tuple #[.bool true,(leftOf es seen)[j].key,(leftOf es seen)[j].val]) (setBlock w1 g (.mapIter (some bm) since (seen.push (leftOf es seen)[j].born) clock)):=by
 simp only[Instr.next,getObj,Sem.run_bind,A1,hg,hb,A8,next_test_false seen es since c0 hold hsc,A3,if_false];unfold leftOf
 have hmem:∀ x∈(Array.filter (fun e=>!seen.contains e.born) es).toList,x.born<since:=fun x hx=>hold x (by simp at hx ⊢;exact hx.1)
 generalize Array.filter (fun e=>!seen.contains e.born) es=L at hmem ⊢;have e1:L.filter (fun x=>decide (x.born<since))=L:=Array.filter_eq_self.2 (fun x hx=>by simpa using hmem x (by simpa using hx))
 have e2:L.filter (fun x=>decide (x.born ≥ since))=#[]:=by
  rw[Array.filter_eq_empty_iff];intro x hx;have:=hmem x (by simpa using hx);simp;omega
 simp only[e1,e2,Array.append_empty];by_cases h0:L.size=0
 ·left;have:L=#[]:=Array.eq_empty_of_size_eq_zero h0;subst this;refine⟨rfl,?_⟩;simp[choose,A1,Question.forced]
 ·right
  have hne:L.isEmpty=false:=by simp[Array.isEmpty,h0]
  simp only[hne,A3,if_false,Array.empty_append,Array.size_map]
  have hch:∃ (j:Nat) (w1:World),j<L.size∧(w1=w∨w1=w.drew)∧(choose (Question.mapNext L.size)).run P w=.ok j w1:=by
   by_cases hf:L.size≤1
   ·exact⟨0,w,by omega,.inl rfl,by simp[choose,A1,Question.forced,hf]⟩
   ·exact⟨_,w.drew,Nat.mod_lt _ (by omega),.inr rfl,by
     simp only[choose,A1,Question.forced,decide_eq_true_eq,hf,if_false,Question.cut]
     rfl⟩
  obtain⟨j,w1,hj,hw1,hrun⟩:=hch;refine⟨j,hj,w1,hw1,?_⟩
  have hg1:w1.heap[g]? = some (.mapIter (some bm) since seen c0):=by
   rcases hw1 with rfl | rfl
   ·exact hg
   ·exact hg
  have hset:∀ o':Obj,(setObj g o').run P w1=.ok () (setBlock w1 g o'):=fun o'=>by
   simp only[setObj,A1,hg1];rfl
  simp only[hrun,Array.getElem?_map,A4 hj,Option.map_some,Sem.run_bind,hset,A8];rfl
theorem VT {α:Type} (f:α→Nat):∀ (l:List α) (j:Nat) (hj:j<l.length),(l.map f).Nodup→l.filter (fun x=>f x != f l[j])=l.eraseIdx j
 | [],j,hj,_=>by simp at hj
 | x::l,0,hj,hn=>by
  have hn':=List.nodup_cons.1 hn;rw[List.filter_cons];simp only[List.getElem_cons_zero,bne_self_eq_false,A3,if_false,List.eraseIdx_cons_zero];rw[List.filter_eq_self];intro y hy;simp only[bne_iff_ne,ne_eq]
  exact fun e=>hn'.1 (by rw[← e];exact List.mem_map.2 ⟨y,hy,rfl⟩)
 | x::l,j+1,hj,hn=>by
  have hn':=List.nodup_cons.1 hn
  have hj':j<l.length:=by simpa using hj
  rw[List.filter_cons];simp only[List.getElem_cons_succ,List.eraseIdx_cons_succ]
  have:(f x != f l[j])=true:=by
   simp only[bne_iff_ne,ne_eq]
   exact fun e=>hn'.1 (by rw[e];exact List.mem_map.2 ⟨l[j],List.getElem_mem hj',rfl⟩)
  rw[if_pos this,VT f l j hj' hn'.2]
theorem UP {es:Array MapEntry} {seen:Array Nat} (hn:(es.toList.map (·.born)).Nodup) {j:Nat} (hj:j<(leftOf es seen).size):(leftOf es (seen.push (leftOf es seen)[j].born)).toList=(leftOf es seen).toList.eraseIdx j:=by
 have hnl:((leftOf es seen).toList.map (·.born)).Nodup:=by
  unfold leftOf;rw[A9];exact hn.sublist (List.filter_sublist.map _)
 have h:=VT (fun e:MapEntry=>e.born) (leftOf es seen).toList j (by simpa using hj) hnl;rw[← h]
 have hb:(leftOf es seen).toList[j]'(by simpa using hj)=(leftOf es seen)[j]:=by simp
 rw[hb];generalize (leftOf es seen)[j].born=b;unfold leftOf;rw[A9,A9,List.filter_filter]
 refine List.filter_congr fun x _=>?_
 simp only[Array.contains_push,Bool.not_or];rw[Bool.and_comm];rfl
theorem LeftOk0.erase {es:Array MapEntry} {seen:Array Nat} {ks vs:List AV} (h:LeftOk0 M es seen ks vs) (hn:(es.toList.map (·.born)).Nodup) {j:Nat} (hj:j<(leftOf es seen).size):LeftOk0 M es (seen.push (leftOf es seen)[j].born) (ks.eraseIdx j) (vs.eraseIdx j):=by
 obtain⟨h1,h2,h3,h4⟩:=h;have hl:=UP hn hj
 have hsz:(leftOf es (seen.push (leftOf es seen)[j].born)).size=(leftOf es seen).size - 1:=by
  rw[← C2,hl,B0,if_pos (by simpa using hj),C2]
 have hat:∀ i e,(leftOf es (seen.push (leftOf es seen)[j].born))[i]? = some e→(leftOf es seen)[if i<j then i else i+1]? = some e:=by
  intro i e he;rw[← C4,hl,B5]at he;rw[← C4];split at he
  ·rename_i hij;rw[if_pos hij];exact he
  ·rename_i hij;rw[if_neg hij];exact he
 refine⟨by rw[B0,if_pos (by omega),hsz,h1],by rw[B0,if_pos (by omega),hsz,h2],fun i k e hk he=>?_,fun i v e hv he=>?_⟩
 ·rw[B5]at hk;refine h3 (if i<j then i else i+1) k e ?_ (hat i e he);split at hk
  ·rename_i hij;rw[if_pos hij];exact hk
  ·rename_i hij;rw[if_neg hij];exact hk
 ·rw[B5]at hv;refine h4 (if i<j then i else i+1) v e ?_ (hat i e he);split at hv
  ·rename_i hij;rw[if_pos hij];exact hv
  ·rename_i hij;rw[if_neg hij];exact hv
def leftE:AV→Option (List AV×List AV)
 | .hob 1 ks vs=>some (ks,vs)
 | .hob 2 (_::ks) (_::vs)=>some (ks,vs)
 | _=>none
def nextEnt (ks vs:List AV) (j:Nat):AV:=.hob 2 (ks.getD j .und::ks.eraseIdx j) (vs.getD j .und::vs.eraseIdx j)
theorem qct (h:Inv bs n M O env a w) {o:Oper} {x:Operand} (ho:o.op=.next x false) {id:Nat} {y:AV} {ks vs:List AV} (hx:aop env x=some (.mb 1 id)) (hl:look env id=some y) (hy:leftE y=some (ks,vs))
  {envF:Env} (hF:eput n o.dst (.tup [.bool false]) env=some envF) {envT:Nat→Env} (hT:∀ j,j<ks.length→eput n o.dst (.tup [.bool true,.top,.top]) (ins id (nextEnt ks vs j) env)=some (envT j)) :
  (ks=[]∧vs=[]∧Leads P bs n o a w envF)∨∃ j,j<ks.length∧ks.length=vs.length∧Leads P bs n o a w (envT j):=by
 obtain⟨g,g1,g2⟩:=qn h hx;have hs:=h.slots id _ hl
 have hex:execOp a.eval o=vS (Instr.next (a.eval x) false o.type):=by unfold execOp;rw[ho];rfl
 have hfalse:R M (.tup [.bool false]) (.tuple #[.bool false]):=R.tup (vs:=[.bool false]) rfl fun j c v hc hv=>by
  match j,hc,hv with
  | 0,hc,hv=>cases hc;cases hv;exact .bool _
 have htrue:∀ k v:Value,R M (.tup [.bool true,.top,.top]) (.tuple #[.bool true,k,v]):=fun k v=>R.tup (vs:=[.bool true,k,v]) rfl fun j c u hc hu=>by
  match j,hc,hu with
  | 0,hc,hu=>cases hc;cases hu;exact .bool _
  | 1,hc,hu=>cases hc;exact .top _
  | 2,hc,hu=>cases hc;exact .top _
 obtain⟨yk,hyk,key⟩:∃ kd,O true id=some g∧(∀ o,M g o=none)∧y.ent=true∧((∃ c s,w.heap[g]? = some (.mapIter none c s 0)∧ks=[]∧vs=[]) ∨
   ∃ (b:Nat) (es:Array MapEntry) (clock:Nat) (seen:Array Nat) (last:Nat),w.heap[g]? = some (.mapIter (some b) clock seen last)∧clock≤last∧M b 0=some (mapCell es clock)∧MapKept.Stamped es clock∧LeftOk M es seen ks vs)∧kd=():=by
  unfold leftE at hy;split at hy
  ·cases hy;obtain⟨g',k1,k2,k3⟩:=hs
   have:g'=g:=by rw[k1]at g1;exact Option.some.inj g1
   subst this;exact⟨(),k1,k2,rfl,k3,rfl⟩
  ·cases hy;obtain⟨g',k1,k2,b,es,clock,seen,e,k,v,ks',vs',q1,q2,q3,q4,q5,q6,q7,q8,q9⟩:=hs
   have:g'=g:=by rw[k1]at g1;exact Option.some.inj g1
   subst this;cases q1;cases q2;exact⟨(),k1,k2,rfl,.inr ⟨b,es,clock,_,clock,q3,Nat.le_refl _,q4,q5,q9⟩,rfl⟩
  ·cases hy
 obtain⟨k2,k3,key,_⟩:=key
 rcases key with ⟨c,s,q1,rfl,rfl⟩ | ⟨b,es,clock,seen,last,q1,q2,q3,q4,q5⟩
 ·left;refine⟨rfl,rfl,.tuple #[.bool false],w,M,O,.inl ?_,Xg h (x:=.tup [.bool false]) ⟨hfalse,trivial⟩ hF⟩;rw[hex,g2];refine Zg ?_;simp[Instr.next,getObj,A1,q1,A8]
 ·have hb:=qas (h.cons _ _ _ q3);obtain⟨hb1,hb2,hb3⟩:=q4
  rcases qaY (P:=P) o.type q1 hb hb1 q2 with ⟨r1,r2⟩ | ⟨j,hj,w1,hw1,r2⟩
  ·left;obtain⟨ks',vs',hp,l1,l2,_,_⟩:=q5;have hl:=hp.length;have hl2:=hp.1;refine⟨C5 (by omega),C5 (by omega),.tuple #[.bool false],w,M,O,.inl ?_,Xg h (x:=.tup [.bool false]) ⟨hfalse,trivial⟩ hF⟩;rw[hex,g2];exact Zg r2
  ·right;obtain⟨ks',vs',hp,l1,l2,l3,l4⟩:=q5
   have hjk:j<ks'.length:=by omega
   have hjv:j<vs'.length:=by omega
   obtain⟨i,hi,ei,ev,hpe⟩:=hp.take hjk;rw[A0 hjk]at ei;rw[A0 hjv]at ev;refine⟨i,hi,hp.1,?_⟩
   have hg1:w1.heap[g]? = some (.mapIter (some b) clock seen last):=by
    rcases hw1 with rfl | rfl
    ·exact q1
    ·exact q1
   have hgr:w.grownBy (setBlock w1 g (.mapIter (some b) clock (seen.push (leftOf es seen)[j].born) clock)) (some g):=by
    rcases hw1 with rfl | rfl
    ·exact Qx q1
    ·obtain⟨t1,t2,t3,t4,t5⟩:=Qx (o':=.mapIter (some b) clock (seen.push (leftOf es seen)[j].born) clock) hg1;exact⟨t1,t2,t3,t4,t5⟩
   have hkat:ks.getD i .und=ks'[j]:=by rw[C6,ei];rfl
   have hvat:vs.getD i .und=vs'[j]:=by rw[C6,ev];rfl
   have hent:Inv bs n M O (ins id (nextEnt ks vs i) env) a (setBlock w1 g (.mapIter (some b) clock (seen.push (leftOf es seen)[j].born) clock)):=by
    refine h.setEnt hl k3 rfl hyk hgr k2 ⟨g,hyk,k2,b,es,clock,seen,(leftOf es seen)[j],ks'[j],vs'[j],ks.eraseIdx i,vs.eraseIdx i,by rw[hkat],by rw[hvat],(heap_set hg1).1,q3,⟨hb1,hb2,hb3⟩,?_,?_,?_,⟨_,_,hpe,LeftOk0.erase ⟨l1,l2,l3,l4⟩ hb2 hj⟩⟩
    ·have hm:(leftOf es seen)[j]∈leftOf es seen:=Array.getElem_mem hj;unfold leftOf at hm;have:=(Array.mem_filter.1 hm).1;exact Array.mem_toList_iff.2 this
    ·exact l3 j _ _ (A0 hjk) (A4 hj)
    ·exact l4 j _ _ (A0 hjv) (A4 hj)
   refine⟨.tuple #[.bool true,(leftOf es seen)[j].key,(leftOf es seen)[j].val],_,M,O,.inl ?_,Xg hent (x:=.tup [.bool true,.top,.top]) ⟨htrue _ _,trivial⟩ (hT i hi)⟩;rw[hex,g2];exact Zg r2
def CodeP (P:Program) (n:Nat) (c:Code) (S:Ex→Env→Prop) (e:Env):Prop :=
 ∀ (bs:Base) (M:Mem) (O:Gh) (a:Act) (w:World),Inv bs n M O e a w→∀ (Q:Exit→Act→World→Prop),(∀ ex e' a' w' M' O',S ex e'→Inv bs n M' O' e' a' w'→Q (toExit ex) a' w')→c.wp P Q a w
theorem CodeP.of (hmix:P.follows .mixedOrders=true) {c:Code} {S:Ex→Env→Prop} (h:W P n c S env):CodeP P n c S env:=by
 obtain⟨ex,e1,hr,hs⟩:=h;intro bs M O a w hi Q hQ
 exact (ZJ hmix hr).1 bs M O a w hi Q fun a' w' M' O' h'=>hQ ex e1 a' w' M' O' hs h'
def ThenP (c:Code) (P:Program) (n:Nat) (S:Ex→Env→Prop):Ex→Env→Prop
 | .normal,e=>CodeP P n c S e
 | ex,e=>S ex e
theorem CodeP.seq {x y:Code} {S:Ex→Env→Prop} (h:CodeP P n x (ThenP y P n S) env):CodeP P n (.seq x y) S env:=by
 intro bs M O a w hi Q hQ;refine wp_seq (h bs M O a w hi _ fun ex e' a' w' M' O' hs h'=>?_)
 cases ex with
 | normal=>exact hs bs M' O' a' w' h' Q hQ
 | ret=>exact hQ .ret e' a' w' M' O' hs h'
 | exit i=>exact hQ (.exit i) e' a' w' M' O' hs h'
theorem CodeP.mono {c:Code} {S S':Ex→Env→Prop} (h:CodeP P n c S env) (hs:∀ ex e,S ex e→S' ex e):CodeP P n c S' env:=by
 intro bs M O a w hi Q hQ
 exact h bs M O a w hi Q fun ex e' a' w' M' O' h1 h'=>hQ ex e' a' w' M' O' (hs _ _ h1) h'
theorem CodeP.block {id:Nat} {c:Code} {S:Ex→Env→Prop} (h:CodeP P n c (fun ex e=>S (ex.unblock id) e) env):CodeP P n (.block id c) S env:=by
 intro bs M O a w hi Q hQ;refine wp_block (h bs M O a w hi _ fun ex e' a' w' M' O' hs h'=>?_);have:=hQ _ e' a' w' M' O' hs h'
 cases ex with
 | normal=>exact this
 | ret=>exact this
 | exit i =>
  simp only[toExit,Exit.inBlock];simp only[Ex.unblock]at this;split at this
  ·rename_i hb;rw[if_pos (C0 hb)];exact this
  ·rename_i hb;rw[if_neg (fun e=>by subst e;simp at hb)];exact this
theorem CodeP.cond {c:Operand} {x y:Code} {S:Ex→Env→Prop} (b:Bool) (hc:aop env c=some (.bool b)) (ht:b=true→CodeP P n x S env) (hf:b=false→CodeP P n y S env):CodeP P n (.cond c x y) S env:=by
 intro bs M O a w hi Q hQ;have hv:=(qn hi hc).1.bool_inv;refine wp_cond hv ?_
 cases b with
 | true=>exact ht rfl bs M O a w hi Q hQ
 | false=>exact hf rfl bs M O a w hi Q hQ
def LoopS (I:Nat→Env→Prop) (S:Ex→Env→Prop) (k:Nat):Ex→Env→Prop
 | .normal,e=>∃ k',k=k'+1∧I k' e
 | ex,e=>S ex e
theorem CodeP.loop {c:Code} {S:Ex→Env→Prop} {I:Nat→Env→Prop} (hs:∀ k e,I k e→CodeP P n c (LoopS I S k) e):∀ (k:Nat) {env:Env},I k env→CodeP P n (.loop c) S env:=by
 intro k env hI
 have key:∀ (k:Nat) (e:Env),I k e→∀ (bs:Base) (M:Mem) (O:Gh) (a:Act) (w:World),Inv bs n M O e a w→∀ (Q:Exit→Act→World→Prop),(∀ ex e' a' w' M' O',S ex e'→Inv bs n M' O' e' a' w'→Q (toExit ex) a' w')→Code.rounds P c Q (k+1) a w:=by
  intro k
  induction k with
  | zero =>
   intro e hI bs M O a w hi Q hQ;rw[rounds_succ]
   refine hs 0 e hI bs M O a w hi _ fun ex e' a' w' M' O' h1 h'=>?_
   cases ex with
   | normal=>obtain⟨k',h2,_⟩:=h1;omega
   | ret=>exact hQ .ret e' a' w' M' O' h1 h'
   | exit i=>exact hQ (.exit i) e' a' w' M' O' h1 h'
  | succ k ih =>
   intro e hI bs M O a w hi Q hQ;rw[rounds_succ]
   refine hs (k+1) e hI bs M O a w hi _ fun ex e' a' w' M' O' h1 h'=>?_
   cases ex with
   | normal =>
    obtain⟨k',h2,h3⟩:=h1
    obtain rfl:k'=k:=by omega
    exact ih e' h3 bs M' O' a' w' h' Q hQ
   | ret=>exact hQ .ret e' a' w' M' O' h1 h'
   | exit i=>exact hQ (.exit i) e' a' w' M' O' h1 h'
 intro bs M O a w hi Q hQ;exact wp_loop_rounds (k+1) (key k env hI bs M O a w hi Q hQ)
theorem CodeP.next (hmix:P.follows .mixedOrders=true) {id:Nat} {ops:Array Oper} {S:Ex→Env→Prop} {o:Oper} {rest:List Oper} (hops:ops.toList=o::rest) {x:Operand} (ho:o.op=.next x false) (hw:awanted ops.toList o env=some true) {it:Nat} {y:AV} {ks vs:List AV}
  (hx:aop env x=some (.mb 1 it)) (hl:look env it=some y) (hy:leftE y=some (ks,vs)) {envF:Env} (hF:eput n o.dst (.tup [.bool false]) env=some envF) {envT:Nat→Env} (hT:∀ j,j<ks.length→eput n o.dst (.tup [.bool true,.top,.top]) (ins it (nextEnt ks vs j) env)=some (envT j))
  (h0:ks=[]→vs=[]→WO P n false ops.toList rest (S .normal) envF) (h1:∀ j,j<ks.length→ks.length=vs.length→WO P n false ops.toList rest (S .normal) (envT j)):CodeP P n (.region id ops false) S env:=by
 intro bs M O a w hi Q hQ;refine wp_region_list ?_;rw[hops]
 have hfin:∀ env1,WO P n false ops.toList rest (S .normal) env1→∀ a' w' M' O',Inv bs n M' O' env1 a' w'→wpList P ops Q rest a' w':=by
  intro env1 hwo a' w' M' O' h';obtain⟨e1,hr,hs⟩:=hwo
  have:=DR (ZJ hmix hr) h' (Q:=Q) fun a2 w2 M2 O2 h2=>hQ .normal e1 a2 w2 M2 O2 hs h2
  simpa using this
 simp only[wpList];rw[show yielded ops a.tmps=yielded ops.toList.toArray a.tmps by simp,jg hi hw];simp only[if_true]
 rcases qct hi ho hx hl hy hF hT with ⟨e1,e2,hL⟩ | ⟨j,hj,hj2,hL⟩
 ·exact .inl <| Xb hL fun a' w' M' O' h'=>hfin _ (h0 e1 e2) a' w' M' O' h'
 ·exact .inl <| Xb hL fun a' w' M' O' h'=>hfin _ (h1 j hj hj2) a' w' M' O' h'
def Goes (n:Nat) (e e':Env):Prop:=∀ (bs:Base) (M:Mem) (O:Gh) (a:Act) (w:World),Inv bs n M O e a w→∃ M' O',Inv bs n M' O' e' a w
theorem Goes.refl (e:Env):Goes n e e:=fun bs M O a w hi=>⟨M,O,hi⟩
theorem Goes.wk {e e1 e':Env} (h:Goes n e1 e') (he:weakE (e1.map Prod.fst) [] [] [] e=e1:=by kernel_rfl):Goes n e e':=by
 intro bs M O a w hi;obtain⟨M',O',h'⟩:=hi.freezeAll [];obtain⟨O2,h2⟩:=Inv.relabAll [] ((Inv.nilAll [] h').drop (e1.map Prod.fst))
 have h3:Inv bs n M' O2 e1 a w:=by
  rw[← he];exact h2
 exact h bs M' O2 a w h3
theorem Goes.mv {e e1 e':Env} (q:List Mv) (h:Goes n e1 e') (he:mvAll e q=e1:=by kernel_rfl):Goes n e e':=by
 subst he;intro bs M O a w hi;obtain⟨M',O',h'⟩:=hi.mvAll q;exact h bs M' O' a w h'
theorem CodeP.goes {c:Code} {S:Ex→Env→Prop} {e e':Env} (hg:Goes n e e') (h:CodeP P n c S e'):CodeP P n c S e:=by
 intro bs M O a w hi Q hQ;obtain⟨M',O',h'⟩:=hg bs M O a w hi;exact h bs M' O' a w h' Q hQ
theorem CodeP.wk {c:Code} {S:Ex→Env→Prop} {env':Env} (h:CodeP P n c S env') (he:weakE (env'.map Prod.fst) [] [] [] env=env':=by kernel_rfl):CodeP P n c S env:=CodeP.goes (Goes.wk (Goes.refl _) he) h
theorem CodeP.mv {c:Code} {S:Ex→Env→Prop} {env':Env} (q:List Mv) (h:CodeP P n c S env') (he:mvAll env q=env':=by kernel_rfl):CodeP P n c S env:=CodeP.goes (Goes.mv q (Goes.refl _) he) h
theorem CodeP.reg (hmix:P.follows .mixedOrders=true) {id:Nat} {ops:Array Oper} {draw:Bool} {S:Ex→Env→Prop} {e2:Env} (h:S .normal e2) (hd:(!draw || (orderOk ops && jA ops))=true:=by kernel_rfl) (he:stepsK P n draw ops.toList ops.toList.length ops.toList env=some e2:=by kernel_rfl):CodeP P n (.region id ops draw) S env :=
 CodeP.of hmix (W.region hd (WO.end0 he h))
def PostP (P:Program) (fn:Func) (r:AV):Ex→Env→Prop
 | .exit _,_=>False
 | _,e=>JV P fn e=some r
theorem qbN {f:Nat} {args:List AV} {r:AV} {fn:Func} {c:Code} (hf:P.funcs[f]? = some fn) (hb:fn.body=some c) (hlen:(Nat.ble args.length fn.ntmps && Nat.ble fn.ntmps 1000000)=true) (hnl:∀ e k l xs,r≠.lst e k (some l) xs) (h:CodeP P fn.ntmps c (PostP P fn r) (argsEnv 0 (args.map AV.strip))):CallOk P f args r:=by
 intro M w vs hG hC hl hR;refine calls_of_wp hf hb ?_
 have hsz:vs.toArray.size=vs.length:=by simp
 simp only[Bool.and_eq_true]at hlen;have hle:=C7 hlen.1;have hsm:=C7 hlen.2
 have hinv:Inv ⟨fun k=>k<w.heap.size,M,w,⟨fun _ _=>none,fun _=>0,fun _=>0⟩,hG⟩ fn.ntmps M ⟨fun _ _=>none,fun _=>0,fun _=>0⟩ (argsEnv 0 (args.map AV.strip)) { tmps:=vs.toArray++Array.replicate (fn.ntmps - vs.toArray.size) undef,defers:=[] } w:=by
  refine⟨by simp;omega,rfl,BelowD.refl _ _,fun k hk=>hk,hC,Sub.refl M,fun _ _ _=>rfl,fun i c g e=>by (cases e),fun i i' c c' g e=>by (cases e),⟨hsm,fun c _ _=>Gh.Eq1.refl _ c⟩,fun t x hx=>?_⟩;obtain⟨_,h2⟩:=ZO _ 0 t x hx;simp only[Nat.sub_zero,A7]at h2
  cases hz:args[t]? with
  | none=>rw[hz]at h2;cases h2
  | some z =>
   rw[hz]at h2;cases h2
   have htl:t<vs.length:=by rw[← hl];exact (List.getElem?_eq_some_iff.1 hz).1
   have hv:(vs.toArray++Array.replicate (fn.ntmps - vs.toArray.size) undef).getD t undef=vs[t]:=by
    rw[Array.getD_eq_getD_getElem?,Array.getElem?_append_left (by simpa using htl)];simp[htl]
   rw[hv];exact QR (jQ (hR t z _ hz (A0 htl)).strip (QU z))
 refine h _ _ _ _ _ hinv _ fun ex e1 a' w' M' O' hres h'=>?_
 have hbel:Below w.heap.size w w':=⟨h'.below.os,h'.below.tape,h'.below.output,h'.below.size,fun k hk=>h'.below.block k hk⟩
 have fin:JV P fn e1=some r→∃ v1,(results fn a'.tmps).run P w'=.ok v1 w'∧∃ v2 M2,Ending.returned v1=.returned v2∧Below w.heap.size w w'∧Sub M M2∧Cons M2 w'∧(∀ b o,b<w.heap.size→M2 b o=M b o)∧R M2 r v2∧OwnR M2 w.heap.size w' r v2:=by
  intro hres;obtain⟨v,hv1,hv2,hv3⟩:=Ys h' hres;refine⟨v,hv1,v,M',rfl,hbel,h'.ext,h'.cons,fun b o hb=>h'.old b o hb,hv2,?_⟩;unfold OwnR;split
  ·exact absurd rfl (hnl _ _ _ _)
  ·trivial
 cases ex with
 | normal=>exact⟨h'.defers,fin hres⟩
 | ret=>exact⟨h'.defers,fin hres⟩
 | exit id=>exact hres.elim
end
end Go.AM
namespace Go.Proofs
open Go.Shelf
def Try.lays189_ren:Go.Shelf.Ren:=⟨fun | 189=>92 | 125=>110 | 257=>113 | 128=>124 | 129=>125 | 294=>126 | 295=>127 | 296=>128 | 297=>129 | 298=>130 | 299=>131 | 216=>132 | 300=>133 | 301=>134 | 328=>140 | 329=>136 | 330=>137 | 331=>141 | 332=>142 | 215=>103 | 343=>144 | n=>n,fun | 28=>24 | 3=>3 | 46=>41 | 0=>0 | 51=>152 | 53=>154 | 4=>4 | 183=>145 | 182=>144 | 131=>149 | 5=>5 | 9=>9 | 218=>160 | 222=>164 | 228=>168 | 229=>169 | n=>n,fun | n=>n⟩
theorem Try.lays189:Go.Proofs.Lays.n189 Try.prog Try.lays189_ren:={
 mixed:=by kernel_rfl
 f125:=Try.func110.trans (congrArg some (by kernel_rfl))
 f128:=Try.func124.trans (congrArg some (by kernel_rfl))
 f129:=Try.func125.trans (congrArg some (by kernel_rfl))
 f189:=Try.func92.trans (congrArg some (by kernel_rfl))
 f215:=Try.func103.trans (congrArg some (by kernel_rfl))
 f216:=Try.func132.trans (congrArg some (by kernel_rfl))
 f257:=Try.func113.trans (congrArg some (by kernel_rfl))
 f294:=Try.func126.trans (congrArg some (by kernel_rfl))
 f295:=Try.func127.trans (congrArg some (by kernel_rfl))
 f296:=Try.func128.trans (congrArg some (by kernel_rfl))
 f297:=Try.func129.trans (congrArg some (by kernel_rfl))
 f298:=Try.func130.trans (congrArg some (by kernel_rfl))
 f299:=Try.func131.trans (congrArg some (by kernel_rfl))
 f300:=Try.func133.trans (congrArg some (by kernel_rfl))
 f301:=Try.func134.trans (congrArg some (by kernel_rfl))
 f328:=Try.func140.trans (congrArg some (by kernel_rfl))
 f329:=Try.func136.trans (congrArg some (by kernel_rfl))
 f330:=Try.func137.trans (congrArg some (by kernel_rfl))
 f331:=Try.func141.trans (congrArg some (by kernel_rfl))
 f332:=Try.func142.trans (congrArg some (by kernel_rfl))
 f343:=Try.func144.trans (congrArg some (by kernel_rfl))
 t0:=Try.underlying0
 a0:=Try.isAgg0
 z0:=Try.sizeOf0
 v0:=Try.zeroValue0
 t3:=Try.underlying3
 a3:=Try.isAgg3
 z3:=Try.sizeOf3
 v3:=Try.zeroValue3
 t4:=Try.underlying4
 a4:=Try.isAgg4
 z4:=Try.sizeOf4
 v4:=Try.zeroValue4
 t5:=Try.underlying5
 a5:=Try.isAgg5
 z5:=Try.sizeOf5
 v5:=Try.zeroValue5
 t9:=Try.underlying9
 a9:=Try.isAgg9
 z9:=Try.sizeOf9
 v9:=Try.zeroValue9
 t28:=Try.underlying24
 a28:=Try.isAgg24
 z28:=Try.sizeOf24
 v28:=Try.zeroValue24
 t46:=Try.underlying41
 a46:=Try.isAgg41
 z46:=Try.sizeOf41
 v46:=Try.zeroValue41
 t51:=Try.underlying152
 a51:=Try.isAgg152
 z51:=Try.sizeOf152
 v51:=Try.zeroValue152
 t53:=Try.underlying154
 a53:=Try.isAgg154
 z53:=Try.sizeOf154
 v53:=Try.zeroValue154
 t131:=Try.underlying149
 a131:=Try.isAgg149
 z131:=Try.sizeOf149
 v131:=Try.zeroValue149
 t182:=Try.underlying144
 a182:=Try.isAgg144
 z182:=Try.sizeOf144
 v182:=Try.zeroValue144
 t183:=Try.underlying145
 a183:=Try.isAgg145
 z183:=Try.sizeOf145
 v183:=Try.zeroValue145
 t218:=Try.underlying160
 a218:=Try.isAgg160
 z218:=Try.sizeOf160
 v218:=Try.zeroValue160
 t222:=Try.underlying164
 a222:=Try.isAgg164
 z222:=Try.sizeOf164
 v222:=Try.zeroValue164
 t228:=Try.underlying168
 a228:=Try.isAgg168
 z228:=Try.sizeOf168
 v228:=Try.zeroValue168
 t229:=Try.underlying169
 a229:=Try.isAgg169
 z229:=Try.sizeOf169
 v229:=Try.zeroValue169 }
open Go.Sort Go.RowKit in
theorem Try.slices_Sort_int (blk off cap:Nat) (zs:List Int) (w:World) (hH:Holds (Value.int .i64) w blk off zs.toArray) (hblk:blk<w.heap.size) (hsz:zs.length<4611686018427387904) :
  Calls Try.prog 92 #[.slice (some ⟨blk,off,none⟩) zs.length cap] w fun e w' =>
   e=.returned (.tuple #[])∧∃ n os,w'=grow (putRow (Value.int .i64) (Sort.ahead w n) blk off (zs.mergeSort fun x y=>decide (x≤y)).toArray) os:=Any.slices_Sort_int Try.lays189 blk off cap zs w hH hblk hsz
open Go.RowKit Go.Sort in
theorem Try.slices_Sort_int_none (p:Option Addr) (cap:Nat) (w:World) :
  Calls Try.prog 92 #[.slice p 0 cap] w fun e w'=>e=.returned (.tuple #[])∧w'=w:=Any.slices_Sort_int_none Try.lays189 p cap w
end Go.Proofs
namespace Go.AM
open Go Go.Sort Go.Proofs
theorem qbA:DZ Try.prog 92 3:=by
 intro zs w g cap cur hg hsz hlt htake
 have hlen:(sortI zs).length=zs.length:=by simp[sortI]
 refine (Try.slices_Sort_int g 0 cap zs w (holds_of_blockI hg htake) (Array.getElem?_eq_some_iff.1 hg).1 hlt).mono ?_
 rintro e w' ⟨rfl,n,os,rfl⟩
 obtain⟨h1,h2,h3,h4,h5⟩:=grownBy_sortedI (w:=w) (g:=g) (n:=n) (os:=os) (zs.mergeSort fun x y=>decide (x≤y)).toArray;refine⟨rfl,h1,h2,h3,h4,fun k hk hne=>h5 k hk (fun e=>hne (Option.some.inj e)),_,heap_sortedI _ hg,by simp[putCells],?_⟩;have:=take_putCellsI cur (sortI zs) (by omega);rw[hlen]at this;exact this
end Go.AM
namespace Go.AM
open Go Go.Sort Go.Proofs
theorem qcd:CallMOk Try.prog 92 [.sb 2000000 3 1 0 0] [(2000000,.obj 3 1 [])] (.tup []) [(2000000,.obj 3 1 [])]:=by
 intro M O w vs hG hC hlen hO hOi hR hH
 obtain⟨v,rfl⟩:∃ v,vs=[v]:=by
  match vs,hlen with
  | [v],_=>exact⟨v,rfl⟩
 obtain⟨q1,q2⟩:=hR 0 _ v rfl rfl
 obtain⟨p,cap,rfl⟩:∃ p cap,v=.slice p 0 cap:=by
  rcases q2 with ⟨_,ad,rfl⟩ | ⟨g,cap,rfl,_⟩
  ·exact⟨ad,0,rfl⟩
  ·exact⟨_,cap,rfl⟩
 refine (Try.slices_Sort_int_none p cap w).mono ?_
 rintro e w' ⟨rfl,rfl⟩
 refine⟨_,M,O,rfl,⟨rfl,rfl,rfl,Nat.le_refl _,fun _ _=>rfl⟩,Sub.refl M,hC,fun _ _ _ _=>rfl,fun i c g hg=>?_,fun i i' c c' g hg hg'=>?_,fun c _ _=>Gh.Eq1.refl O c,⟨.tup (vs:=[]) rfl (fun j c v hc=>by simp at hc),trivial⟩,hH⟩
 ·obtain⟨rfl,h2⟩:=hO i c g hg;exact⟨h2,.inr ⟨c,hg⟩⟩
 ·obtain⟨rfl,_⟩:=hO i c g hg;obtain⟨rfl,_⟩:=hO i' c' g hg';exact⟨rfl,hOi c c' g hg hg'⟩
end Go.AM
namespace Go.AM
open Go.Proofs
abbrev I6:Int→AV:=AV.int .i64
abbrev W6:Int→Int:=IntKind.wrap .i64
abbrev S1 (n:Nat):AV:=.sb 2000000 5 1 0 n
abbrev O1 (l:List Int):Nat×AV:=(2000000,.obj 1000000005 1 (A2 (AV.int .u8) l))
abbrev M8 (l:List Int):List AV:=A2 (AV.int .u8) l
abbrev M6 (l:List Int):List AV:=A2 (AV.int .i64) l
structure hsOp where
 qb:Int
 qh:Int
 qi:Int
def je (x:hsOp):AV:=.agg [.int .i64 x.qb,.int .i64 x.qh,.int .i64 x.qi]
structure rf5Op where
 qb:Int
 qh:Int
 qi:Int
def l44 (c:Option Nat) (l:List hsOp):AV:=.lst 44 3 c (A2 je l)
def Ji (x:rf5Op):AV:=.agg [.int .i64 x.qb,.int .i64 x.qh,.int .i64 x.qi]
def l43 (c:Option Nat) (l:List rf5Op):AV:=.lst 43 3 c (A2 Ji l)
end Go.AM
