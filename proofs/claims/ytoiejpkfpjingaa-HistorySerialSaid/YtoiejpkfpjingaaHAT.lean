import Derived.Test.YtoiejpkfpjingaaASimN
import Derived.Test.YtoiejpkfpjingaaAWp
import Derived.Carry
import Derived.DataReads
import Derived.ProofKit
import Derived.OpenShut
import Derived.Sort.Grow
import Derived.Test.YtoiejpkfpjingaaChecked
import Derived.Shelf.SlGeneric
import Derived.Ground.SlgnProg
import Derived.Shelf.SlicesE.Delete
import Derived.Test.YtoiejpkfpjingaaASimK
import Derived.Test.YtoiejpkfpjingaaASimX
import Derived.Shelf.Sort.Plain
import Derived.Shelf.Slices.In.SortNone
import Derived.Test.YtoiejpkfpjingaaProg
import Derived.Sort.OwnSortedInts
set_option linter.all false
set_option maxRecDepth 100000
open List renaming getElem?_eq_getElem→A0, map→A1, length_map→A2, getElem?_map→A5, length_eraseIdx→A8, getD_eq_getElem?_getD→A9, getElem?_append_left→B6, getElem?_append_right→B7, filter_cons→C4, getElem?_eraseIdx→C6, getElem_cons_succ→D2, eraseIdx_cons_succ→D3, eq_nil_of_length_eq_zero→D6, take_of_length_le→D8
open Go.Sem renaming run→A3
open Nat renaming le_refl→A4, le_of_succ_le_succ→C8, eq_of_beq_eq_true→D1, le_of_ble_eq_true→D7
open Bool renaming false_eq_true→A6
open Array renaming getElem?_eq_getElem→A7, toList_filter→C5, getElem?_modify→D0, length_toList→D4, getElem?_toList→D5
open Prod renaming fst→B5
open Go.Result renaming andThen→B9
open Option renaming bind_eq_some_iff→C7
namespace Go.AM
open Go.RowKit
def memOf (w:World):Mem:=fun b o=>mc w b o
theorem qeo (w:World):Cons (memOf w) w:=fun b o u h=>h
def CellsR (M:Mem) (xs:List AV) (cs:List Value):Prop:=xs.length=cs.length∧∀ (j:Nat) c v,xs[j]? = some c→cs[j]? = some v→R M c v
def Reads (P:Program) (t:TypeId) {α:Type} (f:α→AV) (ok:α→Prop):Prop :=
 ∀ (H:Type) (enc:TypeId×Value→H) (w:World) (fuel:Nat) (cs:List Value) (x:DataW H×List MemPlace),
  DataW.trod enc P w 0 (fun _=>true) true fuel t cs=some x→∃ a,ok a∧CellsR (memOf w) (f a).cells cs
def ReadsN (N:Nat) (P:Program) (t:TypeId) {α:Type} (f:α→AV) (ok:α→Prop):Prop :=
 ∀ (H:Type) (enc:TypeId×Value→H) (w:World) (fuel:Nat) (cs:List Value) (x:DataW H×List MemPlace),fuel≤N →
  DataW.trod enc P w 0 (fun _=>true) true fuel t cs=some x→∃ a,ok a∧CellsR (memOf w) (f a).cells cs
section
variable {P:Program}
theorem Reads.toN {t:TypeId} {α:Type} {f:α→AV} {ok:α→Prop} (h:Reads P t f ok) (N:Nat):ReadsN N P t f ok:=fun H enc w fuel cs x _ k=>h H enc w fuel cs x k
theorem ReadsN.all {t:TypeId} {α:Type} {f:α→AV} {ok:α→Prop} (h:∀ N,ReadsN N P t f ok):Reads P t f ok:=fun H enc w fuel cs x k=>h fuel H enc w fuel cs x (A4 _) k
theorem ReadsN.mono {t:TypeId} {α:Type} {f:α→AV} {ok:α→Prop} {N M:Nat} (h:ReadsN M P t f ok) (hl:N≤M):ReadsN N P t f ok:=fun H enc w fuel cs x k=>h H enc w fuel cs x (Nat.le_trans k hl)
theorem CellsR.one {M:Mem} {c:AV} {v:Value} (h:R M c v):CellsR M [c] [v]:=by
 refine⟨rfl,fun j c' v' hc hv=>?_⟩
 cases j with
 | zero=>simp at hc hv;subst hc;subst hv;exact h
 | succ j=>simp at hc
theorem CellsR.append {M:Mem} {xs ys:List AV} {cs ds:List Value} (h:CellsR M xs cs) (k:CellsR M ys ds):CellsR M (xs++ys) (cs++ds):=by
 refine⟨by simp[h.1,k.1],fun j c v hc hv=>?_⟩;by_cases hj:j<xs.length
 ·rw[B6 hj]at hc;rw[B6 (by rw[← h.1];exact hj)]at hv;exact h.2 j c v hc hv
 ·rw[B7 (by omega)]at hc;rw[B7 (by rw[← h.1];omega),← h.1]at hv;exact k.2 _ c v hc hv
theorem Um {t:TypeId} {k:IntKind} (ht:P.underlying t=some (.int k)):Reads P t (AV.int k) (fun n=>(Lit.int k n).wf=true):=by
 intro H enc w fuel cs x h
 cases fuel with
 | zero=>cases h
 | succ fuel =>
  unfold DataW.trod at h;rw[ht]at h
  split at h <;> try (first | (rename_i e _;cases e;done) | cases h)
  all_goals try (rename_i e;cases e;done)
  rename_i k1 k2 n e;cases e;split at h
  ·rename_i hk;obtain⟨rfl,hwf⟩:=hk;exact⟨n,hwf,.one (.int _ _)⟩
  ·cases h
theorem HL {α:Type} {Pr:Nat→α→Prop}:∀ (n:Nat),(∀ i,i<n→∃ x,Pr i x)→∃ l:List α,l.length=n∧∀ i x,l[i]? = some x→Pr i x
 | 0,_=>⟨[],rfl,fun i x h=>by simp at h⟩
 | n+1,h=>by
  obtain⟨l,h1,h2⟩:=HL n (fun i hi=>h i (by omega));obtain⟨x,hx⟩:=h n (by omega);refine⟨l++[x],by simp[h1],fun i y hy=>?_⟩;by_cases hi:i<l.length
  ·rw[B6 hi]at hy;exact h2 i y hy
  ·rw[B7 (by omega)]at hy
   have:i - l.length=0:=by
    cases hh:i - l.length with
    | zero=>rfl
    | succ m=>rw[hh]at hy;simp at hy
   rw[this]at hy;simp at hy;subst hy
   have:i=n:=by omega
   subst this;exact hx
theorem qaj {w:World} {base n:Nat} {a:Addr} {cs:List Value} (h:w.cells? base a n=some cs):cs.length=n∧∀ i,i<n→w.cell? (a.add i)=cs[i]?:=by
 unfold World.cells? at h;split at h
 ·refine⟨by simpa using mapM_some_length h,fun i hi=>?_⟩;exact mapM_some_get h i i (by simp[hi])
 ·cases h
theorem qft {w:World} {a:Addr} {v:Value} (h:w.cell? a=some v):a.spot=none:=by
 unfold World.cell? at h;split at h
 ·split at h
  ·cases h
  ·rename_i hs
   simpa using hs
 ·cases h
theorem qhw {a:Addr} (h:a.spot=none) (n:Nat):a.add n=⟨a.block,a.off+n,none⟩:=by
 obtain⟨b,o,s⟩:=a;simp only at h;subst h;unfold Addr.add;split
 ·rename_i e;subst e;rfl
 ·rfl
theorem qce {N:Nat} {α:Type} {f:α→AV} {ok:α→Prop} {t e k:Nat} (ht:P.underlying t=some (.slice e)) (hk:P.cellsOf e=k) (hk0:0<k) (he:ReadsN N P e f ok) (hlen:∀ x,(f x).cells.length=k) (hone:∀ x,(f x).cells.all AV.one=true) :
  ReadsN (N+1) P t (encL e k f) (fun l=>l.length≤maxLen∧∀ x,x∈l→ok x):=by
 intro H enc w fuel cs x hN h
 cases fuel with
 | zero=>cases h
 | succ fuel =>
  unfold DataW.trod at h;rw[ht]at h
  split at h <;> try (first | (rename_i e _;cases e;done) | cases h)
  all_goals try (rename_i e;cases e;done)
  ·exact⟨[],⟨Nat.zero_le _,fun x hx=>by cases hx⟩,.one (.lstn _ _ _)⟩
  ·rename_i t1 e1 a len cap e2;cases e2;simp only at h;split at h
   ·rename_i hc;obtain⟨hb,hlc,hcm⟩:=hc;rw[C7]at h;obtain⟨elems,h1,h2⟩:=h
    have hel:∀ i,i<len→∃ y:α,ok y∧∃ cs,w.cells? 0 (a.add (i * k)) k=some cs∧CellsR (memOf w) (f y).cells cs:=by
     intro i hi;have hlenE:=mapM_some_length h1;simp at hlenE;have:=mapM_some_get h1 i i (by simp[hi]);have hsome:elems[i]? = some (elems[i]'(by omega)):=A0 _;rw[hsome]at this;rw[hk,C7]at this;obtain⟨cs,hcs,htr⟩:=this;obtain⟨y,hy,hr⟩:=he H enc w fuel cs _ (C8 hN) htr;exact⟨y,hy,cs,hcs,hr⟩
    obtain⟨l,hll,hl⟩:=HL (Pr:=fun i y=>ok y∧∃ cs,w.cells? 0 (a.add (i * k)) k=some cs∧CellsR (memOf w) (f y).cells cs) len hel;refine⟨l,⟨by omega,fun x hx=>?_⟩,?_⟩
    ·obtain⟨i,hi⟩:=List.mem_iff_getElem?.1 hx;exact (hl i x hi).1
    refine .one ?_
    cases len with
    | zero =>
     have:l=[]:=List.length_eq_zero_iff.1 hll;subst this;exact .lste _ _ _ _ _
    | succ len =>
     have hspot:a.spot=none:=by
      have hx:l[0]? = some (l[0]'(by omega)):=A0 _;obtain⟨_,cs,hcs,_⟩:=hl 0 _ hx;obtain⟨c1,c2⟩:=qaj hcs;have:=c2 0 hk0;have hc0:cs[0]? = some (cs[0]'(by omega)):=A0 _;rw[hc0]at this;simp[Addr.add]at this;exact qft this
     obtain⟨b,off,spot⟩:=a;simp only at hspot;subst hspot
     have hlenk:∀ x,x∈l.map f→x.cells.length=k:=by
      intro x hx;obtain⟨y,_,rfl⟩:=List.mem_map.1 hx;exact hlen y
     have hcell:∀ (j:Nat) c,(flat (l.map f))[j]? = some c→∃ u,w.cell? ⟨b,off+j,none⟩=some u∧R (memOf w) c u:=by
      intro j c hc
      have hjl:j<l.length * k:=by
       have:=(List.getElem?_eq_some_iff.1 hc).1;rw[Jc hlenk]at this
       simpa using this
      have hik:j / k<l.length:=Nat.div_lt_of_lt_mul (by rw[Nat.mul_comm];exact hjl);have hy:l[j / k]? = some (l[j / k]'hik):=A0 _
      have hfy:(l.map f)[j / k]? = some (f (l[j / k]'hik)):=by rw[A5,hy];rfl
      have hmod:j % k<k:=Nat.mod_lt _ hk0;have hfl:=Yq hlenk hfy (j % k) hmod
      have hdm:j / k * k+j % k=j:=by rw[Nat.mul_comm];exact Nat.div_add_mod j k
      rw[hdm,hc]at hfl;obtain⟨_,cs,hcs,hcr⟩:=hl _ _ hy;obtain⟨c1,c2⟩:=qaj hcs;have hcell:=c2 (j % k) hmod;have hv:cs[j % k]? = some (cs[j % k]'(by omega)):=A0 _;rw[hv,qhw (a:=⟨b,off,none⟩) rfl,qhw rfl]at hcell;refine⟨_,?_,hcr.2 _ _ _ hfl.symm hv⟩
      simpa[Nat.add_assoc,hdm] using hcell
     rw[← hll];have hmap:(l.map f).length=l.length:=A2 _;unfold encL;rw[← hmap];refine .lst (fun j=>(w.cell? ⟨b,off+j,none⟩).getD undef) (by rw[hmap];omega) hlenk ?_ ?_ ?_
     ·intro x hx;obtain⟨y,_,rfl⟩:=List.mem_map.1 hx;exact hone y
     ·intro j c hc;obtain⟨u,hu,hr⟩:=hcell j c hc;rw[hu];refine UP hu (XJ (hr.one (Vc (fun x hx=>?_) hc)));obtain⟨y,_,rfl⟩:=List.mem_map.1 hx;exact hone y
     ·intro j c hc;obtain⟨u,hu,hr⟩:=hcell j c hc;rw[hu];exact hr
   ·cases h
theorem Hq {α:Type} {f:α→AV} {ok:α→Prop} {t e k:Nat} (ht:P.underlying t=some (.slice e)) (hk:P.cellsOf e=k) (hk0:0<k) (he:Reads P e f ok) (hlen:∀ x,(f x).cells.length=k) (hone:∀ x,(f x).cells.all AV.one=true) :
  Reads P t (encL e k f) (fun l=>l.length≤maxLen∧∀ x,x∈l→ok x) :=
 ReadsN.all fun N=>(qce ht hk hk0 (he.toN N) hlen hone).mono (Nat.le_succ N)
def Uh (N:Nat) (P:Program):List Field→Nat→Nat→{α:Type}→(α→List AV)→(α→Prop)→Prop:=fun fs off size α f ok =>
 ∀ (H:Type) (enc:TypeId×Value→H) (w:World) (fuel:Nat) (cs:List Value),fuel≤N→cs.length=size →
  (∀ g,g∈fs→∃ x,DataW.trod enc P w 0 (fun _=>true) true fuel g.type ((cs.drop g.offset).take (P.cellsOf g.type))=some x) →
  ∃ a,ok a∧CellsR (memOf w) (f a) (cs.drop off)
abbrev FieldsR (P:Program) (fs:List Field) (off size:Nat) {α:Type} (f:α→List AV) (ok:α→Prop):Prop:=∀ N,Uh N P fs off size f ok
theorem qcp {N off size:Nat} (h:size=off):Uh N P [] off size (fun _:Unit=>[]) (fun _=>True):=by
 intro H enc w fuel cs _ hl _;refine⟨(),trivial,?_⟩;rw[List.drop_of_length_le (by omega)];exact⟨rfl,fun j c v hc=>by simp at hc⟩
theorem qaz {N:Nat} {fd:Field} {fs:List Field} {off off' size n:Nat} {α β:Type} {f:α→AV} {ok:α→Prop} {g:β→List AV} {ok':β→Prop} (ho:fd.offset=off) (hs:P.cellsOf fd.type=n) (hn:off+n=off') (he:ReadsN N P fd.type f ok) (hr:Uh N P fs off' size g ok') :
  Uh N P (fd::fs) off size (fun x:α×β=>(f x.1).cells++g x.2) (fun x=>ok x.1∧ok' x.2):=by
 intro H enc w fuel cs hN hl h;obtain⟨x,hx⟩:=h fd (by simp);obtain⟨a,h1,h2⟩:=he H enc w fuel _ _ hN hx;obtain⟨b,h3,h4⟩:=hr H enc w fuel cs hN hl (fun g hg=>h g (by simp[hg]));refine⟨(a,b),⟨h1,h3⟩,?_⟩;rw[ho,hs]at h2;have:=h2.append h4;rw[← hn]at this
 have e:(cs.drop off).take n++cs.drop (off+n)=cs.drop off:=by
  rw[← List.drop_drop,List.take_append_drop]
 rw[e]at this;exact this
theorem qdv {off size:Nat} (h:size=off):FieldsR P [] off size (fun _:Unit=>[]) (fun _=>True):=fun N=>qcp h
theorem Vz {fd:Field} {fs:List Field} {off off' size n:Nat} {α β:Type} {f:α→AV} {ok:α→Prop} {g:β→List AV} {ok':β→Prop} (ho:fd.offset=off) (hs:P.cellsOf fd.type=n) (hn:off+n=off') (he:Reads P fd.type f ok) (hr:FieldsR P fs off' size g ok') :
  FieldsR P (fd::fs) off size (fun x:α×β=>(f x.1).cells++g x.2) (fun x=>ok x.1∧ok' x.2):=fun N=>qaz ho hs hn (he.toN N) (hr N)
theorem qaw {N t size:Nat} {fs:Array Field} {α β:Type} {g:β→List AV} {ok':β→Prop} (mk:β→α) {f:α→AV} {ok:α→Prop} (ht:P.underlying t=some (.struct fs)) (hs:P.cellsOf t=size) (hf:Uh N P fs.toList 0 size g ok') (hcells:∀ b,(f (mk b)).cells=g b) (hok:∀ b,ok' b→ok (mk b)):ReadsN (N+1) P t f ok:=by
 intro H enc w fuel cs x hN h
 cases fuel with
 | zero=>cases h
 | succ fuel =>
  unfold DataW.trod at h;rw[ht]at h
  have key:cs.length=size∧∃ xs,fs.toList.mapM (fun fd=>DataW.trod enc P w 0 (fun _=>true) true fuel fd.type ((cs.drop fd.offset).take (P.cellsOf fd.type)))=some xs:=by
   simp only at h;split at h
   ·rename_i hl;rw[hs]at hl;rw[Option.map_eq_some_iff]at h;obtain⟨xs,h1,_⟩:=h;exact⟨hl,xs,h1⟩
   ·cases h
  obtain⟨hl,xs,hm⟩:=key
  obtain⟨b,h1,h2⟩:=hf H enc w fuel cs (C8 hN) hl (fun fd hfd=>by
   obtain⟨i,hi⟩:=List.mem_iff_getElem?.1 hfd;have h3:=mapM_some_get hm i fd hi;have hlen:=mapM_some_length hm
   have hix:i<xs.length:=by rw[hlen];exact (List.getElem?_eq_some_iff.1 hi).1
   exact⟨xs[i],h3.trans (A0 hix)⟩)
  refine⟨mk b,hok b h1,?_⟩;rw[hcells]
  simpa using h2
theorem qcd {t size:Nat} {fs:Array Field} {α β:Type} {g:β→List AV} {ok':β→Prop} (mk:β→α) {f:α→AV} {ok:α→Prop} (ht:P.underlying t=some (.struct fs)) (hs:P.cellsOf t=size) (hf:FieldsR P fs.toList 0 size g ok') (hcells:∀ b,(f (mk b)).cells=g b) (hok:∀ b,ok' b→ok (mk b)):Reads P t f ok :=
 ReadsN.all fun N=>(qaw mk ht hs (hf N) hcells hok).mono (Nat.le_succ N)
theorem Reads.arg {α:Type} {f:α→AV} {ok:α→Prop} {t:TypeId} (h:Reads P t f ok) {H:Type} {enc:TypeId×Value→H} {w:World} {v:Value} {d:DataW H} {ps:List MemPlace} (ht:DataW.Trod enc P w 0 (fun _=>true) true t v d ps) (hv:(f · |>.cells)=(fun x=>[f x]):=by rfl) (hone:v.cells.toList=[v]):∃ a,ok a∧R (memOf w) (f a) v:=by
 obtain⟨fuel,hf⟩:=ht;obtain⟨a,h1,h2⟩:=h H enc w fuel _ _ hf;refine⟨a,h1,?_⟩;have e:(f a).cells=[f a]:=congrFun hv a
 have h3:CellsR (memOf w) [f a] [v]:=by
  rw[← e];rw[hone]at h2;exact h2
 exact h3.2 0 _ _ rfl rfl
end
end Go.AM
namespace Go.AM
open Go.RowKit Go.ChangeShapes
theorem UA {H:Type} {enc:TypeId×Value→H} {P:Program} (hl:laidOutB P=true) {W W':World} {sp:Nat→Bool}:∀ {ts:List TypeId} {vs:List Value} {ds:List (DataW H)} {ps:List MemPlace},
  (∀ t,t∈ts→P.readableRec t=true∧t<P.types.size)→DataW.TrodAll enc P W 0 (fun _=>true) true ts vs ds ps→(∀ p,p∈ps→W.sameAt W' p)→(∀ p,p∈ps→sp p.block=true)→DataW.TrodAll enc P W' 0 sp true ts vs ds ps
 | [],vs,ds,ps,_,h,_,_=>by
  obtain⟨rfl,rfl,rfl⟩:=trodAll_nil h;exact trodAll_mk0
 | t::ts,vs,ds,ps,ht,h,hs,hp=>by
  obtain⟨v,vs',d,ds',p,q,rfl,rfl,rfl,h1,h2⟩:=trodAll_cons h;obtain⟨r1,r2⟩:=ht t (by simp);exact trodAll_cons_mk (WideElems.Trod_stays hl r1 r2 h1 (fun x hx=>hs x (by simp[hx])) (fun x hx=>hp x (by simp[hx])))
   (UA hl (fun t h=>ht t (by simp[h])) h2 (fun x hx=>hs x (by simp[hx])) (fun x hx=>hp x (by simp[hx])))
def ArgsR (M:Mem) (avs:List AV) (vs:List Value):Prop:=avs.length=vs.length∧∀ (j:Nat) c v,avs[j]? = some c→vs[j]? = some v→R M c v
theorem ArgsR.nil {M:Mem}:ArgsR M [] []:=⟨rfl,fun j c v h=>by simp at h⟩
theorem ArgsR.cons {M:Mem} {x:AV} {v:Value} {xs:List AV} {vs:List Value} (h:R M x v) (hs:ArgsR M xs vs):ArgsR M (x::xs) (v::vs):=by
 refine⟨by simp[hs.1],fun j c u hc hu=>?_⟩
 cases j with
 | zero=>simp at hc hu;subst hc;subst hu;exact h
 | succ j=>exact hs.2 j c u (by simpa using hc) (by simpa using hu)
def qak (P:Program) (t:TypeId):Bool:=match P.underlying t with
 | some (.int _) | some .bool | some .string | some (.slice _)=>true
 | _=>false
theorem qfM {P:Program} {W:World} {base:Nat} {t:TypeId} {v:Value} (ht:qak P t=true) (h:Value.okWide P W .any base t v):v.cells.toList=[v]:=by
 cases v with
 | agg cs =>
  unfold qak at ht;split at ht <;> (rename_i e;simp[Value.okWide,e,Cell.okWide,Cell.ok]at h) <;> cases ht
 | _=>rfl
def rowType (P:Program) (t:TypeId):Bool:=match P.underlying t with
 | some (.struct _) | some (.array _ _)=>true
 | _=>false
theorem qfx {P:Program} {W:World} {base:Nat} {t:TypeId} {v:Value} (ht:rowType P t=true) (h:Value.okWide P W .any base t v):∃ cs,v=.agg cs:=by
 unfold rowType at ht;split at ht
 ·rename_i e;simp only[Value.okWide,e]at h;obtain⟨cs,h1,_⟩:=h;exact⟨cs,h1⟩
 ·rename_i e;simp only[Value.okWide,e]at h;obtain⟨cs,h1,_⟩:=h;exact⟨cs,h1⟩
 ·cases ht
theorem qcj {H:Type} {enc:TypeId×Value→H} {P:Program} {f:Nat} {fn:Func} {s:ChangeSpec} {tb:TypeId} (hmix:P.follows .mixedOrders=true) (hl:laidOutB P=true) (hb:P.underlying tb=some .bool) (hres:fn.resultTypes=#[tb])
  (hts:∀ t,t∈fn.params.toList→P.readableRec t=true∧t<P.types.size) (hv:s.vars=[])
  (hs:∀ ds:List (DataW H),ds.length=fn.params.toList.length→s.fn H (ds++[])={ results:=[.lit (.bool true)],args:=ds })
  (hrun:∀ (W:World) (vs:List Value) (ds:List (DataW H)) (ps:List MemPlace),(∀ (j:Nat) t v,fn.params.toList[j]? = some t→vs[j]? = some v→qak P t=true→v.cells.toList=[v])→(∀ (j:Nat) t v,fn.params.toList[j]? = some t→vs[j]? = some v→rowType P t=true→∃ cs,v=.agg cs)→DataW.TrodAll enc P W 0 (fun _=>true) true fn.params.toList vs ds ps→∃ avs,ArgsR (memOf W) avs vs∧Run P (.call f avs (.bool true)))
  (W:World) (hgl:GlobW W) (base:Nat) (args:Array Value) (ds gs:List (DataW H)) (before:List MemPlace) (hval:∀ (j:Nat) t v,fn.params[j]? = some t→args[j]? = some v→Value.okWide P W .any base t v) (hW:DataW.Whole enc P fn.params.toList s.vars false W args.toList ds gs before) :
  Calls P f args W fun e W'=>∃ v,e=.returned v∧s.post enc P fn false true false false W args v W':=by
 have hW':=hW;obtain⟨p,q,hA,hV,rfl,hfz,hnd⟩:=hW;rw[hv]at hV;obtain⟨rfl,rfl⟩:=trodVars_none hV;obtain⟨avs,⟨h1,h2⟩,hr⟩:=hrun W args.toList ds p (fun j t v h1 h2 hc=>qfM hc (hval j t v (by simpa using h1) (by simpa using h2))) (fun j t v h1 h2 hc=>qfx hc (hval j t v (by simpa using h1) (by simpa using h2))) hA
 have hlen:ds.length=fn.params.toList.length:=by
  have:∀ {ts:List TypeId} {vs:List Value} {ds:List (DataW H)} {ps:List MemPlace},DataW.TrodAll enc P W 0 (fun _=>true) true ts vs ds ps→ds.length=ts.length:=by
   intro ts
   induction ts with
   | nil=>intro vs ds ps h;obtain⟨_,rfl,_⟩:=trodAll_nil h;rfl
   | cons t ts ih =>
    intro vs ds ps h;obtain⟨v,vs',d,ds',p,q,rfl,rfl,rfl,_,h2⟩:=trodAll_cons h;simp[ih h2]
  exact this hA
 have hc:=Uj hmix hr (memOf W) W args.toList (fun g hg=>(hgl g hg).imp fun m hm=>UP hm rfl) (qeo W) h1 h2;have hc':Calls P f args W _:=hc
 refine hc'.mono fun e W' hh=>?_
 obtain⟨v,M',he,hB,_,_,_,hR,_⟩:=hh;cases hR;subst he;have hfn:=hs ds hlen;refine⟨_,rfl,ds,[],p++[],[],p,[],hW',?_,?_,?_,?_,fun h=>by cases h⟩
 ·rw[hfn,hres];exact trodAll_mk1 (shut_bool hb _)
 ·rw[hfn];exact UA hl hts hA (fun x hx=>hB.same (hW'.lt x (by simp[hx]))) (fun x hx=>by simpa using hW'.lt x (by simp[hx]))
 ·rw[hv,hfn];rfl
 ·exact World.keptBut_mono (fun x hx=>⟨hx,Or.inr (Or.inl (by simpa using hx))⟩) (hB.frame (·∈p++[]))
end Go.AM
namespace Go.AM
open Go.RowKit Go.Sort Go.Proofs
theorem UT (zs:List Int) (k:IntKind):flat (zs.map (AV.int k))=zs.map (AV.int k):=by
 unfold flat;rw[List.flatMap_map];simp only[AV.cells];exact List.map_eq_flatMap.symm
theorem qfy {O:Gh} {M:Mem} {w:World} {e e':Nat} {k:IntKind} {zs:List Int} {v:Value} (hne:zs≠[]) (ho:Sat O M w 2000000 (.obj e 1 (zs.map (AV.int k))) undef) (hv:ValOk O M w (.sb 2000000 e' 1 0 zs.length) v) :
  ∃ g cap cur,v=.slice (some ⟨g,0,none⟩) zs.length cap∧O true 2000000=some g∧RowAt w g cur e∧zs.length≤cap∧cap≤maxLen∧cur.size=O.siz 2000000∧zs.length≤cur.size∧(∀ o,M g o=none)∧Holds (Value.int k) w g 0 zs.toArray:=by
 obtain⟨k0,k1,k2,k3⟩:=ho;obtain⟨q1,q2⟩:=hv;have hpos:0<zs.length:=List.length_pos_iff.2 hne
 rcases q2 with ⟨h0,_⟩ | ⟨g,cap,rfl,p1,p2,p3,p4⟩
 ·omega
 rcases k3 with ⟨h0,_⟩ | ⟨g',cur,r1,r2,r3,r4,r5,r6⟩
 ·exact absurd (List.map_eq_nil_iff.1 h0) hne
 have hgg:g'=g:=by rw[p1]at r1;exact (Option.some.inj r1).symm
 subst hgg;rw[UT]at r6
 have r4':zs.length≤cur.size:=by simpa using r4
 refine⟨g',cap,cur,rfl,p1,r2,p3,by omega,r3,r4',r5,fun j hj=>?_⟩
 have hj:j<zs.length:=by simpa using hj
 have hjc:j<cur.size:=by omega
 have h1:=r6 j (.int k zs[j]) cur[j] (by simp[hj]) (by simp[hjc]);have h2:cur[j]=Value.int k zs[j]:=h1.int_inv;obtain⟨el,fz,hb,hfz⟩:=r2;constructor
 ·simp only[World.cell?,hb,Nat.zero_add,Option.isSome_none,A6,if_false];rw[A7 hjc,h2];simp[hj]
 ·simp only[World.frozen?,hb,Nat.zero_add,Bool.and_eq_false_iff,decide_eq_false_iff_not]
  rcases hfz with ⟨_,rfl⟩ | ⟨_,hf⟩
  ·exact .inr (by simp)
  ·exact .inl (by omega)
theorem qec {O:Gh} {M:Mem} {w w':World} {e g n:Nat} {k:IntKind} {zs ys:List Int} {os:Array Obj} {cur:Array Value} (hlen:ys.length=zs.length) (hne:zs≠[]) (ho:Sat O M w 2000000 (.obj e 1 (zs.map (AV.int k))) undef)
  (hC:Cons M w) (hO:∀ i c g,O i c=some g→i=true∧g<w.heap.size) (hOi:∀ c c' g,O true c=some g→O true c'=some g→c=c') (hg:O true 2000000=some g)
  (hw:w'=grow (Go.Sort.putRow (Value.int k) (Sort.ahead w n) g 0 ys.toArray) os) :
  BelowD (fun k=>k<w.heap.size∧∀ c,O true c≠some k) w w'∧Cons M w'∧(∀ i c g,O i c=some g→g<w'.heap.size∧(w.heap.size≤g∨∃ c',O true c'=some g))∧(∀ i i' c c' g,O i c=some g→O i' c'=some g→i=i'∧c=c') ∧
   Sat O M w' 2000000 (.obj e 1 (ys.map (AV.int k))) undef:=by
 obtain⟨k0,k1,k2,k3⟩:=ho
 rcases k3 with ⟨h0,_⟩ | ⟨g',cur,r1,r2,r3,r4,r5,r6⟩
 ·exact absurd (List.map_eq_nil_iff.1 h0) hne
 have hgg:g'=g:=by rw[hg]at r1;exact (Option.some.inj r1).symm
 subst hgg;have hgs:g'<w.heap.size:=(hO _ _ _ hg).2;obtain⟨el,fz,hb,hfz⟩:=r2
 have hb':w'.heap[g']? = some (.cells (putCells (Value.int k) 0 ys.toArray cur) el fz):=by
  subst hw;rw[heap_grow_old _ _ (by simpa using hgs)];simp[Go.Sort.putRow,mapBlock,Sort.ahead,D0,hb,onCells]
 have hbk:∀ q,q<w.heap.size→q≠g'→w'.heap[q]? = w.heap[q]?:=by
  intro q hq hne2;subst hw;rw[heap_grow_old _ _ (by simpa using hq)]
  have:g'≠q:=fun e=>hne2 e.symm
  simp[Go.Sort.putRow,mapBlock,Sort.ahead,D0,this]
 have hsz:w.heap.size≤w'.heap.size:=by subst hw;simp[grow]
 have hps:(putCells (Value.int k) 0 ys.toArray cur).size=cur.size:=by simp[putCells]
 refine⟨⟨by subst hw;rfl,by subst hw;rfl,by subst hw;rfl,hsz,fun q hq=>hbk q hq.1 fun e1=>hq.2 2000000 (by rw[e1];exact hg)⟩,?_,fun i c g hh=>?_,fun i i' c c' g hh hh'=>?_,?_⟩
 ·intro b o u hu;have h1:=hC b o u hu;have hb2:=VE h1
  have hne2:b≠g':=fun e1=>by rw[e1,r5]at hu;cases hu
  rw[Xq (hbk b hb2 hne2)];exact h1
 ·obtain⟨rfl,h2⟩:=hO i c g hh;exact⟨Nat.lt_of_lt_of_le h2 hsz,.inr ⟨c,hh⟩⟩
 ·obtain⟨rfl,_⟩:=hO i c g hh;obtain⟨rfl,_⟩:=hO i' c' g hh';exact⟨rfl,hOi c c' g hh hh'⟩
 ·refine⟨k0,fun y hy=>?_,by simpa[hlen] using k2,.inr ⟨g',_,hg,⟨el,fz,hb',?_⟩,by rw[hps];exact r3,by rw[hps];simpa[hlen] using r4,r5,fun j c u hc hu=>?_⟩⟩
  ·obtain⟨z,_,rfl⟩:=List.mem_map.1 hy;exact⟨rfl,rfl⟩
  ·rcases hfz with hf | ⟨h1,h2⟩
   ·exact .inl hf
   ·exact .inr ⟨h1,by rw[hps];exact h2⟩
  ·rw[UT]at hc;have hj:=(List.getElem?_eq_some_iff.1 hc).1;rw[A2]at hj
   have hjc:j<cur.size:=by
    have:zs.length≤cur.size:=by simpa using r4
    omega
   rw[A5,A0 hj]at hc;cases hc
   have:(putCells (Value.int k) 0 ys.toArray cur)[j]? = some (Value.int k ys[j]):=by
    simp[putCells,hjc,hj]
   rw[this]at hu;cases hu;exact .int _ _
end Go.AM
namespace Go.Proofs
open Go.Shelf
def Try.lDel_ren:Go.Shelf.Ren:=⟨fun | 45=>91 | n=>n,fun | 22=>24 | 23=>3 | 3=>3 | 4=>4 | 0=>0 | n=>n,fun | n=>n⟩
theorem Try.lDel:Go.Proofs.SlLaysE.n45 Try.prog Try.lDel_ren:={
 mixed:=by kernel_rfl
 f45:=⟨Try.f91.name,by decide,Try.func91.trans (congrArg some (by kernel_rfl))⟩
 t0:=Try.underlying0
 a0:=Try.isAgg0
 z0:=Try.sizeOf0
 v0:=Try.zeroValue0
 t3:=Try.underlying3
 a3:=Try.isAgg3
 z3:=Try.sizeOf3
 v3:=Try.zeroValue3
 t4:=Try.underlying4
 a4:=Try.isAgg4
 z4:=Try.sizeOf4
 v4:=Try.zeroValue4
 t22:=Try.underlying24
 a22:=Try.isAgg24
 z22:=Try.sizeOf24
 v22:=Try.zeroValue24
 a23:=Try.isAgg3
 z23:=Try.sizeOf3 }
end Go.Proofs
namespace Go.AM
open Go.RowKit Go.Sort Go.Proofs Go.Lib
theorem delInfo:∃ i0,Try.prog.info? 3=some i0∧i0.size=1:=by
 have h:(Try.prog.info? 3).map (·.size)=some 1:=by kernel_rfl
 cases hi:Try.prog.info? 3 with
 | none=>rw[hi]at h;cases h
 | some i0=>rw[hi]at h;exact⟨i0,rfl,Option.some.inj h⟩
theorem delete1 {a1:List Int} {i:Nat} (hi:i<a1.length) (hl:a1.length≤4611686018427387904) :
  CallMOk Try.prog 91 [.sb 2000000 3 1 0 a1.length,.int .i64 (i:Nat),.int .i64 ((i:Nat)+1)] [(2000000,.obj 3 1 (a1.map (AV.int .i64)))] (.sb 2000000 3 1 0 (a1.length - 1)) [(2000000,.obj 3 1 ((a1.take i++a1.drop (i+1)++[0]).map (AV.int .i64)))]:=by
 intro M O w vs hG hC hlen hO hOi hR hH
 have h0:a1≠[]:=fun e=>by rw[e]at hi;cases hi
 obtain⟨v,v1,v2,rfl⟩:∃ v v1 v2,vs=[v,v1,v2]:=by
  match vs,hlen with
  | [v,v1,v2],_=>exact⟨v,v1,v2,rfl⟩
 have hv:=hR 0 _ v rfl rfl;obtain rfl:v1=.int .i64 (i:Nat):=(hR 1 _ v1 rfl rfl).1.int_inv;obtain rfl:v2=.int .i64 ((i:Nat)+1):=(hR 2 _ v2 rfl rfl).1.int_inv;have ho:=hH 2000000 (.obj 3 1 (a1.map (AV.int .i64))) rfl;obtain⟨g,cap,cur,rfl,p1,p2,p3,p4,p5,p6,p7,p8⟩:=qfy h0 ho hv
 have hsz:a1.toArray.size=a1.length:=by simp
 obtain⟨i0,hi0,hz1⟩:=delInfo;have hcon:=AnyE.slices_Delete Try.lDel (Value.int .i64) (fun _=>rfl) (0:Int) Try.zeroValue3 i0 hi0 hz1 g 0 cap i (i+1) a1.toArray w p8 (by rw[hsz];omega) (by unfold maxLen at p4;omega) (by omega) (by rw[hsz];omega);change Calls Try.prog 91 _ _ _ at hcon;rw[hsz]at hcon
 have e1:((i+1:Nat):Int)=(i:Int)+1:=by omega
 rw[e1]at hcon;refine hcon.mono ?_
 rintro ed w' ⟨rfl,q,hw⟩
 have e2:i+1 - i=1:=by omega
 rw[e2]at hw ⊢
 have hys:(a1.take i++a1.drop (i+1)++[0]).length=a1.length:=by
  simp;omega
 obtain⟨b1,b2,b3,b4,b5⟩:=qec (cur:=cur) hys h0 ho hC hO hOi p1 (n:=q) (os:=#[]) (w':=w') (by rw[grow_empty];exact hw);refine⟨_,M,O,rfl,b1,Sub.refl M,b2,fun _ _ _ _=>rfl,b3,b4,fun c _ _=>Gh.Eq1.refl O c,?_,fun id x hx=>?_⟩
 ·obtain⟨q1,q2⟩:=hv;refine⟨by omega,?_⟩
  rcases q2 with ⟨h1,_⟩ | ⟨g',cap',hvv,s1,s2,s3,s4⟩
  ·exact absurd (List.length_eq_zero_iff.1 h1) h0
  ·cases hvv;exact .inr ⟨g,cap,rfl,p1,s2,by show a1.length - 1≤cap;omega,s4⟩
 ·simp only[look]at hx;split at hx
  ·rename_i hb;cases hx;obtain rfl:=(D1 hb).symm;exact b5
  ·cases hx
end Go.AM
namespace Go.AM
open Go.RowKit
open Go.ChangeMaps (setBlock)
open Go.MapKept (heap_set)
section
variable {bs:Base} {n:Nat} {M:Mem} {O:Gh} {env:Env} {a:Act} {w:World} {P:Program}
theorem qcK (ty:TypeId) {g bm since c0:Nat} {seen:Array Nat} {es:Array MapEntry} {clock:Nat} (hg:w.heap[g]? = some (.mapIter (some bm) since seen c0)) (hb:w.heap[bm]? = some (.map es clock)) (hold:∀ x∈es.toList,x.born<since) (hsc:since≤c0) :
  ((leftOf es seen).size=0∧(Instr.next (.pointer (some ⟨g,0,none⟩)) false ty).run P w=.ok (.tuple #[.bool false]) w) ∨
  ∃ (j:Nat) (hj:j<(leftOf es seen).size) (w1:World),(w1=w∨w1=w.drew)∧(Instr.next (.pointer (some ⟨g,0,none⟩)) false ty).run P w=.ok (.tuple #[.bool true,(leftOf es seen)[j].key,(leftOf es seen)[j].val]) (setBlock w1 g (.mapIter (some bm) since (seen.push (leftOf es seen)[j].born) clock)):=by
 simp only[Instr.next,getObj,Sem.run_bind,A3,hg,hb,B9,next_test_false seen es since c0 hold hsc,A6,if_false];unfold leftOf
 have hmem:∀ x∈(Array.filter (fun e=>!seen.contains e.born) es).toList,x.born<since:=fun x hx=>hold x (by simp at hx ⊢;exact hx.1)
 generalize Array.filter (fun e=>!seen.contains e.born) es=L at hmem ⊢;have e1:L.filter (fun x=>decide (x.born<since))=L:=Array.filter_eq_self.2 (fun x hx=>by simpa using hmem x (by simpa using hx))
 have e2:L.filter (fun x=>decide (x.born ≥ since))=#[]:=by
  rw[Array.filter_eq_empty_iff];intro x hx;have:=hmem x (by simpa using hx);simp;omega
 simp only[e1,e2,Array.append_empty];by_cases h0:L.size=0
 ·left;have:L=#[]:=Array.eq_empty_of_size_eq_zero h0;subst this;refine⟨rfl,?_⟩;simp[choose,A3,Question.forced]
 ·right
  have hne:L.isEmpty=false:=by simp[Array.isEmpty,h0]
  simp only[hne,A6,if_false,Array.empty_append,Array.size_map]
  have hch:∃ (j:Nat) (w1:World),j<L.size∧(w1=w∨w1=w.drew)∧(choose (Question.mapNext L.size)).run P w=.ok j w1:=by
   by_cases hf:L.size≤1
   ·exact⟨0,w,by omega,.inl rfl,by simp[choose,A3,Question.forced,hf]⟩
   ·exact⟨_,w.drew,Nat.mod_lt _ (by omega),.inr rfl,by
     simp only[choose,A3,Question.forced,decide_eq_true_eq,hf,if_false,Question.cut]
     rfl⟩
  obtain⟨j,w1,hj,hw1,hrun⟩:=hch;refine⟨j,hj,w1,hw1,?_⟩
  have hg1:w1.heap[g]? = some (.mapIter (some bm) since seen c0):=by
   rcases hw1 with rfl | rfl
   ·exact hg
   ·exact hg
  have hset:∀ o':Obj,(setObj g o').run P w1=.ok () (setBlock w1 g o'):=fun o'=>by
   simp only[setObj,A3,hg1];rfl
  simp only[hrun,Array.getElem?_map,A7 hj,Option.map_some,Sem.run_bind,hset,B9];rfl
theorem Nx {α:Type} (f:α→Nat):∀ (l:List α) (j:Nat) (hj:j<l.length),(l.map f).Nodup→l.filter (fun x=>f x != f l[j])=l.eraseIdx j
 | [],j,hj,_=>by simp at hj
 | x::l,0,hj,hn=>by
  have hn':=List.nodup_cons.1 hn;rw[C4];simp only[List.getElem_cons_zero,bne_self_eq_false,A6,if_false,List.eraseIdx_cons_zero];rw[List.filter_eq_self];intro y hy;simp only[bne_iff_ne,ne_eq]
  exact fun e=>hn'.1 (by rw[← e];exact List.mem_map.2 ⟨y,hy,rfl⟩)
 | x::l,j+1,hj,hn=>by
  have hn':=List.nodup_cons.1 hn
  have hj':j<l.length:=by simpa using hj
  rw[C4];simp only[D2,D3]
  have:(f x != f l[j])=true:=by
   simp only[bne_iff_ne,ne_eq]
   exact fun e=>hn'.1 (by rw[e];exact List.mem_map.2 ⟨l[j],List.getElem_mem hj',rfl⟩)
  rw[if_pos this,Nx f l j hj' hn'.2]
theorem Ht {es:Array MapEntry} {seen:Array Nat} (hn:(es.toList.map (·.born)).Nodup) {j:Nat} (hj:j<(leftOf es seen).size):(leftOf es (seen.push (leftOf es seen)[j].born)).toList=(leftOf es seen).toList.eraseIdx j:=by
 have hnl:((leftOf es seen).toList.map (·.born)).Nodup:=by
  unfold leftOf;rw[C5];exact hn.sublist (List.filter_sublist.map _)
 have h:=Nx (fun e:MapEntry=>e.born) (leftOf es seen).toList j (by simpa using hj) hnl;rw[← h]
 have hb:(leftOf es seen).toList[j]'(by simpa using hj)=(leftOf es seen)[j]:=by simp
 rw[hb];generalize (leftOf es seen)[j].born=b;unfold leftOf;rw[C5,C5,List.filter_filter]
 refine List.filter_congr fun x _=>?_
 simp only[Array.contains_push,Bool.not_or];rw[Bool.and_comm];rfl
theorem LeftOk0.erase {es:Array MapEntry} {seen:Array Nat} {ks vs:List AV} (h:LeftOk0 M es seen ks vs) (hn:(es.toList.map (·.born)).Nodup) {j:Nat} (hj:j<(leftOf es seen).size):LeftOk0 M es (seen.push (leftOf es seen)[j].born) (ks.eraseIdx j) (vs.eraseIdx j):=by
 obtain⟨h1,h2,h3,h4⟩:=h;have hl:=Ht hn hj
 have hsz:(leftOf es (seen.push (leftOf es seen)[j].born)).size=(leftOf es seen).size - 1:=by
  rw[← D4,hl,A8,if_pos (by simpa using hj),D4]
 have hat:∀ i e,(leftOf es (seen.push (leftOf es seen)[j].born))[i]? = some e→(leftOf es seen)[if i<j then i else i+1]? = some e:=by
  intro i e he;rw[← D5,hl,C6]at he;rw[← D5];split at he
  ·rename_i hij;rw[if_pos hij];exact he
  ·rename_i hij;rw[if_neg hij];exact he
 refine⟨by rw[A8,if_pos (by omega),hsz,h1],by rw[A8,if_pos (by omega),hsz,h2],fun i k e hk he=>?_,fun i v e hv he=>?_⟩
 ·rw[C6]at hk;refine h3 (if i<j then i else i+1) k e ?_ (hat i e he);split at hk
  ·rename_i hij;rw[if_pos hij];exact hk
  ·rename_i hij;rw[if_neg hij];exact hk
 ·rw[C6]at hv;refine h4 (if i<j then i else i+1) v e ?_ (hat i e he);split at hv
  ·rename_i hij;rw[if_pos hij];exact hv
  ·rename_i hij;rw[if_neg hij];exact hv
def leftE:AV→Option (List AV×List AV)
 | .hob 1 ks vs=>some (ks,vs)
 | .hob 2 (_::ks) (_::vs)=>some (ks,vs)
 | _=>none
def nextEnt (ks vs:List AV) (j:Nat):AV:=.hob 2 (ks.getD j .und::ks.eraseIdx j) (vs.getD j .und::vs.eraseIdx j)
theorem qem (h:Inv bs n M O env a w) {o:Oper} {x:Operand} (ho:o.op=.next x false) {id:Nat} {y:AV} {ks vs:List AV} (hx:aop env x=some (.mb 1 id)) (hl:look env id=some y) (hy:leftE y=some (ks,vs))
  {envF:Env} (hF:eput n o.dst (.tup [.bool false]) env=some envF) {envT:Nat→Env} (hT:∀ j,j<ks.length→eput n o.dst (.tup [.bool true,.top,.top]) (ins id (nextEnt ks vs j) env)=some (envT j)) :
  (ks=[]∧vs=[]∧Leads P bs n o a w envF)∨∃ j,j<ks.length∧ks.length=vs.length∧Leads P bs n o a w (envT j):=by
 obtain⟨g,g1,g2⟩:=qD h hx;have hs:=h.slots id _ hl
 have hex:execOp a.eval o=vS (Instr.next (a.eval x) false o.type):=by unfold execOp;rw[ho];rfl
 have hfalse:R M (.tup [.bool false]) (.tuple #[.bool false]):=R.tup (vs:=[.bool false]) rfl fun j c v hc hv=>by
  match j,hc,hv with
  | 0,hc,hv=>cases hc;cases hv;exact .bool _
 have htrue:∀ k v:Value,R M (.tup [.bool true,.top,.top]) (.tuple #[.bool true,k,v]):=fun k v=>R.tup (vs:=[.bool true,k,v]) rfl fun j c u hc hu=>by
  match j,hc,hu with
  | 0,hc,hu=>cases hc;cases hu;exact .bool _
  | 1,hc,hu=>cases hc;exact .top _
  | 2,hc,hu=>cases hc;exact .top _
 obtain⟨yk,hyk,key⟩:∃ kd,O true id=some g∧(∀ o,M g o=none)∧y.ent=true∧((∃ c s,w.heap[g]? = some (.mapIter none c s 0)∧ks=[]∧vs=[]) ∨
   ∃ (b:Nat) (es:Array MapEntry) (clock:Nat) (seen:Array Nat) (last:Nat),w.heap[g]? = some (.mapIter (some b) clock seen last)∧clock≤last∧M b 0=some (mapCell es clock)∧MapKept.Stamped es clock∧LeftOk M es seen ks vs)∧kd=():=by
  unfold leftE at hy;split at hy
  ·cases hy;obtain⟨g',k1,k2,k3⟩:=hs
   have:g'=g:=by rw[k1]at g1;exact Option.some.inj g1
   subst this;exact⟨(),k1,k2,rfl,k3,rfl⟩
  ·cases hy;obtain⟨g',k1,k2,b,es,clock,seen,e,k,v,ks',vs',q1,q2,q3,q4,q5,q6,q7,q8,q9⟩:=hs
   have:g'=g:=by rw[k1]at g1;exact Option.some.inj g1
   subst this;cases q1;cases q2;exact⟨(),k1,k2,rfl,.inr ⟨b,es,clock,_,clock,q3,A4 _,q4,q5,q9⟩,rfl⟩
  ·cases hy
 obtain⟨k2,k3,key,_⟩:=key
 rcases key with ⟨c,s,q1,rfl,rfl⟩ | ⟨b,es,clock,seen,last,q1,q2,q3,q4,q5⟩
 ·left;refine⟨rfl,rfl,.tuple #[.bool false],w,M,O,.inl ?_,Yr h (x:=.tup [.bool false]) ⟨hfalse,trivial⟩ hF⟩;rw[hex,g2];refine VD ?_;simp[Instr.next,getObj,A3,q1,B9]
 ·have hb:=qch (h.cons _ _ _ q3);obtain⟨hb1,hb2,hb3⟩:=q4
  rcases qcK (P:=P) o.type q1 hb hb1 q2 with ⟨r1,r2⟩ | ⟨j,hj,w1,hw1,r2⟩
  ·left;obtain⟨ks',vs',hp,l1,l2,_,_⟩:=q5;have hl:=hp.length;have hl2:=hp.1;refine⟨D6 (by omega),D6 (by omega),.tuple #[.bool false],w,M,O,.inl ?_,Yr h (x:=.tup [.bool false]) ⟨hfalse,trivial⟩ hF⟩;rw[hex,g2];exact VD r2
  ·right;obtain⟨ks',vs',hp,l1,l2,l3,l4⟩:=q5
   have hjk:j<ks'.length:=by omega
   have hjv:j<vs'.length:=by omega
   obtain⟨i,hi,ei,ev,hpe⟩:=hp.take hjk;rw[A0 hjk]at ei;rw[A0 hjv]at ev;refine⟨i,hi,hp.1,?_⟩
   have hg1:w1.heap[g]? = some (.mapIter (some b) clock seen last):=by
    rcases hw1 with rfl | rfl
    ·exact q1
    ·exact q1
   have hgr:w.grownBy (setBlock w1 g (.mapIter (some b) clock (seen.push (leftOf es seen)[j].born) clock)) (some g):=by
    rcases hw1 with rfl | rfl
    ·exact XB q1
    ·obtain⟨t1,t2,t3,t4,t5⟩:=XB (o':=.mapIter (some b) clock (seen.push (leftOf es seen)[j].born) clock) hg1;exact⟨t1,t2,t3,t4,t5⟩
   have hkat:ks.getD i .und=ks'[j]:=by rw[A9,ei];rfl
   have hvat:vs.getD i .und=vs'[j]:=by rw[A9,ev];rfl
   have hent:Inv bs n M O (ins id (nextEnt ks vs i) env) a (setBlock w1 g (.mapIter (some b) clock (seen.push (leftOf es seen)[j].born) clock)):=by
    refine h.setEnt hl k3 rfl hyk hgr k2 ⟨g,hyk,k2,b,es,clock,seen,(leftOf es seen)[j],ks'[j],vs'[j],ks.eraseIdx i,vs.eraseIdx i,by rw[hkat],by rw[hvat],(heap_set hg1).1,q3,⟨hb1,hb2,hb3⟩,?_,?_,?_,⟨_,_,hpe,LeftOk0.erase ⟨l1,l2,l3,l4⟩ hb2 hj⟩⟩
    ·have hm:(leftOf es seen)[j]∈leftOf es seen:=Array.getElem_mem hj;unfold leftOf at hm;have:=(Array.mem_filter.1 hm).1;exact Array.mem_toList_iff.2 this
    ·exact l3 j _ _ (A0 hjk) (A7 hj)
    ·exact l4 j _ _ (A0 hjv) (A7 hj)
   refine⟨.tuple #[.bool true,(leftOf es seen)[j].key,(leftOf es seen)[j].val],_,M,O,.inl ?_,Yr hent (x:=.tup [.bool true,.top,.top]) ⟨htrue _ _,trivial⟩ (hT i hi)⟩;rw[hex,g2];exact VD r2
def CodeP (P:Program) (n:Nat) (c:Code) (S:Ex→Env→Prop) (e:Env):Prop :=
 ∀ (bs:Base) (M:Mem) (O:Gh) (a:Act) (w:World),Inv bs n M O e a w→∀ (Q:Exit→Act→World→Prop),(∀ ex e' a' w' M' O',S ex e'→Inv bs n M' O' e' a' w'→Q (toExit ex) a' w')→c.wp P Q a w
theorem CodeP.of (hmix:P.follows .mixedOrders=true) {c:Code} {S:Ex→Env→Prop} (h:W P n c S env):CodeP P n c S env:=by
 obtain⟨ex,e1,hr,hs⟩:=h;intro bs M O a w hi Q hQ
 exact (Uj hmix hr).1 bs M O a w hi Q fun a' w' M' O' h'=>hQ ex e1 a' w' M' O' hs h'
def ThenP (c:Code) (P:Program) (n:Nat) (S:Ex→Env→Prop):Ex→Env→Prop
 | .normal,e=>CodeP P n c S e
 | ex,e=>S ex e
theorem CodeP.seq {x y:Code} {S:Ex→Env→Prop} (h:CodeP P n x (ThenP y P n S) env):CodeP P n (.seq x y) S env:=by
 intro bs M O a w hi Q hQ;refine wp_seq (h bs M O a w hi _ fun ex e' a' w' M' O' hs h'=>?_)
 cases ex with
 | normal=>exact hs bs M' O' a' w' h' Q hQ
 | ret=>exact hQ .ret e' a' w' M' O' hs h'
 | exit i=>exact hQ (.exit i) e' a' w' M' O' hs h'
theorem CodeP.mono {c:Code} {S S':Ex→Env→Prop} (h:CodeP P n c S env) (hs:∀ ex e,S ex e→S' ex e):CodeP P n c S' env:=by
 intro bs M O a w hi Q hQ
 exact h bs M O a w hi Q fun ex e' a' w' M' O' h1 h'=>hQ ex e' a' w' M' O' (hs _ _ h1) h'
theorem CodeP.block {id:Nat} {c:Code} {S:Ex→Env→Prop} (h:CodeP P n c (fun ex e=>S (ex.unblock id) e) env):CodeP P n (.block id c) S env:=by
 intro bs M O a w hi Q hQ;refine wp_block (h bs M O a w hi _ fun ex e' a' w' M' O' hs h'=>?_);have:=hQ _ e' a' w' M' O' hs h'
 cases ex with
 | normal=>exact this
 | ret=>exact this
 | exit i =>
  simp only[toExit,Exit.inBlock];simp only[Ex.unblock]at this;split at this
  ·rename_i hb;rw[if_pos (D1 hb)];exact this
  ·rename_i hb;rw[if_neg (fun e=>by subst e;simp at hb)];exact this
theorem CodeP.cond {c:Operand} {x y:Code} {S:Ex→Env→Prop} (b:Bool) (hc:aop env c=some (.bool b)) (ht:b=true→CodeP P n x S env) (hf:b=false→CodeP P n y S env):CodeP P n (.cond c x y) S env:=by
 intro bs M O a w hi Q hQ;have hv:=(qD hi hc).1.bool_inv;refine wp_cond hv ?_
 cases b with
 | true=>exact ht rfl bs M O a w hi Q hQ
 | false=>exact hf rfl bs M O a w hi Q hQ
def LoopS (I:Nat→Env→Prop) (S:Ex→Env→Prop) (k:Nat):Ex→Env→Prop
 | .normal,e=>∃ k',k=k'+1∧I k' e
 | ex,e=>S ex e
theorem CodeP.loop {c:Code} {S:Ex→Env→Prop} {I:Nat→Env→Prop} (hs:∀ k e,I k e→CodeP P n c (LoopS I S k) e):∀ (k:Nat) {env:Env},I k env→CodeP P n (.loop c) S env:=by
 intro k env hI
 have key:∀ (k:Nat) (e:Env),I k e→∀ (bs:Base) (M:Mem) (O:Gh) (a:Act) (w:World),Inv bs n M O e a w→∀ (Q:Exit→Act→World→Prop),(∀ ex e' a' w' M' O',S ex e'→Inv bs n M' O' e' a' w'→Q (toExit ex) a' w')→Code.rounds P c Q (k+1) a w:=by
  intro k
  induction k with
  | zero =>
   intro e hI bs M O a w hi Q hQ;rw[rounds_succ]
   refine hs 0 e hI bs M O a w hi _ fun ex e' a' w' M' O' h1 h'=>?_
   cases ex with
   | normal=>obtain⟨k',h2,_⟩:=h1;omega
   | ret=>exact hQ .ret e' a' w' M' O' h1 h'
   | exit i=>exact hQ (.exit i) e' a' w' M' O' h1 h'
  | succ k ih =>
   intro e hI bs M O a w hi Q hQ;rw[rounds_succ]
   refine hs (k+1) e hI bs M O a w hi _ fun ex e' a' w' M' O' h1 h'=>?_
   cases ex with
   | normal =>
    obtain⟨k',h2,h3⟩:=h1
    obtain rfl:k'=k:=by omega
    exact ih e' h3 bs M' O' a' w' h' Q hQ
   | ret=>exact hQ .ret e' a' w' M' O' h1 h'
   | exit i=>exact hQ (.exit i) e' a' w' M' O' h1 h'
 intro bs M O a w hi Q hQ;exact wp_loop_rounds (k+1) (key k env hI bs M O a w hi Q hQ)
theorem CodeP.next (hmix:P.follows .mixedOrders=true) {id:Nat} {ops:Array Oper} {S:Ex→Env→Prop} {o:Oper} {rest:List Oper} (hops:ops.toList=o::rest) {x:Operand} (ho:o.op=.next x false) (hw:awanted ops.toList o env=some true) {it:Nat} {y:AV} {ks vs:List AV}
  (hx:aop env x=some (.mb 1 it)) (hl:look env it=some y) (hy:leftE y=some (ks,vs)) {envF:Env} (hF:eput n o.dst (.tup [.bool false]) env=some envF) {envT:Nat→Env} (hT:∀ j,j<ks.length→eput n o.dst (.tup [.bool true,.top,.top]) (ins it (nextEnt ks vs j) env)=some (envT j))
  (h0:ks=[]→vs=[]→WO P n false ops.toList rest (S .normal) envF) (h1:∀ j,j<ks.length→ks.length=vs.length→WO P n false ops.toList rest (S .normal) (envT j)):CodeP P n (.region id ops false) S env:=by
 intro bs M O a w hi Q hQ;refine wp_region_list ?_;rw[hops]
 have hfin:∀ env1,WO P n false ops.toList rest (S .normal) env1→∀ a' w' M' O',Inv bs n M' O' env1 a' w'→wpList P ops Q rest a' w':=by
  intro env1 hwo a' w' M' O' h';obtain⟨e1,hr,hs⟩:=hwo
  have:=He (Uj hmix hr) h' (Q:=Q) fun a2 w2 M2 O2 h2=>hQ .normal e1 a2 w2 M2 O2 hs h2
  simpa using this
 simp only[wpList];rw[show yielded ops a.tmps=yielded ops.toList.toArray a.tmps by simp,jP hi hw];simp only[if_true]
 rcases qem hi ho hx hl hy hF hT with ⟨e1,e2,hL⟩ | ⟨j,hj,hj2,hL⟩
 ·exact .inl <| Ym hL fun a' w' M' O' h'=>hfin _ (h0 e1 e2) a' w' M' O' h'
 ·exact .inl <| Ym hL fun a' w' M' O' h'=>hfin _ (h1 j hj hj2) a' w' M' O' h'
def Goes (n:Nat) (e e':Env):Prop:=∀ (bs:Base) (M:Mem) (O:Gh) (a:Act) (w:World),Inv bs n M O e a w→∃ M' O',Inv bs n M' O' e' a w
theorem Goes.refl (e:Env):Goes n e e:=fun bs M O a w hi=>⟨M,O,hi⟩
theorem Goes.wk {e e1 e':Env} (h:Goes n e1 e') (he:weakE (e1.map B5) [] [] [] e=e1:=by kernel_rfl):Goes n e e':=by
 intro bs M O a w hi;obtain⟨M',O',h'⟩:=hi.freezeAll [];obtain⟨O2,h2⟩:=Inv.relabAll [] ((Inv.nilAll [] h').drop (e1.map B5))
 have h3:Inv bs n M' O2 e1 a w:=by
  rw[← he];exact h2
 exact h bs M' O2 a w h3
theorem Goes.mv {e e1 e':Env} (q:List Mv) (h:Goes n e1 e') (he:mvAll e q=e1:=by kernel_rfl):Goes n e e':=by
 subst he;intro bs M O a w hi;obtain⟨M',O',h'⟩:=hi.mvAll q;exact h bs M' O' a w h'
theorem CodeP.goes {c:Code} {S:Ex→Env→Prop} {e e':Env} (hg:Goes n e e') (h:CodeP P n c S e'):CodeP P n c S e:=by
 intro bs M O a w hi Q hQ;obtain⟨M',O',h'⟩:=hg bs M O a w hi;exact h bs M' O' a w h' Q hQ
theorem CodeP.wk {c:Code} {S:Ex→Env→Prop} {env':Env} (h:CodeP P n c S env') (he:weakE (env'.map B5) [] [] [] env=env':=by kernel_rfl):CodeP P n c S env:=CodeP.goes (Goes.wk (Goes.refl _) he) h
theorem CodeP.mv {c:Code} {S:Ex→Env→Prop} {env':Env} (q:List Mv) (h:CodeP P n c S env') (he:mvAll env q=env':=by kernel_rfl):CodeP P n c S env:=CodeP.goes (Goes.mv q (Goes.refl _) he) h
theorem CodeP.reg (hmix:P.follows .mixedOrders=true) {id:Nat} {ops:Array Oper} {draw:Bool} {S:Ex→Env→Prop} {e2:Env} (h:S .normal e2) (hd:(!draw || (orderOk ops && jS ops))=true:=by kernel_rfl) (he:stepsK P n draw ops.toList ops.toList.length ops.toList env=some e2:=by kernel_rfl):CodeP P n (.region id ops draw) S env :=
 CodeP.of hmix (W.region hd (WO.end0 he h))
def PostP (P:Program) (fn:Func) (r:AV):Ex→Env→Prop
 | .exit _,_=>False
 | _,e=>QT P fn e=some r
theorem qdC {f:Nat} {args:List AV} {r:AV} {fn:Func} {c:Code} (hf:P.funcs[f]? = some fn) (hb:fn.body=some c) (hlen:(Nat.ble args.length fn.ntmps && Nat.ble fn.ntmps 1000000)=true) (hnl:∀ e k l xs,r≠.lst e k (some l) xs) (h:CodeP P fn.ntmps c (PostP P fn r) (argsEnv 0 (args.map AV.strip))):CallOk P f args r:=by
 intro M w vs hG hC hl hR;refine calls_of_wp hf hb ?_
 have hsz:vs.toArray.size=vs.length:=by simp
 simp only[Bool.and_eq_true]at hlen;have hle:=D7 hlen.1;have hsm:=D7 hlen.2
 have hinv:Inv ⟨fun k=>k<w.heap.size,M,w,⟨fun _ _=>none,fun _=>0,fun _=>0⟩,hG⟩ fn.ntmps M ⟨fun _ _=>none,fun _=>0,fun _=>0⟩ (argsEnv 0 (args.map AV.strip)) { tmps:=vs.toArray++Array.replicate (fn.ntmps - vs.toArray.size) undef,defers:=[] } w:=by
  refine⟨by simp;omega,rfl,BelowD.refl _ _,fun k hk=>hk,hC,Sub.refl M,fun _ _ _=>rfl,fun i c g e=>by (cases e),fun i i' c c' g e=>by (cases e),⟨hsm,fun c _ _=>Gh.Eq1.refl _ c⟩,fun t x hx=>?_⟩;obtain⟨_,h2⟩:=Uq _ 0 t x hx;simp only[Nat.sub_zero,A5]at h2
  cases hz:args[t]? with
  | none=>rw[hz]at h2;cases h2
  | some z =>
   rw[hz]at h2;cases h2
   have htl:t<vs.length:=by rw[← hl];exact (List.getElem?_eq_some_iff.1 hz).1
   have hv:(vs.toArray++Array.replicate (fn.ntmps - vs.toArray.size) undef).getD t undef=vs[t]:=by
    rw[Array.getD_eq_getD_getElem?,Array.getElem?_append_left (by simpa using htl)];simp[htl]
   rw[hv];exact XX (JI (hR t z _ hz (A0 htl)).strip (Ya z))
 refine h _ _ _ _ _ hinv _ fun ex e1 a' w' M' O' hres h'=>?_
 have hbel:Below w.heap.size w w':=⟨h'.below.os,h'.below.tape,h'.below.output,h'.below.size,fun k hk=>h'.below.block k hk⟩
 have fin:QT P fn e1=some r→∃ v1,(results fn a'.tmps).run P w'=.ok v1 w'∧∃ v2 M2,Ending.returned v1=.returned v2∧Below w.heap.size w w'∧Sub M M2∧Cons M2 w'∧(∀ b o,b<w.heap.size→M2 b o=M b o)∧R M2 r v2∧OwnR M2 w.heap.size w' r v2:=by
  intro hres;obtain⟨v,hv1,hv2,hv3⟩:=ZN h' hres;refine⟨v,hv1,v,M',rfl,hbel,h'.ext,h'.cons,fun b o hb=>h'.old b o hb,hv2,?_⟩;unfold OwnR;split
  ·exact absurd rfl (hnl _ _ _ _)
  ·trivial
 cases ex with
 | normal=>exact⟨h'.defers,fin hres⟩
 | ret=>exact⟨h'.defers,fin hres⟩
 | exit id=>exact hres.elim
end
end Go.AM
namespace Go.Proofs
open Go.Shelf
def Try.lays189_ren:Go.Shelf.Ren:=⟨fun | 189=>92 | 125=>110 | 257=>113 | 128=>124 | 129=>125 | 294=>126 | 295=>127 | 296=>128 | 297=>129 | 298=>130 | 299=>131 | 216=>132 | 300=>133 | 301=>134 | 328=>140 | 329=>136 | 330=>137 | 331=>141 | 332=>142 | 215=>103 | 343=>144 | n=>n,fun | 28=>24 | 3=>3 | 46=>41 | 0=>0 | 51=>152 | 53=>154 | 4=>4 | 183=>145 | 182=>144 | 131=>149 | 5=>5 | 9=>9 | 218=>160 | 222=>164 | 228=>168 | 229=>169 | n=>n,fun | n=>n⟩
theorem Try.lays189:Go.Proofs.Lays.n189 Try.prog Try.lays189_ren:={
 mixed:=by kernel_rfl
 f125:=Try.func110.trans (congrArg some (by kernel_rfl))
 f128:=Try.func124.trans (congrArg some (by kernel_rfl))
 f129:=Try.func125.trans (congrArg some (by kernel_rfl))
 f189:=Try.func92.trans (congrArg some (by kernel_rfl))
 f215:=Try.func103.trans (congrArg some (by kernel_rfl))
 f216:=Try.func132.trans (congrArg some (by kernel_rfl))
 f257:=Try.func113.trans (congrArg some (by kernel_rfl))
 f294:=Try.func126.trans (congrArg some (by kernel_rfl))
 f295:=Try.func127.trans (congrArg some (by kernel_rfl))
 f296:=Try.func128.trans (congrArg some (by kernel_rfl))
 f297:=Try.func129.trans (congrArg some (by kernel_rfl))
 f298:=Try.func130.trans (congrArg some (by kernel_rfl))
 f299:=Try.func131.trans (congrArg some (by kernel_rfl))
 f300:=Try.func133.trans (congrArg some (by kernel_rfl))
 f301:=Try.func134.trans (congrArg some (by kernel_rfl))
 f328:=Try.func140.trans (congrArg some (by kernel_rfl))
 f329:=Try.func136.trans (congrArg some (by kernel_rfl))
 f330:=Try.func137.trans (congrArg some (by kernel_rfl))
 f331:=Try.func141.trans (congrArg some (by kernel_rfl))
 f332:=Try.func142.trans (congrArg some (by kernel_rfl))
 f343:=Try.func144.trans (congrArg some (by kernel_rfl))
 t0:=Try.underlying0
 a0:=Try.isAgg0
 z0:=Try.sizeOf0
 v0:=Try.zeroValue0
 t3:=Try.underlying3
 a3:=Try.isAgg3
 z3:=Try.sizeOf3
 v3:=Try.zeroValue3
 t4:=Try.underlying4
 a4:=Try.isAgg4
 z4:=Try.sizeOf4
 v4:=Try.zeroValue4
 t5:=Try.underlying5
 a5:=Try.isAgg5
 z5:=Try.sizeOf5
 v5:=Try.zeroValue5
 t9:=Try.underlying9
 a9:=Try.isAgg9
 z9:=Try.sizeOf9
 v9:=Try.zeroValue9
 t28:=Try.underlying24
 a28:=Try.isAgg24
 z28:=Try.sizeOf24
 v28:=Try.zeroValue24
 t46:=Try.underlying41
 a46:=Try.isAgg41
 z46:=Try.sizeOf41
 v46:=Try.zeroValue41
 t51:=Try.underlying152
 a51:=Try.isAgg152
 z51:=Try.sizeOf152
 v51:=Try.zeroValue152
 t53:=Try.underlying154
 a53:=Try.isAgg154
 z53:=Try.sizeOf154
 v53:=Try.zeroValue154
 t131:=Try.underlying149
 a131:=Try.isAgg149
 z131:=Try.sizeOf149
 v131:=Try.zeroValue149
 t182:=Try.underlying144
 a182:=Try.isAgg144
 z182:=Try.sizeOf144
 v182:=Try.zeroValue144
 t183:=Try.underlying145
 a183:=Try.isAgg145
 z183:=Try.sizeOf145
 v183:=Try.zeroValue145
 t218:=Try.underlying160
 a218:=Try.isAgg160
 z218:=Try.sizeOf160
 v218:=Try.zeroValue160
 t222:=Try.underlying164
 a222:=Try.isAgg164
 z222:=Try.sizeOf164
 v222:=Try.zeroValue164
 t228:=Try.underlying168
 a228:=Try.isAgg168
 z228:=Try.sizeOf168
 v228:=Try.zeroValue168
 t229:=Try.underlying169
 a229:=Try.isAgg169
 z229:=Try.sizeOf169
 v229:=Try.zeroValue169 }
open Go.Sort Go.RowKit in
theorem Try.slices_Sort_int (blk off cap:Nat) (zs:List Int) (w:World) (hH:Holds (Value.int .i64) w blk off zs.toArray) (hblk:blk<w.heap.size) (hsz:zs.length<4611686018427387904) :
  Calls Try.prog 92 #[.slice (some ⟨blk,off,none⟩) zs.length cap] w fun e w' =>
   e=.returned (.tuple #[])∧∃ n os,w'=grow (putRow (Value.int .i64) (Sort.ahead w n) blk off (zs.mergeSort fun x y=>decide (x≤y)).toArray) os:=Any.slices_Sort_int Try.lays189 blk off cap zs w hH hblk hsz
open Go.RowKit Go.Sort in
theorem Try.slices_Sort_int_none (p:Option Addr) (cap:Nat) (w:World) :
  Calls Try.prog 92 #[.slice p 0 cap] w fun e w'=>e=.returned (.tuple #[])∧w'=w:=Any.slices_Sort_int_none Try.lays189 p cap w
end Go.Proofs
namespace Go.AM
open Go Go.Sort Go.Proofs
theorem qdn:qbJ Try.prog 92 3:=by
 intro zs w g cap cur hg hsz hlt htake
 have hlen:(sortI zs).length=zs.length:=by simp[sortI]
 refine (Try.slices_Sort_int g 0 cap zs w (holds_of_blockI hg htake) (Array.getElem?_eq_some_iff.1 hg).1 hlt).mono ?_
 rintro e w' ⟨rfl,n,os,rfl⟩
 obtain⟨h1,h2,h3,h4,h5⟩:=grownBy_sortedI (w:=w) (g:=g) (n:=n) (os:=os) (zs.mergeSort fun x y=>decide (x≤y)).toArray;refine⟨rfl,h1,h2,h3,h4,fun k hk hne=>h5 k hk (fun e=>hne (Option.some.inj e)),_,heap_sortedI _ hg,by simp[putCells],?_⟩;have:=take_putCellsI cur (sortI zs) (by omega);rw[hlen]at this;exact this
end Go.AM
namespace Go.AM
open Go Go.Sort Go.Proofs
theorem qdR:CallMOk Try.prog 92 [.sb 2000000 3 1 0 0] [(2000000,.obj 3 1 [])] (.tup []) [(2000000,.obj 3 1 [])]:=by
 intro M O w vs hG hC hlen hO hOi hR hH
 obtain⟨v,rfl⟩:∃ v,vs=[v]:=by
  match vs,hlen with
  | [v],_=>exact⟨v,rfl⟩
 obtain⟨q1,q2⟩:=hR 0 _ v rfl rfl
 obtain⟨p,cap,rfl⟩:∃ p cap,v=.slice p 0 cap:=by
  rcases q2 with ⟨_,ad,rfl⟩ | ⟨g,cap,rfl,_⟩
  ·exact⟨ad,0,rfl⟩
  ·exact⟨_,cap,rfl⟩
 refine (Try.slices_Sort_int_none p cap w).mono ?_
 rintro e w' ⟨rfl,rfl⟩
 refine⟨_,M,O,rfl,⟨rfl,rfl,rfl,A4 _,fun _ _=>rfl⟩,Sub.refl M,hC,fun _ _ _ _=>rfl,fun i c g hg=>?_,fun i i' c c' g hg hg'=>?_,fun c _ _=>Gh.Eq1.refl O c,⟨.tup (vs:=[]) rfl (fun j c v hc=>by simp at hc),trivial⟩,hH⟩
 ·obtain⟨rfl,h2⟩:=hO i c g hg;exact⟨h2,.inr ⟨c,hg⟩⟩
 ·obtain⟨rfl,_⟩:=hO i c g hg;obtain⟨rfl,_⟩:=hO i' c' g hg';exact⟨rfl,hOi c c' g hg hg'⟩
end Go.AM
namespace Go.AM
open Go.Proofs
abbrev I6:Int→AV:=AV.int .i64
abbrev W6:Int→Int:=IntKind.wrap .i64
abbrev S1 (n:Nat):AV:=.sb 2000000 5 1 0 n
abbrev O1 (l:List Int):Nat×AV:=(2000000,.obj 1000000005 1 (A1 (AV.int .u8) l))
abbrev M8 (l:List Int):List AV:=A1 (AV.int .u8) l
abbrev M6 (l:List Int):List AV:=A1 (AV.int .i64) l
structure hsOp where
 qb:Int
 qh:Int
 qi:Int
def jf (x:hsOp):AV:=.agg [.int .i64 x.qb,.int .i64 x.qh,.int .i64 x.qi]
structure rf5Op where
 qb:Int
 qh:Int
 qi:Int
def l44 (c:Option Nat) (l:List hsOp):AV:=.lst 44 3 c (A1 jf l)
def Ji (x:rf5Op):AV:=.agg [.int .i64 x.qb,.int .i64 x.qh,.int .i64 x.qi]
def l43 (c:Option Nat) (l:List rf5Op):AV:=.lst 43 3 c (A1 Ji l)
def QA:Option Int :=
 (some (-1))
def jQ (a2:hsOp) (K4:(Option Int)):List hsOp→Nat→Option Int
 | [],k1=>K4
 | x1::r1,k1=>(bif ((a2.qb == x1.qb) && ((a2.qh == x1.qh) && ((a2.qi == x1.qi) && true))) then (some (k1:Int)) else (jQ a2 K4 r1 (k1+1)))
def QU (a1:(List hsOp)) (a2:hsOp):Option Int :=
 (chk (lenOk a1) (jQ a2 (QA) a1 0))
theorem ZI (a1:(List hsOp)) (a2:hsOp) (r:Int) (h:QU a1 a2=some r):Run Try.prog (.call 74 [l44 none a1,.agg [I6 a2.qb,I6 a2.qh,I6 a2.qi]] (I6 r)):=by
 refine cW Try.func74 rfl (env0:=[(0,l44 none a1),(1,.agg [I6 a2.qb,I6 a2.qh,I6 a2.qi])]) ?_;unfold QU at h;refine W.seq ?_;let z0:=fun t=>EN ((0,l44 none a1)::(3,.ptr (.agg [I6 a2.qb,I6 a2.qh,I6 a2.qi]))::t);refine W.rT [0,3] [3] (e2:=z0 []) ?_;refine W.seq<|W.join (σ:=Unit) (fun s=>[]) (fun s=>(QA)=some r) (fun s h=>?_) (fun hK4=>?_)
 ·unfold QA at h;refine W.seq<|W.rt (e2:=[(4,I6 (-1))]) ?_;refine W.wk (e:=[(4,I6 (-1))]) ?_;cases h;exact W.rr
 refine W.sr<|WO.pq 1 (jM jf a1) (e1:=z0 [(6,l44 none a1),(7,I6 (a1.length:Int))]) ?_;let z1:=fun t=>z0 ((7,I6 (a1.length:Int))::t);refine WO.fn (e2:=z1 [(8,.int .i64 0)]) ?_;refine W.block ?_;obtain⟨hl1,h⟩:=qq h;refine W.wk (e:=z1 [(8,I6 ((0:Nat):Int))])<|W.range (σ:=Unit) a1 (fun k1 s=>z1 [(8,I6 (k1:Int))]) (fun r0 k0 s=>jQ a2 (QA) r0 k0=some r) (fun s h=>?_) (fun x1 r1 k1 s hx1 hk1 h hN1=>?_) () h
 ·rw[jQ.eq_1]at h;refine W.sr ?_;let y0:Env:=[(3,.ptr (.agg [I6 a2.qb,I6 a2.qh,I6 a2.qi])),(7,I6 (a1.length:Int)),(8,I6 ((a1).length:Int)),(9,.bool false)];refine WO.pq 0 (jB (jj (l:=a1))) (e1:=((0,l44 none a1)::y0))<|WO.fn (e2:=((0,l44 none a1)::y0)) ?_;refine W.seq<|W.cF<|W.exit<|W.wk (e:=[]) ?_;exact hK4 () h
 ·rw[jQ.eq_2]at h;refine W.sr ?_;let y1:Env:=[(3,.ptr (.agg [I6 a2.qb,I6 a2.qh,I6 a2.qi])),(7,I6 (a1.length:Int)),(8,I6 (k1:Int)),(9,.bool true)];let z2:=fun t=>EN ((0,l44 none a1)::t);refine WO.pq 0 (jB (jD hk1)) (e1:=z2 y1)<|WO.fn (e2:=z2 y1) ?_;refine W.seq<|W.cT<|W.skip ?_;let y2:Env:=[(3,.ptr (.agg [I6 a2.qb,I6 a2.qh,I6 a2.qi])),(7,I6 (a1.length:Int)),(8,I6 (k1:Int))];refine W.wk (e:=z2 y2)<|W.seq<|W.block<|W.seq ?_;let z3:=fun t=>z0 ((5,I6 (k1:Int))::(7,I6 (a1.length:Int))::(8,I6 (k1:Int))::t);refine W.rt (e2:=z3 []) ?_;refine W.sr<|WO.pq 3 (jE (f:=jf) hx1) (e1:=z3 [(11,.agg [I6 a2.qb,I6 a2.qh,I6 a2.qi]),(12,l44 none a1),(13,I6 (k1:Int)),(14,.ptr (.agg [I6 x1.qb,I6 x1.qh,I6 x1.qi]))])<|WO.fn (e2:=z3 [(16,.bool ((a2.qb == x1.qb) && ((a2.qh == x1.qh) && ((a2.qi == x1.qi) && true))))]) ?_;refine W.ch ((a2.qb == x1.qb) && ((a2.qh == x1.qh) && ((a2.qi == x1.qi) && true))) h (fun h=>?_) (fun h=>?_)
  ·refine W.seq<|W.rt (e2:=[(4,I6 (k1:Int))]) ?_;refine W.wk (e:=[(4,I6 (k1:Int))]) ?_;cases h;exact W.rr
  refine W.sw (e:=z2 y2) ?_;refine W.rg<|WO.pq 0 (jI (qS hl1 hk1)) (e1:=z1 [(8,I6 (k1:Int)),(18,I6 ((k1+1:Nat):Int))])<|WO.fn (e2:=z1 [(8,I6 ((k1+1:Nat):Int))]) ?_;exact hN1 () h
def JF (v15:(List (Int×Int))):Option (List (Int×Int)) :=
 (some v15)
def jl (a1:(List hsOp)) (a2:Int) (K5:((List (Int×Int))→Option (List (Int×Int)))):Nat→(List (Int×Int))→Int→Option (List (Int×Int))
 | 0,_,_=>none
 | m1+1,v7,v8=>(bif (decide (v8≤6)) then ((QU a1 (hsOp.mk v8 a2 0)).bind fun w12=>(chk (wfI .i64 v8) (chk (Nat.blt v7.length 1000000000) ((jl a1 a2 K5 m1) (mset keq1 v8 w12 v7) (IntKind.wrap .i64 (v8+1)))))) else (K5 v7))
def jV (fuel:Nat) (a1:(List hsOp)) (a2:Int):Option (List (Int×Int)) :=
 (jl a1 a2 (JF) fuel ([]:(List (Int×Int))) 1)
theorem JW (fuel:Nat) (a1:(List hsOp)) (a2:Int) (r:(List (Int×Int))) (h:jV fuel a1 a2=some r):Run Try.prog (.call 62 [l44 none a1,I6 a2] (mpE (AV.int .i64) (AV.int .i64) r)):=by
 refine cW Try.func62 rfl (env0:=[(0,l44 none a1),(1,I6 a2)]) ?_;unfold jV at h;refine W.seq ?_;let z0:=fun t=>EN ((0,l44 none a1)::(1,I6 a2)::t);refine W.rt (e2:=z0 []) ?_;refine W.seq ?_;let y0:Env:=[(1000007,hobE (AV.int .i64) (AV.int .i64) ([]:(List (Int×Int))))];let z1:=fun t=>z0 ((5,.mb 0 1000007)::t);refine W.rt (e2:=z1 y0) ?_;refine W.seq<|W.join (σ:=((List (Int×Int)))) (fun s=>[(5,.mb 0 1000007),(1000007,hobE (AV.int .i64) (AV.int .i64) s)]) (fun s=>(JF) s=some r) (fun v15 h=>?_) (fun hK5=>?_)
 ·unfold JF at h;refine W.seq<|W.rt (e2:=[(4,.mb 0 1000007),(1000007,hobE (AV.int .i64) (AV.int .i64) v15)]) ?_;refine W.mv [.frz 1000007] (env':=[(4,mpE (AV.int .i64) (AV.int .i64) v15)]) (by kernel_rfl)<|W.wk (e:=[(4,mpE (AV.int .i64) (AV.int .i64) v15)]) ?_;cases h;exact W.rr
 refine W.seq<|W.rt (e2:=z1 ((6,.int .i64 1)::y0)) ?_;refine W.block<|W.wk (e:=z1 ((6,.int .i64 1)::y0))<|W.fuel (σ:=((List (Int×Int))×Int)) (fun s=>z1 [(6,I6 s.2),(1000007,hobE (AV.int .i64) (AV.int .i64) s.1)]) (fun m0 s=>jl a1 a2 (JF) m0 s.1 s.2=some r) (fun s h=>?_) (fun m1 s h hN1=>?_) fuel (([]:(List (Int×Int))),1) h
 ·obtain⟨v7,v8⟩:=s;have h:jl a1 a2 (JF) 0 v7 v8=some r:=h;rw[jl.eq_1]at h;cases h
 ·obtain⟨v7,v8⟩:=s;have h:jl a1 a2 (JF) (m1+1) v7 v8=some r:=h;rw[jl.eq_2]at h;refine W.seq<|W.seq ?_;let y1:Env:=[(1000007,hobE (AV.int .i64) (AV.int .i64) v7)];let z2:=fun t=>z1 ((6,I6 v8)::t);refine W.rt (e2:=z2 ((9,.bool (decide (v8≤6)))::y1)) ?_;refine W.ch (decide (v8≤6)) h (fun h=>?_) (fun h=>?_)
  ·refine W.sw (e:=z2 y1) ?_;refine W.seq<|W.block<|W.rg ?_;obtain⟨w12,hw12,h⟩:=ql h;let z3:=fun t=>z2 ((12,.mb 0 1000007)::(13,I6 v8)::(14,l44 none a1)::(15,I6 v8)::(16,I6 a2)::(17,.agg [I6 v8,I6 a2,.int .i64 0])::(18,I6 w12)::t);refine WO.ck 6 (F:=74) (l:=[l44 none a1,.agg [I6 v8,I6 a2,.int .i64 0]]) (C:=[]) (r:=I6 w12) (ZI a1 (hsOp.mk v8 a2 0) w12 hw12) (e1:=z3 y1) ?_;obtain⟨hc13,h⟩:=qq h;obtain⟨hc14,h⟩:=qq h;let y2:Env:=[(1000007,hobE (AV.int .i64) (AV.int .i64) (mset keq1 v8 w12 v7))];refine WO.mapK (F:=(AV.int .i64)) (G:=(AV.int .i64)) (eq:=keq1) (l:=v7) (a:=v8) (b:=w12) (id:=1000007) (kt:=3) 0 (Js hc13) hc14 (e1:=z3 y2) ?_ (fun x=>by kernel_rfl) (fun x y=>by kernel_rfl);refine WO.fn (e2:=z2 y2) ?_;refine W.rt (e2:=z1 ((6,I6 (W6 (v8+1)))::y2)) ?_;exact hN1 ((mset keq1 v8 w12 v7),(W6 (v8+1))) h
  refine W.exit<|W.wk (e:=((5,.mb 0 1000007)::y1)) ?_;exact hK5 v7 h
def Zj (v12:(List hsOp)):Option (List hsOp) :=
 (some v12)
def Xv (K4:((List hsOp)→Option (List hsOp))):List rf5Op→Nat→(List hsOp)→Option (List hsOp)
 | [],k1,v6=>(K4 v6)
 | x1::r1,k1,v6=>(bif (decide ((k1:Int) > 42)) then (K4 v6) else (chk (capOk 24 ((v6++[(hsOp.mk x1.qb x1.qh x1.qi)])).length) ((Xv K4 r1 (k1+1)) (v6++[(hsOp.mk x1.qb x1.qh x1.qi)]))))
def DM (a1:(List rf5Op)):Option (List hsOp) :=
 (chk (lenOk a1) (Xv (Zj) a1 0 ([]:(List hsOp))))
theorem qeb (a1:(List rf5Op)) (r:(List hsOp)) (h:DM a1=some r):Run Try.prog (.call 18 [l43 none a1] (l44 (some 1) r)):=by
 refine cW Try.func18 rfl (env0:=[(0,l43 none a1)]) ?_;unfold DM at h;refine W.seq<|W.rt (e2:=[(0,l43 none a1)]) ?_;refine W.seq<|W.rt (e2:=[(0,l43 none a1),(3,.nils)]) ?_;refine W.seq<|W.join (σ:=((List hsOp))) (fun s=>[(3,l44 (some 10300) s)]) (fun s=>(Zj) s=some r) (fun v12 h=>?_) (fun hK4=>?_)
 ·unfold Zj at h;refine W.seq<|W.rt (e2:=[(2,l44 (some 10300) v12)]) ?_;refine W.weak [2] [] [] [(10300,some 1)] (env':=[(2,l44 (some 1) v12)]) (by kernel_rfl) ?_;cases h;exact W.rr
 refine W.sr<|WO.pq 1 (jM Ji a1) (e1:=[(0,l43 none a1),(3,.nils),(6,l43 none a1),(7,I6 (a1.length:Int))])<|WO.fn (e2:=[(3,.nils),(6,l43 none a1),(7,I6 (a1.length:Int)),(8,.int .i64 0)]) ?_;refine W.block ?_;obtain⟨hl1,h⟩:=qq h;refine W.weak [3,6,7,8] [] [(3,0,44,3,10300)] [] (env':=[(3,l44 (some 10300) ([]:(List hsOp))),(6,l43 none a1),(7,I6 (a1.length:Int)),(8,I6 ((0:Nat):Int))]) (by kernel_rfl)<|W.range (σ:=((List hsOp))) a1 (fun k1 s=>[(3,l44 (some 10300) s),(6,l43 none a1),(7,I6 (a1.length:Int)),(8,I6 (k1:Int))]) (fun r0 k0 s=>Xv (Zj) r0 k0 s=some r) (fun v6 h=>?_) (fun x1 r1 k1 s hx1 hk1 h hN1=>?_) ([]:(List hsOp)) h
 ·have h:Xv (Zj) [] (a1).length v6=some r:=h;rw[Xv.eq_1]at h;refine W.sr ?_;let y0:Env:=[(6,l43 none a1),(7,I6 (a1.length:Int)),(8,I6 ((a1).length:Int)),(9,.bool false)];let z0:=fun t=>EN ((3,l44 (some 10300) v6)::t);refine WO.pq 0 (jB (jj (l:=a1))) (e1:=z0 y0)<|WO.fn (e2:=z0 y0) ?_;refine W.seq<|W.cF<|W.exit<|W.wk (e:=z0 []) ?_;exact hK4 v6 h
 ·obtain⟨v6,rfl⟩:∃ x,x=s:=⟨s,rfl⟩;have h:Xv (Zj) (x1::r1) k1 v6=some r:=h;rw[Xv.eq_2]at h;refine W.sr ?_;let y1:Env:=[(6,l43 none a1),(7,I6 (a1.length:Int)),(8,I6 (k1:Int)),(9,.bool true)];let z1:=fun t=>EN ((3,l44 (some 10300) v6)::t);refine WO.pq 0 (jB (jD hk1)) (e1:=z1 y1)<|WO.fn (e2:=z1 y1) ?_;refine W.seq<|W.cT<|W.skip ?_;let y2:Env:=[(6,l43 none a1),(7,I6 (a1.length:Int)),(8,I6 (k1:Int))];refine W.wk (e:=z1 y2)<|W.seq<|W.block<|W.sr<|WO.pq 1 (jE (f:=Ji) hx1) (e1:=z1 [(6,l43 none a1),(7,I6 (a1.length:Int)),(8,I6 (k1:Int)),(10,I6 (k1:Int)),(11,.ptr (.agg [I6 x1.qb,I6 x1.qh,I6 x1.qi]))]) ?_;let y3:Env:=(5,.ptr (.agg [I6 x1.qb,I6 x1.qh,I6 x1.qi]))::y2;refine WO.fi [3,4,5,6,7,8] [5] (e2:=z1 ((4,I6 (k1:Int))::y3)) ?_;refine W.seq<|W.seq<|W.rt (e2:=z1 [(5,.ptr (.agg [I6 x1.qb,I6 x1.qh,I6 x1.qi])),(6,l43 none a1),(7,I6 (a1.length:Int)),(8,I6 (k1:Int)),(14,.bool (decide ((k1:Int) > 42)))]) ?_;refine W.ch (decide ((k1:Int) > 42)) h (fun h=>?_) (fun h=>?_)
  ·refine W.exit<|W.wk (e:=z1 []) ?_;exact hK4 v6 h
  refine W.sw (e:=z1 y3) ?_;refine W.rg ?_;obtain⟨hc11,h⟩:=qq h;refine WO.appendK 9 (d:=24) (e:=44) (s:=3) (bytes:=24) (xs:=(A1 jf v6)) (ys:=(A1 jf [(hsOp.mk x1.qb x1.qh x1.qi)])) (zs:=(A1 jf (v6++[(hsOp.mk x1.qb x1.qh x1.qi)]))) (env1:=[(3,l44 none v6),(5,.ptr (.agg [I6 x1.qb,I6 x1.qh,I6 x1.qi])),(6,l43 none a1),(7,I6 (a1.length:Int)),(8,I6 (k1:Int)),(15,l44 none v6),(16,.ptr (I6 x1.qb)),(17,I6 x1.qb),(18,.ptr (I6 x1.qh)),(19,I6 x1.qh),(20,.ptr (I6 x1.qi)),(21,I6 x1.qi),(22,.agg [I6 x1.qb,I6 x1.qh,I6 x1.qi]),(23,l44 (some 23) [(hsOp.mk x1.qb x1.qh x1.qi)])]) (by kernel_rfl) (List.map_append.symm) (by rw[A2];exact hc11) (e1:=[(3,l44 none v6),(5,.ptr (.agg [I6 x1.qb,I6 x1.qh,I6 x1.qi])),(6,l43 none a1),(7,I6 (a1.length:Int)),(8,I6 (k1:Int)),(15,l44 none v6),(16,.ptr (I6 x1.qb)),(17,I6 x1.qb),(18,.ptr (I6 x1.qh)),(19,I6 x1.qh),(20,.ptr (I6 x1.qi)),(21,I6 x1.qi),(22,.agg [I6 x1.qb,I6 x1.qh,I6 x1.qi]),(23,l44 (some 23) [(hsOp.mk x1.qb x1.qh x1.qi)]),(24,l44 (some 24) (v6++[(hsOp.mk x1.qb x1.qh x1.qi)]))]) (by kernel_rfl) ?_;let z2:=fun t=>EN ((3,l44 (some 24) (v6++[(hsOp.mk x1.qb x1.qh x1.qi)]))::t);refine WO.fn (e2:=z2 y2) ?_;refine W.rg<|WO.pq 0 (jI (qS hl1 hk1)) (e1:=z2 [(6,l43 none a1),(7,I6 (a1.length:Int)),(8,I6 (k1:Int)),(25,I6 ((k1+1:Nat):Int))])<|WO.fin [3,6,7,8] [] [] [(24,some 10300)] (e2:=[(3,l44 (some 10300) (v6++[(hsOp.mk x1.qb x1.qh x1.qi)])),(6,l43 none a1),(7,I6 (a1.length:Int)),(8,I6 ((k1+1:Nat):Int))]) (by kernel_rfl) (fun _ h=>h) ?_;exact hN1 (v6++[(hsOp.mk x1.qb x1.qh x1.qi)]) h
def Qz:Option Bool :=
 (some true)
def Jr (x1:hsOp) (v9:(List (Int×Bool))) (N1:((List (Int×Bool))→Option Bool)) (v18:Bool) (v19:Bool):Option Bool :=
 (bif v19 then (some false) else (chk (wfI .i64 x1.qb) (chk (Nat.blt v9.length 1000000000) (N1 (mset keq1 x1.qb v18 v9)))))
def Yp (x1:hsOp) (v9:(List (Int×Bool))) (N1:((List (Int×Bool))→Option Bool)) (v13:Bool):Option Bool :=
 (bif (decide (x1.qb<1)) then ((Jr x1 v9 N1) v13 true) else (bif (decide (x1.qb > 6)) then ((Jr x1 v9 N1) v13 true) else (bif (decide (x1.qh<0)) then ((Jr x1 v9 N1) v13 true) else (bif (decide (x1.qh > 3)) then ((Jr x1 v9 N1) v13 true) else (bif (decide (x1.qi<0)) then ((Jr x1 v9 N1) v13 true) else (bif (decide (x1.qi ≥ 6)) then ((Jr x1 v9 N1) v13 true) else (bif v13 then (bif (x1.qi != 0) then ((Jr x1 v9 N1) true true) else (chk (wfI .i64 x1.qb) ((Jr x1 v9 N1) true (mget keq1 false x1.qb v9)))) else (chk (wfI .i64 x1.qb) ((Jr x1 v9 N1) false (mget keq1 false x1.qb v9))))))))))
def Jl (K7:(Option Bool)):List hsOp→Nat→(List (Int×Bool))→Option Bool
 | [],k1,v9=>K7
 | x1::r1,k1,v9=>(bif (x1.qh == 2) then ((Yp x1 v9 (Jl K7 r1 (k1+1))) true) else ((Yp x1 v9 (Jl K7 r1 (k1+1))) (x1.qh == 3)))
def XF (a1:(List hsOp)):Option Bool :=
 (bif (decide ((a1.length:Int) > 40)) then (some false) else (chk (lenOk a1) (Jl (Qz) a1 0 ([]:(List (Int×Bool))))))
theorem Yh (a1:(List hsOp)) (r:Bool) (h:XF a1=some r):Run Try.prog (.call 26 [l44 none a1] (.bool r)):=by
 refine cW Try.func26 rfl (env0:=[(0,l44 none a1)]) ?_;unfold XF at h;refine W.seq ?_;let z0:=fun t=>EN ((0,l44 none a1)::t);refine W.rt (e2:=z0 []) ?_;refine W.seq ?_;let y0:Env:=[(1000007,hobE (AV.int .i64) AV.bool ([]:(List (Int×Bool))))];let z1:=fun t=>z0 ((3,.mb 0 1000007)::t);refine W.rt (e2:=z1 y0) ?_;refine W.seq<|W.sr<|WO.pq 1 (jM jf a1) (e1:=z1 ((8,l44 none a1)::(9,I6 (a1.length:Int))::y0))<|WO.fn (e2:=z1 ((10,.bool (decide ((a1.length:Int) > 40)))::y0)) ?_;refine W.ch (decide ((a1.length:Int) > 40)) h (fun h=>?_) (fun h=>?_)
 ·refine W.seq<|W.rt (e2:=[(2,.bool false)]) ?_;refine W.wk (e:=[(2,.bool false)]) ?_;cases h;exact W.rr
 refine W.sw (e:=z1 y0) ?_;refine W.seq<|W.join (σ:=Unit) (fun s=>[]) (fun s=>(Qz)=some r) (fun s h=>?_) (fun hK7=>?_)
 ·unfold Qz at h;refine W.seq<|W.rt (e2:=[(2,.bool true)]) ?_;refine W.wk (e:=[(2,.bool true)]) ?_;cases h;exact W.rr
 refine W.sr<|WO.pq 1 (jM jf a1) (e1:=z1 ((11,l44 none a1)::(12,I6 (a1.length:Int))::y0)) ?_;let z2:=fun t=>EN ((3,.mb 0 1000007)::t);let z3:=fun t=>z2 ((11,l44 none a1)::(12,I6 (a1.length:Int))::t);refine WO.fn (e2:=z3 ((13,.int .i64 0)::y0)) ?_;refine W.block ?_;obtain⟨hl1,h⟩:=qq h;refine W.wk (e:=z3 ((13,I6 ((0:Nat):Int))::y0))<|W.range (σ:=((List (Int×Bool)))) a1 (fun k1 s=>z3 [(13,I6 (k1:Int)),(1000007,hobE (AV.int .i64) AV.bool s)]) (fun r0 k0 s=>Jl (Qz) r0 k0 s=some r) (fun v9 h=>?_) (fun x1 r1 k1 s hx1 hk1 h hN1=>?_) ([]:(List (Int×Bool))) h
 ·have h:Jl (Qz) [] (a1).length v9=some r:=h;rw[Jl.eq_1]at h;refine W.sr ?_;let y1:Env:=[(11,l44 none a1),(12,I6 (a1.length:Int)),(13,I6 ((a1).length:Int)),(14,.bool false),(1000007,hobE (AV.int .i64) AV.bool v9)];refine WO.pq 0 (jB (jj (l:=a1))) (e1:=z2 y1)<|WO.fn (e2:=z2 y1) ?_;refine W.seq<|W.cF<|W.exit<|W.wk (e:=[]) ?_;exact hK7 () h
 ·obtain⟨v9,rfl⟩:∃ x,x=s:=⟨s,rfl⟩;have h:Jl (Qz) (x1::r1) k1 v9=some r:=h;rw[Jl.eq_2]at h;refine W.sr ?_;let y2:Env:=[(1000007,hobE (AV.int .i64) AV.bool v9)];let z4:=fun t=>z3 ((13,I6 (k1:Int))::t);refine WO.pq 0 (jB (jD hk1)) (e1:=z4 ((14,.bool true)::y2))<|WO.fn (e2:=z4 ((14,.bool true)::y2)) ?_;refine W.seq<|W.cT<|W.skip ?_;let y3:Env:=(11,l44 none a1)::(12,I6 (a1.length:Int))::(13,I6 (k1:Int))::y2;refine W.wk (e:=z2 y3)<|W.seq<|W.block<|W.sr<|WO.pq 0 (jE (f:=jf) hx1) (e1:=z4 ((15,.ptr (.agg [I6 x1.qb,I6 x1.qh,I6 x1.qi]))::y2)) ?_;let z5:=fun t=>z2 ((5,.ptr (.agg [I6 x1.qb,I6 x1.qh,I6 x1.qi]))::t);refine WO.fi [3,5,11,12,13,1000007] [5] (e2:=z5 y3) ?_;refine W.seq<|W.join (σ:=(Bool)) (fun s=>z5 ((6,.bool s)::y3)) (fun s=>(Yp x1 v9 (Jl (Qz) r1 (k1+1))) s=some r) (fun v13 h=>?_) (fun hK12=>?_)
  ·unfold Yp at h;refine W.seq<|W.seq<|W.join (σ:=(Bool×Bool)) (fun s=>z5 ((6,.bool s.1)::(11,l44 none a1)::(12,I6 (a1.length:Int))::(13,I6 (k1:Int))::(66,.bool s.2)::y2)) (fun s=>(Jr x1 v9 (Jl (Qz) r1 (k1+1))) s.1 s.2=some r) (fun s h=>?_) (fun hK15=>?_)
   ·obtain⟨v18,v19⟩:=s;have h:(Jr x1 v9 (Jl (Qz) r1 (k1+1))) v18 v19=some r:=h;unfold Jr at h;refine W.ch v19 h (fun h=>?_) (fun h=>?_)
    ·refine W.seq<|W.rt (e2:=[(2,.bool false)]) ?_;refine W.wk (e:=[(2,.bool false)]) ?_;cases h;exact W.rr
    refine W.sw (e:=z5 ((6,.bool v18)::y3)) ?_;refine W.rg ?_;obtain⟨hc21,h⟩:=qq h;obtain⟨hc22,h⟩:=qq h;let y4:Env:=[(1000007,hobE (AV.int .i64) AV.bool (mset keq1 x1.qb v18 v9))];refine WO.mapK (F:=(AV.int .i64)) (G:=AV.bool) (eq:=keq1) (l:=v9) (a:=x1.qb) (b:=v18) (id:=1000007) (kt:=3) 4 (Js hc21) hc22 (e1:=z5 ((6,.bool v18)::(11,l44 none a1)::(12,I6 (a1.length:Int))::(13,I6 (k1:Int))::(67,.mb 0 1000007)::(68,.ptr (I6 x1.qb))::(69,I6 x1.qb)::(70,.bool v18)::y4)) ?_ (fun x=>by kernel_rfl) (fun x y=>by kernel_rfl);refine WO.fn (e2:=z4 y4) ?_;refine W.rg<|WO.pq 0 (jI (qS hl1 hk1)) (e1:=z4 ((71,I6 ((k1+1:Nat):Int))::y4))<|WO.fn (e2:=z3 ((13,I6 ((k1+1:Nat):Int))::y4)) ?_;exact hN1 (mset keq1 x1.qb v18 v9) h
   refine W.rg ?_;let z6:=fun t=>z5 ((6,.bool v13)::(11,l44 none a1)::(12,I6 (a1.length:Int))::(13,I6 (k1:Int))::t);let z7:=fun t=>z6 ((25,.ptr (I6 x1.qb))::(26,I6 x1.qb)::t);refine WO.bh 4 (fun b=>z7 ((27,.bool b)::(28,.bool b)::y2)) (decide (x1.qb<1)) h (fun h=>?_) (fun h=>?_)
   ·refine WO.fn (e2:=z6 ((66,.bool true)::y2)) ?_;exact hK15 (v13,true) h
   let z8:=fun t=>z7 ((27,.bool false)::(28,.bool false)::(29,.ptr (I6 x1.qb))::(30,I6 x1.qb)::t);refine WO.bh 5 (fun b=>z8 ((31,.bool b)::(32,.bool b)::(33,.bool b)::y2)) (decide (x1.qb > 6)) h (fun h=>?_) (fun h=>?_)
   ·refine WO.fn (e2:=z6 ((66,.bool true)::y2)) ?_;exact hK15 (v13,true) h
   let z9:=fun t=>z8 ((31,.bool false)::(32,.bool false)::(33,.bool false)::(34,.ptr (I6 x1.qh))::(35,I6 x1.qh)::t);refine WO.bh 5 (fun b=>z9 ((36,.bool b)::(37,.bool b)::(38,.bool b)::y2)) (decide (x1.qh<0)) h (fun h=>?_) (fun h=>?_)
   ·refine WO.fn (e2:=z6 ((66,.bool true)::y2)) ?_;exact hK15 (v13,true) h
   let z10:=fun t=>z9 ((36,.bool false)::(37,.bool false)::(38,.bool false)::(39,.ptr (I6 x1.qh))::(40,I6 x1.qh)::t);refine WO.bh 5 (fun b=>z10 ((41,.bool b)::(42,.bool b)::(43,.bool b)::y2)) (decide (x1.qh > 3)) h (fun h=>?_) (fun h=>?_)
   ·refine WO.fn (e2:=z6 ((66,.bool true)::y2)) ?_;exact hK15 (v13,true) h
   let z11:=fun t=>z10 ((41,.bool false)::(42,.bool false)::(43,.bool false)::(44,.ptr (I6 x1.qi))::(45,I6 x1.qi)::t);refine WO.bh 5 (fun b=>z11 ((46,.bool b)::(47,.bool b)::(48,.bool b)::y2)) (decide (x1.qi<0)) h (fun h=>?_) (fun h=>?_)
   ·refine WO.fn (e2:=z6 ((66,.bool true)::y2)) ?_;exact hK15 (v13,true) h
   refine WO.bh 5 (fun b=>z11 ((46,.bool false)::(47,.bool false)::(48,.bool false)::(49,.ptr (I6 x1.qi))::(50,I6 x1.qi)::(51,.bool b)::(52,.bool b)::(53,.bool b)::y2)) (decide (x1.qi ≥ 6)) h (fun h=>?_) (fun h=>?_)
   ·refine WO.fn (e2:=z6 ((66,.bool true)::y2)) ?_;exact hK15 (v13,true) h
   refine WO.bh 2 (fun b=>z5 ((6,.bool b)::(11,l44 none a1)::(12,I6 (a1.length:Int))::(13,I6 (k1:Int))::(25,.ptr (I6 x1.qb))::(26,I6 x1.qb)::(27,.bool false)::(28,.bool false)::(29,.ptr (I6 x1.qb))::(30,I6 x1.qb)::(31,.bool false)::(32,.bool false)::(33,.bool false)::(34,.ptr (I6 x1.qh))::(35,I6 x1.qh)::(36,.bool false)::(37,.bool false)::(38,.bool false)::(39,.ptr (I6 x1.qh))::(40,I6 x1.qh)::(41,.bool false)::(42,.bool false)::(43,.bool false)::(44,.ptr (I6 x1.qi))::(45,I6 x1.qi)::(46,.bool false)::(47,.bool false)::(48,.bool false)::(49,.ptr (I6 x1.qi))::(50,I6 x1.qi)::(51,.bool false)::(52,.bool false)::(53,.bool false)::(54,.bool b)::(55,.bool b)::y2)) v13 h (fun h=>?_) (fun h=>?_)
   ·let z12:=fun t=>z5 ((6,.bool true)::(11,l44 none a1)::(12,I6 (a1.length:Int))::(13,I6 (k1:Int))::(25,.ptr (I6 x1.qb))::(26,I6 x1.qb)::(27,.bool false)::(28,.bool false)::(29,.ptr (I6 x1.qb))::(30,I6 x1.qb)::(31,.bool false)::(32,.bool false)::(33,.bool false)::(34,.ptr (I6 x1.qh))::(35,I6 x1.qh)::(36,.bool false)::(37,.bool false)::(38,.bool false)::(39,.ptr (I6 x1.qh))::(40,I6 x1.qh)::(41,.bool false)::(42,.bool false)::(43,.bool false)::(44,.ptr (I6 x1.qi))::(45,I6 x1.qi)::(46,.bool false)::(47,.bool false)::(48,.bool false)::(49,.ptr (I6 x1.qi))::(50,I6 x1.qi)::(51,.bool false)::(52,.bool false)::(53,.bool false)::(54,.bool true)::(55,.bool true)::(56,.ptr (I6 x1.qi))::(57,I6 x1.qi)::t);refine WO.bh 6 (fun b=>z12 ((58,.bool b)::(59,.bool b)::(60,.bool b)::(61,.bool b)::y2)) (x1.qi != 0) h (fun h=>?_) (fun h=>?_)
    ·refine WO.fn (e2:=z5 ((6,.bool true)::(11,l44 none a1)::(12,I6 (a1.length:Int))::(13,I6 (k1:Int))::(66,.bool true)::y2)) ?_;exact hK15 (true,true) h
    obtain⟨hc16,h⟩:=qq h;refine WO.pk 3 ((alookup Try.prog 83 [] (mpE (AV.int .i64) AV.bool v9) (I6 x1.qb)).map AV.strip) (congrArg (Option.map AV.strip) (jK (F:=(AV.int .i64)) (G:=AV.bool) (eq:=keq1) (l:=v9) (k:=x1.qb) (z:=false) (kt:=3) (e:=4) (Js hc16) (by kernel_rfl) (fun x=>by kernel_rfl) (fun x y=>by kernel_rfl) (by kernel_rfl))) (e1:=z12 ((58,.bool false)::(59,.bool false)::(60,.bool false)::(61,.bool false)::(62,.mb 0 1000007)::(63,.ptr (I6 x1.qb))::(64,I6 x1.qb)::(65,.bool (mget keq1 false x1.qb v9))::y2)) ?_;refine WO.fn (e2:=z5 ((6,.bool true)::(11,l44 none a1)::(12,I6 (a1.length:Int))::(13,I6 (k1:Int))::(66,.bool (mget keq1 false x1.qb v9))::y2)) ?_;exact hK15 (true,(mget keq1 false x1.qb v9)) h
   obtain⟨hc17,h⟩:=qq h;let z13:=fun t=>z5 ((6,.bool false)::(11,l44 none a1)::(12,I6 (a1.length:Int))::(13,I6 (k1:Int))::t);refine WO.pk 9 ((alookup Try.prog 83 [] (mpE (AV.int .i64) AV.bool v9) (I6 x1.qb)).map AV.strip) (congrArg (Option.map AV.strip) (jK (F:=(AV.int .i64)) (G:=AV.bool) (eq:=keq1) (l:=v9) (k:=x1.qb) (z:=false) (kt:=3) (e:=4) (Js hc17) (by kernel_rfl) (fun x=>by kernel_rfl) (fun x y=>by kernel_rfl) (by kernel_rfl))) (e1:=z13 ((25,.ptr (I6 x1.qb))::(26,I6 x1.qb)::(27,.bool false)::(28,.bool false)::(29,.ptr (I6 x1.qb))::(30,I6 x1.qb)::(31,.bool false)::(32,.bool false)::(33,.bool false)::(34,.ptr (I6 x1.qh))::(35,I6 x1.qh)::(36,.bool false)::(37,.bool false)::(38,.bool false)::(39,.ptr (I6 x1.qh))::(40,I6 x1.qh)::(41,.bool false)::(42,.bool false)::(43,.bool false)::(44,.ptr (I6 x1.qi))::(45,I6 x1.qi)::(46,.bool false)::(47,.bool false)::(48,.bool false)::(49,.ptr (I6 x1.qi))::(50,I6 x1.qi)::(51,.bool false)::(52,.bool false)::(53,.bool false)::(54,.bool false)::(55,.bool false)::(56,.und)::(57,.und)::(58,.und)::(59,.bool false)::(60,.bool false)::(61,.bool false)::(62,.mb 0 1000007)::(63,.ptr (I6 x1.qb))::(64,I6 x1.qb)::(65,.bool (mget keq1 false x1.qb v9))::y2)) ?_;refine WO.fn (e2:=z13 ((66,.bool (mget keq1 false x1.qb v9))::y2)) ?_;exact hK15 (false,(mget keq1 false x1.qb v9)) h
  refine W.rg<|WO.bh 4 (fun b=>z5 ((11,l44 none a1)::(12,I6 (a1.length:Int))::(13,I6 (k1:Int))::(17,.ptr (I6 x1.qh))::(18,I6 x1.qh)::(19,.bool b)::(20,.bool b)::y2)) (x1.qh == 2) h (fun h=>?_) (fun h=>?_)
  ·refine WO.fn (e2:=z5 ((6,.bool true)::y3)) ?_;exact hK12 true h
  refine WO.fn (e2:=z5 ((6,.bool (x1.qh == 3))::y3)) ?_;exact hK12 (x1.qh == 3) h
def Qw (a1:(List rf5Op)):Option Bool :=
 (some (decide ((a1.length:Int)≤40)))
def Jh (N1:(Option Bool)):Option Bool :=
 N1
def XQ (N2:(Option Bool)) (v16:Bool):Option Bool :=
 (bif v16 then (some false) else N2)
def Qf (x1:rf5Op) (K5:(Option Bool)):List rf5Op→Nat→Option Bool
 | [],k2=>K5
 | x2::r2,k2=>(bif (x2.qb == x1.qb) then ((XQ (Qf x1 K5 r2 (k2+1))) (decide (x2.qh > 1))) else ((XQ (Qf x1 K5 r2 (k2+1))) false))
def JM (a1:(List rf5Op)) (k1:Nat) (x1:rf5Op) (K5:(Option Bool)) (v9:Bool):Option Bool :=
 (bif v9 then (some false) else ((sub a1 0 (k1:Int)).bind fun e12=>(chk (lenOk e12) (Qf x1 K5 e12 0))))
def jt (a1:(List rf5Op)) (K3:(Option Bool)):List rf5Op→Nat→Option Bool
 | [],k1=>K3
 | x1::r1,k1=>(bif (decide (x1.qb<1)) then ((JM a1 k1 x1 (Jh (jt a1 K3 r1 (k1+1)))) true) else (bif (decide (x1.qb > 6)) then ((JM a1 k1 x1 (Jh (jt a1 K3 r1 (k1+1)))) true) else (bif (decide (x1.qh<0)) then ((JM a1 k1 x1 (Jh (jt a1 K3 r1 (k1+1)))) true) else (bif (decide (x1.qh > 3)) then ((JM a1 k1 x1 (Jh (jt a1 K3 r1 (k1+1)))) true) else (bif (decide (x1.qi<0)) then ((JM a1 k1 x1 (Jh (jt a1 K3 r1 (k1+1)))) true) else (bif (decide (x1.qi > 5)) then ((JM a1 k1 x1 (Jh (jt a1 K3 r1 (k1+1)))) true) else (bif (decide (x1.qh > 1)) then ((JM a1 k1 x1 (Jh (jt a1 K3 r1 (k1+1)))) (x1.qi != 0)) else ((JM a1 k1 x1 (Jh (jt a1 K3 r1 (k1+1)))) false))))))))
def ZY (a1:(List rf5Op)):Option Bool :=
 (chk (lenOk a1) (jt a1 (Qw a1) a1 0))
theorem qav (a1:(List rf5Op)) (r:Bool) (h:ZY a1=some r):Run Try.prog (.call 20 [l43 none a1] (.bool r)):=by
 refine cW Try.func20 rfl (env0:=[(0,l43 none a1)]) ?_;unfold ZY at h;refine W.seq ?_;let z0:=fun t=>EN ((0,l43 none a1)::t);refine W.rt (e2:=z0 []) ?_;refine W.seq<|W.join (σ:=Unit) (fun s=>z0 []) (fun s=>(Qw a1)=some r) (fun s h=>?_) (fun hK3=>?_)
 ·unfold Qw at h;refine W.sr<|WO.pq 1 (jM Ji a1) (e1:=z0 [(72,l43 none a1),(73,I6 (a1.length:Int))]) ?_;let z1:=fun t=>EN ((2,.bool (decide ((a1.length:Int)≤40)))::t);refine WO.fn (e2:=z1 []) ?_;refine W.wk (e:=z1 []) ?_;cases h;exact W.rr
 refine W.sr ?_;let z2:=fun t=>z0 ((7,l43 none a1)::(8,I6 (a1.length:Int))::t);refine WO.pq 1 (jM Ji a1) (e1:=z2 [])<|WO.fn (e2:=z2 [(9,.int .i64 0)]) ?_;refine W.block ?_;obtain⟨hl1,h⟩:=qq h;refine W.wk (e:=z2 [(9,I6 ((0:Nat):Int))])<|W.range (σ:=Unit) a1 (fun k1 s=>z2 [(9,I6 (k1:Int))]) (fun r0 k0 s=>jt a1 (Qw a1) r0 k0=some r) (fun s h=>?_) (fun x1 r1 k1 s hx1 hk1 h hN1=>?_) () h
 ·rw[jt.eq_1]at h;refine W.sr ?_;let y0:Env:=[(7,l43 none a1),(8,I6 (a1.length:Int)),(9,I6 ((a1).length:Int)),(10,.bool false)];refine WO.pq 0 (jB (jj (l:=a1))) (e1:=z0 y0)<|WO.fn (e2:=z0 y0) ?_;refine W.seq<|W.cF<|W.exit<|W.wk (e:=z0 []) ?_;exact hK3 () h
 ·rw[jt.eq_2]at h;refine W.sr ?_;let y1:Env:=[(7,l43 none a1),(8,I6 (a1.length:Int)),(9,I6 (k1:Int)),(10,.bool true)];refine WO.pq 0 (jB (jD hk1)) (e1:=z0 y1)<|WO.fn (e2:=z0 y1) ?_;refine W.seq<|W.cT<|W.skip ?_;let y2:Env:=[(7,l43 none a1),(8,I6 (a1.length:Int)),(9,I6 (k1:Int))];refine W.wk (e:=z0 y2)<|W.seq<|W.join (σ:=Unit) (fun s=>z0 y2) (fun s=>(Jh (jt a1 (Qw a1) r1 (k1+1)))=some r) (fun s h=>?_) (fun hK5=>?_)
  ·unfold Jh at h;refine W.rg<|WO.pq 0 (jI (qS hl1 hk1)) (e1:=z2 [(9,I6 (k1:Int)),(71,I6 ((k1+1:Nat):Int))])<|WO.fn (e2:=z2 [(9,I6 ((k1+1:Nat):Int))]) ?_;exact hN1 () h
  refine W.block<|W.sr<|WO.pq 1 (jE (f:=Ji) hx1) (e1:=z2 [(9,I6 (k1:Int)),(11,I6 (k1:Int)),(12,.ptr (.agg [I6 x1.qb,I6 x1.qh,I6 x1.qi]))]) ?_;let y3:Env:=(3,I6 (k1:Int))::(4,.ptr (.agg [I6 x1.qb,I6 x1.qh,I6 x1.qi]))::y2;refine WO.fi [0,3,4,7,8,9] [4] (e2:=z0 y3) ?_;refine W.seq<|W.seq ?_;let z3:=fun t=>z0 ((3,I6 (k1:Int))::(4,.ptr (.agg [I6 x1.qb,I6 x1.qh,I6 x1.qi]))::(7,l43 none a1)::(8,I6 (a1.length:Int))::(9,I6 (k1:Int))::t);refine W.join (σ:=(Bool)) (fun s=>z3 [(51,.bool s)]) (fun s=>(JM a1 k1 x1 (Jh (jt a1 (Qw a1) r1 (k1+1)))) s=some r) (fun v9 h=>?_) (fun hK8=>?_)
  ·unfold JM at h;refine W.ch v9 h (fun h=>?_) (fun h=>?_)
   ·refine W.seq<|W.rt (e2:=[(2,.bool false)]) ?_;refine W.wk (e:=[(2,.bool false)]) ?_;cases h;exact W.rr
   refine W.sw (e:=z0 y3) ?_;refine W.sr ?_;obtain⟨e12,he12,h⟩:=ql h;let z4:=fun t=>z3 ((52,l43 none a1)::(53,I6 (k1:Int))::(54,l43 none e12)::t);refine WO.pk 2 (if (0:Int)≤0∧0≤(k1:Int)∧(k1:Int)≤((A1 Ji a1).length:Int) then some (.lst 43 3 none (((A1 Ji a1).take (Int.toNat (k1:Int))).drop (Int.toNat 0))) else none) (NM he12) (e1:=z4 [])<|WO.pq 0 (jM Ji e12) (e1:=z4 [(55,I6 (e12.length:Int))]) ?_;let z5:=fun t=>z0 ((4,.ptr (.agg [I6 x1.qb,I6 x1.qh,I6 x1.qi]))::(7,l43 none a1)::(8,I6 (a1.length:Int))::(9,I6 (k1:Int))::(54,l43 none e12)::(55,I6 (e12.length:Int))::t);refine WO.fn (e2:=z5 [(56,.int .i64 0)]) ?_;refine W.block ?_;obtain⟨hl2,h⟩:=qq h;refine W.wk (e:=z5 [(56,I6 ((0:Nat):Int))])<|W.range (σ:=Unit) e12 (fun k2 s=>z5 [(56,I6 (k2:Int))]) (fun r0 k0 s=>Qf x1 (Jh (jt a1 (Qw a1) r1 (k1+1))) r0 k0=some r) (fun s h=>?_) (fun x2 r2 k2 s hx2 hk2 h hN2=>?_) () h
   ·rw[Qf.eq_1]at h;refine W.sr ?_;let y4:Env:=[(4,.ptr (.agg [I6 x1.qb,I6 x1.qh,I6 x1.qi])),(7,l43 none a1),(8,I6 (a1.length:Int)),(9,I6 (k1:Int)),(54,l43 none e12),(55,I6 (e12.length:Int)),(56,I6 ((e12).length:Int)),(57,.bool false)];refine WO.pq 0 (jB (jj (l:=e12))) (e1:=z0 y4)<|WO.fn (e2:=z0 y4) ?_;refine W.seq<|W.cF<|W.exit<|W.wk (e:=z0 y2) ?_;exact hK5 () h
   ·rw[Qf.eq_2]at h;refine W.sr ?_;let y5:Env:=[(4,.ptr (.agg [I6 x1.qb,I6 x1.qh,I6 x1.qi])),(7,l43 none a1),(8,I6 (a1.length:Int)),(9,I6 (k1:Int)),(54,l43 none e12),(55,I6 (e12.length:Int)),(56,I6 (k2:Int)),(57,.bool true)];refine WO.pq 0 (jB (jD hk2)) (e1:=z0 y5)<|WO.fn (e2:=z0 y5) ?_;refine W.seq<|W.cT<|W.skip ?_;let y6:Env:=[(7,l43 none a1),(8,I6 (a1.length:Int)),(9,I6 (k1:Int)),(54,l43 none e12),(55,I6 (e12.length:Int)),(56,I6 (k2:Int))];let z6:=fun t=>z0 ((4,.ptr (.agg [I6 x1.qb,I6 x1.qh,I6 x1.qi]))::t);refine W.wk (e:=z6 y6)<|W.seq<|W.block<|W.sr ?_;let z7:=fun t=>z5 ((56,I6 (k2:Int))::t);refine WO.pq 0 (jE (f:=Ji) hx2) (e1:=z7 [(58,.ptr (.agg [I6 x2.qb,I6 x2.qh,I6 x2.qi]))]) ?_;let z8:=fun t=>z6 ((6,.ptr (.agg [I6 x2.qb,I6 x2.qh,I6 x2.qi]))::t);refine WO.fi [0,4,6,7,8,9,54,55,56] [6] (e2:=z8 y6) ?_;refine W.seq<|W.join (σ:=(Bool)) (fun s=>z7 [(69,.bool s)]) (fun s=>(XQ (Qf x1 (Jh (jt a1 (Qw a1) r1 (k1+1))) r2 (k2+1))) s=some r) (fun v16 h=>?_) (fun hK15=>?_)
    ·unfold XQ at h;refine W.ch v16 h (fun h=>?_) (fun h=>?_)
     ·refine W.seq<|W.rt (e2:=[(2,.bool false)]) ?_;refine W.wk (e:=[(2,.bool false)]) ?_;cases h;exact W.rr
     refine W.sw (e:=z6 y6) ?_;refine W.rg<|WO.pq 0 (jI (qS hl2 hk2)) (e1:=z7 [(70,I6 ((k2+1:Nat):Int))])<|WO.fn (e2:=z5 [(56,I6 ((k2+1:Nat):Int))]) ?_;exact hN2 () h
    refine W.rg<|WO.bh 6 (fun b=>z8 [(7,l43 none a1),(8,I6 (a1.length:Int)),(9,I6 (k1:Int)),(54,l43 none e12),(55,I6 (e12.length:Int)),(56,I6 (k2:Int)),(60,.ptr (I6 x2.qb)),(61,I6 x2.qb),(62,.ptr (I6 x1.qb)),(63,I6 x1.qb),(64,.bool b),(65,.bool b)]) (x2.qb == x1.qb) h (fun h=>?_) (fun h=>?_)
    ·refine WO.fn (e2:=z7 [(69,.bool (decide (x2.qh > 1)))]) ?_;exact hK15 (decide (x2.qh > 1)) h
    refine WO.fn (e2:=z7 [(69,.bool false)]) ?_;exact hK15 false h
  refine W.rg ?_;let z9:=fun t=>z3 ((14,.ptr (I6 x1.qb))::(15,I6 x1.qb)::t);refine WO.bh 4 (fun b=>z9 [(16,.bool b),(17,.bool b)]) (decide (x1.qb<1)) h (fun h=>?_) (fun h=>?_)
  ·refine WO.fn (e2:=z3 [(51,.bool true)]) ?_;exact hK8 true h
  let z10:=fun t=>z9 ((16,.bool false)::(17,.bool false)::(18,.ptr (I6 x1.qb))::(19,I6 x1.qb)::t);refine WO.bh 5 (fun b=>z10 [(20,.bool b),(21,.bool b),(22,.bool b)]) (decide (x1.qb > 6)) h (fun h=>?_) (fun h=>?_)
  ·refine WO.fn (e2:=z3 [(51,.bool true)]) ?_;exact hK8 true h
  let z11:=fun t=>z10 ((20,.bool false)::(21,.bool false)::(22,.bool false)::(23,.ptr (I6 x1.qh))::(24,I6 x1.qh)::t);refine WO.bh 5 (fun b=>z11 [(25,.bool b),(26,.bool b),(27,.bool b)]) (decide (x1.qh<0)) h (fun h=>?_) (fun h=>?_)
  ·refine WO.fn (e2:=z3 [(51,.bool true)]) ?_;exact hK8 true h
  let z12:=fun t=>z11 ((25,.bool false)::(26,.bool false)::(27,.bool false)::(28,.ptr (I6 x1.qh))::(29,I6 x1.qh)::t);refine WO.bh 5 (fun b=>z12 [(30,.bool b),(31,.bool b),(32,.bool b)]) (decide (x1.qh > 3)) h (fun h=>?_) (fun h=>?_)
  ·refine WO.fn (e2:=z3 [(51,.bool true)]) ?_;exact hK8 true h
  let z13:=fun t=>z12 ((30,.bool false)::(31,.bool false)::(32,.bool false)::(33,.ptr (I6 x1.qi))::(34,I6 x1.qi)::t);refine WO.bh 5 (fun b=>z13 [(35,.bool b),(36,.bool b),(37,.bool b)]) (decide (x1.qi<0)) h (fun h=>?_) (fun h=>?_)
  ·refine WO.fn (e2:=z3 [(51,.bool true)]) ?_;exact hK8 true h
  let z14:=fun t=>z13 ((35,.bool false)::(36,.bool false)::(37,.bool false)::(38,.ptr (I6 x1.qi))::(39,I6 x1.qi)::t);refine WO.bh 5 (fun b=>z14 [(40,.bool b),(41,.bool b),(42,.bool b)]) (decide (x1.qi > 5)) h (fun h=>?_) (fun h=>?_)
  ·refine WO.fn (e2:=z3 [(51,.bool true)]) ?_;exact hK8 true h
  refine WO.bh 4 (fun b=>z14 [(40,.bool false),(41,.bool false),(42,.bool false),(43,.ptr (I6 x1.qh)),(44,I6 x1.qh),(45,.bool b),(46,.bool b)]) (decide (x1.qh > 1)) h (fun h=>?_) (fun h=>?_)
  ·refine WO.fn (e2:=z3 [(51,.bool (x1.qi != 0))]) ?_;exact hK8 (x1.qi != 0) h
  refine WO.fn (e2:=z3 [(51,.bool false)]) ?_;exact hK8 false h
theorem mixedP:Try.prog.follows .mixedOrders=true:=by kernel_rfl
abbrev cI (x:Int):AV:=.int .i64 x
abbrev cK (l:List (Int×Int)):List AV:=l.map fun p=>AV.int .i64 p.1
abbrev cV (l:List (Int×Int)):List AV:=l.map fun p=>AV.int .i64 p.2
abbrev cL (l:List Int):List AV:=l.map (AV.int .i64)
def comm (l:List (Int×Int)):List Int:=(l.filter fun p=>decide (p.2 ≥ 0)).map B5
theorem qdS {l m:List Int} (h:l.Perm m):sortI l=sortI m:=by
 have h1:∀ l:List Int,(sortI l).Pairwise fun a b=>decide (a≤b)=true:=fun l=>List.pairwise_mergeSort (by intro a b c;simp;omega) (by intro a b;simp;omega) l
 refine List.Perm.eq_of_pairwise (le:=fun a b=>decide (a≤b)=true) (fun a b _ _ x y=>by simp at x y;omega) (h1 l) (h1 m) ?_;exact ((List.mergeSort_perm l _).trans h).trans (List.mergeSort_perm m _).symm
theorem Hb {α β:Type} (f:α→β):∀ (l:List α) (j:Nat),(l.map f).eraseIdx j=(l.eraseIdx j).map f
 | [],j=>by simp
 | a::l,0=>by simp
 | a::l,j+1=>by simp[Hb f l j]
theorem qab {α:Type}:∀ (l:List α) (j:Nat) (h:j<l.length),l.Perm (l[j]::l.eraseIdx j)
 | [],j,h=>by simp at h
 | a::l,0,h=>by simp
 | a::l,j+1,h=>by
  have ih:=qab l j (by simpa using h);simp only[D2,D3];exact (ih.cons a).trans (List.Perm.swap _ _ _)
theorem qel (rem:List (Int×Int)) {j:Nat} (h:j<rem.length):nextEnt (cK rem) (cV rem) j=.hob 2 (cI rem[j].1::cK (rem.eraseIdx j)) (cI rem[j].2::cV (rem.eraseIdx j)):=by
 unfold nextEnt cK cV;rw[Hb,Hb]
 have e1:(rem.map fun p=>AV.int .i64 p.1).getD j .und=cI rem[j].1:=by
  rw[A9,A5,A0 h];rfl
 have e2:(rem.map fun p=>AV.int .i64 p.2).getD j .und=cI rem[j].2:=by
  rw[A9,A5,A0 h];rfl
 rw[e1,e2]
theorem qgg {rem:List (Int×Int)} {j:Nat} (h:j<rem.length) {acc T:List Int} (hp:(acc++comm rem).Perm T) :
  ((if rem[j].2 ≥ 0 then acc++[rem[j].1] else acc)++comm (rem.eraseIdx j)).Perm T:=by
 refine List.Perm.trans ?_ hp;have h1:(comm rem).Perm (comm (rem[j]::rem.eraseIdx j)):=((qab rem j h).filter _).map _;refine List.Perm.trans ?_ (h1.append_left acc).symm;unfold comm;rw[C4];by_cases hc:rem[j].2 ≥ 0
 ·rw[if_pos hc,dT hc];simp
 ·rw[if_neg hc,dF hc];simp
def CommI (T:List Int) (k:Nat) (e:Env):Prop:=∃ (acc:List Int) (rem:List (Int×Int)) (y:AV),rem.length=k∧leftE y=some (cK rem,cV rem)∧acc.length+rem.length≤1000∧(acc++comm rem).Perm T ∧
 Goes 23 e [(3,.sb 1500003 3 1 0 acc.length),(8,.mb 1 1000008),(1000008,y),(1500003,.obj 3 1 (cL acc))]
theorem qgH {acc:List Int} (h:acc.length≤1000):Run Try.prog (.callM 92 [.sb 2000000 3 1 0 acc.length] [(2000000,.obj 3 1 (cL acc))] (.tup []) [(2000000,.obj 3 1 (cL (sortI acc)))]):=by
 by_cases h2:acc=[]
 ·subst h2
  have e:sortI []=[]:=by simp[sortI]
  rw[e];exact .extM qdR (fun id x hx=>by simp only[look]at hx;split at hx <;> cases hx;rfl)
 ·exact .extSort rfl h2 (by omega) qdn
theorem qcs {fuel:Nat} {h:List hsOp} {l:List (Int×Int)} (he:jV fuel h 2=some l) (hl:l.length≤1000):CallOk Try.prog 51 [l44 none h] (.lst 3 1 none (cL (sortI (comm l)))):=by
 refine qdC Try.func51 rfl (by kernel_rfl) (fun e k q xs hh=>by cases hh) ?_;refine CodeP.seq (CodeP.reg mixedP (e2:=[(0,l44 none h),(2,.nils)]) ?_);refine CodeP.wk (env':=[(0,l44 none h)])<|CodeP.seq (CodeP.reg mixedP (e2:=[(0,l44 none h),(3,.nils)]) ?_);refine CodeP.mv [.nil 3 3 1 1500003] (env':=[(0,l44 none h),(3,.sb 1500003 3 1 0 0),(1500003,.obj 3 1 [])])<|CodeP.seq (CodeP.seq (CodeP.of mixedP (W.region (by kernel_rfl) ?_)));refine WO.callK 1 (F:=62) (l:=[l44 none h,.int .i64 2]) (C:=[]) (r:=mpE (AV.int .i64) (AV.int .i64) l) (by kernel_rfl) (by kernel_rfl) (JW fuel h 2 l he) (e1:=[(0,l44 none h),(3,.sb 1500003 3 1 0 0),(6,l44 none h),(7,mpE (AV.int .i64) (AV.int .i64) l),(1500003,.obj 3 1 [])]) (by kernel_rfl)<|WO.end0 (e2:=[(0,l44 none h),(3,.sb 1500003 3 1 0 0),(6,l44 none h),(7,mpE (AV.int .i64) (AV.int .i64) l),(8,.mb 1 1000008),(1000008,.hob 1 (cK l) (cV l)),(1500003,.obj 3 1 [])]) (by kernel_rfl)<|CodeP.wk (env':=[(3,.sb 1500003 3 1 0 0),(8,.mb 1 1000008),(1000008,.hob 1 (cK l) (cV l)),(1500003,.obj 3 1 [])])<|CodeP.block (CodeP.loop (I:=CommI (comm l)) ?_ l.length ⟨[],l,.hob 1 (cK l) (cV l),rfl,rfl,by simpa using hl,List.Perm.refl _,Goes.refl _⟩)
 rintro k e ⟨acc,rem,y,hk,hy,hlen,hp,hg⟩
 refine CodeP.goes hg<|CodeP.seq<|CodeP.next mixedP rfl rfl (by kernel_rfl) (it:=1000008) (y:=y) (ks:=cK rem) (vs:=cV rem) rfl rfl hy (envF:=[(3,.sb 1500003 3 1 0 acc.length),(8,.mb 1 1000008),(9,.tup [.bool false]),(1000008,y),(1500003,.obj 3 1 (cL acc))]) (by kernel_rfl)
  (envT:=fun j=>[(3,.sb 1500003 3 1 0 acc.length),(8,.mb 1 1000008),(9,.tup [.bool true,.top,.top]),(1000008,nextEnt (cK rem) (cV rem) j),(1500003,.obj 3 1 (cL acc))]) (fun j _=>by kernel_rfl) (fun h0 _=>?_) (fun j hj _=>?_)
 ·
  refine WO.end0 (e2:=[(3,.sb 1500003 3 1 0 acc.length),(8,.mb 1 1000008),(9,.tup [.bool false]),(10,.bool false),(1000008,y),(1500003,.obj 3 1 (cL acc))]) (by kernel_rfl) ?_
  have hr0:rem=[]:=by simpa[cK] using h0
  subst hr0
  have hpa:acc.Perm (comm l):=by simpa[comm] using hp
  refine CodeP.seq (CodeP.cond false (by kernel_rfl) (fun h=>Bool.noConfusion h) (fun _=>CodeP.of mixedP (W.exit ?_)));refine CodeP.wk (env':=[(3,.sb 1500003 3 1 0 acc.length),(1500003,.obj 3 1 (cL acc))])<|CodeP.of mixedP<|W.seq<|W.region (by kernel_rfl)<|WO.callMK 1 [(1500003,2000000)] [] (F:=92) (args:=[.sb 2000000 3 1 0 acc.length]) (hp:=[(2000000,.obj 3 1 (cL acc))]) (hp2:=[(2000000,.obj 3 1 (cL (sortI acc)))]) (r:=.tup []) (by kernel_rfl) (qgH (by simpa using hlen)) (e1:=[(3,.sb 1500003 3 1 0 acc.length),(20,.sb 1500003 3 1 0 acc.length),(21,.tup []),(1500003,.obj 3 1 (cL (sortI acc)))]) (by kernel_rfl) ?_;refine WO.fin [3,1500003] [] [] [] (e2:=[(3,.sb 1500003 3 1 0 acc.length),(1500003,.obj 3 1 (cL (sortI acc)))]) (by kernel_rfl) (fun _ h=>h) ?_;refine W.seq<|W.regT [2,1500003] [] [] [] (e2:=[(2,.sb 1500003 3 1 0 acc.length),(1500003,.obj 3 1 (cL (sortI acc)))]) (by kernel_rfl) (by kernel_rfl) (fun _ h=>h) ?_
  have hsl:(sortI acc).length=acc.length:=by unfold sortI;exact List.length_mergeSort acc
  have hsn:snapA 0 acc.length (cL (sortI acc))=cL (sortI (comm l)):=by
   rw[qdS hpa]at hsl ⊢;unfold snapA cL;rw[List.drop_zero,D8 (by rw[A2,hsl];exact A4 _)]
  refine W.mv [.frz 1500003] (env':=[(2,.lst 3 1 none (cL (sortI (comm l))))]) ((by kernel_rfl:mvAll [(2,.sb 1500003 3 1 0 acc.length),(1500003,.obj 3 1 (cL (sortI acc)))] [.frz 1500003]=[(2,.lst 3 1 none (snapA 0 acc.length (cL (sortI acc))))]).trans (by rw[hsn])) ?_
  have hr:QT Try.prog Try.f51 [(2,.lst 3 1 none (cL (sortI (comm l))))]=some (.lst 3 1 none (cL (sortI (comm l)))):=by kernel_rfl
  exact W.ret hr
 ·
  have hj:j<rem.length:=by simpa[cK] using hj
  show WO Try.prog _ false _ _ _ [(3,.sb 1500003 3 1 0 acc.length),(8,.mb 1 1000008),(9,.tup [.bool true,.top,.top]),(1000008,nextEnt (cK rem) (cV rem) j),(1500003,.obj 3 1 (cL acc))];rw[qel rem hj];have hpt:=qgg hj hp
  have hel:(rem.eraseIdx j).length=rem.length - 1:=by rw[A8,if_pos hj]
  generalize hp1:rem[j].1=pk at hpt ⊢;generalize hp2:rem[j].2=pv at hpt ⊢;generalize rem.eraseIdx j=rem2 at hpt hel ⊢;refine WO.end0 (e2:=[(3,.sb 1500003 3 1 0 acc.length),(8,.mb 1 1000008),(9,.tup [.bool true,.top,.top]),(10,.bool true),(1000008,.hob 2 (cI pk::cK rem2) (cI pv::cV rem2)),(1500003,.obj 3 1 (cL acc))]) (by kernel_rfl)<|CodeP.seq (CodeP.cond true (by kernel_rfl) (fun _=>CodeP.of mixedP (W.skip ?_)) (fun h=>Bool.noConfusion h));refine CodeP.wk (env':=[(3,.sb 1500003 3 1 0 acc.length),(8,.mb 1 1000008),(1000008,.hob 2 (cI pk::cK rem2) (cI pv::cV rem2)),(1500003,.obj 3 1 (cL acc))])<|CodeP.block (CodeP.seq (CodeP.reg mixedP (e2:=[(3,.sb 1500003 3 1 0 acc.length),(4,cI pk),(5,cI pv),(8,.mb 1 1000008),(11,.tup [cI pk,cI pv]),(12,cI pk),(13,cI pv),(1000008,.hob 2 (cI pk::cK rem2) (cI pv::cV rem2)),(1500003,.obj 3 1 (cL acc))]) ?_));refine CodeP.wk (env':=[(3,.sb 1500003 3 1 0 acc.length),(4,cI pk),(5,cI pv),(8,.mb 1 1000008),(1000008,.hob 2 (cI pk::cK rem2) (cI pv::cV rem2)),(1500003,.obj 3 1 (cL acc))])<|CodeP.seq (CodeP.reg mixedP (e2:=[(3,.sb 1500003 3 1 0 acc.length),(4,cI pk),(5,cI pv),(8,.mb 1 1000008),(14,cI pv),(15,.bool (decide (pv ≥ 0))),(1000008,.hob 2 (cI pk::cK rem2) (cI pv::cV rem2)),(1500003,.obj 3 1 (cL acc))]) ?_);refine CodeP.cond (decide (pv ≥ 0)) (by kernel_rfl) (fun hc=>?_) (fun hc=>?_)
  ·have hc:=of_decide_eq_true hc;rw[if_pos hc]at hpt;refine CodeP.wk (env':=[(3,.sb 1500003 3 1 0 acc.length),(4,cI pk),(8,.mb 1 1000008),(1000008,.hob 2 (cI pk::cK rem2) (cI pv::cV rem2)),(1500003,.obj 3 1 (cL acc))])<|CodeP.of mixedP (W.region (by kernel_rfl) ?_);refine WO.appendOK 3 (d:=19) (e:=3) (s:=1) (bytes:=8) (m:=acc.length) (n2:=(acc++[pk]).length) (xs:=cL acc) (ys:=cL [pk]) (zs:=cL (acc++[pk])) (env1:=[(3,.top),(4,cI pk),(8,.mb 1 1000008),(16,.top),(17,cI pk),(18,.lst 3 1 (some 18) (cL [pk])),(1000008,.hob 2 (cI pk::cK rem2) (cI pv::cV rem2))]) (by kernel_rfl) ?_ ?_ (A2 _) (e1:=[(3,.top),(4,cI pk),(8,.mb 1 1000008),(16,.top),(17,cI pk),(18,.lst 3 1 (some 18) (cL [pk])),(19,.sb 1000019 3 1 0 (acc++[pk]).length),(1000008,.hob 2 (cI pk::cK rem2) (cI pv::cV rem2)),(1000019,.obj 3 1 (cL (acc++[pk])))]) (by kernel_rfl) ?_
   ·have:(cL [pk]).length=1:=rfl;rw[this]
    have:(acc.length+1) * 8≤1001 * 8:=by omega
    simp only[capOk,Bool.and_eq_true,Nat.ble_eq];omega
   ·unfold snapA cL;rw[List.drop_zero,List.map_append,D8 (by rw[A2];exact A4 _)]
   ·refine WO.end0 (e2:=[(3,.sb 1000019 3 1 0 (acc++[pk]).length),(4,cI pk),(8,.mb 1 1000008),(16,.top),(17,cI pk),(18,.lst 3 1 (some 18) (cL [pk])),(19,.sb 1000019 3 1 0 (acc++[pk]).length),(1000008,.hob 2 (cI pk::cK rem2) (cI pv::cV rem2)),(1000019,.obj 3 1 (cL (acc++[pk])))]) (by kernel_rfl) ?_;exact⟨rem.length - 1,by omega,acc++[pk],rem2,.hob 2 (cI pk::cK rem2) (cI pv::cV rem2),hel,rfl,by simp;omega,hpt,Goes.wk (e1:=[(3,.sb 1000019 3 1 0 (acc++[pk]).length),(8,.mb 1 1000008),(1000008,.hob 2 (cI pk::cK rem2) (cI pv::cV rem2)),(1000019,.obj 3 1 (cL (acc++[pk])))]) (Goes.mv [.ren 1000019 1500003] (Goes.refl _))⟩
  ·have hc:=of_decide_eq_false hc;rw[if_neg hc]at hpt;refine CodeP.of mixedP (W.skip ?_);exact⟨rem.length - 1,by omega,acc,rem2,.hob 2 (cI pk::cK rem2) (cI pv::cV rem2),hel,rfl,by omega,hpt,Goes.wk (e1:=[(3,.sb 1500003 3 1 0 acc.length),(8,.mb 1 1000008),(1000008,.hob 2 (cI pk::cK rem2) (cI pv::cV rem2)),(1500003,.obj 3 1 (cL acc))]) (Goes.refl _)⟩
end Go.AM
namespace Go.AM
open Go.Proofs
structure qj where
 f_0:Int
 f_1:Int
def l3 (c:Option Nat) (l:List Int):AV:=.lst 3 1 c (A1 (AV.int .i64) l)
def qn (x:qj):AV:=.agg [.int .i64 x.f_0,.int .i64 x.f_1]
def qv (x a:qj):Bool:=(x.f_0 == a.f_0) && ((x.f_1 == a.f_1) && true)
end Go.AM
