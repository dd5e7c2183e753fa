import Derived.Test.YtdghpfejmlpjhaaASimN
import Derived.Carry
import Derived.DataReads
import Derived.ProofKit
import Derived.OpenShut
import Derived.Sort.Grow
import Derived.Test.YtdghpfejmlpjhaaChecked
import Derived.BigCall
import Derived.Deep.RegionHeld3
import Derived.Deep.RegionHeldLaw
import Derived.Deep.AppendLies
import Derived.Deep.OwnRows
import Derived.OneCell
import Derived.Laws.Rows
set_option linter.all false
set_option maxRecDepth 100000
open Go.World renaming cell?→A0, frozen?→D2
open List renaming map→A1, getElem?_eq_getElem→A2, getElem_cons_zero→A3, getElem_cons_succ→A4, getElem_toArray→A6, setIfInBounds_toArray→A7, set_cons_zero→A8, set_cons_succ→A9, length_map→B1, getElem?_append_left→D3, getElem?_append_right→D4, length_eraseIdx→D7, getElem?_eraseIdx→D8, eq_nil_of_length_eq_zero→E9, getD_eq_getElem?_getD→F6
open Nat renaming le_refl→A5, le_of_succ_le_succ→E0, le_of_ble_eq_true→F7
open Go.Sem renaming run→C0
open Go.Result renaming andThen→C7
open Go.IntKind renaming i64→D0
open Array renaming getElem?_eq_getElem→D1, toList_filter→D6, length_toList→E7, getElem?_toList→E8
open Bool renaming false_eq_true→D5
open Option renaming bind_eq_some_iff→D9
open Go.MapKept renaming run_getObj_map→F8
namespace Go.AM
open Go.RowKit
variable {t:TypeId} {α β:Type} {N e k n off off' size:Nat} {M:Mem} {v:Value} {cs:LT} {w:World} {a:Addr} {fd:Field} {fs:List Field}
def memOf (w:World):Mem:=fun b o=>mc w b o
theorem qhB (w:World):Cons (memOf w) w:=fun b o u h=>h
def CellsR (M:Mem) (xs:LM) (cs:LT):Prop:=xs.length=cs.length/\∀ (j:Nat) c v,xs[j]? = some c->cs[j]? = some v->R M c v
def Reads (P:Program) (t:TypeId) {α:Type} (f:α->AV) (ok:α->Prop):Prop :=
 ∀ (H:Type) (enc:TypeId×Value->H) (w:World) (fuel:Nat) (cs:LT) (x:DataW H×List MemPlace),
  DataW.trod enc P w 0 (fun _=>true) true fuel t cs=some x->∃ a,ok a/\CellsR (memOf w) (f a).cells cs
def ReadsN (N:Nat) (P:Program) (t:TypeId) {α:Type} (f:α->AV) (ok:α->Prop):Prop :=
 ∀ (H:Type) (enc:TypeId×Value->H) (w:World) (fuel:Nat) (cs:LT) (x:DataW H×List MemPlace),fuel<=N ->
  DataW.trod enc P w 0 (fun _=>true) true fuel t cs=some x->∃ a,ok a/\CellsR (memOf w) (f a).cells cs
section
variable {P:Program}
theorem Reads.toN {f:α->AV} {ok:α->Prop} (h:Reads P t f ok) (N:Nat):ReadsN N P t f ok:=fun H enc w fuel cs x _ k=>h H enc w fuel cs x k
theorem ReadsN.all {f:α->AV} {ok:α->Prop} (h:∀ N,ReadsN N P t f ok):Reads P t f ok:=fun H enc w fuel cs x k=>h fuel H enc w fuel cs x (A5 _) k
theorem ReadsN.mono {f:α->AV} {ok:α->Prop} {M:Nat} (h:ReadsN M P t f ok) (hl:N<=M):ReadsN N P t f ok:=fun H enc w fuel cs x k=>h H enc w fuel cs x (Nat.le_trans k hl)
theorem CellsR.one {c:AV} (h:R M c v):CellsR M [c] [v]:=by
 refine⟨rfl,fun j c' v' hc hv=>?_⟩
 cases j with
 | zero=>simp at hc hv;subst hc;subst hv;exact h
 | succ j=>simp at hc
theorem CellsR.append {xs ys:LM} {ds:LT} (h:CellsR M xs cs) (k:CellsR M ys ds):CellsR M (xs++ys) (cs++ds):=by
 refine⟨by simp[h.1,k.1],fun j c v hc hv=>?_⟩;by_cases hj:j<xs.length
 .rw[D3 hj]at hc;rw[D3 (by rw[<- h.1];exact hj)]at hv;exact h.2 j c v hc hv
 rw[D4 (by omega)]at hc;rw[D4 (by rw[<- h.1];omega),<- h.1]at hv;exact k.2 _ c v hc hv
theorem qja {k:IntKind} (ht:P.underlying t=some (.int k)):Reads P t (AV.int k) (fun n=>(Lit.int k n).wf=true):=by
 intro H enc w fuel cs x h
 cases fuel with
 | zero=>cases h
 | succ fuel =>
  unfold DataW.trod at h;rw[ht]at h
  split at h <;> try (first | (rename_i e _;cases e;done) | cases h)
  all_goals try (rename_i e;cases e;done)
  rename_i k1 k2 n e;cases e;split at h
  .rename_i hk;obtain⟨rfl,hwf⟩:=hk;exact⟨n,hwf,.one (.int _ _)⟩
  cases h
theorem qhj (ht:P.underlying t=some .bool):Reads P t AV.bool (fun _=>True):=by
 intro H enc w fuel cs x h
 cases fuel with
 | zero=>cases h
 | succ fuel =>
  unfold DataW.trod at h;rw[ht]at h
  split at h <;> try (first | (rename_i e _;cases e;done) | cases h)
  all_goals try (rename_i e;cases e;done)
  exact⟨_,trivial,.one (.bool _)⟩
theorem qbA {α:Type} {Pr:Nat->α->Prop}:∀ (n:Nat),(∀ i,i<n->∃ x,Pr i x)->∃ l:List α,l.length=n/\∀ i x,l[i]? = some x->Pr i x
 | 0,_=>⟨[],rfl,fun i x h=>by simp at h⟩
 | n+1,h=>by
  obtain⟨l,h1,h2⟩:=qbA n (fun i hi=>h i oM);obtain⟨x,hx⟩:=h n oM;refine⟨l++[x],by simp[h1],fun i y hy=>?_⟩;by_cases hi:i<l.length
  .rw[D3 hi]at hy;exact h2 i y hy
  rw[D4 (by omega)]at hy
  have:i - l.length=0:=by
   cases hh:i - l.length with
   | zero=>rfl
   | succ m=>rw[hh]at hy;simp at hy
  rw[this]at hy;simp at hy;subst hy
  have:i=n:=by omega
  subst this;exact hx
theorem qcY {base:Nat} (h:w.cells? base a n=some cs):cs.length=n/\∀ i,i<n->w.cell? (a.add i)=cs[i]?:=by
 unfold World.cells? at h;split at h
 .refine⟨by simpa using mapM_some_length h,fun i hi=>?_⟩;exact mapM_some_get h i i (by simp[hi])
 cases h
theorem qiQ (h:w.cell? a=some v):a.spot=none:=by
 unfold A0 at h;split at h
 .split at h
  .cases h
  rename_i hs
  simpa using hs
 cases h
theorem qle (h:a.spot=none) (n:Nat):a.add n=⟨a.block,a.off+n,none⟩:=by
 obtain⟨b,o,s⟩:=a;simp only at h;subst h;unfold Addr.add;split
 .rename_i e;subst e;rfl
 rfl
theorem qeZ {f:α->AV} {ok:α->Prop} {t:Nat} (ht:P.underlying t=some (.slice e)) (hk:P.cellsOf e=k) (hk0:0<k) (he:ReadsN N P e f ok) (hlen:∀ x,(f x).cells.length=k) (hone:∀ x,(f x).cells.all AV.one=true) :
  ReadsN (N+1) P t (encL e k f) (fun l=>l.length<=maxLen/\∀ x,x∈l->ok x):=by
 intro H enc w fuel cs x hN h
 cases fuel with
 | zero=>cases h
 | succ fuel =>
  unfold DataW.trod at h;rw[ht]at h
  split at h <;> try (first | (rename_i e _;cases e;done) | cases h)
  all_goals try (rename_i e;cases e;done)
  .exact⟨[],⟨Nat.zero_le _,fun x hx=>by cases hx⟩,.one (.lstn _ _ _)⟩
  rename_i t1 e1 a len cap e2;cases e2;simp only at h;split at h
  .rename_i hc;obtain⟨hb,hlc,hcm⟩:=hc;rw[D9]at h;obtain⟨elems,h1,h2⟩:=h
   have hel:∀ i,i<len->∃ y:α,ok y/\∃ cs,w.cells? 0 (a.add (i * k)) k=some cs/\CellsR (memOf w) (f y).cells cs:=by
    intro i hi;have hlenE:=mapM_some_length h1;simp at hlenE;have:=mapM_some_get h1 i i (by simp[hi]);have hsome:elems[i]? = some (elems[i]'(by omega)):=A2 _;rw[hsome]at this;rw[hk,D9]at this;obtain⟨cs,hcs,htr⟩:=this;obtain⟨y,hy,hr⟩:=he H enc w fuel cs _ (E0 hN) htr;exact⟨y,hy,cs,hcs,hr⟩
   obtain⟨l,hll,hl⟩:=qbA (Pr:=fun i y=>ok y/\∃ cs,w.cells? 0 (a.add (i * k)) k=some cs/\CellsR (memOf w) (f y).cells cs) len hel;refine⟨l,⟨by omega,fun x hx=>?_⟩,?_⟩
   .obtain⟨i,hi⟩:=List.mem_iff_getElem?.1 hx;exact (hl i x hi).1
   refine .one ?_
   cases len with
   | zero =>
    have:l=[]:=List.length_eq_zero_iff.1 hll;subst this;exact .lste _ _ _ _ _
   | succ len =>
    have hspot:a.spot=none:=by
     have hx:l[0]? = some (l[0]'(by omega)):=A2 _;obtain⟨_,cs,hcs,_⟩:=hl 0 _ hx;obtain⟨c1,c2⟩:=qcY hcs;have:=c2 0 hk0;have hc0:cs[0]? = some (cs[0]'(by omega)):=A2 _;rw[hc0]at this;simp[Addr.add]at this;exact qiQ this
    obtain⟨b,off,spot⟩:=a;simp only at hspot;subst hspot
    have hlenk:∀ x,x∈l.map f->x.cells.length=k:=by
     intro x hx;obtain⟨y,_,rfl⟩:=List.mem_map.1 hx;exact hlen y
    have hcell:∀ (j:Nat) c,(flat (l.map f))[j]? = some c->∃ u,w.cell? ⟨b,off+j,none⟩=some u/\R (memOf w) c u:=by
     intro j c hc
     have hjl:j<l.length * k:=by
      have:=(List.getElem?_eq_some_iff.1 hc).1;rw[jE hlenk]at this
      simpa using this
     have hik:j / k<l.length:=Nat.div_lt_of_lt_mul (by rw[Nat.mul_comm];exact hjl);have hy:l[j / k]? = some (l[j / k]'hik):=A2 _
     have hfy:(l.map f)[j / k]? = some (f (l[j / k]'hik)):=by rw[List.getElem?_map,hy];rfl
     have hmod:j % k<k:=Nat.mod_lt _ hk0;have hfl:=YP hlenk hfy (j % k) hmod
     have hdm:j / k * k+j % k=j:=by rw[Nat.mul_comm];exact Nat.div_add_mod j k
     rw[hdm,hc]at hfl;obtain⟨_,cs,hcs,hcr⟩:=hl _ _ hy;obtain⟨c1,c2⟩:=qcY hcs;have hcell:=c2 (j % k) hmod;have hv:cs[j % k]? = some (cs[j % k]'(by omega)):=A2 _;rw[hv,qle (a:=⟨b,off,none⟩) rfl,qle rfl]at hcell;refine⟨_,?_,hcr.2 _ _ _ hfl.symm hv⟩
     simpa[Nat.add_assoc,hdm] using hcell
    rw[<- hll];have hmap:(l.map f).length=l.length:=B1 _;unfold encL;rw[<- hmap];refine .lst (fun j=>(w.cell? ⟨b,off+j,none⟩).getD undef) (by rw[hmap];omega) hlenk ?_ ?_ ?_
    .intro x hx;obtain⟨y,_,rfl⟩:=List.mem_map.1 hx;exact hone y
    .intro j c hc;obtain⟨u,hu,hr⟩:=hcell j c hc;rw[hu];refine DF hu (Yx (hr.one (UW (fun x hx=>?_) hc)));obtain⟨y,_,rfl⟩:=List.mem_map.1 hx;exact hone y
    intro j c hc;obtain⟨u,hu,hr⟩:=hcell j c hc;rw[hu];exact hr
  cases h
theorem Ux {f:α->AV} {ok:α->Prop} {t:Nat} (ht:P.underlying t=some (.slice e)) (hk:P.cellsOf e=k) (hk0:0<k) (he:Reads P e f ok) (hlen:∀ x,(f x).cells.length=k) (hone:∀ x,(f x).cells.all AV.one=true) :
  Reads P t (encL e k f) (fun l=>l.length<=maxLen/\∀ x,x∈l->ok x) :=
 ReadsN.all fun N=>(qeZ ht hk hk0 (he.toN N) hlen hone).mono (Nat.le_succ N)
def Ho (N:Nat) (P:Program):List Field->Nat->Nat->{α:Type}->(α->LM)->(α->Prop)->Prop:=fun fs off size α f ok =>
 ∀ (H:Type) (enc:TypeId×Value->H) (w:World) (fuel:Nat) (cs:LT),fuel<=N->cs.length=size ->
  (∀ g,g∈fs->∃ x,DataW.trod enc P w 0 (fun _=>true) true fuel g.type ((cs.drop g.offset).take (P.cellsOf g.type))=some x) ->
  ∃ a,ok a/\CellsR (memOf w) (f a) (cs.drop off)
abbrev FieldsR (P:Program) (fs:List Field) (off size:Nat) {α:Type} (f:α->LM) (ok:α->Prop):Prop:=∀ N,Ho N P fs off size f ok
theorem qfj (h:size=off):Ho N P [] off size (fun _:Unit=>[]) (fun _=>True):=by
 intro H enc w fuel cs _ hl _;refine⟨(),trivial,?_⟩;rw[List.drop_of_length_le (by omega)];exact⟨rfl,fun j c v hc=>by simp at hc⟩
theorem qdu {f:α->AV} {ok:α->Prop} {g:β->LM} {ok':β->Prop} (ho:fd.offset=off) (hs:P.cellsOf fd.type=n) (hn:off+n=off') (he:ReadsN N P fd.type f ok) (hr:Ho N P fs off' size g ok') :
  Ho N P (fd::fs) off size (fun x:α×β=>(f x.1).cells++g x.2) (fun x=>ok x.1/\ok' x.2):=by
 intro H enc w fuel cs hN hl h;obtain⟨x,hx⟩:=h fd (by simp);obtain⟨a,h1,h2⟩:=he H enc w fuel _ _ hN hx;obtain⟨b,h3,h4⟩:=hr H enc w fuel cs hN hl (fun g hg=>h g (by simp[hg]));refine⟨(a,b),⟨h1,h3⟩,?_⟩;rw[ho,hs]at h2;have:=h2.append h4;rw[<- hn]at this
 have e:(cs.drop off).take n++cs.drop (off+n)=cs.drop off:=by
  rw[<- List.drop_drop,List.take_append_drop]
 rw[e]at this;exact this
theorem UC (h:size=off):FieldsR P [] off size (fun _:Unit=>[]) (fun _=>True):=fun N=>qfj h
theorem Xh {f:α->AV} {ok:α->Prop} {g:β->LM} {ok':β->Prop} (ho:fd.offset=off) (hs:P.cellsOf fd.type=n) (hn:off+n=off') (he:Reads P fd.type f ok) (hr:FieldsR P fs off' size g ok') :
  FieldsR P (fd::fs) off size (fun x:α×β=>(f x.1).cells++g x.2) (fun x=>ok x.1/\ok' x.2):=fun N=>qdu ho hs hn (he.toN N) (hr N)
theorem qdq {t:Nat} {fs:Array Field} {g:β->LM} {ok':β->Prop} (mk:β->α) {f:α->AV} {ok:α->Prop} (ht:P.underlying t=some (.struct fs)) (hs:P.cellsOf t=size) (hf:Ho N P fs.toList 0 size g ok') (hcells:∀ b,(f (mk b)).cells=g b) (hok:∀ b,ok' b->ok (mk b)):ReadsN (N+1) P t f ok:=by
 intro H enc w fuel cs x hN h
 cases fuel with
 | zero=>cases h
 | succ fuel =>
  unfold DataW.trod at h;rw[ht]at h
  have key:cs.length=size/\∃ xs,fs.toList.mapM (fun fd=>DataW.trod enc P w 0 (fun _=>true) true fuel fd.type ((cs.drop fd.offset).take (P.cellsOf fd.type)))=some xs:=by
   simp only at h;split at h
   .rename_i hl;rw[hs]at hl;rw[Option.map_eq_some_iff]at h;obtain⟨xs,h1,_⟩:=h;exact⟨hl,xs,h1⟩
   cases h
  obtain⟨hl,xs,hm⟩:=key
  obtain⟨b,h1,h2⟩:=hf H enc w fuel cs (E0 hN) hl (fun fd hfd=>by
   obtain⟨i,hi⟩:=List.mem_iff_getElem?.1 hfd;have h3:=mapM_some_get hm i fd hi;have hlen:=mapM_some_length hm
   have hix:i<xs.length:=by rw[hlen];exact (List.getElem?_eq_some_iff.1 hi).1
   exact⟨xs[i],h3.trans (A2 hix)⟩)
  refine⟨mk b,hok b h1,?_⟩;rw[hcells]
  simpa using h2
theorem Vz {t:Nat} {fs:Array Field} {g:β->LM} {ok':β->Prop} (mk:β->α) {f:α->AV} {ok:α->Prop} (ht:P.underlying t=some (.struct fs)) (hs:P.cellsOf t=size) (hf:FieldsR P fs.toList 0 size g ok') (hcells:∀ b,(f (mk b)).cells=g b) (hok:∀ b,ok' b->ok (mk b)):Reads P t f ok :=
 ReadsN.all fun N=>(qdq mk ht hs (hf N) hcells hok).mono (Nat.le_succ N)
theorem Reads.arg {f:α->AV} {ok:α->Prop} (h:Reads P t f ok) {H:Type} {enc:TypeId×Value->H} {d:DataW H} {ps:List MemPlace} (ht:DataW.Trod enc P w 0 (fun _=>true) true t v d ps) (hv:(f · |>.cells)=(fun x=>[f x]):=by rfl) (hone:v.cells.toList=[v]):∃ a,ok a/\R (memOf w) (f a) v:=by
 obtain⟨fuel,hf⟩:=ht;obtain⟨a,h1,h2⟩:=h H enc w fuel _ _ hf;refine⟨a,h1,?_⟩;have e:(f a).cells=[f a]:=congrFun hv a
 have h3:CellsR (memOf w) [f a] [v]:=by
  rw[<- e];rw[hone]at h2;exact h2
 exact h3.2 0 _ _ rfl rfl
end
end Go.AM
namespace Go.AM
open Go.RowKit Go.ChangeShapes
variable {v:Value} {P:Program} {base:Nat} {t:TypeId} {H:Type}
theorem Dj {H:Type} {enc:TypeId×Value->H} {P:Program} (hl:laidOutB P=true) {W W':World} {sp:Nat->Bool}:∀ {ts:List TypeId} {vs:LT} {ds:List (DataW H)} {ps:List MemPlace},
  (∀ t,t∈ts->P.readableRec t=true/\t<P.types.size)->DataW.TrodAll enc P W 0 (fun _=>true) true ts vs ds ps->(∀ p,p∈ps->W.sameAt W' p)->(∀ p,p∈ps->sp p.block=true)->DataW.TrodAll enc P W' 0 sp true ts vs ds ps
 | [],vs,ds,ps,_,h,_,_=>by
  obtain⟨rfl,rfl,rfl⟩:=trodAll_nil h;exact trodAll_mk0
 | t::ts,vs,ds,ps,ht,h,hs,hp=>by
  obtain⟨v,vs',d,ds',p,q,rfl,rfl,rfl,h1,h2⟩:=trodAll_cons h;obtain⟨r1,r2⟩:=ht t (by simp);exact trodAll_cons_mk (WideElems.Trod_stays hl r1 r2 h1 (fun x hx=>hs x (by simp[hx])) (fun x hx=>hp x (by simp[hx])))
   (Dj hl (fun t h=>ht t (by simp[h])) h2 (fun x hx=>hs x (by simp[hx])) (fun x hx=>hp x (by simp[hx])))
def ArgsR (M:Mem) (avs:LM) (vs:LT):Prop:=avs.length=vs.length/\∀ (j:Nat) c v,avs[j]? = some c->vs[j]? = some v->R M c v
theorem ArgsR.nil {M:Mem}:ArgsR M [] []:=⟨rfl,fun j c v h=>by simp at h⟩
theorem ArgsR.cons {M:Mem} {x:AV} {xs:LM} {vs:LT} (h:R M x v) (hs:ArgsR M xs vs):ArgsR M (x::xs) (v::vs):=by
 refine⟨by simp[hs.1],fun j c u hc hu=>?_⟩
 cases j with
 | zero=>simp at hc hu;subst hc;subst hu;exact h
 | succ j=>exact hs.2 j c u (by simpa using hc) (by simpa using hu)
def qcZ (P:Program) (t:TypeId):Bool:=match P.underlying t with
 | some (.int _) | some .bool | some .string | some (.slice _)=>true
 | _=>false
theorem qjk {W:World} (ht:qcZ P t=true) (h:Value.okWide P W .any base t v):v.cells.toList=[v]:=by
 cases v with
 | agg cs =>
  unfold qcZ at ht;split at ht <;> (rename_i e;simp[Value.okWide,e,Cell.okWide,Cell.ok]at h) <;> cases ht
 | _=>rfl
def rowType (P:Program) (t:TypeId):Bool:=match P.underlying t with
 | some (.struct _) | some (.array _ _)=>true
 | _=>false
theorem qiW {W:World} (ht:rowType P t=true) (h:Value.okWide P W .any base t v):∃ cs,v=.agg cs:=by
 unfold rowType at ht;split at ht
 .rename_i e;simp only[Value.okWide,e]at h;obtain⟨cs,h1,_⟩:=h;exact⟨cs,h1⟩
 .rename_i e;simp only[Value.okWide,e]at h;obtain⟨cs,h1,_⟩:=h;exact⟨cs,h1⟩
 cases ht
theorem Reads.argS {α:Type} {f:α->AV} {ok:α->Prop} (h:Reads P t f ok) {enc:TypeId×Value->H} {w:World} {d:DataW H} {ps:List MemPlace} (ht:DataW.Trod enc P w 0 (fun _=>true) true t v d ps) (hv:∀ a,f a=.agg (f a).cells) (hrow:∃ cs,v=.agg cs):∃ a,ok a/\R (memOf w) (f a) v:=by
 obtain⟨fuel,hf⟩:=ht;obtain⟨a,h1,h2⟩:=h H enc w fuel _ _ hf;obtain⟨cs,rfl⟩:=hrow;refine⟨a,h1,?_⟩;rw[hv a];have:R (memOf w) (.agg (f a).cells) (.agg cs.toList.toArray):=.agg (by simpa[Value.cells] using h2.1) (fun j c v hc hv=>h2.2 j c v hc (by simpa[Value.cells] using hv))
 simpa using this
theorem qfc {enc:TypeId×Value->H} {f:Nat} {fn:Func} {s:ChangeSpec} {tb:TypeId} (hmix:P.follows .mixedOrders=true) (hl:laidOutB P=true) (hb:P.underlying tb=some .bool) (hres:fn.resultTypes=#[tb])
  (hts:∀ t,t∈fn.params.toList->P.readableRec t=true/\t<P.types.size) (hv:s.vars=[])
  (hs:∀ ds:List (DataW H),ds.length=fn.params.toList.length->s.fn H (ds++[])={ results:=[.lit (.bool true)],args:=ds })
  (hrun:∀ (W:World) (vs:LT) (ds:List (DataW H)) (ps:List MemPlace),(∀ (j:Nat) t v,fn.params.toList[j]? = some t->vs[j]? = some v->qcZ P t=true->v.cells.toList=[v])->(∀ (j:Nat) t v,fn.params.toList[j]? = some t->vs[j]? = some v->rowType P t=true->∃ cs,v=.agg cs)->DataW.TrodAll enc P W 0 (fun _=>true) true fn.params.toList vs ds ps->∃ avs,ArgsR (memOf W) avs vs/\Run P (.call f avs (.bool true)))
  (W:World) (hgl:GlobW W) (base:Nat) (args:LO) (ds gs:List (DataW H)) (before:List MemPlace) (hval:∀ (j:Nat) t v,fn.params[j]? = some t->args[j]? = some v->Value.okWide P W .any base t v) (hW:DataW.Whole enc P fn.params.toList s.vars false W args.toList ds gs before) :
  Calls P f args W fun e W'=>∃ v,e=.returned v/\s.post enc P fn false true false false W args v W':=by
 have hW':=hW;obtain⟨p,q,hA,hV,rfl,hfz,hnd⟩:=hW;rw[hv]at hV;obtain⟨rfl,rfl⟩:=trodVars_none hV;obtain⟨avs,⟨h1,h2⟩,hr⟩:=hrun W args.toList ds p (fun j t v h1 h2 hc=>qjk hc (hval j t v (by simpa using h1) (by simpa using h2))) (fun j t v h1 h2 hc=>qiW hc (hval j t v (by simpa using h1) (by simpa using h2))) hA
 have hlen:ds.length=fn.params.toList.length:=by
  have:∀ {ts:List TypeId} {vs:LT} {ds:List (DataW H)} {ps:List MemPlace},DataW.TrodAll enc P W 0 (fun _=>true) true ts vs ds ps->ds.length=ts.length:=by
   intro ts
   induction ts with
   | nil=>intro vs ds ps h;obtain⟨_,rfl,_⟩:=trodAll_nil h;rfl
   | cons t ts ih =>
    intro vs ds ps h;obtain⟨v,vs',d,ds',p,q,rfl,rfl,rfl,_,h2⟩:=trodAll_cons h;simp[ih h2]
  exact this hA
 have hc:=Zd hmix hr (memOf W) W args.toList (fun g hg=>(hgl g hg).imp fun m hm=>DF hm rfl) (qhB W) h1 h2;have hc':Calls P f args W _:=hc
 refine hc'.mono fun e W' hh=>?_
 obtain⟨v,M',he,hB,_,_,_,hR,_⟩:=hh;cases hR;subst he;have hfn:=hs ds hlen;refine⟨_,rfl,ds,[],p++[],[],p,[],hW',?_,?_,?_,?_,fun h=>by cases h⟩
 .rw[hfn,hres];exact trodAll_mk1 (shut_bool hb _)
 .rw[hfn];exact Dj hl hts hA (fun x hx=>hB.same (hW'.lt x (by simp[hx]))) (fun x hx=>by simpa using hW'.lt x (by simp[hx]))
 .rw[hv,hfn];rfl
 exact World.keptBut_mono (fun x hx=>⟨hx,Or.inr (Or.inl (by simpa using hx))⟩) (hB.frame (·∈p++[]))
end Go.AM
namespace Go.AM
open Go.RowKit
open Go.ChangeMaps (setBlock)
open Go.MapKept (heap_set)
variable {seen:Array Nat} {es:LW} {id j:Nat} {ks vs:LM} {c:Code} {S:Ex->Env->Prop} {e e':Env}
section
variable {bs:Base} {n:Nat} {M:Mem} {O:Gh} {env:Env} {a:Act} {w:World} {P:Program}
theorem qfM (ty:TypeId) {g bm since c0:Nat} {clock:Nat} (hg:w.heap[g]? = some (.mapIter (some bm) since seen c0)) (hb:w.heap[bm]? = some (.map es clock)) (hold:∀ x∈es.toList,x.born<since) (hsc:since<=c0) :
  ((leftOf es seen).size=0/\(Instr.next (.pointer (some ⟨g,0,none⟩)) false ty).run P w=.ok (.tuple #[.bool false]) w) \/
  ∃ (j:Nat) (hj:j<(leftOf es seen).size) (w1:World),(w1=w\/w1=w.drew)/\(Instr.next (.pointer (some ⟨g,0,none⟩)) false ty).run P w=.ok (.tuple #[.bool true,(leftOf es seen)[j].key,(leftOf es seen)[j].val]) (setBlock w1 g (.mapIter (some bm) since (seen.push (leftOf es seen)[j].born) clock)):=by
 simp only[Instr.next,getObj,Sem.run_bind,C0,hg,hb,C7,next_test_false seen es since c0 hold hsc,D5,if_false];unfold leftOf
 have hmem:∀ x∈(Array.filter (fun e=>!seen.contains e.born) es).toList,x.born<since:=fun x hx=>hold x (by simp at hx ⊢;exact hx.1)
 generalize Array.filter (fun e=>!seen.contains e.born) es=L at hmem ⊢;have e1:L.filter (fun x=>decide (x.born<since))=L:=Array.filter_eq_self.2 (fun x hx=>by simpa using hmem x (by simpa using hx))
 have e2:L.filter (fun x=>decide (x.born >= since))=#[]:=by
  rw[Array.filter_eq_empty_iff];intro x hx;have:=hmem x (by simpa using hx);simp;omega
 simp only[e1,e2,Array.append_empty];by_cases h0:L.size=0
 .left;have:L=#[]:=Array.eq_empty_of_size_eq_zero h0;subst this;refine⟨rfl,?_⟩;simp[choose,C0,Question.forced]
 right
 have hne:L.isEmpty=false:=by simp[Array.isEmpty,h0]
 simp only[hne,D5,if_false,Array.empty_append,Array.size_map]
 have hch:∃ (j:Nat) (w1:World),j<L.size/\(w1=w\/w1=w.drew)/\(choose (Question.mapNext L.size)).run P w=.ok j w1:=by
  by_cases hf:L.size<=1
  .exact⟨0,w,by omega,.inl rfl,by simp[choose,C0,Question.forced,hf]⟩
  exact⟨_,w.drew,Nat.mod_lt _ oM,.inr rfl,by
   simp only[choose,C0,Question.forced,decide_eq_true_eq,hf,if_false,Question.cut]
   rfl⟩
 obtain⟨j,w1,hj,hw1,hrun⟩:=hch;refine⟨j,hj,w1,hw1,?_⟩
 have hg1:w1.heap[g]? = some (.mapIter (some bm) since seen c0):=by
  rcases hw1 with rfl | rfl
  .exact hg
  exact hg
 have hset:∀ o':Obj,(setObj g o').run P w1=.ok () (setBlock w1 g o'):=fun o'=>by
  simp only[setObj,C0,hg1];rfl
 simp only[hrun,Array.getElem?_map,D1 hj,Option.map_some,Sem.run_bind,hset,C7];rfl
theorem qat {α:Type} (f:α->Nat):∀ (l:List α) (j:Nat) (hj:j<l.length),(l.map f).Nodup->l.filter (fun x=>f x != f l[j])=l.eraseIdx j
 | [],j,hj,_=>by simp at hj
 | x::l,0,hj,hn=>by
  have hn':=List.nodup_cons.1 hn;rw[List.filter_cons];simp only[A3,bne_self_eq_false,D5,if_false,List.eraseIdx_cons_zero];rw[List.filter_eq_self];intro y hy;simp only[bne_iff_ne,ne_eq]
  exact fun e=>hn'.1 (by rw[<- e];exact List.mem_map.2 ⟨y,hy,rfl⟩)
 | x::l,j+1,hj,hn=>by
  have hn':=List.nodup_cons.1 hn
  have hj':j<l.length:=by simpa using hj
  rw[List.filter_cons];simp only[A4,List.eraseIdx_cons_succ]
  have:(f x != f l[j])=true:=by
   simp only[bne_iff_ne,ne_eq]
   exact fun e=>hn'.1 (by rw[e];exact List.mem_map.2 ⟨l[j],List.getElem_mem hj',rfl⟩)
  rw[if_pos this,qat f l j hj' hn'.2]
theorem qbs (hn:(es.toList.map (·.born)).Nodup) (hj:j<(leftOf es seen).size):(leftOf es (seen.push (leftOf es seen)[j].born)).toList=(leftOf es seen).toList.eraseIdx j:=by
 have hnl:((leftOf es seen).toList.map (·.born)).Nodup:=by
  unfold leftOf;rw[D6];exact hn.sublist (List.filter_sublist.map _)
 have h:=qat (fun e:MapEntry=>e.born) (leftOf es seen).toList j (by simpa using hj) hnl;rw[<- h]
 have hb:(leftOf es seen).toList[j]'(by simpa using hj)=(leftOf es seen)[j]:=by simp
 rw[hb];generalize (leftOf es seen)[j].born=b;unfold leftOf;rw[D6,D6,List.filter_filter]
 refine List.filter_congr fun x _=>?_
 simp only[Array.contains_push,Bool.not_or];rw[Bool.and_comm];rfl
theorem LeftOk0.erase (h:LeftOk0 M es seen ks vs) (hn:(es.toList.map (·.born)).Nodup) (hj:j<(leftOf es seen).size):LeftOk0 M es (seen.push (leftOf es seen)[j].born) (ks.eraseIdx j) (vs.eraseIdx j):=by
 obtain⟨h1,h2,h3,h4⟩:=h;have hl:=qbs hn hj
 have hsz:(leftOf es (seen.push (leftOf es seen)[j].born)).size=(leftOf es seen).size - 1:=by
  rw[<- E7,hl,D7,if_pos (by simpa using hj),E7]
 have hat:∀ i e,(leftOf es (seen.push (leftOf es seen)[j].born))[i]? = some e->(leftOf es seen)[if i<j then i else i+1]? = some e:=by
  intro i e he;rw[<- E8,hl,D8]at he;rw[<- E8];split at he
  .rename_i hij;rw[if_pos hij];exact he
  rename_i hij;rw[if_neg hij];exact he
 refine⟨by rw[D7,if_pos (by omega),hsz,h1],by rw[D7,if_pos (by omega),hsz,h2],fun i k e hk he=>?_,fun i v e hv he=>?_⟩
 .rw[D8]at hk;refine h3 (if i<j then i else i+1) k e ?_ (hat i e he);split at hk
  .rename_i hij;rw[if_pos hij];exact hk
  rename_i hij;rw[if_neg hij];exact hk
 rw[D8]at hv;refine h4 (if i<j then i else i+1) v e ?_ (hat i e he);split at hv
 .rename_i hij;rw[if_pos hij];exact hv
 rename_i hij;rw[if_neg hij];exact hv
def leftE:AV->Option (LM×LM)
 | .hob 1 ks vs=>some (ks,vs)
 | .hob 2 (_::ks) (_::vs)=>some (ks,vs)
 | _=>none
def nextEnt (ks vs:LM) (j:Nat):AV:=.hob 2 (ks.getD j .und::ks.eraseIdx j) (vs.getD j .und::vs.eraseIdx j)
theorem qhy (h:Inv bs n M O env a w) {o:Oper} {x:Operand} (ho:o.op=.next x false) {y:AV} (hx:aop env x=some (.mb 1 id)) (hl:look env id=some y) (hy:leftE y=some (ks,vs))
  {envF:Env} (hF:eput n o.dst (.tup [.bool false]) env=some envF) {envT:Nat->Env} (hT:∀ j,j<ks.length->eput n o.dst (.tup [.bool true,.top,.top]) (ins id (nextEnt ks vs j) env)=some (envT j)) :
  (ks=[]/\vs=[]/\Leads P bs n o a w envF)\/∃ j,j<ks.length/\ks.length=vs.length/\Leads P bs n o a w (envT j):=by
 obtain⟨g,g1,g2⟩:=qv h hx;have hs:=h.slots id _ hl
 have hex:execOp a.eval o=vS (Instr.next (a.eval x) false o.type):=by unfold execOp;rw[ho];rfl
 have hfalse:R M (.tup [.bool false]) (.tuple #[.bool false]):=R.tup (vs:=[.bool false]) rfl fun j c v hc hv=>by
  match j,hc,hv with
  | 0,hc,hv=>cases hc;cases hv;exact .bool _
 have htrue:∀ k v:Value,R M (.tup [.bool true,.top,.top]) (.tuple #[.bool true,k,v]):=fun k v=>R.tup (vs:=[.bool true,k,v]) rfl fun j c u hc hu=>by
  match j,hc,hu with
  | 0,hc,hu=>cases hc;cases hu;exact .bool _
  | 1,hc,hu=>cases hc;exact .top _
  | 2,hc,hu=>cases hc;exact .top _
 obtain⟨yk,hyk,key⟩:∃ kd,O true id=some g/\(∀ o,M g o=none)/\y.ent=true/\((∃ c s,w.heap[g]? = some (.mapIter none c s 0)/\ks=[]/\vs=[]) \/
   ∃ (b:Nat) (es:LW) (clock:Nat) (seen:Array Nat) (last:Nat),w.heap[g]? = some (.mapIter (some b) clock seen last)/\clock<=last/\M b 0=some (mapCell es clock)/\MapKept.Stamped es clock/\LeftOk M es seen ks vs)/\kd=():=by
  unfold leftE at hy;split at hy
  .cases hy;obtain⟨g',k1,k2,k3⟩:=hs
   have:g'=g:=by rw[k1]at g1;exact Option.some.inj g1
   subst this;exact⟨(),k1,k2,rfl,k3,rfl⟩
  .cases hy;obtain⟨g',k1,k2,b,es,clock,seen,e,k,v,ks',vs',q1,q2,q3,q4,q5,q6,q7,q8,q9⟩:=hs
   have:g'=g:=by rw[k1]at g1;exact Option.some.inj g1
   subst this;cases q1;cases q2;exact⟨(),k1,k2,rfl,.inr ⟨b,es,clock,_,clock,q3,A5 _,q4,q5,q9⟩,rfl⟩
  cases hy
 obtain⟨k2,k3,key,_⟩:=key
 rcases key with ⟨c,s,q1,rfl,rfl⟩ | ⟨b,es,clock,seen,last,q1,q2,q3,q4,q5⟩
 .left;refine⟨rfl,rfl,.tuple #[.bool false],w,M,O,.inl ?_,Yi h (x:=.tup [.bool false]) ⟨hfalse,trivial⟩ hF⟩;rw[hex,g2];refine Nx ?_;simp[Instr.next,getObj,C0,q1,C7]
 have hb:=Vt (h.cons _ _ _ q3);obtain⟨hb1,hb2,hb3⟩:=q4
 rcases qfM (P:=P) o.type q1 hb hb1 q2 with ⟨r1,r2⟩ | ⟨j,hj,w1,hw1,r2⟩
 .left;obtain⟨ks',vs',hp,l1,l2,_,_⟩:=q5;have hl:=hp.length;have hl2:=hp.1;refine⟨E9 oM,E9 oM,.tuple #[.bool false],w,M,O,.inl ?_,Yi h (x:=.tup [.bool false]) ⟨hfalse,trivial⟩ hF⟩;rw[hex,g2];exact Nx r2
 right;obtain⟨ks',vs',hp,l1,l2,l3,l4⟩:=q5
 have hjk:j<ks'.length:=by omega
 have hjv:j<vs'.length:=by omega
 obtain⟨i,hi,ei,ev,hpe⟩:=hp.take hjk;rw[A2 hjk]at ei;rw[A2 hjv]at ev;refine⟨i,hi,hp.1,?_⟩
 have hg1:w1.heap[g]? = some (.mapIter (some b) clock seen last):=by
  rcases hw1 with rfl | rfl
  .exact q1
  exact q1
 have hgr:w.grownBy (setBlock w1 g (.mapIter (some b) clock (seen.push (leftOf es seen)[j].born) clock)) (some g):=by
  rcases hw1 with rfl | rfl
  .exact Yb q1
  obtain⟨t1,t2,t3,t4,t5⟩:=Yb (o':=.mapIter (some b) clock (seen.push (leftOf es seen)[j].born) clock) hg1;exact⟨t1,t2,t3,t4,t5⟩
 have hkat:ks.getD i .und=ks'[j]:=by rw[F6,ei];rfl
 have hvat:vs.getD i .und=vs'[j]:=by rw[F6,ev];rfl
 have hent:Inv bs n M O (ins id (nextEnt ks vs i) env) a (setBlock w1 g (.mapIter (some b) clock (seen.push (leftOf es seen)[j].born) clock)):=by
  refine h.setEnt hl k3 rfl hyk hgr k2 ⟨g,hyk,k2,b,es,clock,seen,(leftOf es seen)[j],ks'[j],vs'[j],ks.eraseIdx i,vs.eraseIdx i,by rw[hkat],by rw[hvat],(heap_set hg1).1,q3,⟨hb1,hb2,hb3⟩,?_,?_,?_,⟨_,_,hpe,LeftOk0.erase ⟨l1,l2,l3,l4⟩ hb2 hj⟩⟩
  .have hm:(leftOf es seen)[j]∈leftOf es seen:=Array.getElem_mem hj;unfold leftOf at hm;have:=(Array.mem_filter.1 hm).1;exact Array.mem_toList_iff.2 this
  .exact l3 j _ _ (A2 hjk) (D1 hj)
  exact l4 j _ _ (A2 hjv) (D1 hj)
 refine⟨.tuple #[.bool true,(leftOf es seen)[j].key,(leftOf es seen)[j].val],_,M,O,.inl ?_,Yi hent (x:=.tup [.bool true,.top,.top]) ⟨htrue _ _,trivial⟩ (hT i hi)⟩;rw[hex,g2];exact Nx r2
def CodeP (P:Program) (n:Nat) (c:Code) (S:Ex->Env->Prop) (e:Env):Prop :=
 ∀ (bs:Base) (M:Mem) (O:Gh) (a:Act) (w:World),Inv bs n M O e a w->∀ (Q:Exit->Act->World->Prop),(∀ ex e' a' w' M' O',S ex e'->Inv bs n M' O' e' a' w'->Q (toExit ex) a' w')->c.wp P Q a w
theorem CodeP.of (hmix:P.follows .mixedOrders=true) (h:W P n c S env):CodeP P n c S env:=by
 obtain⟨ex,e1,hr,hs⟩:=h;intro bs M O a w hi Q hQ
 exact (Zd hmix hr).1 bs M O a w hi Q fun a' w' M' O' h'=>hQ ex e1 a' w' M' O' hs h'
def ThenP (c:Code) (P:Program) (n:Nat) (S:Ex->Env->Prop):Ex->Env->Prop
 | .normal,e=>CodeP P n c S e
 | ex,e=>S ex e
theorem CodeP.seq {x y:Code} {S:Ex->Env->Prop} (h:CodeP P n x (ThenP y P n S) env):CodeP P n (.seq x y) S env:=by
 intro bs M O a w hi Q hQ;refine wp_seq (h bs M O a w hi _ fun ex e' a' w' M' O' hs h'=>?_)
 cases ex with
 | normal=>exact hs bs M' O' a' w' h' Q hQ
 | ret=>exact hQ .ret e' a' w' M' O' hs h'
 | exit i=>exact hQ (.exit i) e' a' w' M' O' hs h'
theorem CodeP.mono {S':Ex->Env->Prop} (h:CodeP P n c S env) (hs:∀ ex e,S ex e->S' ex e):CodeP P n c S' env:=by
 intro bs M O a w hi Q hQ
 exact h bs M O a w hi Q fun ex e' a' w' M' O' h1 h'=>hQ ex e' a' w' M' O' (hs _ _ h1) h'
theorem CodeP.block {id:Nat} {c:Code} {S:Ex->Env->Prop} (h:CodeP P n c (fun ex e=>S (ex.unblock id) e) env):CodeP P n (.block id c) S env:=by
 intro bs M O a w hi Q hQ;refine wp_block (h bs M O a w hi _ fun ex e' a' w' M' O' hs h'=>?_);have:=hQ _ e' a' w' M' O' hs h'
 cases ex with
 | normal=>exact this
 | ret=>exact this
 | exit i =>
  simp only[toExit,Exit.inBlock];simp only[Ex.unblock]at this;split at this
  .rename_i hb;rw[if_pos (Nat.eq_of_beq_eq_true hb)];exact this
  rename_i hb;rw[if_neg (fun e=>by subst e;simp at hb)];exact this
theorem CodeP.cond {c:Operand} {x y:Code} {S:Ex->Env->Prop} (b:Bool) (hc:aop env c=some (.bool b)) (ht:b=true->CodeP P n x S env) (hf:b=false->CodeP P n y S env):CodeP P n (.cond c x y) S env:=by
 intro bs M O a w hi Q hQ;have hv:=(qv hi hc).1.bool_inv;refine wp_cond hv ?_
 cases b with
 | true=>exact ht rfl bs M O a w hi Q hQ
 | false=>exact hf rfl bs M O a w hi Q hQ
def LoopS (I:Nat->Env->Prop) (S:Ex->Env->Prop) (k:Nat):Ex->Env->Prop
 | .normal,e=>∃ k',k=k'+1/\I k' e
 | ex,e=>S ex e
theorem CodeP.loop {c:Code} {S:Ex->Env->Prop} {I:Nat->Env->Prop} (hs:∀ k e,I k e->CodeP P n c (LoopS I S k) e):∀ (k:Nat) {env:Env},I k env->CodeP P n (.loop c) S env:=by
 intro k env hI
 have key:∀ (k:Nat) (e:Env),I k e->∀ (bs:Base) (M:Mem) (O:Gh) (a:Act) (w:World),Inv bs n M O e a w->∀ (Q:Exit->Act->World->Prop),(∀ ex e' a' w' M' O',S ex e'->Inv bs n M' O' e' a' w'->Q (toExit ex) a' w')->Code.rounds P c Q (k+1) a w:=by
  intro k
  induction k with
  | zero =>
   intro e hI bs M O a w hi Q hQ;rw[rounds_succ]
   refine hs 0 e hI bs M O a w hi _ fun ex e' a' w' M' O' h1 h'=>?_
   cases ex with
   | normal=>obtain⟨k',h2,_⟩:=h1;omega
   | ret=>exact hQ .ret e' a' w' M' O' h1 h'
   | exit i=>exact hQ (.exit i) e' a' w' M' O' h1 h'
  | succ k ih =>
   intro e hI bs M O a w hi Q hQ;rw[rounds_succ]
   refine hs (k+1) e hI bs M O a w hi _ fun ex e' a' w' M' O' h1 h'=>?_
   cases ex with
   | normal =>
    obtain⟨k',h2,h3⟩:=h1
    obtain rfl:k'=k:=by omega
    exact ih e' h3 bs M' O' a' w' h' Q hQ
   | ret=>exact hQ .ret e' a' w' M' O' h1 h'
   | exit i=>exact hQ (.exit i) e' a' w' M' O' h1 h'
 intro bs M O a w hi Q hQ;exact wp_loop_rounds (k+1) (key k env hI bs M O a w hi Q hQ)
theorem CodeP.next (hmix:P.follows .mixedOrders=true) {id:Nat} {ops:Lj} {S:Ex->Env->Prop} {o:Oper} {rest:LF} (hops:ops.toList=o::rest) {x:Operand} (ho:o.op=.next x false) (hw:awanted ops.toList o env=some true) {it:Nat} {y:AV} {ks vs:LM}
  (hx:aop env x=some (.mb 1 it)) (hl:look env it=some y) (hy:leftE y=some (ks,vs)) {envF:Env} (hF:eput n o.dst (.tup [.bool false]) env=some envF) {envT:Nat->Env} (hT:∀ j,j<ks.length->eput n o.dst (.tup [.bool true,.top,.top]) (ins it (nextEnt ks vs j) env)=some (envT j))
  (h0:ks=[]->vs=[]->WO P n false ops.toList rest (S .normal) envF) (h1:∀ j,j<ks.length->ks.length=vs.length->WO P n false ops.toList rest (S .normal) (envT j)):CodeP P n (.region id ops false) S env:=by
 intro bs M O a w hi Q hQ;refine wp_region_list ?_;rw[hops]
 have hfin:∀ env1,WO P n false ops.toList rest (S .normal) env1->∀ a' w' M' O',Inv bs n M' O' env1 a' w'->wpList P ops Q rest a' w':=by
  intro env1 hwo a' w' M' O' h';obtain⟨e1,hr,hs⟩:=hwo
  have:=Dd (Zd hmix hr) h' (Q:=Q) fun a2 w2 M2 O2 h2=>hQ .normal e1 a2 w2 M2 O2 hs h2
  simpa using this
 simp only[wpList];rw[show yielded ops a.tmps=yielded ops.toList.toArray a.tmps by simp,jl hi hw];simp only[if_true]
 rcases qhy hi ho hx hl hy hF hT with ⟨e1,e2,hL⟩ | ⟨j,hj,hj2,hL⟩
 .exact .inl <| ZE hL fun a' w' M' O' h'=>hfin _ (h0 e1 e2) a' w' M' O' h'
 exact .inl <| ZE hL fun a' w' M' O' h'=>hfin _ (h1 j hj hj2) a' w' M' O' h'
def Goes (n:Nat) (e e':Env):Prop:=∀ (bs:Base) (M:Mem) (O:Gh) (a:Act) (w:World),Inv bs n M O e a w->∃ M' O',Inv bs n M' O' e' a w
theorem Goes.refl (e:Env):Goes n e e:=fun bs M O a w hi=>⟨M,O,hi⟩
theorem Goes.wk {e1:Env} (h:Goes n e1 e') (he:weakE (e1.map Prod.fst) [] [] [] e=e1:=by kernel_rfl):Goes n e e':=by
 intro bs M O a w hi;obtain⟨M',O',h'⟩:=hi.freezeAll [];obtain⟨O2,h2⟩:=Inv.relabAll [] ((Inv.nilAll [] h').drop (e1.map Prod.fst))
 have h3:Inv bs n M' O2 e1 a w:=by
  rw[<- he];exact h2
 exact h bs M' O2 a w h3
theorem Goes.mv {e e1 e':Env} (q:List Mv) (h:Goes n e1 e') (he:mvAll e q=e1:=by kernel_rfl):Goes n e e':=by
 subst he;intro bs M O a w hi;obtain⟨M',O',h'⟩:=hi.mvAll q;exact h bs M' O' a w h'
theorem CodeP.goes (hg:Goes n e e') (h:CodeP P n c S e'):CodeP P n c S e:=by
 intro bs M O a w hi Q hQ;obtain⟨M',O',h'⟩:=hg bs M O a w hi;exact h bs M' O' a w h' Q hQ
theorem CodeP.wk {c:Code} {S:Ex->Env->Prop} {env':Env} (h:CodeP P n c S env') (he:weakE (env'.map Prod.fst) [] [] [] env=env':=by kernel_rfl):CodeP P n c S env:=CodeP.goes (Goes.wk (Goes.refl _) he) h
theorem CodeP.mv {c:Code} {S:Ex->Env->Prop} {env':Env} (q:List Mv) (h:CodeP P n c S env') (he:mvAll env q=env':=by kernel_rfl):CodeP P n c S env:=CodeP.goes (Goes.mv q (Goes.refl _) he) h
theorem CodeP.reg (hmix:P.follows .mixedOrders=true) {ops:Lj} {draw:Bool} {e2:Env} (h:S .normal e2) (hd:(!draw || (orderOk ops && jO ops))=true:=by kernel_rfl) (he:stepsK P n draw ops.toList ops.toList.length ops.toList env=some e2:=by kernel_rfl):CodeP P n (.region id ops draw) S env :=
 CodeP.of hmix (W.region hd (WO.end0 he h))
def PostP (P:Program) (fn:Func) (r:AV):Ex->Env->Prop
 | .exit _,_=>False
 | _,e=>jK P fn e=some r
theorem qbC {f:Nat} {args:LM} {r:AV} {fn:Func} (hf:P.funcs[f]? = some fn) (hb:fn.body=some c) (hlen:(Nat.ble args.length fn.ntmps && Nat.ble fn.ntmps 1000000)=true) (hnl:∀ e k l xs,r≠.lst e k (some l) xs) (h:CodeP P fn.ntmps c (PostP P fn r) (argsEnv 0 (args.map AV.strip))):CallOk P f args r:=by
 intro M w vs hG hC hl hR;refine calls_of_wp hf hb ?_
 have hsz:vs.toArray.size=vs.length:=by simp
 simp only[Bool.and_eq_true]at hlen;have hle:=F7 hlen.1;have hsm:=F7 hlen.2
 have hinv:Inv ⟨fun k=>k<w.heap.size,M,w,⟨fun _ _=>none,fun _=>0,fun _=>0⟩,hG⟩ fn.ntmps M ⟨fun _ _=>none,fun _=>0,fun _=>0⟩ (argsEnv 0 (args.map AV.strip)) { tmps:=vs.toArray++Array.replicate (fn.ntmps - vs.toArray.size) undef,defers:=[] } w:=by
  refine⟨by simp;omega,rfl,BelowD.refl _ _,fun k hk=>hk,hC,Sub.refl M,fun _ _ _=>rfl,fun i c g e=>by (cases e),fun i i' c c' g e=>by (cases e),⟨hsm,fun c _ _=>Gh.Eq1.refl _ c⟩,fun t x hx=>?_⟩;obtain⟨_,h2⟩:=HA _ 0 t x hx;simp only[Nat.sub_zero,List.getElem?_map]at h2
  cases hz:args[t]? with
  | none=>rw[hz]at h2;cases h2
  | some z =>
   rw[hz]at h2;cases h2
   have htl:t<vs.length:=by rw[<- hl];exact (List.getElem?_eq_some_iff.1 hz).1
   have hv:(vs.toArray++Array.replicate (fn.ntmps - vs.toArray.size) undef).getD t undef=vs[t]:=by
    rw[Array.getD_eq_getD_getElem?,Array.getElem?_append_left (by simpa using htl)];simp[htl]
   rw[hv];exact YU (Jl (hR t z _ hz (A2 htl)).strip (XJ z))
 refine h _ _ _ _ _ hinv _ fun ex e1 a' w' M' O' hres h'=>?_
 have hbel:Below w.heap.size w w':=⟨h'.below.os,h'.below.tape,h'.below.output,h'.below.size,fun k hk=>h'.below.block k hk⟩
 have fin:jK P fn e1=some r->∃ v1,(results fn a'.tmps).run P w'=.ok v1 w'/\∃ v2 M2,Ending.returned v1=.returned v2/\Below w.heap.size w w'/\Sub M M2/\Cons M2 w'/\(∀ b o,b<w.heap.size->M2 b o=M b o)/\R M2 r v2/\OwnR M2 w.heap.size w' r v2:=by
  intro hres;obtain⟨v,hv1,hv2,hv3⟩:=UI h' hres;refine⟨v,hv1,v,M',rfl,hbel,h'.ext,h'.cons,fun b o hb=>h'.old b o hb,hv2,?_⟩;unfold OwnR;split
  .exact absurd rfl (hnl _ _ _ _)
  trivial
 cases ex with
 | normal=>exact⟨h'.defers,fin hres⟩
 | ret=>exact⟨h'.defers,fin hres⟩
 | exit id=>exact hres.elim
end
end Go.AM
namespace Go.AM
open Go.RowKit Go.Sort Go.Proofs
theorem qhM (zs:LA) (k:IntKind):flat (zs.map (AV.int k))=zs.map (AV.int k):=by
 unfold flat;rw[List.flatMap_map];simp only[AV.cells];exact List.map_eq_flatMap.symm
end Go.AM
namespace Go.AM
open Go.RowKit Go.Proofs
variable {M:Mem} {w w':World} {u v:Value} {t:TypeId} {b j:Nat}
def Tf3:=And.intro Try.underlying3<|And.intro Try.isAgg3<|And.intro Try.sizeOf3<|And.intro Try.zeroValue3<|run_underlying Try.underlying3
def Tf4:=And.intro Try.underlying4<|And.intro Try.isAgg4<|And.intro Try.sizeOf4<|And.intro Try.zeroValue4<|run_underlying Try.underlying4
def Tf24:=And.intro Try.underlying24<|And.intro Try.isAgg24<|And.intro Try.sizeOf24<|And.intro Try.zeroValue24<|run_underlying Try.underlying24
def Tf27:=And.intro Try.underlying27<|And.intro Try.isAgg27<|And.intro Try.sizeOf27<|And.intro Try.zeroValue27<|run_underlying Try.underlying27
def Tf39:=And.intro Try.underlying39<|And.intro Try.isAgg39<|And.intro Try.sizeOf39<|And.intro Try.zeroValue39<|run_underlying Try.underlying39
def Tf41:=And.intro Try.underlying41<|And.intro Try.isAgg41<|And.intro Try.sizeOf41<|And.intro Try.zeroValue41<|run_underlying Try.underlying41
def Tf50:=And.intro Try.underlying50<|And.intro Try.isAgg50<|And.intro Try.sizeOf50<|And.intro Try.zeroValue50<|run_underlying Try.underlying50
def Tf52:=And.intro Try.underlying52<|And.intro Try.isAgg52<|And.intro Try.sizeOf52<|And.intro Try.zeroValue52<|run_underlying Try.underlying52
def Tf54:=And.intro Try.underlying54<|And.intro Try.isAgg54<|And.intro Try.sizeOf54<|And.intro Try.zeroValue54<|run_underlying Try.underlying54
def Tf56:=And.intro Try.underlying56<|And.intro Try.isAgg56<|And.intro Try.sizeOf56<|And.intro Try.zeroValue56<|run_underlying Try.underlying56
def Tf75:=And.intro Try.underlying75<|And.intro Try.isAgg75<|And.intro Try.sizeOf75<|And.intro Try.zeroValue75<|run_underlying Try.underlying75
def Tf77:=And.intro Try.underlying77<|And.intro Try.isAgg77<|And.intro Try.sizeOf77<|And.intro Try.zeroValue77<|run_underlying Try.underlying77
def Tf105:=And.intro Try.underlying105<|And.intro Try.isAgg105<|And.intro Try.sizeOf105<|And.intro Try.zeroValue105<|run_underlying Try.underlying105
def Tf127:=And.intro Try.underlying127<|And.intro Try.isAgg127<|And.intro Try.sizeOf127<|And.intro Try.zeroValue127<|run_underlying Try.underlying127
def Tf145:=And.intro Try.underlying145<|And.intro Try.isAgg145<|And.intro Try.sizeOf145<|And.intro Try.zeroValue145<|run_underlying Try.underlying145
def Tf146:=And.intro Try.underlying146<|And.intro Try.isAgg146<|And.intro Try.sizeOf146<|And.intro Try.zeroValue146<|run_underlying Try.underlying146
def Tf149:=And.intro Try.underlying149<|And.intro Try.isAgg149<|And.intro Try.sizeOf149<|And.intro Try.zeroValue149<|run_underlying Try.underlying149
def Tf150:=And.intro Try.underlying150<|And.intro Try.isAgg150<|And.intro Try.sizeOf150<|And.intro Try.zeroValue150<|run_underlying Try.underlying150
def Tf152:=And.intro Try.underlying152<|And.intro Try.isAgg152<|And.intro Try.sizeOf152<|And.intro Try.zeroValue152<|run_underlying Try.underlying152
def Tf178:=And.intro Try.underlying178<|And.intro Try.isAgg178<|And.intro Try.sizeOf178<|And.intro Try.zeroValue178<|run_underlying Try.underlying178
def Tf180:=And.intro Try.underlying180<|And.intro Try.isAgg180<|And.intro Try.sizeOf180<|And.intro Try.zeroValue180<|run_underlying Try.underlying180
def Tf183:=And.intro Try.underlying183<|And.intro Try.isAgg183<|And.intro Try.sizeOf183<|And.intro Try.zeroValue183<|run_underlying Try.underlying183
def Tf191:=And.intro Try.underlying191<|And.intro Try.isAgg191<|And.intro Try.sizeOf191<|And.intro Try.zeroValue191<|run_underlying Try.underlying191
def Tf192:=And.intro Try.underlying192<|And.intro Try.isAgg192<|And.intro Try.sizeOf192<|And.intro Try.zeroValue192<|run_underlying Try.underlying192
theorem mixedP:Try.prog.follows .mixedOrders=true:=by kernel_rfl
abbrev cL (l:LA):LM:=l.map (AV.int .i64)
theorem glob0 (M:Mem):Glob M:=fun g hg=>by cases hg
theorem Cons.below (h:Cons M w) (hB:Below w.heap.size w w'):Cons M w':=DO h hB
theorem Cons.of_blocks (h:Cons M w) (hb:∀ b o u,M b o=some u->b<w.heap.size->w'.heap[b]? = w.heap[b]?):Cons M w':=fun b o u hu=>by
 have h1:=h b o u hu;rw[Qr (hb b o u hu (Ny h1))];exact h1
theorem Cons.alloc {M:Mem} {w:World} (h:Cons M w) (o:Obj):Cons M (w.alloc o):=h.of_blocks fun b _ _ _ hb=>heap_alloc_old w o hb
theorem Cons.setCell {M:Mem} {w:World} (h:Cons M w) {a:Addr} (ha:∀ o,M a.block o=none) (v:Value):Cons M (w.setCell a v) :=
 h.of_blocks fun b o u hu hb=>Below.heap_setCell w a v b fun e=>by rw[e,ha]at hu;cases hu
theorem qjv (l:LA):flat (cL l)=cL l:=qhM l .i64
theorem qbc {l:LA} (h:R M (.lst 3 1 none (cL l)) v):∃ a cap,v=.slice a l.length cap/\∀ j (hj:j<l.length),∃ b off,a=some ⟨b,off,none⟩/\M b (off+j)=some (.int .i64 l[j]):=by
 generalize hx:cL l=xs at h
 cases h with
 | lstn =>
  have:l=[]:=by simpa[cL] using hx
  subst this;exact⟨none,0,rfl,fun j hj=>absurd hj (by simp)⟩
 | lste _ _ _ ad cap =>
  have:l=[]:=by simpa[cL] using hx
  subst this;exact⟨some ad,cap,rfl,fun j hj=>absurd hj (by simp)⟩
 | lst us h1 h2 h5 h3 h4 =>
  subst hx;rename_i b off cap;refine⟨some ⟨b,off,none⟩,cap,by simp[cL],fun j hj=>⟨b,off,rfl,?_⟩⟩
  have hf:(flat (cL l))[j]? = some (.int .i64 l[j]):=by rw[qjv];simp[cL,hj]
  rw[h3 j _ hf,(h4 j _ hf).int_inv]
theorem Ua {f:Nat} {args:LM} {r:AV} (h:Run Try.prog (.call f args r)):CallOk Try.prog f args r:=Zd mixedP h
theorem qal {kt e:TypeId} {ks vs:LM} {mv kv:Value} {k r:AV} (hC:Cons M w) (hm:R M (.mpv ks vs) mv) (ht:Xe Try.prog t=some (kt,e)) (hkv:k.keyV=some kv) (hr:alookup Try.prog t [] (.mpv ks vs) k=some r) :
  ∃ v,(Instr.lookup t mv kv false).run Try.prog w=.ok v w/\R M r v:=by
 unfold alookup at hr;rw[ht]at hr;simp only[ZG]at hr;split at hr
 case h_2=>cases hr
 rename_i hc;simp only[Bool.and_eq_true]at hc;obtain⟨⟨hfit,hks⟩,hall⟩:=hc;have ht:=QH ht;obtain⟨K,l,hl⟩:=Uh hfit hkv
 have hz:∀ z,zeroA1 Try.prog e=some z->∃ v,(zeroValue e).run Try.prog w=.ok v w/\R M z v:=fun z hz=>by
  obtain⟨v,h1,h2⟩:=Nb (M:=M) (O:=⟨fun _ _=>none,fun _=>0,fun _=>0⟩) (w:=w) hz;exact⟨v,h1,h2⟩
 rcases Uz hm with ⟨rfl,rfl,rfl⟩ | ⟨ks',vs',b,es,clock,hp,rfl,h1,h2,h3,h4,h5,h6,h7⟩
 .simp only[findA]at hr;obtain⟨z,hz,hz2⟩:=hz _ hr;refine⟨z,?_,hz2⟩
  have hfind:(Instr.findKey kt kv (#[]:LW).toList).run Try.prog w=.ok none w:=by
   rcases K.find w hl [] (by simp) with ⟨h1,_⟩ | ⟨j,e,_,h2,_⟩
   .exact h1
   simp at h2
  simp[Instr.lookup,run_underlying ht,K.check w true hl,hfind,hz,C7]
 have hb:=Vt (hC _ _ _ h1)
 have hall':ks'.all (keyFits Try.prog kt)=true:=List.all_eq_true.2 fun y hy=>List.all_eq_true.1 hall y (hp.keys.mem_iff.2 hy)
 have E:EntOk M es clock ks' vs':=⟨h2,h3,h4,h5,h6,h7⟩;obtain⟨hck,hst,hfd⟩:=Zb (w:=w) hfit hkv hall' E;obtain⟨fp1,fp2⟩:=qbe hkv hp E
 rcases hfd with ⟨k1,k2,k3⟩ | ⟨j,e0,k1,k2,k3,k4⟩
 .rw[fp1 k1]at hr;obtain⟨z,hz,hz2⟩:=hz _ hr;refine⟨z,?_,hz2⟩;simp[Instr.lookup,run_underlying ht,F8 hb,hck,k2,hz,C7]
 obtain⟨i,g1,g2⟩:=fp2 j k1;rw[g1]at hr;simp only[g2]at hr;refine⟨e0.val,?_,h7 j r e0 hr (by simpa using k3)⟩;simp[Instr.lookup,run_underlying ht,F8 hb,hck,k2,C7]
theorem Jm {cs:LO} (u:Value) (h:w.heap[b]? = some (.cells cs t (0,0))):(w.setCell ⟨b,j,none⟩ u).heap[b]? = some (.cells (cs.setIfInBounds j u) t (0,0)):=by
 have hlt:=lt_of_block h
 have h':w.heap[b]=.cells cs t (0,0):=by simpa[D1 hlt] using h
 show (w.heap.modify b _)[b]? = _;rw[D1 (by simpa using hlt),Array.getElem_modify_self,h'];rfl
theorem jd {k:Nat} (h:k≠b):(w.setCell ⟨b,j,none⟩ u).heap[k]? = w.heap[k]?:=Below.heap_setCell w ⟨b,j,none⟩ u k h
theorem Jr {a:Addr}:(w.setCell a u).heap.size=w.heap.size:=by simp[World.setCell]
theorem tkH {P:Program} {ops:Lj} {Q:Exit->Act->World->Prop} {md:Region.Mode} {S:World->Prop} {i:Nat} {oi:Oper} {fuel:Nat} {listed:Array Bool} {a:Act} (hi:ops[i]? = some oi) (hy:YieldsIf P ops S oi v a) (hS:S w) (h:wpAnyH P md ops Q S fuel (listed.setIfInBounds i true) (a.put oi.dst v) w) (hs:Region.noSelect ops=true:=by kernel_rfl) (hf:Region.free md ops listed i=true:=by kernel_rfl) (hr:(Region.ready md ops listed).contains i=true:=by kernel_rfl) (hQ:∀ c a w,Q (.panic c) (a.put oi.dst v) w->Q (.panic c) a w:=by exact fun _ _ _ h=>h):wpAnyH P md ops Q S (fuel+1) listed a w:=wpAnyH_take hi hs hf hr hQ hy hS h
end Go.AM
namespace Go.AM
open Go.RowKit
variable {P:Program} {n:Nat} {K V:Type} {F:K->AV} {G:V->AV} {eq:K->K->Bool}
inductive AllP {α:Type} (q:α->Prop):List α->Prop where
 | nil:AllP q []
 | cons {a l}:q a->AllP q l->AllP q (a::l)
theorem AllP.mem {α:Type} {q:α->Prop}:∀ {l:List α},AllP q l->∀ x,x∈l->q x
 | _,.nil,x,h=>by cases h
 | _,.cons h t,x,hx=>by
  rcases List.mem_cons.1 hx with rfl | hx
  .exact h
  exact t.mem x hx
def stepA (P:Program) (n:Nat) (all:LF) (env:Env) (k:Nat):Ld :=
 match all[k]? with
 | some o=>match awanted all o env with
  | some true=>astep P n o env
  | _=>none
 | none=>none
theorem W.regionA {id:Nat} {ops:Lj} {Q:Ex->Env->Prop} {env e1:Env} (hb:jO ops=true) (h:Run P (.any n ops.toList (List.range ops.size) env e1)) (hq:WO P n false ops.toList [] (Q .normal) e1):W P n (.region id ops true) Q env:=by
 obtain⟨e2,h1,h2⟩:=hq;exact⟨_,e2,.regionA hb h h1,h2⟩
theorem qfG {α:Type} {enc:α->AV} {all:LF} {env:Env} {s sz k:Nat} {l l':List α} (hF:Flat enc) (hl:decide (l.length=sz/\l'.length=sz)=true)
  (hp:(match all[k]? with | some o=>setPre P all o env | none=>none)=some (s,0,.agg (l.map enc),l'.map enc,sz)):stepA P n all env k=some (ins s (.hob 3 [] (l.map enc)) env):=by
 obtain⟨hl1,hl2⟩:=oT hl;unfold stepA
 cases hk:all[k]? with
 | none=>rw[hk]at hp;cases hp
 | some o =>
  rw[hk]at hp;obtain⟨a1,a2,a3,a4,_,a5⟩:=NH (n:=n) hp;simp only[a1];rw[a5 _ rfl (by rw[B1];exact hl1)];unfold putRow;have:Nat.ble (0+(l.map enc).length) (l'.map enc).length=true:=Nat.ble_eq_true_of_le (by rw[B1,B1];omega);simp only[hF.all,a4,this];rw[hF.strips,List.take_zero,List.drop_eq_nil_of_le (by rw[B1,B1];omega),List.nil_append,List.append_nil]
inductive AQ (q:Nat->Env->Prop):List (Nat×Env)->Prop where
 | n:AQ q []
 | c {e l} (k:Nat):q k e->AQ q l->AQ q ((k,e)::l)
theorem AQ.all {q:Nat->Env->Prop} {l:List (Nat×Env)} (h:AQ q l):AllP (fun p=>q p.1 p.2) l:=by
 induction h with
 | n=>exact .nil
 | c k a b ih=>exact .cons a ih
theorem WO.s1 {all:LF} {o:Oper} {k:Nat} {env e:Env} (ho:all[k]? = some o) (h:stepsK P n false all 1 [o] env=some e:=by kernel_rfl):∃ o,all[k]? = some o/\WO P n false all [o] (fun e'=>e'=e) env:=⟨o,ho,WO.steps 1 h (WO.nil rfl)⟩
end Go.AM
namespace Go.AM
end Go.AM
namespace Go.Proofs
open Go.RowKit Go.AM Go.Sort
set_option maxHeartbeats 4000000 in
theorem Try.key81 (rel a c:Int) (b off cap n:Nat) (W:World) (h0:W.cell? ⟨b,off,none⟩=some (.int .i64 a)) (h1:1<n->W.cell? ⟨b,off+1,none⟩=some (.int .i64 c)) (h2:¬ 1<n->c=0) (hn:0<n) (hl:n<=1000000) :
  Calls Try.prog 81 #[.agg #[.int .i64 rel,.slice (some ⟨b,off,none⟩) n cap]] W fun e w'=>e=.returned (.agg #[.int .i64 rel,.int .i64 a,.int .i64 c])/\Below W.heap.size W w':=by
 have mixed:=mixedP;have⟨t3,a3,z3,v3,u3⟩:=Tf3;have⟨t4,a4,z4,v4,u4⟩:=Tf4;have⟨t39,a39,z39,v39,u39⟩:=Tf39;have⟨t41,a41,z41,v41,u41⟩:=Tf41;have⟨t127,a127,z127,v127,u127⟩:=Tf127
 have hb:b<W.heap.size:=by
  unfold A0 at h0
  cases hh:W.heap[b]? with
  | none=>simp[hh]at h0
  | some o=>exact lt_of_block hh
 go_enter Try.func81,Try.ntmps81
 go_wp2_with fail
 obtain⟨W2,hW2⟩:∃ W2,W2=(W.alloc (.cells #[.int .i64 rel,.slice (some ⟨b,off,none⟩) n cap] 41)).alloc (.cells #[.int .i64 0,.int .i64 0,.int .i64 0] 127):=⟨_,rfl⟩
 have e1:W2.heap[W.heap.size]? = some (.cells #[.int .i64 rel,.slice (some ⟨b,off,none⟩) n cap] 41 (0,0)):=by
  rw[hW2,heap_alloc_old _ _ (by simp)];exact heap_alloc_new _ _
 have e2:W2.heap[W.heap.size+1]? = some (.cells #[.int .i64 0,.int .i64 0,.int .i64 0] 127 (0,0)):=by
  have:=heap_alloc_new (W.alloc (.cells #[.int .i64 rel,.slice (some ⟨b,off,none⟩) n cap] 41)) (.cells #[.int .i64 0,.int .i64 0,.int .i64 0] 127);rw[hW2]
  simpa using this
 have hsz:W2.heap.size=W.heap.size+2:=by rw[hW2];simp
 have hB:Below W.heap.size W W2:=by rw[hW2];exact ((Below.refl _ _).alloc (A5 _) _).alloc (by simp) _
 rw[<- hW2];clear hW2
 have old:∀ w',Below W.heap.size W w'->w'.cell? ⟨b,off,none⟩=some (.int .i64 a)/\(1<n->w'.cell? ⟨b,off+1,none⟩=some (.int .i64 c)):=fun w' h=>⟨(h.cell hb).trans h0,fun hc=>(h.cell hb).trans (h1 hc)⟩
 have K0:W2.cell? ⟨W.heap.size,0,none⟩=some (.int .i64 rel)/\W2.cell? ⟨W.heap.size,1,none⟩=some (.slice (some ⟨b,off,none⟩) n cap)/\W2.cell? ⟨b,off,none⟩=some (.int .i64 a):=by
  refine⟨?_,?_,(old _ hB).1⟩ <;> simp[A0,e1]
 refine wp_region_held_drew (S:=(fun w'=>w'.cell? ⟨W.heap.size,0,none⟩=some (.int .i64 rel)/\w'.cell? ⟨W.heap.size,1,none⟩=some (.slice (some ⟨b,off,none⟩) n cap)/\w'.cell? ⟨b,off,none⟩=some (.int .i64 a))) kR K0 (fun hHeld=>?_);refine tkH (i:=0) (v:=.pointer (some ⟨W.heap.size,0,none⟩)) rfl (Or.inl ⟨by kernel_rfl,fun w' hw'=>?_⟩) hHeld ?_
 .obtain⟨q0,q1,q2⟩:=hw';go_simp
 simp only[Act.put,A6,A4,A3,A7,A8,A9];refine tkH (i:=1) (v:=.int .i64 rel) rfl (Or.inl ⟨by kernel_rfl,fun w' hw'=>?_⟩) hHeld ?_
 .obtain⟨q0,q1,q2⟩:=hw';go_simp
 simp only[Act.put,A6,A4,A3,A7,A8,A9];refine tkH (i:=2) (v:=.pointer (some ⟨W.heap.size,1,none⟩)) rfl (Or.inl ⟨by kernel_rfl,fun w' hw'=>?_⟩) hHeld ?_
 .obtain⟨q0,q1,q2⟩:=hw';go_simp
 simp only[Act.put,A6,A4,A3,A7,A8,A9];refine tkH (i:=3) (v:=.slice (some ⟨b,off,none⟩) n cap) rfl (Or.inl ⟨by kernel_rfl,fun w' hw'=>?_⟩) hHeld ?_
 .obtain⟨q0,q1,q2⟩:=hw';go_simp
 simp only[Act.put,A6,A4,A3,A7,A8,A9];refine tkH (i:=4) (v:=.pointer (some ⟨b,off,none⟩)) rfl (Or.inl ⟨by kernel_rfl,fun w' hw'=>?_⟩) hHeld ?_
 .obtain⟨q0,q1,q2⟩:=hw';go_simp
 simp only[Act.put,A6,A4,A3,A7,A8,A9];refine tkH (i:=5) (v:=.int .i64 a) rfl (Or.inl ⟨by kernel_rfl,fun w' hw'=>?_⟩) hHeld ?_
 .obtain⟨q0,q1,q2⟩:=hw';go_simp
 simp only[Act.put,A6,A4,A3,A7,A8,A9];refine tkH (i:=6) (v:=.agg #[.int .i64 rel,.int .i64 a,.int .i64 0]) rfl (Or.inl ⟨by kernel_rfl,fun w' hw'=>?_⟩) hHeld ?_
 .obtain⟨q0,q1,q2⟩:=hw';go_simp
 simp only[Act.put,A6,A4,A3,A7,A8,A9];refine wpAnyH_ready (rs:=[7]) kR (by simp) (AllReadyH.cons rfl (fun K hK=>?_) AllReadyH.nil);rw[if_pos (by kernel_rfl)];go_simp;obtain⟨W3,hW3⟩:∃ W3,W3=(W2.alloc (Obj.cells #[Value.int D0 0,Value.int D0 0,Value.int D0 0] 127)).drew:=⟨_,rfl⟩
 have g1:W3.heap[W.heap.size]? = some (.cells #[.int .i64 rel,.slice (some ⟨b,off,none⟩) n cap] 41 (0,0)):=by
  rw[hW3];exact (heap_alloc_old _ _ (lt_of_block e1)).trans e1
 have g2:W3.heap[W.heap.size+1]? = some (.cells #[.int .i64 0,.int .i64 0,.int .i64 0] 127 (0,0)):=by
  rw[hW3];exact (heap_alloc_old _ _ (lt_of_block e2)).trans e2
 have g3:W3.heap[W.heap.size+2]? = some (.cells #[.int .i64 0,.int .i64 0,.int .i64 0] 127 (0,0)):=by
  rw[hW3,<- hsz];exact heap_alloc_new _ _
 have hB3:Below W.heap.size W W3:=by rw[hW3];exact (hB.alloc oM _).trans ⟨rfl,rfl,rfl,A5 _,fun _ _=>rfl⟩
 have hsz3:W3.heap.size=W.heap.size+3:=by rw[hW3];simp[hsz]
 have K3:W3.cell? ⟨W.heap.size,0,none⟩=some (.int .i64 rel)/\W3.cell? ⟨W.heap.size,1,none⟩=some (.slice (some ⟨b,off,none⟩) n cap)/\W3.cell? ⟨b,off,none⟩=some (.int .i64 a):=by
  refine⟨?_,?_,(old _ hB3).1⟩ <;> simp[A0,g1]
 rw[<- hW3];clear hW3 e1 e2 hHeld K0;refine hK.out _ _ K3 (fun _=>?_);clear hK K;refine wpAnyH_ready (rs:=[8]) kR (by simp) (AllReadyH.cons rfl (fun K hK=>?_) AllReadyH.nil);rw[if_pos (by kernel_rfl)]
 have fz:∀ j,W3.frozen? ⟨W.heap.size+2,j,none⟩=false:=fun j=>by simp[D2,g3]
 have f0:=fz 0;have f1:=fz 1;have f2:=fz 2
 have z0:W3.cell? ⟨W.heap.size+2,0,none⟩=some (.int .i64 0):=by simp[A0,g3]
 have z1:W3.cell? ⟨W.heap.size+2,1,none⟩=some (.int .i64 0):=by simp[A0,g3]
 have z2:W3.cell? ⟨W.heap.size+2,2,none⟩=some (.int .i64 0):=by simp[A0,g3]
 go_wp2_with fail
 obtain⟨W4,hW4⟩:∃ W4,W4=(((W3.setCell { block:=W.heap.size+2,off:=0 } (Value.int D0 rel)).setCell { block:=W.heap.size+2,off:=1 } (Value.int D0 a)).setCell { block:=W.heap.size+2,off:=2 } (Value.int D0 0)):=⟨_,rfl⟩
 have k3:W4.heap[W.heap.size+2]? = some (.cells #[.int .i64 rel,.int .i64 a,.int .i64 0] 127 (0,0)):=by
  rw[hW4,Jm _ (Jm _ (Jm _ g3))];rfl
 have kb:∀ j,j≠W.heap.size+2->W4.heap[j]? = W3.heap[j]?:=fun j hj=>by
  rw[hW4,Below.heap_setCell _ _ _ _ hj,Below.heap_setCell _ _ _ _ hj,Below.heap_setCell _ _ _ _ hj]
 have hB4:Below W.heap.size W W4:=hB3.trans ⟨by rw[hW4];rfl,by rw[hW4];rfl,by rw[hW4];rfl,by rw[hW4,Jr,Jr,Jr];exact A5 _,fun j hj=>kb j oM⟩;rw[<- hW4];clear hW4;have k1:=(kb (W.heap.size) oM).trans g1;have k2:=(kb (W.heap.size+1) oM).trans g2;clear kb g1 g2 g3 fz f0 f1 f2 z0 z1 z2 K3
 have K4:W4.cell? ⟨W.heap.size,0,none⟩=some (.int .i64 rel)/\W4.cell? ⟨W.heap.size,1,none⟩=some (.slice (some ⟨b,off,none⟩) n cap)/\W4.cell? ⟨b,off,none⟩=some (.int .i64 a):=by
  refine⟨?_,?_,(old _ hB4).1⟩ <;> simp[A0,k1]
 refine hK.out _ _ K4 (fun _=>?_);clear hK K;refine wpAnyH_done kR ?_ _;obtain⟨c0,c1,_⟩:=K4
 have d0:W4.cell? ⟨W.heap.size+2,0,none⟩=some (.int .i64 rel):=by simp[A0,k3]
 have d1:W4.cell? ⟨W.heap.size+2,1,none⟩=some (.int .i64 a):=by simp[A0,k3]
 have d2:W4.cell? ⟨W.heap.size+2,2,none⟩=some (.int .i64 0):=by simp[A0,k3]
 have b0:W4.cell? ⟨W.heap.size+1,0,none⟩=some (.int .i64 0):=by simp[A0,k2]
 have b1:W4.cell? ⟨W.heap.size+1,1,none⟩=some (.int .i64 0):=by simp[A0,k2]
 have b2:W4.cell? ⟨W.heap.size+1,2,none⟩=some (.int .i64 0):=by simp[A0,k2]
 have f2:W4.frozen? ⟨W.heap.size+2,2,none⟩=false:=by simp[D2,k3]
 have y0:W4.frozen? ⟨W.heap.size+1,0,none⟩=false:=by simp[D2,k2]
 have y1:W4.frozen? ⟨W.heap.size+1,1,none⟩=false:=by simp[D2,k2]
 have y2:W4.frozen? ⟨W.heap.size+1,2,none⟩=false:=by simp[D2,k2]
 have n1:=(old _ hB4).2
 have hres:∀ (tm:LO) (w9:World) (x:Int),tm[2]?.getD undef=.pointer (some ⟨W.heap.size+1,0,none⟩)->w9.heap[W.heap.size+1]? = some (.cells #[.int .i64 rel,.int .i64 a,.int .i64 x] 127 (0,0))->(results Try.f81 tm).run Try.prog w9=.ok (.agg #[.int .i64 rel,.int .i64 a,.int .i64 x]) w9:=by
  intro tm w9 x htm h9
  have hr:Try.f81.results=#[.cell 2 127]:=by kernel_rfl
  have e0:w9.cell? ⟨W.heap.size+1,0,none⟩=some (.int .i64 rel):=by simp[A0,h9]
  have e1:w9.cell? ⟨W.heap.size+1,1,none⟩=some (.int .i64 a):=by simp[A0,h9]
  have e2:w9.cell? ⟨W.heap.size+1,2,none⟩=some (.int .i64 x):=by simp[A0,h9]
  simp[results,hr,htm];go_simp
 by_cases hc:1<n
 .have n1:=n1 hc
  go_wp2
  refine bodyPost_ret (hres _ _ c (by rfl) ?_) rfl ⟨rfl,?_⟩
  .rw[Jm _ (Jm _ (Jm _ ((jd (by omega)).trans k2)))];rfl
  refine hB4.trans ⟨rfl,rfl,rfl,by simp only[Jr];exact A5 _,fun j hj=>?_⟩;rw[jd (by omega),jd (by omega),jd (by omega),jd (by omega)]
 have n1:=h2 hc;subst n1
 go_wp2
 refine bodyPost_ret (hres _ _ 0 (by rfl) ?_) rfl ⟨rfl,?_⟩
 .rw[Jm _ (Jm _ (Jm _ k2))];rfl
 refine hB4.trans ⟨rfl,rfl,rfl,by simp only[Jr];exact A5 _,fun j hj=>?_⟩;rw[jd (by omega),jd (by omega),jd (by omega)]
end Go.Proofs
namespace Go.AM
open Go.RowKit Go.Proofs
theorem key81 {rel a:Int} {l:LA} (hl:(a::l).length<=1000000):CallOk Try.prog 81 [.agg [.int .i64 rel,.lst 3 1 none (cL (a::l))]] (.agg [.int .i64 rel,.int .i64 a,.int .i64 (l.headD 0)]):=by
 intro M w vs hG hC hlen hR
 obtain⟨v0,rfl⟩:∃ v0,vs=[v0]:=by
  match vs,hlen with
  | [v0],_=>exact⟨v0,rfl⟩
 have r0:R M (.agg [.int .i64 rel,.lst 3 1 none (cL (a::l))]) v0:=hR 0 _ v0 rfl rfl;obtain⟨us,rfl,hu,hc⟩:=r0.agg_inv
 obtain⟨u0,u1,rfl⟩:∃ u0 u1,us=[u0,u1]:=by
  match us,hu with
  | [u0,u1],_=>exact⟨u0,u1,rfl⟩
 obtain rfl:u0=.int .i64 rel:=(hc 0 _ u0 rfl rfl).int_inv;obtain⟨ad,cap,rfl,hcell⟩:=qbc (hc 1 _ u1 rfl rfl);obtain⟨b,off,rfl,hM⟩:=hcell 0 (by simp);have h0:w.cell? ⟨b,off,none⟩=some (.int .i64 a):=Qg (hC _ _ _ (by simpa using hM)) rfl
 have h1:1<(a::l).length->w.cell? ⟨b,off+1,none⟩=some (.int .i64 (l.headD 0)):=fun hlt=>by
  obtain⟨b',off',e,hM'⟩:=hcell 1 hlt;cases e;have:=Qg (hC _ _ _ hM') rfl
  cases l with
  | nil=>simp at hlt
  | cons c l=>simpa using this
 have h2:¬ 1<(a::l).length->l.headD 0=0:=fun hn=>by
  cases l with
  | nil=>rfl
  | cons c l=>simp at hn
 refine (Go.Proofs.Try.key81 rel a (l.headD 0) b off cap (a::l).length w h0 h1 h2 (by simp) hl).mono ?_
 rintro e w' ⟨rfl,hB⟩
 refine⟨_,M,rfl,hB,Sub.refl M,DO hC hB,fun _ _ _=>rfl,?_,trivial⟩
 refine .agg (vs:=[.int .i64 rel,.int .i64 a,.int .i64 (l.headD 0)]) rfl fun j c v hc hv=>?_
 match j,hc,hv with
 | 0,hc,hv=>cases hc;cases hv;exact .int _ _
 | 1,hc,hv=>cases hc;cases hv;exact .int _ _
 | 2,hc,hv=>cases hc;cases hv;exact .int _ _
end Go.AM
namespace Go.AM
open Go.Proofs
abbrev I6:Int->AV:=AV.int .i64
abbrev W6:Int->Int:=IntKind.wrap .i64
abbrev S1 (n:Nat):AV:=.sb 2000000 5 1 0 n
abbrev O1 (l:LA):Nat×AV:=(2000000,.obj 1000000005 1 (A1 (AV.int .u8) l))
abbrev M8 (l:LA):LM:=A1 (AV.int .u8) l
abbrev M6 (l:LA):LM:=A1 (AV.int .i64) l
structure apiFact where
 qc:Int
 qa:LA
def l3 (c:LP) (l:LA):AV:=.lst 3 1 c (A1 (AV.int .i64) l)
def l90 (c:LP) (l:Li):AV:=.lst 90 8 c (A1 (fun l=>AV.agg (A1 (AV.int .i64) l)) l)
def qP (x:apiFact):AV:=.agg [.int .i64 x.qc,l3 none x.qa]
structure rf2Atom where
 qc:Int
 qa:LA
def l41 (c:LP) (l:List apiFact):AV:=.lst 41 2 c (A1 qP l)
def qbf (x:rf2Atom):AV:=.agg [.int .i64 x.qc,l3 none x.qa]
structure rf3Lit where
 qu:Bool
 qe:rf2Atom
def JL (x:rf3Lit):AV:=.agg [.bool x.qu,.int .i64 x.qe.qc,l3 none x.qe.qa]
structure rf3Rule where
 qf:rf2Atom
 qd:(List rf3Lit)
def l96 (c:LP) (l:List rf3Lit):AV:=.lst 96 3 c (A1 JL l)
def Jk (x:rf3Rule):AV:=.agg [.int .i64 x.qf.qc,l3 none x.qf.qa,l96 none x.qd]
structure qo where
 qc:Int
 qa:LA
def l94 (c:LP) (l:List rf3Rule):AV:=.lst 94 3 c (A1 Jk l)
def Zm (x:qo):AV:=.agg [.int .i64 x.qc,l3 none x.qa]
structure ruLit where
 qu:Bool
 qe:qo
def Vd (x:ruLit):AV:=.agg [.bool x.qu,.int .i64 x.qe.qc,l3 none x.qe.qa]
structure ruRule where
 qf:qo
 qd:(List ruLit)
def l56 (c:LP) (l:List ruLit):AV:=.lst 56 3 c (A1 Vd l)
def Yj (x:ruRule):AV:=.agg [.int .i64 x.qf.qc,l3 none x.qf.qa,l56 none x.qd]
structure qq where
 f_0:Int
 f_1:Int
def l54 (c:LP) (l:List ruRule):AV:=.lst 54 3 c (A1 Yj l)
def Yk (x:qq):AV:=.agg [.int .i64 x.f_0,.int .i64 x.f_1]
def l112 (c:LP) (l:List qq):AV:=.lst 112 2 c (A1 Yk l)
end Go.AM
namespace Go
open AM
abbrev Lp:=List rf3Lit
end Go
namespace Go
open AM
abbrev Lg:=List qq
end Go
namespace Go
open AM
abbrev LS:=List ruLit
end Go
namespace Go
open AM
abbrev LN:=List rf3Rule
end Go
namespace Go
open AM
abbrev LJ:=List ruRule
end Go
namespace Go
open AM
abbrev LG:=List apiFact
end Go
