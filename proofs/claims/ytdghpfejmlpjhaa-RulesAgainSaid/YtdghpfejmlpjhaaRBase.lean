/- s -/
import Derived.Test.YtdghpfejmlpjhaaABridge
import Derived.Test.YtdghpfejmlpjhaaRAT
import Derived.Test.YtdghpfejmlpjhaaChecked
import Derived.Test.YtdghpfejmlpjhaaRows
import Derived.ProofKit
import Derived.OpenShut
set_option linter.unusedVariables false
namespace Go.AM
open Go.RowKit Go.ChangeShapes
theorem trodAll_stays {H:Type} {enc:TypeId×Value→H} {P:Program} (hl:laidOutB P=true) {W W':World} {sp:Nat→Bool}:∀ {ts:List TypeId} {vs:List Value} {ds:List (DataW H)} {ps:List MemPlace},
  (∀ t,t∈ts→P.readableRec t=true∧t<P.types.size)→DataW.TrodAll enc P W 0 (fun _=>true) true ts vs ds ps→(∀ p,p∈ps→W.sameAt W' p)→(∀ p,p∈ps→sp p.block=true)→DataW.TrodAll enc P W' 0 sp true ts vs ds ps
 | [],vs,ds,ps,_,h,_,_=>by
  obtain⟨rfl,rfl,rfl⟩:=trodAll_nil h;exact trodAll_mk0
 | t::ts,vs,ds,ps,ht,h,hs,hp=>by
  obtain⟨v,vs',d,ds',p,q,rfl,rfl,rfl,h1,h2⟩:=trodAll_cons h;obtain⟨r1,r2⟩:=ht t (by simp);exact trodAll_cons_mk (WideElems.Trod_stays hl r1 r2 h1 (fun x hx=>hs x (by simp[hx])) (fun x hx=>hp x (by simp[hx])))
   (trodAll_stays hl (fun t h=>ht t (by simp[h])) h2 (fun x hx=>hs x (by simp[hx])) (fun x hx=>hp x (by simp[hx])))
def ArgsR (M:Mem) (avs:List AV) (vs:List Value):Prop:=avs.length=vs.length∧∀ (j:Nat) c v,avs[j]? = some c→vs[j]? = some v→R M c v
theorem ArgsR.nil {M:Mem}:ArgsR M [] []:=⟨rfl,fun j c v h=>by simp at h⟩
theorem ArgsR.cons {M:Mem} {x:AV} {v:Value} {xs:List AV} {vs:List Value} (h:R M x v) (hs:ArgsR M xs vs):ArgsR M (x::xs) (v::vs):=by
 refine⟨by simp[hs.1],fun j c u hc hu=>?_⟩
 cases j with
 | zero=>simp at hc hu;subst hc;subst hu;exact h
 | succ j=>exact hs.2 j c u (by simpa using hc) (by simpa using hu)
def cellType (P:Program) (t:TypeId):Bool:=match P.underlying t with
 | some (.int _) | some .bool | some .string | some (.slice _)=>true
 | _=>false
theorem one_of_ok {P:Program} {W:World} {base:Nat} {t:TypeId} {v:Value} (ht:cellType P t=true) (h:Value.okWide P W .any base t v):v.cells.toList=[v]:=by
 cases v with
 | agg cs =>
  unfold cellType at ht
  split at ht <;> (rename_i e;simp[Value.okWide,e,Cell.okWide,Cell.ok]at h) <;> cases ht
 | _=>rfl
def rowType (P:Program) (t:TypeId):Bool:=match P.underlying t with
 | some (.struct _)=>true
 | _=>false
theorem row_of_ok {P:Program} {W:World} {base:Nat} {t:TypeId} {v:Value} (ht:rowType P t=true) (h:Value.okWide P W .any base t v):∃ cs,v=.agg cs:=by
 unfold rowType at ht
 split at ht
 ·rename_i e;simp only[Value.okWide,e]at h;obtain⟨cs,h1,_⟩:=h;exact⟨cs,h1⟩
 ·cases ht
theorem law_contract {H:Type} {enc:TypeId×Value→H} {P:Program} {f:Nat} {fn:Func} {s:ChangeSpec} {tb:TypeId} (hmix:P.follows .mixedOrders=true) (hl:laidOutB P=true) (hb:P.underlying tb=some .bool) (hres:fn.resultTypes=#[tb])
  (hts:∀ t,t∈fn.params.toList→P.readableRec t=true∧t<P.types.size) (hv:s.vars=[])
  (hs:∀ ds:List (DataW H),ds.length=fn.params.toList.length→s.fn H (ds++[])={ results:=[.lit (.bool true)],args:=ds })
  (hrun:∀ (W:World) (vs:List Value) (ds:List (DataW H)) (ps:List MemPlace),(∀ (j:Nat) t v,fn.params.toList[j]? = some t→vs[j]? = some v→cellType P t=true→v.cells.toList=[v])→(∀ (j:Nat) t v,fn.params.toList[j]? = some t→vs[j]? = some v→rowType P t=true→∃ cs,v=.agg cs)→DataW.TrodAll enc P W 0 (fun _=>true) true fn.params.toList vs ds ps→∃ avs,ArgsR (memOf W) avs vs∧Run P (.call f avs (.bool true)))
  (W:World) (hgl:GlobW W) (base:Nat) (args:Array Value) (ds gs:List (DataW H)) (before:List MemPlace) (hval:∀ (j:Nat) t v,fn.params[j]? = some t→args[j]? = some v→Value.okWide P W .any base t v) (hW:DataW.Whole enc P fn.params.toList s.vars false W args.toList ds gs before) :
  Calls P f args W fun e W'=>∃ v,e=.returned v∧s.post enc P fn false true false false W args v W':=by
 have hW':=hW;obtain⟨p,q,hA,hV,rfl,hfz,hnd⟩:=hW;rw[hv]at hV;obtain⟨rfl,rfl⟩:=trodVars_none hV;obtain⟨avs,⟨h1,h2⟩,hr⟩:=hrun W args.toList ds p (fun j t v h1 h2 hc=>one_of_ok hc (hval j t v (by simpa using h1) (by simpa using h2))) (fun j t v h1 h2 hc=>row_of_ok hc (hval j t v (by simpa using h1) (by simpa using h2))) hA
 have hlen:ds.length=fn.params.toList.length:=by
  have:∀ {ts:List TypeId} {vs:List Value} {ds:List (DataW H)} {ps:List MemPlace},DataW.TrodAll enc P W 0 (fun _=>true) true ts vs ds ps→ds.length=ts.length:=by
   intro ts
   induction ts with
   | nil=>intro vs ds ps h;obtain⟨_,rfl,_⟩:=trodAll_nil h;rfl
   | cons t ts ih =>
    intro vs ds ps h;obtain⟨v,vs',d,ds',p,q,rfl,rfl,rfl,_,h2⟩:=trodAll_cons h
    simp[ih h2]
  exact this hA
 have hc:=run_sound hmix hr (memOf W) W args.toList (fun g hg=>(hgl g hg).imp fun m hm=>mc_of_cell hm rfl) (memOf_cons W) h1 h2;have hc':Calls P f args W _:=hc
 refine hc'.mono fun e W' hh=>?_
 obtain⟨v,M',he,hB,_,_,_,hR,_⟩:=hh;cases hR;subst he;have hfn:=hs ds hlen;refine⟨_,rfl,ds,[],p++[],[],p,[],hW',?_,?_,?_,?_,fun h=>by cases h⟩
 ·rw[hfn,hres];exact trodAll_mk1 (shut_bool hb _)
 ·rw[hfn];exact trodAll_stays hl hts hA (fun x hx=>hB.same (hW'.lt x (by simp[hx]))) (fun x hx=>by simpa using hW'.lt x (by simp[hx]))
 ·rw[hv,hfn];rfl
 ·exact World.keptBut_mono (fun x hx=>⟨hx,Or.inr (Or.inl (by simpa using hx))⟩) (hB.frame (·∈p++[]))
end Go.AM
namespace Go.AM
open Go.Proofs Go.Proofs.Ytdghpfejmlpjhaa Go.ChangeShapes Go.WideShapes Go.ChangeAt Go.RowKit
abbrev wA (l:List Int):Prop:=l.length≤maxLen∧∀ x,x∈l→wfI .i64 x=true
abbrev wAt (a:rf2Atom):Prop:=wfI .i64 a.qb=true∧wA a.qa
abbrev wFa (f:apiFact):Prop:=wfI .i64 f.qb=true∧wA f.qa
abbrev wRu (r:rf3Rule):Prop:=wAt r.qf∧r.qd.length≤maxLen∧∀ b,b∈r.qd→wAt b.qe
theorem readsInt:Reads Try.prog 3 (AV.int .i64) (fun n=>wfI .i64 n=true):=reads_int (P:=Try.prog) (t:=3) (k:=.i64) (by kernel_rfl)
theorem readsInts:Reads Try.prog 39 (encL 3 1 (AV.int .i64)) wA :=
 YM (by kernel_rfl) (by kernel_rfl) (by decide) readsInt (fun _=>rfl) (fun _=>rfl)
theorem readsFact:Reads Try.prog 41 qv wFa :=
 Ye (P := Try.prog) (size := 2) (fs := #[Field.mk "Rel" 3 0 false "" "" 0, Field.mk "Args" 39 1 false "" "" 8]) (fun b : Int × List Int × Unit => (⟨b.1, b.2.1⟩ : apiFact)) (by kernel_rfl) (by kernel_rfl)
  (JQ (f:=AV.int .i64) (ok:=fun n=>wfI .i64 n=true) (n:=1) (off':=1) rfl (by kernel_rfl) rfl readsInt (JQ (f:=encL 3 1 (AV.int .i64)) (ok:=wA) (n:=1) (off':=2) rfl (by kernel_rfl) rfl readsInts (YO rfl)))
  (fun b=>rfl) (fun b h=>⟨h.1,h.2.1⟩)
theorem readsAtom:Reads Try.prog 91 e_rf2Atom wAt :=
 Ye (P := Try.prog) (size := 2) (fs := #[Field.mk "Rel" 3 0 false "" "" 0, Field.mk "Args" 39 1 false "" "" 8]) (fun b : Int × List Int × Unit => (⟨b.1, b.2.1⟩ : rf2Atom)) (by kernel_rfl) (by kernel_rfl)
  (JQ (f:=AV.int .i64) (ok:=fun n=>wfI .i64 n=true) (n:=1) (off':=1) rfl (by kernel_rfl) rfl readsInt (JQ (f:=encL 3 1 (AV.int .i64)) (ok:=wA) (n:=1) (off':=2) rfl (by kernel_rfl) rfl readsInts (YO rfl)))
  (fun b=>rfl) (fun b h=>⟨h.1,h.2.1⟩)
theorem readsLit:Reads Try.prog 96 QZ (fun b=>wAt b.qe) :=
 Ye (P := Try.prog) (size := 3) (fs := #[Field.mk "Not" 4 0 false "" "" 0, Field.mk "Atom" 91 1 false "" "" 8]) (fun b : Bool × rf2Atom × Unit => (⟨b.1, b.2.1⟩ : rf3Lit)) (by kernel_rfl) (by kernel_rfl)
  (JQ (f:=AV.bool) (ok:=fun _=>True) (n:=1) (off':=1) rfl (by kernel_rfl) rfl (reads_bool (by kernel_rfl)) (JQ (f:=e_rf2Atom) (ok:=wAt) (n:=2) (off':=3) rfl (by kernel_rfl) rfl readsAtom (YO rfl)))
  (fun b=>rfl) (fun b h=>h.2.1)
theorem readsLits:Reads Try.prog 92 (encL 96 3 QZ) (fun l=>l.length≤maxLen∧∀ b,b∈l→wAt b.qe) :=
 YM (by kernel_rfl) (by kernel_rfl) (by decide) readsLit (fun _=>rfl) (fun _=>rfl)
theorem readsRule:Reads Try.prog 94 QN wRu :=
 Ye (P := Try.prog) (size := 3) (fs := #[Field.mk "Head" 91 0 false "" "" 0, Field.mk "Body" 92 2 false "" "" 32]) (fun b : rf2Atom × List rf3Lit × Unit => (⟨b.1, b.2.1⟩ : rf3Rule)) (by kernel_rfl) (by kernel_rfl)
  (JQ (f:=e_rf2Atom) (ok:=wAt) (n:=2) (off':=2) rfl (by kernel_rfl) rfl readsAtom (JQ (f:=encL 96 3 QZ) (ok:=fun l=>l.length≤maxLen∧∀ b,b∈l→wAt b.qe) (n:=1) (off':=3) rfl (by kernel_rfl) rfl readsLits (YO rfl)))
  (fun b=>rfl) (fun b h=>⟨h.1,h.2.1⟩)
theorem readsRules:Reads Try.prog 22 (encL 94 3 QN) (fun l=>l.length≤maxLen∧∀ r,r∈l→wRu r) :=
 YM (by kernel_rfl) (by kernel_rfl) (by decide) readsRule (fun _=>rfl) (fun _=>rfl)
theorem readsFacts:Reads Try.prog 23 (encL 41 2 qv) (fun l=>l.length≤maxLen∧∀ f,f∈l→wFa f) :=
 YM (by kernel_rfl) (by kernel_rfl) (by decide) readsFact (fun _=>rfl) (fun _=>rfl)
theorem lenOk_max {α:Type} {l:List α} (h:l.length≤maxLen):lenOk l=true:=Nat.ble_eq_true_of_le (by unfold maxLen at h;omega)
theorem own:ownKnob Try.prog.godebug=none:=by kernel_rfl
theorem mixed:Try.prog.follows .mixedOrders=true:=by kernel_rfl
theorem laid:laidOutB Try.prog=true:=by kernel_rfl
end Go.AM
