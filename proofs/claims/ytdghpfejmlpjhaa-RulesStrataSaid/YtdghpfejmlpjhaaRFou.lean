/- s -/
import Derived.Test.YtdghpfejmlpjhaaRQT
import Derived.Test.YtdghpfejmlpjhaaRQ1
import Derived.Test.YtdghpfejmlpjhaaRCon3
import Derived.Test.YtdghpfejmlpjhaaRMT
import Derived.OwnWalk
set_option maxRecDepth 100000
set_option linter.unusedVariables false
set_option linter.unusedSimpArgs false
namespace Go.AM
open Go.Proofs Go.Sort
open Classical
theorem qcD (a2:List Int) (K:Option Bool):∀ (r:List Int) (k:Nat),k+r.length=a2.length→jq a2 K r k=if r=a2.drop k then K else some false
 | [],k,h=>by
  rw[jq,List.drop_of_length_le (by simp at h;omega),if_pos rfl]
 | x::r,k,h=>by
  rw[List.length_cons]at h
  have hk:k<a2.length:=by omega
  rw[jq,qcD a2 K r (k+1) (by omega),List.drop_eq_getElem_cons hk]
  have hi:idx a2 (k:Int)=some a2[k]:=by
   unfold idx;rw[if_pos (by omega),Int.toNat_natCast,List.getElem?_eq_getElem hk]
  rw[hi];simp only[Option.bind_some,List.cons.injEq]
  by_cases hx:x=a2[k]
  ·rw[show (x != a2[k])=false by simp[hx],cond_false];simp only[hx,true_and]
  ·rw[show (x != a2[k])=true by simpa using hx,cond_true,if_neg (fun h=>hx h.1)]
theorem qaH {a b:List Int} (h:lenOk a=true):Qg a b=some (decide (a=b)):=by
 unfold Qg
 by_cases hl:a.length=b.length
 ·rw[show ((a.length:Int) != (b.length:Int))=false by simp[hl],cond_false,Vj h,qcD b _ a 0 (by omega)];unfold Jn;simp only[List.drop_zero]
  by_cases he:a=b
  ·rw[if_pos he,decide_eq_true he]
  ·rw[if_neg he,decide_eq_false he]
 ·rw[show ((a.length:Int) != (b.length:Int))=true by simp;omega,cond_true,decide_eq_false (fun e=>hl (by rw[e]))]
theorem qfA {l:List rf3Rule} (hl:l.length≤10) (h:∀ r,r∈l→okR r):(l.take 12).map cvR=l.map toR:=by
 rw[List.take_of_length_le (by omega)]
 exact List.map_congr_left fun r hr=>qge (h r hr)
end Go.AM
namespace Go.AM
open Go.Proofs
open Classical
theorem VO {P Q:rufact→Prop}:∀ {body:List ruLit} {v w:List Int},(∀ x,x∈body→x.qi=false→∀ g,P g→g.qq=x.qc.qb→Q g)→InstP P body v w→InstP Q body v w
 | [],v,w,_,hi=>hi
 | x::body,v,w,h,hi=>by
  have h':=fun y (hy:y∈body)=>h y (List.mem_cons_of_mem _ hy)
  rcases hi with ⟨hn,hi⟩ | ⟨hn,g,u,hg,h1,h2,h3,h4⟩
  ·exact .inl ⟨hn,VO h' hi⟩
  ·exact .inr ⟨hn,g,u,h x (List.mem_cons_self ..) hn g hg h1,h1,h2,h3,VO h' h4⟩
def Strat (lev:Int→Nat) (L:List ruRule):Prop:=∀ r,r∈L→∀ x,x∈r.qe→lev x.qc.qb+(if x.qi=true then 1 else 0)≤lev r.qd.qb
theorem Strat.le {lev:Int→Nat} {L:List ruRule} (h:Strat lev L) {r:ruRule} (hr:r∈L) {x:ruLit} (hx:x∈r.qe):lev x.qc.qb≤lev r.qd.qb:=by
 have:=h r hr x hx;omega
theorem Strat.lt {lev:Int→Nat} {L:List ruRule} (h:Strat lev L) {r:ruRule} (hr:r∈L) {x:ruLit} (hx:x∈r.qe) (hn:x.qi=true):lev x.qc.qb<lev r.qd.qb:=by
 have:=h r hr x hx;rw[if_pos hn]at this;omega
def partU (lev:Int→Nat) (k:Nat) (L:List ruRule):List ruRule:=L.filter fun r=>lev r.qd.qb == k
theorem NE {lev:Int→Nat} {k:Nat} {L:List ruRule} {r:ruRule}:r∈partU lev k L↔r∈L∧lev r.qd.qb=k:=by
 unfold partU;rw[List.mem_filter,beq_iff_eq]
def StepsP (lev:Int→Nat) (L:List ruRule):Nat→Nat→(rufact→Prop)→(rufact→Prop)→Prop
 | _,0,X,Y=>X=Y
 | k,n+1,X,Y=>∃ Z,LeastR (partU lev k L) X X Z∧StepsP lev L (k+1) n Z Y
theorem StepsP.spec {lev:Int→Nat} {L:List ruRule} (hs:Strat lev L):∀ (n k:Nat) (X Y:rufact→Prop),StepsP lev L k n X Y→(∀ r,r∈L→lev r.qd.qb<k+n) →
  (∀ g,X g→Y g)∧(∀ g,Y g→lev g.qq<k→X g)∧(∀ r,r∈L→k≤lev r.qd.qb→∀ w,InstP Y r.qe v0 w→FreeP Y w r.qe→Y (groundF w r.qd)) ∧
   ∀ Q:rufact→Prop,(∀ g,X g→Q g)→(∀ r,r∈L→k≤lev r.qd.qb→∀ w,InstP Q r.qe v0 w→FreeP Y w r.qe→Q (groundF w r.qd))→∀ g,Y g→Q g
 | 0,k,X,Y,h,hk=>by
  have h:X=Y:=h;subst h;exact⟨fun _ h=>h,fun _ h _=>h,fun r hr hq=>by have:=hk r hr;omega,fun Q h _ g hg=>h g hg⟩
 | n+1,k,X,Y,⟨Z,hZ,h⟩,hk=>by
  obtain⟨i1,i2,i3,i4⟩:=StepsP.spec hs n (k+1) Z Y h fun r hr=>by have:=hk r hr;omega
  have hZk:∀ g,Z g→X g∨lev g.qq=k:=hZ.least _ (fun g h=>.inl h) fun r hr w _ _=>.inr (NE.1 hr).2
  have hlow:∀ g,Y g→lev g.qq<k→X g:=fun g hg hl=>by
   rcases hZk g (i2 g hg (by omega)) with h | h
   ·exact h
   ·omega
  have hXY:∀ g,X g→Y g:=fun g hg=>i1 g (hZ.sub g hg)
  have hfree:∀ r,r∈L→lev r.qd.qb=k→∀ w,FreeP X w r.qe→FreeP Y w r.qe:=fun r hr hl w hf x hx hn hy=>hf x hx hn (hlow _ hy (by
   have:=hs.lt hr hx hn;show lev x.qc.qb<k
   omega))
  refine⟨hXY,hlow,fun r hr hq w hi hf=>?_,fun Q h1 h2=>?_⟩
  ·by_cases hl:lev r.qd.qb=k
   ·refine i1 _ (hZ.closed r (NE.2 ⟨hr,hl⟩) w (VO (fun x hx hn g hg hrel=>i2 g hg ?_) hi) fun x hx hn hy=>hf x hx hn (hXY _ hy));have:=hs.le hr hx;rw[hrel];omega
   ·exact i3 r hr (by omega) w hi hf
  ·refine i4 Q (hZ.least Q h1 fun r hr w hi hf=>?_) fun r hr hq=>h2 r hr (by omega)
   obtain⟨hr,hl⟩:=NE.1 hr;exact h2 r hr (by omega) w hi (hfree r hr hl w hf)
theorem StepsP.stable {lev:Int→Nat} {L:List ruRule} (hs:Strat lev L) {n:Nat} {X Y:rufact→Prop} (h:StepsP lev L 0 n X Y) (hk:∀ r,r∈L→lev r.qd.qb<n):LeastR L Y X Y:=by
 obtain⟨i1,i2,i3,i4⟩:=StepsP.spec hs n 0 X Y h (by simpa using hk);exact⟨i1,fun r hr w=>i3 r hr (Nat.zero_le _) w,fun Q h1 h2=>i4 Q h1 fun r hr _ w=>h2 r hr w⟩
end Go.AM
namespace Go.Proofs
open Go.RowKit Go.AM
open Go.ChangeMaps (setBlock)
end Go.Proofs
