/- s -/
import Derived.Test.YtdghpfejmlpjhaaRNT
import Derived.Test.YtdghpfejmlpjhaaRN1
import Derived.Test.YtdghpfejmlpjhaaAWq
import Derived.Test.YtdghpfejmlpjhaaChecked
import Derived.Test.YtdghpfejmlpjhaaRAT
import Derived.Test.YtdghpfejmlpjhaaAArr
import Derived.Test.YtdghpfejmlpjhaaASimJ
import Derived.Test.YtdghpfejmlpjhaaRCon3
import Derived.Test.YtdghpfejmlpjhaaRMT
import Derived.OwnWalk
set_option maxRecDepth 100000
set_option linter.unusedVariables false
set_option linter.unusedSimpArgs false
namespace Go.AM
open Go.Proofs Go.Sort
open Classical
def plainP (l:List rf3Rule):Prop:=∀ r,r∈l→∀ b,b∈r.qc→b.qr=false
theorem qdk (K:Option Bool):∀ (body:List rf3Lit) (k:Nat),Qe K body k=if ∀ b,b∈body→b.qr=false then K else some false
 | [],k=>by simp[Qe]
 | b::body,k=>by
  rw[Qe,qdk K body (k+1)];cases hb:b.qr <;> simp[hb]
abbrev z6:List Int:=List.replicate 6 0
end Go.AM
namespace Go.AM
open Go.Proofs Go.Sort
open Classical
end Go.AM
namespace Go.AM
open Go.Proofs
end Go.AM
namespace Go.AM
open Go.Proofs
end Go.AM
namespace Go.AM
open Go.Proofs Go.Sort
open Classical
theorem qbn:∀ (l:List rf3Rule) (k:Nat),(∀ r,r∈l→lenOk r.qc=true)→jO Jh l k=some (decide (plainP l))
 | [],k,_=>by
  rw[jO,decide_eq_true (show plainP [] from fun r hr=>by simp at hr)];rfl
 | r::l,k,h=>by
  have ih:=qbn l (k+1) fun q hq=>h q (List.mem_cons_of_mem _ hq)
  rw[jO,VP (h r (List.mem_cons_self ..)),qdk];unfold QT;rw[ih]
  have hc:plainP (r::l)↔(∀ b,b∈r.qc→b.qr=false)∧plainP l:=by
   unfold plainP;simp only[List.mem_cons,forall_eq_or_imp]
  by_cases h1:∀ b,b∈r.qc→b.qr=false
  ·rw[if_pos h1]
   congr 1
   exact decide_eq_decide.2 ⟨fun q=>hc.2 ⟨h1,q⟩,fun q=>(hc.1 q).2⟩
  ·rw[if_neg h1,decide_eq_false (fun q=>h1 (hc.1 q).1)]
theorem Ni {l:List rf3Rule} (hl:okRules l):Vl l=some (decide (plainP l)):=by
 unfold Vl;rw[VP hl.1]
 exact qbn l 0 fun r hr=>(hl.2 r hr).2.1
theorem qdD (a2:List Int) (K:Option Bool):∀ (r:List Int) (k:Nat),k+r.length=a2.length→js a2 K r k=if r=a2.drop k then K else some false
 | [],k,h=>by
  rw[js,List.drop_of_length_le (by simp at h;omega),if_pos rfl]
 | x::r,k,h=>by
  rw[List.length_cons]at h
  have hk:k<a2.length:=by omega
  rw[js,qdD a2 K r (k+1) (by omega),List.drop_eq_getElem_cons hk]
  have hi:idx a2 (k:Int)=some a2[k]:=by
   unfold idx;rw[if_pos (by omega),Int.toNat_natCast,List.getElem?_eq_getElem hk]
  rw[hi];simp only[Option.bind_some,List.cons.injEq]
  by_cases hx:x=a2[k]
  ·rw[show (x != a2[k])=false by simp[hx],cond_false];simp only[hx,true_and]
  ·rw[show (x != a2[k])=true by simpa using hx,cond_true,if_neg (fun h=>hx h.1)]
theorem qgi {a b:List Int} (h:lenOk a=true):Xg a b=some (decide (a=b)):=by
 unfold Xg
 by_cases hl:a.length=b.length
 ·rw[show ((a.length:Int) != (b.length:Int))=false by simp[hl],cond_false,VP h,qdD b _ a 0 (by omega)];unfold Jr;simp only[List.drop_zero]
  by_cases he:a=b
  ·rw[if_pos he,decide_eq_true he]
  ·rw[if_neg he,decide_eq_false he]
 ·rw[show ((a.length:Int) != (b.length:Int))=true by simp;omega,cond_true,decide_eq_false (fun e=>hl (by rw[e]))]
def cutF (f:apiFact):apiFact:=⟨f.qb,f.qa.take 5⟩
theorem qeD (f:apiFact):Un f=some (cutF f):=by
 unfold Un;have h:=DK (l:=f.qa) 5;rw[show ((5:Nat):Int)=5 from rfl]at h;rw[h];simp only[Option.bind_some];rw[HU (by rw[List.length_take];omega)];rfl
theorem qdb {l:List rf3Rule} (hl:l.length≤10) (h:∀ r,r∈l→okR r):(l.take 12).map cvR=l.map toR:=by
 rw[List.take_of_length_le (by omega)]
 exact List.map_congr_left fun r hr=>qhh (h r hr)
theorem qdz {m:List apiFact} (hm:m.length≤26) (h:∀ f,f∈m→f.qa.length≤9):(m.take 26).map cvF=m:=by
 rw[List.take_of_length_le hm]
 conv=>rhs;rw[← List.map_id m]
 refine List.map_congr_left fun f hf=>?_
 unfold cvF;rw[List.take_of_length_le (h f hf)];rfl
theorem mvalid {fuel:Nat} (hf:4≤fuel) {l:List rf3Rule} (ho:okRules l) (hl:l.length≤10) (h:∀ r,r∈l→okR r) {m:List apiFact} (hm:m.length≤26) (h9:∀ f,f∈m→f.qa.length≤9):XY fuel (l.map toR) m=some (decide (VR l m)):=by
 have:=DI hf (facts:=m) ho;rw[qdb hl h,qdz hm h9]at this;exact this
end Go.AM
namespace Go.AM
open Go.Proofs
open Classical
theorem Uz {P Q:rufact→Prop}:∀ {body:List ruLit} {v w:List Int},(∀ x,x∈body→x.qr=false→∀ g,P g→g.qn=x.qd.qb→Q g)→InstP P body v w→InstP Q body v w
 | [],v,w,_,hi=>hi
 | x::body,v,w,h,hi=>by
  have h':=fun y (hy:y∈body)=>h y (List.mem_cons_of_mem _ hy)
  rcases hi with ⟨hn,hi⟩ | ⟨hn,g,u,hg,h1,h2,h3,h4⟩
  ·exact .inl ⟨hn,Uz h' hi⟩
  ·exact .inr ⟨hn,g,u,h x (List.mem_cons_self ..) hn g hg h1,h1,h2,h3,Uz h' h4⟩
def Strat (lev:Int→Nat) (L:List ruRule):Prop:=∀ r,r∈L→∀ x,x∈r.qc→lev x.qd.qb+(if x.qr=true then 1 else 0)≤lev r.qf.qb
theorem Strat.le {lev:Int→Nat} {L:List ruRule} (h:Strat lev L) {r:ruRule} (hr:r∈L) {x:ruLit} (hx:x∈r.qc):lev x.qd.qb≤lev r.qf.qb:=by
 have:=h r hr x hx;omega
theorem Strat.lt {lev:Int→Nat} {L:List ruRule} (h:Strat lev L) {r:ruRule} (hr:r∈L) {x:ruLit} (hx:x∈r.qc) (hn:x.qr=true):lev x.qd.qb<lev r.qf.qb:=by
 have:=h r hr x hx;rw[if_pos hn]at this;omega
def partU (lev:Int→Nat) (k:Nat) (L:List ruRule):List ruRule:=L.filter fun r=>lev r.qf.qb == k
theorem Hz {lev:Int→Nat} {k:Nat} {L:List ruRule} {r:ruRule}:r∈partU lev k L↔r∈L∧lev r.qf.qb=k:=by
 unfold partU;rw[List.mem_filter,beq_iff_eq]
def StepsP (lev:Int→Nat) (L:List ruRule):Nat→Nat→(rufact→Prop)→(rufact→Prop)→Prop
 | _,0,X,Y=>X=Y
 | k,n+1,X,Y=>∃ Z,LeastR (partU lev k L) X X Z∧StepsP lev L (k+1) n Z Y
theorem StepsP.spec {lev:Int→Nat} {L:List ruRule} (hs:Strat lev L):∀ (n k:Nat) (X Y:rufact→Prop),StepsP lev L k n X Y→(∀ r,r∈L→lev r.qf.qb<k+n) →
  (∀ g,X g→Y g)∧(∀ g,Y g→lev g.qn<k→X g)∧(∀ r,r∈L→k≤lev r.qf.qb→∀ w,InstP Y r.qc v0 w→FreeP Y w r.qc→Y (groundF w r.qf)) ∧
   ∀ Q:rufact→Prop,(∀ g,X g→Q g)→(∀ r,r∈L→k≤lev r.qf.qb→∀ w,InstP Q r.qc v0 w→FreeP Y w r.qc→Q (groundF w r.qf))→∀ g,Y g→Q g
 | 0,k,X,Y,h,hk=>by
  have h:X=Y:=h;subst h;exact⟨fun _ h=>h,fun _ h _=>h,fun r hr hq=>by have:=hk r hr;omega,fun Q h _ g hg=>h g hg⟩
 | n+1,k,X,Y,⟨Z,hZ,h⟩,hk=>by
  obtain⟨i1,i2,i3,i4⟩:=StepsP.spec hs n (k+1) Z Y h fun r hr=>by have:=hk r hr;omega
  have hZk:∀ g,Z g→X g∨lev g.qn=k:=hZ.least _ (fun g h=>.inl h) fun r hr w _ _=>.inr (Hz.1 hr).2
  have hlow:∀ g,Y g→lev g.qn<k→X g:=fun g hg hl=>by
   rcases hZk g (i2 g hg (by omega)) with h | h
   ·exact h
   ·omega
  have hXY:∀ g,X g→Y g:=fun g hg=>i1 g (hZ.sub g hg)
  have hfree:∀ r,r∈L→lev r.qf.qb=k→∀ w,FreeP X w r.qc→FreeP Y w r.qc:=fun r hr hl w hf x hx hn hy=>hf x hx hn (hlow _ hy (by
   have:=hs.lt hr hx hn;show lev x.qd.qb<k
   omega))
  refine⟨hXY,hlow,fun r hr hq w hi hf=>?_,fun Q h1 h2=>?_⟩
  ·by_cases hl:lev r.qf.qb=k
   ·refine i1 _ (hZ.closed r (Hz.2 ⟨hr,hl⟩) w (Uz (fun x hx hn g hg hrel=>i2 g hg ?_) hi) fun x hx hn hy=>hf x hx hn (hXY _ hy));have:=hs.le hr hx;rw[hrel];omega
   ·exact i3 r hr (by omega) w hi hf
  ·refine i4 Q (hZ.least Q h1 fun r hr w hi hf=>?_) fun r hr hq=>h2 r hr (by omega)
   obtain⟨hr,hl⟩:=Hz.1 hr;exact h2 r hr (by omega) w hi (hfree r hr hl w hf)
theorem StepsP.stable {lev:Int→Nat} {L:List ruRule} (hs:Strat lev L) {n:Nat} {X Y:rufact→Prop} (h:StepsP lev L 0 n X Y) (hk:∀ r,r∈L→lev r.qf.qb<n):LeastR L Y X Y:=by
 obtain⟨i1,i2,i3,i4⟩:=StepsP.spec hs n 0 X Y h (by simpa using hk);exact⟨i1,fun r hr w=>i3 r hr (Nat.zero_le _) w,fun Q h1 h2=>i4 Q h1 fun r hr _ w=>h2 r hr w⟩
end Go.AM
namespace Go.Proofs
open Go.RowKit Go.AM
open Go.ChangeMaps (setBlock)
end Go.Proofs
namespace Go.AM
open Go.Proofs
end Go.AM
namespace Go.AM
open Go.Proofs
end Go.AM
