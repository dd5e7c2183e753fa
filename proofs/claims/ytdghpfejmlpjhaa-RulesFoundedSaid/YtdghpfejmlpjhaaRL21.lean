/- s -/
import Derived.Test.YtdghpfejmlpjhaaRNT
import Derived.Test.YtdghpfejmlpjhaaRN1
import Derived.Test.YtdghpfejmlpjhaaAWq
import Derived.Test.YtdghpfejmlpjhaaChecked
import Derived.Test.YtdghpfejmlpjhaaRAT
import Derived.Test.YtdghpfejmlpjhaaAArr
import Derived.Test.YtdghpfejmlpjhaaASimJ
import Derived.Test.YtdghpfejmlpjhaaRCon3
import Derived.Test.YtdghpfejmlpjhaaRMT
import Derived.Test.YtdghpfejmlpjhaaRL15
set_option maxRecDepth 100000
set_option linter.unusedVariables false
set_option linter.unusedSimpArgs false
namespace Go.AM
open Go.Proofs Go.Sort
open Classical
abbrev z6:List Int:=List.replicate 6 0
end Go.AM
namespace Go.AM
open Go.Proofs Go.Sort
open Classical
theorem qdM {f:rufact} (h:okU1 f):groundP (apiF f)∧toF (apiF f)=f:=by
  have h16:=qap h
  have hl:1≤(argsF f).length∧(argsF f).length≤2:=by
    unfold argsF;split <;> simp
  rw[Yc];refine⟨⟨⟨h.r0,h.r5⟩,hl,h16⟩,?_⟩;unfold toF mkF argsF;obtain⟨r,a,b⟩:=f
  by_cases hb:b=0
  · subst hb;rfl
  · simp only
    rw[if_neg hb];rfl
theorem UY {out:List (rufact×Bool)} (hn:NT out) (ho:∀ g,g∈out.map Prod.fst→okU1 g):JQ out=some (sortF (apis out)):=by
  have hsm:=Yd hn.n ho;rw[List.length_map]at hsm;unfold JQ;rw[Vp (by rw[Bool.and_eq_true,He hn.n,decide_eq_true (by omega)];exact⟨rfl,rfl⟩)]
end Go.AM
namespace Go.AM
open Go.Proofs
end Go.AM
namespace Go.AM
open Go.Proofs
end Go.AM
namespace Go.AM
open Go.Proofs Go.Sort
open Classical
theorem qhM {out:List (rufact×Bool)} {f:apiFact}:f∈sortF (apis out)↔∃ g,g∈out.map Prod.fst∧apiF g=f:=by
 have hp:(sortF (apis out)).Perm (apis out):=List.mergeSort_perm ..;rw[hp.mem_iff];unfold apis;rw[List.mem_map]
 constructor
 ·rintro⟨p,hp,rfl⟩;exact⟨p.1,List.mem_map.2 ⟨p,hp,rfl⟩,rfl⟩
 ·rintro⟨g,hg,rfl⟩
  obtain⟨p,hp,rfl⟩:=List.mem_map.1 hg;exact⟨p,hp,rfl⟩
theorem qcU {l:List rf3Rule} (hl:l.length≤10) (h:∀ r,r∈l→okR r):(l.take 12).map cvR=l.map toR:=by
 rw[List.take_of_length_le (by omega)]
 exact List.map_congr_left fun r hr=>qhe (h r hr)
theorem qdt {m:List apiFact} (hm:m.length≤26) (h:∀ f,f∈m→f.qa.length≤9):(m.take 26).map cvF=m:=by
 rw[List.take_of_length_le hm]
 conv=>rhs;rw[← List.map_id m]
 refine List.map_congr_left fun f hf=>?_
 unfold cvF;rw[List.take_of_length_le (h f hf)];rfl
theorem mvalid {fuel:Nat} (hf:4≤fuel) {l:List rf3Rule} (ho:okRules l) (hl:l.length≤10) (h:∀ r,r∈l→okR r) {m:List apiFact} (hm:m.length≤26) (h9:∀ f,f∈m→f.qa.length≤9):XA fuel (l.map toR) m=some (decide (VR l m)):=by
 have:=Dn hf (facts:=m) ho;rw[qcU hl h,qdt hm h9]at this;exact this
end Go.AM
namespace Go.AM
open Go.Proofs
open Classical
theorem VW {P Q:rufact→Prop}:∀ {body:List ruLit} {v w:List Int},(∀ x,x∈body→x.qD=false→∀ g,P g→g.ql=x.qc.qb→Q g)→InstP P body v w→InstP Q body v w
 | [],v,w,_,hi=>hi
 | x::body,v,w,h,hi=>by
  have h':=fun y (hy:y∈body)=>h y (List.mem_cons_of_mem _ hy)
  rcases hi with ⟨hn,hi⟩ | ⟨hn,g,u,hg,h1,h2,h3,h4⟩
  ·exact .inl ⟨hn,VW h' hi⟩
  ·exact .inr ⟨hn,g,u,h x (List.mem_cons_self ..) hn g hg h1,h1,h2,h3,VW h' h4⟩
def Strat (lev:Int→Nat) (L:List ruRule):Prop:=∀ r,r∈L→∀ x,x∈r.qe→lev x.qc.qb+(if x.qD=true then 1 else 0)≤lev r.qf.qb
theorem Strat.le {lev:Int→Nat} {L:List ruRule} (h:Strat lev L) {r:ruRule} (hr:r∈L) {x:ruLit} (hx:x∈r.qe):lev x.qc.qb≤lev r.qf.qb:=by
 have:=h r hr x hx;omega
theorem Strat.lt {lev:Int→Nat} {L:List ruRule} (h:Strat lev L) {r:ruRule} (hr:r∈L) {x:ruLit} (hx:x∈r.qe) (hn:x.qD=true):lev x.qc.qb<lev r.qf.qb:=by
 have:=h r hr x hx;rw[if_pos hn]at this;omega
def partU (lev:Int→Nat) (k:Nat) (L:List ruRule):List ruRule:=L.filter fun r=>lev r.qf.qb == k
theorem Hc {lev:Int→Nat} {k:Nat} {L:List ruRule} {r:ruRule}:r∈partU lev k L↔r∈L∧lev r.qf.qb=k:=by
 unfold partU;rw[List.mem_filter,beq_iff_eq]
def StepsP (lev:Int→Nat) (L:List ruRule):Nat→Nat→(rufact→Prop)→(rufact→Prop)→Prop
 | _,0,X,Y=>X=Y
 | k,n+1,X,Y=>∃ Z,LeastR (partU lev k L) X X Z∧StepsP lev L (k+1) n Z Y
theorem StepsP.spec {lev:Int→Nat} {L:List ruRule} (hs:Strat lev L):∀ (n k:Nat) (X Y:rufact→Prop),StepsP lev L k n X Y→(∀ r,r∈L→lev r.qf.qb<k+n) →
  (∀ g,X g→Y g)∧(∀ g,Y g→lev g.ql<k→X g)∧(∀ r,r∈L→k≤lev r.qf.qb→∀ w,InstP Y r.qe v0 w→FreeP Y w r.qe→Y (groundF w r.qf)) ∧
   ∀ Q:rufact→Prop,(∀ g,X g→Q g)→(∀ r,r∈L→k≤lev r.qf.qb→∀ w,InstP Q r.qe v0 w→FreeP Y w r.qe→Q (groundF w r.qf))→∀ g,Y g→Q g
 | 0,k,X,Y,h,hk=>by
  have h:X=Y:=h;subst h;exact⟨fun _ h=>h,fun _ h _=>h,fun r hr hq=>by have:=hk r hr;omega,fun Q h _ g hg=>h g hg⟩
 | n+1,k,X,Y,⟨Z,hZ,h⟩,hk=>by
  obtain⟨i1,i2,i3,i4⟩:=StepsP.spec hs n (k+1) Z Y h fun r hr=>by have:=hk r hr;omega
  have hZk:∀ g,Z g→X g∨lev g.ql=k:=hZ.least _ (fun g h=>.inl h) fun r hr w _ _=>.inr (Hc.1 hr).2
  have hlow:∀ g,Y g→lev g.ql<k→X g:=fun g hg hl=>by
   rcases hZk g (i2 g hg (by omega)) with h | h
   ·exact h
   ·omega
  have hXY:∀ g,X g→Y g:=fun g hg=>i1 g (hZ.sub g hg)
  have hfree:∀ r,r∈L→lev r.qf.qb=k→∀ w,FreeP X w r.qe→FreeP Y w r.qe:=fun r hr hl w hf x hx hn hy=>hf x hx hn (hlow _ hy (by
   have:=hs.lt hr hx hn;show lev x.qc.qb<k
   omega))
  refine⟨hXY,hlow,fun r hr hq w hi hf=>?_,fun Q h1 h2=>?_⟩
  ·by_cases hl:lev r.qf.qb=k
   ·refine i1 _ (hZ.closed r (Hc.2 ⟨hr,hl⟩) w (VW (fun x hx hn g hg hrel=>i2 g hg ?_) hi) fun x hx hn hy=>hf x hx hn (hXY _ hy));have:=hs.le hr hx;rw[hrel];omega
   ·exact i3 r hr (by omega) w hi hf
  ·refine i4 Q (hZ.least Q h1 fun r hr w hi hf=>?_) fun r hr hq=>h2 r hr (by omega)
   obtain⟨hr,hl⟩:=Hc.1 hr;exact h2 r hr (by omega) w hi (hfree r hr hl w hf)
theorem StepsP.stable {lev:Int→Nat} {L:List ruRule} (hs:Strat lev L) {n:Nat} {X Y:rufact→Prop} (h:StepsP lev L 0 n X Y) (hk:∀ r,r∈L→lev r.qf.qb<n):LeastR L Y X Y:=by
 obtain⟨i1,i2,i3,i4⟩:=StepsP.spec hs n 0 X Y h (by simpa using hk);exact⟨i1,fun r hr w=>i3 r hr (Nat.zero_le _) w,fun Q h1 h2=>i4 Q h1 fun r hr _ w=>h2 r hr w⟩
abbrev memO (out:List (rufact×Bool)):rufact→Prop:=fun g=>g∈out.map Prod.fst
end Go.AM
