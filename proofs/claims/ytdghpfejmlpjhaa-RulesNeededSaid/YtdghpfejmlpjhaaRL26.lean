/- s -/
import Derived.Test.YtdghpfejmlpjhaaRQT
import Derived.Test.YtdghpfejmlpjhaaRQ1
import Derived.Test.YtdghpfejmlpjhaaRCon3
import Derived.Test.YtdghpfejmlpjhaaRMT
import Derived.OwnWalk
import Derived.Test.YtdghpfejmlpjhaaAWq
import Derived.Test.YtdghpfejmlpjhaaChecked
import Derived.Test.YtdghpfejmlpjhaaANil
import Derived.Test.YtdghpfejmlpjhaaASimJ
import Derived.Test.YtdghpfejmlpjhaaRA1
import Derived.Test.YtdghpfejmlpjhaaAWp
import GoSem.Claim
set_option maxRecDepth 100000
set_option linter.unusedVariables false
set_option linter.unusedSimpArgs false
namespace Go.AM
open Go.Proofs Go.Sort
open Classical
theorem qgQ {out:List (rufact×Bool)} {f:apiFact}:f∈sortF (apis out)↔∃ g,g∈out.map Prod.fst∧apiF g=f:=by
 have hp:(sortF (apis out)).Perm (apis out):=List.mergeSort_perm ..;rw[hp.mem_iff];unfold apis;rw[List.mem_map]
 constructor
 ·rintro⟨p,hp,rfl⟩;exact⟨p.1,List.mem_map.2 ⟨p,hp,rfl⟩,rfl⟩
 ·rintro⟨g,hg,rfl⟩
  obtain⟨p,hp,rfl⟩:=List.mem_map.1 hg;exact⟨p,hp,rfl⟩
theorem qbG {l:List rf3Rule} (hl:l.length≤10) (h:∀ r,r∈l→okR r):(l.take 12).map cvR=l.map toR:=by
 rw[List.take_of_length_le (by omega)]
 exact List.map_congr_left fun r hr=>qge (h r hr)
theorem qcj {m:List apiFact} (hm:m.length≤26) (h:∀ f,f∈m→f.qa.length≤9):(m.take 26).map cvF=m:=by
 rw[List.take_of_length_le hm]
 conv=>rhs;rw[← List.map_id m]
 refine List.map_congr_left fun f hf=>?_
 unfold cvF;rw[List.take_of_length_le (h f hf)];rfl
theorem mvalid {fuel:Nat} (hf:4≤fuel) {l:List rf3Rule} (ho:okRules l) (hl:l.length≤10) (h:∀ r,r∈l→okR r) {m:List apiFact} (hm:m.length≤26) (h9:∀ f,f∈m→f.qa.length≤9):Qo fuel (l.map toR) m=some (decide (VR l m)):=by
 have:=Zu hf (facts:=m) ho;rw[qbG hl h,qcj hm h9]at this;exact this
end Go.AM
namespace Go.AM
open Go.Proofs
open Classical
theorem Yc {P Q:rufact→Prop}:∀ {body:List ruLit} {v w:List Int},(∀ x,x∈body→x.qn=false→∀ g,P g→g.ql=x.qe.qb→Q g)→InstP P body v w→InstP Q body v w
 | [],v,w,_,hi=>hi
 | x::body,v,w,h,hi=>by
  have h':=fun y (hy:y∈body)=>h y (List.mem_cons_of_mem _ hy)
  rcases hi with ⟨hn,hi⟩ | ⟨hn,g,u,hg,h1,h2,h3,h4⟩
  ·exact .inl ⟨hn,Yc h' hi⟩
  ·exact .inr ⟨hn,g,u,h x (List.mem_cons_self ..) hn g hg h1,h1,h2,h3,Yc h' h4⟩
def Strat (lev:Int→Nat) (L:List ruRule):Prop:=∀ r,r∈L→∀ x,x∈r.qd→lev x.qe.qb+(if x.qn=true then 1 else 0)≤lev r.qc.qb
theorem Strat.le {lev:Int→Nat} {L:List ruRule} (h:Strat lev L) {r:ruRule} (hr:r∈L) {x:ruLit} (hx:x∈r.qd):lev x.qe.qb≤lev r.qc.qb:=by
 have:=h r hr x hx;omega
theorem Strat.lt {lev:Int→Nat} {L:List ruRule} (h:Strat lev L) {r:ruRule} (hr:r∈L) {x:ruLit} (hx:x∈r.qd) (hn:x.qn=true):lev x.qe.qb<lev r.qc.qb:=by
 have:=h r hr x hx;rw[if_pos hn]at this;omega
def partU (lev:Int→Nat) (k:Nat) (L:List ruRule):List ruRule:=L.filter fun r=>lev r.qc.qb == k
theorem Nn {lev:Int→Nat} {k:Nat} {L:List ruRule} {r:ruRule}:r∈partU lev k L↔r∈L∧lev r.qc.qb=k:=by
 unfold partU;rw[List.mem_filter,beq_iff_eq]
def StepsP (lev:Int→Nat) (L:List ruRule):Nat→Nat→(rufact→Prop)→(rufact→Prop)→Prop
 | _,0,X,Y=>X=Y
 | k,n+1,X,Y=>∃ Z,LeastR (partU lev k L) X X Z∧StepsP lev L (k+1) n Z Y
theorem StepsP.spec {lev:Int→Nat} {L:List ruRule} (hs:Strat lev L):∀ (n k:Nat) (X Y:rufact→Prop),StepsP lev L k n X Y→(∀ r,r∈L→lev r.qc.qb<k+n) →
  (∀ g,X g→Y g)∧(∀ g,Y g→lev g.ql<k→X g)∧(∀ r,r∈L→k≤lev r.qc.qb→∀ w,InstP Y r.qd v0 w→FreeP Y w r.qd→Y (groundF w r.qc)) ∧
   ∀ Q:rufact→Prop,(∀ g,X g→Q g)→(∀ r,r∈L→k≤lev r.qc.qb→∀ w,InstP Q r.qd v0 w→FreeP Y w r.qd→Q (groundF w r.qc))→∀ g,Y g→Q g
 | 0,k,X,Y,h,hk=>by
  have h:X=Y:=h;subst h;exact⟨fun _ h=>h,fun _ h _=>h,fun r hr hq=>by have:=hk r hr;omega,fun Q h _ g hg=>h g hg⟩
 | n+1,k,X,Y,⟨Z,hZ,h⟩,hk=>by
  obtain⟨i1,i2,i3,i4⟩:=StepsP.spec hs n (k+1) Z Y h fun r hr=>by have:=hk r hr;omega
  have hZk:∀ g,Z g→X g∨lev g.ql=k:=hZ.least _ (fun g h=>.inl h) fun r hr w _ _=>.inr (Nn.1 hr).2
  have hlow:∀ g,Y g→lev g.ql<k→X g:=fun g hg hl=>by
   rcases hZk g (i2 g hg (by omega)) with h | h
   ·exact h
   ·omega
  have hXY:∀ g,X g→Y g:=fun g hg=>i1 g (hZ.sub g hg)
  have hfree:∀ r,r∈L→lev r.qc.qb=k→∀ w,FreeP X w r.qd→FreeP Y w r.qd:=fun r hr hl w hf x hx hn hy=>hf x hx hn (hlow _ hy (by
   have:=hs.lt hr hx hn;show lev x.qe.qb<k
   omega))
  refine⟨hXY,hlow,fun r hr hq w hi hf=>?_,fun Q h1 h2=>?_⟩
  ·by_cases hl:lev r.qc.qb=k
   ·refine i1 _ (hZ.closed r (Nn.2 ⟨hr,hl⟩) w (Yc (fun x hx hn g hg hrel=>i2 g hg ?_) hi) fun x hx hn hy=>hf x hx hn (hXY _ hy));have:=hs.le hr hx;rw[hrel];omega
   ·exact i3 r hr (by omega) w hi hf
  ·refine i4 Q (hZ.least Q h1 fun r hr w hi hf=>?_) fun r hr hq=>h2 r hr (by omega)
   obtain⟨hr,hl⟩:=Nn.1 hr;exact h2 r hr (by omega) w hi (hfree r hr hl w hf)
theorem StepsP.stable {lev:Int→Nat} {L:List ruRule} (hs:Strat lev L) {n:Nat} {X Y:rufact→Prop} (h:StepsP lev L 0 n X Y) (hk:∀ r,r∈L→lev r.qc.qb<n):LeastR L Y X Y:=by
 obtain⟨i1,i2,i3,i4⟩:=StepsP.spec hs n 0 X Y h (by simpa using hk);exact⟨i1,fun r hr w=>i3 r hr (Nat.zero_le _) w,fun Q h1 h2=>i4 Q h1 fun r hr _ w=>h2 r hr w⟩
theorem qdP {lev:Int→Nat} {L:List ruRule} (hs:Strat lev L) {X Y G X2 Y2:rufact→Prop} (hX:LeastR L X G X2) (hY:LeastR L Y G Y2) {k:Nat} (h:∀ g,lev g.ql<k→(X g↔Y g)):∀ g,lev g.ql≤k→(X2 g↔Y2 g):=by
 have key:∀ {X Y X2 Y2:rufact→Prop},LeastR L X G X2→LeastR L Y G Y2→(∀ g,lev g.ql<k→(X g↔Y g))→∀ g,X2 g→lev g.ql≤k→Y2 g:=fun {X Y X2 Y2} hX hY h=>by
  refine hX.least (fun g=>lev g.ql≤k→Y2 g) (fun g hg _=>hY.sub g hg) fun r hr w hi hf hl=>?_
  have hl:lev r.qc.qb≤k:=hl
  have e1:∀ x,x∈r.qd→x.qn=false→∀ g:rufact,(lev g.ql≤k→Y2 g)→g.ql=x.qe.qb→Y2 g:=fun x hx hn g hg hrel=>hg (by
   have:=hs.le hr hx;rw[hrel]
   omega)
  have e2:FreeP Y w r.qd:=fun x hx hn hy=>hf x hx hn ((h _ (by
   have:=hs.lt hr hx hn;show lev x.qe.qb<k
   omega)).2 hy)
  exact hY.closed r hr w (Yc e1 hi) e2
 exact fun g hl=>⟨fun hg=>key hX hY h g hg hl,fun hg=>key hY hX (fun g hl=>(h g hl).symm) g hg hl⟩
theorem qfm {lev:Int→Nat} {L:List ruRule} (hs:Strat lev L) {X Y G:rufact→Prop} (hX:LeastR L X G X) (hY:LeastR L Y G Y):∀ g,X g↔Y g:=by
 have key:∀ (k:Nat) g,lev g.ql<k→(X g↔Y g):=fun k=>by
  induction k with
  | zero=>intro g h;omega
  | succ k ih =>
   intro g h;exact qdP hs hX hY ih g (by omega)
 exact fun g=>key _ g (Nat.lt_succ_self _)
def levV (v:List Int) (rel:Int):Nat:=(v.getD rel.toNat 0).toNat
theorem qfq {v:List Int} {l:List rf3Rule} (hr:relsR l) (hv:∀ i,0≤v.getD i 0) (h:preE (edgesR l) fun i=>v.getD i 0):Strat (levV v) (l.map toR):=by
 intro r hr x hx;obtain⟨q,hq,rfl⟩:=List.mem_map.1 hr;obtain⟨y,hy,rfl⟩:=List.mem_map.1 hx;have h1:=h (edgeOf q.qc.qb y.qe.qb y.qn) (List.mem_flatMap.2 ⟨q,hq,List.mem_map.2 ⟨y,hy,rfl⟩⟩);have h2:=hv q.qc.qb.toNat;have h3:=hv y.qe.qb.toNat;simp only[edgeOf]at h1
 by_cases hn:(toL y).qn=true
 ·have hn':y.qn=true:=hn;rw[if_pos hn];rw[if_pos hn']at h1;show (v.getD y.qe.qb.toNat 0).toNat+1≤(v.getD q.qc.qb.toNat 0).toNat;omega
 ·have hn':¬ y.qn=true:=hn;rw[if_neg hn];rw[if_neg hn']at h1;show (v.getD y.qe.qb.toNat 0).toNat+0≤(v.getD q.qc.qb.toNat 0).toNat;omega
theorem qgF {v:List Int} (hv:∀ i,0≤v.getD i 0) (k:Nat) (l:List rf3Rule):(partS v k l).map toR=partU (levV v) k (l.map toR):=by
 unfold partS partU;rw[List.filter_map]
 congr 1
 refine List.filter_congr fun r _=>?_
 have:=hv r.qc.qb.toNat;unfold inS levV;simp only[Function.comp_def,toR,toA];rw[Bool.eq_iff_iff,beq_iff_eq,beq_iff_eq];omega
abbrev memO (out:List (rufact×Bool)):rufact→Prop:=fun g=>g∈out.map Prod.fst
theorem DX {ar:Int→Nat} {fuel:Nat} (hf:300≤fuel) {l:List rf3Rule} (hl:l.length≤12) (hL:∀ r,r∈l→okL ar (toR r)) {v:List Int} (hv:v.length=6) (h0:∀ i,0≤v.getD i 0) {c:Bool}:∀ (L:List Nat) (k:Nat) (out:List (rufact×Bool)),NT out→arW ar (memO out) →
  ∃ out',ji fuel (l.map toR) (v,c) jl L k out=some (out',true)∧NT out'∧arW ar (memO out')∧StepsP (levV v) (l.map toR) k L.length (memO out) (memO out')
 | [],k,out,h1,h2=>⟨out,by rw[ji];rfl,h1,h2,rfl⟩
 | x::L,k,out,h1,h2=>by
  have hrel:∀ r,r∈l→rel6 r.qc.qb:=fun r hr=>XF (hL r hr).head.1
  have hp:(partS v k l).length≤12:=Nat.le_trans (List.length_filter_le ..) hl
  obtain⟨o1,a1,a2,a3,a4⟩:=qeX (L:=(partS v k l).map toR) (fun r hr=>by
   obtain⟨q,hq,rfl⟩:=List.mem_map.1 hr
   exact hL q (List.mem_filter.1 hq).1) (by rw[List.length_map];exact hp) h1 h1 h2 (by omega:253≤fuel)
  obtain⟨o2,b1,b2,b3,b4⟩:=DX hf hl hL hv h0 (c:=c) L (k+1) o1 a2 a3;refine⟨o2,?_,b2,b3,memO o1,by rw[qgF h0]at a4;exact a4,b4⟩;rw[ji,ZJ (qN (by rw[List.length_map];omega)),Nl hv k _ l 0 [] hrel (by simp;omega)];unfold Js Yd;rw[List.nil_append,a1];simp only[Option.bind_some];exact b1
theorem qdh {ar:Int→Nat} {fuel:Nat} (hf:300≤fuel) {l:List rf3Rule} (hl:l.length≤10) (hL:∀ r,r∈l→Go.AM.okL ar (toR r)) {facts:List apiFact} (h2:facts.length≤100) (h3:∀ f,f∈facts→groundP f) (har:∀ f,f∈facts→f.qa.length=ar f.qb) :
  (∃ v out,in6 v 5∧QO fuel (l.map toR)=some (v,true)∧Strat (levV v) (l.map toR)∧Xy fuel (l.map toR) facts=some (out,true)∧NT out∧arW ar (memO out)∧LeastR (l.map toR) (memO out) (fun g=>g∈facts.map toF) (memO out))∨(QO fuel (l.map toR)=some ([],false)∧Xy fuel (l.map toR) facts=some ([],false)):=by
 obtain⟨o0,S0,g1,g2,g3⟩:=qdw h2 h3 har
 have hg:∀ g,memO o0 g↔g∈facts.map toF:=fun g=>by
  obtain⟨a1,a2,a3,a4⟩:=NT.empty.add (fr:=facts.map toF)
  have:Yu facts=some (addF [] (facts.map toF)):=by
   unfold Yu;rw[ZJ (qN (by omega)),Nx _ facts 0 [] h3 NT.empty (by simp;omega)];rfl
  rw[g1]at this;cases this;show g∈_↔_;rw[a2];simp
 rcases ZQ (by omega:100≤fuel) hl (by rw[List.length_map];exact hl) (Zh hL) (Hy hL) (Dd l) with ⟨v,hv,hpre,s1,s2⟩ | ⟨s1,s2⟩
 ·left
  have h0:∀ i,0≤v.getD i 0:=fun i=>(hv.2 i).1
  have hst:=qfq (Zh hL) h0 hpre;obtain⟨M,m1,m2,m3⟩:=qbX (by omega:10≤fuel) hv.1;obtain⟨i,hi,he⟩:=List.getElem_of_mem m2
  have hM:0≤M∧M≤5:=by
   have:=hv.2 i;rw[List.getD_eq_getElem?_getD,List.getElem?_eq_getElem hi]at this;rw[← he];exact this
  have hn:(List.range (Int.toNat (IntKind.wrap .i64 (M+1)))).length=M.toNat+1:=by
   rw[wrap64 (by omega) (by omega),List.length_range];omega
  obtain⟨o,a1,a2,a3,a4⟩:=DX (c:=true) hf (by omega:l.length≤12) hL hv.1 h0 (List.range (Int.toNat (IntKind.wrap .i64 (M+1)))) 0 o0 g3.nt g3.ar
  have hstab:=a4.stable hst (fun r hr=>by
   obtain⟨q,hq,rfl⟩:=List.mem_map.1 hr;have hrr:rel6 q.qc.qb:=XF (hL q hq).head.1;have:=m3 q.qc.qb.toNat (by have:=hrr.1;have:=hrr.2;omega);rw[hn];unfold levV;simp only[toR,toA]
   omega)
  refine⟨v,o,hv,s2,hst,?_,a2,a3,?_⟩
  ·unfold Xy;rw[s2];simp only[Option.bind_some,Bool.not_true,cond_false];rw[g1];simp only[Option.bind_some];rw[m1];simp only[Option.bind_some];rw[ZJ (qN (by rw[hn];omega))];exact a1
  ·rw[show (fun g=>g∈facts.map toF)=memO o0 from funext fun g=>propext (hg g).symm];exact hstab
 ·right
  refine⟨s2,?_⟩;unfold Xy;rw[s2];rfl
end Go.AM
namespace Go.Proofs
open Go.RowKit Go.AM
open Go.ChangeMaps (setBlock)
end Go.Proofs
namespace Go.AM
open Go.Proofs
def Hw (v43:(List rf3Rule)):Option (List rf3Rule) :=
 (some v43)
def Yv (N4:((List rf3Rule)→Option (List rf3Rule))) (v42:(List rf3Rule)):Option (List rf3Rule) :=
 (N4 v42)
def Qw (v31:(List Bool)) (K33:((List rf3Rule)→Option (List rf3Rule))):List rf3Rule→Nat→(List rf3Rule)→Option (List rf3Rule)
 | [],k4,v35=>(K33 v35)
 | x4::r4,k4,v35=>(chk (decide ((0:Int)≤x4.qc.qb∧x4.qc.qb<((6:Nat):Int)∧0<1)) ((v31[(0+Int.toNat x4.qc.qb * 1)]?).bind fun e40=>(bif e40 then (chk (capOk 56 ((v35++[x4])).length) ((Yv (Qw v31 K33 r4 (k4+1))) (v35++[x4]))) else ((Yv (Qw v31 K33 r4 (k4+1))) v35))))
def YT (a1:(List rf3Rule)) (v31:(List Bool)):Option (List rf3Rule) :=
 (chk (lenOk a1) (Qw v31 (Hw) a1 0 ([]:(List rf3Rule))))
def Vb (N1:((List Bool)→Option (List rf3Rule))) (v30:(List Bool)):Option (List rf3Rule) :=
 (N1 v30)
def Va (N2:((List Bool)→Option (List rf3Rule))) (v29:(List Bool)):Option (List rf3Rule) :=
 (N2 v29)
def Yw (N3:((List Bool)→Option (List rf3Rule))) (v28:(List Bool)):Option (List rf3Rule) :=
 (N3 v28)
def Qd (x2:rf3Rule) (K14:((List Bool)→Option (List rf3Rule))):List rf3Lit→Nat→(List Bool)→Option (List rf3Rule)
 | [],k3,v17=>(K14 v17)
 | x3::r3,k3,v17=>(chk (decide ((0:Int)≤x3.qe.qb∧x3.qe.qb<((6:Nat):Int)∧0<1)) ((v17[(0+Int.toNat x3.qe.qb * 1)]?).bind fun e21=>(bif e21 then (chk (decide ((0:Int)≤x3.qe.qb∧x3.qe.qb<((6:Nat):Int)∧0<1)) (chk (decide ((0+Int.toNat x3.qe.qb * 1)<v17.length)) ((Yw (Qd x2 K14 r3 (k3+1))) (v17.set (0+Int.toNat x3.qe.qb * 1) true)))) else (chk (decide ((0:Int)≤x2.qc.qb∧x2.qc.qb<((6:Nat):Int)∧0<1)) ((v17[(0+Int.toNat x2.qc.qb * 1)]?).bind fun e25=>(chk (decide ((0:Int)≤x3.qe.qb∧x3.qe.qb<((6:Nat):Int)∧0<1)) (chk (decide ((0+Int.toNat x3.qe.qb * 1)<v17.length)) ((Yw (Qd x2 K14 r3 (k3+1))) (v17.set (0+Int.toNat x3.qe.qb * 1) e25)))))))))
def Qx (K11:((List Bool)→Option (List rf3Rule))):List rf3Rule→Nat→(List Bool)→Option (List rf3Rule)
 | [],k2,v13=>(K11 v13)
 | x2::r2,k2,v13=>(chk (lenOk x2.qd) (Qd x2 (Va (Qx K11 r2 (k2+1))) x2.qd 0 v13))
def Qy (a1:(List rf3Rule)) (K8:((List Bool)→Option (List rf3Rule))):List Nat→Nat→(List Bool)→Option (List rf3Rule)
 | [],k1,v10=>(K8 v10)
 | x1::r1,k1,v10=>(chk (lenOk a1) (Qx (Vb (Qy a1 K8 r1 (k1+1))) a1 0 v10))
def Hx (a1:(List rf3Rule)) (a2:Int):Option (List rf3Rule) :=
 (chk (decide ((0:Int)≤a2∧a2<((6:Nat):Int)∧0<1)) (chk (decide ((0+Int.toNat a2 * 1)<(List.replicate 6 false).length)) (chk (lenOk (List.range (Int.toNat 6))) (Qy a1 (YT a1) (List.range (Int.toNat 6)) 0 ((List.replicate 6 false).set (0+Int.toNat a2 * 1) true)))))
end Go.AM
namespace Go.AM
open Go.Proofs
end Go.AM
namespace Go.AM
open Go.Proofs
end Go.AM
namespace Go.AM
open Go.Proofs
end Go.AM
namespace Go.AM
open Go.Proofs
end Go.AM
namespace Go.AM
open Go.Proofs Go.Sort
open Classical
theorem qak {S:List Bool} {k:Nat} (hk:k<S.length) (b:Bool) (i:Nat):(S.set k b).getD i false=if i=k then b else S.getD i false:=by
 rw[List.getD_eq_getElem?_getD,List.getD_eq_getElem?_getD,List.getElem?_set]
 by_cases h:k=i
 ·subst h;rw[if_pos rfl,if_pos hk,if_pos rfl];rfl
 ·rw[if_neg h,if_neg (Ne.symm h)]
structure FoundP (L:List ruRule) (G:rufact→Prop) (yes open':rufact→Prop):Prop where
 ex:∃ could,LeastR L yes G could∧LeastR L could G yes∧∀ g,open' g↔¬ yes g∧could g
end Go.AM
namespace Go.AM
open Go.Proofs Go.Sort
open Classical
theorem qev {g:rufact}:¬ setB (List.replicate 252 false) g:=fun h=>by
 have:=h.2;rw[List.getD_eq_getElem?_getD,List.getElem?_replicate]at this
 split at this <;> simp at this
theorem StR.empty {ar:Int→Nat}:StR ar [] (List.replicate 252 false):=⟨NT.empty,fun g hg=>by simp at hg,by simp,fun g=>⟨fun h=>by simp at h,fun h=>absurd h qev⟩⟩
theorem qgb {l:List rf3Rule} {facts:List apiFact} (hv:VR l facts):(facts.take 26).map cvF=facts:=qcj (by have:=hv.2.1;omega) fun f hf=>by have:=(hv.2.2.1 f hf).2.1.2;omega
theorem ZV {l:List rf3Rule} {facts:List apiFact} (hv:VR l facts):(l.take 12).map cvR=l.map toR:=qbG hv.1 hv.2.2.2.1
theorem qcP {out:List (rufact×Bool)} (ho:∀ g,g∈out.map Prod.fst→okU1 g):∀ f,f∈sortF (apis out)→f.qa.length≤1000:=fun f hf=>by
 obtain⟨g,hg,rfl⟩:=qgQ.1 hf;have:=(qcC (ho g hg)).1.2.1.2;omega
end Go.AM
namespace Go.AM
def V (a:Int):BitVec 64:=BitVec.ofInt 64 a
def wf64 (a:Int):Prop := -9223372036854775808≤a∧a<9223372036854775808
theorem qdR (a:Int):IntKind.wrap .i64 a=a.bmod (2 ^ 64):=by
 simp[IntKind.wrap,IntKind.signed,IntKind.bits,Int.bmod]
 omega
theorem DJ (a:Int):wf64 (IntKind.wrap .i64 a):=by
 rw[qdR];unfold wf64;have h1:=Int.le_bmod (x:=a) (m:=2 ^ 64) (by decide);have h2:=Int.bmod_lt (x:=a) (m:=2 ^ 64) (by decide);omega
theorem qgq (a:Int):V (IntKind.wrap .i64 a)=V a:=by
 rw[qdR];unfold V;apply BitVec.eq_of_toInt_eq
 simp[BitVec.toInt_ofInt]
theorem qbs {a:Int} (h:wf64 a):(V a).toInt=a:=by
 unfold V;rw[BitVec.toInt_ofInt];unfold wf64 at h;rw[Int.bmod_eq_of_le] <;> omega
theorem qgs {a b:Int} (ha:wf64 a) (hb:wf64 b) (h:V a=V b):a=b:=by
 rw[← qbs ha,← qbs hb,h]
theorem qeo (x:BitVec 64):V (x.toNat:Int)=x:=by
 unfold V;simp
theorem V_or (a b:Int):V (iOr .i64 a b)=V a ||| V b:=by
 unfold iOr;rw[qgq];exact qeo _
theorem qgt (a b:Int):V (iAnd .i64 a b)=V a &&& V b:=by
 unfold iAnd;rw[qgq];exact qeo _
theorem qgR (a b:Int):wf64 (iOr .i64 a b):=DJ _
theorem qcI (a b:Int):wf64 (iAnd .i64 a b):=DJ _
def Bits (a b:Int):Prop:=∀ i:Nat,(V a).getLsbD i=true→(V b).getLsbD i=true
theorem Bits.refl (a:Int):Bits a a:=fun _ h=>h
theorem Bits.trans {a b c:Int} (h:Bits a b) (k:Bits b c):Bits a c:=fun i x=>k i (h i x)
end Go.AM
namespace Go.AM
open Go.Proofs Go.Sort
open Classical
def bitS (s:Int) (k:Nat):Bool:=(iAnd .i64 (iShr .i64 s (k:Int)) 1) == 1
theorem qbn {s:Int} {k:Nat} (hs:wf64 s) (hk:k<64):bitS s k=(V s).getLsbD k:=by
 unfold bitS iShr;have hb:IntKind.bits .i64=64:=rfl;rw[Int.toNat_natCast,hb,Nat.min_eq_left (by omega)]
 have h1:∀ x:Int,((iAnd .i64 x 1) == 1)=(V x).getLsbD 0:=fun x=>by
  rw[Bool.eq_iff_iff,beq_iff_eq]
  have h2:iAnd .i64 x 1=1↔V x &&& V 1=V 1:=by
   rw[← qgt];exact⟨fun h=>by rw[h],fun h=>qgs (qcI _ _) (by unfold wf64;omega) h⟩
  rw[h2]
  constructor
  ·intro h;have:=congrArg (fun b=>BitVec.getLsbD b 0) h;simp only[BitVec.getLsbD_and]at this
   have e:(V 1).getLsbD 0=true:=by decide
   rw[e,Bool.and_true]at this;exact this
  ·intro h
   refine BitVec.eq_of_getLsbD_eq fun i hi=>?_
   rw[BitVec.getLsbD_and]
   by_cases h0:i=0
   ·subst h0;rw[h];rfl
   ·have e:(V 1).getLsbD i=false:=by
     show (1#64).getLsbD i=false;rw[BitVec.getLsbD_one]
     simp[h0]
    rw[e,Bool.and_false]
 rw[h1]
 have e2:s.fdiv (2 ^ k)=s >>> k:=by
  rw[Int.shiftRight_eq_div_pow,Int.fdiv_eq_ediv_of_nonneg _ (by exact_mod_cast Nat.zero_le _)]
  norm_cast
 have e3:V (s >>> k)=(V s).sshiftRight k:=by
  show _=BitVec.ofInt 64 ((V s).toInt >>> k);rw[qbs hs];rfl
 rw[e2,e3,BitVec.getLsbD_sshiftRight]
 simp[hk]
def selF {α:Type} (s:Int):Nat→List α→List α
 | _,[]=>[]
 | k,x::r=>bif bitS s k then x::selF s (k+1) r else selF s (k+1) r
theorem DP {α:Type} {s t:Int} {n:Nat} (h:∀ i,i<n→bitS s i=true→bitS t i=true):∀ (l:List α) (k:Nat),k+l.length≤n→∀ x,x∈selF s k l→x∈selF t k l
 | [],k,_,x,hx=>hx
 | y::r,k,hn,x,hx=>by
  rw[List.length_cons]at hn;have ih:=DP h r (k+1) (by omega) x;unfold selF at hx ⊢
  cases hs:bitS s k with
  | true =>
   rw[hs,cond_true]at hx;rw[h k (by omega) hs,cond_true]
   rcases List.mem_cons.1 hx with h1 | h1
   ·exact h1 ▸ List.mem_cons_self ..
   ·exact List.mem_cons_of_mem _ (ih h1)
  | false =>
   rw[hs,cond_false]at hx
   cases bitS t k with
   | true=>exact List.mem_cons_of_mem _ (ih hx)
   | false=>exact ih hx
theorem mset_len (out:List (rufact×Bool)) (f:rufact):(mset qp f true out).length≤out.length+1:=by
 induction out with
 | nil=>simp[mset]
 | cons p r ih =>
  unfold mset
  cases qp p.1 f with
  | true=>simp
  | false=>simpa using ih
def EnoughP (l:List rf3Rule) (facts:List apiFact) (f:apiFact) (s:Int):Prop:=∃ X,LeastR (l.map toR) (fun _=>False) (fun g=>g∈(selF s 0 facts).map toF) X∧X (toF f)
theorem EnoughP.mono {l:List rf3Rule} {facts:List apiFact} {f:apiFact} {s t:Int} (h:∀ i,i<facts.length→bitS s i=true→bitS t i=true) {fuel:Nat} (hf:300≤fuel) (hv:VR l facts) (hg:groundP f) (hs:EnoughP l facts f s) (ht:∃ Y,LeastR (l.map toR) (fun _=>False) (fun g=>g∈(selF t 0 facts).map toF) Y):EnoughP l facts f t:=by
 obtain⟨X,hX,hx⟩:=hs;obtain⟨Y,hY⟩:=ht;refine⟨Y,hY,hX.least Y (fun g hg=>hY.sub g ?_) hY.closed _ hx⟩;obtain⟨z,hz,rfl⟩:=List.mem_map.1 hg;exact List.mem_map.2 ⟨z,DP h facts 0 (by omega) z hz,rfl⟩
end Go.AM
namespace Go.AM
open Go.Proofs Go.Sort
open Classical
theorem pow10 {n:Nat} (h:n≤10):2 ^ n≤1024:=by
 have:(2:Nat) ^ n≤2 ^ 10:=Nat.pow_le_pow_right (by omega) h
 have e:(2:Nat) ^ 10=1024:=by decide
 omega
theorem qgD {n:Nat} (h:n≤10):iShl .i64 1 (n:Int)=((2 ^ n:Nat):Int):=by
 have h1:=pow10 h;unfold iShl;have hb:IntKind.bits .i64=64:=rfl;rw[Int.toNat_natCast,hb,Nat.min_eq_left (by omega),Int.one_mul]
 have e:(2:Int) ^ n=((2 ^ n:Nat):Int):=by norm_cast
 rw[e];generalize 2 ^ n=m at h1;exact wrap64 (by omega) (by omega)
end Go.AM
