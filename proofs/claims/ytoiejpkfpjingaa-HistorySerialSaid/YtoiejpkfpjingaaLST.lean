import Derived.Test.YtoiejpkfpjingaaSET
import Derived.Test.YtoiejpkfpjingaaASimK
import Derived.Test.YtoiejpkfpjingaaChecked
import Derived.Test.YtoiejpkfpjingaaHAT
import Derived.Test.YtoiejpkfpjingaaELkA
import Derived.Test.YtoiejpkfpjingaaHDT
set_option linter.all false
set_option maxRecDepth 100000
open Option renaming bind_some→A0, map→A6
open List renaming range→A1, map_cons→A5, mem_cons→A7, map_nil→A9, contains_iff_mem→B7, take_of_length_le→B9
open Int renaming toNat→A2
open Nat renaming blt→A3, le_refl→A4
open Bool renaming and_eq_true→A8, beq_comm→B5, not_true→B6
namespace Go.AM
open Go.Proofs
def qA (v68:(List (qj×Bool))) (v69:(List (qj×Bool))):Option ((List (qj×Bool))×(List (qj×Bool))) :=
 (some (v68,v69))
def qI (N1:((List (qj×Bool))→(List (qj×Bool))→Option ((List (qj×Bool))×(List (qj×Bool))))) (v66:(List (qj×Bool))) (v67:(List (qj×Bool))):Option ((List (qj×Bool))×(List (qj×Bool))) :=
 (N1 v66 v67)
def qT (N2:((List (qj×Bool))→(List (qj×Bool))→Option ((List (qj×Bool))×(List (qj×Bool))))) (v64:(List (qj×Bool))) (v65:(List (qj×Bool))):Option ((List (qj×Bool))×(List (qj×Bool))) :=
 (N2 v64 v65)
def jc (N3:((List (qj×Bool))→(List (qj×Bool))→Option ((List (qj×Bool))×(List (qj×Bool))))) (v62:(List (qj×Bool))) (v63:(List (qj×Bool))):Option ((List (qj×Bool))×(List (qj×Bool))) :=
 (N3 v62 v63)
def jb (x1:Int) (x2:Int) (v46:(List (qj×Bool))) (v47:(List (qj×Bool))) (K18:((List (qj×Bool))→(List (qj×Bool))→Option ((List (qj×Bool))×(List (qj×Bool))))) (v59:Bool):Option ((List (qj×Bool))×(List (qj×Bool))) :=
 (bif v59 then (chk (wfI .i64 x1 && wfI .i64 x2) (chk (A3 v47.length 1000000000) (K18 v46 (mset qv (qj.mk x1 x2) true v47)))) else (K18 v46 v47))
def qX (a1:je) (x1:Int) (x2:Int) (k3:Nat) (K18:((List (qj×Bool))→(List (qj×Bool))→Option ((List (qj×Bool))×(List (qj×Bool))))) (v46:(List (qj×Bool))) (v47:(List (qj×Bool))):Option ((List (qj×Bool))×(List (qj×Bool))) :=
 ((jG a1 x1 (k3:Int)).bind fun w49=>(bif w49 then ((jG a1 x2 (k3:Int)).bind fun w50=>(bif w50 then (chk (wfI .i64 x1) (chk (wfI .i64 x2) (bif (decide ((mget keq1 0 x1 a1.qH)<(mget keq1 0 x2 a1.qH))) then ((jb x1 x2 v46 v47 K18) true) else ((Ju a1 x2 (k3:Int)).bind fun w53=>(bif w53 then ((Jz a1 x2 (k3:Int)).bind fun w54=>((jb x1 x2 v46 v47 K18) (w54 == x1))) else ((jb x1 x2 v46 v47 K18) false)))))) else ((Ju a1 x2 (k3:Int)).bind fun w55=>(bif w55 then ((Jz a1 x2 (k3:Int)).bind fun w56=>((jb x1 x2 v46 v47 K18) (w56 == x1))) else ((jb x1 x2 v46 v47 K18) false))))) else ((Ju a1 x2 (k3:Int)).bind fun w57=>(bif w57 then ((Jz a1 x2 (k3:Int)).bind fun w58=>((jb x1 x2 v46 v47 K18) (w58 == x1))) else ((jb x1 x2 v46 v47 K18) false)))))
def jO (x1:Int) (x2:Int) (v16:(List (qj×Bool))) (v17:(List (qj×Bool))) (K23:((List (qj×Bool))→(List (qj×Bool))→Option ((List (qj×Bool))×(List (qj×Bool))))) (v29:Bool):Option ((List (qj×Bool))×(List (qj×Bool))) :=
 (bif v29 then (chk (wfI .i64 x1 && wfI .i64 x2) (chk (A3 v16.length 1000000000) (chk (wfI .i64 x1 && wfI .i64 x2) (chk (A3 v17.length 1000000000) (K23 (mset qv (qj.mk x1 x2) true v16) (mset qv (qj.mk x1 x2) true v17)))))) else (K23 v16 v17))
def qt (a1:je) (x1:Int) (x2:Int) (K13:((List (qj×Bool))→(List (qj×Bool))→Option ((List (qj×Bool))×(List (qj×Bool))))):List Nat→Nat→(List (qj×Bool))→(List (qj×Bool))→Option ((List (qj×Bool))×(List (qj×Bool)))
 | [],k3,v16,v17=>(K13 v16 v17)
 | x3::r3,k3,v16,v17=>(bif (x1 == x2) then ((jc (qt a1 x1 x2 K13 r3 (k3+1))) v16 v17) else ((Ju a1 x1 (k3:Int)).bind fun w25=>(bif w25 then ((jG a1 x2 (k3:Int)).bind fun w26=>(bif w26 then (chk (wfI .i64 x2) (chk (wfI .i64 x1) ((jO x1 x2 v16 v17 (qX a1 x1 x2 k3 (jc (qt a1 x1 x2 K13 r3 (k3+1))))) (decide ((mget keq1 0 x2 a1.qH) > (mget keq1 0 x1 a1.qy)))))) else ((jO x1 x2 v16 v17 (qX a1 x1 x2 k3 (jc (qt a1 x1 x2 K13 r3 (k3+1))))) false))) else ((jO x1 x2 v16 v17 (qX a1 x1 x2 k3 (jc (qt a1 x1 x2 K13 r3 (k3+1))))) false))))
def qF (a1:je) (x1:Int) (K8:((List (qj×Bool))→(List (qj×Bool))→Option ((List (qj×Bool))×(List (qj×Bool))))):List Int→Nat→(List (qj×Bool))→(List (qj×Bool))→Option ((List (qj×Bool))×(List (qj×Bool)))
 | [],k2,v11,v12=>(K8 v11 v12)
 | x2::r2,k2,v11,v12=>(chk (lenOk (A1 (A2 6))) (qt a1 x1 x2 (qT (qF a1 x1 K8 r2 (k2+1))) (A1 (A2 6)) 0 v11 v12))
def qu (a1:je) (K4:((List (qj×Bool))→(List (qj×Bool))→Option ((List (qj×Bool))×(List (qj×Bool))))):List Int→Nat→(List (qj×Bool))→(List (qj×Bool))→Option ((List (qj×Bool))×(List (qj×Bool)))
 | [],k1,v6,v7=>(K4 v6 v7)
 | x1::r1,k1,v6,v7=>(chk (lenOk a1.qp) (qF a1 x1 (qI (qu a1 K4 r1 (k1+1))) a1.qp 0 v6 v7))
def QS (a1:je):Option ((List (qj×Bool))×(List (qj×Bool))) :=
 (chk (lenOk a1.qp) (qu a1 (qA) a1.qp 0 ([]:(List (qj×Bool))) ([]:(List (qj×Bool)))))
theorem VK (a1:je) (r:((List (qj×Bool))×(List (qj×Bool)))) (h:QS a1=some r):Run Try.prog (.call 79 [.agg [l44 none a1.f_h,l3 none a1.qp,mpE (AV.int .i64) (AV.int .i64) a1.qy,mpE (AV.int .i64) (AV.int .i64) a1.qH]] (.tup [mpE qn AV.bool r.1,mpE qn AV.bool r.2])):=by
 refine cW Try.func79 rfl (env0:=[(0,.agg [l44 none a1.f_h,l3 none a1.qp,mpE (AV.int .i64) (AV.int .i64) a1.qy,mpE (AV.int .i64) (AV.int .i64) a1.qH])]) ?_;unfold QS at h;refine W.seq ?_;let z0:=fun t=>EN ((1,.ptr (.agg [l44 none a1.f_h,l3 none a1.qp,mpE (AV.int .i64) (AV.int .i64) a1.qy,mpE (AV.int .i64) (AV.int .i64) a1.qH]))::t);refine W.rT [1] [1] (e2:=z0 []) ?_;refine W.seq ?_;let y0:Env:=[(1000010,hobE qn AV.bool ([]:(List (qj×Bool)))),(1000011,hobE qn AV.bool ([]:(List (qj×Bool))))];let z1:=fun t=>z0 ((2,.mb 0 1000010)::(3,.mb 0 1000011)::t);refine W.rt (e2:=z1 y0) ?_;refine W.seq ?_;let z2:=fun t=>EN ((2,.mb 0 1000010)::(3,.mb 0 1000011)::t);refine W.join (σ:=((List (qj×Bool))×(List (qj×Bool)))) (fun s=>z2 [(1000010,hobE qn AV.bool s.1),(1000011,hobE qn AV.bool s.2)]) (fun s=>(qA) s.1 s.2=some r) (fun s h=>?_) (fun hK4=>?_)
 ·obtain⟨v68,v69⟩:=s;have h:(qA) v68 v69=some r:=h;unfold qA at h;refine W.seq<|W.rt (e2:=z2 [(1000010,hobE qn AV.bool v68),(1000011,hobE qn AV.bool v69)]) ?_;let z3:=fun t=>EN ((2,mpE qn AV.bool v68)::t);refine W.mv [.frz 1000010] (env':=z3 [(3,.mb 0 1000011),(1000011,hobE qn AV.bool v69)]) (by kernel_rfl) ?_;let z4:=fun t=>z3 ((3,mpE qn AV.bool v69)::t);refine W.mv [.frz 1000011] (env':=z4 []) (by kernel_rfl)<|W.wk (e:=z4 []) ?_;cases h;exact W.rr
 refine W.sr<|WO.pq 2 (jM (.int .i64) a1.qp) (e1:=z1 ((12,.ptr (l3 none a1.qp))::(13,l3 none a1.qp)::(14,I6 (a1.qp.length:Int))::y0)) ?_;let z5:=fun t=>z1 ((13,l3 none a1.qp)::(14,I6 (a1.qp.length:Int))::t);refine WO.fn (e2:=z5 ((15,.int .i64 0)::y0)) ?_;refine W.block ?_;obtain⟨hl1,h⟩:=qq h;refine W.wk (e:=z5 ((15,I6 ((0:Nat):Int))::y0))<|W.range (σ:=((List (qj×Bool))×(List (qj×Bool)))) a1.qp (fun k1 s=>z5 [(15,I6 (k1:Int)),(1000010,hobE qn AV.bool s.1),(1000011,hobE qn AV.bool s.2)]) (fun r0 k0 s=>qu a1 (qA) r0 k0 s.1 s.2=some r) (fun s h=>?_) (fun x1 r1 k1 s hx1 hk1 h hN1=>?_) (([]:(List (qj×Bool))),([]:(List (qj×Bool)))) h
 ·obtain⟨v6,v7⟩:=s;have h:qu a1 (qA) [] (a1.qp).length v6 v7=some r:=h;rw[qu.eq_1]at h;refine W.sr ?_;let y1:Env:=[(2,.mb 0 1000010),(3,.mb 0 1000011),(13,l3 none a1.qp),(14,I6 (a1.qp.length:Int)),(15,I6 ((a1.qp).length:Int)),(16,.bool false),(1000010,hobE qn AV.bool v6),(1000011,hobE qn AV.bool v7)];refine WO.pq 0 (jB (jj (l:=a1.qp))) (e1:=z0 y1)<|WO.fn (e2:=z0 y1) ?_;refine W.seq<|W.cF<|W.exit<|W.wk (e:=z2 [(1000010,hobE qn AV.bool v6),(1000011,hobE qn AV.bool v7)]) ?_;exact hK4 (v6,v7) h
 ·obtain⟨v6,v7⟩:=s;have h:qu a1 (qA) (x1::r1) k1 v6 v7=some r:=h;rw[qu.eq_2]at h;refine W.sr ?_;let y2:Env:=[(1000010,hobE qn AV.bool v6),(1000011,hobE qn AV.bool v7)];let z6:=fun t=>z5 ((15,I6 (k1:Int))::t);refine WO.pq 0 (jB (jD hk1)) (e1:=z6 ((16,.bool true)::y2))<|WO.fn (e2:=z6 ((16,.bool true)::y2)) ?_;refine W.seq<|W.cT<|W.skip ?_;let y3:Env:=(13,l3 none a1.qp)::(14,I6 (a1.qp.length:Int))::(15,I6 (k1:Int))::y2;refine W.wk (e:=z1 y3)<|W.seq<|W.join (σ:=((List (qj×Bool))×(List (qj×Bool)))) (fun s=>z6 [(1000010,hobE qn AV.bool s.1),(1000011,hobE qn AV.bool s.2)]) (fun s=>(qI (qu a1 (qA) r1 (k1+1))) s.1 s.2=some r) (fun s h=>?_) (fun hK8=>?_)
  ·obtain⟨v66,v67⟩:=s;have h:(qI (qu a1 (qA) r1 (k1+1))) v66 v67=some r:=h;unfold qI at h;refine W.rg ?_;let y4:Env:=[(1000010,hobE qn AV.bool v66),(1000011,hobE qn AV.bool v67)];refine WO.pq 0 (jI (qS hl1 hk1)) (e1:=z6 ((99,I6 ((k1+1:Nat):Int))::y4))<|WO.fn (e2:=z5 ((15,I6 ((k1+1:Nat):Int))::y4)) ?_;exact hN1 (v66,v67) h
  refine W.block<|W.sr<|WO.pq 0 (jE (f:=(AV.int .i64)) hx1) (e1:=z6 ((17,.ptr (I6 x1))::y2)) ?_;let z7:=fun t=>z1 ((5,I6 x1)::t);refine WO.fn (e2:=z7 y3) ?_;refine W.sr ?_;let z8:=fun t=>z7 ((13,l3 none a1.qp)::(14,I6 (a1.qp.length:Int))::(15,I6 (k1:Int))::t);refine WO.pq 2 (jM (.int .i64) a1.qp) (e1:=z8 ((19,.ptr (l3 none a1.qp))::(20,l3 none a1.qp)::(21,I6 (a1.qp.length:Int))::y2)) ?_;let z9:=fun t=>z8 ((20,l3 none a1.qp)::(21,I6 (a1.qp.length:Int))::t);refine WO.fn (e2:=z9 ((22,.int .i64 0)::y2)) ?_;refine W.block ?_;obtain⟨hl2,h⟩:=qq h;refine W.wk (e:=z9 ((22,I6 ((0:Nat):Int))::y2))<|W.range (σ:=((List (qj×Bool))×(List (qj×Bool)))) a1.qp (fun k2 s=>z9 [(22,I6 (k2:Int)),(1000010,hobE qn AV.bool s.1),(1000011,hobE qn AV.bool s.2)]) (fun r0 k0 s=>qF a1 x1 (qI (qu a1 (qA) r1 (k1+1))) r0 k0 s.1 s.2=some r) (fun s h=>?_) (fun x2 r2 k2 s hx2 hk2 h hN2=>?_) (v6,v7) h
  ·obtain⟨v11,v12⟩:=s;have h:qF a1 x1 (qI (qu a1 (qA) r1 (k1+1))) [] (a1.qp).length v11 v12=some r:=h;rw[qF.eq_1]at h;refine W.sr ?_;let y5:Env:=[(2,.mb 0 1000010),(3,.mb 0 1000011),(5,I6 x1),(13,l3 none a1.qp),(14,I6 (a1.qp.length:Int)),(15,I6 (k1:Int)),(20,l3 none a1.qp),(21,I6 (a1.qp.length:Int)),(22,I6 ((a1.qp).length:Int)),(23,.bool false),(1000010,hobE qn AV.bool v11),(1000011,hobE qn AV.bool v12)];refine WO.pq 0 (jB (jj (l:=a1.qp))) (e1:=z0 y5)<|WO.fn (e2:=z0 y5) ?_;refine W.seq<|W.cF<|W.exit<|W.wk (e:=z6 [(1000010,hobE qn AV.bool v11),(1000011,hobE qn AV.bool v12)]) ?_;exact hK8 (v11,v12) h
  ·obtain⟨v11,v12⟩:=s;have h:qF a1 x1 (qI (qu a1 (qA) r1 (k1+1))) (x2::r2) k2 v11 v12=some r:=h;rw[qF.eq_2]at h;refine W.sr ?_;let y6:Env:=[(1000010,hobE qn AV.bool v11),(1000011,hobE qn AV.bool v12)];let z10:=fun t=>z9 ((22,I6 (k2:Int))::t);refine WO.pq 0 (jB (jD hk2)) (e1:=z10 ((23,.bool true)::y6))<|WO.fn (e2:=z10 ((23,.bool true)::y6)) ?_;refine W.seq<|W.cT<|W.skip ?_;let y7:Env:=(13,l3 none a1.qp)::(14,I6 (a1.qp.length:Int))::(15,I6 (k1:Int))::(20,l3 none a1.qp)::(21,I6 (a1.qp.length:Int))::(22,I6 (k2:Int))::y6;refine W.wk (e:=z7 y7)<|W.seq<|W.join (σ:=((List (qj×Bool))×(List (qj×Bool)))) (fun s=>z10 [(1000010,hobE qn AV.bool s.1),(1000011,hobE qn AV.bool s.2)]) (fun s=>(qT (qF a1 x1 (qI (qu a1 (qA) r1 (k1+1))) r2 (k2+1))) s.1 s.2=some r) (fun s h=>?_) (fun hK13=>?_)
   ·obtain⟨v64,v65⟩:=s;have h:(qT (qF a1 x1 (qI (qu a1 (qA) r1 (k1+1))) r2 (k2+1))) v64 v65=some r:=h;unfold qT at h;refine W.rg ?_;let y8:Env:=[(1000010,hobE qn AV.bool v64),(1000011,hobE qn AV.bool v65)];refine WO.pq 0 (jI (qS hl2 hk2)) (e1:=z10 ((98,I6 ((k2+1:Nat):Int))::y8))<|WO.fn (e2:=z9 ((22,I6 ((k2+1:Nat):Int))::y8)) ?_;exact hN2 (v64,v65) h
   refine W.block<|W.sr<|WO.pq 0 (jE (f:=(AV.int .i64)) hx2) (e1:=z10 ((24,.ptr (I6 x2))::y6)) ?_;let z11:=fun t=>z7 ((7,I6 x2)::t);refine WO.fn (e2:=z11 y7) ?_;refine W.seq ?_;let z12:=fun t=>z11 ((13,l3 none a1.qp)::(14,I6 (a1.qp.length:Int))::(15,I6 (k1:Int))::(20,l3 none a1.qp)::(21,I6 (a1.qp.length:Int))::(22,I6 (k2:Int))::t);refine W.rt (e2:=z12 ((26,.int .i64 0)::y6)) ?_;refine W.block ?_;obtain⟨hl3,h⟩:=qq h;refine W.wk (e:=z12 ((26,I6 ((0:Nat):Int))::y6))<|W.range (σ:=((List (qj×Bool))×(List (qj×Bool)))) (A1 (A2 6)) (fun k3 s=>z12 [(26,I6 (k3:Int)),(1000010,hobE qn AV.bool s.1),(1000011,hobE qn AV.bool s.2)]) (fun r0 k0 s=>qt a1 x1 x2 (qT (qF a1 x1 (qI (qu a1 (qA) r1 (k1+1))) r2 (k2+1))) r0 k0 s.1 s.2=some r) (fun s h=>?_) (fun x3 r3 k3 s hx3 hk3 h hN3=>?_) (v11,v12) h
   ·obtain⟨v16,v17⟩:=s;have h:qt a1 x1 x2 (qT (qF a1 x1 (qI (qu a1 (qA) r1 (k1+1))) r2 (k2+1))) [] ((A1 (A2 6))).length v16 v17=some r:=h;rw[qt.eq_1]at h;refine W.sr ?_;let y9:Env:=[(2,.mb 0 1000010),(3,.mb 0 1000011),(5,I6 x1),(7,I6 x2),(13,l3 none a1.qp),(14,I6 (a1.qp.length:Int)),(15,I6 (k1:Int)),(20,l3 none a1.qp),(21,I6 (a1.qp.length:Int)),(22,I6 (k2:Int)),(26,I6 (((A1 (A2 6))).length:Int)),(27,.bool false),(1000010,hobE qn AV.bool v16),(1000011,hobE qn AV.bool v17)];refine WO.pq 0 (jB (qbh (n:=6))) (e1:=z0 y9)<|WO.fn (e2:=z0 y9) ?_;refine W.seq<|W.cF<|W.exit<|W.wk (e:=z10 [(1000010,hobE qn AV.bool v16),(1000011,hobE qn AV.bool v17)]) ?_;exact hK13 (v16,v17) h
   ·obtain⟨v16,v17⟩:=s;have h:qt a1 x1 x2 (qT (qF a1 x1 (qI (qu a1 (qA) r1 (k1+1))) r2 (k2+1))) (x3::r3) k3 v16 v17=some r:=h;rw[qt.eq_2]at h;refine W.sr ?_;let y10:Env:=[(1000010,hobE qn AV.bool v16),(1000011,hobE qn AV.bool v17)];let z13:=fun t=>z12 ((26,I6 (k3:Int))::t);refine WO.pq 0 (jB (qdl hk3)) (e1:=z13 ((27,.bool true)::y10))<|WO.fn (e2:=z13 ((27,.bool true)::y10)) ?_;refine W.seq<|W.cT<|W.skip ?_;let y11:Env:=(13,l3 none a1.qp)::(14,I6 (a1.qp.length:Int))::(15,I6 (k1:Int))::(20,l3 none a1.qp)::(21,I6 (a1.qp.length:Int))::(22,I6 (k2:Int))::(26,I6 (k3:Int))::y10;refine W.wk (e:=z11 y11)<|W.seq<|W.join (σ:=((List (qj×Bool))×(List (qj×Bool)))) (fun s=>z13 [(1000010,hobE qn AV.bool s.1),(1000011,hobE qn AV.bool s.2)]) (fun s=>(jc (qt a1 x1 x2 (qT (qF a1 x1 (qI (qu a1 (qA) r1 (k1+1))) r2 (k2+1))) r3 (k3+1))) s.1 s.2=some r) (fun s h=>?_) (fun hK18=>?_)
    ·obtain⟨v62,v63⟩:=s;have h:(jc (qt a1 x1 x2 (qT (qF a1 x1 (qI (qu a1 (qA) r1 (k1+1))) r2 (k2+1))) r3 (k3+1))) v62 v63=some r:=h;unfold jc at h;refine W.rg ?_;let y12:Env:=[(1000010,hobE qn AV.bool v62),(1000011,hobE qn AV.bool v63)];refine WO.pq 0 (jI (qS hl3 hk3)) (e1:=z13 ((97,I6 ((k3+1:Nat):Int))::y12))<|WO.fn (e2:=z12 ((26,I6 ((k3+1:Nat):Int))::y12)) ?_;exact hN3 (v62,v63) h
    refine W.block<|W.seq ?_;let z14:=fun t=>z11 ((8,I6 (k3:Int))::t);refine W.rt (e2:=z14 y11) ?_;refine W.seq ?_;let y13:Env:=(2,.mb 0 1000010)::(3,.mb 0 1000011)::(5,I6 x1)::(7,I6 x2)::(8,I6 (k3:Int))::(9,.ptr (.agg [I6 x1,I6 x2]))::y11;refine W.rT [1,2,3,5,7,8,9,13,14,15,20,21,22,26,1000010,1000011] [9] (e2:=z0 y13) ?_;refine W.seq<|W.seq ?_;let z15:=fun t=>z14 ((9,.ptr (.agg [I6 x1,I6 x2]))::(13,l3 none a1.qp)::(14,I6 (a1.qp.length:Int))::(15,I6 (k1:Int))::(20,l3 none a1.qp)::(21,I6 (a1.qp.length:Int))::(22,I6 (k2:Int))::(26,I6 (k3:Int))::t);refine W.rt (e2:=z15 ((34,.bool (x1 == x2))::y10)) ?_;refine W.ch (x1 == x2) h (fun h=>?_) (fun h=>?_)
    ·refine W.exit<|W.wk (e:=z11 y11) ?_;exact hK18 (v16,v17) h
    refine W.sw (e:=z0 y13) ?_;refine W.seq<|W.join (σ:=((List (qj×Bool))×(List (qj×Bool)))) (fun s=>z15 [(1000010,hobE qn AV.bool s.1),(1000011,hobE qn AV.bool s.2)]) (fun s=>(qX a1 x1 x2 k3 (jc (qt a1 x1 x2 (qT (qF a1 x1 (qI (qu a1 (qA) r1 (k1+1))) r2 (k2+1))) r3 (k3+1)))) s.1 s.2=some r) (fun s h=>?_) (fun hK23=>?_)
    ·obtain⟨v46,v47⟩:=s;have h:(qX a1 x1 x2 k3 (jc (qt a1 x1 x2 (qT (qF a1 x1 (qI (qu a1 (qA) r1 (k1+1))) r2 (k2+1))) r3 (k3+1)))) v46 v47=some r:=h;unfold qX at h;refine W.seq ?_;let y14:Env:=[(1000010,hobE qn AV.bool v46),(1000011,hobE qn AV.bool v47)];let z16:=fun t=>z11 ((9,.ptr (.agg [I6 x1,I6 x2]))::(13,l3 none a1.qp)::(14,I6 (a1.qp.length:Int))::(15,I6 (k1:Int))::(20,l3 none a1.qp)::(21,I6 (a1.qp.length:Int))::(22,I6 (k2:Int))::(26,I6 (k3:Int))::t);refine W.join (σ:=(Bool)) (fun s=>z16 ((94,.bool s)::y14)) (fun s=>(jb x1 x2 v46 v47 (jc (qt a1 x1 x2 (qT (qF a1 x1 (qI (qu a1 (qA) r1 (k1+1))) r2 (k2+1))) r3 (k3+1)))) s=some r) (fun v59 h=>?_) (fun hK48=>?_)
     ·unfold jb at h;refine W.ch v59 h (fun h=>?_) (fun h=>?_)
      ·refine W.rg ?_;obtain⟨hc60,h⟩:=qq h;obtain⟨hc61,h⟩:=qq h;let y15:Env:=[(1000010,hobE qn AV.bool v46),(1000011,hobE qn AV.bool (mset qv (qj.mk x1 x2) true v47))];refine WO.mapK (F:=qn) (G:=AV.bool) (eq:=qv) (l:=v47) (a:=(qj.mk x1 x2)) (b:=true) (id:=1000011) (kt:=73) 2 (YU hc60) hc61 (e1:=z16 ((94,.bool v59)::(95,.mb 0 1000011)::(96,.agg [I6 x1,I6 x2])::y15)) ?_ (fun x=>by kernel_rfl) (fun x y=>by kernel_rfl);refine WO.fn (e2:=z13 y15) ?_;exact hK18 (v46,(mset qv (qj.mk x1 x2) true v47)) h
      refine W.sw (e:=z13 y14) ?_;exact hK18 (v46,v47) h
     refine W.rg ?_;obtain⟨w49,hw49,h⟩:=ql h;let z17:=fun t=>z15 ((60,.agg [l44 none a1.f_h,l3 none a1.qp,mpE (AV.int .i64) (AV.int .i64) a1.qy,mpE (AV.int .i64) (AV.int .i64) a1.qH])::(61,I6 x1)::(62,I6 (k3:Int))::t);refine WO.ck 3 (F:=106) (l:=[.agg [l44 none a1.f_h,l3 none a1.qp,mpE (AV.int .i64) (AV.int .i64) a1.qy,mpE (AV.int .i64) (AV.int .i64) a1.qH],I6 x1,I6 (k3:Int)]) (C:=[]) (r:=.bool w49) (Jo a1 x1 (k3:Int) w49 hw49) (e1:=z17 ((63,.bool w49)::y14))<|WO.bh 1 (fun b=>z17 ((63,.bool b)::(64,.bool b)::y14)) w49 h (fun h=>?_) (fun h=>?_)
     ·obtain⟨w50,hw50,h⟩:=ql h;let z18:=fun t=>z17 ((63,.bool true)::(64,.bool true)::(65,.agg [l44 none a1.f_h,l3 none a1.qp,mpE (AV.int .i64) (AV.int .i64) a1.qy,mpE (AV.int .i64) (AV.int .i64) a1.qH])::(66,I6 x2)::(67,I6 (k3:Int))::t);refine WO.ck 3 (F:=106) (l:=[.agg [l44 none a1.f_h,l3 none a1.qp,mpE (AV.int .i64) (AV.int .i64) a1.qy,mpE (AV.int .i64) (AV.int .i64) a1.qH],I6 x2,I6 (k3:Int)]) (C:=[]) (r:=.bool w50) (Jo a1 x2 (k3:Int) w50 hw50) (e1:=z18 ((68,.bool w50)::y14))<|WO.bh 2 (fun b=>z18 ((68,.bool b)::(69,.bool b)::(70,.bool b)::y14)) w50 h (fun h=>?_) (fun h=>?_)
      ·obtain⟨hc51,h⟩:=qq h;let z19:=fun t=>z18 ((68,.bool true)::(69,.bool true)::(70,.bool true)::(71,.ptr (mpE (AV.int .i64) (AV.int .i64) a1.qH))::(72,mpE (AV.int .i64) (AV.int .i64) a1.qH)::(73,I6 x1)::(74,I6 (mget keq1 0 x1 a1.qH))::t);refine WO.pk 3 ((alookup Try.prog 85 [] (mpE (AV.int .i64) (AV.int .i64) a1.qH) (I6 x1)).map AV.strip) (congrArg (A6 AV.strip) (jK (F:=(AV.int .i64)) (G:=(AV.int .i64)) (eq:=keq1) (l:=a1.qH) (k:=x1) (z:=0) (kt:=3) (e:=3) (Js hc51) (by kernel_rfl) (fun x=>by kernel_rfl) (fun x y=>by kernel_rfl) (by kernel_rfl))) (e1:=z19 y14) ?_;obtain⟨hc52,h⟩:=qq h;let z20:=fun t=>z19 ((75,.ptr (mpE (AV.int .i64) (AV.int .i64) a1.qH))::(76,mpE (AV.int .i64) (AV.int .i64) a1.qH)::(77,I6 x2)::(78,I6 (mget keq1 0 x2 a1.qH))::t);refine WO.pk 3 ((alookup Try.prog 85 [] (mpE (AV.int .i64) (AV.int .i64) a1.qH) (I6 x2)).map AV.strip) (congrArg (A6 AV.strip) (jK (F:=(AV.int .i64)) (G:=(AV.int .i64)) (eq:=keq1) (l:=a1.qH) (k:=x2) (z:=0) (kt:=3) (e:=3) (Js hc52) (by kernel_rfl) (fun x=>by kernel_rfl) (fun x y=>by kernel_rfl) (by kernel_rfl))) (e1:=z20 y14) ?_;refine WO.bh 3 (fun b=>z20 ((79,.bool b)::(80,.bool b)::(81,.bool b)::y14)) (decide ((mget keq1 0 x1 a1.qH)<(mget keq1 0 x2 a1.qH))) h (fun h=>?_) (fun h=>?_)
       ·refine WO.fn (e2:=z16 ((94,.bool true)::y14)) ?_;exact hK48 true h
       obtain⟨w53,hw53,h⟩:=ql h;let z21:=fun t=>z20 ((79,.bool false)::(80,.bool false)::(81,.bool false)::(82,.agg [l44 none a1.f_h,l3 none a1.qp,mpE (AV.int .i64) (AV.int .i64) a1.qy,mpE (AV.int .i64) (AV.int .i64) a1.qH])::(83,I6 x2)::(84,I6 (k3:Int))::t);refine WO.ck 3 (F:=107) (l:=[.agg [l44 none a1.f_h,l3 none a1.qp,mpE (AV.int .i64) (AV.int .i64) a1.qy,mpE (AV.int .i64) (AV.int .i64) a1.qH],I6 x2,I6 (k3:Int)]) (C:=[]) (r:=.bool w53) (QH a1 x2 (k3:Int) w53 hw53) (e1:=z21 ((85,.bool w53)::y14))<|WO.bh 1 (fun b=>z21 ((85,.bool b)::(86,.bool b)::y14)) w53 h (fun h=>?_) (fun h=>?_)
       ·obtain⟨w54,hw54,h⟩:=ql h;refine WO.ck 3 (F:=108) (l:=[.agg [l44 none a1.f_h,l3 none a1.qp,mpE (AV.int .i64) (AV.int .i64) a1.qy,mpE (AV.int .i64) (AV.int .i64) a1.qH],I6 x2,I6 (k3:Int)]) (C:=[]) (r:=I6 w54) (Xk a1 x2 (k3:Int) w54 hw54) (e1:=z21 ((85,.bool true)::(86,.bool true)::(87,.agg [l44 none a1.f_h,l3 none a1.qp,mpE (AV.int .i64) (AV.int .i64) a1.qy,mpE (AV.int .i64) (AV.int .i64) a1.qH])::(88,I6 x2)::(89,I6 (k3:Int))::(90,I6 w54)::y14))<|WO.fn (e2:=z16 ((94,.bool (w54 == x1))::y14)) ?_;exact hK48 (w54 == x1) h
       refine WO.fn (e2:=z16 ((94,.bool false)::y14)) ?_;exact hK48 false h
      obtain⟨w55,hw55,h⟩:=ql h;let z22:=fun t=>z18 ((68,.bool false)::(69,.bool false)::(70,.bool false)::(71,.und)::(72,.und)::(73,.und)::(74,.und)::(75,.und)::(76,.und)::(77,.und)::(78,.und)::(79,.und)::(80,.bool false)::(81,.bool false)::(82,.agg [l44 none a1.f_h,l3 none a1.qp,mpE (AV.int .i64) (AV.int .i64) a1.qy,mpE (AV.int .i64) (AV.int .i64) a1.qH])::(83,I6 x2)::(84,I6 (k3:Int))::t);refine WO.ck 14 (F:=107) (l:=[.agg [l44 none a1.f_h,l3 none a1.qp,mpE (AV.int .i64) (AV.int .i64) a1.qy,mpE (AV.int .i64) (AV.int .i64) a1.qH],I6 x2,I6 (k3:Int)]) (C:=[]) (r:=.bool w55) (QH a1 x2 (k3:Int) w55 hw55) (e1:=z22 ((85,.bool w55)::y14))<|WO.bh 1 (fun b=>z22 ((85,.bool b)::(86,.bool b)::y14)) w55 h (fun h=>?_) (fun h=>?_)
      ·obtain⟨w56,hw56,h⟩:=ql h;refine WO.ck 3 (F:=108) (l:=[.agg [l44 none a1.f_h,l3 none a1.qp,mpE (AV.int .i64) (AV.int .i64) a1.qy,mpE (AV.int .i64) (AV.int .i64) a1.qH],I6 x2,I6 (k3:Int)]) (C:=[]) (r:=I6 w56) (Xk a1 x2 (k3:Int) w56 hw56) (e1:=z22 ((85,.bool true)::(86,.bool true)::(87,.agg [l44 none a1.f_h,l3 none a1.qp,mpE (AV.int .i64) (AV.int .i64) a1.qy,mpE (AV.int .i64) (AV.int .i64) a1.qH])::(88,I6 x2)::(89,I6 (k3:Int))::(90,I6 w56)::y14))<|WO.fn (e2:=z16 ((94,.bool (w56 == x1))::y14)) ?_;exact hK48 (w56 == x1) h
      refine WO.fn (e2:=z16 ((94,.bool false)::y14)) ?_;exact hK48 false h
     obtain⟨w57,hw57,h⟩:=ql h;let z23:=fun t=>z17 ((63,.bool false)::(64,.bool false)::(65,.und)::(66,.und)::(67,.und)::(68,.und)::(69,.bool false)::(70,.bool false)::(71,.und)::(72,.und)::(73,.und)::(74,.und)::(75,.und)::(76,.und)::(77,.und)::(78,.und)::(79,.und)::(80,.bool false)::(81,.bool false)::(82,.agg [l44 none a1.f_h,l3 none a1.qp,mpE (AV.int .i64) (AV.int .i64) a1.qy,mpE (AV.int .i64) (AV.int .i64) a1.qH])::(83,I6 x2)::(84,I6 (k3:Int))::t);refine WO.ck 20 (F:=107) (l:=[.agg [l44 none a1.f_h,l3 none a1.qp,mpE (AV.int .i64) (AV.int .i64) a1.qy,mpE (AV.int .i64) (AV.int .i64) a1.qH],I6 x2,I6 (k3:Int)]) (C:=[]) (r:=.bool w57) (QH a1 x2 (k3:Int) w57 hw57) (e1:=z23 ((85,.bool w57)::y14))<|WO.bh 1 (fun b=>z23 ((85,.bool b)::(86,.bool b)::y14)) w57 h (fun h=>?_) (fun h=>?_)
     ·obtain⟨w58,hw58,h⟩:=ql h;refine WO.ck 3 (F:=108) (l:=[.agg [l44 none a1.f_h,l3 none a1.qp,mpE (AV.int .i64) (AV.int .i64) a1.qy,mpE (AV.int .i64) (AV.int .i64) a1.qH],I6 x2,I6 (k3:Int)]) (C:=[]) (r:=I6 w58) (Xk a1 x2 (k3:Int) w58 hw58) (e1:=z23 ((85,.bool true)::(86,.bool true)::(87,.agg [l44 none a1.f_h,l3 none a1.qp,mpE (AV.int .i64) (AV.int .i64) a1.qy,mpE (AV.int .i64) (AV.int .i64) a1.qH])::(88,I6 x2)::(89,I6 (k3:Int))::(90,I6 w58)::y14))<|WO.fn (e2:=z16 ((94,.bool (w58 == x1))::y14)) ?_;exact hK48 (w58 == x1) h
     refine WO.fn (e2:=z16 ((94,.bool false)::y14)) ?_;exact hK48 false h
    refine W.seq<|W.join (σ:=(Bool)) (fun s=>z15 ((55,.bool s)::y10)) (fun s=>(jO x1 x2 v16 v17 (qX a1 x1 x2 k3 (jc (qt a1 x1 x2 (qT (qF a1 x1 (qI (qu a1 (qA) r1 (k1+1))) r2 (k2+1))) r3 (k3+1))))) s=some r) (fun v29 h=>?_) (fun hK24=>?_)
    ·unfold jO at h;refine W.ch v29 h (fun h=>?_) (fun h=>?_)
     ·obtain⟨hc30,h⟩:=qq h;obtain⟨hc31,h⟩:=qq h;obtain⟨hc32,h⟩:=qq h;obtain⟨hc33,h⟩:=qq h;let y16:Env:=[(1000010,hobE qn AV.bool (mset qv (qj.mk x1 x2) true v16)),(1000011,hobE qn AV.bool (mset qv (qj.mk x1 x2) true v17))];refine W.regionA (e1:=z15 ((55,.bool v29)::(56,.mb 0 1000010)::(57,.agg [I6 x1,I6 x2])::(58,.mb 0 1000011)::(59,.agg [I6 x1,I6 x2])::y16)) (by kernel_rfl) ?_ ?_
      ·generalize hall:Array.toList _=all;let y0:Nat×AV:=(1,.ptr (.agg [l44 none a1.f_h,l3 none a1.qp,mpE (AV.int .i64) (AV.int .i64) a1.qy,mpE (AV.int .i64) (AV.int .i64) a1.qH]));let y1:Nat×AV:=(2,.mb 0 1000010);let y2:Nat×AV:=(3,.mb 0 1000011);let y3:Nat×AV:=(5,I6 x1);let y4:Nat×AV:=(7,I6 x2);let y5:Nat×AV:=(8,I6 (k3:Int));let y6:Nat×AV:=(9,.ptr (.agg [I6 x1,I6 x2]));let y7:Nat×AV:=(13,l3 none a1.qp);let y8:Nat×AV:=(14,I6 (a1.qp.length:Int));let y9:Nat×AV:=(15,I6 (k1:Int));let y10:Nat×AV:=(20,l3 none a1.qp);let y11:Nat×AV:=(21,I6 (a1.qp.length:Int));let y12:Nat×AV:=(22,I6 (k2:Int));let y13:Nat×AV:=(26,I6 (k3:Int));let y14:Nat×AV:=(55,.bool v29);let y15:Nat×AV:=(56,.mb 0 1000010);let y16:Nat×AV:=(57,.agg [I6 x1,I6 x2]);let y17:Nat×AV:=(1000011,hobE qn AV.bool v17);let y18:Nat×AV:=(58,.mb 0 1000011);let y19:Nat×AV:=(59,.agg [I6 x1,I6 x2]);let y20:Nat×AV:=(1000010,hobE qn AV.bool v16);let y21:Nat×AV:=(1000010,hobE qn AV.bool (mset qv (qj.mk x1 x2) true v16));let y22:Nat×AV:=(1000011,hobE qn AV.bool (mset qv (qj.mk x1 x2) true v17))
       let A:=fun R E=>Run Try.prog (.any 102 all R E ([y0,y1,y2,y3,y4,y5,y6,y7,y8,y9,y10,y11,y12,y13,y14,y15,y16,y18,y19,y21,y22]))
       have s_:A [] [y0,y1,y2,y3,y4,y5,y6,y7,y8,y9,y10,y11,y12,y13,y14,y15,y16,y18,y19,y21,y22]:=.anyNil
       have s5:Run Try.prog (.any 102 all [5] ([y0,y1,y2,y3,y4,y5,y6,y7,y8,y9,y10,y11,y12,y13,y14,y15,y16,y18,y19,y21,y17]) ([y0,y1,y2,y3,y4,y5,y6,y7,y8,y9,y10,y11,y12,y13,y14,y15,y16,y18,y19,y21,y22])):=by subst hall;exact Run.anyL [(5,[y0,y1,y2,y3,y4,y5,y6,y7,y8,y9,y10,y11,y12,y13,y14,y15,y16,y18,y19,y21,y22])] (by kernel_rfl) (by kernel_rfl) (.cons ((ZR (F:=qn) (G:=AV.bool) (eq:=qv) (l:=v17) (a:=(qj.mk x1 x2)) (b:=true) (id:=1000011) (kt:=73) (YU hc32) hc33 (fun x=>by kernel_rfl) (fun x y=>by kernel_rfl) (by kernel_rfl)).trans (by kernel_rfl)) .nil) (.cons s_ .nil)
       have s45:Run Try.prog (.any 102 all [4,5] ([y0,y1,y2,y3,y4,y5,y6,y7,y8,y9,y10,y11,y12,y13,y14,y15,y16,y18,y19,y20,y17]) ([y0,y1,y2,y3,y4,y5,y6,y7,y8,y9,y10,y11,y12,y13,y14,y15,y16,y18,y19,y21,y22])):=by subst hall;exact Run.anyL [(4,[y0,y1,y2,y3,y4,y5,y6,y7,y8,y9,y10,y11,y12,y13,y14,y15,y16,y18,y19,y21,y17])] (by kernel_rfl) (by kernel_rfl) (.cons ((ZR (F:=qn) (G:=AV.bool) (eq:=qv) (l:=v16) (a:=(qj.mk x1 x2)) (b:=true) (id:=1000010) (kt:=73) (YU hc30) hc31 (fun x=>by kernel_rfl) (fun x y=>by kernel_rfl) (by kernel_rfl)).trans (by kernel_rfl)) .nil) (.cons s5 .nil)
       have s35:Run Try.prog (.any 102 all [3,5] ([y0,y1,y2,y3,y4,y5,y6,y7,y8,y9,y10,y11,y12,y13,y14,y15,y16,y18,y21,y17]) ([y0,y1,y2,y3,y4,y5,y6,y7,y8,y9,y10,y11,y12,y13,y14,y15,y16,y18,y19,y21,y22])):=by subst hall;exact Run.anyL [(3,[y0,y1,y2,y3,y4,y5,y6,y7,y8,y9,y10,y11,y12,y13,y14,y15,y16,y18,y19,y21,y17])] (by kernel_rfl) (by kernel_rfl) (.cons (by kernel_rfl) .nil) (.cons s5 .nil)
       have s25:Run Try.prog (.any 102 all [2,5] ([y0,y1,y2,y3,y4,y5,y6,y7,y8,y9,y10,y11,y12,y13,y14,y15,y16,y19,y21,y17]) ([y0,y1,y2,y3,y4,y5,y6,y7,y8,y9,y10,y11,y12,y13,y14,y15,y16,y18,y19,y21,y22])):=by subst hall;exact Run.anyL [(2,[y0,y1,y2,y3,y4,y5,y6,y7,y8,y9,y10,y11,y12,y13,y14,y15,y16,y18,y19,y21,y17])] (by kernel_rfl) (by kernel_rfl) (.cons (by kernel_rfl) .nil) (.cons s5 .nil)
       have s345:Run Try.prog (.any 102 all [3,4,5] ([y0,y1,y2,y3,y4,y5,y6,y7,y8,y9,y10,y11,y12,y13,y14,y15,y16,y18,y20,y17]) ([y0,y1,y2,y3,y4,y5,y6,y7,y8,y9,y10,y11,y12,y13,y14,y15,y16,y18,y19,y21,y22])):=by subst hall;exact Run.anyL [(3,[y0,y1,y2,y3,y4,y5,y6,y7,y8,y9,y10,y11,y12,y13,y14,y15,y16,y18,y19,y20,y17]),(4,[y0,y1,y2,y3,y4,y5,y6,y7,y8,y9,y10,y11,y12,y13,y14,y15,y16,y18,y21,y17])] (by kernel_rfl) (by kernel_rfl) (.cons (by kernel_rfl) (.cons ((ZR (F:=qn) (G:=AV.bool) (eq:=qv) (l:=v16) (a:=(qj.mk x1 x2)) (b:=true) (id:=1000010) (kt:=73) (YU hc30) hc31 (fun x=>by kernel_rfl) (fun x y=>by kernel_rfl) (by kernel_rfl)).trans (by kernel_rfl)) .nil)) (.cons s45 (.cons s35 .nil))
       have s245:Run Try.prog (.any 102 all [2,4,5] ([y0,y1,y2,y3,y4,y5,y6,y7,y8,y9,y10,y11,y12,y13,y14,y15,y16,y19,y20,y17]) ([y0,y1,y2,y3,y4,y5,y6,y7,y8,y9,y10,y11,y12,y13,y14,y15,y16,y18,y19,y21,y22])):=by subst hall;exact Run.anyL [(2,[y0,y1,y2,y3,y4,y5,y6,y7,y8,y9,y10,y11,y12,y13,y14,y15,y16,y18,y19,y20,y17]),(4,[y0,y1,y2,y3,y4,y5,y6,y7,y8,y9,y10,y11,y12,y13,y14,y15,y16,y19,y21,y17])] (by kernel_rfl) (by kernel_rfl) (.cons (by kernel_rfl) (.cons ((ZR (F:=qn) (G:=AV.bool) (eq:=qv) (l:=v16) (a:=(qj.mk x1 x2)) (b:=true) (id:=1000010) (kt:=73) (YU hc30) hc31 (fun x=>by kernel_rfl) (fun x y=>by kernel_rfl) (by kernel_rfl)).trans (by kernel_rfl)) .nil)) (.cons s45 (.cons s25 .nil))
       have s235:Run Try.prog (.any 102 all [2,3,5] ([y0,y1,y2,y3,y4,y5,y6,y7,y8,y9,y10,y11,y12,y13,y14,y15,y16,y21,y17]) ([y0,y1,y2,y3,y4,y5,y6,y7,y8,y9,y10,y11,y12,y13,y14,y15,y16,y18,y19,y21,y22])):=by subst hall;exact Run.anyL [(2,[y0,y1,y2,y3,y4,y5,y6,y7,y8,y9,y10,y11,y12,y13,y14,y15,y16,y18,y21,y17]),(3,[y0,y1,y2,y3,y4,y5,y6,y7,y8,y9,y10,y11,y12,y13,y14,y15,y16,y19,y21,y17])] (by kernel_rfl) (by kernel_rfl) (.cons (by kernel_rfl) (.cons (by kernel_rfl) .nil)) (.cons s35 (.cons s25 .nil))
       have s145:Run Try.prog (.any 102 all [1,4,5] ([y0,y1,y2,y3,y4,y5,y6,y7,y8,y9,y10,y11,y12,y13,y14,y15,y18,y19,y20,y17]) ([y0,y1,y2,y3,y4,y5,y6,y7,y8,y9,y10,y11,y12,y13,y14,y15,y16,y18,y19,y21,y22])):=by subst hall;exact Run.anyL [(1,[y0,y1,y2,y3,y4,y5,y6,y7,y8,y9,y10,y11,y12,y13,y14,y15,y16,y18,y19,y20,y17])] (by kernel_rfl) (by kernel_rfl) (.cons (by kernel_rfl) .nil) (.cons s45 .nil)
       have s045:Run Try.prog (.any 102 all [0,4,5] ([y0,y1,y2,y3,y4,y5,y6,y7,y8,y9,y10,y11,y12,y13,y14,y16,y18,y19,y20,y17]) ([y0,y1,y2,y3,y4,y5,y6,y7,y8,y9,y10,y11,y12,y13,y14,y15,y16,y18,y19,y21,y22])):=by subst hall;exact Run.anyL [(0,[y0,y1,y2,y3,y4,y5,y6,y7,y8,y9,y10,y11,y12,y13,y14,y15,y16,y18,y19,y20,y17])] (by kernel_rfl) (by kernel_rfl) (.cons (by kernel_rfl) .nil) (.cons s45 .nil)
       have s2345:Run Try.prog (.any 102 all [2,3,4,5] ([y0,y1,y2,y3,y4,y5,y6,y7,y8,y9,y10,y11,y12,y13,y14,y15,y16,y20,y17]) ([y0,y1,y2,y3,y4,y5,y6,y7,y8,y9,y10,y11,y12,y13,y14,y15,y16,y18,y19,y21,y22])):=by subst hall;exact Run.anyL [(2,[y0,y1,y2,y3,y4,y5,y6,y7,y8,y9,y10,y11,y12,y13,y14,y15,y16,y18,y20,y17]),(3,[y0,y1,y2,y3,y4,y5,y6,y7,y8,y9,y10,y11,y12,y13,y14,y15,y16,y19,y20,y17]),(4,[y0,y1,y2,y3,y4,y5,y6,y7,y8,y9,y10,y11,y12,y13,y14,y15,y16,y21,y17])] (by kernel_rfl) (by kernel_rfl) (.cons (by kernel_rfl) (.cons (by kernel_rfl) (.cons ((ZR (F:=qn) (G:=AV.bool) (eq:=qv) (l:=v16) (a:=(qj.mk x1 x2)) (b:=true) (id:=1000010) (kt:=73) (YU hc30) hc31 (fun x=>by kernel_rfl) (fun x y=>by kernel_rfl) (by kernel_rfl)).trans (by kernel_rfl)) .nil))) (.cons s345 (.cons s245 (.cons s235 .nil)))
       have s1345:Run Try.prog (.any 102 all [1,3,4,5] ([y0,y1,y2,y3,y4,y5,y6,y7,y8,y9,y10,y11,y12,y13,y14,y15,y18,y20,y17]) ([y0,y1,y2,y3,y4,y5,y6,y7,y8,y9,y10,y11,y12,y13,y14,y15,y16,y18,y19,y21,y22])):=by subst hall;exact Run.anyL [(1,[y0,y1,y2,y3,y4,y5,y6,y7,y8,y9,y10,y11,y12,y13,y14,y15,y16,y18,y20,y17]),(3,[y0,y1,y2,y3,y4,y5,y6,y7,y8,y9,y10,y11,y12,y13,y14,y15,y18,y19,y20,y17])] (by kernel_rfl) (by kernel_rfl) (.cons (by kernel_rfl) (.cons (by kernel_rfl) .nil)) (.cons s345 (.cons s145 .nil))
       have s1245:Run Try.prog (.any 102 all [1,2,4,5] ([y0,y1,y2,y3,y4,y5,y6,y7,y8,y9,y10,y11,y12,y13,y14,y15,y19,y20,y17]) ([y0,y1,y2,y3,y4,y5,y6,y7,y8,y9,y10,y11,y12,y13,y14,y15,y16,y18,y19,y21,y22])):=by subst hall;exact Run.anyL [(1,[y0,y1,y2,y3,y4,y5,y6,y7,y8,y9,y10,y11,y12,y13,y14,y15,y16,y19,y20,y17]),(2,[y0,y1,y2,y3,y4,y5,y6,y7,y8,y9,y10,y11,y12,y13,y14,y15,y18,y19,y20,y17])] (by kernel_rfl) (by kernel_rfl) (.cons (by kernel_rfl) (.cons (by kernel_rfl) .nil)) (.cons s245 (.cons s145 .nil))
       have s0345:Run Try.prog (.any 102 all [0,3,4,5] ([y0,y1,y2,y3,y4,y5,y6,y7,y8,y9,y10,y11,y12,y13,y14,y16,y18,y20,y17]) ([y0,y1,y2,y3,y4,y5,y6,y7,y8,y9,y10,y11,y12,y13,y14,y15,y16,y18,y19,y21,y22])):=by subst hall;exact Run.anyL [(0,[y0,y1,y2,y3,y4,y5,y6,y7,y8,y9,y10,y11,y12,y13,y14,y15,y16,y18,y20,y17]),(3,[y0,y1,y2,y3,y4,y5,y6,y7,y8,y9,y10,y11,y12,y13,y14,y16,y18,y19,y20,y17])] (by kernel_rfl) (by kernel_rfl) (.cons (by kernel_rfl) (.cons (by kernel_rfl) .nil)) (.cons s345 (.cons s045 .nil))
       have s0245:Run Try.prog (.any 102 all [0,2,4,5] ([y0,y1,y2,y3,y4,y5,y6,y7,y8,y9,y10,y11,y12,y13,y14,y16,y19,y20,y17]) ([y0,y1,y2,y3,y4,y5,y6,y7,y8,y9,y10,y11,y12,y13,y14,y15,y16,y18,y19,y21,y22])):=by subst hall;exact Run.anyL [(0,[y0,y1,y2,y3,y4,y5,y6,y7,y8,y9,y10,y11,y12,y13,y14,y15,y16,y19,y20,y17]),(2,[y0,y1,y2,y3,y4,y5,y6,y7,y8,y9,y10,y11,y12,y13,y14,y16,y18,y19,y20,y17])] (by kernel_rfl) (by kernel_rfl) (.cons (by kernel_rfl) (.cons (by kernel_rfl) .nil)) (.cons s245 (.cons s045 .nil))
       have s0145:Run Try.prog (.any 102 all [0,1,4,5] ([y0,y1,y2,y3,y4,y5,y6,y7,y8,y9,y10,y11,y12,y13,y14,y18,y19,y20,y17]) ([y0,y1,y2,y3,y4,y5,y6,y7,y8,y9,y10,y11,y12,y13,y14,y15,y16,y18,y19,y21,y22])):=by subst hall;exact Run.anyL [(0,[y0,y1,y2,y3,y4,y5,y6,y7,y8,y9,y10,y11,y12,y13,y14,y15,y18,y19,y20,y17]),(1,[y0,y1,y2,y3,y4,y5,y6,y7,y8,y9,y10,y11,y12,y13,y14,y16,y18,y19,y20,y17])] (by kernel_rfl) (by kernel_rfl) (.cons (by kernel_rfl) (.cons (by kernel_rfl) .nil)) (.cons s145 (.cons s045 .nil))
       have s12345:Run Try.prog (.any 102 all [1,2,3,4,5] ([y0,y1,y2,y3,y4,y5,y6,y7,y8,y9,y10,y11,y12,y13,y14,y15,y20,y17]) ([y0,y1,y2,y3,y4,y5,y6,y7,y8,y9,y10,y11,y12,y13,y14,y15,y16,y18,y19,y21,y22])):=by subst hall;exact Run.anyL [(1,[y0,y1,y2,y3,y4,y5,y6,y7,y8,y9,y10,y11,y12,y13,y14,y15,y16,y20,y17]),(2,[y0,y1,y2,y3,y4,y5,y6,y7,y8,y9,y10,y11,y12,y13,y14,y15,y18,y20,y17]),(3,[y0,y1,y2,y3,y4,y5,y6,y7,y8,y9,y10,y11,y12,y13,y14,y15,y19,y20,y17])] (by kernel_rfl) (by kernel_rfl) (.cons (by kernel_rfl) (.cons (by kernel_rfl) (.cons (by kernel_rfl) .nil))) (.cons s2345 (.cons s1345 (.cons s1245 .nil)))
       have s02345:Run Try.prog (.any 102 all [0,2,3,4,5] ([y0,y1,y2,y3,y4,y5,y6,y7,y8,y9,y10,y11,y12,y13,y14,y16,y20,y17]) ([y0,y1,y2,y3,y4,y5,y6,y7,y8,y9,y10,y11,y12,y13,y14,y15,y16,y18,y19,y21,y22])):=by subst hall;exact Run.anyL [(0,[y0,y1,y2,y3,y4,y5,y6,y7,y8,y9,y10,y11,y12,y13,y14,y15,y16,y20,y17]),(2,[y0,y1,y2,y3,y4,y5,y6,y7,y8,y9,y10,y11,y12,y13,y14,y16,y18,y20,y17]),(3,[y0,y1,y2,y3,y4,y5,y6,y7,y8,y9,y10,y11,y12,y13,y14,y16,y19,y20,y17])] (by kernel_rfl) (by kernel_rfl) (.cons (by kernel_rfl) (.cons (by kernel_rfl) (.cons (by kernel_rfl) .nil))) (.cons s2345 (.cons s0345 (.cons s0245 .nil)))
       have s01345:Run Try.prog (.any 102 all [0,1,3,4,5] ([y0,y1,y2,y3,y4,y5,y6,y7,y8,y9,y10,y11,y12,y13,y14,y18,y20,y17]) ([y0,y1,y2,y3,y4,y5,y6,y7,y8,y9,y10,y11,y12,y13,y14,y15,y16,y18,y19,y21,y22])):=by subst hall;exact Run.anyL [(0,[y0,y1,y2,y3,y4,y5,y6,y7,y8,y9,y10,y11,y12,y13,y14,y15,y18,y20,y17]),(1,[y0,y1,y2,y3,y4,y5,y6,y7,y8,y9,y10,y11,y12,y13,y14,y16,y18,y20,y17]),(3,[y0,y1,y2,y3,y4,y5,y6,y7,y8,y9,y10,y11,y12,y13,y14,y18,y19,y20,y17])] (by kernel_rfl) (by kernel_rfl) (.cons (by kernel_rfl) (.cons (by kernel_rfl) (.cons (by kernel_rfl) .nil))) (.cons s1345 (.cons s0345 (.cons s0145 .nil)))
       have s01245:Run Try.prog (.any 102 all [0,1,2,4,5] ([y0,y1,y2,y3,y4,y5,y6,y7,y8,y9,y10,y11,y12,y13,y14,y19,y20,y17]) ([y0,y1,y2,y3,y4,y5,y6,y7,y8,y9,y10,y11,y12,y13,y14,y15,y16,y18,y19,y21,y22])):=by subst hall;exact Run.anyL [(0,[y0,y1,y2,y3,y4,y5,y6,y7,y8,y9,y10,y11,y12,y13,y14,y15,y19,y20,y17]),(1,[y0,y1,y2,y3,y4,y5,y6,y7,y8,y9,y10,y11,y12,y13,y14,y16,y19,y20,y17]),(2,[y0,y1,y2,y3,y4,y5,y6,y7,y8,y9,y10,y11,y12,y13,y14,y18,y19,y20,y17])] (by kernel_rfl) (by kernel_rfl) (.cons (by kernel_rfl) (.cons (by kernel_rfl) (.cons (by kernel_rfl) .nil))) (.cons s1245 (.cons s0245 (.cons s0145 .nil)))
       have s012345:Run Try.prog (.any 102 all [0,1,2,3,4,5] ([y0,y1,y2,y3,y4,y5,y6,y7,y8,y9,y10,y11,y12,y13,y14,y20,y17]) ([y0,y1,y2,y3,y4,y5,y6,y7,y8,y9,y10,y11,y12,y13,y14,y15,y16,y18,y19,y21,y22])):=by subst hall;exact Run.anyL [(0,[y0,y1,y2,y3,y4,y5,y6,y7,y8,y9,y10,y11,y12,y13,y14,y15,y20,y17]),(1,[y0,y1,y2,y3,y4,y5,y6,y7,y8,y9,y10,y11,y12,y13,y14,y16,y20,y17]),(2,[y0,y1,y2,y3,y4,y5,y6,y7,y8,y9,y10,y11,y12,y13,y14,y18,y20,y17]),(3,[y0,y1,y2,y3,y4,y5,y6,y7,y8,y9,y10,y11,y12,y13,y14,y19,y20,y17])] (by kernel_rfl) (by kernel_rfl) (.cons (by kernel_rfl) (.cons (by kernel_rfl) (.cons (by kernel_rfl) (.cons (by kernel_rfl) .nil)))) (.cons s12345 (.cons s02345 (.cons s01345 (.cons s01245 .nil))))
       exact s012345
      refine WO.fn (e2:=z15 y16) ?_;exact hK23 ((mset qv (qj.mk x1 x2) true v16),(mset qv (qj.mk x1 x2) true v17)) h
     refine W.sw (e:=z0 y13) ?_;exact hK23 (v16,v17) h
    refine W.rg ?_;obtain⟨w25,hw25,h⟩:=ql h;let z24:=fun t=>z15 ((35,.agg [l44 none a1.f_h,l3 none a1.qp,mpE (AV.int .i64) (AV.int .i64) a1.qy,mpE (AV.int .i64) (AV.int .i64) a1.qH])::(36,I6 x1)::(37,I6 (k3:Int))::t);refine WO.ck 3 (F:=107) (l:=[.agg [l44 none a1.f_h,l3 none a1.qp,mpE (AV.int .i64) (AV.int .i64) a1.qy,mpE (AV.int .i64) (AV.int .i64) a1.qH],I6 x1,I6 (k3:Int)]) (C:=[]) (r:=.bool w25) (QH a1 x1 (k3:Int) w25 hw25) (e1:=z24 ((38,.bool w25)::y10))<|WO.bh 1 (fun b=>z24 ((38,.bool b)::(39,.bool b)::y10)) w25 h (fun h=>?_) (fun h=>?_)
    ·obtain⟨w26,hw26,h⟩:=ql h;let z25:=fun t=>z24 ((38,.bool true)::(39,.bool true)::(40,.agg [l44 none a1.f_h,l3 none a1.qp,mpE (AV.int .i64) (AV.int .i64) a1.qy,mpE (AV.int .i64) (AV.int .i64) a1.qH])::(41,I6 x2)::(42,I6 (k3:Int))::t);refine WO.ck 3 (F:=106) (l:=[.agg [l44 none a1.f_h,l3 none a1.qp,mpE (AV.int .i64) (AV.int .i64) a1.qy,mpE (AV.int .i64) (AV.int .i64) a1.qH],I6 x2,I6 (k3:Int)]) (C:=[]) (r:=.bool w26) (Jo a1 x2 (k3:Int) w26 hw26) (e1:=z25 ((43,.bool w26)::y10))<|WO.bh 2 (fun b=>z25 ((43,.bool b)::(44,.bool b)::(45,.bool b)::y10)) w26 h (fun h=>?_) (fun h=>?_)
     ·obtain⟨hc27,h⟩:=qq h;let z26:=fun t=>z25 ((43,.bool true)::(44,.bool true)::(45,.bool true)::(46,.ptr (mpE (AV.int .i64) (AV.int .i64) a1.qH))::(47,mpE (AV.int .i64) (AV.int .i64) a1.qH)::(48,I6 x2)::(49,I6 (mget keq1 0 x2 a1.qH))::t);refine WO.pk 3 ((alookup Try.prog 85 [] (mpE (AV.int .i64) (AV.int .i64) a1.qH) (I6 x2)).map AV.strip) (congrArg (A6 AV.strip) (jK (F:=(AV.int .i64)) (G:=(AV.int .i64)) (eq:=keq1) (l:=a1.qH) (k:=x2) (z:=0) (kt:=3) (e:=3) (Js hc27) (by kernel_rfl) (fun x=>by kernel_rfl) (fun x y=>by kernel_rfl) (by kernel_rfl))) (e1:=z26 y10) ?_;obtain⟨hc28,h⟩:=qq h;refine WO.pk 3 ((alookup Try.prog 85 [] (mpE (AV.int .i64) (AV.int .i64) a1.qy) (I6 x1)).map AV.strip) (congrArg (A6 AV.strip) (jK (F:=(AV.int .i64)) (G:=(AV.int .i64)) (eq:=keq1) (l:=a1.qy) (k:=x1) (z:=0) (kt:=3) (e:=3) (Js hc28) (by kernel_rfl) (fun x=>by kernel_rfl) (fun x y=>by kernel_rfl) (by kernel_rfl))) (e1:=z26 ((50,.ptr (mpE (AV.int .i64) (AV.int .i64) a1.qy))::(51,mpE (AV.int .i64) (AV.int .i64) a1.qy)::(52,I6 x1)::(53,I6 (mget keq1 0 x1 a1.qy))::y10)) ?_;refine WO.fn (e2:=z15 ((55,.bool (decide ((mget keq1 0 x2 a1.qH) > (mget keq1 0 x1 a1.qy))))::y10)) ?_;exact hK24 (decide ((mget keq1 0 x2 a1.qH) > (mget keq1 0 x1 a1.qy))) h
     refine WO.fn (e2:=z15 ((55,.bool false)::y10)) ?_;exact hK24 false h
    refine WO.fn (e2:=z15 ((55,.bool false)::y10)) ?_;exact hK24 false h
def Qu (fuel:Nat) (a1:(List hsOp)):Option je:=snapP fuel a1
theorem Yc (fuel:Nat) (a1:(List hsOp)) (r:je) (h:Qu fuel a1=some r):Run Try.prog (.call 77 [l44 none a1] (.agg [l44 none r.f_h,l3 none r.qp,mpE (AV.int .i64) (AV.int .i64) r.qy,mpE (AV.int .i64) (AV.int .i64) r.qH])):=.ext0 (qdT h)
def YV (fuel:Nat) (a1:(List hsOp)):Option (Bool×Int) :=
 ((XF a1).bind fun w5=>(bif (!w5) then (some (false,2)) else ((Qu fuel a1).bind fun w8=>((Jb w8).bind fun w9=>(some (w9,0))))))
theorem Db (fuel:Nat) (a1:(List hsOp)) (r:(Bool×Int)) (h:YV fuel a1=some r):Run Try.prog (.call 41 [l44 none a1] (.tup [.bool r.1,I6 r.2])):=by
 refine cW Try.func41 rfl (env0:=[(0,l44 none a1)]) ?_;unfold YV at h;refine W.seq ?_;let z0:=fun t=>EN ((0,l44 none a1)::t);refine W.rt (e2:=z0 []) ?_;refine W.seq<|W.sr ?_;obtain⟨w5,hw5,h⟩:=ql h;refine WO.ck 1 (F:=26) (l:=[l44 none a1]) (C:=[]) (r:=.bool w5) (Yh a1 w5 hw5) (e1:=z0 [(4,l44 none a1),(5,.bool w5)])<|WO.fn (e2:=z0 [(6,.bool (!w5))]) ?_;refine W.ch (!w5) h (fun h=>?_) (fun h=>?_)
 ·refine W.seq<|W.rt (e2:=[(2,.bool false),(3,.int .i64 2)]) ?_;refine W.wk (e:=[(2,.bool false),(3,.int .i64 2)]) ?_;cases h;exact W.rr
 refine W.sw (e:=z0 []) ?_;refine W.sr ?_;obtain⟨w8,hw8,h⟩:=ql h;let z1:=fun t=>z0 ((7,l44 none a1)::(8,.agg [l44 none w8.f_h,l3 none w8.qp,mpE (AV.int .i64) (AV.int .i64) w8.qy,mpE (AV.int .i64) (AV.int .i64) w8.qH])::t);refine WO.ck 1 (F:=77) (l:=[l44 none a1]) (C:=[]) (r:=.agg [l44 none w8.f_h,l3 none w8.qp,mpE (AV.int .i64) (AV.int .i64) w8.qy,mpE (AV.int .i64) (AV.int .i64) w8.qH]) (Yc fuel a1 w8 hw8) (e1:=z1 []) ?_;obtain⟨w9,hw9,h⟩:=ql h;refine WO.ck 0 (F:=78) (l:=[.agg [l44 none w8.f_h,l3 none w8.qp,mpE (AV.int .i64) (AV.int .i64) w8.qy,mpE (AV.int .i64) (AV.int .i64) w8.qH]]) (C:=[]) (r:=.bool w9) (Yb w8 w9 hw9) (e1:=z1 [(9,.bool w9)])<|WO.fn (e2:=[(2,.bool w9),(3,.int .i64 0)]) ?_;refine W.wk (e:=[(2,.bool w9),(3,.int .i64 0)]) ?_;cases h;exact W.rr
def Xf (fuel:Nat) (a1:(List hsOp)):Option ((List Int)×Int) :=
 ((XF a1).bind fun w5=>(bif (!w5) then (some (([]:(List Int)),2)) else ((Qu fuel a1).bind fun w8=>((Jb w8).bind fun w11=>(bif (!w11) then (some (([]:(List Int)),7)) else ((QS w8).bind fun w14=>((QK fuel w14.2 w8.qp).bind fun w16=>(bif (!w16.2) then (some (([]:(List Int)),5)) else (some (w16.1,0))))))))))
theorem VQ (fuel:Nat) (a1:(List hsOp)) (r:((List Int)×Int)) (h:Xf fuel a1=some r):Run Try.prog (.call 42 [l44 none a1] (.tup [l3 none r.1,I6 r.2])):=by
 refine cW Try.func42 rfl (env0:=[(0,l44 none a1)]) ?_;unfold Xf at h;refine W.seq ?_;let z0:=fun t=>EN ((0,l44 none a1)::t);refine W.rt (e2:=z0 []) ?_;refine W.seq<|W.sr ?_;obtain⟨w5,hw5,h⟩:=ql h;refine WO.ck 1 (F:=26) (l:=[l44 none a1]) (C:=[]) (r:=.bool w5) (Yh a1 w5 hw5) (e1:=z0 [(9,l44 none a1),(10,.bool w5)])<|WO.fn (e2:=z0 [(11,.bool (!w5))]) ?_;refine W.ch (!w5) h (fun h=>?_) (fun h=>?_)
 ·refine W.seq<|W.rt (e2:=[(2,.nils),(3,.int .i64 2)]) ?_;refine W.weak [2,3] [] [(2,0,3,1,70002)] [] (env':=[(2,l3 (some 70002) ([]:(List Int))),(3,.int .i64 2)]) (by kernel_rfl) ?_;cases h;exact W.rr
 refine W.sw (e:=z0 []) ?_;refine W.sr ?_;obtain⟨w8,hw8,h⟩:=ql h;refine WO.ck 1 (F:=77) (l:=[l44 none a1]) (C:=[]) (r:=.agg [l44 none w8.f_h,l3 none w8.qp,mpE (AV.int .i64) (AV.int .i64) w8.qy,mpE (AV.int .i64) (AV.int .i64) w8.qH]) (Yc fuel a1 w8 hw8) (e1:=z0 [(12,l44 none a1),(13,.agg [l44 none w8.f_h,l3 none w8.qp,mpE (AV.int .i64) (AV.int .i64) w8.qy,mpE (AV.int .i64) (AV.int .i64) w8.qH])]) ?_;let z1:=fun t=>EN ((4,.ptr (.agg [l44 none w8.f_h,l3 none w8.qp,mpE (AV.int .i64) (AV.int .i64) w8.qy,mpE (AV.int .i64) (AV.int .i64) w8.qH]))::t);refine WO.fi [4] [4] (e2:=z1 []) ?_;refine W.seq<|W.sr ?_;obtain⟨w11,hw11,h⟩:=ql h;refine WO.ck 1 (F:=78) (l:=[.agg [l44 none w8.f_h,l3 none w8.qp,mpE (AV.int .i64) (AV.int .i64) w8.qy,mpE (AV.int .i64) (AV.int .i64) w8.qH]]) (C:=[]) (r:=.bool w11) (Yb w8 w11 hw11) (e1:=z1 [(14,.agg [l44 none w8.f_h,l3 none w8.qp,mpE (AV.int .i64) (AV.int .i64) w8.qy,mpE (AV.int .i64) (AV.int .i64) w8.qH]),(15,.bool w11)])<|WO.fn (e2:=z1 [(16,.bool (!w11))]) ?_;refine W.ch (!w11) h (fun h=>?_) (fun h=>?_)
 ·refine W.seq<|W.rt (e2:=[(2,.nils),(3,.int .i64 7)]) ?_;refine W.weak [2,3] [] [(2,0,3,1,70002)] [] (env':=[(2,l3 (some 70002) ([]:(List Int))),(3,.int .i64 7)]) (by kernel_rfl) ?_;cases h;exact W.rr
 refine W.sw (e:=z1 []) ?_;refine W.sr ?_;obtain⟨w14,hw14,h⟩:=ql h;refine WO.ck 1 (F:=79) (l:=[.agg [l44 none w8.f_h,l3 none w8.qp,mpE (AV.int .i64) (AV.int .i64) w8.qy,mpE (AV.int .i64) (AV.int .i64) w8.qH]]) (C:=[]) (r:=.tup [mpE qn AV.bool w14.1,mpE qn AV.bool w14.2]) (VK w8 w14 hw14) (e1:=z1 [(18,.agg [l44 none w8.f_h,l3 none w8.qp,mpE (AV.int .i64) (AV.int .i64) w8.qy,mpE (AV.int .i64) (AV.int .i64) w8.qH]),(19,.tup [mpE qn AV.bool w14.1,mpE qn AV.bool w14.2])]) ?_;let z2:=fun t=>z1 ((6,mpE qn AV.bool w14.2)::t);refine WO.fn (e2:=z2 []) ?_;refine W.sr ?_;obtain⟨w16,hw16,h⟩:=ql h;refine WO.ck 3 (F:=50) (l:=[mpE qn AV.bool w14.2,l3 none w8.qp]) (C:=[]) (r:=.tup [l3 none w16.1,.bool w16.2]) (Za fuel w14.2 w8.qp w16 hw16) (e1:=z2 [(23,mpE qn AV.bool w14.2),(24,.ptr (l3 none w8.qp)),(25,l3 none w8.qp),(26,.tup [l3 none w16.1,.bool w16.2])])<|WO.fn (e2:=[(7,l3 none w16.1),(8,.bool w16.2)]) ?_;refine W.seq<|W.seq<|W.rt (e2:=[(7,l3 none w16.1),(30,.bool (!w16.2))]) ?_;refine W.ch (!w16.2) h (fun h=>?_) (fun h=>?_)
 ·refine W.seq<|W.rt (e2:=[(2,.nils),(3,.int .i64 5)]) ?_;refine W.weak [2,3] [] [(2,0,3,1,70002)] [] (env':=[(2,l3 (some 70002) ([]:(List Int))),(3,.int .i64 5)]) (by kernel_rfl) ?_;cases h;exact W.rr
 refine W.sw (e:=[(7,l3 none w16.1)]) ?_;refine W.seq<|W.rt (e2:=[(2,l3 none w16.1),(3,.int .i64 0)]) ?_;refine W.wk (e:=[(2,l3 none w16.1),(3,.int .i64 0)]) ?_;cases h;exact W.rr
end Go.AM
namespace Go.AM
open Go.Proofs
def begL (t:Int):List rf5Op→Nat→Int
 | [],_ => -1
 | x::r,i=>bif x.qb == t then (i:Int) else begL t r (i+1)
theorem qfp (t:Int):∀ (r:List rf5Op) (i:Nat),(∃ x,x∈r∧x.qb=t)→(i:Int)≤begL t r i∧∃ x,r[(begL t r i - i).toNat]? = some x∧x.qb=t
 | [],i,h=>by simp at h
 | y::r,i,h=>by
  unfold begL;by_cases hy:y.qb=t
  ·rw[beq_iff_eq.2 hy,cT];exact⟨Int.le_refl _,y,by simp,hy⟩
  ·rw[beq_eq_false_iff_ne.2 hy,cN]
   obtain⟨h1,x,h2,h3⟩:=qfp t r (i+1) (by
    obtain⟨x,hx,hxt⟩:=h
    rcases List.mem_cons.1 hx with rfl | hx
    ·exact absurd hxt hy
    ·exact⟨x,hx,hxt⟩)
   refine⟨by omega,x,?_,h3⟩
   have e:(begL t r (i+1) - (i:Int)).toNat=(begL t r (i+1) - ((i+1:Nat):Int)).toNat+1:=by omega
   rw[e,List.getElem?_cons_succ];exact h2
theorem qfo (t:Int):∀ (r:List rf5Op) (i j:Nat) (x:rf5Op),r[j]? = some x→x.qb=t→begL t r i≤((i+j:Nat):Int)
 | [],i,j,x,h,_=>by simp at h
 | y::r,i,j,x,h,ht=>by
  unfold begL;by_cases hy:y.qb=t
  ·rw[beq_iff_eq.2 hy,cT];omega
  ·rw[beq_eq_false_iff_ne.2 hy,cN]
   cases j with
   | zero=>simp at h;subst h;exact absurd ht hy
   | succ j =>
    have:=qfo t r (i+1) j x (by simpa using h) ht;omega
theorem qgf {t k:Int}:∀ (r:List rf5Op) (i:Nat),0≤endL t k r i→∃ j x,endL t k r i=((i+j:Nat):Int)∧r[j]? = some x∧x.qb=t∧x.qh=k:=by
 intro r
 induction r with
 | nil=>intro i h;simp[endL]at h
 | cons y r ih =>
  intro i h;unfold endL at h ⊢
  cases hc:((y.qb == t) && (y.qh == k)) with
  | true =>
   rw[cT];rw[A8,beq_iff_eq,beq_iff_eq]at hc;exact⟨0,y,by simp,rfl,hc.1,hc.2⟩
  | false =>
   rw[hc,cN]at h;rw[cN];obtain⟨j,x,h1,h2,h3⟩:=ih (i+1) h;exact⟨j+1,x,by rw[h1];congr 1;omega,by simpa using h2,h3⟩
theorem qhP {h:List rf5Op} {t:Int} (ht:t∈commL h):0≤begL t h 0∧begL t h 0≤endL t 2 h 0:=by
 obtain⟨_,h2⟩:=YG.1 ht;obtain⟨j,x,e1,e2,e3,_⟩:=qgf h 0 h2;have h1:=qfp t h 0 ⟨x,List.mem_of_getElem? e2,e3⟩;have h3:=qfo t h 0 j x e2 e3;rw[e1];exact⟨by simpa using h1.1,h3⟩
def writesL (h:List rf5Op) (t i:Int):Bool:=h.any fun x=>(x.qb == t) && ((x.qh == 1) && (x.qi == i))
def readsL (t i:Int):List rf5Op→Bool
 | []=>false
 | x::r=>bif (x.qb == t) && ((x.qh == 1) && ((x.qi == i) && true)) then false else bif (x.qb == t) && ((x.qh == 0) && ((x.qi == i) && true)) then true else readsL t i r
def ovL (h:List rf5Op) (a b:Int):Bool:=decide (begL a h 0<endL b 2 h 0) && decide (begL b h 0<endL a 2 h 0)
structure SnapOk (h:List rf5Op) (s:je):Prop where
 hh:s.f_h=h.map cv
 tx:s.qp=commL h
 be:∀ t,t∈commL h→mget keq1 0 t s.qy=begL t h 0
 en:∀ t,t∈commL h→mget keq1 0 t s.qH=endL t 2 h 0
 ln:h.length≤1000
theorem qhn {h:List rf5Op} {t:Int} (ht:t∈commL h):1≤t∧t≤6:=(YG.1 ht).1
theorem Xh {h:List rf5Op} {t:Int} (ht:t∈commL h):wfI .i64 t=true:=Dl t ht
theorem qha (t:Int):∀ (r:List rf5Op) (i:Nat),jW (fun y=>Jd y t) Qg (r.map cv) i=some (begL t r i)
 | [],i=>by rw[A9,jW.eq_1];rfl
 | x::r,i=>by
  rw[A5,jW.eq_2];unfold Jd begL;rw[A0];show (bif (x.qb == t) then _ else _)=_
  cases (x.qb == t) with
  | true=>rfl
  | false=>exact qha t r (i+1)
theorem qhL {h:List rf5Op} (hl:h.length≤1000) (t:Int):QO (h.map cv) (fun y=>Jd y t)=some (begL t h 0):=by
 unfold QO;rw[jv (by simp;omega),qx,qha]
theorem qan {h:List rf5Op} (hl:h.length≤1000):∀ (l:List Int) (m:List (Int×Int)),∃ m',beginsP (h.map cv) l m=some m'∧∀ t,mget keq1 0 t m'=if t∈l then begL t h 0 else mget keq1 0 t m
 | [],m=>⟨m,rfl,fun t=>by simp⟩
 | x::l,m=>by
  unfold beginsP;rw[qhL hl,A0];obtain⟨m',h1,h2⟩:=qan hl l (mset keq1 x (begL x h 0) m);refine⟨m',h1,fun t=>?_⟩;rw[h2 t,NZ];by_cases h3:t∈l
  ·rw[if_pos h3,if_pos (by simp[h3])]
  ·rw[if_neg h3];by_cases h4:x=t
   ·subst h4;simp
   ·rw[if_neg h4,if_neg (by simp[h3,Ne.symm h4])]
theorem qcF {h:List rf5Op} (H:Hist h):∃ s,snapP bigFuel (h.map cv)=some s∧SnapOk h s:=by
 have hl:h.length≤1000:=H.1;unfold snapP;rw[YO H,A0,ZC H (by decide),A0]
 have hc:(decide ((commL h).length≤1000) && (commL h).all (wfI .i64))=true:=by
  rw[A8,decide_eq_true_eq,List.all_eq_true];exact⟨by have:=Xx h;omega,Dl⟩
 rw[hc,qx];obtain⟨m',h1,h2⟩:=qan hl (commL h) [];rw[h1,A0];refine⟨_,rfl,rfl,rfl,fun t ht=>?_,fun t ht=>?_,hl⟩
 ·show mget keq1 0 t m'=_;rw[h2,if_pos ht]
 ·have:=qhn ht;exact Va (f:=fun t=>endL t 2 h 0) this.1 this.2
variable {h:List rf5Op} {s:je}
theorem qhD (S:SnapOk h s) {a b:Int} (ha:a∈commL h) (hb:b∈commL h):Qs s a b=some (ovL h a b):=by
 unfold Qs JO ovL;rw[Xh ha,Xh hb,S.be a ha,S.be b hb,S.en a ha,S.en b hb];simp only[qx];cases decide (begL a h 0<endL b 2 h 0) <;> rfl
theorem ix1 {t i:Int}:∀ (r:List rf5Op) (k:Nat),∃ z:Int,jQ (hsOp.mk t 1 i) QA (r.map cv) k=some z∧decide (z ≥ 0)=r.any fun x=>(x.qb == t) && ((x.qh == 1) && (x.qi == i))
 | [],k=>⟨-1,by rw[A9,jQ.eq_1];rfl,rfl⟩
 | x::r,k=>by
  obtain⟨z,h1,h2⟩:=ix1 (t:=t) (i:=i) r (k+1);rw[A5,jQ.eq_2,List.any_cons]
  have e:((t == (cv x).qb) && (((1:Int) == (cv x).qh) && ((i == (cv x).qi) && true)))=((x.qb == t) && ((x.qh == 1) && (x.qi == i))):=by
   show ((t == x.qb) && (((1:Int) == x.qh) && ((i == x.qi) && true)))=_;rw[B5 (a:=t),B5 (a:=(1:Int)),B5 (a:=i),Bool.and_true]
  rw[e]
  cases ((x.qb == t) && ((x.qh == 1) && (x.qi == i))) with
  | true=>exact⟨(k:Int),rfl,by simp⟩
  | false=>exact⟨z,h1,by rw[h2,Bool.false_or]⟩
theorem Nj (S:SnapOk h s) (a i:Int):jG s a i=some (writesL h a i):=by
 unfold jG XH QU;obtain⟨z,h1,h2⟩:=ix1 (t:=a) (i:=i) h 0;rw[S.hh,jv (by have:=S.ln;simp;omega),qx,h1,A0,h2];rfl
theorem qgL (t i:Int):∀ (r:List rf5Op) (k:Nat),jX t i Qj (r.map cv) k=some (readsL t i r)
 | [],k=>by rw[A9,jX.eq_1];rfl
 | x::r,k=>by
  rw[A5,jX.eq_2];unfold readsL;simp only[cv]
  cases (x.qb == t) && ((x.qh == 1) && ((x.qi == i) && true)) with
  | true=>rfl
  | false =>
   cases (x.qb == t) && ((x.qh == 0) && ((x.qi == i) && true)) with
   | true=>rfl
   | false=>exact qgL t i r (k+1)
theorem qeR (S:SnapOk h s) (a i:Int):Ju s a i=some (readsL a i h):=by
 unfold Ju;rw[S.hh,jv (by have:=S.ln;simp;omega),qx,qgL]
def srcStep (h:List rf5Op) (b i:Int) (best a:Int):Int:=bif writesL h a i && (decide (endL a 2 h 0<begL b h 0) && ((best == 0) || decide (endL a 2 h 0 > endL best 2 h 0))) then a else best
def srcL (h:List rf5Op) (b i:Int):Int:=(commL h).foldl (srcStep h b i) 0
theorem qeO (S:SnapOk h s) {b i:Int} (hb:b∈commL h) (K:Int→Option Int):∀ (r:List Int) (k:Nat) (v:Int),(∀ x,x∈r→x∈commL h)→(v=0∨v∈commL h) →
  qP s b i K r k v=K (r.foldl (srcStep h b i) v)
 | [],k,v,_,_=>by rw[qP.eq_1];rfl
 | x::r,k,v,hr,hv=>by
  have hx:=hr x (by simp);rw[qP.eq_2,Nj S,A0,List.foldl_cons]
  have ih:=fun v hv=>qeO (i:=i) S hb K r (k+1) v (fun y hy=>hr y (by simp[hy])) hv
  unfold jZ jL;unfold srcStep
  cases writesL h x i with
  | false=>simp only[cN,Bool.false_and];exact ih v hv
  | true =>
   simp only[cT,Bool.true_and];rw[Xh hx,Xh hb,qx,qx,S.en x hx,S.be b hb]
   cases decide (endL x 2 h 0<begL b h 0) with
   | false=>simp only[cN,Bool.false_and];exact ih v hv
   | true =>
    simp only[cT,Bool.true_and]
    cases hv0:(v == 0) with
    | true=>simp only[cT,Bool.true_or];exact ih x (.inr hx)
    | false =>
     rw[beq_eq_false_iff_ne]at hv0
     have hvc:v∈commL h:=by rcases hv with h0 | h0;exact absurd h0 hv0;exact h0
     rw[Xh hvc,S.en v hvc];simp only[qx,cN,Bool.false_or]
     cases decide (endL x 2 h 0 > endL v 2 h 0) with
     | true=>simp only[cT];exact ih x (.inr hx)
     | false=>simp only[cN];exact ih v hv
theorem qgK (S:SnapOk h s) {b i:Int} (hb:b∈commL h):Jz s b i=some (srcL h b i):=by
 unfold Jz;rw[S.tx,jv (by have:=Xx h;omega),qx,qeO S hb _ _ 0 0 (fun x hx=>hx) (.inl rfl)];rfl
def badA (h:List rf5Op) (a b i:Int):Prop:=a<b∧ovL h a b=true∧writesL h a i=true∧writesL h b i=true
theorem qeV (S:SnapOk h s) {a b:Int} (ha:a∈commL h) (hb:b∈commL h) (K:Option Bool):∀ (r:List Nat) (k:Nat),
  ((∃ i:Nat,k≤i∧i<k+r.length∧badA h a b i)∧qU s a b K r k=some false)∨((∀ i:Nat,k≤i→i<k+r.length→¬ badA h a b i)∧qU s a b K r k=K)
 | [],k=>.inr ⟨fun i h1 h2=>by simp at h2;omega,by rw[qU.eq_1]⟩
 | x::r,k=>by
  rw[qU.eq_2,qhD S ha hb,A0,Nj S,A0,Nj S,A0];unfold jR;by_cases hbad:badA h a b k
  ·obtain⟨h1,h2,h3,h4⟩:=hbad;refine .inl ⟨⟨k,A4 _,by simp,h1,h2,h3,h4⟩,?_⟩;rw[dT h1,h2,h3,h4];rfl
  ·have hskip:∀ X:Option Bool,(bif decide (a<b) then bif ovL h a b then bif writesL h a (k:Int) then bif writesL h b (k:Int) then some false else X else bif false then some false else X else bif false then some false else X else bif false then some false else X)=X:=fun X=>by
    cases h1:decide (a<b) <;> cases h2:ovL h a b <;> cases h3:writesL h a (k:Int) <;> cases h4:writesL h b (k:Int) <;> first | rfl | skip
    exact absurd ⟨of_decide_eq_true h1,h2,h3,h4⟩ hbad
   rw[hskip]
   rcases qeV S ha hb K r (k+1) with ⟨⟨i,h1,h2,h3⟩,h4⟩ | ⟨h1,h2⟩
   ·exact .inl ⟨⟨i,by omega,by simp;omega,h3⟩,h4⟩
   ·refine .inr ⟨fun i g1 g2=>?_,h2⟩;by_cases e:i=k
    ·subst e;exact hbad
    ·exact h1 i (by omega) (by simp at g2;omega)
theorem qeW (S:SnapOk h s) {a:Int} (ha:a∈commL h) (K:Option Bool):∀ (r:List Int) (k:Nat),(∀ x,x∈r→x∈commL h) →
  ((∃ b,b∈r∧∃ i:Nat,i<6∧badA h a b i)∧qV s a K r k=some false)∨((∀ b,b∈r→∀ i:Nat,i<6→¬ badA h a b i)∧qV s a K r k=K)
 | [],k,_=>.inr ⟨fun i h1=>by simp at h1,by rw[qV.eq_1]⟩
 | x::r,k,hr=>by
  have hl:lenOk (A1 (A2 6))=true:=by decide
  rw[qV.eq_2,hl,qx]
  rcases qeV S ha (hr x (by simp)) (Jq (qV s a K r (k+1))) (A1 (A2 6)) 0 with ⟨⟨i,h1,h2,h3⟩,h4⟩ | ⟨h1,h2⟩
  ·exact .inl ⟨⟨x,by simp,i,by simpa using h2,h3⟩,h4⟩
  ·rw[h2]
   rcases qeW S ha K r (k+1) (fun y hy=>hr y (by simp[hy])) with ⟨⟨b,g1,g2⟩,g3⟩ | ⟨g1,g2⟩
   ·exact .inl ⟨⟨b,by simp[g1],g2⟩,g3⟩
   ·refine .inr ⟨fun b hb i hi=>?_,g2⟩
    rcases List.mem_cons.1 hb with rfl | hb
    ·exact h1 i (Nat.zero_le _) (by simpa using hi)
    ·exact g1 b hb i hi
theorem qeX (S:SnapOk h s) (K:Option Bool):∀ (r:List Int) (k:Nat),(∀ x,x∈r→x∈commL h) →
  ((∃ a,a∈r∧∃ b,b∈commL h∧∃ i:Nat,i<6∧badA h a b i)∧qN s K r k=some false)∨((∀ a,a∈r→∀ b,b∈commL h→∀ i:Nat,i<6→¬ badA h a b i)∧qN s K r k=K)
 | [],k,_=>.inr ⟨fun i h1=>by simp at h1,by rw[qN.eq_1]⟩
 | x::r,k,hr=>by
  rw[qN.eq_2,S.tx,jv (by have:=Xx h;omega),qx]
  rcases qeW S (hr x (by simp)) (jF (qN s K r (k+1))) (commL h) 0 (fun y hy=>hy) with ⟨⟨b,h1,h2⟩,h4⟩ | ⟨h1,h2⟩
  ·exact .inl ⟨⟨x,by simp,b,h1,h2⟩,h4⟩
  ·rw[h2]
   rcases qeX S K r (k+1) (fun y hy=>hr y (by simp[hy])) with ⟨⟨b,g1,g2⟩,g3⟩ | ⟨g1,g2⟩
   ·exact .inl ⟨⟨b,by simp[g1],g2⟩,g3⟩
   ·refine .inr ⟨fun b hb=>?_,g2⟩
    rcases List.mem_cons.1 hb with rfl | hb
    ·exact h1
    ·exact g1 b hb
def NoBad (h:List rf5Op):Prop:=∀ a,a∈commL h→∀ b,b∈commL h→∀ i:Nat,i<6→¬ badA h a b i
theorem qgM (S:SnapOk h s):(NoBad h∧Jb s=some true)∨(¬ NoBad h∧Jb s=some false):=by
 unfold Jb;rw[S.tx,jv (by have:=Xx h;omega),qx]
 rcases qeX S jk (commL h) 0 (fun y hy=>hy) with ⟨⟨a,g1,b,g2,i,g3,g4⟩,g5⟩ | ⟨g1,g2⟩
 ·exact .inr ⟨fun hn=>hn a g1 b g2 i g3 g4,g5⟩
 ·exact .inl ⟨g1,g2⟩
end Go.AM
namespace Go.AM
open Go.Proofs
abbrev keys2 (l:List (qj×Bool)):List qj:=l.map Prod.fst
structure GoodM (n:Nat) (m:List (qj×Bool)) (E:Int→Int→Prop):Prop where
 len:m.length≤n
 nd:(keys2 m).Nodup
 tt:∀ p,p∈m→p.2=true
 mem:∀ a b,qj.mk a b∈keys2 m↔E a b
theorem GoodM.congr {n n':Nat} {m:List (qj×Bool)} {E F:Int→Int→Prop} (h:GoodM n m E) (hn:n≤n') (he:∀ a b,E a b↔F a b):GoodM n' m F :=
 ⟨Nat.le_trans h.len hn,h.nd,h.tt,fun a b=>(h.mem a b).trans (he a b)⟩
theorem mset_keys (k:qj) (v:Bool):∀ l:List (qj×Bool),(k∈keys2 l→keys2 (mset qv k v l)=keys2 l)∧(k ∉ keys2 l→keys2 (mset qv k v l)=keys2 l++[k])
 | []=>⟨fun h=>by simp at h,fun _=>rfl⟩
 | p::r=>by
  obtain⟨h1,h2⟩:=mset_keys k v r;unfold mset;by_cases hp:p.1=k
  ·rw[(Zy p.1 k).2 hp,cT];exact⟨fun _=>rfl,fun h=>absurd (by simp[hp]) h⟩
  ·rw[Dk hp,cN];refine⟨fun h=>?_,fun h=>?_⟩
   ·simp only[A5,A7]at h ⊢
    rcases h with h | h
    ·exact absurd h.symm hp
    ·exact congrArg (p.1::·) (h1 h)
   ·simp only[A5,A7,not_or]at h ⊢;exact congrArg (p.1::·) (h2 h.2)
theorem qeY (k:qj):∀ l:List (qj×Bool),(∀ p,p∈l→p.2=true)→∀ p,p∈mset qv k true l→p.2=true
 | [],_,p,hp=>by simp[mset]at hp;rw[hp]
 | q::r,h,p,hp=>by
  unfold mset at hp;by_cases hq:q.1=k
  ·rw[(Zy q.1 k).2 hq,cT]at hp
   rcases List.mem_cons.1 hp with rfl | hp
   ·rfl
   ·exact h p (by simp[hp])
  ·rw[Dk hq,cN]at hp
   rcases List.mem_cons.1 hp with rfl | hp
   ·exact h _ (by simp)
   ·exact qeY k r (fun x hx=>h x (by simp[hx])) p hp
theorem GoodM.set {n:Nat} {m:List (qj×Bool)} {E:Int→Int→Prop} (h:GoodM n m E) (a b:Int):GoodM (n+1) (mset qv (qj.mk a b) true m) (fun c d=>E c d∨(c=a∧d=b)):=by
 obtain⟨h1,h2⟩:=mset_keys (qj.mk a b) true m;refine⟨Nat.le_trans (NY _ _ _) (by have:=h.len;omega),?_,qeY _ _ h.tt,fun c d=>?_⟩
 ·by_cases hk:qj.mk a b∈keys2 m
  ·rw[h1 hk];exact h.nd
  ·rw[h2 hk];refine List.nodup_append.2 ⟨h.nd,by simp,fun x hx y hy=>?_⟩;simp at hy;subst hy
   exact fun e=>hk (e ▸ hx)
 ·by_cases hk:qj.mk a b∈keys2 m
  ·rw[h1 hk,h.mem];refine⟨.inl,fun hh=>?_⟩
   rcases hh with hh | ⟨rfl,rfl⟩
   ·exact hh
   ·exact (h.mem _ _).1 hk
  ·rw[h2 hk,List.mem_append,h.mem];simp
theorem GoodM.edge {n:Nat} {m:List (qj×Bool)} {E:Int→Int→Prop} (h:GoodM n m E) (a b:Int):edgeB m a b=true↔E a b:=by
 rw[← h.mem];have ht:=h.tt;clear h;unfold edgeB
 induction m with
 | nil=>simp[mget]
 | cons p r ih =>
  have ih:=ih fun x hx=>ht x (by simp[hx])
  unfold mget;by_cases hp:p.1=qj.mk a b
  ·rw[(Zy _ _).2 hp,cT,ht p (by simp)];simp[hp]
  ·rw[Dk hp,cN];refine Iff.trans ih ?_;simp only[A5,A7];exact⟨.inr,fun h=>by rcases h with h | h;exact absurd h.symm hp;exact h⟩
def antiC (h:List rf5Op) (a b i:Int):Prop:=readsL a i h=true∧writesL h b i=true∧endL b 2 h 0 > begL a h 0
def restC (h:List rf5Op) (a b i:Int):Prop:=(writesL h a i=true∧writesL h b i=true∧endL a 2 h 0<endL b 2 h 0)∨(readsL b i h=true∧srcL h b i=a)
variable {h:List rf5Op} {s:je}
abbrev Map2:=List (qj×Bool)
theorem pj48 {n:Nat} {u:Map2} {F:Int→Int→Prop} {a b:Int} (hu:GoodM n u F) (hn:n≤100000) (ha:a∈commL h) (hb:b∈commL h) (v:Map2) (K:Map2→Map2→Option (Map2×Map2)) (B:Bool) :
  ∃ u',jb a b v u K B=K v u'∧GoodM (n+1) u' (fun c d=>F c d∨(c=a∧d=b∧B=true)):=by
 unfold jb
 cases B with
 | true =>
  have hl:A3 u.length 1000000000=true:=by have:=hu.len;simp[A3];omega
  rw[cT,Xh ha,Xh hb,hl,Bool.and_self,qx,qx];exact⟨_,rfl,(hu.set a b).congr (A4 _) fun c d=>by simp⟩
 | false=>exact⟨u,rfl,hu.congr (by omega) fun c d=>by simp⟩
theorem pj23 (S:SnapOk h s) {n:Nat} {u:Map2} {F:Int→Int→Prop} {a b:Int} (hu:GoodM n u F) (hn:n≤100000) (ha:a∈commL h) (hb:b∈commL h) (k:Nat) (v:Map2) (K:Map2→Map2→Option (Map2×Map2)) :
  ∃ u',qX s a b k K v u=K v u'∧GoodM (n+1) u' (fun c d=>F c d∨(c=a∧d=b∧restC h a b k)):=by
 have key:∀ B:Bool,(B=true↔restC h a b k)→qX s a b k K v u=jb a b v u K B→∃ u',qX s a b k K v u=K v u'∧GoodM (n+1) u' (fun c d=>F c d∨(c=a∧d=b∧restC h a b k)):=fun B hB he=>by
  obtain⟨u',h1,h2⟩:=pj48 hu hn ha hb v K B;exact⟨u',he.trans h1,h2.congr (A4 _) fun c d=>by rw[hB]⟩
 refine key ((writesL h a (k:Int) && (writesL h b (k:Int) && decide (endL a 2 h 0<endL b 2 h 0))) || (readsL b (k:Int) h && (srcL h b (k:Int) == a))) (by simp[restC]) ?_;unfold qX;simp only[Nj S,qeR S,qgK S hb,A0,Xh ha,Xh hb,qx,S.en a ha,S.en b hb];cases writesL h a (k:Int) <;> cases writesL h b (k:Int) <;> cases decide (endL a 2 h 0<endL b 2 h 0) <;> cases readsL b (k:Int) h <;> rfl
theorem pj24 {n:Nat} {v u:Map2} {E F:Int→Int→Prop} {a b:Int} (hv:GoodM n v E) (hu:GoodM n u F) (hn:n≤100000) (ha:a∈commL h) (hb:b∈commL h) (K:Map2→Map2→Option (Map2×Map2)) (B:Bool) :
  ∃ v' u',jO a b v u K B=K v' u'∧GoodM (n+1) v' (fun c d=>E c d∨(c=a∧d=b∧B=true))∧GoodM (n+1) u' (fun c d=>F c d∨(c=a∧d=b∧B=true)):=by
 unfold jO
 cases B with
 | true =>
  have hl:A3 u.length 1000000000=true:=by have:=hu.len;simp[A3];omega
  have hl':A3 v.length 1000000000=true:=by have:=hv.len;simp[A3];omega
  rw[cT,Xh ha,Xh hb,hl,hl',Bool.and_self,qx,qx,qx,qx];exact⟨_,_,rfl,(hv.set a b).congr (A4 _) fun c d=>by simp,(hu.set a b).congr (A4 _) fun c d=>by simp⟩
 | false=>exact⟨v,u,rfl,hv.congr (by omega) fun c d=>by simp,hu.congr (by omega) fun c d=>by simp⟩
theorem qda (a:Int) (K:Map2→Map2→Option (Map2×Map2)) (v u:Map2):∀ (r:List Nat) (k:Nat),qt s a a K r k v u=K v u
 | [],k=>by rw[qt.eq_1]
 | x::r,k=>by
  rw[qt.eq_2,beq_self_eq_true,cT];exact qda a K v u r (k+1)
theorem qeT (S:SnapOk h s) {a b:Int} (ha:a∈commL h) (hb:b∈commL h) (hab:a≠b) (K:Map2→Map2→Option (Map2×Map2)):∀ (r:List Nat) (k n:Nat) (v u:Map2) (E F:Int→Int→Prop),GoodM n v E→GoodM n u F→n+2 * r.length≤100000 →
  ∃ v' u',qt s a b K r k v u=K v' u'∧GoodM (n+2 * r.length) v' (fun c d=>E c d∨(c=a∧d=b∧∃ i:Nat,k≤i∧i<k+r.length∧antiC h a b i)) ∧
   GoodM (n+2 * r.length) u' (fun c d=>F c d∨(c=a∧d=b∧∃ i:Nat,k≤i∧i<k+r.length∧(antiC h a b i∨restC h a b i)))
 | [],k,n,v,u,E,F,hv,hu,hn=>⟨v,u,by rw[qt.eq_1],hv.congr (by simp) fun c d=>⟨.inl,fun hh=>by rcases hh with hh | ⟨_,_,i,h1,h2,_⟩;exact hh;simp at h2;omega⟩,hu.congr (by simp) fun c d=>⟨.inl,fun hh=>by rcases hh with hh | ⟨_,_,i,h1,h2,_⟩;exact hh;simp at h2;omega⟩⟩
 | x::r,k,n,v,u,E,F,hv,hu,hn=>by
  have hn':n+2 * (r.length+1)≤100000:=hn
  have key:∀ B:Bool,(B=true↔antiC h a b k)→qt s a b K (x::r) k v u=jO a b v u (qX s a b k (qt s a b K r (k+1))) B→(∃ v' u',qt s a b K (x::r) k v u=K v' u'∧GoodM (n+2 * (x::r).length) v' (fun c d=>E c d∨(c=a∧d=b∧∃ i:Nat,k≤i∧i<k+(x::r).length∧antiC h a b i)) ∧
    GoodM (n+2 * (x::r).length) u' (fun c d=>F c d∨(c=a∧d=b∧∃ i:Nat,k≤i∧i<k+(x::r).length∧(antiC h a b i∨restC h a b i)))):=fun B hB he=>by
   obtain⟨v1,u1,e1,g1,g2⟩:=pj24 (h:=h) hv hu (by omega) ha hb (qX s a b k (qt s a b K r (k+1))) B;obtain⟨u2,e2,g3⟩:=pj23 S g2 (by omega) ha hb k v1 (qt s a b K r (k+1));obtain⟨v3,u3,e3,g4,g5⟩:=qeT S ha hb hab K r (k+1) (n+2) v1 u2 _ _ (g1.congr (by omega) fun _ _=>Iff.rfl) (g3.congr (by omega) fun _ _=>Iff.rfl) (by omega);refine⟨v3,u3,by rw[he,e1,e2,e3],g4.congr (by simp;omega) fun c d=>?_,g5.congr (by simp;omega) fun c d=>?_⟩
   ·rw[hB];constructor
    ·rintro ((hh | ⟨h1,h2,h3⟩) | ⟨h1,h2,i,h3,h4,h5⟩)
     ·exact .inl hh
     ·exact .inr ⟨h1,h2,k,A4 _,by simp,h3⟩
     ·exact .inr ⟨h1,h2,i,by omega,by simp;omega,h5⟩
    ·rintro (hh | ⟨h1,h2,i,h3,h4,h5⟩)
     ·exact .inl (.inl hh)
     ·by_cases e:i=k
      ·subst e;exact .inl (.inr ⟨h1,h2,h5⟩)
      ·exact .inr ⟨h1,h2,i,by omega,by simp at h4;omega,h5⟩
   ·rw[hB];constructor
    ·rintro (((hh | ⟨h1,h2,h3⟩) | ⟨h1,h2,h3⟩) | ⟨h1,h2,i,h3,h4,h5⟩)
     ·exact .inl hh
     ·exact .inr ⟨h1,h2,k,A4 _,by simp,.inl h3⟩
     ·exact .inr ⟨h1,h2,k,A4 _,by simp,.inr h3⟩
     ·exact .inr ⟨h1,h2,i,by omega,by simp;omega,h5⟩
    ·rintro (hh | ⟨h1,h2,i,h3,h4,h5⟩)
     ·exact .inl (.inl (.inl hh))
     ·by_cases e:i=k
      ·subst e
       rcases h5 with h5 | h5
       ·exact .inl (.inl (.inr ⟨h1,h2,h5⟩))
       ·exact .inl (.inr ⟨h1,h2,h5⟩)
      ·exact .inr ⟨h1,h2,i,by omega,by simp at h4;omega,h5⟩
  refine key (readsL a (k:Int) h && (writesL h b (k:Int) && decide (endL b 2 h 0 > begL a h 0))) (by simp[antiC]) ?_;rw[qt.eq_2,beq_eq_false_iff_ne.2 hab,cN];unfold jc;simp only[Nj S,qeR S,A0,Xh ha,Xh hb,qx,S.en b hb,S.be a ha];cases readsL a (k:Int) h <;> cases writesL h b (k:Int) <;> cases decide (endL b 2 h 0 > begL a h 0) <;> rfl
def antiP (h:List rf5Op) (c d:Int):Prop:=c≠d∧∃ i:Nat,i<6∧antiC h c d i
def allP (h:List rf5Op) (c d:Int):Prop:=c≠d∧∃ i:Nat,i<6∧(antiC h c d i∨restC h c d i)
theorem qcg (S:SnapOk h s) {a:Int} (ha:a∈commL h) (K:Map2→Map2→Option (Map2×Map2)):∀ (r:List Int) (k n:Nat) (v u:Map2) (E F:Int→Int→Prop),(∀ x,x∈r→x∈commL h)→GoodM n v E→GoodM n u F→n+12 * r.length≤100000 →
  ∃ v' u',qF s a K r k v u=K v' u'∧GoodM (n+12 * r.length) v' (fun c d=>E c d∨(c=a∧d∈r∧antiP h c d))∧GoodM (n+12 * r.length) u' (fun c d=>F c d∨(c=a∧d∈r∧allP h c d))
 | [],k,n,v,u,E,F,_,hv,hu,hn=>⟨v,u,by rw[qF.eq_1],hv.congr (by simp) fun c d=>by simp,hu.congr (by simp) fun c d=>by simp⟩
 | x::r,k,n,v,u,E,F,hr,hv,hu,hn=>by
  have hn':n+12 * (r.length+1)≤100000:=hn
  have hl:lenOk (A1 (A2 6))=true:=by decide
  have hx:=hr x (by simp);rw[qF.eq_2,hl,qx]
  have hlen:(A1 (A2 6)).length=6:=by decide
  unfold qT;by_cases hax:a=x
  ·subst hax;rw[qda];obtain⟨v1,u1,e1,g1,g2⟩:=qcg S ha K r (k+1) n v u E F (fun y hy=>hr y (by simp[hy])) hv hu (by omega);refine⟨v1,u1,e1,g1.congr (by simp;omega) fun c d=>?_,g2.congr (by simp;omega) fun c d=>?_⟩
   ·unfold antiP;constructor
    ·rintro (hh | ⟨h1,h2,h3⟩)
     ·exact .inl hh
     ·exact .inr ⟨h1,by simp[h2],h3⟩
    ·rintro (hh | ⟨h1,h2,h3,h4⟩)
     ·exact .inl hh
     ·rcases List.mem_cons.1 h2 with e | h2
      ·exact absurd (h1.trans e.symm) h3
      ·exact .inr ⟨h1,h2,h3,h4⟩
   ·unfold allP;constructor
    ·rintro (hh | ⟨h1,h2,h3⟩)
     ·exact .inl hh
     ·exact .inr ⟨h1,by simp[h2],h3⟩
    ·rintro (hh | ⟨h1,h2,h3,h4⟩)
     ·exact .inl hh
     ·rcases List.mem_cons.1 h2 with e | h2
      ·exact absurd (h1.trans e.symm) h3
      ·exact .inr ⟨h1,h2,h3,h4⟩
  ·obtain⟨v1,u1,e1,g1,g2⟩:=qeT S ha hx hax (qF s a K r (k+1)) (A1 (A2 6)) 0 n v u E F hv hu (by rw[hlen];omega);rw[hlen]at g1 g2;obtain⟨v2,u2,e2,g3,g4⟩:=qcg S ha K r (k+1) (n+12) v1 u1 _ _ (fun y hy=>hr y (by simp[hy])) (g1.congr (by omega) fun _ _=>Iff.rfl) (g2.congr (by omega) fun _ _=>Iff.rfl) (by omega);refine⟨v2,u2,by rw[e1,e2],g3.congr (by simp;omega) fun c d=>?_,g4.congr (by simp;omega) fun c d=>?_⟩
   ·unfold antiP;constructor
    ·rintro ((hh | ⟨rfl,rfl,i,_,h3,h4⟩) | ⟨h1,h2,h3⟩)
     ·exact .inl hh
     ·exact .inr ⟨rfl,by simp,hax,i,by omega,h4⟩
     ·exact .inr ⟨h1,by simp[h2],h3⟩
    ·rintro (hh | ⟨rfl,h2,h3,i,h4,h5⟩)
     ·exact .inl (.inl hh)
     ·rcases List.mem_cons.1 h2 with rfl | h2
      ·exact .inl (.inr ⟨rfl,rfl,i,Nat.zero_le _,by omega,h5⟩)
      ·exact .inr ⟨rfl,h2,h3,i,h4,h5⟩
   ·unfold allP;constructor
    ·rintro ((hh | ⟨rfl,rfl,i,_,h3,h4⟩) | ⟨h1,h2,h3⟩)
     ·exact .inl hh
     ·exact .inr ⟨rfl,by simp,hax,i,by omega,h4⟩
     ·exact .inr ⟨h1,by simp[h2],h3⟩
    ·rintro (hh | ⟨rfl,h2,h3,i,h4,h5⟩)
     ·exact .inl (.inl hh)
     ·rcases List.mem_cons.1 h2 with rfl | h2
      ·exact .inl (.inr ⟨rfl,rfl,i,Nat.zero_le _,by omega,h5⟩)
      ·exact .inr ⟨rfl,h2,h3,i,h4,h5⟩
theorem qeU (S:SnapOk h s) (K:Map2→Map2→Option (Map2×Map2)):∀ (r:List Int) (k n:Nat) (v u:Map2) (E F:Int→Int→Prop),(∀ x,x∈r→x∈commL h)→GoodM n v E→GoodM n u F→n+72 * r.length≤100000 →
  ∃ v' u',qu s K r k v u=K v' u'∧GoodM (n+72 * r.length) v' (fun c d=>E c d∨(c∈r∧d∈commL h∧antiP h c d))∧GoodM (n+72 * r.length) u' (fun c d=>F c d∨(c∈r∧d∈commL h∧allP h c d))
 | [],k,n,v,u,E,F,_,hv,hu,hn=>⟨v,u,by rw[qu.eq_1],hv.congr (by simp) fun c d=>by simp,hu.congr (by simp) fun c d=>by simp⟩
 | x::r,k,n,v,u,E,F,hr,hv,hu,hn=>by
  have hn':n+72 * (r.length+1)≤100000:=hn;have hc6:=Xx h;rw[qu.eq_2,S.tx,jv (by omega),qx];unfold qI;obtain⟨v1,u1,e1,g1,g2⟩:=qcg S (hr x (by simp)) (qu s K r (k+1)) (commL h) 0 n v u E F (fun y hy=>hy) hv hu (by omega);obtain⟨v2,u2,e2,g3,g4⟩:=qeU S K r (k+1) (n+72) v1 u1 _ _ (fun y hy=>hr y (by simp[hy])) (g1.congr (by omega) fun _ _=>Iff.rfl) (g2.congr (by omega) fun _ _=>Iff.rfl) (by omega);refine⟨v2,u2,by rw[e1,e2],g3.congr (by simp;omega) fun c d=>?_,g4.congr (by simp;omega) fun c d=>?_⟩ <;>
  ·simp only[A7,or_and_right];exact or_assoc
def antiE (h:List rf5Op) (c d:Int):Prop:=c∈commL h∧d∈commL h∧antiP h c d
def allE (h:List rf5Op) (c d:Int):Prop:=c∈commL h∧d∈commL h∧allP h c d
theorem qei (S:SnapOk h s):∃ v u,QS s=some (v,u)∧GoodM 500 v (antiE h)∧GoodM 500 u (allE h):=by
 unfold QS;have hc6:=Xx h;have g0:GoodM 0 [] (fun _ _=>False):=⟨A4 _,by simp,by simp,fun _ _=>by simp⟩;obtain⟨v,u,e,g1,g2⟩:=qeU S (qA) (commL h) 0 0 [] [] _ _ (fun y hy=>hy) g0 g0 (by omega);rw[S.tx,jv (by omega),qx,e];exact⟨v,u,rfl,g1.congr (by omega) fun c d=>by simp[antiE],g2.congr (by omega) fun c d=>by simp[allE]⟩
end Go.AM
namespace Go.AM
open Go.Proofs
def snOkB (h:List rf5Op):Bool:=(commL h).all fun a=>(commL h).all fun b=>(A1 6).all fun i=>!(decide (a<b) && (ovL h a b && (writesL h a (i:Nat) && writesL h b (i:Nat))))
theorem NO (h:List rf5Op):snOkB h=true↔NoBad h:=by
 unfold snOkB NoBad badA;simp only[List.all_eq_true,List.mem_range];constructor
 ·rintro hh a ha b hb i hi ⟨h1,h2,h3,h4⟩
  have:=hh a ha b hb i hi;rw[h2,h3,h4,dT h1]at this;cases this
 ·intro hh a ha b hb i hi;have:=hh a ha b hb i hi
  cases h1:decide (a<b) <;> cases h2:ovL h a b <;> cases h3:writesL h a (i:Int) <;> cases h4:writesL h b (i:Int) <;> first | rfl | skip
  exact absurd ⟨of_decide_eq_true h1,h2,h3,h4⟩ this
def antiB (h:List rf5Op) (a b:Int):Bool:=(commL h).contains a && ((commL h).contains b && ((a != b) && (A1 6).any fun i=>readsL a (i:Nat) h && (writesL h b (i:Nat) && decide (endL b 2 h 0 > begL a h 0))))
def restB (h:List rf5Op) (a b:Int):Bool:=(commL h).contains a && ((commL h).contains b && ((a != b) && (A1 6).any fun i=>(writesL h a (i:Nat) && (writesL h b (i:Nat) && decide (endL a 2 h 0<endL b 2 h 0))) || (readsL b (i:Nat) h && (srcL h b (i:Nat) == a))))
def allB (h:List rf5Op) (a b:Int):Bool:=antiB h a b || restB h a b
theorem qgu (h:List rf5Op) (a b:Int):antiB h a b=true↔antiE h a b:=by
 unfold antiB antiE antiP antiC;simp[B7]
theorem qap (h:List rf5Op) (a b:Int):allB h a b=true↔allE h a b:=by
 unfold allB;rw[Bool.or_eq_true,qgu];unfold restB antiE allE antiP allP antiC restC;simp only[A8,B7,bne_iff_ne,List.any_eq_true,List.mem_range,Bool.or_eq_true,decide_eq_true_eq,beq_iff_eq];constructor
 ·rintro (⟨h1,h2,h3,i,h4,h5⟩ | ⟨h1,h2,h3,i,h4,h5⟩)
  ·exact⟨h1,h2,h3,i,h4,.inl h5⟩
  ·exact⟨h1,h2,h3,i,h4,.inr h5⟩
 ·rintro⟨h1,h2,h3,i,h4,h5 | h5⟩
  ·exact .inl ⟨h1,h2,h3,i,h4,h5⟩
  ·exact .inr ⟨h1,h2,h3,i,h4,h5⟩
theorem qhv (h:List rf5Op) (a:Int):allB h a a=false:=by
 cases hh:allB h a a
 ·rfl
 ·exact absurd rfl ((qap h a a).1 hh).2.2.1
def snapR (h:List rf5Op):Bool×Int:=if validB h then (snOkB h,0) else (false,2)
def sordR (h:List rf5Op):List Int×Int:=if validB h then (if snOkB h then (match topo (allB h) (commL h).length (commL h) with | some o=>(o,0) | none=>([],5)) else ([],7)) else ([],2)
theorem qeS {h:List rf5Op} {s:je} (S:SnapOk h s):Jb s=some (snOkB h):=by
 rcases qgM S with ⟨h1,h2⟩ | ⟨h1,h2⟩
 ·rw[h2,(NO h).2 h1]
 ·have:snOkB h=false:=by
   cases hh:snOkB h
   ·rfl
   ·exact absurd ((NO h).1 hh) h1
  rw[h2,this]
theorem qhk {h:List rf5Op} {u:Map2} (g:GoodM 500 u (allE h)):edgeB u=allB h:=by
 funext a b
 rw[Bool.eq_iff_iff,g.edge,qap]
theorem qgD (h:List rf5Op):YV bigFuel ((h.take 43).map cv)=some (snapR h):=by
 unfold YV snapR Qu;rw[Vj,A0]
 cases hv:validB h with
 | false=>rfl
 | true =>
  obtain⟨H,hlen⟩:=YN hv;obtain⟨s,e,S⟩:=qcF H;rw[B9 (by omega),B6,cN,e,A0,qeS S];rfl
theorem qgC (h:List rf5Op):Xf bigFuel ((h.take 43).map cv)=some (sordR h):=by
 unfold Xf sordR Qu;rw[Vj,A0]
 cases hv:validB h with
 | false=>rfl
 | true =>
  obtain⟨H,hlen⟩:=YN hv;obtain⟨s,e,S⟩:=qcF H;rw[B9 (by omega),B6,cN,e,A0,qeS S,A0]
  cases ho:snOkB h with
  | false=>rfl
  | true =>
   obtain⟨v,u,e2,g1,g2⟩:=qei S;rw[B6,cN,e2,A0];simp only[S.tx];rw[Dw (by have:=Xx h;omega) (Yg h) Dl,qhk g2,A0];simp only[if_true];cases topo (allB h) (commL h).length (commL h) <;> rfl
end Go.AM
namespace Go.AM
open Go.Proofs
end Go.AM
