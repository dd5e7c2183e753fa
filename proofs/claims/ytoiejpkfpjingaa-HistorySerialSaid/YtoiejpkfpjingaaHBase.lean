import Derived.Test.YtoiejpkfpjingaaLST
import Derived.Test.YtoiejpkfpjingaaSET
import Derived.Test.YtoiejpkfpjingaaHAT
import Derived.Test.YtoiejpkfpjingaaChecked
import Derived.Test.YtoiejpkfpjingaaRows
import Derived.ProofKit
import Derived.OpenShut
set_option linter.all false
set_option maxRecDepth 100000
open Option renaming bind_some→A0
open List renaming map→A1, length_map→A2, length_append→A3, length_singleton→A4, append_of_mem→A5, length_cons→A6, length_erase_of_mem→A9, take_of_length_le→B5
open Nat renaming le_refl→A7
open Bool renaming and_eq_true→A8
namespace Go.AM
open Go.Proofs
noncomputable def qck (fuel:Nat) (a1:(List hsOp)):Option ((List hsOp)×(List Int)×Int):=lockP fuel a1
theorem qcM (fuel:Nat) (a1:(List hsOp)) (r:((List hsOp)×(List Int)×Int)) (h:qck fuel a1=some r):Run Try.prog (.call 32 [l44 none a1] (.tup [l44 none r.1,l3 none r.2.1,I6 r.2.2])):=.ext0 (Try.lock32 h)
def Ys (a1:Int):Option Bool :=
 (some (a1 != a1))
theorem ZX (a1:Int) (r:Bool) (h:Ys a1=some r):Run Try.prog (.call 103 [I6 a1] (.bool r)):=by
 refine cW Try.func103 rfl (env0:=[(0,I6 a1)]) ?_;unfold Ys at h;refine W.seq<|W.rt (e2:=[(0,I6 a1)]) ?_;refine W.seq<|W.rt (e2:=[(2,.bool (a1 != a1))]) ?_;refine W.wk (e:=[(2,.bool (a1 != a1))]) ?_;cases h;exact W.rr
def XG (a1:Int) (a2:Int):Option Int :=
 ((Ys a1).bind fun w5=>((Ys a2).bind fun w7=>(bif w5 then (bif w7 then (some 0) else (some (-1))) else (bif w7 then (some 1) else (bif (decide (a1<a2)) then (some (-1)) else (bif (decide (a1 > a2)) then (some 1) else (some 0)))))))
theorem UJ (a1:Int) (a2:Int) (r:Int) (h:XG a1 a2=some r):Run Try.prog (.call 73 [I6 a1,I6 a2] (I6 r)):=by
 refine cW Try.func73 rfl (env0:=[(0,I6 a1),(1,I6 a2)]) ?_;unfold XG at h;refine W.seq ?_;let z0:=fun t=>EN ((0,I6 a1)::(1,I6 a2)::t);refine W.rt (e2:=z0 []) ?_;refine W.sr ?_;obtain⟨w5,hw5,h⟩:=ql h;refine WO.ck 1 (F:=103) (l:=[I6 a1]) (C:=[]) (r:=.bool w5) (ZX a1 w5 hw5) (e1:=z0 [(7,I6 a1),(8,.bool w5)])<|WO.fn (e2:=z0 [(5,.bool w5)]) ?_;refine W.sr ?_;obtain⟨w7,hw7,h⟩:=ql h;refine WO.ck 1 (F:=103) (l:=[I6 a2]) (C:=[]) (r:=.bool w7) (ZX a2 w7 hw7) (e1:=z0 [(5,.bool w5),(9,I6 a2),(10,.bool w7)])<|WO.fn (e2:=z0 [(5,.bool w5),(6,.bool w7)]) ?_;refine W.seq<|W.seq<|W.rt (e2:=z0 [(6,.bool w7),(11,.bool w5)]) ?_;refine W.ch w5 h (fun h=>?_) (fun h=>?_)
 ·refine W.seq<|W.seq<|W.rt (e2:=[(12,.bool w7)]) ?_;refine W.ch w7 h (fun h=>?_) (fun h=>?_)
  ·refine W.seq<|W.rt (e2:=[(4,.int .i64 0)]) ?_;refine W.wk (e:=[(4,.int .i64 0)]) ?_;cases h;exact W.rr
  refine W.sw (e:=[]) ?_;refine W.seq<|W.rt (e2:=[(4,I6 (-1))]) ?_;refine W.wk (e:=[(4,I6 (-1))]) ?_;cases h;exact W.rr
 refine W.sw (e:=z0 [(6,.bool w7)]) ?_;refine W.seq<|W.seq<|W.rt (e2:=z0 [(13,.bool w7)]) ?_;refine W.ch w7 h (fun h=>?_) (fun h=>?_)
 ·refine W.seq<|W.rt (e2:=[(4,.int .i64 1)]) ?_;refine W.wk (e:=[(4,.int .i64 1)]) ?_;cases h;exact W.rr
 refine W.sw (e:=z0 []) ?_;refine W.seq<|W.seq<|W.rt (e2:=z0 [(16,.bool (decide (a1<a2)))]) ?_;refine W.ch (decide (a1<a2)) h (fun h=>?_) (fun h=>?_)
 ·refine W.seq<|W.rt (e2:=[(4,I6 (-1))]) ?_;refine W.wk (e:=[(4,I6 (-1))]) ?_;cases h;exact W.rr
 refine W.sw (e:=z0 []) ?_;refine W.seq<|W.seq<|W.rt (e2:=[(19,.bool (decide (a1 > a2)))]) ?_;refine W.ch (decide (a1 > a2)) h (fun h=>?_) (fun h=>?_)
 ·refine W.seq<|W.rt (e2:=[(4,.int .i64 1)]) ?_;refine W.wk (e:=[(4,.int .i64 1)]) ?_;cases h;exact W.rr
 refine W.sw (e:=[]) ?_;refine W.seq<|W.rt (e2:=[(4,.int .i64 0)]) ?_;refine W.wk (e:=[(4,.int .i64 0)]) ?_;cases h;exact W.rr
def QP (a1:(List Int)) (a2:(List Int)):Option Int :=
 (bif (decide ((a1.length:Int)<(a2.length:Int))) then (some (-1)) else (some 0))
def Jt (a2:(List Int)) (K4:(Option Int)):List Int→Nat→Option Int
 | [],k1=>K4
 | x1::r1,k1=>(bif (decide ((k1:Int) ≥ (a2.length:Int))) then (some 1) else ((idx a2 (k1:Int)).bind fun e12=>((XG x1 e12).bind fun w14=>(bif (w14 != 0) then (some w14) else (Jt a2 K4 r1 (k1+1))))))
def Xc (a1:(List Int)) (a2:(List Int)):Option Int :=
 (chk (lenOk a1) (Jt a2 (QP a1 a2) a1 0))
theorem Zs (a1:(List Int)) (a2:(List Int)) (r:Int) (h:Xc a1 a2=some r):Run Try.prog (.call 37 [l3 none a1,l3 none a2] (I6 r)):=by
 refine cW Try.func37 rfl (env0:=[(0,l3 none a1),(1,l3 none a2)]) ?_;unfold Xc at h;refine W.seq ?_;let z0:=fun t=>EN ((0,l3 none a1)::(1,l3 none a2)::t);refine W.rt (e2:=z0 []) ?_;refine W.seq<|W.join (σ:=Unit) (fun s=>z0 []) (fun s=>(QP a1 a2)=some r) (fun s h=>?_) (fun hK4=>?_)
 ·unfold QP at h;refine W.seq<|W.sr ?_;let z1:=fun t=>z0 ((31,l3 none a1)::(32,I6 (a1.length:Int))::t);refine WO.pq 1 (jM (.int .i64) a1) (e1:=z1 [])<|WO.pq 1 (jM (.int .i64) a2) (e1:=z1 [(33,l3 none a2),(34,I6 (a2.length:Int))])<|WO.fn (e2:=[(35,.bool (decide ((a1.length:Int)<(a2.length:Int))))]) ?_;refine W.ch (decide ((a1.length:Int)<(a2.length:Int))) h (fun h=>?_) (fun h=>?_)
  ·refine W.seq<|W.rt (e2:=[(4,I6 (-1))]) ?_;refine W.wk (e:=[(4,I6 (-1))]) ?_;cases h;exact W.rr
  refine W.sw (e:=[]) ?_;refine W.seq<|W.rt (e2:=[(4,.int .i64 0)]) ?_;refine W.wk (e:=[(4,.int .i64 0)]) ?_;cases h;exact W.rr
 refine W.sr ?_;let z2:=fun t=>z0 ((9,l3 none a1)::(10,I6 (a1.length:Int))::t);refine WO.pq 1 (jM (.int .i64) a1) (e1:=z2 [])<|WO.fn (e2:=z2 [(11,.int .i64 0)]) ?_;refine W.block ?_;obtain⟨hl1,h⟩:=qq h;refine W.wk (e:=z2 [(11,I6 ((0:Nat):Int))])<|W.range (σ:=Unit) a1 (fun k1 s=>z2 [(11,I6 (k1:Int))]) (fun r0 k0 s=>Jt a2 (QP a1 a2) r0 k0=some r) (fun s h=>?_) (fun x1 r1 k1 s hx1 hk1 h hN1=>?_) () h
 ·rw[Jt.eq_1]at h;refine W.sr ?_;let y0:Env:=[(1,l3 none a2),(9,l3 none a1),(10,I6 (a1.length:Int)),(11,I6 ((a1).length:Int)),(12,.bool false)];refine WO.pq 0 (jB (jj (l:=a1))) (e1:=((0,l3 none a1)::y0))<|WO.fn (e2:=((0,l3 none a1)::y0)) ?_;refine W.seq<|W.cF<|W.exit<|W.wk (e:=z0 []) ?_;exact hK4 () h
 ·rw[Jt.eq_2]at h;refine W.sr ?_;let y1:Env:=[(1,l3 none a2),(9,l3 none a1),(10,I6 (a1.length:Int)),(11,I6 (k1:Int)),(12,.bool true)];let z3:=fun t=>EN ((0,l3 none a1)::t);refine WO.pq 0 (jB (jD hk1)) (e1:=z3 y1)<|WO.fn (e2:=z3 y1) ?_;refine W.seq<|W.cT<|W.skip ?_;let y2:Env:=[(9,l3 none a1),(10,I6 (a1.length:Int)),(11,I6 (k1:Int))];refine W.wk (e:=z0 y2)<|W.seq<|W.block<|W.sr<|WO.pq 1 (jE (f:=(AV.int .i64)) hx1) (e1:=z2 [(11,I6 (k1:Int)),(13,I6 (k1:Int)),(14,.ptr (I6 x1))]) ?_;let z4:=fun t=>z0 ((5,I6 (k1:Int))::(6,I6 x1)::t);refine WO.fn (e2:=z4 y2) ?_;refine W.seq<|W.sr ?_;let z5:=fun t=>z4 ((9,l3 none a1)::(10,I6 (a1.length:Int))::(11,I6 (k1:Int))::t);refine WO.pq 2 (jM (.int .i64) a2) (e1:=z5 [(16,I6 (k1:Int)),(17,l3 none a2),(18,I6 (a2.length:Int))])<|WO.fn (e2:=z5 [(19,.bool (decide ((k1:Int) ≥ (a2.length:Int))))]) ?_;refine W.ch (decide ((k1:Int) ≥ (a2.length:Int))) h (fun h=>?_) (fun h=>?_)
  ·refine W.seq<|W.rt (e2:=[(4,.int .i64 1)]) ?_;refine W.wk (e:=[(4,.int .i64 1)]) ?_;cases h;exact W.rr
  refine W.sw (e:=z4 y2) ?_;refine W.sr ?_;obtain⟨e12,he12,h⟩:=ql h;refine WO.pq 2 (UR (f:=(AV.int .i64)) he12) (e1:=z5 [(20,l3 none a2),(21,I6 (k1:Int)),(22,.ptr (I6 e12))])<|WO.fn (e2:=z0 ((6,I6 x1)::(7,I6 e12)::y2)) ?_;refine W.sr ?_;obtain⟨w14,hw14,h⟩:=ql h;refine WO.ck 2 (F:=73) (l:=[I6 x1,I6 e12]) (C:=[]) (r:=I6 w14) (UJ x1 e12 w14 hw14) (e1:=z0 [(6,I6 x1),(7,I6 e12),(9,l3 none a1),(10,I6 (a1.length:Int)),(11,I6 (k1:Int)),(24,I6 x1),(25,I6 e12),(26,I6 w14)])<|WO.fn (e2:=z0 ((8,I6 w14)::y2)) ?_;refine W.seq<|W.rt (e2:=z0 [(8,I6 w14),(9,l3 none a1),(10,I6 (a1.length:Int)),(11,I6 (k1:Int)),(28,.bool (w14 != 0))]) ?_;refine W.ch (w14 != 0) h (fun h=>?_) (fun h=>?_)
  ·refine W.seq<|W.rt (e2:=[(4,I6 w14)]) ?_;refine W.wk (e:=[(4,I6 w14)]) ?_;cases h;exact W.rr
  refine W.sw (e:=z0 y2) ?_;refine W.rg<|WO.pq 0 (jI (qS hl1 hk1)) (e1:=z2 [(11,I6 (k1:Int)),(30,I6 ((k1+1:Nat):Int))])<|WO.fn (e2:=z2 [(11,I6 ((k1+1:Nat):Int))]) ?_;exact hN1 () h
def YA (v10:(List rf5Op)):Option (List rf5Op) :=
 (some v10)
def QZ (K4:((List rf5Op)→Option (List rf5Op))):List hsOp→Nat→(List rf5Op)→Option (List rf5Op)
 | [],k1,v6=>(K4 v6)
 | x1::r1,k1,v6=>(chk (capOk 24 ((v6++[(rf5Op.mk x1.qb x1.qh x1.qi)])).length) ((QZ K4 r1 (k1+1)) (v6++[(rf5Op.mk x1.qb x1.qh x1.qi)])))
def Nn (a1:(List hsOp)):Option (List rf5Op) :=
 (chk (lenOk a1) (QZ (YA) a1 0 ([]:(List rf5Op))))
theorem qcL (a1:(List hsOp)) (r:(List rf5Op)) (h:Nn a1=some r):Run Try.prog (.call 35 [l44 none a1] (l43 (some 1) r)):=by
 refine cW Try.func35 rfl (env0:=[(0,l44 none a1)]) ?_;unfold Nn at h;refine W.seq<|W.rt (e2:=[(0,l44 none a1)]) ?_;refine W.seq<|W.rt (e2:=[(0,l44 none a1),(3,.nils)]) ?_;refine W.seq<|W.join (σ:=((List rf5Op))) (fun s=>[(3,l43 (some 10300) s)]) (fun s=>(YA) s=some r) (fun v10 h=>?_) (fun hK4=>?_)
 ·unfold YA at h;refine W.seq<|W.rt (e2:=[(2,l43 (some 10300) v10)]) ?_;refine W.weak [2] [] [] [(10300,some 1)] (env':=[(2,l43 (some 1) v10)]) (by kernel_rfl) ?_;cases h;exact W.rr
 refine W.sr<|WO.pq 1 (jM jf a1) (e1:=[(0,l44 none a1),(3,.nils),(6,l44 none a1),(7,I6 (a1.length:Int))])<|WO.fn (e2:=[(3,.nils),(6,l44 none a1),(7,I6 (a1.length:Int)),(8,.int .i64 0)]) ?_;refine W.block ?_;obtain⟨hl1,h⟩:=qq h;refine W.weak [3,6,7,8] [] [(3,0,43,3,10300)] [] (env':=[(3,l43 (some 10300) ([]:(List rf5Op))),(6,l44 none a1),(7,I6 (a1.length:Int)),(8,I6 ((0:Nat):Int))]) (by kernel_rfl)<|W.range (σ:=((List rf5Op))) a1 (fun k1 s=>[(3,l43 (some 10300) s),(6,l44 none a1),(7,I6 (a1.length:Int)),(8,I6 (k1:Int))]) (fun r0 k0 s=>QZ (YA) r0 k0 s=some r) (fun v6 h=>?_) (fun x1 r1 k1 s hx1 hk1 h hN1=>?_) ([]:(List rf5Op)) h
 ·have h:QZ (YA) [] (a1).length v6=some r:=h;rw[QZ.eq_1]at h;refine W.sr ?_;let y0:Env:=[(6,l44 none a1),(7,I6 (a1.length:Int)),(8,I6 ((a1).length:Int)),(9,.bool false)];let z0:=fun t=>EN ((3,l43 (some 10300) v6)::t);refine WO.pq 0 (jB (jj (l:=a1))) (e1:=z0 y0)<|WO.fn (e2:=z0 y0) ?_;refine W.seq<|W.cF<|W.exit<|W.wk (e:=z0 []) ?_;exact hK4 v6 h
 ·obtain⟨v6,rfl⟩:∃ x,x=s:=⟨s,rfl⟩;have h:QZ (YA) (x1::r1) k1 v6=some r:=h;rw[QZ.eq_2]at h;refine W.sr ?_;let y1:Env:=[(6,l44 none a1),(7,I6 (a1.length:Int)),(8,I6 (k1:Int)),(9,.bool true)];let z1:=fun t=>EN ((3,l43 (some 10300) v6)::t);refine WO.pq 0 (jB (jD hk1)) (e1:=z1 y1)<|WO.fn (e2:=z1 y1) ?_;refine W.seq<|W.cT<|W.skip ?_;let y2:Env:=[(6,l44 none a1),(7,I6 (a1.length:Int)),(8,I6 (k1:Int))];refine W.wk (e:=z1 y2)<|W.seq<|W.block<|W.sr<|WO.pq 0 (jE (f:=jf) hx1) (e1:=z1 [(6,l44 none a1),(7,I6 (a1.length:Int)),(8,I6 (k1:Int)),(10,.ptr (.agg [I6 x1.qb,I6 x1.qh,I6 x1.qi]))])<|WO.fi [3,5,6,7,8] [5] (e2:=z1 ((5,.ptr (.agg [I6 x1.qb,I6 x1.qh,I6 x1.qi]))::y2)) ?_;refine W.rg ?_;obtain⟨hc9,h⟩:=qq h;refine WO.appendK 9 (d:=21) (e:=43) (s:=3) (bytes:=24) (xs:=(A1 Ji v6)) (ys:=(A1 Ji [(rf5Op.mk x1.qb x1.qh x1.qi)])) (zs:=(A1 Ji (v6++[(rf5Op.mk x1.qb x1.qh x1.qi)]))) (env1:=[(3,l43 none v6),(5,.ptr (.agg [I6 x1.qb,I6 x1.qh,I6 x1.qi])),(6,l44 none a1),(7,I6 (a1.length:Int)),(8,I6 (k1:Int)),(12,l43 none v6),(13,.ptr (I6 x1.qb)),(14,I6 x1.qb),(15,.ptr (I6 x1.qh)),(16,I6 x1.qh),(17,.ptr (I6 x1.qi)),(18,I6 x1.qi),(19,.agg [I6 x1.qb,I6 x1.qh,I6 x1.qi]),(20,l43 (some 20) [(rf5Op.mk x1.qb x1.qh x1.qi)])]) (by kernel_rfl) (List.map_append.symm) (by rw[A2];exact hc9) (e1:=[(3,l43 none v6),(5,.ptr (.agg [I6 x1.qb,I6 x1.qh,I6 x1.qi])),(6,l44 none a1),(7,I6 (a1.length:Int)),(8,I6 (k1:Int)),(12,l43 none v6),(13,.ptr (I6 x1.qb)),(14,I6 x1.qb),(15,.ptr (I6 x1.qh)),(16,I6 x1.qh),(17,.ptr (I6 x1.qi)),(18,I6 x1.qi),(19,.agg [I6 x1.qb,I6 x1.qh,I6 x1.qi]),(20,l43 (some 20) [(rf5Op.mk x1.qb x1.qh x1.qi)]),(21,l43 (some 21) (v6++[(rf5Op.mk x1.qb x1.qh x1.qi)]))]) (by kernel_rfl) ?_;let z2:=fun t=>EN ((3,l43 (some 21) (v6++[(rf5Op.mk x1.qb x1.qh x1.qi)]))::t);refine WO.fn (e2:=z2 y2) ?_;refine W.rg<|WO.pq 0 (jI (qS hl1 hk1)) (e1:=z2 [(6,l44 none a1),(7,I6 (a1.length:Int)),(8,I6 (k1:Int)),(22,I6 ((k1+1:Nat):Int))])<|WO.fin [3,6,7,8] [] [] [(21,some 10300)] (e2:=[(3,l43 (some 10300) (v6++[(rf5Op.mk x1.qb x1.qh x1.qi)])),(6,l44 none a1),(7,I6 (a1.length:Int)),(8,I6 ((k1+1:Nat):Int))]) (by kernel_rfl) (fun _ h=>h) ?_;exact hN1 (v6++[(rf5Op.mk x1.qb x1.qh x1.qi)]) h
def jU:Option Bool :=
 (some false)
def Jj (a1:(List rf5Op)) (a2:(List Int)) (N1:(Option Bool)) (v18:Bool):Option Bool :=
 (bif v18 then ((XN a1).bind fun w21=>((Zu a2 w21).bind fun w22=>(some w22))) else N1)
def QD (N2:(Bool→Option Bool)) (v17:Bool):Option Bool :=
 (N2 v17)
def jy (a2:(List Int)) (K11:(Bool→Option Bool)):List Int→Nat→Bool→Option Bool
 | [],k2,v13=>(K11 v13)
 | x2::r2,k2,v13=>(bif v13 then ((idx a2 (k2:Int)).bind fun e16=>((QD (jy a2 K11 r2 (k2+1))) (e16 == x2))) else ((QD (jy a2 K11 r2 (k2+1))) false))
def jz (a1:(List rf5Op)) (a2:(List Int)) (K4:(Option Bool)):List (List Int)→Nat→Option Bool
 | [],k1=>K4
 | x1::r1,k1=>(chk (lenOk x1) (jy a2 (Jj a1 a2 (jz a1 a2 K4 r1 (k1+1))) x1 0 ((x1.length:Int) == (a2.length:Int))))
def XD (fuel:Nat) (a1:(List rf5Op)) (a2:(List Int)):Option Bool :=
 ((XO fuel a1).bind fun w6=>((JY fuel w6).bind fun w7=>(chk (lenOk w7) (jz a1 a2 (jU) w7 0))))
theorem UI (fuel:Nat) (a1:(List rf5Op)) (a2:(List Int)) (r:Bool) (h:XD fuel a1 a2=some r):Run Try.prog (.call 40 [l43 none a1,l3 none a2] (.bool r)):=by
 refine cW Try.func40 rfl (env0:=[(0,l43 none a1),(1,l3 none a2)]) ?_;unfold XD at h;refine W.seq ?_;let z0:=fun t=>EN ((0,l43 none a1)::(1,l3 none a2)::t);refine W.rt (e2:=z0 []) ?_;refine W.seq<|W.join (σ:=Unit) (fun s=>[]) (fun s=>(jU)=some r) (fun s h=>?_) (fun hK4=>?_)
 ·unfold jU at h;refine W.seq<|W.rt (e2:=[(4,.bool false)]) ?_;refine W.wk (e:=[(4,.bool false)]) ?_;cases h;exact W.rr
 refine W.sr ?_;obtain⟨w6,hw6,h⟩:=ql h;let z1:=fun t=>z0 ((10,l43 none a1)::(11,l3 (some 11) w6)::t);refine WO.ck 1 (F:=57) (l:=[l43 none a1]) (C:=[]) (r:=l3 (some 1) w6) (Nh fuel a1 w6 hw6) (e1:=z1 []) ?_;obtain⟨w7,hw7,h⟩:=ql h;refine WO.ck 0 (F:=67) (l:=[l3 none w6]) (C:=[]) (r:=l24 none w7) (qau fuel w6 w7 hw7) (e1:=z1 [(12,l24 none w7)])<|WO.pq 0 (jM (encL 3 1 (AV.int .i64)) w7) (e1:=z1 [(12,l24 none w7),(13,I6 (w7.length:Int))]) ?_;let z2:=fun t=>z0 ((12,l24 none w7)::(13,I6 (w7.length:Int))::t);refine WO.fn (e2:=z2 [(14,.int .i64 0)]) ?_;refine W.block ?_;obtain⟨hl1,h⟩:=qq h;refine W.wk (e:=z2 [(14,I6 ((0:Nat):Int))])<|W.range (σ:=Unit) w7 (fun k1 s=>z2 [(14,I6 (k1:Int))]) (fun r0 k0 s=>jz a1 a2 (jU) r0 k0=some r) (fun s h=>?_) (fun x1 r1 k1 s hx1 hk1 h hN1=>?_) () h
 ·rw[jz.eq_1]at h;refine W.sr ?_;let y0:Env:=[(1,l3 none a2),(12,l24 none w7),(13,I6 (w7.length:Int)),(14,I6 ((w7).length:Int)),(15,.bool false)];refine WO.pq 0 (jB (jj (l:=w7))) (e1:=((0,l43 none a1)::y0))<|WO.fn (e2:=((0,l43 none a1)::y0)) ?_;refine W.seq<|W.cF<|W.exit<|W.wk (e:=[]) ?_;exact hK4 () h
 ·rw[jz.eq_2]at h;refine W.sr ?_;let y1:Env:=[(1,l3 none a2),(12,l24 none w7),(13,I6 (w7.length:Int)),(14,I6 (k1:Int)),(15,.bool true)];let z3:=fun t=>EN ((0,l43 none a1)::t);refine WO.pq 0 (jB (jD hk1)) (e1:=z3 y1)<|WO.fn (e2:=z3 y1) ?_;refine W.seq<|W.cT<|W.skip ?_;let y2:Env:=[(12,l24 none w7),(13,I6 (w7.length:Int)),(14,I6 (k1:Int))];refine W.wk (e:=z0 y2)<|W.seq<|W.block<|W.sr ?_;let z4:=fun t=>z2 ((14,I6 (k1:Int))::t);refine WO.pq 0 (jE (f:=(encL 3 1 (AV.int .i64))) hx1) (e1:=z4 [(16,.ptr (l3 none x1))]) ?_;let z5:=fun t=>z0 ((6,l3 none x1)::t);refine WO.fn (e2:=z5 y2) ?_;refine W.sr ?_;let z6:=fun t=>z5 ((12,l24 none w7)::(13,I6 (w7.length:Int))::(14,I6 (k1:Int))::(18,l3 none x1)::(19,I6 (x1.length:Int))::t);refine WO.pq 1 (jM (.int .i64) x1) (e1:=z6 [])<|WO.pq 1 (jM (.int .i64) a2) (e1:=z6 [(20,l3 none a2),(21,I6 (a2.length:Int))]) ?_;let z7:=fun t=>z5 ((7,.bool ((x1.length:Int) == (a2.length:Int)))::t);refine WO.fn (e2:=z7 y2) ?_;refine W.seq<|W.join (σ:=(Bool)) (fun s=>z0 ((7,.bool s)::y2)) (fun s=>(Jj a1 a2 (jz a1 a2 (jU) r1 (k1+1))) s=some r) (fun v18 h=>?_) (fun hK11=>?_)
  ·unfold Jj at h;refine W.seq<|W.rt (e2:=z4 [(40,.bool v18)]) ?_;refine W.ch v18 h (fun h=>?_) (fun h=>?_)
   ·refine W.sr ?_;obtain⟨w21,hw21,h⟩:=ql h;let z8:=fun t=>z4 ((40,.bool v18)::(41,l3 none a2)::(42,l43 none a1)::(43,.agg (A1 AV.bool w21))::t);refine WO.ck 2 (F:=58) (l:=[l43 none a1]) (C:=[]) (r:=.agg (A1 AV.bool w21)) (Ng a1 w21 hw21) (e1:=z8 []) ?_;obtain⟨w22,hw22,h⟩:=ql h;refine WO.ck 0 (F:=76) (l:=[l3 none a2,.agg (A1 AV.bool w21)]) (C:=[]) (r:=.bool w22) (DA a2 w21 w22 hw22) (e1:=z8 [(44,.bool w22)])<|WO.fn (e2:=[(4,.bool w22)]) ?_;refine W.wk (e:=[(4,.bool w22)]) ?_;cases h;exact W.rr
   refine W.sw (e:=z0 y2) ?_;refine W.rg<|WO.pq 0 (jI (qS hl1 hk1)) (e1:=z4 [(45,I6 ((k1+1:Nat):Int))])<|WO.fn (e2:=z2 [(14,I6 ((k1+1:Nat):Int))]) ?_;exact hN1 () h
  refine W.sr<|WO.pq 1 (jM (.int .i64) x1) (e1:=z7 [(12,l24 none w7),(13,I6 (w7.length:Int)),(14,I6 (k1:Int)),(23,l3 none x1),(24,I6 (x1.length:Int))]) ?_;let z9:=fun t=>z0 ((7,.bool ((x1.length:Int) == (a2.length:Int)))::(12,l24 none w7)::(13,I6 (w7.length:Int))::(14,I6 (k1:Int))::(23,l3 none x1)::(24,I6 (x1.length:Int))::t);refine WO.fn (e2:=z9 [(25,.int .i64 0)]) ?_;refine W.block ?_;obtain⟨hl2,h⟩:=qq h;refine W.wk (e:=z9 [(25,I6 ((0:Nat):Int))])<|W.range (σ:=(Bool)) x1 (fun k2 s=>z0 [(7,.bool s),(12,l24 none w7),(13,I6 (w7.length:Int)),(14,I6 (k1:Int)),(23,l3 none x1),(24,I6 (x1.length:Int)),(25,I6 (k2:Int))]) (fun r0 k0 s=>jy a2 (Jj a1 a2 (jz a1 a2 (jU) r1 (k1+1))) r0 k0 s=some r) (fun v13 h=>?_) (fun x2 r2 k2 s hx2 hk2 h hN2=>?_) ((x1.length:Int) == (a2.length:Int)) h
  ·have h:jy a2 (Jj a1 a2 (jz a1 a2 (jU) r1 (k1+1))) [] (x1).length v13=some r:=h;rw[jy.eq_1]at h;refine W.sr ?_;let y3:Env:=[(1,l3 none a2),(7,.bool v13),(12,l24 none w7),(13,I6 (w7.length:Int)),(14,I6 (k1:Int)),(23,l3 none x1),(24,I6 (x1.length:Int)),(25,I6 ((x1).length:Int)),(26,.bool false)];refine WO.pq 0 (jB (jj (l:=x1))) (e1:=z3 y3)<|WO.fn (e2:=z3 y3) ?_;refine W.seq<|W.cF<|W.exit<|W.wk (e:=z0 ((7,.bool v13)::y2)) ?_;exact hK11 v13 h
  ·obtain⟨v13,rfl⟩:∃ x,x=s:=⟨s,rfl⟩;have h:jy a2 (Jj a1 a2 (jz a1 a2 (jU) r1 (k1+1))) (x2::r2) k2 v13=some r:=h;rw[jy.eq_2]at h;refine W.sr ?_;let y4:Env:=[(1,l3 none a2),(7,.bool v13),(12,l24 none w7),(13,I6 (w7.length:Int)),(14,I6 (k1:Int)),(23,l3 none x1),(24,I6 (x1.length:Int)),(25,I6 (k2:Int)),(26,.bool true)];refine WO.pq 0 (jB (jD hk2)) (e1:=z3 y4)<|WO.fn (e2:=z3 y4) ?_;refine W.seq<|W.cT<|W.skip ?_;let y5:Env:=[(12,l24 none w7),(13,I6 (w7.length:Int)),(14,I6 (k1:Int)),(23,l3 none x1),(24,I6 (x1.length:Int)),(25,I6 (k2:Int))];refine W.wk (e:=z0 ((7,.bool v13)::y5))<|W.seq<|W.join (σ:=(Bool)) (fun s=>z0 ((7,.bool s)::y5)) (fun s=>(QD (jy a2 (Jj a1 a2 (jz a1 a2 (jU) r1 (k1+1))) r2 (k2+1))) s=some r) (fun v17 h=>?_) (fun hK14=>?_)
   ·unfold QD at h;refine W.rg ?_;let z10:=fun t=>z0 ((7,.bool v17)::(12,l24 none w7)::(13,I6 (w7.length:Int))::(14,I6 (k1:Int))::(23,l3 none x1)::(24,I6 (x1.length:Int))::t);refine WO.pq 0 (jI (qS hl2 hk2)) (e1:=z10 [(25,I6 (k2:Int)),(39,I6 ((k2+1:Nat):Int))])<|WO.fn (e2:=z10 [(25,I6 ((k2+1:Nat):Int))]) ?_;exact hN2 v17 h
   refine W.block<|W.sr<|WO.pq 1 (jE (f:=(AV.int .i64)) hx2) (e1:=z0 [(7,.bool v13),(12,l24 none w7),(13,I6 (w7.length:Int)),(14,I6 (k1:Int)),(23,l3 none x1),(24,I6 (x1.length:Int)),(25,I6 (k2:Int)),(27,I6 (k2:Int)),(28,.ptr (I6 x2))])<|WO.fn (e2:=z0 ((7,.bool v13)::(8,I6 (k2:Int))::(9,I6 x2)::y5)) ?_;refine W.rg<|WO.bh 2 (fun b=>z0 [(7,.bool b),(8,I6 (k2:Int)),(9,I6 x2),(12,l24 none w7),(13,I6 (w7.length:Int)),(14,I6 (k1:Int)),(23,l3 none x1),(24,I6 (x1.length:Int)),(25,I6 (k2:Int)),(30,.bool b),(31,.bool b)]) v13 h (fun h=>?_) (fun h=>?_)
   ·obtain⟨e16,he16,h⟩:=ql h;refine WO.pq 2 (UR (f:=(AV.int .i64)) he16) (e1:=z0 [(7,.bool true),(8,I6 (k2:Int)),(9,I6 x2),(12,l24 none w7),(13,I6 (w7.length:Int)),(14,I6 (k1:Int)),(23,l3 none x1),(24,I6 (x1.length:Int)),(25,I6 (k2:Int)),(30,.bool true),(31,.bool true),(32,l3 none a2),(33,I6 (k2:Int)),(34,.ptr (I6 e16))])<|WO.fn (e2:=z0 ((7,.bool (e16 == x2))::y5)) ?_;exact hK14 (e16 == x2) h
   refine WO.fn (e2:=z0 ((7,.bool false)::y5)) ?_;exact hK14 false h
def Xb:Option Bool :=
 (some true)
def JC (a2:(List hsOp)) (K7:(Option Bool)):List hsOp→Nat→Option Bool
 | [],k1=>K7
 | x1::r1,k1=>((idx a2 (k1:Int)).bind fun e12=>(bif (!((x1.qb == e12.qb) && ((x1.qh == e12.qh) && ((x1.qi == e12.qi) && true)))) then (some false) else (JC a2 K7 r1 (k1+1))))
def XM (a1:(List hsOp)) (a2:(List hsOp)):Option Bool :=
 (bif ((a1.length:Int) != (a2.length:Int)) then (some false) else (chk (lenOk a1) (JC a2 (Xb) a1 0)))
theorem Nd (a1:(List hsOp)) (a2:(List hsOp)) (r:Bool) (h:XM a1 a2=some r):Run Try.prog (.call 36 [l44 none a1,l44 none a2] (.bool r)):=by
 refine cW Try.func36 rfl (env0:=[(0,l44 none a1),(1,l44 none a2)]) ?_;unfold XM at h;refine W.seq ?_;let z0:=fun t=>EN ((0,l44 none a1)::(1,l44 none a2)::t);refine W.rt (e2:=z0 []) ?_;refine W.seq<|W.sr ?_;let z1:=fun t=>z0 ((6,l44 none a1)::(7,I6 (a1.length:Int))::t);refine WO.pq 1 (jM jf a1) (e1:=z1 [])<|WO.pq 1 (jM jf a2) (e1:=z1 [(8,l44 none a2),(9,I6 (a2.length:Int))])<|WO.fn (e2:=z0 [(10,.bool ((a1.length:Int) != (a2.length:Int)))]) ?_;refine W.ch ((a1.length:Int) != (a2.length:Int)) h (fun h=>?_) (fun h=>?_)
 ·refine W.seq<|W.rt (e2:=[(4,.bool false)]) ?_;refine W.wk (e:=[(4,.bool false)]) ?_;cases h;exact W.rr
 refine W.sw (e:=z0 []) ?_;refine W.seq<|W.join (σ:=Unit) (fun s=>[]) (fun s=>(Xb)=some r) (fun s h=>?_) (fun hK7=>?_)
 ·unfold Xb at h;refine W.seq<|W.rt (e2:=[(4,.bool true)]) ?_;refine W.wk (e:=[(4,.bool true)]) ?_;cases h;exact W.rr
 refine W.sr<|WO.pq 1 (jM jf a1) (e1:=z0 [(11,l44 none a1),(12,I6 (a1.length:Int))]) ?_;let z2:=fun t=>z0 ((12,I6 (a1.length:Int))::t);refine WO.fn (e2:=z2 [(13,.int .i64 0)]) ?_;refine W.block ?_;obtain⟨hl1,h⟩:=qq h;refine W.wk (e:=z2 [(13,I6 ((0:Nat):Int))])<|W.range (σ:=Unit) a1 (fun k1 s=>z2 [(13,I6 (k1:Int))]) (fun r0 k0 s=>JC a2 (Xb) r0 k0=some r) (fun s h=>?_) (fun x1 r1 k1 s hx1 hk1 h hN1=>?_) () h
 ·rw[JC.eq_1]at h;refine W.sr ?_;let y0:Env:=[(1,l44 none a2),(12,I6 (a1.length:Int)),(13,I6 ((a1).length:Int)),(14,.bool false)];refine WO.pq 0 (jB (jj (l:=a1))) (e1:=((0,l44 none a1)::y0))<|WO.fn (e2:=((0,l44 none a1)::y0)) ?_;refine W.seq<|W.cF<|W.exit<|W.wk (e:=[]) ?_;exact hK7 () h
 ·rw[JC.eq_2]at h;refine W.sr ?_;let y1:Env:=[(1,l44 none a2),(12,I6 (a1.length:Int)),(13,I6 (k1:Int)),(14,.bool true)];let z3:=fun t=>EN ((0,l44 none a1)::t);refine WO.pq 0 (jB (jD hk1)) (e1:=z3 y1)<|WO.fn (e2:=z3 y1) ?_;refine W.seq<|W.cT<|W.skip ?_;let y2:Env:=[(12,I6 (a1.length:Int)),(13,I6 (k1:Int))];refine W.wk (e:=z0 y2)<|W.seq<|W.block<|W.seq ?_;let z4:=fun t=>z0 ((5,I6 (k1:Int))::t);refine W.rt (e2:=z4 y2) ?_;refine W.sr ?_;let z5:=fun t=>z4 ((12,I6 (a1.length:Int))::(13,I6 (k1:Int))::(16,l44 none a1)::(17,I6 (k1:Int))::(18,.ptr (.agg [I6 x1.qb,I6 x1.qh,I6 x1.qi]))::t);refine WO.pq 2 (jE (f:=jf) hx1) (e1:=z5 []) ?_;obtain⟨e12,he12,h⟩:=ql h;refine WO.pq 3 (UR (f:=jf) he12) (e1:=z5 [(19,.agg [I6 x1.qb,I6 x1.qh,I6 x1.qi]),(20,l44 none a2),(21,I6 (k1:Int)),(22,.ptr (.agg [I6 e12.qb,I6 e12.qh,I6 e12.qi]))])<|WO.fn (e2:=z2 [(13,I6 (k1:Int)),(24,.bool (!((x1.qb == e12.qb) && ((x1.qh == e12.qh) && ((x1.qi == e12.qi) && true)))))]) ?_;refine W.ch (!((x1.qb == e12.qb) && ((x1.qh == e12.qh) && ((x1.qi == e12.qi) && true)))) h (fun h=>?_) (fun h=>?_)
  ·refine W.seq<|W.rt (e2:=[(4,.bool false)]) ?_;refine W.wk (e:=[(4,.bool false)]) ?_;cases h;exact W.rr
  refine W.sw (e:=z0 y2) ?_;refine W.rg<|WO.pq 0 (jI (qS hl1 hk1)) (e1:=z2 [(13,I6 (k1:Int)),(25,I6 ((k1+1:Nat):Int))])<|WO.fn (e2:=z2 [(13,I6 ((k1+1:Nat):Int))]) ?_;exact hN1 () h
noncomputable def qO (v56:Bool):Option Bool :=
 (some v56)
noncomputable def qK (fuel:Nat) (v37:(List hsOp)) (v38:(List Int)):Option Bool :=
 ((YX fuel v37).bind fun w40=>((YW fuel v37).bind fun w42=>((YV fuel v37).bind fun w44=>((Xf fuel v37).bind fun w46=>((qck fuel v37).bind fun w48=>(bif (w40.2 == 0) then ((Xc w40.1 v38).bind fun w50=>(bif (decide (w50≤0)) then ((Nn v37).bind fun w51=>((XD fuel w51 v38).bind fun w52=>(bif w52 then (bif w42.2.2.1 then (bif (w42.2.2.2 == 0) then (bif w44.1 then (bif (w44.2 == 0) then (bif (w46.2 == 0) then ((Xc w46.1 v38).bind fun w53=>(bif (decide (w53≤0)) then ((XM w48.1 v37).bind fun w54=>(bif w54 then (bif ((w48.2.1.length:Int) == 0) then (bif (w48.2.2 == 0) then ((Zk fuel).bind fun w55=>((qO) w55)) else ((qO) false)) else ((qO) false)) else ((qO) false))) else ((qO) false))) else ((qO) false)) else ((qO) false)) else ((qO) false)) else ((qO) false)) else ((qO) false)) else ((qO) false)))) else ((qO) false))) else ((qO) false)))))))
noncomputable def qL (N1:((List hsOp)→(List Int)→Option Bool)) (v35:(List hsOp)) (v36:(List Int)):Option Bool :=
 (N1 v35 v36)
noncomputable def jA (fuel:Nat) (x1:Int) (v9:(List Int)) (K10:((List hsOp)→(List Int)→Option Bool)) (v27:(List hsOp)):Option Bool :=
 (bif (decide ((v27.length:Int) > 34)) then ((Zk fuel).bind fun w31=>(some w31)) else (chk (capOk 8 ((v9++[x1])).length) (chk (capOk 24 ((v27++[(hsOp.mk x1 2 0)])).length) (K10 (v27++[(hsOp.mk x1 2 0)]) (v9++[x1])))))
noncomputable def Jv (N2:((List hsOp)→Option Bool)) (v26:(List hsOp)):Option Bool :=
 (N2 v26)
noncomputable def JX (x2:hsOp) (v20:(List hsOp)) (K21:((List hsOp)→Option Bool)) (v24:Bool):Option Bool :=
 (bif v24 then (chk (capOk 24 ((v20++[x2])).length) (K21 (v20++[x2]))) else (K21 v20))
noncomputable def ja (x1:Int) (K17:((List hsOp)→Option Bool)):List hsOp→Nat→(List hsOp)→Option Bool
 | [],k2,v20=>(K17 v20)
 | x2::r2,k2,v20=>(bif (x2.qb == x1) then ((JX x2 v20 (Jv (ja x1 K17 r2 (k2+1)))) (decide (x2.qh<2))) else ((JX x2 v20 (Jv (ja x1 K17 r2 (k2+1)))) false))
noncomputable def jC (fuel:Nat) (a1:(List rf5Op)) (x1:Int) (v8:(List hsOp)) (v9:(List Int)) (K10:((List hsOp)→(List Int)→Option Bool)) (v16:Bool):Option Bool :=
 (bif v16 then (K10 v8 v9) else ((DM a1).bind fun w19=>(chk (lenOk w19) (ja x1 (jA fuel x1 v9 K10) w19 0 v8))))
noncomputable def qB (fuel:Nat) (a1:(List rf5Op)) (K6:((List hsOp)→(List Int)→Option Bool)):List Int→Nat→(List hsOp)→(List Int)→Option Bool
 | [],k1,v8,v9=>(K6 v8 v9)
 | x1::r1,k1,v8,v9=>(bif (decide (x1<1)) then ((jC fuel a1 x1 v8 v9 (qL (qB fuel a1 K6 r1 (k1+1)))) true) else (bif (decide (x1 > 6)) then ((jC fuel a1 x1 v8 v9 (qL (qB fuel a1 K6 r1 (k1+1)))) true) else ((QI v9 x1).bind fun w14=>(bif w14 then ((jC fuel a1 x1 v8 v9 (qL (qB fuel a1 K6 r1 (k1+1)))) true) else ((ZY a1).bind fun w15=>((jC fuel a1 x1 v8 v9 (qL (qB fuel a1 K6 r1 (k1+1)))) (!w15)))))))
noncomputable def Xz (fuel:Nat) (a1:(List rf5Op)) (a2:(List Int)):Option Bool :=
 (chk (lenOk a2) (qB fuel a1 (qK fuel) a2 0 ([]:(List hsOp)) ([]:(List Int))))
theorem VJ (fuel:Nat) (a1:(List rf5Op)) (a2:(List Int)) (r:Bool) (h:Xz fuel a1 a2=some r):Run Try.prog (.call 13 [l43 none a1,l3 none a2] (.bool r)):=by
 refine cW Try.func13 rfl (env0:=[(0,l43 none a1),(1,l3 none a2)]) ?_;unfold Xz at h;refine W.seq ?_;let z0:=fun t=>EN ((0,l43 none a1)::t);let z1:=fun t=>z0 ((1,l3 none a2)::t);refine W.rt (e2:=z1 []) ?_;refine W.seq<|W.rt (e2:=z1 [(5,.nils)]) ?_;refine W.seq<|W.rt (e2:=z1 [(5,.nils),(6,.nils)]) ?_;refine W.seq<|W.join (σ:=((List hsOp)×(List Int))) (fun s=>[(5,l44 (some 10500) s.1),(6,l3 (some 10600) s.2)]) (fun s=>(qK fuel) s.1 s.2=some r) (fun s h=>?_) (fun hK6=>?_)
 ·obtain⟨v37,v38⟩:=s;have h:(qK fuel) v37 v38=some r:=h;unfold qK at h;refine W.sr ?_;obtain⟨w40,hw40,h⟩:=ql h;let z2:=fun t=>EN ((5,l44 (some 10500) v37)::(6,l3 (some 10600) v38)::t);refine WO.ck 1 (F:=17) (l:=[l44 none v37]) (C:=[]) (r:=.tup [l3 none w40.1,I6 w40.2]) (Ni fuel v37 w40 hw40) (e1:=z2 [(82,l44 (some 10500) v37),(83,.tup [l3 none w40.1,I6 w40.2])]) ?_;let z3:=fun t=>z2 ((11,l3 none w40.1)::(12,I6 w40.2)::t);refine WO.fn (e2:=z3 []) ?_;refine W.sr ?_;obtain⟨w42,hw42,h⟩:=ql h;refine WO.ck 1 (F:=28) (l:=[l44 none v37]) (C:=[]) (r:=.tup [.bool w42.1,.bool w42.2.1,.bool w42.2.2.1,I6 w42.2.2.2]) (Dc fuel v37 w42 hw42) (e1:=z3 [(87,l44 (some 10500) v37),(88,.tup [.bool w42.1,.bool w42.2.1,.bool w42.2.2.1,I6 w42.2.2.2])]) ?_;let z4:=fun t=>z3 ((15,.bool w42.2.2.1)::(16,I6 w42.2.2.2)::t);refine WO.fn (e2:=z4 []) ?_;refine W.sr ?_;obtain⟨w44,hw44,h⟩:=ql h;refine WO.ck 1 (F:=41) (l:=[l44 none v37]) (C:=[]) (r:=.tup [.bool w44.1,I6 w44.2]) (Db fuel v37 w44 hw44) (e1:=z4 [(94,l44 (some 10500) v37),(95,.tup [.bool w44.1,I6 w44.2])]) ?_;let z5:=fun t=>z4 ((17,.bool w44.1)::(18,I6 w44.2)::t);refine WO.fn (e2:=z5 []) ?_;refine W.sr ?_;obtain⟨w46,hw46,h⟩:=ql h;refine WO.ck 1 (F:=42) (l:=[l44 none v37]) (C:=[]) (r:=.tup [l3 none w46.1,I6 w46.2]) (VQ fuel v37 w46 hw46) (e1:=z5 [(99,l44 (some 10500) v37),(100,.tup [l3 none w46.1,I6 w46.2])]) ?_;let z6:=fun t=>z5 ((19,l3 none w46.1)::(20,I6 w46.2)::t);refine WO.fn (e2:=z6 []) ?_;refine W.sr ?_;obtain⟨w48,hw48,h⟩:=ql h;refine WO.ck 1 (F:=32) (l:=[l44 none v37]) (C:=[]) (r:=.tup [l44 none w48.1,l3 none w48.2.1,I6 w48.2.2]) (qcM fuel v37 w48 hw48) (e1:=z6 [(104,l44 (some 10500) v37),(105,.tup [l44 none w48.1,l3 none w48.2.1,I6 w48.2.2])]) ?_;let z7:=fun t=>z6 ((21,l44 none w48.1)::(22,l3 none w48.2.1)::(23,I6 w48.2.2)::t);refine WO.fn (e2:=z7 []) ?_;refine W.seq<|W.join (σ:=(Bool)) (fun s=>[(4,.bool s)]) (fun s=>(qO) s=some r) (fun v56 h=>?_) (fun hK49=>?_)
  ·unfold qO at h;refine W.wk (e:=[(4,.bool v56)]) ?_;cases h;exact W.rr
  refine W.rg ?_;let z8:=fun t=>z7 ((109,I6 w40.2)::t);refine WO.bh 3 (fun b=>z8 [(110,.bool b),(111,.bool b)]) (w40.2 == 0) h (fun h=>?_) (fun h=>?_)
  ·obtain⟨w50,hw50,h⟩:=ql h;let z9:=fun t=>z8 ((110,.bool true)::(111,.bool true)::(112,l3 none w40.1)::(113,l3 (some 10600) v38)::(114,I6 w50)::t);refine WO.ck 2 (F:=37) (l:=[l3 none w40.1,l3 none v38]) (C:=[]) (r:=I6 w50) (Zs w40.1 v38 w50 hw50) (e1:=z9 [])<|WO.bh 3 (fun b=>z9 [(115,.bool b),(116,.bool b),(117,.bool b)]) (decide (w50≤0)) h (fun h=>?_) (fun h=>?_)
   ·obtain⟨w51,hw51,h⟩:=ql h;let z10:=fun t=>z9 ((115,.bool true)::(116,.bool true)::(117,.bool true)::(118,l44 (some 10500) v37)::(119,l43 (some 119) w51)::t);refine WO.ck 1 (F:=35) (l:=[l44 none v37]) (C:=[]) (r:=l43 (some 1) w51) (qcL v37 w51 hw51) (e1:=z10 []) ?_;obtain⟨w52,hw52,h⟩:=ql h;refine WO.ck 1 (F:=40) (l:=[l43 none w51,l3 none v38]) (C:=[]) (r:=.bool w52) (UI fuel w51 v38 w52 hw52) (e1:=z10 [(120,l3 (some 10600) v38),(121,.bool w52)])<|WO.bh 2 (fun b=>z10 [(120,l3 (some 10600) v38),(121,.bool b),(122,.bool b),(123,.bool b)]) w52 h (fun h=>?_) (fun h=>?_)
    ·refine WO.bh 3 (fun b=>z3 [(15,.bool b),(16,I6 w42.2.2.2),(17,.bool w44.1),(18,I6 w44.2),(19,l3 none w46.1),(20,I6 w46.2),(21,l44 none w48.1),(22,l3 none w48.2.1),(23,I6 w48.2.2),(109,I6 w40.2),(110,.bool true),(111,.bool true),(112,l3 none w40.1),(113,l3 (some 10600) v38),(114,I6 w50),(115,.bool true),(116,.bool true),(117,.bool true),(118,l44 (some 10500) v37),(119,l43 (some 119) w51),(120,l3 (some 10600) v38),(121,.bool true),(122,.bool true),(123,.bool true),(124,.bool b),(125,.bool b),(126,.bool b)]) w42.2.2.1 h (fun h=>?_) (fun h=>?_)
     ·let z11:=fun t=>z3 ((15,.bool true)::(16,I6 w42.2.2.2)::t);refine WO.bh 4 (fun b=>z11 [(17,.bool w44.1),(18,I6 w44.2),(19,l3 none w46.1),(20,I6 w46.2),(21,l44 none w48.1),(22,l3 none w48.2.1),(23,I6 w48.2.2),(109,I6 w40.2),(110,.bool true),(111,.bool true),(112,l3 none w40.1),(113,l3 (some 10600) v38),(114,I6 w50),(115,.bool true),(116,.bool true),(117,.bool true),(118,l44 (some 10500) v37),(119,l43 (some 119) w51),(120,l3 (some 10600) v38),(121,.bool true),(122,.bool true),(123,.bool true),(124,.bool true),(125,.bool true),(126,.bool true),(127,I6 w42.2.2.2),(128,.bool b),(129,.bool b),(130,.bool b)]) (w42.2.2.2 == 0) h (fun h=>?_) (fun h=>?_)
      ·refine WO.bh 3 (fun b=>z11 [(17,.bool b),(18,I6 w44.2),(19,l3 none w46.1),(20,I6 w46.2),(21,l44 none w48.1),(22,l3 none w48.2.1),(23,I6 w48.2.2),(109,I6 w40.2),(110,.bool true),(111,.bool true),(112,l3 none w40.1),(113,l3 (some 10600) v38),(114,I6 w50),(115,.bool true),(116,.bool true),(117,.bool true),(118,l44 (some 10500) v37),(119,l43 (some 119) w51),(120,l3 (some 10600) v38),(121,.bool true),(122,.bool true),(123,.bool true),(124,.bool true),(125,.bool true),(126,.bool true),(127,I6 w42.2.2.2),(128,.bool true),(129,.bool true),(130,.bool true),(131,.bool b),(132,.bool b),(133,.bool b)]) w44.1 h (fun h=>?_) (fun h=>?_)
       ·let z12:=fun t=>z11 ((17,.bool true)::(18,I6 w44.2)::(19,l3 none w46.1)::(20,I6 w46.2)::(21,l44 none w48.1)::(22,l3 none w48.2.1)::(23,I6 w48.2.2)::(109,I6 w40.2)::(110,.bool true)::(111,.bool true)::(112,l3 none w40.1)::(113,l3 (some 10600) v38)::(114,I6 w50)::(115,.bool true)::(116,.bool true)::(117,.bool true)::(118,l44 (some 10500) v37)::(119,l43 (some 119) w51)::(120,l3 (some 10600) v38)::(121,.bool true)::(122,.bool true)::(123,.bool true)::(124,.bool true)::(125,.bool true)::(126,.bool true)::(127,I6 w42.2.2.2)::(128,.bool true)::(129,.bool true)::(130,.bool true)::(131,.bool true)::(132,.bool true)::(133,.bool true)::(134,I6 w44.2)::t);refine WO.bh 4 (fun b=>z12 [(135,.bool b),(136,.bool b),(137,.bool b)]) (w44.2 == 0) h (fun h=>?_) (fun h=>?_)
        ·let z13:=fun t=>z12 ((135,.bool true)::(136,.bool true)::(137,.bool true)::(138,I6 w46.2)::t);refine WO.bh 4 (fun b=>z13 [(139,.bool b),(140,.bool b),(141,.bool b)]) (w46.2 == 0) h (fun h=>?_) (fun h=>?_)
         ·obtain⟨w53,hw53,h⟩:=ql h;let z14:=fun t=>z13 ((139,.bool true)::(140,.bool true)::(141,.bool true)::(142,l3 none w46.1)::(143,l3 (some 10600) v38)::(144,I6 w53)::t);refine WO.ck 2 (F:=37) (l:=[l3 none w46.1,l3 none v38]) (C:=[]) (r:=I6 w53) (Zs w46.1 v38 w53 hw53) (e1:=z14 [])<|WO.bh 3 (fun b=>z14 [(145,.bool b),(146,.bool b),(147,.bool b)]) (decide (w53≤0)) h (fun h=>?_) (fun h=>?_)
          ·obtain⟨w54,hw54,h⟩:=ql h;let z15:=fun t=>z14 ((145,.bool true)::(146,.bool true)::(147,.bool true)::(148,l44 none w48.1)::(149,l44 (some 10500) v37)::t);refine WO.ck 2 (F:=36) (l:=[l44 none w48.1,l44 none v37]) (C:=[]) (r:=.bool w54) (Nd w48.1 v37 w54 hw54) (e1:=z15 [(150,.bool w54)])<|WO.bh 2 (fun b=>z15 [(150,.bool b),(151,.bool b),(152,.bool b)]) w54 h (fun h=>?_) (fun h=>?_)
           ·let z16:=fun t=>z15 ((150,.bool true)::(151,.bool true)::(152,.bool true)::(153,l3 none w48.2.1)::(154,I6 (w48.2.1.length:Int))::t);refine WO.pq 1 (jM (.int .i64) w48.2.1) (e1:=z16 [])<|WO.bh 3 (fun b=>z16 [(155,.bool b),(156,.bool b),(157,.bool b)]) ((w48.2.1.length:Int) == 0) h (fun h=>?_) (fun h=>?_)
            ·let z17:=fun t=>z16 ((155,.bool true)::(156,.bool true)::(157,.bool true)::(158,I6 w48.2.2)::t);refine WO.bh 4 (fun b=>z17 [(159,.bool b),(160,.bool b),(161,.bool b)]) (w48.2.2 == 0) h (fun h=>?_) (fun h=>?_)
             ·obtain⟨w55,hw55,h⟩:=ql h;refine WO.ck 0 (F:=21) (l:=[]) (C:=[]) (r:=.bool w55) (UC fuel w55 hw55) (e1:=z17 [(159,.bool true),(160,.bool true),(161,.bool true),(162,.bool w55)])<|WO.fn (e2:=[(4,.bool w55)]) ?_;exact hK49 w55 h
             refine WO.fn (e2:=[(4,.bool false)]) ?_;exact hK49 false h
            refine WO.fn (e2:=[(4,.bool false)]) ?_;exact hK49 false h
           refine WO.fn (e2:=[(4,.bool false)]) ?_;exact hK49 false h
          refine WO.fn (e2:=[(4,.bool false)]) ?_;exact hK49 false h
         refine WO.fn (e2:=[(4,.bool false)]) ?_;exact hK49 false h
        refine WO.fn (e2:=[(4,.bool false)]) ?_;exact hK49 false h
       refine WO.fn (e2:=[(4,.bool false)]) ?_;exact hK49 false h
      refine WO.fn (e2:=[(4,.bool false)]) ?_;exact hK49 false h
     refine WO.fn (e2:=[(4,.bool false)]) ?_;exact hK49 false h
    refine WO.fn (e2:=[(4,.bool false)]) ?_;exact hK49 false h
   refine WO.fn (e2:=[(4,.bool false)]) ?_;exact hK49 false h
  refine WO.fn (e2:=[(4,.bool false)]) ?_;exact hK49 false h
 refine W.sr<|WO.pq 1 (jM (.int .i64) a2) (e1:=z1 [(5,.nils),(6,.nils),(24,l3 none a2),(25,I6 (a2.length:Int))])<|WO.fn (e2:=z0 [(5,.nils),(6,.nils),(24,l3 none a2),(25,I6 (a2.length:Int)),(26,.int .i64 0)]) ?_;refine W.block ?_;obtain⟨hl1,h⟩:=qq h;refine W.weak [0,5,6,24,25,26] [] [(5,0,44,3,10500),(6,0,3,1,10600)] [] (env':=z0 [(5,l44 (some 10500) ([]:(List hsOp))),(6,l3 (some 10600) ([]:(List Int))),(24,l3 none a2),(25,I6 (a2.length:Int)),(26,I6 ((0:Nat):Int))]) (by kernel_rfl)<|W.range (σ:=((List hsOp)×(List Int))) a2 (fun k1 s=>z0 [(5,l44 (some 10500) s.1),(6,l3 (some 10600) s.2),(24,l3 none a2),(25,I6 (a2.length:Int)),(26,I6 (k1:Int))]) (fun r0 k0 s=>qB fuel a1 (qK fuel) r0 k0 s.1 s.2=some r) (fun s h=>?_) (fun x1 r1 k1 s hx1 hk1 h hN1=>?_) (([]:(List hsOp)),([]:(List Int))) h
 ·obtain⟨v8,v9⟩:=s;have h:qB fuel a1 (qK fuel) [] (a2).length v8 v9=some r:=h;rw[qB.eq_1]at h;refine W.sr ?_;let y0:Env:=[(5,l44 (some 10500) v8),(6,l3 (some 10600) v9),(24,l3 none a2),(25,I6 (a2.length:Int)),(26,I6 ((a2).length:Int)),(27,.bool false)];refine WO.pq 0 (jB (jj (l:=a2))) (e1:=z0 y0)<|WO.fn (e2:=z0 y0) ?_;refine W.seq<|W.cF<|W.exit<|W.wk (e:=[(5,l44 (some 10500) v8),(6,l3 (some 10600) v9)]) ?_;exact hK6 (v8,v9) h
 ·obtain⟨v8,v9⟩:=s;have h:qB fuel a1 (qK fuel) (x1::r1) k1 v8 v9=some r:=h;rw[qB.eq_2]at h;refine W.sr ?_;let y1:Env:=[(5,l44 (some 10500) v8),(6,l3 (some 10600) v9),(24,l3 none a2),(25,I6 (a2.length:Int)),(26,I6 (k1:Int)),(27,.bool true)];refine WO.pq 0 (jB (jD hk1)) (e1:=z0 y1)<|WO.fn (e2:=z0 y1) ?_;refine W.seq<|W.cT<|W.skip ?_;let y2:Env:=[(24,l3 none a2),(25,I6 (a2.length:Int)),(26,I6 (k1:Int))];let z18:=fun t=>z0 ((5,l44 (some 10500) v8)::(6,l3 (some 10600) v9)::t);refine W.wk (e:=z18 y2)<|W.seq<|W.join (σ:=((List hsOp)×(List Int))) (fun s=>z0 ((5,l44 (some 10500) s.1)::(6,l3 (some 10600) s.2)::y2)) (fun s=>(qL (qB fuel a1 (qK fuel) r1 (k1+1))) s.1 s.2=some r) (fun s h=>?_) (fun hK10=>?_)
  ·obtain⟨v35,v36⟩:=s;have h:(qL (qB fuel a1 (qK fuel) r1 (k1+1))) v35 v36=some r:=h;unfold qL at h;refine W.rg ?_;let z19:=fun t=>z0 ((5,l44 (some 10500) v35)::(6,l3 (some 10600) v36)::(24,l3 none a2)::(25,I6 (a2.length:Int))::t);refine WO.pq 0 (jI (qS hl1 hk1)) (e1:=z19 [(26,I6 (k1:Int)),(80,I6 ((k1+1:Nat):Int))])<|WO.fn (e2:=z19 [(26,I6 ((k1+1:Nat):Int))]) ?_;exact hN1 (v35,v36) h
  refine W.block<|W.sr<|WO.pq 0 (jE (f:=(AV.int .i64)) hx1) (e1:=z18 [(24,l3 none a2),(25,I6 (a2.length:Int)),(26,I6 (k1:Int)),(28,.ptr (I6 x1))]) ?_;let y3:Env:=(6,l3 (some 10600) v9)::(8,I6 x1)::y2;let z20:=fun t=>z0 ((5,l44 (some 10500) v8)::t);refine WO.fn (e2:=z20 y3) ?_;refine W.seq<|W.seq ?_;let z21:=fun t=>z18 ((8,I6 x1)::(24,l3 none a2)::(25,I6 (a2.length:Int))::(26,I6 (k1:Int))::t);refine W.join (σ:=(Bool)) (fun s=>z21 [(45,.bool s)]) (fun s=>(jC fuel a1 x1 v8 v9 (qL (qB fuel a1 (qK fuel) r1 (k1+1)))) s=some r) (fun v16 h=>?_) (fun hK13=>?_)
  ·unfold jC at h;refine W.ch v16 h (fun h=>?_) (fun h=>?_)
   ·refine W.exit<|W.wk (e:=z18 y2) ?_;exact hK10 (v8,v9) h
   refine W.sw (e:=z20 y3) ?_;refine W.seq<|W.join (σ:=((List hsOp))) (fun s=>z0 ((5,l44 (some 10500) s)::y3)) (fun s=>(jA fuel x1 v9 (qL (qB fuel a1 (qK fuel) r1 (k1+1)))) s=some r) (fun v27 h=>?_) (fun hK17=>?_)
   ·unfold jA at h;refine W.seq<|W.sr ?_;let z22:=fun t=>z0 ((5,l44 (some 10500) v27)::(6,l3 (some 10600) v9)::(8,I6 x1)::(24,l3 none a2)::(25,I6 (a2.length:Int))::(26,I6 (k1:Int))::t);refine WO.pq 1 (jM jf v27) (e1:=z22 [(67,l44 (some 10500) v27),(68,I6 (v27.length:Int))]) ?_;let z23:=fun t=>z22 ((69,.bool (decide ((v27.length:Int) > 34)))::t);refine WO.fn (e2:=z23 []) ?_;refine W.ch (decide ((v27.length:Int) > 34)) h (fun h=>?_) (fun h=>?_)
    ·refine W.sr ?_;obtain⟨w31,hw31,h⟩:=ql h;refine WO.ck 0 (F:=21) (l:=[]) (C:=[]) (r:=.bool w31) (UC fuel w31 hw31) (e1:=z23 [(70,.bool w31)])<|WO.fn (e2:=[(4,.bool w31)]) ?_;refine W.wk (e:=[(4,.bool w31)]) ?_;cases h;exact W.rr
    refine W.skip ?_;let z24:=fun t=>z0 ((5,l44 (some 10500) v27)::t);refine W.wk (e:=z24 y3)<|W.sr ?_;obtain⟨hc33,h⟩:=qq h;refine WO.appendK 3 (d:=74) (e:=3) (s:=1) (bytes:=8) (xs:=(M6 v9)) (ys:=(M6 [x1])) (zs:=(M6 (v9++[x1]))) (env1:=[(0,l43 none a1),(5,l44 (some 10500) v27),(6,l3 none v9),(8,I6 x1),(24,l3 none a2),(25,I6 (a2.length:Int)),(26,I6 (k1:Int)),(71,l3 none v9),(72,I6 x1),(73,l3 (some 73) [x1])]) (by kernel_rfl) (List.map_append.symm) (by rw[A2];exact hc33) (e1:=z24 [(6,l3 none v9),(8,I6 x1),(24,l3 none a2),(25,I6 (a2.length:Int)),(26,I6 (k1:Int)),(71,l3 none v9),(72,I6 x1),(73,l3 (some 73) [x1]),(74,l3 (some 74) (v9++[x1]))]) (by kernel_rfl) ?_;refine WO.fn (e2:=z24 ((6,l3 (some 74) (v9++[x1]))::(8,I6 x1)::y2)) ?_;refine W.rg ?_;obtain⟨hc34,h⟩:=qq h;refine WO.appendK 4 (d:=79) (e:=44) (s:=3) (bytes:=24) (xs:=(A1 jf v27)) (ys:=(A1 jf [(hsOp.mk x1 2 0)])) (zs:=(A1 jf (v27++[(hsOp.mk x1 2 0)]))) (env1:=[(0,l43 none a1),(5,l44 none v27),(6,l3 (some 74) (v9++[x1])),(8,I6 x1),(24,l3 none a2),(25,I6 (a2.length:Int)),(26,I6 (k1:Int)),(75,l44 none v27),(76,I6 x1),(77,.agg [I6 x1,.int .i64 2,.int .i64 0]),(78,l44 (some 78) [(hsOp.mk x1 2 0)])]) (by kernel_rfl) (List.map_append.symm) (by rw[A2];exact hc34) (e1:=z0 [(5,l44 none v27),(6,l3 (some 74) (v9++[x1])),(8,I6 x1),(24,l3 none a2),(25,I6 (a2.length:Int)),(26,I6 (k1:Int)),(75,l44 none v27),(76,I6 x1),(77,.agg [I6 x1,.int .i64 2,.int .i64 0]),(78,l44 (some 78) [(hsOp.mk x1 2 0)]),(79,l44 (some 79) (v27++[(hsOp.mk x1 2 0)]))]) (by kernel_rfl) ?_;refine WO.fin [0,5,6,24,25,26] [] [] [(79,some 10500),(74,some 10600)] (e2:=z0 ((5,l44 (some 10500) (v27++[(hsOp.mk x1 2 0)]))::(6,l3 (some 10600) (v9++[x1]))::y2)) (by kernel_rfl) (fun _ h=>h) ?_;exact hK10 ((v27++[(hsOp.mk x1 2 0)]),(v9++[x1])) h
   refine W.sr ?_;obtain⟨w19,hw19,h⟩:=ql h;let z25:=fun t=>z21 ((46,l43 none a1)::(47,l44 (some 47) w19)::t);refine WO.ck 1 (F:=18) (l:=[l43 none a1]) (C:=[]) (r:=l44 (some 1) w19) (qeb a1 w19 hw19) (e1:=z25 [])<|WO.pq 0 (jM jf w19) (e1:=z25 [(48,I6 (w19.length:Int))]) ?_;let z26:=fun t=>z21 ((47,l44 (some 47) w19)::(48,I6 (w19.length:Int))::t);refine WO.fn (e2:=z26 [(49,.int .i64 0)]) ?_;refine W.block ?_;obtain⟨hl2,h⟩:=qq h;refine W.wk (e:=z26 [(49,I6 ((0:Nat):Int))])<|W.range (σ:=((List hsOp))) w19 (fun k2 s=>z0 [(5,l44 (some 10500) s),(6,l3 (some 10600) v9),(8,I6 x1),(24,l3 none a2),(25,I6 (a2.length:Int)),(26,I6 (k1:Int)),(47,l44 (some 47) w19),(48,I6 (w19.length:Int)),(49,I6 (k2:Int))]) (fun r0 k0 s=>ja x1 (jA fuel x1 v9 (qL (qB fuel a1 (qK fuel) r1 (k1+1)))) r0 k0 s=some r) (fun v20 h=>?_) (fun x2 r2 k2 s hx2 hk2 h hN2=>?_) v8 h
   ·have h:ja x1 (jA fuel x1 v9 (qL (qB fuel a1 (qK fuel) r1 (k1+1)))) [] (w19).length v20=some r:=h;rw[ja.eq_1]at h;refine W.sr ?_;let y4:Env:=[(5,l44 (some 10500) v20),(6,l3 (some 10600) v9),(8,I6 x1),(24,l3 none a2),(25,I6 (a2.length:Int)),(26,I6 (k1:Int)),(47,l44 (some 47) w19),(48,I6 (w19.length:Int)),(49,I6 ((w19).length:Int)),(50,.bool false)];refine WO.pq 0 (jB (jj (l:=w19))) (e1:=z0 y4)<|WO.fn (e2:=z0 y4) ?_;refine W.seq<|W.cF<|W.exit<|W.wk (e:=z0 ((5,l44 (some 10500) v20)::y3)) ?_;exact hK17 v20 h
   ·obtain⟨v20,rfl⟩:∃ x,x=s:=⟨s,rfl⟩;have h:ja x1 (jA fuel x1 v9 (qL (qB fuel a1 (qK fuel) r1 (k1+1)))) (x2::r2) k2 v20=some r:=h;rw[ja.eq_2]at h;refine W.sr ?_;let y5:Env:=[(5,l44 (some 10500) v20),(6,l3 (some 10600) v9),(8,I6 x1),(24,l3 none a2),(25,I6 (a2.length:Int)),(26,I6 (k1:Int)),(47,l44 (some 47) w19),(48,I6 (w19.length:Int)),(49,I6 (k2:Int)),(50,.bool true)];refine WO.pq 0 (jB (jD hk2)) (e1:=z0 y5)<|WO.fn (e2:=z0 y5) ?_;refine W.seq<|W.cT<|W.skip ?_;let y6:Env:=[(24,l3 none a2),(25,I6 (a2.length:Int)),(26,I6 (k1:Int)),(47,l44 (some 47) w19),(48,I6 (w19.length:Int)),(49,I6 (k2:Int))];let z27:=fun t=>z0 ((5,l44 (some 10500) v20)::(6,l3 (some 10600) v9)::(8,I6 x1)::t);refine W.wk (e:=z27 y6)<|W.seq ?_;let y7:Env:=(6,l3 (some 10600) v9)::(8,I6 x1)::y6;refine W.join (σ:=((List hsOp))) (fun s=>z0 ((5,l44 (some 10500) s)::y7)) (fun s=>(Jv (ja x1 (jA fuel x1 v9 (qL (qB fuel a1 (qK fuel) r1 (k1+1)))) r2 (k2+1))) s=some r) (fun v26 h=>?_) (fun hK21=>?_)
    ·unfold Jv at h;refine W.rg ?_;let z28:=fun t=>z0 ((5,l44 (some 10500) v26)::(6,l3 (some 10600) v9)::(8,I6 x1)::(24,l3 none a2)::(25,I6 (a2.length:Int))::(26,I6 (k1:Int))::(47,l44 (some 47) w19)::(48,I6 (w19.length:Int))::t);refine WO.pq 0 (jI (qS hl2 hk2)) (e1:=z28 [(49,I6 (k2:Int)),(66,I6 ((k2+1:Nat):Int))])<|WO.fn (e2:=z28 [(49,I6 ((k2+1:Nat):Int))]) ?_;exact hN2 v26 h
    refine W.block<|W.sr<|WO.pq 0 (jE (f:=jf) hx2) (e1:=z27 [(24,l3 none a2),(25,I6 (a2.length:Int)),(26,I6 (k1:Int)),(47,l44 (some 47) w19),(48,I6 (w19.length:Int)),(49,I6 (k2:Int)),(51,.ptr (.agg [I6 x2.qb,I6 x2.qh,I6 x2.qi]))]) ?_;let z29:=fun t=>z27 ((10,.ptr (.agg [I6 x2.qb,I6 x2.qh,I6 x2.qi]))::t);refine WO.fi [0,5,6,8,10,24,25,26,47,48,49] [10] (e2:=z29 y6) ?_;refine W.seq ?_;let z30:=fun t=>z29 ((24,l3 none a2)::(25,I6 (a2.length:Int))::(26,I6 (k1:Int))::(47,l44 (some 47) w19)::(48,I6 (w19.length:Int))::(49,I6 (k2:Int))::t);refine W.join (σ:=(Bool)) (fun s=>z30 [(61,.bool s)]) (fun s=>(JX x2 v20 (Jv (ja x1 (jA fuel x1 v9 (qL (qB fuel a1 (qK fuel) r1 (k1+1)))) r2 (k2+1)))) s=some r) (fun v24 h=>?_) (fun hK23=>?_)
    ·unfold JX at h;refine W.ch v24 h (fun h=>?_) (fun h=>?_)
     ·refine W.rg ?_;obtain⟨hc25,h⟩:=qq h;refine WO.appendK 3 (d:=65) (e:=44) (s:=3) (bytes:=24) (xs:=(A1 jf v20)) (ys:=(A1 jf [x2])) (zs:=(A1 jf (v20++[x2]))) (env1:=[(0,l43 none a1),(5,l44 none v20),(6,l3 (some 10600) v9),(8,I6 x1),(10,.ptr (.agg [I6 x2.qb,I6 x2.qh,I6 x2.qi])),(24,l3 none a2),(25,I6 (a2.length:Int)),(26,I6 (k1:Int)),(47,l44 (some 47) w19),(48,I6 (w19.length:Int)),(49,I6 (k2:Int)),(61,.bool v24),(62,l44 none v20),(63,.agg [I6 x2.qb,I6 x2.qh,I6 x2.qi]),(64,l44 (some 64) [x2])]) (by kernel_rfl) (List.map_append.symm) (by rw[A2];exact hc25) (e1:=z0 [(5,l44 none v20),(6,l3 (some 10600) v9),(8,I6 x1),(10,.ptr (.agg [I6 x2.qb,I6 x2.qh,I6 x2.qi])),(24,l3 none a2),(25,I6 (a2.length:Int)),(26,I6 (k1:Int)),(47,l44 (some 47) w19),(48,I6 (w19.length:Int)),(49,I6 (k2:Int)),(61,.bool v24),(62,l44 none v20),(63,.agg [I6 x2.qb,I6 x2.qh,I6 x2.qi]),(64,l44 (some 64) [x2]),(65,l44 (some 65) (v20++[x2]))]) (by kernel_rfl) ?_;refine WO.fin [0,5,6,8,24,25,26,47,48,49] [] [] [(65,some 10500)] (e2:=z0 ((5,l44 (some 10500) (v20++[x2]))::y7)) (by kernel_rfl) (fun _ h=>h) ?_;exact hK21 (v20++[x2]) h
     refine W.sw (e:=z0 ((5,l44 (some 10500) v20)::y7)) ?_;exact hK21 v20 h
    refine W.rg<|WO.bh 5 (fun b=>z30 [(53,.ptr (I6 x2.qb)),(54,I6 x2.qb),(55,I6 x1),(56,.bool b),(57,.bool b)]) (x2.qb == x1) h (fun h=>?_) (fun h=>?_)
    ·refine WO.fn (e2:=z30 [(61,.bool (decide (x2.qh<2)))]) ?_;exact hK23 (decide (x2.qh<2)) h
    refine WO.fn (e2:=z30 [(61,.bool false)]) ?_;exact hK23 false h
  refine W.rg ?_;let z31:=fun t=>z21 ((30,I6 x1)::t);refine WO.bh 3 (fun b=>z31 [(31,.bool b),(32,.bool b)]) (decide (x1<1)) h (fun h=>?_) (fun h=>?_)
  ·refine WO.fn (e2:=z21 [(45,.bool true)]) ?_;exact hK13 true h
  let z32:=fun t=>z31 ((31,.bool false)::(32,.bool false)::(33,I6 x1)::t);refine WO.bh 4 (fun b=>z32 [(34,.bool b),(35,.bool b),(36,.bool b)]) (decide (x1 > 6)) h (fun h=>?_) (fun h=>?_)
  ·refine WO.fn (e2:=z21 [(45,.bool true)]) ?_;exact hK13 true h
  obtain⟨w14,hw14,h⟩:=ql h;let z33:=fun t=>z32 ((34,.bool false)::(35,.bool false)::(36,.bool false)::(37,l3 (some 10600) v9)::(38,I6 x1)::t);refine WO.ck 2 (F:=39) (l:=[l3 none v9,I6 x1]) (C:=[]) (r:=.bool w14) (XL v9 x1 w14 hw14) (e1:=z33 [(39,.bool w14)])<|WO.bh 2 (fun b=>z33 [(39,.bool b),(40,.bool b),(41,.bool b)]) w14 h (fun h=>?_) (fun h=>?_)
  ·refine WO.fn (e2:=z21 [(45,.bool true)]) ?_;exact hK13 true h
  obtain⟨w15,hw15,h⟩:=ql h;refine WO.ck 1 (F:=20) (l:=[l43 none a1]) (C:=[]) (r:=.bool w15) (qav a1 w15 hw15) (e1:=z33 [(39,.bool false),(40,.bool false),(41,.bool false),(42,l43 none a1),(43,.bool w15)])<|WO.fn (e2:=z21 [(45,.bool (!w15))]) ?_;exact hK13 (!w15) h
def lexP:List Int→List Int→Prop
 | a::p,b::q=>a<b∨(a=b∧lexP p q)
 | _,_=>False
theorem Hx:∀ (p q:List hsOp),JC (p++q) (Xb) q p.length=some true
 | p,[]=>by rw[JC.eq_1];rfl
 | p,x::q=>by
  have h:idx (p++x::q) ((p.length:Nat):Int)=some x:=DS (by simp);rw[JC.eq_2,h];simp only[A0,beq_self_eq_true,Bool.and_true,Bool.not_true,cN];have:=Hx (p++[x]) q
  simpa using this
theorem qdz {l:List hsOp} (hl:l.length≤100000):XM l l=some true:=by
 unfold XM;rw[jv (by omega)];simp only[bne_self_eq_false,cN,qx];exact Hx [] l
theorem qgO (K:List rf5Op→Option (List rf5Op)):∀ (l:List hsOp) (k:Nat) (v:List rf5Op),v.length+l.length≤1000→QZ K l k v=K (v++l.map uv)
 | [],k,v,_=>by rw[QZ.eq_1];simp
 | x::l,k,v,h=>by
  rw[QZ.eq_2];simp only[A6]at h;rw[capS (by omega) (by rw[A3,A4];omega),qx,qgO K l (k+1) _ (by rw[A3,A4];omega)];simp[uv]
theorem qhF {l:List hsOp} (hl:l.length≤1000):Nn l=some (l.map uv):=by
 unfold Nn;rw[jv (by omega),qx,qgO _ l 0 [] (by simpa using hl)];rfl
theorem qdx (c:List Int) (K:Bool→Option Bool):∀ (r:List Int) (k:Nat) (v:Bool) (pre post:List Int),c=pre++post→pre.length=k→r.length=post.length→jy c K r k v=K (v && decide (post=r))
 | [],k,v,pre,post,_,_,hl=>by
  rw[jy.eq_1,List.eq_nil_of_length_eq_zero hl.symm];simp
 | x::r,k,v,pre,[],_,_,hl=>by simp at hl
 | x::r,k,v,pre,y::post,he,hk,hl=>by
  rw[jy.eq_2]
  have ih:=fun v=>qdx c K r (k+1) v (pre++[y]) post (by rw[he];simp) (by simp[hk]) (by simpa using hl)
  have hi:idx c (k:Int)=some y:=DS (by rw[he,← hk];simp);unfold QD;rw[hi];simp only[A0,ih]
  cases v with
  | false=>simp
  | true =>
   by_cases h1:y=x
   ·subst h1;simp
   ·have e1:(y == x)=false:=beq_eq_false_iff_ne.2 h1;rw[e1];simp[h1]
theorem qdy {l:List rf5Op} (H:Hist l) {c:List Int} (hc6:c.length≤6) (hcr:∀ y,y∈c→0≤y∧y≤6) (hag:agreesB (confL (partL l)) c=true):∀ (ps:List (List Int)) (k:Nat),(∀ p,p∈ps→p.length=c.length)→c∈ps→jz l c jU ps k=some true
 | [],_,_,h=>by cases h
 | p::ps,k,hp,hm=>by
  rw[jz.eq_2];have hpl:=hp p (.head _)
  have e1:((p.length:Int) == (c.length:Int))=true:=by rw[hpl];simp
  rw[jv (by omega),qx,e1,qdx c _ p 0 true [] c rfl rfl hpl,Bool.true_and];unfold Jj;by_cases he:c=p
  ·rw[dT he];obtain⟨w,h1,h2,h3⟩:=qfF H;rw[h1];simp only[A0,cT];rw[qcV h2 (by omega) hcr,A0];rw[NI (F:=confL (partL l)) (fun a b ha hb=>h3 a b (hcr a ha) (hcr b hb)),hag]
  ·rw[dF he];simp only[cN];exact qdy H hc6 hcr hag ps (k+1) (fun q hq=>hp q (.tail _ hq)) ((List.mem_cons.1 hm).resolve_left he)
theorem qge {l:List rf5Op} (hv:validB l=true) {c:List Int} (hp:c.Perm (commL l)) (hag:agreesB (confL (partL l)) c=true):XD bigFuel l c=some true:=by
 obtain⟨H,h40⟩:=YN hv;have h6:=Xx l;have e:bigFuel=36893488147419103231+1:=rfl;have hpm:∀ p,p∈permsF (commL l).length (commL l)↔p.Perm (commL l):=Nk (Yg l) (A7 _);have hlen:=ZZ (commL l).length (commL l) (A7 _);have hfac:=qhg h6
 have hcm:∀ y,y∈c→0≤y∧y≤6:=fun y hy=>by
  have:=(YG.1 (hp.mem_iff.1 hy)).1;omega
 have hcl:c.length≤6:=by rw[hp.length_eq];exact h6
 unfold XD;rw[qfG H,A0,e,qba _ _ (Yg l) (by omega) h6,A0];have hx:permsF 36893488147419103231 (commL l)=permsF 36893488147419103231 (commL l):=rfl;have hpm2:∀ p,p∈permsF 36893488147419103231 (commL l)↔p.Perm (commL l):=Nk (Yg l) (by omega);have hlen2:=(ZZ 36893488147419103231 (commL l) (by omega)).1;rw[jv (by omega),qx];exact qdy H hcl hcm hag _ 0 (fun p hq=>by rw[((hpm2 p).1 hq).length_eq,hp.length_eq]) ((hpm2 c).2 hp)
theorem qhO (x y:Int):XG x y=some (if x<y then -1 else if x > y then 1 else 0):=by
 unfold XG Ys;simp only[A0,bne_self_eq_false,cN];by_cases h1:x<y
 ·rw[dT h1,if_pos h1];rfl
 ·rw[dF h1,if_neg h1];by_cases h2:x > y
  ·rw[dT h2,if_pos h2];rfl
  ·rw[dF h2,if_neg h2];rfl
theorem qah {K:Option Int} (hK:K=some 0):∀ (p q pre:List Int),(p=q∨lexP p q)→∃ w,Jt (pre++q) K p pre.length=some w∧w≤0
 | [],q,pre,h=>⟨0,by rw[Jt.eq_1,hK],Int.le_refl _⟩
 | x::p,[],pre,h=>by
  rcases h with h | h
  ·cases h
  ·exact absurd h (by simp[lexP])
 | x::p,y::q,pre,h=>by
  have hi:idx (pre++y::q) ((pre.length:Nat):Int)=some y:=DS (by simp);rw[Jt.eq_2,dF (by simp;omega),cN,hi,A0,qhO,A0]
  have hx:x<y∨(x=y∧(p=q∨lexP p q)):=by
   rcases h with h | h
   ·obtain⟨h1,h2⟩:=List.cons.inj h;exact .inr ⟨h1,.inl h2⟩
   ·rcases h with h | ⟨h1,h2⟩
    ·exact .inl h
    ·exact .inr ⟨h1,.inr h2⟩
  rcases hx with hx | ⟨rfl,hx⟩
  ·rw[if_pos hx];exact⟨-1,rfl,by decide⟩
  ·have:=qah hK p q (pre++[x]) hx;rw[A3,A4,List.append_assoc]at this
   simpa using this
theorem qag {c a:List Int} (hl:c.length=a.length) (h8:c.length≤1000) (h:c=a∨lexP c a):∃ w,Xc c a=some w∧w≤0:=by
 unfold Xc;rw[jv (by omega),qx];refine qah ?_ c a [] h;unfold QP;rw[dF (by omega)];rfl
def fstL (Q:rf5Op→Bool):List rf5Op→Nat→Int
 | [],_ => -1
 | x::r,i=>bif Q x then (i:Int) else fstL Q r (i+1)
theorem qfn (t:Int):∀ (l:List rf5Op) (i:Nat),begL t l i=fstL (fun x=>x.qb == t) l i
 | [],i=>rfl
 | x::l,i=>by unfold begL fstL;rw[qfn t l (i+1)]
theorem qfk (t k:Int):∀ (l:List rf5Op) (i:Nat),endL t k l i=fstL (fun x=>(x.qb == t) && (x.qh == k)) l i
 | [],i=>rfl
 | x::l,i=>by unfold endL fstL;rw[qfk t k l (i+1)]
theorem qex {Q:rf5Op→Bool} {x:rf5Op} (hx:Q x=true) (B:List rf5Op):∀ (A:List rf5Op) (i:Nat),(∀ y,y∈A→Q y=false)→fstL Q (A++x::B) i=((i+A.length:Nat):Int)
 | [],i,_=>by show (bif Q x then (i:Int) else _)=_;rw[hx];rfl
 | y::A,i,h=>by
  show (bif Q y then (i:Int) else fstL Q (A++x::B) (i+1))=_;rw[h y (by simp),cN,qex hx B A (i+1) fun z hz=>h z (by simp[hz])]
  congr 1
  simp;omega
def opsOf (ops:List hsOp) (t:Int):List hsOp:=ops.filter fun o=>(o.qb == t) && decide (o.qh<2)
def blk (ops:List hsOp) (t:Int):List hsOp:=opsOf ops t++[⟨t,2,0⟩]
def ser (ops:List hsOp) (D:List Int):List hsOp:=D.flatMap (blk ops)
theorem Zq (ops:List hsOp) (A B:List Int):ser ops (A++B)=ser ops A++ser ops B:=by simp[ser]
theorem VN (ops:List hsOp) (a:Int) (B:List Int):ser ops (a::B)=blk ops a++ser ops B:=by simp[ser]
theorem Yz {ops:List hsOp} {t:Int} {x:hsOp} (h:x∈opsOf ops t):x∈ops∧x.qb=t∧x.qh≤1:=by
 have:=List.mem_filter.1 h;simp only[A8,beq_iff_eq,decide_eq_true_eq]at this;exact⟨this.1,this.2.1,by omega⟩
theorem qfm {ops:List hsOp} {t:Int} {x:hsOp} (h:x∈blk ops t):x.qb=t:=by
 rcases List.mem_append.1 h with h | h
 ·exact (Yz h).2.1
 ·rw[List.mem_singleton.1 h]
theorem qbV {ops:List hsOp} {D:List Int} {x:hsOp} (h:x∈ser ops D):x.qb∈D:=by
 obtain⟨t,ht,hx⟩:=List.mem_flatMap.1 h;rw[qfm hx];exact ht
theorem VH.nil:VH []:=fun p o q h=>by simp at h
theorem VH.snoc {l:List hsOp} {o:hsOp} (h:VH l) (ho:OkOp o) (h0:1<o.qh→o.qi=0) (he:∀ e,e∈l→e.qb=o.qb→e.qh≤1):VH (l++[o]):=by
 intro p x q e
 rcases UH e with ⟨_,rfl,rfl⟩ | ⟨q',_,e2⟩
 ·exact⟨ho,h0,he⟩
 ·exact h p x q' e2
theorem VH.add {t:Int}:∀ (f l:List hsOp),VH l→(∀ o,o∈f→OkOp o∧o.qb=t∧o.qh≤1)→(∀ e,e∈l→e.qb=t→e.qh≤1)→VH (l++f)
 | [],l,h,_,_=>by simpa using h
 | o::f,l,h,hf,hl=>by
  obtain⟨h1,h2,h3⟩:=hf o (.head _)
  have:=VH.add f (l++[o]) (h.snoc h1 (fun h=>by omega) (fun e he ht=>hl e he (ht.trans h2))) (fun x hx=>hf x (.tail _ hx)) (fun e he ht=>by
   rcases List.mem_append.1 he with he | he
   ·exact hl e he ht
   ·rw[List.mem_singleton.1 he];exact h3)
  simpa using this
def OnlyL (t:Int) (s:LS):Prop:=(∀ i x,s.sh i x=true→x=t)∧∀ i,s.ex i=0∨s.ex i=t
def FreeL (s:LS):Prop:=(∀ i x,s.sh i x=false)∧∀ i,s.ex i=0
theorem FreeL.only {s:LS} (h:FreeL s) (t:Int):OnlyL t s:=⟨fun i x hx=>absurd hx (by rw[h.1];decide),fun i=>.inl (h.2 i)⟩
theorem OnlyL.no {t:Int} {s:LS} (h:OnlyL t s) {o:hsOp} (ho:o.qb=t) (x:Int):¬ hindP s o x:=by
 rintro (⟨h1,h2,h3⟩ | ⟨_,h2,h3⟩)
 ·rcases h.2 o.qi.toNat with h4 | h4
  ·exact h2 (h1.symm.trans h4)
  ·exact h3 (h1.symm.trans (h4.trans ho.symm))
 ·exact h2 ((h.1 _ _ h3).trans ho.symm)
theorem Good.add {t:Int}:∀ (f l:List hsOp),Good l→OnlyL t (lkS l)→(∀ o,o∈f→o.qb=t∧o.qh≤1)→Good (l++f)∧OnlyL t (lkS (l++f))
 | [],l,h,h2,_=>by simpa using ⟨h,h2⟩
 | o::f,l,h,hl,hf=>by
  obtain⟨h2,h3⟩:=hf o (.head _)
  have hon:OnlyL t (lkS (l++[o])):=by
   rw[Yl,if_pos h3];refine⟨fun i x hx=>?_,fun i=>?_⟩
   ·rw[Dq]at hx;split at hx
    ·rename_i hc;exact hc.2.2.trans h2
    ·exact hl.1 i x hx
   ·rw[Dr];split
    ·exact .inr h2
    ·exact hl.2 i
  have:=Good.add f (l++[o]) (h.snoc fun _ x=>hl.no h2 x) hon (fun x hx=>hf x (.tail _ hx))
  simpa using this
theorem HJ (l m:List hsOp):commits (l++m)=commits l++commits m:=by simp[commits]
theorem qdA {l:List hsOp} (h:∀ o,o∈l→o.qh≤1):commits l=[]:=by
 unfold commits;rw[List.filter_eq_nil_iff.2 fun o ho=>by have:=h o ho;simp;omega];rfl
structure SerOk (l:List hsOp) (D:List Int):Prop where
 vh:VH l
 good:Good l
 free:FreeL (lkS l)
 com:commits l=D
theorem SerOk.step {ops:List hsOp} (hop:∀ o,o∈ops→OkOp o) {D:List Int} {t:Int} (h:SerOk (ser ops D) D) (ht:t ∉ D) (hr:1≤t∧t≤6):SerOk (ser ops (D++[t])) (D++[t]):=by
 have hne:∀ e,e∈ser ops D→e.qb≠t:=fun e he h=>ht (h ▸ qbV he)
 have e1:ser ops (D++[t])=(ser ops D++opsOf ops t)++[⟨t,2,0⟩]:=by rw[Zq,VN];simp[blk,ser]
 have hv1:VH (ser ops D++opsOf ops t):=VH.add (t:=t) _ _ h.vh (fun o ho=>⟨hop o (Yz ho).1,(Yz ho).2⟩) (fun e he h=>absurd h (hne e he));obtain⟨hg1,ho1⟩:=Good.add (t:=t) (opsOf ops t) _ h.good (h.free.only t) (fun o ho=>(Yz ho).2);rw[e1];refine⟨hv1.snoc ⟨hr.1,hr.2,(by decide:(0:Int)≤2),(by decide:(2:Int)≤3),(by decide:(0:Int)≤0),(by decide:(0:Int)≤5)⟩ (fun _=>rfl) (fun e he h=>?_),hg1.snoc (fun hk=>absurd (show (2:Int)≤1 from hk) (by decide)),?_,?_⟩
 ·rcases List.mem_append.1 he with he | he
  ·exact absurd h (hne e he)
  ·exact (Yz he).2.2
 ·rw[Yl,if_neg (show ¬ (2:Int)≤1 by decide)];refine⟨fun i x=>?_,fun i=>?_⟩
  ·show (if x=t then false else (lkS (ser ops D++opsOf ops t)).sh i x)=false;by_cases hx:x=t
   ·rw[if_pos hx]
   ·rw[if_neg hx];cases hh:(lkS (ser ops D++opsOf ops t)).sh i x
    ·rfl
    ·exact absurd (ho1.1 i x hh) hx
  ·show (if (lkS (ser ops D++opsOf ops t)).ex i=t then 0 else (lkS (ser ops D++opsOf ops t)).ex i)=0;by_cases hx:(lkS (ser ops D++opsOf ops t)).ex i=t
   ·rw[if_pos hx]
   ·rw[if_neg hx];exact (ho1.2 i).resolve_right hx
 ·rw[HJ,HJ,h.com,qdA fun o ho=>(Yz ho).2.2];simp[commits]
theorem qgF {ops:List hsOp} (hop:∀ o,o∈ops→OkOp o):∀ (E D:List Int),SerOk (ser ops D) D→(D++E).Nodup→(∀ t,t∈E→1≤t∧t≤6)→SerOk (ser ops (D++E)) (D++E)
 | [],D,h,_,_=>by simpa using h
 | t::E,D,h,hn,hr=>by
  have ht:t ∉ D:=fun hm=>(List.nodup_append.1 hn).2.2 t hm t (.head _) rfl
  have:=qgF hop E (D++[t]) (h.step hop ht (hr t (.head _))) (by simpa using hn) (fun x hx=>hr x (.tail _ hx))
  simpa using this
theorem qeM (ops:List hsOp):SerOk (ser ops []) []:=⟨VH.nil,Good.nil,⟨fun _ _=>rfl,fun _=>rfl⟩,rfl⟩
theorem qgn {ops:List hsOp} {A B C D:List Int} {a c:Int} (hD:D=A++a::(B++c::C)) (hn:D.Nodup):endL a 2 ((ser ops D).map uv) 0<begL c ((ser ops D).map uv) 0:=by
 have haA:a ∉ A:=fun h=>by
  rw[hD]at hn;exact (List.nodup_append.1 hn).2.2 a h a (.head _) rfl
 have hcA:c ∉ A++a::B:=fun h=>by
  have:D=(A++a::B)++c::C:=by rw[hD];simp
  rw[this]at hn;exact (List.nodup_append.1 hn).2.2 c h c (.head _) rfl
 have e1:(ser ops D).map uv=(ser ops A++opsOf ops a).map uv++uv ⟨a,2,0⟩::(ser ops (B++c::C)).map uv:=by
  rw[hD,Zq,VN];simp[blk]
 have h1:endL a 2 ((ser ops D).map uv) 0=((ser ops A++opsOf ops a).length:Int):=by
  rw[qfk,e1,qex (by simp[uv]) _ _ 0 (fun y hy=>?_),A2,Nat.zero_add];obtain⟨x,hx,rfl⟩:=List.mem_map.1 hy
  rcases List.mem_append.1 hx with hx | hx
  ·have:x.qb≠a:=fun h=>haA (h ▸ qbV hx)
   show ((x.qb == a) && _)=false;rw[beq_eq_false_iff_ne.2 this];rfl
  ·have:=(Yz hx).2.2;have hk:(x.qh == 2)=false:=beq_eq_false_iff_ne.2 (by omega);show ((x.qb == a) && (x.qh == 2))=false;rw[hk,Bool.and_false]
 obtain⟨z,R,hz⟩:∃ z R,blk ops c=z::R:=by
  cases hb:blk ops c with
  | nil=>exact absurd hb (by simp[blk])
  | cons z R=>exact⟨z,R,rfl⟩
 have hzt:z.qb=c:=qfm (ops:=ops) (by rw[hz];exact .head _)
 have e2:(ser ops D).map uv=(ser ops (A++a::B)).map uv++uv z::(R++ser ops C).map uv:=by
  have:D=(A++a::B)++c::C:=by rw[hD];simp
  rw[this,Zq ops (A++a::B),VN ops c,hz];simp
 have h2:begL c ((ser ops D).map uv) 0=((ser ops (A++a::B)).length:Int):=by
  rw[qfn,e2,qex (by show (z.qb == c)=true;simp[hzt]) _ _ 0 (fun y hy=>?_),A2,Nat.zero_add];obtain⟨x,hx,rfl⟩:=List.mem_map.1 hy
  have:x.qb≠c:=fun h=>hcA (h ▸ qbV hx)
  exact beq_eq_false_iff_ne.2 this
 rw[h1,h2,Zq,VN];simp only[blk,A3,A6,List.length_nil];omega
def BeforeL (D:List Int) (a c:Int):Prop:=∃ A B C,D=A++a::(B++c::C)
theorem qgm {D:List Int} {a b:Int} (ha:a∈D) (hb:b∈D) (hne:a≠b):BeforeL D a b∨BeforeL D b a:=by
 obtain⟨P,Q,rfl⟩:=A5 ha
 rcases List.mem_append.1 hb with h | h
 ·obtain⟨P1,P2,rfl⟩:=A5 h;exact .inr ⟨P1,P2,Q,by simp⟩
 ·obtain⟨Q1,Q2,rfl⟩:=A5 ((List.mem_cons.1 h).resolve_left (Ne.symm hne));exact .inl ⟨P,Q1,Q2,rfl⟩
theorem Hj {x y:Int}:∀ {l:List Int},[x,y].Sublist l→BeforeL l x y
 | [],h=>by cases h
 | z::l,h=>by
  cases h with
  | cons _ h =>
   obtain⟨A,B,C,rfl⟩:=Hj h;exact⟨z::A,B,C,rfl⟩
  | cons_cons _ h =>
   have hm:y∈l:=h.subset (.head _);obtain⟨B,C,rfl⟩:=A5 hm;exact⟨[],B,C,rfl⟩
theorem qdQ {h:List rf5Op} {b i:Int}:srcL h b i=0∨endL (srcL h b i) 2 h 0<begL b h 0:=by
 unfold srcL
 have key:∀ (r:List Int) (z:Int),(z=0∨endL z 2 h 0<begL b h 0)→(r.foldl (srcStep h b i) z=0∨endL (r.foldl (srcStep h b i) z) 2 h 0<begL b h 0):=by
  intro r
  induction r with
  | nil=>exact fun z hz=>hz
  | cons a r ih =>
   intro z hz;refine ih _ ?_;unfold srcStep
   cases hc:(writesL h a i && (decide (endL a 2 h 0<begL b h 0) && ((z == 0) || decide (endL a 2 h 0 > endL z 2 h 0)))) with
   | false=>exact hz
   | true =>
    simp only[A8,decide_eq_true_eq]at hc;exact .inr hc.2.1
 exact key _ 0 (.inl rfl)
theorem qfi {p:Int→Bool} {y:Int}:∀ {l:List Int},l.Pairwise (fun a b=>a<b)→y∈l→p y=true→∃ b,l.find? p=some b∧b≤y∧b∈l
 | [],_,h,_=>by cases h
 | x::l,hs,h,hp=>by
  rw[List.find?_cons]
  cases hx:p x with
  | true =>
   refine⟨x,rfl,?_,.head _⟩
   rcases List.mem_cons.1 h with rfl | h
   ·exact Int.le_refl _
   ·exact Int.le_of_lt ((List.pairwise_cons.1 hs).1 y h)
  | false =>
   rcases List.mem_cons.1 h with rfl | h
   ·rw[hp]at hx;cases hx
   ·obtain⟨b,h1,h2,h3⟩:=qfi (List.pairwise_cons.1 hs).2 h hp;exact⟨b,h1,h2,.tail _ h3⟩
theorem qbN {E:Int→Int→Bool} (hi:∀ x,E x x=false):∀ (n:Nat) (l c:List Int),l.Pairwise (fun a b=>a<b)→c.Perm l→agreesB E c=true→l.length≤n→∃ o,topo E n l=some o∧o.length=c.length∧(o=c∨lexP o c)
 | n,[],c,_,hp,_,_=>by
  rw[List.Perm.eq_nil hp];exact⟨[],by unfold topo;rfl,rfl,.inl rfl⟩
 | 0,x::l,c,_,_,_,hl=>by simp at hl
 | n+1,x::l,[],_,hp,_,_=>by exact absurd hp.length_eq (by simp)
 | n+1,x::l,y::c,hs,hp,ha,hl=>by
  have hy:y∈x::l:=hp.mem_iff.1 (.head _);have ha2:=ha;unfold agreesB at ha2;rw[A8,List.all_eq_true]at ha2
  have hsrc:srcB E (x::l) y=true:=by
   unfold srcB;rw[Bool.not_eq_true',List.any_eq_false];intro z hz
   rcases List.mem_cons.1 (hp.mem_iff.2 hz) with rfl | hz
   ·rw[hi];decide
   ·have:=ha2.1 z hz
    simpa using this
  obtain⟨b,hb1,hb2,hb3⟩:=qfi (p:=srcB E (x::l)) hs hy hsrc;have hss:((x::l).erase b).Pairwise (fun a b=>a<b):=hs.sublist List.erase_sublist;have hpe:((y::c).erase b).Perm ((x::l).erase b):=hp.erase b;have hae:agreesB E ((y::c).erase b)=true:=Vh.2 ((Vh.1 ha).sublist List.erase_sublist)
  have hle:((x::l).erase b).length≤n:=by rw[A9 hb3];simp at hl ⊢;omega
  obtain⟨o,ho1,ho2,ho3⟩:=qbN hi n _ _ hss hpe hae hle;refine⟨b::o,?_,?_,?_⟩
  ·unfold topo;rw[hb1];simp only[ho1,Option.map_some]
  ·rw[A6,ho2,A9 (hp.mem_iff.2 hb3)];simp
  ·by_cases hby:b=y
   ·subst hby;rw[List.erase_cons_head]at ho3
    rcases ho3 with rfl | h
    ·exact .inl rfl
    ·exact .inr (.inr ⟨rfl,h⟩)
   ·exact .inr (.inl (by omega))
theorem HK (h:List rf5Op):(commL h).Pairwise fun a b=>a<b:=List.Pairwise.filter _ (by decide)
theorem qaR (x:Int) (K:List hsOp→Option Bool):∀ (r:List hsOp) (k:Nat) (v:List hsOp),v.length+r.length≤1000→ja x K r k v=K (v++opsOf r x)
 | [],k,v,_=>by rw[ja.eq_1];simp[opsOf]
 | o::r,k,v,hv=>by
  rw[ja.eq_2];simp only[A6]at hv
  have ih:=fun u hu=>qaR x K r (k+1) u hu
  unfold JX Jv
  have e:opsOf (o::r) x=if (o.qb == x) && decide (o.qh<2) then o::opsOf r x else opsOf r x:=by unfold opsOf;rw[List.filter_cons]
  cases h1:(o.qb == x) with
  | false =>
   simp only[cN];rw[ih _ (by omega),e,h1];rfl
  | true =>
   simp only[cT]
   cases h2:decide (o.qh<2) with
   | false =>
    simp only[cN];rw[ih _ (by omega),e,h1,h2];rfl
   | true =>
    simp only[cT];rw[capS (by omega) (by rw[A3,A4];omega),qx,ih _ (by rw[A3,A4];omega),e,h1,h2];simp
structure DOk (h:List rf5Op) (D:List Int):Prop where
 nd:D.Nodup
 rng:∀ t,t∈D→1≤t∧t≤6
 val:D=[]∨validB h=true
 len:(ser (h.map cv) D).length≤35
theorem DOk.len6 {h:List rf5Op} {D:List Int} (d:DOk h D):D.length≤6:=by
 exact Zi D [(1:Int),2,3,4,5,6] d.nd fun x hx=>Nm (d.rng x hx).1 (d.rng x hx).2
theorem qaS {h:List rf5Op} (hl:lenOk h=true) (K:List hsOp→List Int→Option Bool) (hK:∀ D,DOk h D→K (ser (h.map cv) D) D=some true):∀ (r:List Int) (k:Nat) (D:List Int),DOk h D→qB bigFuel h K r k (ser (h.map cv) D) D=some true
 | [],k,D,d=>by rw[qB.eq_1];exact hK D d
 | x::r,k,D,d=>by
  rw[qB.eq_2]
  have ih:=fun D d=>qaS hl K hK r (k+1) D d
  have h6:=d.len6
  have hskip:jC bigFuel h x (ser (h.map cv) D) D (qL (qB bigFuel h K r (k+1))) true=some true:=by
   unfold jC qL;exact ih D d
  by_cases h1:x<1
  ·rw[dT h1,cT];exact hskip
  ·rw[dF h1,cN];by_cases h2:x > 6
   ·rw[dT h2,cT];exact hskip
   ·rw[dF h2,cN,VB (by omega),A0]
    cases h3:D.contains x with
    | true=>rw[cT];exact hskip
    | false =>
     rw[cN,qea hl,A0]
     cases hv:validB h with
     | false=>exact hskip
     | true =>
      obtain⟨H,h40⟩:=YN hv
      have hxD:x ∉ D:=by simpa using h3
      unfold jC;rw[Bool.not_true,cN,qhX hl,A0,B5 (by omega)];have hl2:=d.len;rw[jv (by rw[A2];omega),qx,qaR _ _ _ _ _ (by rw[A2];omega)];unfold jA;by_cases h4:(((ser (h.map cv) D++opsOf (h.map cv) x).length:Int) > 34)
      ·rw[dT h4,cT,qbD];rfl
      ·rw[dF h4,cN];rw[capS (by omega) (by rw[A3,A4];omega),qx,capS (by omega) (by rw[A3,A4];omega),qx];unfold qL
       have e:ser (h.map cv) (D++[x])=ser (h.map cv) D++opsOf (h.map cv) x++[hsOp.mk x 2 0]:=by rw[Zq,VN];simp[blk,ser]
       rw[← e];refine ih _ ⟨?_,fun t ht=>?_,.inr hv,?_⟩
       ·rw[List.nodup_append];exact⟨d.nd,by simp,fun a ha b hb e=>hxD (by rw[← List.mem_singleton.1 hb,← e];exact ha)⟩
       ·rcases List.mem_append.1 ht with ht | ht
        ·exact d.rng t ht
        ·rw[List.mem_singleton.1 ht];omega
       ·rw[e,A3,A4];omega
theorem qdY {h:List rf5Op} {D:List Int} (d:DOk h D):qK bigFuel (ser (h.map cv) D) D=some true:=by
 have S:SerOk (ser (h.map cv) D) D:=by
  rcases d.val with rfl | hv
  ·exact qeM _
  ·obtain⟨H,h40⟩:=YN hv;refine qgF (fun o ho=>?_) D [] (qeM _) (by simpa using d.nd) d.rng;obtain⟨x,hx,rfl⟩:=List.mem_map.1 ho;have t:=H.txn _ hx;have k:=H.kind _ hx;have i:=H.item _ hx;exact⟨t.1,t.2,k.1,k.2,i.1,i.2⟩
 have hlen:=d.len;have h6:=d.len6
 have hbe:∀ a c,BeforeL D a c→endL a 2 ((ser (h.map cv) D).map uv) 0<begL c ((ser (h.map cv) D).map uv) 0:=fun a c ⟨A,B,C,e⟩=>qgn e d.nd
 generalize hL:ser (h.map cv) D=l at *;have hv:validB (l.map uv)=true:=qgv S.vh (by omega)
 have ho:∀ o,o∈l→OkOp o:=fun o hm=>by
  obtain⟨p,q,e⟩:=A5 hm;exact (S.vh p o q e).1
 have hperm:D.Perm (commL (l.map uv)):=by have:=qct S.vh ho;rwa [S.com]at this
 have hag:agreesB (confL (partL (l.map uv))) D=true:=by have:=qdt S.good S.vh ho;rwa [S.com]at this
 have hmem:∀ t,t∈commL (l.map uv)↔t∈D:=fun t=>(hperm.mem_iff (a:=t)).symm
 have hlc:∀ (v:List Int),v.length=D.length→v.length≤1000:=fun v hv=>by omega
 have h43:((l.map uv).take 43).map cv=l:=by rw[B5 (by rw[A2];omega),Hc]
 have hself:∀ t,t∈D→begL t (l.map uv) 0≤endL t 2 (l.map uv) 0:=fun t ht=>(qhP ((hmem t).2 ht)).2
 have hno:∀ a c,a∈D→c∈D→a≠c→ovL (l.map uv) a c=false:=by
  intro a c ha hc hne;have h1:=hself a ha;have h2:=hself c hc;unfold ovL
  rcases qgm ha hc hne with hb | hb
  ·have:=hbe _ _ hb;rw[dF (show ¬ begL c (l.map uv) 0<endL a 2 (l.map uv) 0 by omega),Bool.and_false]
  ·have:=hbe _ _ hb;rw[dF (show ¬ begL a (l.map uv) 0<endL c 2 (l.map uv) 0 by omega),Bool.false_and]
 have hok:snOkB (l.map uv)=true:=by
  rw[NO];intro a ha b hb i _ hbad;have:=hno a b ((hmem a).1 ha) ((hmem b).1 hb) (by have:=hbad.1;omega);have h3:=hbad.2.1;rw[this]at h3;cases h3
 have hag2:agreesB (allB (l.map uv)) D=true:=by
  rw[Vh,List.pairwise_iff_forall_sublist];intro a c hac;have hb:=Hj hac;have hlt:=hbe _ _ hb;have ha:a∈D:=hac.subset (.head _);have hc:c∈D:=hac.subset (.tail _ (.head _));have h1:=hself a ha;have h2:=hself c hc;rw[← Bool.not_eq_true,qap]
  rintro⟨_,_,_,i,_,h3 | h3 | h3⟩
  ·have:=h3.2.2;omega
  ·have:=h3.2.2;omega
  ·have h4:=qdQ (h:=l.map uv) (b:=a) (i:=i);rw[h3.2]at h4;have:=d.rng c hc
   rcases h4 with h4 | h4 <;> omega
 have hlp:=hperm.length_eq;obtain⟨o1,ho1,ho2,ho3⟩:=qbN (E:=confL (partL (l.map uv))) (fun x=>qbA x _) (commL (l.map uv)).length (commL (l.map uv)) D (HK _) hperm hag (A7 _);obtain⟨s1,hs1,hs2,hs3⟩:=qbN (E:=allB (l.map uv)) (fun x=>qhv _ x) (commL (l.map uv)).length (commL (l.map uv)) D (HK _) hperm hag2 (A7 _);have hor:=qfL (l.map uv);rw[h43]at hor;unfold orderR at hor;rw[hv,if_pos rfl,ho1]at hor;have hrec:=qcc (l.map uv);rw[h43,hv,if_pos rfl,qds S.good S.vh ho]at hrec;have hsn:=qgD (l.map uv);rw[h43]at hsn;unfold snapR at hsn;rw[hv,if_pos rfl,hok]at hsn;have hso:=qgC (l.map uv);rw[h43]at hso;unfold sordR at hso;rw[hv,if_pos rfl,hok,if_pos rfl,hs1]at hso;have hlk:=qfX hv S.good;obtain⟨w1,hw1,hw1n⟩:=qag ho2 (by omega) ho3;obtain⟨w2,hw2,hw2n⟩:=qag hs2 (by omega) hs3;have hown:=qhF (l:=l) (by omega);have heq:=qge hv hperm hag;unfold qK qck;simp only[hor,hrec,hsn,hso,hlk,A0];simp only[show ((0:Int) == 0)=true from rfl,cT,hw1,A0,dT hw1n,hown,heq,hw2,dT hw2n,qdz (show l.length≤100000 by omega),qbD];rfl
theorem US {h:List rf5Op} {p:List Int} (hl:lenOk h=true) (hp:lenOk p=true):Xz bigFuel h p=some true:=by
 unfold Xz;rw[hp,qx];exact qaS hl _ (fun D d=>qdY d) p 0 [] ⟨by simp,(fun t ht=>by cases ht),.inl rfl,(by simp[ser])⟩
end Go.AM
namespace Go.AM
open Go.Proofs Go.Proofs.Ytoiejpkfpjingaa Go.ChangeShapes Go.WideShapes Go.ChangeAt Go.RowKit
theorem readsOp:Reads Try.prog 43 Ji (fun _=>True) :=
 qcd (P := Try.prog) (size := 3) (fs := #[Field.mk "Txn" 3 0 false "" "" 0, Field.mk "Kind" 3 1 false "" "" 8, Field.mk "Item" 3 2 false "" "" 16]) (fun b : Int × Int × Int × Unit => (⟨b.1, b.2.1, b.2.2.1⟩ : rf5Op)) (by kernel_rfl) (by kernel_rfl)
  (Vz (f:=AV.int .i64) (ok:=fun n=>(Lit.int .i64 n).wf=true) (n:=1) (off':=1) rfl (by kernel_rfl) rfl (Um (k:=.i64) (by kernel_rfl)) (Vz (f:=AV.int .i64) (ok:=fun n=>(Lit.int .i64 n).wf=true) (n:=1) (off':=2) rfl (by kernel_rfl) rfl (Um (k:=.i64) (by kernel_rfl)) (Vz (f:=AV.int .i64) (ok:=fun n=>(Lit.int .i64 n).wf=true) (n:=1) (off':=3) rfl (by kernel_rfl) rfl (Um (k:=.i64) (by kernel_rfl)) (qdv rfl))))
  (fun b=>rfl) (fun b h=>trivial)
theorem qfE:Reads Try.prog 23 (encL 43 3 Ji) (fun l=>l.length≤maxLen∧∀ d,d∈l→True) :=
 Hq (by kernel_rfl) (by kernel_rfl) (by decide) readsOp (fun _=>rfl) (fun _=>rfl)
theorem qgI:Reads Try.prog 3 (AV.int .i64) (fun _=>True):=fun H enc w fuel cs x h =>
 let ⟨a,_,h2⟩:=Um (P:=Try.prog) (t:=3) (k:=.i64) (by kernel_rfl) H enc w fuel cs x h
 ⟨a,trivial,h2⟩
theorem qfD:Reads Try.prog 24 (encL 3 1 (AV.int .i64)) (fun l=>l.length≤maxLen∧∀ x,x∈l→True) :=
 Hq (by kernel_rfl) (by kernel_rfl) (by decide) qgI (fun _=>rfl) (fun _=>rfl)
theorem qbj {α:Type} {l:List α} (h:l.length≤maxLen):lenOk l=true:=Nat.ble_eq_true_of_le (by unfold maxLen at h;omega)
theorem own:ownKnob Try.prog.godebug=none:=by kernel_rfl
theorem mixed:Try.prog.follows .mixedOrders=true:=by kernel_rfl
theorem laid:laidOutB Try.prog=true:=by kernel_rfl
end Go.AM
