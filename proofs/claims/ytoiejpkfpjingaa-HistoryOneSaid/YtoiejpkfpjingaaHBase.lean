import Derived.Test.YtoiejpkfpjingaaVET
import Derived.Test.YtoiejpkfpjingaaKAT
import Derived.Test.YtoiejpkfpjingaaChecked
import Derived.Test.YtoiejpkfpjingaaRows
import Derived.ProofKit
import Derived.OpenShut
set_option linter.all false
set_option maxRecDepth 100000
open Option renaming bind_some→A0
open List renaming length_append→A1, length_map→A2, append_nil→A3, length_singleton→A4, length_filter_le→A6, all_eq_true→A7, take_of_length_le→A8
open Bool renaming and_eq_true→A5
open Nat renaming le_trans→A9
namespace Go.AM
open Go.Proofs
def VY (fuel:Nat) (a1:(List hsOp)):Option ((List Int)×Int):=viewO fuel a1
theorem Du (fuel:Nat) (a1:(List hsOp)) (r:((List Int)×Int)) (h:VY fuel a1=some r):Run Try.prog (.call 30 [l44 none a1] (.tup [l3 none r.1,I6 r.2])):=.ext0 (view30 h)
def Qm (a1:Int):Option Bool :=
 (some (a1 != a1))
theorem XK (a1:Int) (r:Bool) (h:Qm a1=some r):Run Try.prog (.call 103 [I6 a1] (.bool r)):=by
 refine cW Try.func103 rfl (env0:=[(0,I6 a1)]) ?_;unfold Qm at h;refine W.seq<|W.rt (e2:=[(0,I6 a1)]) ?_;refine W.seq<|W.rt (e2:=[(2,.bool (a1 != a1))]) ?_;refine W.wk (e:=[(2,.bool (a1 != a1))]) ?_;cases h;exact W.rr
def JI (a1:Int) (a2:Int):Option Int :=
 ((Qm a1).bind fun w5=>((Qm a2).bind fun w7=>(bif w5 then (bif w7 then (some 0) else (some (-1))) else (bif w7 then (some 1) else (bif (decide (a1<a2)) then (some (-1)) else (bif (decide (a1 > a2)) then (some 1) else (some 0)))))))
theorem Zn (a1:Int) (a2:Int) (r:Int) (h:JI a1 a2=some r):Run Try.prog (.call 73 [I6 a1,I6 a2] (I6 r)):=by
 refine cW Try.func73 rfl (env0:=[(0,I6 a1),(1,I6 a2)]) ?_;unfold JI at h;refine W.seq ?_;let z0:=fun t=>EN ((0,I6 a1)::(1,I6 a2)::t);refine W.rt (e2:=z0 []) ?_;refine W.sr ?_;obtain⟨w5,hw5,h⟩:=qd h;refine WO.ck 1 (F:=103) (l:=[I6 a1]) (C:=[]) (r:=.bool w5) (XK a1 w5 hw5) (e1:=z0 [(7,I6 a1),(8,.bool w5)])<|WO.fn (e2:=z0 [(5,.bool w5)]) ?_;refine W.sr ?_;obtain⟨w7,hw7,h⟩:=qd h;refine WO.ck 1 (F:=103) (l:=[I6 a2]) (C:=[]) (r:=.bool w7) (XK a2 w7 hw7) (e1:=z0 [(5,.bool w5),(9,I6 a2),(10,.bool w7)])<|WO.fn (e2:=z0 [(5,.bool w5),(6,.bool w7)]) ?_;refine W.seq<|W.seq<|W.rt (e2:=z0 [(6,.bool w7),(11,.bool w5)]) ?_;refine W.ch w5 h (fun h=>?_) (fun h=>?_)
 ·refine W.seq<|W.seq<|W.rt (e2:=[(12,.bool w7)]) ?_;refine W.ch w7 h (fun h=>?_) (fun h=>?_)
  ·refine W.seq<|W.rt (e2:=[(4,.int .i64 0)]) ?_;refine W.wk (e:=[(4,.int .i64 0)]) ?_;cases h;exact W.rr
  refine W.sw (e:=[]) ?_;refine W.seq<|W.rt (e2:=[(4,I6 (-1))]) ?_;refine W.wk (e:=[(4,I6 (-1))]) ?_;cases h;exact W.rr
 refine W.sw (e:=z0 [(6,.bool w7)]) ?_;refine W.seq<|W.seq<|W.rt (e2:=z0 [(13,.bool w7)]) ?_;refine W.ch w7 h (fun h=>?_) (fun h=>?_)
 ·refine W.seq<|W.rt (e2:=[(4,.int .i64 1)]) ?_;refine W.wk (e:=[(4,.int .i64 1)]) ?_;cases h;exact W.rr
 refine W.sw (e:=z0 []) ?_;refine W.seq<|W.seq<|W.rt (e2:=z0 [(16,.bool (decide (a1<a2)))]) ?_;refine W.ch (decide (a1<a2)) h (fun h=>?_) (fun h=>?_)
 ·refine W.seq<|W.rt (e2:=[(4,I6 (-1))]) ?_;refine W.wk (e:=[(4,I6 (-1))]) ?_;cases h;exact W.rr
 refine W.sw (e:=z0 []) ?_;refine W.seq<|W.seq<|W.rt (e2:=[(19,.bool (decide (a1 > a2)))]) ?_;refine W.ch (decide (a1 > a2)) h (fun h=>?_) (fun h=>?_)
 ·refine W.seq<|W.rt (e2:=[(4,.int .i64 1)]) ?_;refine W.wk (e:=[(4,.int .i64 1)]) ?_;cases h;exact W.rr
 refine W.sw (e:=[]) ?_;refine W.seq<|W.rt (e2:=[(4,.int .i64 0)]) ?_;refine W.wk (e:=[(4,.int .i64 0)]) ?_;cases h;exact W.rr
def Jh (a1:(List Int)) (a2:(List Int)):Option Int :=
 (bif (decide ((a1.length:Int)<(a2.length:Int))) then (some (-1)) else (some 0))
def jb (a2:(List Int)) (K4:(Option Int)):List Int→Nat→Option Int
 | [],k1=>K4
 | x1::r1,k1=>(bif (decide ((k1:Int) ≥ (a2.length:Int))) then (some 1) else ((idx a2 (k1:Int)).bind fun e12=>((JI x1 e12).bind fun w14=>(bif (w14 != 0) then (some w14) else (jb a2 K4 r1 (k1+1))))))
def Jl (a1:(List Int)) (a2:(List Int)):Option Int :=
 (chk (lenOk a1) (jb a2 (Jh a1 a2) a1 0))
theorem Zl (a1:(List Int)) (a2:(List Int)) (r:Int) (h:Jl a1 a2=some r):Run Try.prog (.call 37 [l3 none a1,l3 none a2] (I6 r)):=by
 refine cW Try.func37 rfl (env0:=[(0,l3 none a1),(1,l3 none a2)]) ?_;unfold Jl at h;refine W.seq ?_;let z0:=fun t=>EN ((0,l3 none a1)::(1,l3 none a2)::t);refine W.rt (e2:=z0 []) ?_;refine W.seq<|W.join (σ:=Unit) (fun s=>z0 []) (fun s=>(Jh a1 a2)=some r) (fun s h=>?_) (fun hK4=>?_)
 ·unfold Jh at h;refine W.seq<|W.sr ?_;let z1:=fun t=>z0 ((31,l3 none a1)::(32,I6 (a1.length:Int))::t);refine WO.pq 1 (jM (.int .i64) a1) (e1:=z1 [])<|WO.pq 1 (jM (.int .i64) a2) (e1:=z1 [(33,l3 none a2),(34,I6 (a2.length:Int))])<|WO.fn (e2:=[(35,.bool (decide ((a1.length:Int)<(a2.length:Int))))]) ?_;refine W.ch (decide ((a1.length:Int)<(a2.length:Int))) h (fun h=>?_) (fun h=>?_)
  ·refine W.seq<|W.rt (e2:=[(4,I6 (-1))]) ?_;refine W.wk (e:=[(4,I6 (-1))]) ?_;cases h;exact W.rr
  refine W.sw (e:=[]) ?_;refine W.seq<|W.rt (e2:=[(4,.int .i64 0)]) ?_;refine W.wk (e:=[(4,.int .i64 0)]) ?_;cases h;exact W.rr
 refine W.sr ?_;let z2:=fun t=>z0 ((9,l3 none a1)::(10,I6 (a1.length:Int))::t);refine WO.pq 1 (jM (.int .i64) a1) (e1:=z2 [])<|WO.fn (e2:=z2 [(11,.int .i64 0)]) ?_;refine W.block ?_;obtain⟨hl1,h⟩:=qr h;refine W.wk (e:=z2 [(11,I6 ((0:Nat):Int))])<|W.range (σ:=Unit) a1 (fun k1 s=>z2 [(11,I6 (k1:Int))]) (fun r0 k0 s=>jb a2 (Jh a1 a2) r0 k0=some r) (fun s h=>?_) (fun x1 r1 k1 s hx1 hk1 h hN1=>?_) () h
 ·rw[jb.eq_1]at h;refine W.sr ?_;let y0:Env:=[(1,l3 none a2),(9,l3 none a1),(10,I6 (a1.length:Int)),(11,I6 ((a1).length:Int)),(12,.bool false)];refine WO.pq 0 (jB (Jb (l:=a1))) (e1:=((0,l3 none a1)::y0))<|WO.fn (e2:=((0,l3 none a1)::y0)) ?_;refine W.seq<|W.cF<|W.exit<|W.wk (e:=z0 []) ?_;exact hK4 () h
 ·rw[jb.eq_2]at h;refine W.sr ?_;let y1:Env:=[(1,l3 none a2),(9,l3 none a1),(10,I6 (a1.length:Int)),(11,I6 (k1:Int)),(12,.bool true)];let z3:=fun t=>EN ((0,l3 none a1)::t);refine WO.pq 0 (jB (Jr hk1)) (e1:=z3 y1)<|WO.fn (e2:=z3 y1) ?_;refine W.seq<|W.cT<|W.skip ?_;let y2:Env:=[(9,l3 none a1),(10,I6 (a1.length:Int)),(11,I6 (k1:Int))];refine W.wk (e:=z0 y2)<|W.seq<|W.block<|W.sr<|WO.pq 1 (Jt (f:=(AV.int .i64)) hx1) (e1:=z2 [(11,I6 (k1:Int)),(13,I6 (k1:Int)),(14,.ptr (I6 x1))]) ?_;let z4:=fun t=>z0 ((5,I6 (k1:Int))::(6,I6 x1)::t);refine WO.fn (e2:=z4 y2) ?_;refine W.seq<|W.sr ?_;let z5:=fun t=>z4 ((9,l3 none a1)::(10,I6 (a1.length:Int))::(11,I6 (k1:Int))::t);refine WO.pq 2 (jM (.int .i64) a2) (e1:=z5 [(16,I6 (k1:Int)),(17,l3 none a2),(18,I6 (a2.length:Int))])<|WO.fn (e2:=z5 [(19,.bool (decide ((k1:Int) ≥ (a2.length:Int))))]) ?_;refine W.ch (decide ((k1:Int) ≥ (a2.length:Int))) h (fun h=>?_) (fun h=>?_)
  ·refine W.seq<|W.rt (e2:=[(4,.int .i64 1)]) ?_;refine W.wk (e:=[(4,.int .i64 1)]) ?_;cases h;exact W.rr
  refine W.sw (e:=z4 y2) ?_;refine W.sr ?_;obtain⟨e12,he12,h⟩:=qd h;refine WO.pq 2 (Uz (f:=(AV.int .i64)) he12) (e1:=z5 [(20,l3 none a2),(21,I6 (k1:Int)),(22,.ptr (I6 e12))])<|WO.fn (e2:=z0 ((6,I6 x1)::(7,I6 e12)::y2)) ?_;refine W.sr ?_;obtain⟨w14,hw14,h⟩:=qd h;refine WO.ck 2 (F:=73) (l:=[I6 x1,I6 e12]) (C:=[]) (r:=I6 w14) (Zn x1 e12 w14 hw14) (e1:=z0 [(6,I6 x1),(7,I6 e12),(9,l3 none a1),(10,I6 (a1.length:Int)),(11,I6 (k1:Int)),(24,I6 x1),(25,I6 e12),(26,I6 w14)])<|WO.fn (e2:=z0 ((8,I6 w14)::y2)) ?_;refine W.seq<|W.rt (e2:=z0 [(8,I6 w14),(9,l3 none a1),(10,I6 (a1.length:Int)),(11,I6 (k1:Int)),(28,.bool (w14 != 0))]) ?_;refine W.ch (w14 != 0) h (fun h=>?_) (fun h=>?_)
  ·refine W.seq<|W.rt (e2:=[(4,I6 w14)]) ?_;refine W.wk (e:=[(4,I6 w14)]) ?_;cases h;exact W.rr
  refine W.sw (e:=z0 y2) ?_;refine W.rg<|WO.pq 0 (jI (jh hl1 hk1)) (e1:=z2 [(11,I6 (k1:Int)),(30,I6 ((k1+1:Nat):Int))])<|WO.fn (e2:=z2 [(11,I6 ((k1+1:Nat):Int))]) ?_;exact hN1 () h
def Ja (v16:Bool):Option Bool :=
 (some v16)
def jy (v22:Bool):Option Bool :=
 (some v22)
def qv (fuel:Nat):Option Bool :=
 ((Qs fuel).bind fun w53=>(some w53))
def jf (N1:(Option Bool)) (v50:Bool):Option Bool :=
 (bif v50 then (some false) else N1)
def qP (fuel:Nat) (x1:Int) (e33:Int) (N1:(Option Bool)) (v45:(List hsOp)):Option Bool :=
 ((JR fuel v45).bind fun w47=>(bif (w47.2 == 0) then ((jE w47.1 [x1,e33]).bind fun w49=>(bif (!w49) then ((jf N1) true) else (bif (w47.2 != 0) then ((jf N1) (w47.2 != 8)) else ((jf N1) false)))) else (bif (w47.2 != 0) then ((jf N1) (w47.2 != 8)) else ((jf N1) false))))
def jx (N2:((List hsOp)→Option Bool)) (v44:(List hsOp)):Option Bool :=
 (N2 v44)
def jZ (x2:hsOp) (v38:(List hsOp)) (K39:((List hsOp)→Option Bool)) (v42:Bool):Option Bool :=
 (bif v42 then (chk (capOk 24 ((v38++[x2])).length) (K39 (v38++[x2]))) else (K39 v38))
def qC (x1:Int) (e33:Int) (K35:((List hsOp)→Option Bool)):List hsOp→Nat→(List hsOp)→Option Bool
 | [],k2,v38=>(K35 v38)
 | x2::r2,k2,v38=>(bif (x2.qa == x1) then ((jZ x2 v38 (jx (qC x1 e33 K35 r2 (k2+1)))) true) else ((jZ x2 v38 (jx (qC x1 e33 K35 r2 (k2+1)))) (x2.qa == e33)))
def qu (fuel:Nat) (a1:(List rf5Op)) (w8:((List Int)×Int)) (K27:(Option Bool)):List Int→Nat→Option Bool
 | [],k1=>K27
 | x1::r1,k1=>(chk (decide ((w8.1.length:Int)≠0)) ((idx w8.1 ((((k1+1:Nat):Int)).tmod (w8.1.length:Int))).bind fun e33=>((YB a1).bind fun w37=>(chk (lenOk w37) (qC x1 e33 (qP fuel x1 e33 (qu fuel a1 w8 K27 r1 (k1+1))) w37 0 ([]:(List hsOp)))))))
def qQ (fuel:Nat) (a1:(List rf5Op)) (w8:((List Int)×Int)) (v25:Bool):Option Bool :=
 (bif v25 then (some false) else (chk (lenOk w8.1) (qu fuel a1 w8 (qv fuel) w8.1 0)))
def Qc (fuel:Nat) (a1:(List rf5Op)):Option Bool :=
 ((YB a1).bind fun w4=>((JR fuel w4).bind fun w5=>((YB a1).bind fun w7=>((ZO fuel w7).bind fun w8=>((YB a1).bind fun w10=>((VY fuel w10).bind fun w11=>(bif (w5.2 == 2) then (bif (w8.2 == 2) then (bif (w11.2 == 2) then ((Qs fuel).bind fun w15=>((Ja) w15)) else ((Ja) false)) else ((Ja) false)) else (bif (w5.2 == 0) then (bif (w8.2 == 5) then (bif (w11.2 == 0) then ((Jl w11.1 w5.1).bind fun w20=>(bif (decide (w20≤0)) then ((Qs fuel).bind fun w21=>((jy) w21)) else ((jy) false))) else ((jy) false)) else ((jy) false)) else (bif (w5.2 != 8) then ((qQ fuel a1 w8) true) else (bif (w8.2 != 0) then ((qQ fuel a1 w8) true) else (bif (decide ((w8.1.length:Int)<2)) then ((qQ fuel a1 w8) true) else (bif (w11.2 != 0) then ((qQ fuel a1 w8) (w11.2 != 5)) else ((qQ fuel a1 w8) false)))))))))))))
theorem Zm (fuel:Nat) (a1:(List rf5Op)) (r:Bool) (h:Qc fuel a1=some r):Run Try.prog (.call 11 [l43 none a1] (.bool r)):=by
 refine cW Try.func11 rfl (env0:=[(0,l43 none a1)]) ?_;unfold Qc at h;refine W.seq ?_;let z0:=fun t=>EN ((0,l43 none a1)::t);refine W.rt (e2:=z0 []) ?_;refine W.sr ?_;obtain⟨w4,hw4,h⟩:=qd h;let z1:=fun t=>z0 ((18,l43 none a1)::(19,l44 (some 19) w4)::t);refine WO.ck 1 (F:=18) (l:=[l43 none a1]) (C:=[]) (r:=l44 (some 1) w4) (XY a1 w4 hw4) (e1:=z1 []) ?_;obtain⟨w5,hw5,h⟩:=qd h;refine WO.ck 0 (F:=17) (l:=[l44 none w4]) (C:=[]) (r:=.tup [l3 none w5.1,I6 w5.2]) (Ya fuel w4 w5 hw5) (e1:=z1 [(20,.tup [l3 none w5.1,I6 w5.2])]) ?_;let z2:=fun t=>z0 ((3,l3 none w5.1)::(4,I6 w5.2)::t);refine WO.fn (e2:=z2 []) ?_;refine W.sr ?_;obtain⟨w7,hw7,h⟩:=qd h;let z3:=fun t=>z2 ((24,l43 none a1)::(25,l44 (some 25) w7)::t);refine WO.ck 1 (F:=18) (l:=[l43 none a1]) (C:=[]) (r:=l44 (some 1) w7) (XY a1 w7 hw7) (e1:=z3 []) ?_;obtain⟨w8,hw8,h⟩:=qd h;refine WO.ck 0 (F:=19) (l:=[l44 none w7]) (C:=[]) (r:=.tup [l3 none w8.1,I6 w8.2]) (Hx fuel w7 w8 hw8) (e1:=z3 [(26,.tup [l3 none w8.1,I6 w8.2])]) ?_;let z4:=fun t=>z2 ((5,l3 none w8.1)::(6,I6 w8.2)::t);refine WO.fn (e2:=z4 []) ?_;refine W.sr ?_;obtain⟨w10,hw10,h⟩:=qd h;let z5:=fun t=>z4 ((30,l43 none a1)::(31,l44 (some 31) w10)::t);refine WO.ck 1 (F:=18) (l:=[l43 none a1]) (C:=[]) (r:=l44 (some 1) w10) (XY a1 w10 hw10) (e1:=z5 []) ?_;obtain⟨w11,hw11,h⟩:=qd h;refine WO.ck 0 (F:=30) (l:=[l44 none w10]) (C:=[]) (r:=.tup [l3 none w11.1,I6 w11.2]) (Du fuel w10 w11 hw11) (e1:=z5 [(32,.tup [l3 none w11.1,I6 w11.2])]) ?_;let y0:Env:=[(3,l3 none w5.1),(4,I6 w5.2),(5,l3 none w8.1),(6,I6 w8.2),(7,l3 none w11.1),(8,I6 w11.2)];refine WO.fn (e2:=z0 y0) ?_;refine W.seq<|W.seq ?_;let z6:=fun t=>z4 ((7,l3 none w11.1)::(8,I6 w11.2)::t);let z7:=fun t=>z6 ((36,.bool (w5.2 == 2))::t);refine W.rt (e2:=z7 []) ?_;refine W.ch (w5.2 == 2) h (fun h=>?_) (fun h=>?_)
 ·refine W.seq<|W.join (σ:=(Bool)) (fun s=>[(2,.bool s)]) (fun s=>(Ja) s=some r) (fun v16 h=>?_) (fun hK14=>?_)
  ·unfold Ja at h;refine W.wk (e:=[(2,.bool v16)]) ?_;cases h;exact W.rr
  refine W.rg<|WO.bh 3 (fun b=>z7 [(37,I6 w8.2),(38,.bool b),(39,.bool b)]) (w8.2 == 2) h (fun h=>?_) (fun h=>?_)
  ·let z8:=fun t=>z7 ((37,I6 w8.2)::(38,.bool true)::(39,.bool true)::(40,I6 w11.2)::t);refine WO.bh 4 (fun b=>z8 [(41,.bool b),(42,.bool b),(43,.bool b)]) (w11.2 == 2) h (fun h=>?_) (fun h=>?_)
   ·obtain⟨w15,hw15,h⟩:=qd h;refine WO.ck 0 (F:=21) (l:=[]) (C:=[]) (r:=.bool w15) (Xy fuel w15 hw15) (e1:=z8 [(41,.bool true),(42,.bool true),(43,.bool true),(44,.bool w15)])<|WO.fn (e2:=[(2,.bool w15)]) ?_;exact hK14 w15 h
   refine WO.fn (e2:=[(2,.bool false)]) ?_;exact hK14 false h
  refine WO.fn (e2:=[(2,.bool false)]) ?_;exact hK14 false h
 refine W.sw (e:=z0 y0) ?_;refine W.seq<|W.seq ?_;let z9:=fun t=>z6 ((47,.bool (w5.2 == 0))::t);refine W.rt (e2:=z9 []) ?_;refine W.ch (w5.2 == 0) h (fun h=>?_) (fun h=>?_)
 ·refine W.seq<|W.join (σ:=(Bool)) (fun s=>[(2,.bool s)]) (fun s=>(jy) s=some r) (fun v22 h=>?_) (fun hK19=>?_)
  ·unfold jy at h;refine W.wk (e:=[(2,.bool v22)]) ?_;cases h;exact W.rr
  refine W.rg ?_;let z10:=fun t=>z9 ((48,I6 w8.2)::t);refine WO.bh 3 (fun b=>z10 [(49,.bool b),(50,.bool b)]) (w8.2 == 5) h (fun h=>?_) (fun h=>?_)
  ·let z11:=fun t=>z10 ((49,.bool true)::(50,.bool true)::(51,I6 w11.2)::t);refine WO.bh 4 (fun b=>z11 [(52,.bool b),(53,.bool b),(54,.bool b)]) (w11.2 == 0) h (fun h=>?_) (fun h=>?_)
   ·obtain⟨w20,hw20,h⟩:=qd h;let z12:=fun t=>z11 ((52,.bool true)::(53,.bool true)::(54,.bool true)::(55,l3 none w11.1)::(56,l3 none w5.1)::(57,I6 w20)::t);refine WO.ck 2 (F:=37) (l:=[l3 none w11.1,l3 none w5.1]) (C:=[]) (r:=I6 w20) (Zl w11.1 w5.1 w20 hw20) (e1:=z12 [])<|WO.bh 3 (fun b=>z12 [(58,.bool b),(59,.bool b),(60,.bool b)]) (decide (w20≤0)) h (fun h=>?_) (fun h=>?_)
    ·obtain⟨w21,hw21,h⟩:=qd h;refine WO.ck 0 (F:=21) (l:=[]) (C:=[]) (r:=.bool w21) (Xy fuel w21 hw21) (e1:=z12 [(58,.bool true),(59,.bool true),(60,.bool true),(61,.bool w21)])<|WO.fn (e2:=[(2,.bool w21)]) ?_;exact hK19 w21 h
    refine WO.fn (e2:=[(2,.bool false)]) ?_;exact hK19 false h
   refine WO.fn (e2:=[(2,.bool false)]) ?_;exact hK19 false h
  refine WO.fn (e2:=[(2,.bool false)]) ?_;exact hK19 false h
 refine W.skip ?_;let z13:=fun t=>z0 ((4,I6 w5.2)::(5,l3 none w8.1)::(6,I6 w8.2)::(8,I6 w11.2)::t);refine W.wk (e:=z13 [])<|W.seq<|W.seq ?_;let z14:=fun t=>z0 ((5,l3 none w8.1)::t);refine W.join (σ:=(Bool)) (fun s=>z14 [(81,.bool s)]) (fun s=>(qQ fuel a1 w8) s=some r) (fun v25 h=>?_) (fun hK24=>?_)
 ·unfold qQ at h;refine W.ch v25 h (fun h=>?_) (fun h=>?_)
  ·refine W.seq<|W.rt (e2:=[(2,.bool false)]) ?_;refine W.wk (e:=[(2,.bool false)]) ?_;cases h;exact W.rr
  refine W.sw (e:=z14 []) ?_;refine W.seq<|W.join (σ:=Unit) (fun s=>[]) (fun s=>(qv fuel)=some r) (fun s h=>?_) (fun hK27=>?_)
  ·unfold qv at h;refine W.sr ?_;obtain⟨w53,hw53,h⟩:=qd h;refine WO.ck 0 (F:=21) (l:=[]) (C:=[]) (r:=.bool w53) (Xy fuel w53 hw53) (e1:=[(143,.bool w53)])<|WO.fn (e2:=[(2,.bool w53)]) ?_;refine W.wk (e:=[(2,.bool w53)]) ?_;cases h;exact W.rr
  refine W.sr ?_;let z15:=fun t=>z14 ((82,l3 none w8.1)::(83,I6 (w8.1.length:Int))::t);refine WO.pq 1 (jM (.int .i64) w8.1) (e1:=z15 [])<|WO.fn (e2:=z15 [(84,.int .i64 0)]) ?_;refine W.block ?_;obtain⟨hl1,h⟩:=qr h;refine W.wk (e:=z15 [(84,I6 ((0:Nat):Int))])<|W.range (σ:=Unit) w8.1 (fun k1 s=>z15 [(84,I6 (k1:Int))]) (fun r0 k0 s=>qu fuel a1 w8 (qv fuel) r0 k0=some r) (fun s h=>?_) (fun x1 r1 k1 s hx1 hk1 h hN1=>?_) () h
  ·rw[qu.eq_1]at h;refine W.sr ?_;let y1:Env:=[(5,l3 none w8.1),(82,l3 none w8.1),(83,I6 (w8.1.length:Int)),(84,I6 ((w8.1).length:Int)),(85,.bool false)];refine WO.pq 0 (jB (Jb (l:=w8.1))) (e1:=z0 y1)<|WO.fn (e2:=z0 y1) ?_;refine W.seq<|W.cF<|W.exit<|W.wk (e:=[]) ?_;exact hK27 () h
  ·rw[qu.eq_2]at h;refine W.sr ?_;let y2:Env:=[(5,l3 none w8.1),(82,l3 none w8.1),(83,I6 (w8.1.length:Int)),(84,I6 (k1:Int)),(85,.bool true)];refine WO.pq 0 (jB (Jr hk1)) (e1:=z0 y2)<|WO.fn (e2:=z0 y2) ?_;refine W.seq<|W.cT<|W.skip ?_;let y3:Env:=[(82,l3 none w8.1),(83,I6 (w8.1.length:Int)),(84,I6 (k1:Int))];refine W.wk (e:=z14 y3)<|W.seq<|W.block<|W.sr ?_;let z16:=fun t=>z15 ((84,I6 (k1:Int))::t);refine WO.pq 1 (Jt (f:=(AV.int .i64)) hx1) (e1:=z16 [(86,I6 (k1:Int)),(87,.ptr (I6 x1))]) ?_;let z17:=fun t=>z14 ((9,I6 (k1:Int))::(10,I6 x1)::t);refine WO.fn (e2:=z17 y3) ?_;refine W.sr ?_;let z18:=fun t=>z17 ((82,l3 none w8.1)::(83,I6 (w8.1.length:Int))::(84,I6 (k1:Int))::(89,l3 none w8.1)::(90,I6 (k1:Int))::(91,I6 ((k1+1:Nat):Int))::t);refine WO.pq 2 (jI (jh hl1 hk1)) (e1:=z18 []) ?_;let z19:=fun t=>z18 ((92,l3 none w8.1)::(93,I6 (w8.1.length:Int))::t);refine WO.pq 1 (jM (.int .i64) w8.1) (e1:=z19 []) ?_;obtain⟨hc32,h⟩:=qr h;let z20:=fun t=>z19 ((94,I6 ((((k1+1:Nat):Int)).tmod (w8.1.length:Int)))::t);refine WO.pk 0 (Option.map (AV.int .i64) (if (w8.1.length:Int)=0 then none else some ((((k1+1:Nat):Int)).tmod (w8.1.length:Int)))) (v:=I6 ((((k1+1:Nat):Int)).tmod (w8.1.length:Int))) (by rw[if_neg (qbL hc32)];rfl) (e1:=z20 []) ?_;obtain⟨e33,he33,h⟩:=qd h;refine WO.pq 0 (Uz (f:=(AV.int .i64)) he33) (e1:=z20 [(95,.ptr (I6 e33))]) ?_;let z21:=fun t=>z14 ((10,I6 x1)::(11,I6 e33)::t);refine WO.fn (e2:=z21 y3) ?_;refine W.seq ?_;let z22:=fun t=>z21 ((12,.nils)::t);refine W.rt (e2:=z22 y3) ?_;refine W.seq<|W.join (σ:=((List hsOp))) (fun s=>z21 ((12,l44 (some 11200) s)::y3)) (fun s=>(qP fuel x1 e33 (qu fuel a1 w8 (qv fuel) r1 (k1+1))) s=some r) (fun v45 h=>?_) (fun hK35=>?_)
   ·unfold qP at h;refine W.sr ?_;obtain⟨w47,hw47,h⟩:=qd h;refine WO.ck 1 (F:=17) (l:=[l44 none v45]) (C:=[]) (r:=.tup [l3 none w47.1,I6 w47.2]) (Ya fuel v45 w47 hw47) (e1:=z21 [(12,l44 (some 11200) v45),(82,l3 none w8.1),(83,I6 (w8.1.length:Int)),(84,I6 (k1:Int)),(120,l44 (some 11200) v45),(121,.tup [l3 none w47.1,I6 w47.2])]) ?_;let z23:=fun t=>z21 ((15,l3 none w47.1)::(16,I6 w47.2)::t);refine WO.fn (e2:=z23 y3) ?_;refine W.seq<|W.join (σ:=(Bool)) (fun s=>z16 [(141,.bool s)]) (fun s=>(jf (qu fuel a1 w8 (qv fuel) r1 (k1+1))) s=some r) (fun v50 h=>?_) (fun hK48=>?_)
    ·unfold jf at h;refine W.ch v50 h (fun h=>?_) (fun h=>?_)
     ·refine W.seq<|W.rt (e2:=[(2,.bool false)]) ?_;refine W.wk (e:=[(2,.bool false)]) ?_;cases h;exact W.rr
     refine W.sw (e:=z14 y3) ?_;refine W.rg<|WO.pq 0 (jI (jh hl1 hk1)) (e1:=z16 [(142,I6 ((k1+1:Nat):Int))])<|WO.fn (e2:=z15 [(84,I6 ((k1+1:Nat):Int))]) ?_;exact hN1 () h
    refine W.rg ?_;let z24:=fun t=>z23 ((82,l3 none w8.1)::(83,I6 (w8.1.length:Int))::(84,I6 (k1:Int))::(124,I6 w47.2)::t);refine WO.bh 3 (fun b=>z24 [(125,.bool b),(126,.bool b)]) (w47.2 == 0) h (fun h=>?_) (fun h=>?_)
    ·obtain⟨w49,hw49,h⟩:=qd h;let z25:=fun t=>z24 ((125,.bool true)::(126,.bool true)::(127,l3 none w47.1)::(128,I6 x1)::(129,I6 e33)::(130,l3 (some 130) [x1,e33])::(131,.bool w49)::t);refine WO.ck 4 (F:=24) (l:=[l3 none w47.1,l3 none [x1,e33]]) (C:=[]) (r:=.bool w49) (Qq w47.1 [x1,e33] w49 hw49) (e1:=z25 [])<|WO.bh 3 (fun b=>z25 [(132,.bool b),(133,.bool b),(134,.bool b)]) (!w49) h (fun h=>?_) (fun h=>?_)
     ·refine WO.fn (e2:=z16 [(141,.bool true)]) ?_;exact hK48 true h
     refine WO.bh 3 (fun b=>z25 [(132,.bool false),(133,.bool false),(134,.bool false),(135,I6 w47.2),(136,.bool b),(137,.bool b)]) (w47.2 != 0) h (fun h=>?_) (fun h=>?_)
     ·refine WO.fn (e2:=z16 [(141,.bool (w47.2 != 8))]) ?_;exact hK48 (w47.2 != 8) h
     refine WO.fn (e2:=z16 [(141,.bool false)]) ?_;exact hK48 false h
    refine WO.bh 11 (fun b=>z24 [(125,.bool false),(126,.bool false),(127,.und),(128,.und),(129,.und),(130,.und),(131,.und),(132,.und),(133,.bool false),(134,.bool false),(135,I6 w47.2),(136,.bool b),(137,.bool b)]) (w47.2 != 0) h (fun h=>?_) (fun h=>?_)
    ·refine WO.fn (e2:=z16 [(141,.bool (w47.2 != 8))]) ?_;exact hK48 (w47.2 != 8) h
    refine WO.fn (e2:=z16 [(141,.bool false)]) ?_;exact hK48 false h
   refine W.sr ?_;obtain⟨w37,hw37,h⟩:=qd h;let z26:=fun t=>z22 ((82,l3 none w8.1)::(83,I6 (w8.1.length:Int))::(84,I6 (k1:Int))::t);let z27:=fun t=>z26 ((97,l43 none a1)::(98,l44 (some 98) w37)::t);refine WO.ck 1 (F:=18) (l:=[l43 none a1]) (C:=[]) (r:=l44 (some 1) w37) (XY a1 w37 hw37) (e1:=z27 [])<|WO.pq 0 (jM qU w37) (e1:=z27 [(99,I6 (w37.length:Int))])<|WO.fn (e2:=z26 [(98,l44 (some 98) w37),(99,I6 (w37.length:Int)),(100,.int .i64 0)]) ?_;refine W.block ?_;obtain⟨hl2,h⟩:=qr h;refine W.weak [0,5,10,11,12,82,83,84,98,99,100] [] [(12,0,44,3,11200)] [] (env':=z21 [(12,l44 (some 11200) ([]:(List hsOp))),(82,l3 none w8.1),(83,I6 (w8.1.length:Int)),(84,I6 (k1:Int)),(98,l44 (some 98) w37),(99,I6 (w37.length:Int)),(100,I6 ((0:Nat):Int))]) (by kernel_rfl)<|W.range (σ:=((List hsOp))) w37 (fun k2 s=>z21 [(12,l44 (some 11200) s),(82,l3 none w8.1),(83,I6 (w8.1.length:Int)),(84,I6 (k1:Int)),(98,l44 (some 98) w37),(99,I6 (w37.length:Int)),(100,I6 (k2:Int))]) (fun r0 k0 s=>qC x1 e33 (qP fuel x1 e33 (qu fuel a1 w8 (qv fuel) r1 (k1+1))) r0 k0 s=some r) (fun v38 h=>?_) (fun x2 r2 k2 s hx2 hk2 h hN2=>?_) ([]:(List hsOp)) h
   ·have h:qC x1 e33 (qP fuel x1 e33 (qu fuel a1 w8 (qv fuel) r1 (k1+1))) [] (w37).length v38=some r:=h;rw[qC.eq_1]at h;refine W.sr ?_;let y4:Env:=[(5,l3 none w8.1),(10,I6 x1),(11,I6 e33),(12,l44 (some 11200) v38),(82,l3 none w8.1),(83,I6 (w8.1.length:Int)),(84,I6 (k1:Int)),(98,l44 (some 98) w37),(99,I6 (w37.length:Int)),(100,I6 ((w37).length:Int)),(101,.bool false)];refine WO.pq 0 (jB (Jb (l:=w37))) (e1:=z0 y4)<|WO.fn (e2:=z0 y4) ?_;refine W.seq<|W.cF<|W.exit<|W.wk (e:=z21 ((12,l44 (some 11200) v38)::y3)) ?_;exact hK35 v38 h
   ·obtain⟨v38,rfl⟩:∃ x,x=s:=⟨s,rfl⟩;have h:qC x1 e33 (qP fuel x1 e33 (qu fuel a1 w8 (qv fuel) r1 (k1+1))) (x2::r2) k2 v38=some r:=h;rw[qC.eq_2]at h;refine W.sr ?_;let y5:Env:=[(5,l3 none w8.1),(10,I6 x1),(11,I6 e33),(12,l44 (some 11200) v38),(82,l3 none w8.1),(83,I6 (w8.1.length:Int)),(84,I6 (k1:Int)),(98,l44 (some 98) w37),(99,I6 (w37.length:Int)),(100,I6 (k2:Int)),(101,.bool true)];refine WO.pq 0 (jB (Jr hk2)) (e1:=z0 y5)<|WO.fn (e2:=z0 y5) ?_;refine W.seq<|W.cT<|W.skip ?_;let y6:Env:=[(82,l3 none w8.1),(83,I6 (w8.1.length:Int)),(84,I6 (k1:Int)),(98,l44 (some 98) w37),(99,I6 (w37.length:Int)),(100,I6 (k2:Int))];let z28:=fun t=>z21 ((12,l44 (some 11200) v38)::t);refine W.wk (e:=z28 y6)<|W.seq<|W.join (σ:=((List hsOp))) (fun s=>z21 ((12,l44 (some 11200) s)::y6)) (fun s=>(jx (qC x1 e33 (qP fuel x1 e33 (qu fuel a1 w8 (qv fuel) r1 (k1+1))) r2 (k2+1))) s=some r) (fun v44 h=>?_) (fun hK39=>?_)
    ·unfold jx at h;refine W.rg ?_;let z29:=fun t=>z21 ((12,l44 (some 11200) v44)::(82,l3 none w8.1)::(83,I6 (w8.1.length:Int))::(84,I6 (k1:Int))::(98,l44 (some 98) w37)::(99,I6 (w37.length:Int))::t);refine WO.pq 0 (jI (jh hl2 hk2)) (e1:=z29 [(100,I6 (k2:Int)),(118,I6 ((k2+1:Nat):Int))])<|WO.fn (e2:=z29 [(100,I6 ((k2+1:Nat):Int))]) ?_;exact hN2 v44 h
    refine W.block<|W.sr<|WO.pq 0 (Jt (f:=qU) hx2) (e1:=z28 [(82,l3 none w8.1),(83,I6 (w8.1.length:Int)),(84,I6 (k1:Int)),(98,l44 (some 98) w37),(99,I6 (w37.length:Int)),(100,I6 (k2:Int)),(102,.ptr (.agg [I6 x2.qa,I6 x2.qb,I6 x2.qc]))]) ?_;let z30:=fun t=>z28 ((14,.ptr (.agg [I6 x2.qa,I6 x2.qb,I6 x2.qc]))::t);refine WO.fi [0,5,10,11,12,14,82,83,84,98,99,100] [14] (e2:=z30 y6) ?_;refine W.seq ?_;let z31:=fun t=>z30 ((82,l3 none w8.1)::(83,I6 (w8.1.length:Int))::(84,I6 (k1:Int))::(98,l44 (some 98) w37)::(99,I6 (w37.length:Int))::(100,I6 (k2:Int))::t);refine W.join (σ:=(Bool)) (fun s=>z31 [(113,.bool s)]) (fun s=>(jZ x2 v38 (jx (qC x1 e33 (qP fuel x1 e33 (qu fuel a1 w8 (qv fuel) r1 (k1+1))) r2 (k2+1)))) s=some r) (fun v42 h=>?_) (fun hK41=>?_)
    ·unfold jZ at h;refine W.ch v42 h (fun h=>?_) (fun h=>?_)
     ·refine W.rg ?_;obtain⟨hc43,h⟩:=qr h;refine WO.appendK 3 (d:=117) (e:=44) (s:=3) (bytes:=24) (xs:=(List.map qU v38)) (ys:=(List.map qU [x2])) (zs:=(List.map qU (v38++[x2]))) (env1:=[(0,l43 none a1),(5,l3 none w8.1),(10,I6 x1),(11,I6 e33),(12,l44 none v38),(14,.ptr (.agg [I6 x2.qa,I6 x2.qb,I6 x2.qc])),(82,l3 none w8.1),(83,I6 (w8.1.length:Int)),(84,I6 (k1:Int)),(98,l44 (some 98) w37),(99,I6 (w37.length:Int)),(100,I6 (k2:Int)),(113,.bool v42),(114,l44 none v38),(115,.agg [I6 x2.qa,I6 x2.qb,I6 x2.qc]),(116,l44 (some 116) [x2])]) (by kernel_rfl) (List.map_append.symm) (by rw[A2];exact hc43) (e1:=z21 [(12,l44 none v38),(14,.ptr (.agg [I6 x2.qa,I6 x2.qb,I6 x2.qc])),(82,l3 none w8.1),(83,I6 (w8.1.length:Int)),(84,I6 (k1:Int)),(98,l44 (some 98) w37),(99,I6 (w37.length:Int)),(100,I6 (k2:Int)),(113,.bool v42),(114,l44 none v38),(115,.agg [I6 x2.qa,I6 x2.qb,I6 x2.qc]),(116,l44 (some 116) [x2]),(117,l44 (some 117) (v38++[x2]))]) (by kernel_rfl) ?_;refine WO.fin [0,5,10,11,12,82,83,84,98,99,100] [] [] [(117,some 11200)] (e2:=z21 ((12,l44 (some 11200) (v38++[x2]))::y6)) (by kernel_rfl) (fun _ h=>h) ?_;exact hK39 (v38++[x2]) h
     refine W.sw (e:=z28 y6) ?_;exact hK39 v38 h
    refine W.rg<|WO.bh 5 (fun b=>z31 [(104,.ptr (I6 x2.qa)),(105,I6 x2.qa),(106,I6 x1),(107,.bool b),(108,.bool b)]) (x2.qa == x1) h (fun h=>?_) (fun h=>?_)
    ·refine WO.fn (e2:=z31 [(113,.bool true)]) ?_;exact hK41 true h
    refine WO.fn (e2:=z31 [(113,.bool (x2.qa == e33))]) ?_;exact hK41 (x2.qa == e33) h
 refine W.rg ?_;let z32:=fun t=>z13 ((63,I6 w5.2)::t);refine WO.bh 3 (fun b=>z32 [(64,.bool b),(65,.bool b)]) (w5.2 != 8) h (fun h=>?_) (fun h=>?_)
 ·refine WO.fn (e2:=z14 [(81,.bool true)]) ?_;exact hK24 true h
 let z33:=fun t=>z32 ((64,.bool false)::(65,.bool false)::(66,I6 w8.2)::t);refine WO.bh 4 (fun b=>z33 [(67,.bool b),(68,.bool b),(69,.bool b)]) (w8.2 != 0) h (fun h=>?_) (fun h=>?_)
 ·refine WO.fn (e2:=z14 [(81,.bool true)]) ?_;exact hK24 true h
 let z34:=fun t=>z33 ((67,.bool false)::(68,.bool false)::(69,.bool false)::(70,l3 none w8.1)::(71,I6 (w8.1.length:Int))::t);refine WO.pq 1 (jM (.int .i64) w8.1) (e1:=z34 [])<|WO.bh 3 (fun b=>z34 [(72,.bool b),(73,.bool b),(74,.bool b)]) (decide ((w8.1.length:Int)<2)) h (fun h=>?_) (fun h=>?_)
 ·refine WO.fn (e2:=z14 [(81,.bool true)]) ?_;exact hK24 true h
 refine WO.bh 3 (fun b=>z34 [(72,.bool false),(73,.bool false),(74,.bool false),(75,I6 w11.2),(76,.bool b),(77,.bool b)]) (w11.2 != 0) h (fun h=>?_) (fun h=>?_)
 ·refine WO.fn (e2:=z14 [(81,.bool (w11.2 != 5))]) ?_;exact hK24 (w11.2 != 5) h
 refine WO.fn (e2:=z14 [(81,.bool false)]) ?_;exact hK24 false h
def NoAb (q:List rf5Op):Prop:=∀ x,x∈q→x.qb≠3
theorem qcT {q:List rf5Op} (h:NoAb q) (t:Int):decide (endL t 3 q 0 ≥ 0)=false:=by
 rw[decide_eq_false_iff_not,HX]
 rintro⟨x,hx,_,h3⟩
 exact h x hx h3
theorem qdc {q:List rf5Op} (h:NoAb q) (i:Nat) (x p:rf5Op):wins q i x p=wrB x.qc p:=by
 unfold wins wrB;rw[qcT h];simp
theorem Uw (it:Int):∀ (l:List rf5Op) (s:Int→Int),lastS s l it=scanF (wrB it) (s it) l
 | [],s=>rfl
 | x::l,s=>by
  show lastS (stepW s x) l it=scanF (wrB it) (bif wrB it x then x.qa else s it) l;rw[Uw it l];rfl
theorem qdp {q pre r:List rf5Op} {x:rf5Op} (h:NoAb q) (hq:q=pre++x::r) (h0:x.qb=0):fromAt q pre.length x=lastS s0 pre x.qc:=by
 unfold fromAt
 have:(x.qb != 0)=false:=by rw[h0];rfl
 have htk:q.take pre.length=pre:=by rw[hq,List.take_left]
 rw[this,cN,htk,Vz (W':=wrB x.qc) fun p _=>qdc h _ x p,Uw];have:=Nu (wrB x.qc) pre.reverse;rw[List.reverse_reverse]at this;exact this.symm
def last6 (f:Int→Int):List Int:=[f 0,f 1,f 2,f 3,f 4,f 5]
theorem DB (t:Int) (pre:List rf5Op) (x:rf5Op) (s:Int→Int):readsW t (pre++[x]) s=readsW t pre s++(bif rdB t x then [lastS s pre x.qc] else []):=by
 rw[QB];show readsW t pre s++((bif rdB t x then [lastS s pre x.qc] else [])++[])=_;rw[A3]
theorem Nl {q:List rf5Op} (hq:NoAb q) (hi:∀ x,x∈q→0≤x.qc∧x.qc≤5):∀ (r pre:List rf5Op) (m:List (Int×List Int)),q=pre++r→(∀ t,mget keq1 [] t m=readsW t pre s0)→(∀ p,p∈m→p.2.length≤pre.length) →
  ∃ m',viewF (r.map cv) (fromL q r pre.length) m (last6 (lastS s0 pre))=⟨m',last6 (lastS s0 q)⟩∧(∀ t,mget keq1 [] t m'=readsW t q s0)∧∀ p,p∈m'→p.2.length≤q.length
 | [],pre,m,he,hm,hl=>by
  rw[A3]at he;subst he;exact⟨m,rfl,hm,hl⟩
 | x::r,pre,m,he,hm,hl=>by
  have hx:=hi x (by rw[he];simp)
  have e1:viewF ((x::r).map cv) (fromL q (x::r) pre.length) m (last6 (lastS s0 pre))=viewF (r.map cv) (fromL q r (pre++[x]).length) (vstep m (cv x) (fromAt q pre.length x)) (lstep (last6 (lastS s0 pre)) (cv x)):=by
   rw[A1,A4];rfl
  have e2:lstep (last6 (lastS s0 pre)) (cv x)=last6 (lastS s0 (pre++[x])):=by
   rw[Yf];show lstep (last6 (lastS s0 pre)) (cv x)=last6 (stepW (lastS s0 pre) x);unfold lstep stepW wrB last6;show (bif x.qb == 1 then ([_,_,_,_,_,_]:List Int).set x.qc.toNat x.qa else _)=_
   cases x.qb == 1 with
   | false=>rfl
   | true =>
    have h6:x.qc=0∨x.qc=1∨x.qc=2∨x.qc=3∨x.qc=4∨x.qc=5:=by omega
    rcases h6 with h | h | h | h | h | h <;> rw[h] <;> rfl
  rw[e1,e2];refine Nl hq hi r (pre++[x]) _ (by rw[he];simp) (fun t=>?_) (fun p hp=>?_)
  ·rw[DB,← hm t];unfold vstep;show mget keq1 [] t (bif x.qb == 0 then mset keq1 x.qa (mget keq1 [] x.qa m++[fromAt q pre.length x]) m else m)=_;unfold rdB;by_cases h0:x.qb=0
   ·have b0:(x.qb == 0)=true:=by simp[h0]
    rw[b0,cond_true,Zs,qdp hq he h0,Bool.and_true];by_cases ht:t=x.qa
    ·subst ht;simp
    ·have:(x.qa == t)=false:=by rw[beq_eq_false_iff_ne];exact fun e=>ht e.symm
     rw[if_neg ht,this,cN,A3]
   ·have b0:(x.qb == 0)=false:=beq_eq_false_iff_ne.2 h0;rw[b0,Bool.and_false,cN,cN,A3]
  ·unfold vstep at hp;rw[A1,A4]
   have hold:∀ p,p∈m→p.2.length≤pre.length+1:=fun p hp=>Nat.le_succ_of_le (hl p hp)
   have hget:(mget keq1 [] x.qa m).length≤pre.length:=by
    have:∀ (m:List (Int×List Int)),(∀ p,p∈m→p.2.length≤pre.length)→(mget keq1 [] x.qa m).length≤pre.length:=by
     intro m
     induction m with
     | nil=>intro _;exact Nat.zero_le _
     | cons y m ih =>
      intro h;unfold mget
      cases keq1 y.1 x.qa with
      | true=>exact h y (by simp)
      | false=>exact ih fun p hp=>h p (by simp[hp])
    exact this m hl
   cases hk:((cv x).qb == 0) with
   | false=>rw[hk]at hp;exact hold p hp
   | true =>
    rw[hk,cond_true]at hp
    have:∀ (m:List (Int×List Int)) (k:Int) (v:List Int),(∀ p,p∈m→p.2.length≤pre.length+1)→v.length≤pre.length+1→∀ p,p∈mset keq1 k v m→p.2.length≤pre.length+1:=by
     intro m k v
     induction m with
     | nil =>
      intro _ hv p hp
      have:p=(k,v):=by simpa[mset] using hp
      rw[this];exact hv
     | cons y m ih =>
      intro h hv p hp;unfold mset at hp
      cases hyk:keq1 y.1 k with
      | true =>
       rw[hyk,cond_true]at hp
       rcases List.mem_cons.1 hp with rfl | hp
       ·exact hv
       ·exact h p (by simp[hp])
      | false =>
       rw[hyk,cN]at hp
       rcases List.mem_cons.1 hp with rfl | hp
       ·exact h _ (by simp)
       ·exact ih (fun p hp=>h p (by simp[hp])) hv p hp
    refine this m _ _ hold ?_ p hp;rw[A1,A4];exact Nat.succ_le_succ hget
structure SeenAs (q:List rf5Op) (v:hsview):Prop where
 reads:∀ t,mget keq1 [] t v.jK=readsW t q s0
 last:v.Qk=last6 (lastS s0 q)
 len:∀ p,p∈v.jK→p.2.length≤q.length
theorem Nk {q:List rf5Op} (H:Hist q) (hq:NoAb q):∃ v,viewP bigFuel (q.map cv)=some v∧SeenAs q v:=by
 have hl:=H.len;obtain⟨m',h1,h2,h3⟩:=Nl hq H.item q [] [] rfl (fun t=>rfl) (fun p hp=>by cases hp);refine⟨⟨m',last6 (lastS s0 q)⟩,?_,h2,rfl,h3⟩;unfold viewP;rw[qcQ H,A0]
 have hck:(decide ((q.map cv).length≤100000) && (decide ((fromL q q 0).length=(q.map cv).length) && (q.map cv).all okV))=true:=by
  simp only[A5,decide_eq_true_eq,A2,NT,A7];refine⟨by omega,trivial,fun x hx=>?_⟩;obtain⟨y,hy,rfl⟩:=List.mem_map.1 hx;have ht:=H.txn y hy;have hi:=H.item y hy;show (wfI .i64 y.qa && (!(y.qb == 1) || (decide (0≤y.qc) && decide (y.qc<6))))=true;rw[wf6 (by omega) (by omega),decide_eq_true hi.1,decide_eq_true (by omega)];simp
 rw[hck,qB];exact congrArg some h1
theorem qcw {p q:List rf5Op} {v w:hsview} (hv:SeenAs p v) (hw:SeenAs q w):sameP v w=sameV p q:=by
 unfold sameP sameV;rw[hv.last,hw.last];simp only[hv.reads,hw.reads]
 congr 1
theorem qaC (t:Int) (K:List hsOp→Option (List hsOp)):∀ (r:List rf5Op) (k:Nat) (v:List hsOp),v.length+r.length≤50000→qw t K (r.map cv) k v=K (v++(r.filter fun x=>x.qa == t).map cv)
 | [],k,v,_=>by rw[List.map_nil,qw.eq_1];simp
 | x::r,k,v,hl=>by
  have hl:v.length+(r.length+1)≤50000:=hl;rw[List.map_cons,qw.eq_2];unfold jw;show (bif x.qa == t then _ else _)=_;rw[List.filter_cons]
  cases hx:x.qa == t with
  | true =>
   rw[cond_true,capS (by omega) (by simp;omega),qB,qaC t K r (k+1) _ (by simp;omega)];simp
  | false =>
   rw[cN,qaC t K r (k+1) _ (by omega)];simp
theorem qct {q:List rf5Op} (hq:q.length≤1000) (K:List hsOp→Option (List hsOp)):∀ (r:List Int) (k:Nat) (v:List hsOp),v.length+r.length * 1000≤40000→qq (q.map cv) K r k v=K (v++(serV q r).map cv)
 | [],k,v,_=>by rw[qq.eq_1];simp[serV]
 | t::r,k,v,hl=>by
  have hl:v.length+(r.length+1) * 1000≤40000:=hl;rw[qq.eq_2,Jn (by rw[A2];omega),qB,qaC t _ q 0 v (by omega)];unfold qM;have:=A6 (fun x:rf5Op=>x.qa == t) q;rw[qct hq K r (k+1) _ (by simp;omega)];have e:serV q (t::r)=(q.filter fun x=>x.qa == t)++serV q r:=rfl;rw[e];simp
theorem qaB {q:List rf5Op} (hq:q.length≤1000) {o:List Int} (ho:o.length≤6):jJ (q.map cv) o=some ((serV q o).map cv):=by
 unfold jJ;rw[Jn (by omega),qB,qct hq _ o 0 [] (by simp;omega)];simp[qx]
theorem Dq {q:List rf5Op} {o:List Int} {x:rf5Op} (h:x∈serV q o):x∈q:=by
 obtain⟨t,_,h⟩:=List.mem_flatMap.1 h;exact (List.mem_filter.1 h).1
theorem Dr (q:List rf5Op):∀ o:List Int,(serV q o).length≤o.length * q.length
 | []=>Nat.zero_le _
 | t::o=>by
  have e:serV q (t::o)=(q.filter fun x=>x.qa == t)++serV q o:=rfl;have h1:=A6 (fun x:rf5Op=>x.qa == t) q;have h2:=Dr q o;rw[e,A1,List.length_cons,Nat.succ_mul];omega
theorem DV {q r:List rf5Op} (H:Hist q) (hl:r.length≤1000) (hm:∀ x,x∈r→x∈q):Hist r :=
 ⟨hl,fun x hx=>H.txn x (hm x hx),fun x hx=>H.kind x (hm x hx),fun x hx=>H.item x (hm x hx),fun x hx=>H.zero x (hm x hx)⟩
theorem NC {h:List rf5Op} (hv:validB h=true):NoAb (partL h):=by
 intro x hx h3;obtain⟨h1,h2⟩:=List.mem_filter.1 hx;obtain⟨y,hy,e1,e2⟩:=XO.1 (show doneB h x.qa=true from h2);have hp:=((YN h).1 hv).2.1
 have hne:x≠y:=fun e=>by rw[e,e2]at h3;cases h3
 obtain⟨i,hi⟩:=List.mem_iff_getElem?.1 h1;obtain⟨j,hj⟩:=List.mem_iff_getElem?.1 hy;obtain⟨hi1,hi2⟩:=List.getElem?_eq_some_iff.1 hi;obtain⟨hj1,hj2⟩:=List.getElem?_eq_some_iff.1 hj
 rcases Nat.lt_trichotomy i j with hlt | heq | hlt
 ·have:=List.pairwise_iff_getElem.1 hp i j hi1 hj1 hlt;rw[hi2,hj2]at this;exact this ⟨e1.symm,by omega⟩
 ·subst heq;rw[hi2]at hj2;exact hne hj2
 ·have:=List.pairwise_iff_getElem.1 hp j i hj1 hi1 hlt;rw[hi2,hj2]at this;exact this ⟨e1,by omega⟩
theorem qcu {q:List rf5Op} (H:Hist q) (hq:NoAb q) (h40:q.length≤100) {want:hsview} (hw:SeenAs q want) {o:List Int} (ho:o.length≤6):seenO bigFuel (q.map cv) want o=some (sameV (serV q o) q):=by
 have hl:=Dr q o;have h6:o.length * q.length≤6 * 100:=Nat.mul_le_mul ho h40;obtain⟨v,h1,h2⟩:=Nk (DV H (by omega) (fun x hx=>Dq hx):Hist (serV q o)) (fun x hx=>hq x (Dq hx));unfold seenO;rw[qaB H.len ho,A0,h1,A0]
 have hck:(decide (v.Qk.length=6) && v.jK.all fun q=>decide (q.2.length≤100000))=true:=by
  rw[A5,decide_eq_true_eq,A7];refine⟨by rw[h2.last];rfl,fun p hp=>?_⟩;have:=h2.len p hp;rw[decide_eq_true_eq];omega
 rw[hck,qB,qcw h2 hw]
theorem qcl (h:List rf5Op):VY bigFuel ((h.take 43).map cv)=some (viewR h):=by
 unfold VY viewO viewR;rw[Zk,A0]
 cases hv:validB h with
 | false=>rfl
 | true =>
  obtain⟨H,hlen⟩:=YX hv;have htk:h.take 43=h:=A8 (by omega);have hp40:(partL h).length≤100:=A9 (A6 _ _) (by omega)
  have HP:Hist (partL h):=DV H (by omega) fun x hx=>(List.mem_filter.1 hx).1
  obtain⟨want,h1,h2⟩:=Nk HP (NC hv);have hl6:=Xg h
  have hseen:∀ o:List Int,o.length≤6→seenO bigFuel ((partL h).map cv) want o=some (sameV (serV (partL h) o) (partL h)):=fun o ho=>qcu HP (NC hv) hp40 h2 ho
  rw[htk,cond_true,Vn H,A0,h1,A0,JS H,A0]
  have hck:(decide ((commL h).length≤999) && ((commL h).all (wfI .i64) && (decide (commL h).Nodup && (decide (want.Qk.length=6) && (someF (commL h).length (commL h)).all fun o=>(seenO bigFuel ((partL h).map cv) want o).isSome))))=true:=by
   simp only[A5,decide_eq_true_eq,A7];refine⟨by omega,Dc,qY h,by rw[h2.last];rfl,fun o ho=>?_⟩;rw[hseen o (by rw[(XE _ _ o ho).1];exact hl6)];rfl
  rw[hck,qB,if_pos rfl,XP _ (qY h),XP _ (qY h)]
  have hfind:(permsF (commL h).length (commL h)).find? (fun o=>(seenO bigFuel ((partL h).map cv) want o).getD false)=(permsF (commL h).length (commL h)).find? fun o=>sameV (serV (partL h) o) (partL h):=by
   refine Zw fun o ho=>?_
   have hp:=(Xn (qY h) (Nat.le_refl _) o).1 ho;rw[hseen o (by rw[hp.length_eq];exact hl6)];rfl
  rw[hfind]
  try (cases (permsF (commL h).length (commL h)).find? (fun o=>sameV (serV (partL h) o) (partL h)) <;> rfl)
theorem qdr (x y:Int):JI x y=some (if x<y then -1 else if x > y then 1 else 0):=by
 unfold JI Qm;simp only[A0,bne_self_eq_false,cN];by_cases h1:x<y
 ·rw[decide_eq_true h1,if_pos h1];rfl
 ·rw[decide_eq_false h1,if_neg h1];by_cases h2:x > y
  ·rw[decide_eq_true h2,if_pos h2];rfl
  ·rw[decide_eq_false h2,if_neg h2];rfl
theorem UK {K:Option Int} (hK:K=some 0):∀ (p q pre:List Int),(p=q∨lexP p q)→∃ w,jb (pre++q) K p pre.length=some w∧w≤0
 | [],q,pre,h=>⟨0,by rw[jb.eq_1,hK],Int.le_refl _⟩
 | x::p,[],pre,h=>by
  rcases h with h | h
  ·cases h
  ·exact absurd h (by simp[lexP])
 | x::p,y::q,pre,h=>by
  have hi:idx (pre++y::q) ((pre.length:Nat):Int)=some y:=HQ (by simp);rw[jb.eq_2,decide_eq_false (by simp;omega),cN,hi,A0,qdr,A0]
  have hx:x<y∨(x=y∧(p=q∨lexP p q)):=by
   rcases h with h | h
   ·obtain⟨h1,h2⟩:=List.cons.inj h;exact .inr ⟨h1,.inl h2⟩
   ·rcases h with h | ⟨h1,h2⟩
    ·exact .inl h
    ·exact .inr ⟨h1,.inr h2⟩
  rcases hx with hx | ⟨rfl,hx⟩
  ·rw[if_pos hx];exact⟨-1,rfl,by decide⟩
  ·have:=UK hK p q (pre++[x]) hx;rw[A1,A4,List.append_assoc]at this
   simpa using this
theorem qbc {c a:List Int} (hl:c.length=a.length) (h8:c.length≤1000) (h:c=a∨lexP c a):∃ w,Jl c a=some w∧w≤0:=by
 unfold Jl;rw[Jn (by omega),qB];refine UK ?_ c a [] h;unfold Jh;rw[decide_eq_false (by omega)];rfl
theorem qcC (x y:Int) (K:List hsOp→Option Bool):∀ (r:List rf5Op) (k:Nat) (v:List hsOp),v.length+r.length≤1000→qC x y K (r.map cv) k v=K (v++(r.filter fun o=>(o.qa == x) || (o.qa == y)).map cv)
 | [],k,v,_=>by rw[List.map_nil,qC.eq_1];simp
 | o::r,k,v,hl=>by
  have hl:v.length+(r.length+1)≤1000:=hl
  have ih:=fun v' h'=>qcC x y K r (k+1) v' h'
  rw[List.map_cons,qC.eq_2,List.filter_cons];unfold jZ jx;show (bif o.qa == x then _ else bif o.qa == y then _ else _)=_
  cases hx:o.qa == x with
  | true =>
   simp only[cond_true,Bool.true_or,if_true];rw[capS (by omega) (by simp;omega),qB,ih _ (by simp;omega)];simp
  | false =>
   cases hy:o.qa == y with
   | true =>
    simp only[cond_true,cN,Bool.or_true,if_true];rw[capS (by omega) (by simp;omega),qB,ih _ (by simp;omega)];simp
   | false =>
    simp only[cN,Bool.or_false,Bool.false_eq_true,if_false];exact ih _ (by omega)
theorem qcD {h:List rf5Op} (hl:lenOk h=true) (hv:validB h=true) {c:List Int} {hd:Int} (hhd:c[0]? = some hd) (hc:∀ x,x∈c→x∈commL h) (hc6:c.length≤6) (n:Int):∀ (r:List Int) (k:Nat) (pre:List Int),c=pre++r→pre.length=k→(∀ x q,r=x::q→extE (confL (partL h)) hd x q=true) →
  qu bigFuel h (c,n) (qv bigFuel) r k=some true
 | [],k,pre,_,_,_=>by
  rw[qu.eq_1];unfold qv;rw[Vu];rfl
 | x::r,k,pre,he,hk,hx=>by
  have hlen:c.length=pre.length+(r.length+1):=by rw[he];simp
  have hE:=hx x r rfl;have hxm:x∈commL h:=hc x (by rw[he];simp);obtain⟨H,h40⟩:=YX hv;have htk:h.take 43=h:=A8 (by omega)
  obtain⟨y,hy,hym,hxy,hrest⟩:∃ y,idx c ((((k+1:Nat):Int)).tmod (c.length:Int))=some y∧y∈commL h∧confL (partL h) x y=true∧∀ z q,r=z::q→extE (confL (partL h)) hd z q=true:=by
   cases r with
   | nil =>
    have e1:(((k+1:Nat):Int)).tmod (c.length:Int)=0:=by
     have:((k+1:Nat):Int)=(c.length:Int):=by simp at hlen;omega
     rw[this];exact Int.tmod_self
    refine⟨hd,by rw[e1];unfold idx;rw[if_pos (by omega)];exact hhd,hc hd (List.mem_of_getElem? hhd),hE,fun z q hz=>by cases hz⟩
   | cons z r =>
    have e1:(((k+1:Nat):Int)).tmod (c.length:Int)=((k+1:Nat):Int):=Int.tmod_eq_of_lt (by omega) (by simp at hlen;omega);have hE:(confL (partL h) x z && extE (confL (partL h)) hd z r)=true:=hE;rw[A5]at hE;refine⟨z,by rw[e1];exact HQ (by rw[he,← hk];simp),hc z (by rw[he];simp),hE.1,fun z' q hz=>by cases hz;exact hE.2⟩
  have ih:=qcD hl hv hhd hc hc6 n r (k+1) (pre++[x]) (by rw[he];simp) (by simp[hk]) hrest;have h2:(twoL h x y).length≤40:=A9 (A6 _ _) h40;have htw:(twoL h x y).take 43=twoL h x y:=A8 (by omega);have hord:=ND (twoL h x y);rw[htw,qbI hv hxm hym hxy]at hord;rw[qu.eq_2,decide_eq_true (by show (c.length:Int)≠0;omega),qB];show (idx c ((((k+1:Nat):Int)).tmod (c.length:Int))).bind _=_;rw[hy,A0,qcE hl,htk,A0,Jn (by rw[A2];omega),qB,qcC x y _ h 0 [] (by simp;omega),ih];unfold qP;rw[List.nil_append];show (JR bigFuel ((twoL h x y).map cv)).bind _=_;rw[hord,A0]
  cases confL (partL h) y x with
  | true=>rfl
  | false =>
   have:jE [x,y] [x,y]=some true:=qbb (by simp);simp only[Bool.false_eq_true,if_false];show ((jE [x,y] [x,y]).bind _)=_;rw[this];rfl
theorem VW {h:List rf5Op} (hl:lenOk h=true):Qc bigFuel h=some true:=by
 unfold Qc;rw[qcE hl,A0,ND,A0,A0,qbZ,A0,A0,qcl,A0]
 cases hv:validB h with
 | false =>
  have e1:orderR h=([],2):=by unfold orderR;rw[hv];rfl
  have e2:cycleR h=([],2):=by unfold cycleR;rw[hv];rfl
  have e3:viewR h=([],2):=by unfold viewR;rw[hv];rfl
  rw[e1,e2,e3,Vu];rfl
 | true =>
  rcases Uo (E:=confL (partL h)) (fun x=>Xe x _) (qY h) with ⟨ht,c,hcf,h2,hn,hm,hcyc⟩ | ⟨o,ht,hcf⟩
  ·have e1:orderR h=([],8):=by unfold orderR;rw[hv,ht];rfl
   have e2:cycleR h=(c,0):=by unfold cycleR;rw[hv,hcf];rfl
   have e3:(viewR h).2=0∨(viewR h).2=5:=by
    unfold viewR;rw[hv,if_pos rfl]
    cases dfs (fun o=>sameV (serV (partL h) o) (partL h)) (commL h) (commL h).length [] with
    | none=>exact .inr rfl
    | some o=>exact .inl rfl
   have hc6:c.length≤6:=A9 (List.Nodup.length_le_of_subset hn hm) (Xg h)
   have key:qQ bigFuel h (c,0) false=some true:=by
    unfold qQ;rw[cN];show chk (lenOk c) (qu bigFuel h (c,0) (qv bigFuel) c 0)=_;rw[Jn (by omega),qB]
    cases c with
    | nil=>simp at h2
    | cons t q =>
     exact qcD hl hv (hd:=t) rfl hm hc6 0 (t::q) 0 [] rfl rfl fun x r hx=>by cases hx;exact hcyc
   rw[e1,e2];have hlt:decide ((c.length:Int)<2)=false:=decide_eq_false (by omega)
   rcases e3 with e3 | e3
   ·rw[e3];show (bif decide ((c.length:Int)<2) then _ else _)=_;rw[hlt,cN];exact key
   ·rw[e3];show (bif decide ((c.length:Int)<2) then _ else _)=_;rw[hlt,cN];exact key
  ·have e1:orderR h=(o,0):=by unfold orderR;rw[hv,ht];rfl
   have e2:cycleR h=([],5):=by unfold cycleR;rw[hv,hcf];rfl
   obtain⟨c,e3,hlex⟩:=qap hv ht;have hol:=(Ve (fun x=>Xe x _) (qY h) ht).1.length_eq;have h6:=Xg h
   have hcl:c.length=o.length:=by
    have:(viewR h).1=c:=by rw[e3]
    unfold viewR at this;rw[hv,if_pos rfl,XP _ (qY h)]at this
    cases hf:(permsF (commL h).length (commL h)).find? (fun o=>sameV (serV (partL h) o) (partL h)) with
    | none =>
     have h0:(viewR h).2=5:=by unfold viewR;rw[hv,if_pos rfl,XP _ (qY h),hf]
     rw[e3]at h0;cases h0
    | some d =>
     rw[hf]at this;have:d=c:=this;subst this;rw[((Xn (qY h) (Nat.le_refl _) d).1 (List.mem_of_find?_eq_some hf)).length_eq,hol]
   obtain⟨w,hw,hw0⟩:=qbc hcl (by omega) hlex;rw[e1,e2,e3];show ((Jl c o).bind _)=_;rw[hw,A0,decide_eq_true hw0,cond_true,Vu];rfl
end Go.AM
namespace Go.AM
open Go.Proofs Go.Proofs.Ytoiejpkfpjingaa Go.ChangeShapes Go.WideShapes Go.ChangeAt Go.RowKit
theorem readsOp:Reads Try.prog 43 ZT (fun _=>True) :=
 HA (P := Try.prog) (size := 3) (fs := #[Field.mk "Txn" 3 0 false "" "" 0, Field.mk "Kind" 3 1 false "" "" 8, Field.mk "Item" 3 2 false "" "" 16]) (fun b : Int × Int × Int × Unit => (⟨b.1, b.2.1, b.2.2.1⟩ : rf5Op)) (by kernel_rfl) (by kernel_rfl)
  (Ym (f:=AV.int .i64) (ok:=fun n=>(Lit.int .i64 n).wf=true) (n:=1) (off':=1) rfl (by kernel_rfl) rfl (Vm (k:=.i64) (by kernel_rfl)) (Ym (f:=AV.int .i64) (ok:=fun n=>(Lit.int .i64 n).wf=true) (n:=1) (off':=2) rfl (by kernel_rfl) rfl (Vm (k:=.i64) (by kernel_rfl)) (Ym (f:=AV.int .i64) (ok:=fun n=>(Lit.int .i64 n).wf=true) (n:=1) (off':=3) rfl (by kernel_rfl) rfl (Vm (k:=.i64) (by kernel_rfl)) (DY rfl))))
  (fun b=>rfl) (fun b h=>trivial)
theorem qbE:Reads Try.prog 23 (encL 43 3 ZT) (fun l=>l.length≤maxLen∧∀ d,d∈l→True) :=
 Dz (by kernel_rfl) (by kernel_rfl) (by decide) readsOp (fun _=>rfl) (fun _=>rfl)
theorem qbU {α:Type} {l:List α} (h:l.length≤maxLen):lenOk l=true:=Nat.ble_eq_true_of_le (by unfold maxLen at h;omega)
theorem own:ownKnob Try.prog.godebug=none:=by kernel_rfl
theorem mixed:Try.prog.follows .mixedOrders=true:=by kernel_rfl
theorem laid:laidOutB Try.prog=true:=by kernel_rfl
end Go.AM
