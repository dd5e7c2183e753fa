import Derived.Test.YtoiejpkfpjingaaHAT
import Derived.WalkKit
import Derived.BigCall
import Derived.Deep.RegionHeld3
import Derived.Deep.RegionHeldLaw
import Derived.Deep.AppendLies
import Derived.Deep.OwnRows
import Derived.OneCell
import Derived.Laws.Rows
import Derived.Test.YtoiejpkfpjingaaASimK
set_option linter.all false
set_option maxRecDepth 100000
open List renaming map→A0, length_map→A4, getElem?_concat_length→A7, getElem?_append_left→A8, getElem?_map→B5, getElem?_eq_getElem→B7, getD_eq_getElem?_getD→C4, exists_mem_of_ne_nil→C7
open Go.MapKept renaming run_getObj_map→A1, run_setObj_map→A9, stamped_push→C5, stamped_modify→C6
open Go.Result renaming andThen→A2
open Int renaming toNat→A3
open Array renaming getElem?_push→A5, getElem?_modify→A6, getElem?_eq_getElem→B9
open Option renaming map_eq_some_iff→B6
namespace Go.AM
open Go.Proofs
def Jm (fuel:Nat) (a1:(List hsOp)):Option (List Int):=(jV fuel a1 2).bind fun l=>chk (decide (l.length≤1000)) (some (sortI (comm l)))
theorem QW (fuel:Nat) (a1:(List hsOp)) (r:(List Int)) (h:Jm fuel a1=some r):Run Try.prog (.call 51 [l44 none a1] (l3 none r)):=by
 unfold Jm at h;obtain⟨l,hl,h⟩:=ql h;obtain⟨hc,h⟩:=qq h;cases h;exact .ext0 (qcs hl (of_decide_eq_true hc))
def Xo:Option Int :=
 (some (-1))
def JS (a2:Int) (K4:(Option Int)):List Int→Nat→Option Int
 | [],k1=>K4
 | x1::r1,k1=>(bif (a2 == x1) then (some (k1:Int)) else (JS a2 K4 r1 (k1+1)))
def Zc (a1:(List Int)) (a2:Int):Option Int :=
 (chk (lenOk a1) (JS a2 (Xo) a1 0))
theorem NU (a1:(List Int)) (a2:Int) (r:Int) (h:Zc a1 a2=some r):Run Try.prog (.call 75 [l3 none a1,I6 a2] (I6 r)):=by
 refine cW Try.func75 rfl (env0:=[(0,l3 none a1),(1,I6 a2)]) ?_;unfold Zc at h;refine W.seq ?_;let z0:=fun t=>EN ((0,l3 none a1)::(1,I6 a2)::t);refine W.rt (e2:=z0 []) ?_;refine W.seq<|W.join (σ:=Unit) (fun s=>[]) (fun s=>(Xo)=some r) (fun s h=>?_) (fun hK4=>?_)
 ·unfold Xo at h;refine W.seq<|W.rt (e2:=[(4,I6 (-1))]) ?_;refine W.wk (e:=[(4,I6 (-1))]) ?_;cases h;exact W.rr
 refine W.sr<|WO.pq 1 (jM (.int .i64) a1) (e1:=z0 [(6,l3 none a1),(7,I6 (a1.length:Int))]) ?_;let z1:=fun t=>z0 ((7,I6 (a1.length:Int))::t);refine WO.fn (e2:=z1 [(8,.int .i64 0)]) ?_;refine W.block ?_;obtain⟨hl1,h⟩:=qq h;refine W.wk (e:=z1 [(8,I6 ((0:Nat):Int))])<|W.range (σ:=Unit) a1 (fun k1 s=>z1 [(8,I6 (k1:Int))]) (fun r0 k0 s=>JS a2 (Xo) r0 k0=some r) (fun s h=>?_) (fun x1 r1 k1 s hx1 hk1 h hN1=>?_) () h
 ·rw[JS.eq_1]at h;refine W.sr ?_;let y0:Env:=[(1,I6 a2),(7,I6 (a1.length:Int)),(8,I6 ((a1).length:Int)),(9,.bool false)];refine WO.pq 0 (jB (jj (l:=a1))) (e1:=((0,l3 none a1)::y0))<|WO.fn (e2:=((0,l3 none a1)::y0)) ?_;refine W.seq<|W.cF<|W.exit<|W.wk (e:=[]) ?_;exact hK4 () h
 ·rw[JS.eq_2]at h;refine W.sr ?_;let y1:Env:=[(1,I6 a2),(7,I6 (a1.length:Int)),(8,I6 (k1:Int)),(9,.bool true)];let z2:=fun t=>EN ((0,l3 none a1)::t);refine WO.pq 0 (jB (jD hk1)) (e1:=z2 y1)<|WO.fn (e2:=z2 y1) ?_;refine W.seq<|W.cT<|W.skip ?_;let y2:Env:=[(7,I6 (a1.length:Int)),(8,I6 (k1:Int))];refine W.wk (e:=z0 y2)<|W.seq<|W.block<|W.seq ?_;let z3:=fun t=>z0 ((5,I6 (k1:Int))::t);refine W.rt (e2:=z3 y2) ?_;refine W.sr ?_;let z4:=fun t=>z3 ((7,I6 (a1.length:Int))::(8,I6 (k1:Int))::t);refine WO.pq 3 (jE (f:=(AV.int .i64)) hx1) (e1:=z4 [(11,I6 a2),(12,l3 none a1),(13,I6 (k1:Int)),(14,.ptr (I6 x1))])<|WO.fn (e2:=z4 [(16,.bool (a2 == x1))]) ?_;refine W.ch (a2 == x1) h (fun h=>?_) (fun h=>?_)
  ·refine W.seq<|W.rt (e2:=[(4,I6 (k1:Int))]) ?_;refine W.wk (e:=[(4,I6 (k1:Int))]) ?_;cases h;exact W.rr
  refine W.sw (e:=z0 y2) ?_;refine W.rg<|WO.pq 0 (jI (qS hl1 hk1)) (e1:=z1 [(8,I6 (k1:Int)),(18,I6 ((k1+1:Nat):Int))])<|WO.fn (e2:=z1 [(8,I6 ((k1+1:Nat):Int))]) ?_;exact hN1 () h
def QI (a1:(List Int)) (a2:Int):Option Bool :=
 ((Zc a1 a2).bind fun w5=>(some (decide (w5 ≥ 0))))
theorem XL (a1:(List Int)) (a2:Int) (r:Bool) (h:QI a1 a2=some r):Run Try.prog (.call 39 [l3 none a1,I6 a2] (.bool r)):=by
 refine cW Try.func39 rfl (env0:=[(0,l3 none a1),(1,I6 a2)]) ?_;unfold QI at h;refine W.seq<|W.rt (e2:=[(0,l3 none a1),(1,I6 a2)]) ?_;refine W.sr ?_;obtain⟨w5,hw5,h⟩:=ql h;refine WO.ck 2 (F:=75) (l:=[l3 none a1,I6 a2]) (C:=[]) (r:=I6 w5) (NU a1 a2 w5 hw5) (e1:=[(0,l3 none a1),(1,I6 a2),(5,l3 none a1),(6,I6 a2),(7,I6 w5)])<|WO.fn (e2:=[(4,.bool (decide (w5 ≥ 0)))]) ?_;refine W.wk (e:=[(4,.bool (decide (w5 ≥ 0)))]) ?_;cases h;exact W.rr
def JA (v15:(List hsOp)):Option (List hsOp) :=
 (some v15)
def QF (N1:((List hsOp)→Option (List hsOp))) (v14:(List hsOp)):Option (List hsOp) :=
 (N1 v14)
def jo (w4:(List Int)) (K6:((List hsOp)→Option (List hsOp))):List hsOp→Nat→(List hsOp)→Option (List hsOp)
 | [],k1,v8=>(K6 v8)
 | x1::r1,k1,v8=>((QI w4 x1.qb).bind fun w12=>(bif w12 then (chk (capOk 24 ((v8++[x1])).length) ((QF (jo w4 K6 r1 (k1+1))) (v8++[x1]))) else ((QF (jo w4 K6 r1 (k1+1))) v8)))
def QM (fuel:Nat) (a1:(List hsOp)):Option (List hsOp) :=
 ((Jm fuel a1).bind fun w4=>(chk (lenOk a1) (jo w4 (JA) a1 0 ([]:(List hsOp)))))
theorem Uy (fuel:Nat) (a1:(List hsOp)) (r:(List hsOp)) (h:QM fuel a1=some r):Run Try.prog (.call 48 [l44 none a1] (l44 (some 1) r)):=by
 refine cW Try.func48 rfl (env0:=[(0,l44 none a1)]) ?_;unfold QM at h;refine W.seq ?_;let z0:=fun t=>EN ((0,l44 none a1)::t);refine W.rt (e2:=z0 []) ?_;refine W.sr ?_;obtain⟨w4,hw4,h⟩:=ql h;refine WO.ck 1 (F:=51) (l:=[l44 none a1]) (C:=[]) (r:=l3 none w4) (QW fuel a1 w4 hw4) (e1:=z0 [(7,l44 none a1),(8,l3 none w4)]) ?_;let z1:=fun t=>z0 ((3,l3 none w4)::t);refine WO.fn (e2:=z1 []) ?_;refine W.seq<|W.rt (e2:=z1 [(4,.nils)]) ?_;refine W.seq<|W.join (σ:=((List hsOp))) (fun s=>[(4,l44 (some 10400) s)]) (fun s=>(JA) s=some r) (fun v15 h=>?_) (fun hK6=>?_)
 ·unfold JA at h;refine W.seq<|W.rt (e2:=[(2,l44 (some 10400) v15)]) ?_;refine W.weak [2] [] [] [(10400,some 1)] (env':=[(2,l44 (some 1) v15)]) (by kernel_rfl) ?_;cases h;exact W.rr
 refine W.sr<|WO.pq 1 (jM jf a1) (e1:=z1 [(4,.nils),(9,l44 none a1),(10,I6 (a1.length:Int))]) ?_;let z2:=fun t=>EN ((3,l3 none w4)::t);refine WO.fn (e2:=z2 [(4,.nils),(9,l44 none a1),(10,I6 (a1.length:Int)),(11,.int .i64 0)]) ?_;refine W.block ?_;obtain⟨hl1,h⟩:=qq h;refine W.weak [3,4,9,10,11] [] [(4,0,44,3,10400)] [] (env':=z2 [(4,l44 (some 10400) ([]:(List hsOp))),(9,l44 none a1),(10,I6 (a1.length:Int)),(11,I6 ((0:Nat):Int))]) (by kernel_rfl)<|W.range (σ:=((List hsOp))) a1 (fun k1 s=>z2 [(4,l44 (some 10400) s),(9,l44 none a1),(10,I6 (a1.length:Int)),(11,I6 (k1:Int))]) (fun r0 k0 s=>jo w4 (JA) r0 k0 s=some r) (fun v8 h=>?_) (fun x1 r1 k1 s hx1 hk1 h hN1=>?_) ([]:(List hsOp)) h
 ·have h:jo w4 (JA) [] (a1).length v8=some r:=h;rw[jo.eq_1]at h;refine W.sr ?_;let y0:Env:=[(4,l44 (some 10400) v8),(9,l44 none a1),(10,I6 (a1.length:Int)),(11,I6 ((a1).length:Int)),(12,.bool false)];refine WO.pq 0 (jB (jj (l:=a1))) (e1:=z2 y0)<|WO.fn (e2:=z2 y0) ?_;refine W.seq<|W.cF<|W.exit<|W.wk (e:=[(4,l44 (some 10400) v8)]) ?_;exact hK6 v8 h
 ·obtain⟨v8,rfl⟩:∃ x,x=s:=⟨s,rfl⟩;have h:jo w4 (JA) (x1::r1) k1 v8=some r:=h;rw[jo.eq_2]at h;refine W.sr ?_;let y1:Env:=[(4,l44 (some 10400) v8),(9,l44 none a1),(10,I6 (a1.length:Int)),(11,I6 (k1:Int)),(12,.bool true)];refine WO.pq 0 (jB (jD hk1)) (e1:=z2 y1)<|WO.fn (e2:=z2 y1) ?_;refine W.seq<|W.cT<|W.skip ?_;let y2:Env:=[(9,l44 none a1),(10,I6 (a1.length:Int)),(11,I6 (k1:Int))];let z3:=fun t=>z2 ((4,l44 (some 10400) v8)::t);refine W.wk (e:=z3 y2)<|W.seq<|W.join (σ:=((List hsOp))) (fun s=>z2 ((4,l44 (some 10400) s)::y2)) (fun s=>(QF (jo w4 (JA) r1 (k1+1))) s=some r) (fun v14 h=>?_) (fun hK9=>?_)
  ·unfold QF at h;refine W.rg ?_;let z4:=fun t=>z2 ((4,l44 (some 10400) v14)::(9,l44 none a1)::(10,I6 (a1.length:Int))::t);refine WO.pq 0 (jI (qS hl1 hk1)) (e1:=z4 [(11,I6 (k1:Int)),(23,I6 ((k1+1:Nat):Int))])<|WO.fn (e2:=z4 [(11,I6 ((k1+1:Nat):Int))]) ?_;exact hN1 v14 h
  refine W.block<|W.sr<|WO.pq 0 (jE (f:=jf) hx1) (e1:=z3 [(9,l44 none a1),(10,I6 (a1.length:Int)),(11,I6 (k1:Int)),(13,.ptr (.agg [I6 x1.qb,I6 x1.qh,I6 x1.qi]))]) ?_;let z5:=fun t=>z3 ((6,.ptr (.agg [I6 x1.qb,I6 x1.qh,I6 x1.qi]))::t);refine WO.fi [3,4,6,9,10,11] [6] (e2:=z5 y2) ?_;refine W.sr ?_;obtain⟨w12,hw12,h⟩:=ql h;let z6:=fun t=>z5 ((9,l44 none a1)::(10,I6 (a1.length:Int))::(11,I6 (k1:Int))::t);refine WO.ck 3 (F:=39) (l:=[l3 none w4,I6 x1.qb]) (C:=[]) (r:=.bool w12) (XL w4 x1.qb w12 hw12) (e1:=z6 [(15,l3 none w4),(16,.ptr (I6 x1.qb)),(17,I6 x1.qb),(18,.bool w12)])<|WO.fn (e2:=z6 [(18,.bool w12)]) ?_;refine W.ch w12 h (fun h=>?_) (fun h=>?_)
  ·refine W.rg ?_;obtain⟨hc13,h⟩:=qq h;refine WO.appendK 3 (d:=22) (e:=44) (s:=3) (bytes:=24) (xs:=(A0 jf v8)) (ys:=(A0 jf [x1])) (zs:=(A0 jf (v8++[x1]))) (env1:=[(3,l3 none w4),(4,l44 none v8),(6,.ptr (.agg [I6 x1.qb,I6 x1.qh,I6 x1.qi])),(9,l44 none a1),(10,I6 (a1.length:Int)),(11,I6 (k1:Int)),(18,.bool w12),(19,l44 none v8),(20,.agg [I6 x1.qb,I6 x1.qh,I6 x1.qi]),(21,l44 (some 21) [x1])]) (by kernel_rfl) (List.map_append.symm) (by rw[A4];exact hc13) (e1:=z2 [(4,l44 none v8),(6,.ptr (.agg [I6 x1.qb,I6 x1.qh,I6 x1.qi])),(9,l44 none a1),(10,I6 (a1.length:Int)),(11,I6 (k1:Int)),(18,.bool w12),(19,l44 none v8),(20,.agg [I6 x1.qb,I6 x1.qh,I6 x1.qi]),(21,l44 (some 21) [x1]),(22,l44 (some 22) (v8++[x1]))]) (by kernel_rfl) ?_;refine WO.fin [3,4,9,10,11] [] [] [(22,some 10400)] (e2:=z2 ((4,l44 (some 10400) (v8++[x1]))::y2)) (by kernel_rfl) (fun _ h=>h) ?_;exact hK9 (v8++[x1]) h
  refine W.sw (e:=z3 y2) ?_;exact hK9 v8 h
def qR (v20:(List (qj×Bool))):Option (List (qj×Bool)) :=
 (some v20)
def jn (N1:((List (qj×Bool))→Option (List (qj×Bool)))) (v19:(List (qj×Bool))):Option (List (qj×Bool)) :=
 (N1 v19)
def jw (N2:((List (qj×Bool))→Option (List (qj×Bool)))) (v18:(List (qj×Bool))):Option (List (qj×Bool)) :=
 (N2 v18)
def jJ (x1:hsOp) (x2:hsOp) (v11:(List (qj×Bool))) (K12:((List (qj×Bool))→Option (List (qj×Bool)))) (v15:Bool):Option (List (qj×Bool)) :=
 (bif v15 then (chk (wfI .i64 x1.qb && wfI .i64 x2.qb) (chk (Nat.blt v11.length 1000000000) (K12 (mset qv (qj.mk x1.qb x2.qb) true v11)))) else (K12 v11))
def qJ (x1:hsOp) (K7:((List (qj×Bool))→Option (List (qj×Bool)))):List hsOp→Nat→(List (qj×Bool))→Option (List (qj×Bool))
 | [],k2,v11=>(K7 v11)
 | x2::r2,k2,v11=>(bif (x1.qb != x2.qb) then (bif (x1.qi == x2.qi) then ((jJ x1 x2 v11 (jw (qJ x1 K7 r2 (k2+1)))) ((if x2.qh > x1.qh then x2.qh else x1.qh) == 1)) else ((jJ x1 x2 v11 (jw (qJ x1 K7 r2 (k2+1)))) false)) else ((jJ x1 x2 v11 (jw (qJ x1 K7 r2 (k2+1)))) false))
def qG (a1:(List hsOp)) (K4:((List (qj×Bool))→Option (List (qj×Bool)))):List hsOp→Nat→(List (qj×Bool))→Option (List (qj×Bool))
 | [],k1,v6=>(K4 v6)
 | x1::r1,k1,v6=>((sub a1 ((k1+1:Nat):Int) (a1.length:Int)).bind fun e10=>(chk (lenOk e10) (qJ x1 (jn (qG a1 K4 r1 (k1+1))) e10 0 v6)))
def Qk (a1:(List hsOp)):Option (List (qj×Bool)) :=
 (chk (lenOk a1) (qG a1 (qR) a1 0 ([]:(List (qj×Bool)))))
theorem ZM (a1:(List hsOp)) (r:(List (qj×Bool))) (h:Qk a1=some r):Run Try.prog (.call 49 [l44 none a1] (mpE qn AV.bool r)):=by
 refine cW Try.func49 rfl (env0:=[(0,l44 none a1)]) ?_;unfold Qk at h;refine W.seq ?_;let z0:=fun t=>EN ((0,l44 none a1)::t);refine W.rt (e2:=z0 []) ?_;refine W.seq ?_;let y0:Env:=[(1000008,hobE qn AV.bool ([]:(List (qj×Bool))))];let z1:=fun t=>z0 ((3,.mb 0 1000008)::t);refine W.rt (e2:=z1 y0) ?_;refine W.seq<|W.join (σ:=((List (qj×Bool)))) (fun s=>[(3,.mb 0 1000008),(1000008,hobE qn AV.bool s)]) (fun s=>(qR) s=some r) (fun v20 h=>?_) (fun hK4=>?_)
 ·unfold qR at h;refine W.seq<|W.rt (e2:=[(2,.mb 0 1000008),(1000008,hobE qn AV.bool v20)]) ?_;refine W.mv [.frz 1000008] (env':=[(2,mpE qn AV.bool v20)]) (by kernel_rfl)<|W.wk (e:=[(2,mpE qn AV.bool v20)]) ?_;cases h;exact W.rr
 refine W.sr ?_;let z2:=fun t=>z1 ((9,l44 none a1)::(10,I6 (a1.length:Int))::t);refine WO.pq 1 (jM jf a1) (e1:=z2 y0)<|WO.fn (e2:=z2 ((11,.int .i64 0)::y0)) ?_;refine W.block ?_;obtain⟨hl1,h⟩:=qq h;refine W.wk (e:=z2 ((11,I6 ((0:Nat):Int))::y0))<|W.range (σ:=((List (qj×Bool)))) a1 (fun k1 s=>z2 [(11,I6 (k1:Int)),(1000008,hobE qn AV.bool s)]) (fun r0 k0 s=>qG a1 (qR) r0 k0 s=some r) (fun v6 h=>?_) (fun x1 r1 k1 s hx1 hk1 h hN1=>?_) ([]:(List (qj×Bool))) h
 ·have h:qG a1 (qR) [] (a1).length v6=some r:=h;rw[qG.eq_1]at h;refine W.sr ?_;let y1:Env:=[(3,.mb 0 1000008),(9,l44 none a1),(10,I6 (a1.length:Int)),(11,I6 ((a1).length:Int)),(12,.bool false),(1000008,hobE qn AV.bool v6)];refine WO.pq 0 (jB (jj (l:=a1))) (e1:=z0 y1)<|WO.fn (e2:=z0 y1) ?_;refine W.seq<|W.cF<|W.exit<|W.wk (e:=[(3,.mb 0 1000008),(1000008,hobE qn AV.bool v6)]) ?_;exact hK4 v6 h
 ·obtain⟨v6,rfl⟩:∃ x,x=s:=⟨s,rfl⟩;have h:qG a1 (qR) (x1::r1) k1 v6=some r:=h;rw[qG.eq_2]at h;refine W.sr ?_;let y2:Env:=[(1000008,hobE qn AV.bool v6)];let z3:=fun t=>z2 ((11,I6 (k1:Int))::t);refine WO.pq 0 (jB (jD hk1)) (e1:=z3 ((12,.bool true)::y2))<|WO.fn (e2:=z3 ((12,.bool true)::y2)) ?_;refine W.seq<|W.cT<|W.skip ?_;let y3:Env:=(9,l44 none a1)::(10,I6 (a1.length:Int))::(11,I6 (k1:Int))::y2;refine W.wk (e:=z1 y3)<|W.seq<|W.join (σ:=((List (qj×Bool)))) (fun s=>z3 [(1000008,hobE qn AV.bool s)]) (fun s=>(jn (qG a1 (qR) r1 (k1+1))) s=some r) (fun v19 h=>?_) (fun hK7=>?_)
  ·unfold jn at h;refine W.rg<|WO.pq 0 (jI (qS hl1 hk1)) (e1:=z3 [(52,I6 ((k1+1:Nat):Int)),(1000008,hobE qn AV.bool v19)])<|WO.fn (e2:=z2 [(11,I6 ((k1+1:Nat):Int)),(1000008,hobE qn AV.bool v19)]) ?_;exact hN1 v19 h
  refine W.block<|W.sr<|WO.pq 1 (jE (f:=jf) hx1) (e1:=z3 ((13,I6 (k1:Int))::(14,.ptr (.agg [I6 x1.qb,I6 x1.qh,I6 x1.qi]))::y2)) ?_;let z4:=fun t=>z1 ((4,I6 (k1:Int))::(5,.ptr (.agg [I6 x1.qb,I6 x1.qh,I6 x1.qi]))::t);refine WO.fi [0,3,4,5,9,10,11,1000008] [5] (e2:=z4 y3) ?_;refine W.sr ?_;let z5:=fun t=>z4 ((9,l44 none a1)::(10,I6 (a1.length:Int))::(11,I6 (k1:Int))::(16,l44 none a1)::(17,I6 (k1:Int))::(18,I6 ((k1+1:Nat):Int))::t);refine WO.pq 2 (jI (qS hl1 hk1)) (e1:=z5 y2) ?_;obtain⟨e10,he10,h⟩:=ql h;refine WO.pk 0 (if (0:Int)≤((k1+1:Nat):Int)∧((k1+1:Nat):Int)≤((A0 jf a1).length:Int)∧((A0 jf a1).length:Int)≤((A0 jf a1).length:Int) then some (.lst 44 3 none (((A0 jf a1).take (A3 ((A0 jf a1).length:Int))).drop (A3 ((k1+1:Nat):Int)))) else none) (Ds he10) (e1:=z5 ((19,l44 none e10)::y2))<|WO.pq 0 (jM jf e10) (e1:=z5 ((19,l44 none e10)::(20,I6 (e10.length:Int))::y2)) ?_;let z6:=fun t=>z1 ((5,.ptr (.agg [I6 x1.qb,I6 x1.qh,I6 x1.qi]))::(9,l44 none a1)::(10,I6 (a1.length:Int))::(11,I6 (k1:Int))::(19,l44 none e10)::(20,I6 (e10.length:Int))::t);refine WO.fn (e2:=z6 ((21,.int .i64 0)::y2)) ?_;refine W.block ?_;obtain⟨hl2,h⟩:=qq h;refine W.wk (e:=z6 ((21,I6 ((0:Nat):Int))::y2))<|W.range (σ:=((List (qj×Bool)))) e10 (fun k2 s=>z6 [(21,I6 (k2:Int)),(1000008,hobE qn AV.bool s)]) (fun r0 k0 s=>qJ x1 (jn (qG a1 (qR) r1 (k1+1))) r0 k0 s=some r) (fun v11 h=>?_) (fun x2 r2 k2 s hx2 hk2 h hN2=>?_) v6 h
  ·have h:qJ x1 (jn (qG a1 (qR) r1 (k1+1))) [] (e10).length v11=some r:=h;rw[qJ.eq_1]at h;refine W.sr ?_;let y4:Env:=[(3,.mb 0 1000008),(5,.ptr (.agg [I6 x1.qb,I6 x1.qh,I6 x1.qi])),(9,l44 none a1),(10,I6 (a1.length:Int)),(11,I6 (k1:Int)),(19,l44 none e10),(20,I6 (e10.length:Int)),(21,I6 ((e10).length:Int)),(22,.bool false),(1000008,hobE qn AV.bool v11)];refine WO.pq 0 (jB (jj (l:=e10))) (e1:=z0 y4)<|WO.fn (e2:=z0 y4) ?_;refine W.seq<|W.cF<|W.exit<|W.wk (e:=z3 [(1000008,hobE qn AV.bool v11)]) ?_;exact hK7 v11 h
  ·obtain⟨v11,rfl⟩:∃ x,x=s:=⟨s,rfl⟩;have h:qJ x1 (jn (qG a1 (qR) r1 (k1+1))) (x2::r2) k2 v11=some r:=h;rw[qJ.eq_2]at h;refine W.sr ?_;let y5:Env:=[(1000008,hobE qn AV.bool v11)];let z7:=fun t=>z6 ((21,I6 (k2:Int))::t);refine WO.pq 0 (jB (jD hk2)) (e1:=z7 ((22,.bool true)::y5))<|WO.fn (e2:=z7 ((22,.bool true)::y5)) ?_;refine W.seq<|W.cT<|W.skip ?_;let y6:Env:=(9,l44 none a1)::(10,I6 (a1.length:Int))::(11,I6 (k1:Int))::(19,l44 none e10)::(20,I6 (e10.length:Int))::(21,I6 (k2:Int))::y5;let z8:=fun t=>z1 ((5,.ptr (.agg [I6 x1.qb,I6 x1.qh,I6 x1.qi]))::t);refine W.wk (e:=z8 y6)<|W.seq<|W.join (σ:=((List (qj×Bool)))) (fun s=>z7 [(1000008,hobE qn AV.bool s)]) (fun s=>(jw (qJ x1 (jn (qG a1 (qR) r1 (k1+1))) r2 (k2+1))) s=some r) (fun v18 h=>?_) (fun hK12=>?_)
   ·unfold jw at h;refine W.rg<|WO.pq 0 (jI (qS hl2 hk2)) (e1:=z7 [(51,I6 ((k2+1:Nat):Int)),(1000008,hobE qn AV.bool v18)])<|WO.fn (e2:=z6 [(21,I6 ((k2+1:Nat):Int)),(1000008,hobE qn AV.bool v18)]) ?_;exact hN2 v18 h
   refine W.block<|W.sr<|WO.pq 0 (jE (f:=jf) hx2) (e1:=z7 ((23,.ptr (.agg [I6 x2.qb,I6 x2.qh,I6 x2.qi]))::y5)) ?_;let z9:=fun t=>z8 ((7,.ptr (.agg [I6 x2.qb,I6 x2.qh,I6 x2.qi]))::t);refine WO.fi [0,3,5,7,9,10,11,19,20,21,1000008] [7] (e2:=z9 y6) ?_;refine W.seq ?_;let z10:=fun t=>z9 ((9,l44 none a1)::(10,I6 (a1.length:Int))::(11,I6 (k1:Int))::(19,l44 none e10)::(20,I6 (e10.length:Int))::(21,I6 (k2:Int))::t);refine W.join (σ:=(Bool)) (fun s=>z10 ((44,.bool s)::y5)) (fun s=>(jJ x1 x2 v11 (jw (qJ x1 (jn (qG a1 (qR) r1 (k1+1))) r2 (k2+1)))) s=some r) (fun v15 h=>?_) (fun hK14=>?_)
   ·unfold jJ at h;refine W.ch v15 h (fun h=>?_) (fun h=>?_)
    ·refine W.rg ?_;obtain⟨hc16,h⟩:=qq h;obtain⟨hc17,h⟩:=qq h;let y7:Env:=[(1000008,hobE qn AV.bool (mset qv (qj.mk x1.qb x2.qb) true v11))];refine WO.mapK (F:=qn) (G:=AV.bool) (eq:=qv) (l:=v11) (a:=(qj.mk x1.qb x2.qb)) (b:=true) (id:=1000008) (kt:=73) 6 (YU hc16) hc17 (e1:=z10 ((44,.bool v15)::(45,.mb 0 1000008)::(46,.ptr (I6 x1.qb))::(47,I6 x1.qb)::(48,.ptr (I6 x2.qb))::(49,I6 x2.qb)::(50,.agg [I6 x1.qb,I6 x2.qb])::y7)) ?_ (fun x=>by kernel_rfl) (fun x y=>by kernel_rfl);refine WO.fn (e2:=z7 y7) ?_;exact hK12 (mset qv (qj.mk x1.qb x2.qb) true v11) h
    refine W.sw (e:=z8 y6) ?_;exact hK12 v11 h
   refine W.rg ?_;let z11:=fun t=>z10 ((25,.ptr (I6 x1.qb))::(26,I6 x1.qb)::(27,.ptr (I6 x2.qb))::(28,I6 x2.qb)::t);refine WO.bh 6 (fun b=>z11 ((29,.bool b)::(30,.bool b)::y5)) (x1.qb != x2.qb) h (fun h=>?_) (fun h=>?_)
   ·refine WO.bh 7 (fun b=>z11 ((29,.bool true)::(30,.bool true)::(31,.ptr (I6 x1.qi))::(32,I6 x1.qi)::(33,.ptr (I6 x2.qi))::(34,I6 x2.qi)::(35,.bool b)::(36,.bool b)::(37,.bool b)::y5)) (x1.qi == x2.qi) h (fun h=>?_) (fun h=>?_)
    ·refine WO.fn (e2:=z10 ((44,.bool ((if x2.qh > x1.qh then x2.qh else x1.qh) == 1))::y5)) ?_;exact hK14 ((if x2.qh > x1.qh then x2.qh else x1.qh) == 1) h
    refine WO.fn (e2:=z10 ((44,.bool false)::y5)) ?_;exact hK14 false h
   refine WO.fn (e2:=z10 ((44,.bool false)::y5)) ?_;exact hK14 false h
def XI (a1:(List Int)):Option (List Int):=chk (capOk 8 (0+a1.length)) (some a1)
theorem VP (a1:(List Int)) (r:(List Int)) (h:XI a1=some r):Run Try.prog (.callM 53 [l3 none a1] [] (.sb 1900000 3 1 0 r.length) [(1900000,.obj 3 1 (M6 r))]):=by
 refine cM Try.func53 rfl (env0:=[(0,l3 none a1)]) ?_;unfold XI at h;obtain⟨hc,h⟩:=qq h;cases h;refine W.regS [0] [] [] [] (e2:=[(0,l3 none a1)]) (by kernel_rfl) (by kernel_rfl) ?_;let z0:=fun t=>EN ((2,.sb 1900000 3 1 0 a1.length)::(1900000,.obj 3 1 (M6 a1))::t);refine W.seqU (e0:=[(0,l3 none a1),(3,l3 none a1),(4,.ub (M6 a1).isEmpty)]) (e2:=z0 []) (ei:=[(0,l3 none a1)]) (M6 a1).isEmpty ?_ (by kernel_rfl) (fun hp=>?_) ?_ ?_ ?_
 ·exact W.region (by kernel_rfl) (WO.end0 (e2:=[(0,l3 none a1),(3,l3 none a1),(4,.ub (M6 a1).isEmpty)]) (by kernel_rfl) ⟨rfl,rfl⟩)
 ·have hl:a1=[]:=by simpa using hp
  subst hl;refine W.regS [2] [] [] [] (e2:=[(2,.nils)]) (by kernel_rfl) (by kernel_rfl)<|W.mv [.nil 2 3 1 1900000] (env':=[(2,.sb 1900000 3 1 0 0),(1900000,.obj 3 1 [])]) (by kernel_rfl) ?_;exact W.ret ⟨rfl,rfl⟩
 ·refine W.weak [0] [] [] [] (env':=[(0,l3 none a1)]) (by kernel_rfl) ?_;exact W.skip ⟨rfl,rfl⟩
 ·refine W.sr<|WO.rowK 0 (e1:=[(0,l3 none a1),(5,.sb 1000005 3 1 0 0),(1000005,.obj 3 1 [])]) (by kernel_rfl)<|WO.appendOK 1 (d:=7) (e:=3) (s:=1) (bytes:=8) (m:=0) (n2:=a1.length) (xs:=[]) (ys:=(M6 a1)) (zs:=(M6 a1)) (env1:=[(0,l3 none a1),(5,.top),(6,l3 none a1)]) (by kernel_rfl) (by rw[A4];exact hc) rfl (A4 _) (e1:=[(0,l3 none a1),(5,.top),(6,l3 none a1),(7,.sb 1000007 3 1 0 a1.length),(1000007,.obj 3 1 (M6 a1))]) (by kernel_rfl) ?_;refine WO.fn (e2:=[(2,.sb 1000007 3 1 0 a1.length),(1000007,.obj 3 1 (M6 a1))]) ?_;refine W.mv [.ren 1000007 1900000] (env':=z0 []) (by kernel_rfl) ?_;exact W.ret ⟨rfl,rfl⟩
 ·exact⟨by kernel_rfl,by kernel_rfl⟩
def Qq:Option Int :=
 (some (-1))
def Ja (g2:(Int→Option Bool)) (K4:(Option Int)):List Int→Nat→Option Int
 | [],k1=>K4
 | x1::r1,k1=>((g2 x1).bind fun w9=>(bif w9 then (some (k1:Int)) else (Ja g2 K4 r1 (k1+1))))
def QB (a1:(List Int)) (g2:(Int→Option Bool)):Option Int :=
 (chk (lenOk a1) (Ja g2 (Qq) a1 0))
theorem YQ (a1:(List Int)) (g2:(Int→Option Bool)) (F_g2:Nat) (C_g2:List AV) (hok_g2:okFn Try.prog F_g2=true) (hrun_g2:∀ (x0:Int) r,g2 x0=some r→Run Try.prog (.call F_g2 ([I6 x0]++C_g2) (.bool r))) (r:Int) (h:QB a1 g2=some r):Run Try.prog (.call 88 [l3 none a1,.clo F_g2 C_g2] (I6 r)):=by
 refine cW Try.func88 rfl (env0:=[(0,l3 none a1),(1,.clo F_g2 C_g2)]) ?_;unfold QB at h;refine W.seq ?_;let z0:=fun t=>EN ((0,l3 none a1)::(1,.clo F_g2 C_g2)::t);refine W.rt (e2:=z0 []) ?_;refine W.seq<|W.join (σ:=Unit) (fun s=>[]) (fun s=>(Qq)=some r) (fun s h=>?_) (fun hK4=>?_)
 ·unfold Qq at h;refine W.seq<|W.rt (e2:=[(4,I6 (-1))]) ?_;refine W.wk (e:=[(4,I6 (-1))]) ?_;cases h;exact W.rr
 refine W.sr<|WO.pq 1 (jM (.int .i64) a1) (e1:=z0 [(6,l3 none a1),(7,I6 (a1.length:Int))]) ?_;let z1:=fun t=>z0 ((7,I6 (a1.length:Int))::t);refine WO.fn (e2:=z1 [(8,.int .i64 0)]) ?_;refine W.block ?_;obtain⟨hl1,h⟩:=qq h;refine W.wk (e:=z1 [(8,I6 ((0:Nat):Int))])<|W.range (σ:=Unit) a1 (fun k1 s=>z1 [(8,I6 (k1:Int))]) (fun r0 k0 s=>Ja g2 (Qq) r0 k0=some r) (fun s h=>?_) (fun x1 r1 k1 s hx1 hk1 h hN1=>?_) () h
 ·rw[Ja.eq_1]at h;refine W.sr ?_;let y0:Env:=[(1,.clo F_g2 C_g2),(7,I6 (a1.length:Int)),(8,I6 ((a1).length:Int)),(9,.bool false)];refine WO.pq 0 (jB (jj (l:=a1))) (e1:=((0,l3 none a1)::y0))<|WO.fn (e2:=((0,l3 none a1)::y0)) ?_;refine W.seq<|W.cF<|W.exit<|W.wk (e:=[]) ?_;exact hK4 () h
 ·rw[Ja.eq_2]at h;refine W.sr ?_;let y1:Env:=[(1,.clo F_g2 C_g2),(7,I6 (a1.length:Int)),(8,I6 (k1:Int)),(9,.bool true)];let z2:=fun t=>EN ((0,l3 none a1)::t);refine WO.pq 0 (jB (jD hk1)) (e1:=z2 y1)<|WO.fn (e2:=z2 y1) ?_;refine W.seq<|W.cT<|W.skip ?_;let y2:Env:=[(7,I6 (a1.length:Int)),(8,I6 (k1:Int))];refine W.wk (e:=z0 y2)<|W.seq<|W.block<|W.seq ?_;let z3:=fun t=>z0 ((5,I6 (k1:Int))::t);refine W.rt (e2:=z3 y2) ?_;refine W.sr ?_;let z4:=fun t=>z3 ((7,I6 (a1.length:Int))::(8,I6 (k1:Int))::(11,.clo F_g2 C_g2)::(12,l3 none a1)::(13,I6 (k1:Int))::(14,.ptr (I6 x1))::t);refine WO.pq 3 (jE (f:=(AV.int .i64)) hx1) (e1:=z4 []) ?_;obtain⟨w9,hw9,h⟩:=ql h;refine WO.callK 1 (F:=F_g2) (l:=[I6 x1]) (C:=C_g2) (r:=.bool w9) (by kernel_rfl) hok_g2 (hrun_g2 x1 w9 hw9) (e1:=z4 [(15,I6 x1),(16,.bool w9)]) (by kernel_rfl)<|WO.fn (e2:=z3 [(7,I6 (a1.length:Int)),(8,I6 (k1:Int)),(16,.bool w9)]) ?_;refine W.ch w9 h (fun h=>?_) (fun h=>?_)
  ·refine W.seq<|W.rt (e2:=[(4,I6 (k1:Int))]) ?_;refine W.wk (e:=[(4,I6 (k1:Int))]) ?_;cases h;exact W.rr
  refine W.sw (e:=z0 y2) ?_;refine W.rg<|WO.pq 0 (jI (qS hl1 hk1)) (e1:=z1 [(8,I6 (k1:Int)),(18,I6 ((k1+1:Nat):Int))])<|WO.fn (e2:=z1 [(8,I6 ((k1+1:Nat):Int))]) ?_;exact hN1 () h
def Qr (a1:(List Int)) (g2:(Int→Option Bool)):Option Bool :=
 ((QB a1 g2).bind fun w5=>(some (decide (w5 ≥ 0))))
theorem ZS (a1:(List Int)) (g2:(Int→Option Bool)) (F_g2:Nat) (C_g2:List AV) (hok_g2:okFn Try.prog F_g2=true) (hrun_g2:∀ (x0:Int) r,g2 x0=some r→Run Try.prog (.call F_g2 ([I6 x0]++C_g2) (.bool r))) (r:Bool) (h:Qr a1 g2=some r):Run Try.prog (.call 54 [l3 none a1,.clo F_g2 C_g2] (.bool r)):=by
 refine cW Try.func54 rfl (env0:=[(0,l3 none a1),(1,.clo F_g2 C_g2)]) ?_;unfold Qr at h;refine W.seq<|W.rt (e2:=[(0,l3 none a1),(1,.clo F_g2 C_g2)]) ?_;refine W.sr ?_;obtain⟨w5,hw5,h⟩:=ql h;refine WO.ck 2 (F:=88) (l:=[l3 none a1,.clo F_g2 C_g2]) (C:=[]) (r:=I6 w5) (YQ a1 g2 F_g2 C_g2 hok_g2 hrun_g2 w5 hw5) (e1:=[(0,l3 none a1),(1,.clo F_g2 C_g2),(5,l3 none a1),(6,.clo F_g2 C_g2),(7,I6 w5)])<|WO.fn (e2:=[(4,.bool (decide (w5 ≥ 0)))]) ?_;refine W.wk (e:=[(4,.bool (decide (w5 ≥ 0)))]) ?_;cases h;exact W.rr
def Qt (a1:Int) (c2:(List (qj×Bool))) (c3:Int):Option Bool :=
 (chk (wfI .i64 a1 && wfI .i64 c3) (some (mget qv false (qj.mk a1 c3) c2)))
theorem ZU (a1:Int) (c2:(List (qj×Bool))) (c3:Int) (r:Bool) (h:Qt a1 c2 c3=some r):Run Try.prog (.call 90 [I6 a1,.ptr (mpE qn AV.bool c2),.ptr (I6 c3)] (.bool r)):=by
 refine cW Try.func90 rfl (env0:=[(0,I6 a1),(1,.ptr (mpE qn AV.bool c2)),(2,.ptr (I6 c3))]) ?_;unfold Qt at h;refine W.seq ?_;let z0:=fun t=>EN ((0,I6 a1)::(1,.ptr (mpE qn AV.bool c2))::(2,.ptr (I6 c3))::t);refine W.rt (e2:=z0 []) ?_;refine W.sr ?_;obtain⟨hc6,h⟩:=qq h;refine WO.pk 4 ((alookup Try.prog 67 [] (mpE qn AV.bool c2) (.agg [I6 a1,I6 c3])).map AV.strip) (congrArg (Option.map AV.strip) (jK (F:=qn) (G:=AV.bool) (eq:=qv) (l:=c2) (k:=(qj.mk a1 c3)) (z:=false) (kt:=73) (e:=4) (YU hc6) (by kernel_rfl) (fun x=>by kernel_rfl) (fun x y=>by kernel_rfl) (by kernel_rfl))) (e1:=z0 [(5,mpE qn AV.bool c2),(6,I6 a1),(7,I6 c3),(8,.agg [I6 a1,I6 c3]),(9,.bool (mget qv false (qj.mk a1 c3) c2))]) ?_;let z1:=fun t=>EN ((4,.bool (mget qv false (qj.mk a1 c3) c2))::t);refine WO.fn (e2:=z1 []) ?_;refine W.wk (e:=z1 []) ?_;cases h;exact W.rr
def Ql (a1:Int) (c2:(List Int)) (c3:(List (qj×Bool))):Option Bool :=
 ((Qr c2 (fun y0=>Qt y0 c3 a1)).bind fun w6=>(some (!w6)))
theorem VL (a1:Int) (c2:(List Int)) (c3:(List (qj×Bool))) (r:Bool) (h:Ql a1 c2 c3=some r):Run Try.prog (.call 89 [I6 a1,.ptr (l3 none c2),.ptr (mpE qn AV.bool c3)] (.bool r)):=by
 refine cW Try.func89 rfl (env0:=[(0,I6 a1),(1,.ptr (l3 none c2)),(2,.ptr (mpE qn AV.bool c3))]) ?_;unfold Ql at h;refine W.seq ?_;let z0:=fun t=>EN ((1,.ptr (l3 none c2))::(2,.ptr (mpE qn AV.bool c3))::(3,.ptr (I6 a1))::t);refine W.rT [1,2,3] [3] (e2:=z0 []) ?_;refine W.sr ?_;obtain⟨w6,hw6,h⟩:=ql h;refine WO.ck 2 (F:=54) (l:=[l3 none c2,.clo 90 [.ptr (mpE qn AV.bool c3),.ptr (I6 a1)]]) (C:=[]) (r:=.bool w6) (ZS c2 (fun y0=>Qt y0 c3 a1) 90 [.ptr (mpE qn AV.bool c3),.ptr (I6 a1)] (by kernel_rfl) (fun y0 r h=>ZU y0 c3 a1 r h) w6 hw6) (e1:=z0 [(5,l3 none c2),(6,.clo 90 [.ptr (mpE qn AV.bool c3),.ptr (I6 a1)]),(7,.bool w6)]) ?_;refine WO.fn (e2:=[(4,.bool (!w6))]) ?_;refine W.wk (e:=[(4,.bool (!w6))]) ?_;cases h;exact W.rr
def YJ (a1:(List Int)) (n1:Nat) (a2 a3:Int):Option (Nat×(List Int)):=chk (decide (n1=a1.length∧a1.length≤4611686018427387904∧0≤a2∧a2.toNat<a1.length∧a3=a2+1)) (some (a1.length - 1,a1.take a2.toNat++a1.drop (a2.toNat+1)++[0]))
theorem Nf (a1:(List Int)) (n1:Nat) (a2 a3:Int) (r:(Nat×(List Int))) (h:YJ a1 n1 a2 a3=some r):Run Try.prog (.callM 91 [.sb 2000000 3 1 0 n1,I6 a2,I6 a3] [(2000000,.obj 3 1 (M6 a1))] (.sb 2000000 3 1 0 r.1) [(2000000,.obj 3 1 (M6 r.2))]):=by
 unfold YJ at h;obtain⟨hp,h⟩:=qq h;cases h;obtain⟨h1,h2,h3,h4,h5⟩:=of_decide_eq_true hp;subst h1;subst h5;obtain⟨i,rfl⟩:∃ i:Nat,a2=i:=⟨a2.toNat,by omega⟩;rw[Int.toNat_natCast]at h4 ⊢;exact .extM (delete1 h4 h2) (fun id x hx=>by simp only[look]at hx;split at hx <;> cases hx;rfl)
def JZ (v23:(List Int)):Option ((List Int)×Bool) :=
 (some (v23,true))
def jH (a1:(List (qj×Bool))) (K7:((List Int)→Option ((List Int)×Bool))):Nat→(List Int)→Nat→(List Int)→Option ((List Int)×Bool)
 | 0,_,_,_=>none
 | m1+1,v8,n9,v10=>(bif (decide (((n9:Nat):Int) > 0)) then ((QB (snap 0 n9 v8) (fun y0=>Ql y0 (snap 0 n9 v8) a1)).bind fun w14=>(bif (decide (w14<0)) then (some (([]:(List Int)),false)) else (chk (decide ((0:Int)≤w14∧w14<((n9:Nat):Int))) ((v8[(0+A3 w14)]?).bind fun e20=>(chk (capOk 8 ((v10++[e20])).length) ((YJ (snap 0 n9 v8) (((snap 0 n9 v8)).length) w14 (IntKind.wrap .i64 (w14+1))).bind fun w22=>((jH a1 K7 m1) w22.2 w22.1 (v10++[e20])))))))) else (K7 v10))
def QK (fuel:Nat) (a1:(List (qj×Bool))) (a2:(List Int)):Option ((List Int)×Bool) :=
 ((XI a2).bind fun w5=>(jH a1 (JZ) fuel w5 ((w5).length) ([]:(List Int))))
theorem Za (fuel:Nat) (a1:(List (qj×Bool))) (a2:(List Int)) (r:((List Int)×Bool)) (h:QK fuel a1 a2=some r):Run Try.prog (.call 50 [mpE qn AV.bool a1,l3 none a2] (.tup [l3 none r.1,.bool r.2])):=by
 refine cW Try.func50 rfl (env0:=[(0,mpE qn AV.bool a1),(1,l3 none a2)]) ?_;unfold QK at h;refine W.seq ?_;let z0:=fun t=>EN ((1,l3 none a2)::(2,.ptr (mpE qn AV.bool a1))::t);refine W.rT [1,2] [2] (e2:=z0 []) ?_;refine W.sr ?_;obtain⟨w5,hw5,h⟩:=ql h;let y0:Env:=[(1000010,.obj 3 1 (M6 w5))];refine WO.cm 1 [] [(1000010,1900000)] (F:=53) (args:=[l3 none a2]) (hp:=[]) (hp2:=[(1900000,.obj 3 1 (M6 w5))]) (r:=.sb 1900000 3 1 0 ((w5).length)) (VP a2 w5 hw5) (e1:=z0 ((9,l3 none a2)::(10,.sb 1000010 3 1 0 ((w5).length))::y0)) ?_;let z1:=fun t=>EN ((2,.ptr (mpE qn AV.bool a1))::t);let z2:=fun t=>z1 ((6,.bxg [.sb 1000010 3 1 0 ((w5).length)])::t);refine WO.fn (e2:=z2 y0) ?_;refine W.seq<|W.rt (e2:=z2 ((7,.nils)::y0)) ?_;refine W.seq<|W.join (σ:=((List Int))) (fun s=>[(7,l3 (some 10700) s)]) (fun s=>(JZ) s=some r) (fun v23 h=>?_) (fun hK7=>?_)
 ·unfold JZ at h;refine W.seq<|W.rt (e2:=[(4,l3 (some 10700) v23),(5,.bool true)]) ?_;refine W.wk (e:=[(4,l3 (some 10700) v23),(5,.bool true)]) ?_;cases h;exact W.rr
 refine W.block<|W.weak [2,6,7,1000010] [] [(7,0,3,1,10700)] [] (env':=z2 ((7,l3 (some 10700) ([]:(List Int)))::y0)) (by kernel_rfl)<|W.fuel (σ:=((List Int)×Nat×(List Int))) (fun s=>z1 [(6,.bxg [.sb 1000010 3 1 0 s.2.1]),(7,l3 (some 10700) s.2.2),(1000010,.obj 3 1 (M6 s.1))]) (fun m0 s=>jH a1 (JZ) m0 s.1 s.2.1 s.2.2=some r) (fun s h=>?_) (fun m1 s h hN1=>?_) fuel (w5,(w5).length,([]:(List Int))) h
 ·obtain⟨v8,n9,v10⟩:=s;have h:jH a1 (JZ) 0 v8 n9 v10=some r:=h;rw[jH.eq_1]at h;cases h
 ·obtain⟨v8,n9,v10⟩:=s;have h:jH a1 (JZ) (m1+1) v8 n9 v10=some r:=h;rw[jH.eq_2]at h;refine W.seq<|W.seq ?_;let y1:Env:=[(1000010,.obj 3 1 (M6 v8))];let z3:=fun t=>z1 ((6,.bxg [.sb 1000010 3 1 0 n9])::(7,l3 (some 10700) v10)::t);refine W.rt (e2:=z3 ((13,.bool (decide (((n9:Nat):Int) > 0)))::y1)) ?_;refine W.ch (decide (((n9:Nat):Int) > 0)) h (fun h=>?_) (fun h=>?_)
  ·refine W.sw (e:=z3 y1) ?_;refine W.block<|W.sr ?_;obtain⟨w14,hw14,h⟩:=ql h;refine WO.callRK 2 (F:=88) (l:=[.lst 3 1 none (snapA 0 n9 (M6 v8)),.clo 89 [.ptr (.lst 3 1 none (snapA 0 n9 (M6 v8))),.ptr (mpE qn AV.bool a1)]]) (C:=[]) (args:=[l3 none (snap 0 n9 v8),.clo 89 [.ptr (l3 none (snap 0 n9 v8)),.ptr (mpE qn AV.bool a1)]]) (r:=I6 w14) (by kernel_rfl) (by first | (simp only[Dx,qaQ,qcG,List.cons_append,List.nil_append];done) | (simp only[Dx,qaQ,qcG,List.cons_append,List.nil_append];kernel_rfl)) (by kernel_rfl) (by kernel_rfl) (YQ (snap 0 n9 v8) (fun y0=>Ql y0 (snap 0 n9 v8) a1) 89 [.ptr (l3 none (snap 0 n9 v8)),.ptr (mpE qn AV.bool a1)] (by kernel_rfl) (fun y0 r h=>VL y0 (snap 0 n9 v8) a1 r h) w14 hw14) (e1:=z3 ((14,.sb 1000010 3 1 0 n9)::(15,.clb 89 [.pb 6 0,.ptr (mpE qn AV.bool a1)])::(16,I6 w14)::y1)) (by kernel_rfl) ?_;let y2:Env:=(6,.bxg [.sb 1000010 3 1 0 n9])::(7,l3 (some 10700) v10)::(8,I6 w14)::y1;refine WO.fn (e2:=z1 y2) ?_;refine W.seq<|W.seq<|W.rt (e2:=z3 ((8,I6 w14)::(18,.bool (decide (w14<0)))::y1)) ?_;refine W.ch (decide (w14<0)) h (fun h=>?_) (fun h=>?_)
   ·refine W.seq<|W.rt (e2:=[(4,.nils),(5,.bool false)]) ?_;refine W.weak [4,5] [] [(4,0,3,1,70004)] [] (env':=[(4,l3 (some 70004) ([]:(List Int))),(5,.bool false)]) (by kernel_rfl) ?_;cases h;exact W.rr
   refine W.sw (e:=z1 y2) ?_;refine W.sr ?_;obtain⟨hc19,h⟩:=qq h;let z4:=fun t=>z3 ((8,I6 w14)::(19,l3 (some 10700) v10)::(20,.sb 1000010 3 1 0 n9)::(21,I6 w14)::(22,.pe 1000010 1 (0+A3 w14) 0)::t);refine WO.pi 3 (v:=.pe 1000010 1 (0+A3 w14) 0) hc19 (e1:=z4 y1) ?_;obtain⟨e20,he20,h⟩:=ql h;refine WO.pl 0 (v:=I6 e20) (AV.int .i64) 3 0 he20 (e1:=z4 ((23,I6 e20)::y1)) ?_;obtain⟨hc21,h⟩:=qq h;let z5:=fun t=>z1 ((6,.bxg [.sb 1000010 3 1 0 n9])::t);refine WO.appendK 1 (d:=25) (e:=3) (s:=1) (bytes:=8) (xs:=(M6 v10)) (ys:=(M6 [e20])) (zs:=(M6 (v10++[e20]))) (env1:=[(2,.ptr (mpE qn AV.bool a1)),(6,.bxg [.sb 1000010 3 1 0 n9]),(7,l3 none v10),(8,I6 w14),(19,l3 none v10),(20,.sb 1000010 3 1 0 n9),(21,I6 w14),(22,.pe 1000010 1 (0+A3 w14) 0),(23,I6 e20),(24,l3 (some 24) [e20]),(1000010,.obj 3 1 (M6 v8))]) (by kernel_rfl) (List.map_append.symm) (by rw[A4];exact hc21) (e1:=z5 ((7,l3 none v10)::(8,I6 w14)::(19,l3 none v10)::(20,.sb 1000010 3 1 0 n9)::(21,I6 w14)::(22,.pe 1000010 1 (0+A3 w14) 0)::(23,I6 e20)::(24,l3 (some 24) [e20])::(25,l3 (some 25) (v10++[e20]))::y1)) (by kernel_rfl) ?_;let z6:=fun t=>z5 ((7,l3 (some 25) (v10++[e20]))::(8,I6 w14)::t);refine WO.fn (e2:=z6 y1) ?_;refine W.rg<|WO.steps 4 (e1:=z6 ((26,.sb 1000010 3 1 0 n9)::(27,I6 w14)::(28,I6 w14)::(29,I6 (W6 (w14+1)))::y1)) (by kernel_rfl) ?_;let z7:=fun t=>z1 ((6,.bxg [.top])::(7,l3 (some 25) (v10++[e20]))::(8,I6 w14)::(26,.sb 1000010 3 1 0 (((snap 0 n9 v8)).length))::(27,I6 w14)::(28,I6 w14)::(29,I6 (W6 (w14+1)))::t);refine WO.mv [.trim 26 1000010] (env':=z7 [(1000010,.obj 3 1 (M6 (snap 0 n9 v8)))]) ((by kernel_rfl:mvAll [(2,.ptr (mpE qn AV.bool a1)),(6,.bxg [.sb 1000010 3 1 0 n9]),(7,l3 (some 25) (v10++[e20])),(8,I6 w14),(26,.sb 1000010 3 1 0 n9),(27,I6 w14),(28,I6 w14),(29,I6 (W6 (w14+1))),(1000010,.obj 3 1 (M6 v8))] [.trim 26 1000010]=[(2,.ptr (mpE qn AV.bool a1)),(6,.bxg [.top]),(7,l3 (some 25) (v10++[e20])),(8,I6 w14),(26,.sb 1000010 3 1 0 (snapA 0 n9 (M6 v8)).length),(27,I6 w14),(28,I6 w14),(29,I6 (W6 (w14+1))),(1000010,.obj 3 1 (snapA 0 n9 (M6 v8)))]).trans (by simp only[Dx,A4] <;> rfl)) ?_;obtain⟨w22,hw22,h⟩:=ql h;refine WO.cm 0 [(1000010,2000000)] [] (F:=91) (args:=[.sb 2000000 3 1 0 (((snap 0 n9 v8)).length),I6 w14,I6 (W6 (w14+1))]) (hp:=[(2000000,.obj 3 1 (M6 (snap 0 n9 v8)))]) (hp2:=[(2000000,.obj 3 1 (M6 w22.2))]) (r:=.sb 2000000 3 1 0 w22.1) (Nf (snap 0 n9 v8) (((snap 0 n9 v8)).length) w14 (W6 (w14+1)) w22 hw22) (e1:=z7 [(30,.sb 1000010 3 1 0 w22.1),(1000010,.obj 3 1 (M6 w22.2))])<|WO.fin [2,6,7,1000010] [] [] [(25,some 10700)] (e2:=z1 [(6,.bxg [.sb 1000010 3 1 0 w22.1]),(7,l3 (some 10700) (v10++[e20])),(1000010,.obj 3 1 (M6 w22.2))]) (by kernel_rfl) (fun _ h=>h) ?_;exact hN1 (w22.2,w22.1,(v10++[e20])) h
  refine W.exit<|W.wk (e:=[(7,l3 (some 10700) v10)]) ?_;exact hK7 v10 h
def YX (fuel:Nat) (a1:(List hsOp)):Option ((List Int)×Int) :=
 ((XF a1).bind fun w5=>(bif (!w5) then (some (([]:(List Int)),2)) else ((QM fuel a1).bind fun w8=>((Qk w8).bind fun w9=>((Jm fuel a1).bind fun w10=>((QK fuel w9 w10).bind fun w11=>(bif (!w11.2) then (some (([]:(List Int)),8)) else (some (w11.1,0)))))))))
theorem Ni (fuel:Nat) (a1:(List hsOp)) (r:((List Int)×Int)) (h:YX fuel a1=some r):Run Try.prog (.call 17 [l44 none a1] (.tup [l3 none r.1,I6 r.2])):=by
 refine cW Try.func17 rfl (env0:=[(0,l44 none a1)]) ?_;unfold YX at h;refine W.seq ?_;let z0:=fun t=>EN ((0,l44 none a1)::t);refine W.rt (e2:=z0 []) ?_;refine W.seq<|W.sr ?_;obtain⟨w5,hw5,h⟩:=ql h;refine WO.ck 1 (F:=26) (l:=[l44 none a1]) (C:=[]) (r:=.bool w5) (Yh a1 w5 hw5) (e1:=z0 [(6,l44 none a1),(7,.bool w5)])<|WO.fn (e2:=z0 [(8,.bool (!w5))]) ?_;refine W.ch (!w5) h (fun h=>?_) (fun h=>?_)
 ·refine W.seq<|W.rt (e2:=[(2,.nils),(3,.int .i64 2)]) ?_;refine W.weak [2,3] [] [(2,0,3,1,70002)] [] (env':=[(2,l3 (some 70002) ([]:(List Int))),(3,.int .i64 2)]) (by kernel_rfl) ?_;cases h;exact W.rr
 refine W.sw (e:=z0 []) ?_;refine W.sr ?_;obtain⟨w8,hw8,h⟩:=ql h;let z1:=fun t=>z0 ((10,l44 none a1)::(11,l44 (some 11) w8)::t);refine WO.ck 1 (F:=48) (l:=[l44 none a1]) (C:=[]) (r:=l44 (some 1) w8) (Uy fuel a1 w8 hw8) (e1:=z1 []) ?_;obtain⟨w9,hw9,h⟩:=ql h;let z2:=fun t=>z1 ((12,mpE qn AV.bool w9)::t);refine WO.ck 0 (F:=49) (l:=[l44 none w8]) (C:=[]) (r:=mpE qn AV.bool w9) (ZM w8 w9 hw9) (e1:=z2 []) ?_;obtain⟨w10,hw10,h⟩:=ql h;let z3:=fun t=>z2 ((13,l44 none a1)::(14,l3 none w10)::t);refine WO.ck 1 (F:=51) (l:=[l44 none a1]) (C:=[]) (r:=l3 none w10) (QW fuel a1 w10 hw10) (e1:=z3 []) ?_;obtain⟨w11,hw11,h⟩:=ql h;refine WO.ck 0 (F:=50) (l:=[mpE qn AV.bool w9,l3 none w10]) (C:=[]) (r:=.tup [l3 none w11.1,.bool w11.2]) (Za fuel w9 w10 w11 hw11) (e1:=z3 [(15,.tup [l3 none w11.1,.bool w11.2])])<|WO.fn (e2:=[(4,l3 none w11.1),(5,.bool w11.2)]) ?_;refine W.seq<|W.seq<|W.rt (e2:=[(4,l3 none w11.1),(19,.bool (!w11.2))]) ?_;refine W.ch (!w11.2) h (fun h=>?_) (fun h=>?_)
 ·refine W.seq<|W.rt (e2:=[(2,.nils),(3,.int .i64 8)]) ?_;refine W.weak [2,3] [] [(2,0,3,1,70002)] [] (env':=[(2,l3 (some 70002) ([]:(List Int))),(3,.int .i64 8)]) (by kernel_rfl) ?_;cases h;exact W.rr
 refine W.sw (e:=[(4,l3 none w11.1)]) ?_;refine W.seq<|W.rt (e2:=[(2,l3 none w11.1),(3,.int .i64 0)]) ?_;refine W.wk (e:=[(2,l3 none w11.1),(3,.int .i64 0)]) ?_;cases h;exact W.rr
def XT:Option Bool :=
 (some true)
def Xp (a2:(List Int)) (K7:(Option Bool)):List Int→Nat→Option Bool
 | [],k1=>K7
 | x1::r1,k1=>((idx a2 (k1:Int)).bind fun e12=>(bif (x1 != e12) then (some false) else (Xp a2 K7 r1 (k1+1))))
def Vm (a1:(List Int)) (a2:(List Int)):Option Bool :=
 (bif ((a1.length:Int) != (a2.length:Int)) then (some false) else (chk (lenOk a1) (Xp a2 (XT) a1 0)))
theorem NV (a1:(List Int)) (a2:(List Int)) (r:Bool) (h:Vm a1 a2=some r):Run Try.prog (.call 24 [l3 none a1,l3 none a2] (.bool r)):=by
 refine cW Try.func24 rfl (env0:=[(0,l3 none a1),(1,l3 none a2)]) ?_;unfold Vm at h;refine W.seq ?_;let z0:=fun t=>EN ((0,l3 none a1)::(1,l3 none a2)::t);refine W.rt (e2:=z0 []) ?_;refine W.seq<|W.sr ?_;let z1:=fun t=>z0 ((6,l3 none a1)::(7,I6 (a1.length:Int))::t);refine WO.pq 1 (jM (.int .i64) a1) (e1:=z1 [])<|WO.pq 1 (jM (.int .i64) a2) (e1:=z1 [(8,l3 none a2),(9,I6 (a2.length:Int))])<|WO.fn (e2:=z0 [(10,.bool ((a1.length:Int) != (a2.length:Int)))]) ?_;refine W.ch ((a1.length:Int) != (a2.length:Int)) h (fun h=>?_) (fun h=>?_)
 ·refine W.seq<|W.rt (e2:=[(4,.bool false)]) ?_;refine W.wk (e:=[(4,.bool false)]) ?_;cases h;exact W.rr
 refine W.sw (e:=z0 []) ?_;refine W.seq<|W.join (σ:=Unit) (fun s=>[]) (fun s=>(XT)=some r) (fun s h=>?_) (fun hK7=>?_)
 ·unfold XT at h;refine W.seq<|W.rt (e2:=[(4,.bool true)]) ?_;refine W.wk (e:=[(4,.bool true)]) ?_;cases h;exact W.rr
 refine W.sr<|WO.pq 1 (jM (.int .i64) a1) (e1:=z0 [(11,l3 none a1),(12,I6 (a1.length:Int))]) ?_;let z2:=fun t=>z0 ((12,I6 (a1.length:Int))::t);refine WO.fn (e2:=z2 [(13,.int .i64 0)]) ?_;refine W.block ?_;obtain⟨hl1,h⟩:=qq h;refine W.wk (e:=z2 [(13,I6 ((0:Nat):Int))])<|W.range (σ:=Unit) a1 (fun k1 s=>z2 [(13,I6 (k1:Int))]) (fun r0 k0 s=>Xp a2 (XT) r0 k0=some r) (fun s h=>?_) (fun x1 r1 k1 s hx1 hk1 h hN1=>?_) () h
 ·rw[Xp.eq_1]at h;refine W.sr ?_;let y0:Env:=[(1,l3 none a2),(12,I6 (a1.length:Int)),(13,I6 ((a1).length:Int)),(14,.bool false)];refine WO.pq 0 (jB (jj (l:=a1))) (e1:=((0,l3 none a1)::y0))<|WO.fn (e2:=((0,l3 none a1)::y0)) ?_;refine W.seq<|W.cF<|W.exit<|W.wk (e:=[]) ?_;exact hK7 () h
 ·rw[Xp.eq_2]at h;refine W.sr ?_;let y1:Env:=[(1,l3 none a2),(12,I6 (a1.length:Int)),(13,I6 (k1:Int)),(14,.bool true)];let z3:=fun t=>EN ((0,l3 none a1)::t);refine WO.pq 0 (jB (jD hk1)) (e1:=z3 y1)<|WO.fn (e2:=z3 y1) ?_;refine W.seq<|W.cT<|W.skip ?_;let y2:Env:=[(12,I6 (a1.length:Int)),(13,I6 (k1:Int))];refine W.wk (e:=z0 y2)<|W.seq<|W.block<|W.seq ?_;let z4:=fun t=>z0 ((5,I6 (k1:Int))::t);refine W.rt (e2:=z4 y2) ?_;refine W.sr ?_;let z5:=fun t=>z4 ((12,I6 (a1.length:Int))::(13,I6 (k1:Int))::(16,l3 none a1)::(17,I6 (k1:Int))::(18,.ptr (I6 x1))::t);refine WO.pq 2 (jE (f:=(AV.int .i64)) hx1) (e1:=z5 []) ?_;obtain⟨e12,he12,h⟩:=ql h;refine WO.pq 3 (UR (f:=(AV.int .i64)) he12) (e1:=z5 [(19,I6 x1),(20,l3 none a2),(21,I6 (k1:Int)),(22,.ptr (I6 e12))])<|WO.fn (e2:=z2 [(13,I6 (k1:Int)),(24,.bool (x1 != e12))]) ?_;refine W.ch (x1 != e12) h (fun h=>?_) (fun h=>?_)
  ·refine W.seq<|W.rt (e2:=[(4,.bool false)]) ?_;refine W.wk (e:=[(4,.bool false)]) ?_;cases h;exact W.rr
  refine W.sw (e:=z0 y2) ?_;refine W.rg<|WO.pq 0 (jI (qS hl1 hk1)) (e1:=z2 [(13,I6 (k1:Int)),(25,I6 ((k1+1:Nat):Int))])<|WO.fn (e2:=z2 [(13,I6 ((k1+1:Nat):Int))]) ?_;exact hN1 () h
def Ze (v6:Bool):Option Bool :=
 (some v6)
def Zk (fuel:Nat):Option Bool :=
 ((YX fuel [(hsOp.mk 2 1 0),(hsOp.mk 1 0 0),(hsOp.mk 1 2 0),(hsOp.mk 2 2 0)]).bind fun w3=>(bif (w3.2 == 0) then ((Vm w3.1 [2,1]).bind fun w5=>((Ze) w5)) else ((Ze) false)))
theorem UC (fuel:Nat)  (r:Bool) (h:Zk fuel=some r):Run Try.prog (.call 21 [] (.bool r)):=by
 refine cW Try.func21 rfl (env0:=[]) ?_;unfold Zk at h;refine W.seq<|W.rt (e2:=[]) ?_;refine W.sr ?_;obtain⟨w3,hw3,h⟩:=ql h;refine WO.ck 5 (F:=17) (l:=[l44 none [(hsOp.mk 2 1 0),(hsOp.mk 1 0 0),(hsOp.mk 1 2 0),(hsOp.mk 2 2 0)]]) (C:=[]) (r:=.tup [l3 none w3.1,I6 w3.2]) (Ni fuel [(hsOp.mk 2 1 0),(hsOp.mk 1 0 0),(hsOp.mk 1 2 0),(hsOp.mk 2 2 0)] w3 hw3) (e1:=[(4,.agg [.int .i64 2,.int .i64 1,.int .i64 0]),(5,.agg [.int .i64 1,.int .i64 0,.int .i64 0]),(6,.agg [.int .i64 1,.int .i64 2,.int .i64 0]),(7,.agg [.int .i64 2,.int .i64 2,.int .i64 0]),(8,l44 (some 8) [(hsOp.mk 2 1 0),(hsOp.mk 1 0 0),(hsOp.mk 1 2 0),(hsOp.mk 2 2 0)]),(9,.tup [l3 none w3.1,I6 w3.2])]) ?_;let z0:=fun t=>EN ((1,l3 none w3.1)::(2,I6 w3.2)::t);refine WO.fn (e2:=z0 []) ?_;refine W.seq<|W.join (σ:=(Bool)) (fun s=>[(0,.bool s)]) (fun s=>(Ze) s=some r) (fun v6 h=>?_) (fun hK4=>?_)
 ·unfold Ze at h;refine W.wk (e:=[(0,.bool v6)]) ?_;cases h;exact W.rr
 refine W.rg<|WO.bh 3 (fun b=>z0 [(12,I6 w3.2),(13,.bool b),(14,.bool b)]) (w3.2 == 0) h (fun h=>?_) (fun h=>?_)
 ·obtain⟨w5,hw5,h⟩:=ql h;refine WO.ck 2 (F:=24) (l:=[l3 none w3.1,l3 none [2,1]]) (C:=[]) (r:=.bool w5) (NV w3.1 [2,1] w5 hw5) (e1:=z0 [(12,I6 w3.2),(13,.bool true),(14,.bool true),(15,l3 none w3.1),(16,l3 (some 16) [2,1]),(17,.bool w5)])<|WO.fn (e2:=[(0,.bool w5)]) ?_;exact hK4 w5 h
 refine WO.fn (e2:=[(0,.bool false)]) ?_;exact hK4 false h
end Go.AM
namespace Go.AM
open Go.RowKit Go.Proofs
theorem glob0 (M:Mem):Glob M:=fun g hg=>by cases hg
theorem Cons.below {M:Mem} {w w':World} (h:Cons M w) (hB:Below w.heap.size w w'):Cons M w':=qae h hB
theorem Cons.of_blocks {M:Mem} {w w':World} (h:Cons M w) (hb:∀ b o u,M b o=some u→b<w.heap.size→w'.heap[b]? = w.heap[b]?):Cons M w':=fun b o u hu=>by
 have h1:=h b o u hu;rw[Xq (hb b o u hu (VE h1))];exact h1
theorem Cons.alloc {M:Mem} {w:World} (h:Cons M w) (o:Obj):Cons M (w.alloc o):=h.of_blocks fun b _ _ _ hb=>heap_alloc_old w o hb
theorem Cons.setCell {M:Mem} {w:World} (h:Cons M w) {a:Addr} (ha:∀ o,M a.block o=none) (v:Value):Cons M (w.setCell a v) :=
 h.of_blocks fun b o u hu hb=>Below.heap_setCell w a v b fun e=>by rw[e,ha]at hu;cases hu
theorem qbt (l:List Int):flat (cL l)=cL l:=UT l .i64
theorem qfY {M:Mem} {l:List Int} {v:Value} (h:R M (.lst 3 1 none (cL l)) v):∃ a cap,v=.slice a l.length cap∧∀ j (hj:j<l.length),∃ b off,a=some ⟨b,off,none⟩∧M b (off+j)=some (.int .i64 l[j]):=by
 generalize hx:cL l=xs at h
 cases h with
 | lstn =>
  have:l=[]:=by simpa[cL] using hx
  subst this;exact⟨none,0,rfl,fun j hj=>absurd hj (by simp)⟩
 | lste _ _ _ ad cap =>
  have:l=[]:=by simpa[cL] using hx
  subst this;exact⟨some ad,cap,rfl,fun j hj=>absurd hj (by simp)⟩
 | lst us h1 h2 h5 h3 h4 =>
  subst hx;rename_i b off cap;refine⟨some ⟨b,off,none⟩,cap,by simp[cL],fun j hj=>⟨b,off,rfl,?_⟩⟩
  have hf:(flat (cL l))[j]? = some (.int .i64 l[j]):=by rw[qbt];simp[cL,hj]
  rw[h3 j _ hf,(h4 j _ hf).int_inv]
theorem qff {M:Mem} {c:List Int} {g off cap:Nat} (hcap:c.length≤cap) (hM:∀ j (hj:j<c.length),M g (off+j)=some (.int .i64 c[j])):R M (.lst 3 1 none (cL c)) (.slice (some ⟨g,off,none⟩) c.length cap):=by
 have hl:(cL c).length=c.length:=by simp[cL]
 have hf:∀ (j:Nat) x,(flat (cL c))[j]? = some x→∃ h:j<c.length,x=.int .i64 c[j]:=by
  intro j x hx;rw[qbt]at hx;have hj:=(List.getElem?_eq_some_iff.1 hx).1;rw[hl]at hj;refine⟨hj,?_⟩
  simpa[cL,hj] using hx.symm
 rw[← hl];refine .lst (fun j=>.int .i64 (c.getD j 0)) (by rw[hl];exact hcap) (fun x hx=>?_) (fun x hx=>?_) (fun j x hx=>?_) (fun j x hx=>?_)
 ·obtain⟨z,_,rfl⟩:=List.mem_map.1 hx;rfl
 ·obtain⟨z,_,rfl⟩:=List.mem_map.1 hx;rfl
 ·obtain⟨hj,rfl⟩:=hf j x hx;rw[hM j hj,C4,B7 hj];rfl
 ·obtain⟨hj,rfl⟩:=hf j x hx;rw[C4,B7 hj];exact .int _ _
abbrev intsV (l:List Int):List Value:=l.map (Value.int .i64)
theorem DB {f:Nat} {args:List AV} {r:AV} (h:Run Try.prog (.call f args r)):CallOk Try.prog f args r:=Uj mixedP h
theorem qcw {w w':World} (h:Below w.heap.size w w'):w.grownBy w' none:=⟨h.os,h.tape,h.output,h.size,fun k hk _=>h.block k hk⟩
def madd (M:Mem) (b:Nat) (v:Value):Mem:=fun b' o=>if b'=b∧o=0 then some v else M b' o
theorem qhH (M:Mem) (b:Nat) (v:Value):madd M b v b 0=some v:=by simp[madd]
theorem qep {M:Mem} {b b' o:Nat} {v:Value} (h:b'≠b):madd M b v b' o=M b' o:=by simp[madd,h]
theorem qgV {M:Mem} {w:World} {b:Nat} {v:Value} (hC:Cons M w) (h:w.heap.size≤b):Sub M (madd M b v):=fun b' o u hu=>by
 have:=VE (hC _ _ _ hu);rw[qep (by omega)];exact hu
theorem qfV {M:Mem} {w:World} {b:Nat} {v:Value} {t:TypeId} {fz:Nat×Nat} {cs:Array Value} (hC:Cons M w) (h:w.heap[b]? = some (.cells cs t fz)) (hv:cs[0]? = some v) (ht:isTup v=false):Cons (madd M b v) w:=fun b' o u hu=>by
 unfold madd at hu;split at hu
 ·rename_i e;obtain⟨rfl,rfl⟩:=e;cases hu;unfold mc;rw[h];exact JQ hv ht
 ·exact hC _ _ _ hu
end Go.AM
namespace Go.AM
open Go.RowKit Go.Proofs
open Go.ChangeMaps (setBlock)
variable {K V:Type} {F:K→AV} {G:V→AV} {eq:K→K→Bool}
def MapAt (M:Mem) (w:World) (g:Nat) (F:K→AV) (G:V→AV) (l:List (K×V)):Prop :=
 ∃ es clock,w.heap[g]? = some (.map es clock)∧EntOk M es clock (l.map fun p=>F p.1) (l.map fun p=>G p.2)
theorem MapAt.mono {M M':Mem} {w:World} {g:Nat} {l:List (K×V)} (h:MapAt M w g F G l) (hs:Sub M M'):MapAt M' w g F G l:=by
 obtain⟨es,clock,h1,h2⟩:=h;exact⟨es,clock,h1,h2.mono hs⟩
theorem MapAt.of {M:Mem} {w w':World} {g:Nat} {l:List (K×V)} (h:MapAt M w g F G l) (hb:w'.heap[g]? = w.heap[g]?):MapAt M w' g F G l:=by
 obtain⟨es,clock,h1,h2⟩:=h;exact⟨es,clock,hb.trans h1,h2⟩
theorem MapAt.lt {M:Mem} {w:World} {g:Nat} {l:List (K×V)} (h:MapAt M w g F G l):g<w.heap.size:=by
 obtain⟨es,clock,h1,_⟩:=h;exact (Array.getElem?_eq_some_iff.1 h1).1
theorem MapAt.empty {M:Mem} {w:World} {g:Nat} (h:w.heap[g]? = some (.map #[] 0)):MapAt M w g F G []:=⟨#[],0,h,(MapKept.stamped_iff _ _).2 ⟨by simp,by simp,by simp⟩,Nat.zero_le _,rfl,rfl,fun j k e hk=>by simp at hk,fun j k e hk=>by simp at hk⟩
theorem Try.lookup_own {M:Mem} {w:World} {t kt e:TypeId} {g:Nat} {l:List (K×V)} (h:MapAt M w g F G l) (ht:Xe Try.prog t=some (kt,e)) (hf:∀ x,keyFits Try.prog kt (F x)=true) (he:∀ x y,akeq (F x) (F y)=eq x y) {z:V} (hz:zeroA1 Try.prog e=some (G z)) {k:K} {kv:Value} (hkv:(F k).keyV=some kv) :
  ∃ v,(Instr.lookup t (.map (some g)) kv false).run Try.prog w=.ok v w∧R M (G (mget eq z k l)) v:=by
 obtain⟨es,clock,hb,E⟩:=h;have ht':=Qy ht;obtain⟨hck,hst,hfd⟩:=Xm (w:=w) (hf k) hkv (Vd hf l) E;obtain⟨h2,h3,h4,h5,h6,h7⟩:=E
 rcases hfd with ⟨k1,k2,k3⟩ | ⟨j,e0,k1,k2,k3,k4⟩
 ·rcases Us (G:=G) he z k l with ⟨j,g1,g2⟩ | ⟨g1,g2⟩
  ·rw[k1]at g1;cases g1
  ·obtain⟨v,z1,z2⟩:=Vi (M:=M) (O:=⟨fun _ _=>none,fun _=>0,fun _=>0⟩) (w:=w) hz;rw[g2];refine⟨v,?_,z2⟩;simp[Instr.lookup,run_underlying ht',A1 hb,hck,k2,z1,A2]
 ·rcases Us (G:=G) he z k l with ⟨i,g1,g2⟩ | ⟨g1,g2⟩
  ·rw[k1]at g1;cases g1;refine⟨e0.val,?_,h7 j _ e0 g2 (by simpa using k3)⟩;simp[Instr.lookup,run_underlying ht',A1 hb,hck,k2,A2]
  ·rw[k1]at g1;cases g1
theorem Try.update_own {M:Mem} {es:Array MapEntry} {clock:Nat} {t kt e:TypeId} {l:List (K×V)} (E:EntOk M es clock (l.map fun p=>F p.1) (l.map fun p=>G p.2)) (ht:Xe Try.prog t=some (kt,e)) (hf:∀ x,keyFits Try.prog kt (F x)=true) (he:∀ x y,akeq (F x) (F y)=eq x y) {k:K} {v:V} {kv vv:Value} (hkv:(F k).keyV=some kv) (hvv:R M (G v) vv) (hl:l.length<1000000000) :
  ∃ es' clock',EntOk M es' clock' ((mset eq k v l).map fun p=>F p.1) ((mset eq k v l).map fun p=>G p.2)∧∀ (w:World) (g:Nat),w.heap[g]? = some (.map es clock)→(Instr.mapUpdate t (.map (some g)) kv vv).run Try.prog w=.ok () (setBlock w g (.map es' clock')):=by
 have ht':=Qy ht
 have fnd:=fun w=>Xm (P:=Try.prog) (w:=w) (hf k) hkv (Vd hf l) E
 obtain⟨E1,E2,E3,E4,E5,E6⟩:=E;have w0:World:=(default:World);obtain⟨_,_,hfd⟩:=fnd w0
 rcases hfd with ⟨f1,_,f3⟩ | ⟨j,e0,f1,_,f3,f4⟩
 ·rcases Ve (G:=G) he k v l with ⟨i,g1,_⟩ | ⟨g1,g2,g3⟩
  ·rw[f1]at g1;cases g1
  ·rw[g2,g3];refine⟨es.push ⟨kv,vv,clock⟩,clock+1,⟨C5 E1 f3,by simp[maxLen];simp at E3;omega,by simp at E3 ⊢;exact E3,by simp at E4 ⊢;exact E4,fun j k' e' hk' he'=>?_,fun j v' e' hv' he'=>?_⟩,fun w g hb=>?_⟩
   ·rw[A5]at he';split at he'
    ·rename_i hj;cases he';rw[hj,← E3]at hk';simp only[A7,Option.some.injEq]at hk';subst hk';exact hkv
    ·rename_i hj
     have hjl:j<(l.map fun p=>F p.1).length:=by
      have:=(Array.getElem?_eq_some_iff.1 he').1;omega
     rw[A8 hjl]at hk';exact E5 j k' e' hk' he'
   ·rw[A5]at he';split at he'
    ·rename_i hj;cases he';rw[hj,← E4]at hv';simp only[A7,Option.some.injEq]at hv';subst hv';exact hvv
    ·rename_i hj
     have hjl:j<(l.map fun p=>G p.2).length:=by
      have:=(Array.getElem?_eq_some_iff.1 he').1;omega
     rw[A8 hjl]at hv';exact E6 j v' e' hv' he'
   ·obtain⟨hck,hst,hfd⟩:=fnd w
    rcases hfd with ⟨_,f2,_⟩ | ⟨j,e0,q1,_⟩
    ·simp[Instr.mapUpdate,run_underlying ht',A1 hb,hck,f2,A9 _ hb,A2,setBlock]
    ·rw[f1]at q1;cases q1
 ·rcases Ve (G:=G) he k v l with ⟨i,g1,g2,g3⟩ | ⟨g1,_⟩
  ·rw[f1]at g1;cases g1;rw[g2,g3]
   have hj:es[j]? = some e0:=by simpa using f3
   have hjs:j<es.size:=(Array.getElem?_eq_some_iff.1 hj).1
   have hkeyf:∀ e',es[j]? = some e'→({ e' with key:=kv,val:=vv }:MapEntry).key=e'.key:=fun e' he'=>by rw[hj]at he';cases he';exact f4.symm
   refine⟨es.modify j (fun e'=>{ e' with key:=kv,val:=vv }),clock,⟨C6 E1 _ _ (fun _ _=>rfl) (fun e' _ he'=>hkeyf e' he'),by simpa using E2,by simpa using E3,by simpa using E4,fun i k' e' hk' he'=>?_,fun i v' e' hv' he'=>?_⟩,fun w g hb=>?_⟩
   ·rw[A6]at he';split at he'
    ·rename_i hij;subst hij;rw[hj]at he';cases he';show k'.keyV=some kv;rw[← f4];exact E5 j k' e0 hk' hj
    ·exact E5 i k' e' hk' he'
   ·rw[A6]at he';split at he'
    ·rename_i hij;subst hij;rw[hj]at he';cases he';rw[List.getElem?_set_self (by omega)]at hv';cases hv';exact hvv
    ·rename_i hij;rw[List.getElem?_set_ne hij]at hv';exact E6 i v' e' hv' he'
   ·obtain⟨hck,hst,hfd⟩:=fnd w
    rcases hfd with ⟨q1,_⟩ | ⟨j',e',q1,f2,q3,q4⟩
    ·rw[f1]at q1;cases q1
    ·rw[f1]at q1;cases q1;simp[Instr.mapUpdate,run_underlying ht',A1 hb,hck,f2,hj,f4,hst,A9 _ hb,A2,setBlock]
  ·rw[f1]at g1;cases g1
def maddM (M:Mem) (g:Nat) (es:Array MapEntry) (clock:Nat):Mem:=fun b o=>if b=g∧o=0 then some (mapCell es clock) else M b o
theorem qeq {M:Mem} {w:World} {g:Nat} {es:Array MapEntry} {clock:Nat} (hC:Cons M w) (h:w.heap[g]? = some (.map es clock)):Cons (maddM M g es clock) w:=fun b o u hu=>by
 unfold maddM at hu;split at hu
 ·rename_i e;obtain⟨rfl,rfl⟩:=e;cases hu;exact Uo h
 ·exact hC _ _ _ hu
theorem Hr {M:Mem} {g b o:Nat} {es:Array MapEntry} {clock:Nat} (h:b≠g):maddM M g es clock b o=M b o:=by simp[maddM,h]
theorem qhI {M:Mem} {g:Nat} {es:Array MapEntry} {clock:Nat} {l:List (K×V)} (hs:Sub M (maddM M g es clock)) (E:EntOk M es clock (l.map fun p=>F p.1) (l.map fun p=>G p.2)):R (maddM M g es clock) (mpE F G l) (.map (some g)):=by
 obtain⟨h2,h3,h4,h5,h6,h7⟩:=E
 exact .mpv (by simp[maddM]) h2 h3 h4 h5 h6 fun j v e hv he=>(h7 j v e hv he).mono hs
theorem Qh {w:World} {g:Nat} {o o':Obj} (h:w.heap[g]? = some o):(setBlock w g o').heap[g]? = some o':=by
 have:=(Array.getElem?_eq_some_iff.1 h).1;unfold setBlock;simp[this]
theorem Jx {w:World} {g k:Nat} {o':Obj} (h:k≠g):(setBlock w g o').heap[k]? = w.heap[k]?:=by
 unfold setBlock;simp[Array.getElem?_setIfInBounds,Ne.symm h]
theorem QV {w:World} {g:Nat} {o':Obj}:(setBlock w g o').heap.size=w.heap.size:=by
 unfold setBlock;simp
def qbK (M:Mem) (w:World) (r:AV) (e:Ending) (w':World):Prop:=∃ v M',e=.returned v∧Below w.heap.size w w'∧Sub M M'∧Cons M' w'∧(∀ b o,b<w.heap.size→M' b o=M b o)∧R M' r v∧OwnR M' w.heap.size w' r v
end Go.AM
namespace Go.AM
theorem HF (t:Int):∀ (l:List Int) (k:Nat),∃ r:Int,JS t Xo l k=some r∧(decide (r ≥ 0)=l.contains t)
 | [],k=>⟨-1,by rw[JS.eq_1];rfl,rfl⟩
 | x::l,k=>by
  obtain⟨r,h1,h2⟩:=HF t l (k+1);rw[JS.eq_2];by_cases h:t=x
  ·subst h;refine⟨(k:Int),by simp,?_⟩;simp
  ·refine⟨r,?_,?_⟩
   ·rw[beq_eq_false_iff_ne.2 h,cN,h1]
   ·rw[h2,List.contains_cons];simp[h]
theorem VB {l:List Int} (hl:l.length≤100000) (t:Int):QI l t=some (l.contains t):=by
 unfold QI Zc;obtain⟨r,h1,h2⟩:=HF t l 0;have:lenOk l=true:=Nat.ble_eq_true_of_le (by omega);rw[this];simp only[chk,cT];rw[h1,← h2];rfl
end Go.AM
namespace Go.Proofs
open Go.RowKit Go.AM
theorem Try.infoInt:(Try.prog.info? 3).map (fun i=>(i.zero,i.size,i.bytes))=some (some (.int .i64 0),1,8):=by kernel_rfl
end Go.Proofs
namespace Go.Proofs
open Go.RowKit Go.AM
structure GP (base:Nat) (w:World) (bf:Nat) (vc:Value) (c:List Int) (w':World):Prop where
 os:w'.os=w.os
 tape:w'.tape=w.tape
 output:w'.output=w.output
 size:w.heap.size≤w'.heap.size
 block:∀ k,k<w.heap.size→k≠bf→some k≠vc.ownBlock→w'.heap[k]? = w.heap[k]?
 own:w'.ownsRow base 3 1 vc c.length (intsV c)
 box:∃ fv,w'.heap[bf]? = some (.cells #[fv] 24 (0,0))
theorem qgl {w:World} {base bf:Nat} {fv vc:Value} {c:List Int} (hb:w.heap[bf]? = some (.cells #[fv] 24 (0,0))) (ho:w.ownsRow base 3 1 vc c.length (intsV c)):some bf≠vc.ownBlock:=by
 rcases ho.2 with ⟨rfl,_⟩ | ⟨g,cap,cur,rfl,_,hg,_⟩
 ·intro e;cases e
 ·intro e;simp only[Value.ownBlock,Option.some.injEq]at e;subst e;rw[hb]at hg;simp at hg
section
variable {base:Nat} {w w1 w2:World} {bf:Nat} {vc:Value} {c:List Int}
theorem GP.refl {fv:Value} (ho:w.ownsRow base 3 1 vc c.length (intsV c)) (hb:w.heap[bf]? = some (.cells #[fv] 24 (0,0))):GP base w bf vc c w:=⟨rfl,rfl,rfl,Nat.le_refl _,fun _ _ _ _=>rfl,ho,fv,hb⟩
theorem GP.below (h:GP base w bf vc c w1) (hB:Below w1.heap.size w1 w2):GP base w bf vc c w2:=by
 obtain⟨fv,hf⟩:=h.box;refine⟨hB.os.trans h.os,hB.tape.trans h.tape,hB.output.trans h.output,Nat.le_trans h.size hB.size,fun k hk h1 h2=>?_,World.ownsRow.kept h.own (qcw hB) ?_,fv,?_⟩
 ·have:=h.size;rw[hB.block k (by omega),h.block k hk h1 h2]
 ·cases vc.ownBlock with
  | none=>exact .inl rfl
  | some k=>exact .inr (by intro e;cases e)
 ·rw[hB.block bf (lt_of_block hf)];exact hf
theorem GP.alloc (h:GP base w bf vc c w1) (o:Obj):GP base w bf vc c (w1.alloc o):=h.below ((Below.refl _ _).alloc (Nat.le_refl _) o)
theorem GP.drew (h:GP base w bf vc c w1):GP base w bf vc c w1.drew:=h.below ⟨rfl,rfl,rfl,Nat.le_refl _,fun _ _=>rfl⟩
theorem GP.trans (h:GP base w bf vc c w1) (k:GP base w1 bf vc c w2):GP base w bf vc c w2 :=
 ⟨k.os.trans h.os,k.tape.trans h.tape,k.output.trans h.output,Nat.le_trans h.size k.size,fun j hj h1 h2=>by
  have:=h.size
  rw[k.block j (by omega) h1 h2,h.block j hj h1 h2],k.own,k.box⟩
theorem GP.cons {M:Mem} (h:GP base w bf vc c w1) (hC:Cons M w) (hf:∀ o,M bf o=none) (hv:∀ g,vc.ownBlock=some g→∀ o,M g o=none):Cons M w1 :=
 hC.of_blocks fun b o u hu hb=>h.block b hb (fun e=>by rw[e,hf]at hu;cases hu) (fun e=>by rw[hv b e.symm]at hu;cases hu)
end
def growV (bf be bl bg:Nat):Value:=.func (.func 52) #[] #[.pointer (some ⟨bf,0,none⟩),.pointer (some ⟨be,0,none⟩),.pointer (some ⟨bl,0,none⟩),.pointer (some ⟨bg,0,none⟩)]
structure GE (M:Mem) (bf be bl bg:Nat) (E:Int→Int→Bool) (l:List Int):Prop where
 e:∃ mv,M be 0=some mv∧isTup mv=false∧∀ w,Cons M w→∀ a b,wfI .i64 a=true→wfI .i64 b=true→(Instr.lookup 67 mv (.agg #[.int .i64 a,.int .i64 b]) false).run Try.prog w=.ok (.bool (E a b)) w
 lv:∃ lv,M bl 0=some lv∧isTup lv=false∧R M (.lst 3 1 none (cL l)) lv
 g:M bg 0=some (growV bf be bl bg)
 f:∀ o,M bf o=none
 wf:∀ x,x∈l→wfI .i64 x=true
 len:l.length≤1000
end Go.Proofs
namespace Go.Proofs
open Go.RowKit Go.AM
end Go.Proofs
namespace Go.Proofs
open Go.RowKit Go.AM
theorem GP.store {base:Nat} {w w1:World} {bf:Nat} {vc:Value} {c:List Int} (h:GP base w bf vc c w1) (u:Value):GP base w bf vc c (w1.setCell ⟨bf,0,none⟩ u):=by
 obtain⟨fv,hf⟩:=h.box;refine⟨h.os,h.tape,h.output,by simpa[World.setCell] using h.size,fun k hk h1 h2=>?_,ownsRow_setCell_other h.own (fun e=>qgl hf h.own e.symm) u,u,one_setCell hf⟩;rw[Below.heap_setCell _ _ _ _ h1,h.block k hk h1 h2]
end Go.Proofs
namespace Go.Proofs
open Go.RowKit Go.AM
open Go.ChangeMaps (setBlock)
theorem Vw (l m:List Int):intsV (l++m)=intsV l++intsV m:=by simp[intsV]
abbrev kE (bl:List (Int×List Int)):List AV:=bl.map fun p=>AV.int .i64 p.1
abbrev tE (bl:List (Int×List Int)):List AV:=bl.map fun _=>AV.top
structure ByRel (w:World) (base gm:Nat) (bl:List (Int×List Int)) (es:Array MapEntry) (clock:Nat):Prop where
 at':w.heap[gm]? = some (.map es clock)
 ent:EntOk (fun _ _=>none) es clock (kE bl) (tE bl)
 row:∀ (j:Nat) p e,bl[j]? = some p→es[j]? = some e→p.2≠[]∧w.ownsRow base 3 1 e.val p.2.length (intsV p.2)
 apart:∀ (i j:Nat) e f g,es[i]? = some e→es[j]? = some f→e.val.ownBlock=some g→f.val.ownBlock=some g→i=j
 lt:gm<base
theorem ByRel.below {w w':World} {base gm:Nat} {bl:List (Int×List Int)} {es:Array MapEntry} {clock:Nat} (h:ByRel w base gm bl es clock) (hB:∀ k,k<w.heap.size→(k=gm∨base≤k)→w'.heap[k]? = w.heap[k]?):ByRel w' base gm bl es clock:=by
 obtain⟨h1,h2,h3,h4,h5⟩:=h;refine⟨(hB gm (lt_of_block h1) (.inl rfl)).trans h1,h2,fun j p e hp he=>⟨(h3 j p e hp he).1,?_⟩,h4,h5⟩;obtain⟨q1,q2⟩:=(h3 j p e hp he).2;refine⟨q1,?_⟩
 rcases q2 with hn | ⟨g,cap,cur,hv,hb,hgg,rest⟩
 ·exact .inl hn
 ·exact .inr ⟨g,cap,cur,hv,hb,by rw[hB g (lt_of_block hgg) (.inr hb)];exact hgg,rest⟩
theorem fits3 (x:Int):keyFits Try.prog 3 (AV.int .i64 x)=true:=by kernel_rfl
theorem Vv (x y:Int):akeq (AV.int .i64 x) (AV.int .i64 y)=keq1 x y:=by simp[akeq,keq1,kbeq]
theorem qaa (k:Int):∀ bl:List (Int×List Int),(∃ j l,findA (AV.int .i64 k) (kE bl)=some j∧bl[j]? = some (k,l)∧mget keq1 [] k bl=l∧∀ m,mset keq1 k m bl=bl.set j (k,m))∨(findA (AV.int .i64 k) (kE bl)=none∧mget keq1 [] k bl=[]∧∀ m,mset keq1 k m bl=bl++[(k,m)])
 | []=>.inr ⟨rfl,rfl,fun m=>rfl⟩
 | p::r=>by
  have ih:=qaa k r;simp only[kE,List.map_cons,findA,mget,mset,Vv]at ih ⊢
  cases hq:keq1 p.1 k with
  | true =>
   have:p.1=k:=by simpa[keq1] using hq
   subst this;exact .inl ⟨0,p.2,rfl,rfl,rfl,fun m=>rfl⟩
  | false =>
   simp only[cN]
   rcases ih with ⟨j,l,h1,h2,h3,h4⟩ | ⟨h1,h2,h3⟩
   ·rw[h1];exact .inl ⟨j+1,l,rfl,by simpa using h2,h3,fun m=>by rw[h4];rfl⟩
   ·rw[h1];exact .inr ⟨rfl,h2,fun m=>by rw[h3];rfl⟩
theorem ByRel.step {w:World} {base gm:Nat} {bl:List (Int×List Int)} {es:Array MapEntry} {clock:Nat} (h:ByRel w base gm bl es clock) {k:Int} (hwf:wfI .i64 k=true) (hlen:bl.length<1000000000) :
  ∃ v24,(∀ w',w'.heap[gm]? = some (.map es clock)→(Instr.lookup 87 (.map (some gm)) (.int .i64 k) false).run Try.prog w'=.ok v24 w')∧w.ownsRow base 3 1 v24 (mget keq1 [] k bl).length (intsV (mget keq1 [] k bl)) ∧
   ∀ (x:Int) (vv:Value) (g:Nat) (w2:World),w.grownBy w2 v24.ownBlock→w2.ownsRow base 3 1 vv ((mget keq1 [] k bl).length+1) (intsV (mget keq1 [] k bl)++[.int .i64 x])→vv.ownBlock=some g→(v24.ownBlock=some g∨w.heap.size≤g) →
    ∃ es' clock',(Instr.mapUpdate 87 (.map (some gm)) (.int .i64 k) vv).run Try.prog w2=.ok () (setBlock w2 gm (.map es' clock'))∧ByRel (setBlock w2 gm (.map es' clock')) base gm (mset keq1 k (mget keq1 [] k bl++[x]) bl) es' clock':=by
 obtain⟨h1,E,h3,h4,h5⟩:=h
 have ht:Xe Try.prog 87=some (3,24):=by kernel_rfl
 have ht':=Qy ht
 have hkv:(AV.int .i64 k).keyV=some (.int .i64 k):=by simp only[AV.keyV,hwf]
 have hall:(kE bl).all (keyFits Try.prog 3)=true:=by
  rw[List.all_map,List.all_eq_true]
  exact fun p _=>fits3 p.1
 have fnd:=fun w=>Xm (P:=Try.prog) (w:=w) (fits3 k) hkv hall E
 obtain⟨E1,E2,E3,E4,E5,E6⟩:=E
 have hsz:es.size=bl.length:=by simpa[kE] using E3.symm
 have hzero:∀ w,(zeroValue 24).run Try.prog w=.ok (.slice none 0 0) w:=Try.zeroValue24
 have kept:∀ {w2:World} {row:Option Nat},w.grownBy w2 row→∀ (j:Nat) p e,bl[j]? = some p→es[j]? = some e→(e.val.ownBlock=none∨e.val.ownBlock≠row)→∀ es' clock',(setBlock w2 gm (.map es' clock')).ownsRow base 3 1 e.val p.2.length (intsV p.2):=by
  intro w2 row hg j p e hp he hne es' clock';have h6:=World.ownsRow.kept (h3 j p e hp he).2 hg hne;obtain⟨q1,q2⟩:=h6;refine⟨q1,?_⟩
  rcases q2 with hn | ⟨g,cap,cur,hv,hb,hgg,rest⟩
  ·exact .inl hn
  ·exact .inr ⟨g,cap,cur,hv,hb,by rw[Jx (by omega)];exact hgg,rest⟩
 have keptN:∀ {w2:World} {vv:Value} {n:Nat} {xs:List Value},w2.ownsRow base 3 1 vv n xs→∀ es' clock',(setBlock w2 gm (.map es' clock')).ownsRow base 3 1 vv n xs:=by
  intro w2 vv n xs h6 es' clock';obtain⟨q1,q2⟩:=h6;refine⟨q1,?_⟩
  rcases q2 with hn | ⟨g,cap,cur,hv,hb,hgg,rest⟩
  ·exact .inl hn
  ·exact .inr ⟨g,cap,cur,hv,hb,by rw[Jx (by omega)];exact hgg,rest⟩
 have hlt:∀ (j:Nat) e g,es[j]? = some e→e.val.ownBlock=some g→g<w.heap.size∧gm≠g:=by
  intro j e g he hg
  have hj:j<bl.length:=by rw[← hsz];exact (Array.getElem?_eq_some_iff.1 he).1
  have:=(h3 j _ e (B7 hj) he).2.lt g hg;omega
 rcases qaa k bl with ⟨j,l,a1,a2,a3,a4⟩ | ⟨a1,a2,a3⟩
 ·
  obtain⟨e0,he0⟩:∃ e0,es[j]? = some e0:=by
   have:j<es.size:=by rw[hsz];exact (List.getElem?_eq_some_iff.1 a2).1
   exact⟨_,B9 this⟩
  have hf:∀ w',(Instr.findKey 3 (.int .i64 k) es.toList).run Try.prog w'=.ok (some (j,e0.val)) w'∧e0.key=.int .i64 k:=fun w'=>by
   obtain⟨_,_,hfd⟩:=fnd w'
   rcases hfd with ⟨k1,_,_⟩ | ⟨j',e',k1,k2,k3,k4⟩
   ·rw[a1]at k1;cases k1
   ·rw[a1]at k1;cases k1
    have:es[j]? = some e':=by simpa using k3
    rw[this]at he0;cases he0;exact⟨k2,k4⟩
  have hrow:=h3 j _ e0 a2 he0;simp only[a3,a4];refine⟨e0.val,fun w' hb=>?_,hrow.2,fun x vv g w2 hg ho hvg hat=>⟨es.modify j (fun e'=>{ e' with key:=.int .i64 k,val:=vv }),clock,?_,⟨Qh ((hg.block gm (lt_of_block h1) (fun e=>(hlt j e0 gm he0 e.symm).2 rfl)).trans h1),⟨C6 E1 _ _ (fun _ _=>rfl) (fun e' _ he'=>by rw[he0]at he';cases he';exact ((hf w).2).symm),by simpa using E2,by simp[kE,hsz],by simp[tE,hsz],fun i k' e' hk' he'=>?_,fun i v' e' hv' he'=>?_⟩,fun i p e' hp he'=>?_,fun i i' e f gg he hf' g1 g2=>?_,h5⟩⟩⟩
  ·obtain⟨hck,_,_⟩:=fnd w';have hj:es[j]? = some e0:=he0;simp[Instr.lookup,run_underlying ht',A1 hb,hck,(hf w').1,hj,A2]
  ·have hb2:w2.heap[gm]? = some (.map es clock):=(hg.block gm (lt_of_block h1) (fun e=>(hlt j e0 gm he0 e.symm).2 rfl)).trans h1;obtain⟨hck,hst,_⟩:=fnd w2;have f4:=(hf w2).2;simp[Instr.mapUpdate,run_underlying ht',A1 hb2,hck,(hf w2).1,he0,f4,hst,A9 _ hb2,A2,setBlock]
  ·rw[A6]at he';simp only[kE,B5,B6]at hk';obtain⟨p,hp,rfl⟩:=hk';rw[List.getElem?_set]at hp;split at he'
   ·rename_i hij;subst hij;rw[he0]at he';cases he';rw[if_pos rfl]at hp;split at hp
    ·cases hp;exact hkv
    ·cases hp
   ·rename_i hij;rw[if_neg hij]at hp;exact E5 i _ e' (by simp[kE,hp]) he'
  ·simp only[tE,B5,B6]at hv';obtain⟨_,_,rfl⟩:=hv';exact .top _
  ·rw[A6]at he';rw[List.getElem?_set]at hp;split at he'
   ·rename_i hij;subst hij;rw[he0]at he';cases he';rw[if_pos rfl]at hp;split at hp
    ·cases hp;refine⟨by simp,?_⟩;rw[Vw,List.length_append];exact keptN ho _ _
    ·cases hp
   ·rename_i hij;rw[if_neg hij]at hp;refine⟨(h3 i p e' hp he').1,kept hg i p e' hp he' ?_ _ _⟩
    cases hob:e'.val.ownBlock with
    | none=>exact .inl rfl
    | some b=>exact .inr fun e=>hij (h4 j i e0 e' b he0 he' e.symm hob)
  ·
   rw[A6]at he hf';split at he <;> split at hf'
   ·rename_i q1 q2;omega
   ·rename_i q1 q2;subst q1;rw[he0]at he;cases he;have g1':vv.ownBlock=some gg:=g1;rw[hvg]at g1';cases g1'
    rcases hat with h6 | h6
    ·exact absurd (h4 j i' e0 f _ he0 hf' h6 g2) q2
    ·have:=(hlt i' f _ hf' g2).1;omega
   ·rename_i q1 q2;subst q2;rw[he0]at hf';cases hf';have g2':vv.ownBlock=some gg:=g2;rw[hvg]at g2';cases g2'
    rcases hat with h6 | h6
    ·exact absurd (h4 j i e0 e _ he0 he h6 g1) q1
    ·have:=(hlt i e _ he g1).1;omega
   ·exact h4 i i' e f gg he hf' g1 g2
 ·
  have hf:∀ w',(Instr.findKey 3 (.int .i64 k) es.toList).run Try.prog w'=.ok none w'∧(∀ e∈es.toList,e.key≠.int .i64 k):=fun w'=>by
   obtain⟨_,_,hfd⟩:=fnd w'
   rcases hfd with ⟨k1,k2,k3⟩ | ⟨j',e',k1,k2,k3,k4⟩
   ·exact⟨k2,k3⟩
   ·rw[a1]at k1;cases k1
  simp only[a2,a3];refine⟨.slice none 0 0,fun w' hb=>?_,World.ownsRow_nil _ _ _ _,fun x vv g w2 hg ho hvg hat=>⟨es.push ⟨.int .i64 k,vv,clock⟩,clock+1,?_,⟨Qh ((hg.block gm (lt_of_block h1) (fun e=>by cases e)).trans h1),⟨C5 E1 (hf w).2,by simp[maxLen];omega,by simp[kE,hsz],by simp[tE,hsz],fun i k' e' hk' he'=>?_,fun i v' e' hv' he'=>?_⟩,fun i p e' hp he'=>?_,fun i i' e f gg he hf' g1 g2=>?_,h5⟩⟩⟩
  ·obtain⟨hck,_,_⟩:=fnd w';simp[Instr.lookup,run_underlying ht',A1 hb,hck,(hf w').1,hzero,A2]
  ·have hb2:w2.heap[gm]? = some (.map es clock):=(hg.block gm (lt_of_block h1) (fun e=>by cases e)).trans h1;obtain⟨hck,hst,_⟩:=fnd w2;simp[Instr.mapUpdate,run_underlying ht',A1 hb2,hck,(hf w2).1,A9 _ hb2,A2,setBlock]
  ·rw[A5]at he';simp only[kE,B5,B6]at hk';obtain⟨p,hp,rfl⟩:=hk';split at he'
   ·rename_i hi;cases he';rw[hi,hsz,A7]at hp;cases hp;exact hkv
   ·have hi:=(Array.getElem?_eq_some_iff.1 he').1;rw[A8 (by omega)]at hp;exact E5 i _ e' (by simp[kE,hp]) he'
  ·simp only[tE,B5,B6]at hv';obtain⟨_,_,rfl⟩:=hv';exact .top _
  ·rw[A5]at he';split at he'
   ·rename_i hi;cases he';rw[hi,hsz,A7]at hp;cases hp;refine⟨by simp,?_⟩;have:=keptN ho (es.push ⟨.int .i64 k,vv,clock⟩) (clock+1)
    simpa[intsV] using this
   ·have hi:=(Array.getElem?_eq_some_iff.1 he').1;rw[A8 (by omega)]at hp;exact⟨(h3 i p e' hp he').1,kept hg i p e' hp he' (by cases hob:e'.val.ownBlock with | none=>exact .inl rfl | some b=>exact .inr fun e=>by cases e) _ _⟩
  ·rw[A5]at he hf'
   have hnew:∀ (i:Nat) e',es[i]? = some e'→e'.val.ownBlock=some g→False:=fun i e' he' hg'=>by
    have:=(hlt i e' _ he' hg').1
    rcases hat with h6 | h6
    ·cases h6
    ·omega
   split at he <;> split at hf'
   ·omega
   ·cases he;have g1':vv.ownBlock=some gg:=g1;rw[hvg]at g1';cases g1';exact (hnew i' f hf' g2).elim
   ·cases hf';have g2':vv.ownBlock=some gg:=g2;rw[hvg]at g2';cases g2';exact (hnew i e he g1).elim
   ·exact h4 i i' e f gg he hf' g1 g2
def mtail (M:Mem) (B:Nat) (w:World):Mem:=fun b o=>if b<B then M b o else mc w b o
theorem qbe {M:Mem} {B b o:Nat} {w:World} (h:b<B):mtail M B w b o=M b o:=by unfold mtail;rw[if_pos h]
theorem qbf {M:Mem} {B b o:Nat} {w:World} (h:B≤b):mtail M B w b o=mc w b o:=by unfold mtail;rw[if_neg (by omega)]
theorem qen {M:Mem} {B:Nat} {w0 w:World} (hC:Cons M w0) (hB:Below B w0 w):Cons (mtail M B w) w:=fun b o u hu=>by
 unfold mtail at hu;split at hu
 ·rename_i h;have h1:=hC _ _ _ hu;rw[Xq (hB.block b h)];exact h1
 ·exact hu
theorem qfP {M:Mem} {B:Nat} {w0 w:World} (hC:Cons M w0) (hB:Below B w0 w) (hb:w0.heap.size≤B):Sub M (mtail M B w):=fun b o u hu=>by
 rw[qbe (by have:=VE (hC _ _ _ hu);omega)];exact hu
theorem qgT {w:World} {b o:Nat} {t:TypeId} {fz:Nat×Nat} {cs:Array Value} {u:Value} (h:w.heap[b]? = some (.cells cs t fz)) (hu:cs[o]? = some u) (ht:isTup u=false):mc w b o=some u:=by
 unfold mc;rw[h];exact JQ hu ht
theorem qfW {M:Mem} {e k:Nat} {xs:List AV} {v:Value} (h:R M (.lst e k none xs) v):∃ a cap,v=.slice a xs.length cap∧∀ i x,xs[i]? = some x→∃ b off,a=some ⟨b,off,none⟩∧∀ j c,x.cells[j]? = some c→∃ u,M b (off+(i * k+j))=some u∧R M c u:=by
 cases h with
 | lstn=>exact⟨none,0,rfl,fun i x hx=>by simp at hx⟩
 | lste _ _ _ ad cap=>exact⟨some ad,cap,rfl,fun i x hx=>by simp at hx⟩
 | lst us h1 h2 h5 h3 h4 =>
  rename_i b off cap;refine⟨some ⟨b,off,none⟩,cap,rfl,fun i x hx=>⟨b,off,rfl,fun j c hc=>?_⟩⟩;have hk:=h2 x (List.mem_of_getElem? hx)
  have hj:j<k:=by rw[← hk];exact (List.getElem?_eq_some_iff.1 hc).1
  have hf:=(Yq h2 hx j hj).trans hc;exact⟨us (i * k+j),h3 _ _ hf,h4 _ _ hf⟩
theorem qgP {M:Mem} {l:List hsOp} {v:Value} (h:R M (l44 none l) v):∃ a cap,v=.slice a l.length cap∧∀ i x,l[i]? = some x→∃ b off,a=some ⟨b,off,none⟩∧M b (off+i * 3)=some (.int .i64 x.qb)∧M b (off+i * 3+1)=some (.int .i64 x.qh)∧M b (off+i * 3+2)=some (.int .i64 x.qi):=by
 obtain⟨a,cap,rfl,hc⟩:=qfW h;refine⟨a,cap,by rw[A4],fun i x hx=>?_⟩;obtain⟨b,off,rfl,hcell⟩:=hc i (jf x) (by simp[hx]);obtain⟨u0,h0,r0⟩:=hcell 0 _ rfl;obtain⟨u1,h1,r1⟩:=hcell 1 _ rfl;obtain⟨u2,h2,r2⟩:=hcell 2 _ rfl;cases r0;cases r1;cases r2;exact⟨b,off,rfl,h0,h1,h2⟩
theorem Vp {w:World} {b j:Nat} {cs:Array Value} {t:TypeId} (u:Value) (h:w.heap[b]? = some (.cells cs t (0,0))):(w.setCell ⟨b,j,none⟩ u).heap[b]? = some (.cells (cs.setIfInBounds j u) t (0,0)):=by
 have hlt:=lt_of_block h
 have h':w.heap[b]=.cells cs t (0,0):=by simpa[B9 hlt] using h
 show (w.heap.modify b _)[b]? = _;rw[B9 (by simpa using hlt),Array.getElem_modify_self,h'];rfl
theorem YK {w:World} {b j k:Nat} {u:Value} (h:k≠b):(w.setCell ⟨b,j,none⟩ u).heap[k]? = w.heap[k]?:=Below.heap_setCell w ⟨b,j,none⟩ u k h
theorem Vo {w:World} {a:Addr} {u:Value}:(w.setCell a u).heap.size=w.heap.size:=by simp[World.setCell]
end Go.Proofs
namespace Go.AM
structure LS where
 sh:Nat→Int→Bool
 ex:Nat→Int
 done:List hsOp
 ab:List Int
 wt:Int→List (hsOp×Int)
def LS.zero:LS:=⟨fun _ _=>false,fun _=>0,[],[],fun _=>[]⟩
def hindP (s:LS) (o:hsOp) (x:Int):Prop:=(s.ex o.qi.toNat=x∧x≠0∧x≠o.qb)∨(o.qh=1∧x≠o.qb∧s.sh o.qi.toNat x=true)
def takeL (s:LS) (o:hsOp):LS :=
 if o.qh=1 then { s with ex:=fun j=>if j=o.qi.toNat then o.qb else s.ex j }
 else { s with sh:=fun j y=>if j=o.qi.toNat∧y=o.qb then true else s.sh j y }
def relL (s:LS) (t:Int):LS:={ s with sh:=fun j y=>if y=t then false else s.sh j y,ex:=fun j=>if s.ex j=t then 0 else s.ex j }
def putW (s:LS) (t:Int) (l:List (hsOp×Int)):LS:={ s with wt:=fun x=>if x=t then l else s.wt x }
def doL (s:LS) (t:Int) (o:hsOp) (rest:List (hsOp×Int)):LS :=
 putW { (if o.qh≤1 then takeL s o else relL s t) with done:=s.done++[o] } t rest
def abortL (s:LS) (t:Int):LS:=relL (putW { s with done:=s.done++[⟨t,3,0⟩],ab:=s.ab++[t] } t []) t
def Stuck (s:LS) (o:hsOp):Prop:=o.qh≤1∧∃ x,hindP s o x
def EdgeL (s:LS) (x y:Int):Prop:=∃ p rest,s.wt x=p::rest∧hindP s p.1 y
inductive ReachL (s:LS):Int→Int→Prop where
 | one {x y}:EdgeL s x y→ReachL s x y
 | more {x y z}:ReachL s x y→EdgeL s y z→ReachL s x z
open Classical in
noncomputable def goOnL:Nat→LS→Int→Bool→Option (LS×Bool)
 | 0,_,_,_=>none
 | n+1,s,t,rel=>match s.wt t with
  | []=>some (s,rel)
  | p::rest=>if Stuck s p.1 then (if ReachL s t t then some (abortL s t,true) else some (s,rel)) else goOnL n (doL s t p.1 rest) t (rel || decide (1<p.1.qh))
def CanL (s:LS) (t:Int):Prop:=∃ p rest,s.wt t=p::rest∧¬ Stuck s p.1
def atL (s:LS) (t:Int):Int:=match s.wt t with
 | []=>0
 | p::_=>p.2
def BestL (s:LS) (b:Int):Prop:=(b=0∧∀ t,¬ CanL s t)∨(b≠0∧CanL s b∧∀ t,CanL s t→atL s b≤atL s t)
open Classical in
noncomputable def bestL (s:LS):Int:=if h:∃ b,BestL s b then h.choose else 0
noncomputable def retryL (m:Nat):Nat→LS→Option LS
 | 0,_=>none
 | n+1,s=>if bestL s=0 then some s else (goOnL m s (bestL s) false).bind fun r=>retryL m n r.1
open Classical in
noncomputable def stepL (m:Nat) (s:LS) (o:hsOp) (i:Int):Option LS :=
 if o.qb∈s.ab then some s else
 if s.wt o.qb≠[] then some (putW s o.qb (s.wt o.qb++[(o,i)])) else
 (goOnL m (putW s o.qb [(o,i)]) o.qb false).bind fun r=>if r.2=true then retryL m m r.1 else some r.1
noncomputable def runL (m:Nat):LS→Int→List hsOp→Option LS
 | s,_,[]=>some s
 | s,i,o::l=>(stepL m s o i).bind fun s'=>runL m s' (i+1) l
def OkOp (o:hsOp):Prop:=1≤o.qb∧o.qb≤6∧0≤o.qh∧o.qh≤3∧0≤o.qi∧o.qi≤5
def wtot (s:LS):Nat:=(s.wt 1).length+(s.wt 2).length+(s.wt 3).length+(s.wt 4).length+(s.wt 5).length+(s.wt 6).length
structure OkS (N:Nat) (s:LS):Prop where
 tot:s.done.length+wtot s≤N
 abl:s.ab.length≤s.done.length
 sh:∀ i x,s.sh i x=true→1≤x∧x≤6
 ex:∀ i,0≤s.ex i∧s.ex i≤6
 wtk:∀ t,s.wt t≠[]→1≤t∧t≤6
 wto:∀ t p,p∈s.wt t→OkOp p.1∧p.1.qb=t∧0≤p.2∧p.2<1000000
 one:∀ t u p q,p∈s.wt t→q∈s.wt u→p.2=q.2→t=u
theorem Dh {s:LS} {t:Int} (h1:1≤t) (h2:t≤6):∃ k,wtot s=(s.wt t).length+k∧∀ l,wtot (putW s t l)=l.length+k:=by
 have:t=1∨t=2∨t=3∨t=4∨t=5∨t=6:=by omega
 rcases this with rfl | rfl | rfl | rfl | rfl | rfl
 ·exact⟨(s.wt 2).length+(s.wt 3).length+(s.wt 4).length+(s.wt 5).length+(s.wt 6).length,by unfold wtot;omega,fun l=>by simp[wtot,putW];omega⟩
 ·exact⟨(s.wt 1).length+(s.wt 3).length+(s.wt 4).length+(s.wt 5).length+(s.wt 6).length,by unfold wtot;omega,fun l=>by simp[wtot,putW];omega⟩
 ·exact⟨(s.wt 2).length+(s.wt 1).length+(s.wt 4).length+(s.wt 5).length+(s.wt 6).length,by unfold wtot;omega,fun l=>by simp[wtot,putW];omega⟩
 ·exact⟨(s.wt 2).length+(s.wt 3).length+(s.wt 1).length+(s.wt 5).length+(s.wt 6).length,by unfold wtot;omega,fun l=>by simp[wtot,putW];omega⟩
 ·exact⟨(s.wt 2).length+(s.wt 3).length+(s.wt 4).length+(s.wt 1).length+(s.wt 6).length,by unfold wtot;omega,fun l=>by simp[wtot,putW];omega⟩
 ·exact⟨(s.wt 2).length+(s.wt 3).length+(s.wt 4).length+(s.wt 5).length+(s.wt 1).length,by unfold wtot;omega,fun l=>by simp[wtot,putW];omega⟩
theorem OkS.wlen {N:Nat} {s:LS} (h:OkS N s) (t:Int):(s.wt t).length≤N:=by
 by_cases hn:s.wt t=[]
 ·simp[hn]
 ·obtain⟨h1,h2⟩:=h.wtk t hn;obtain⟨k,e,_⟩:=Dh (s:=s) h1 h2;have:=h.tot;omega
theorem OkS.hind {N:Nat} {s:LS} (h:OkS N s) {o:hsOp} {x:Int} (hx:hindP s o x):1≤x∧x≤6:=by
 rcases hx with ⟨h1,h2,_⟩ | ⟨_,_,h3⟩
 ·have:=h.ex o.qi.toNat;omega
 ·exact h.sh _ _ h3
theorem OkS.doL {N:Nat} {s:LS} (h:OkS N s) {t:Int} {p:hsOp×Int} {rest:List (hsOp×Int)} (hw:s.wt t=p::rest):OkS N (doL s t p.1 rest):=by
 have hk:=h.wtk t (by rw[hw];simp);have hp:=h.wto t p (by rw[hw];exact .head _);obtain⟨k,e1,e2⟩:=Dh (s:=s) hk.1 hk.2;obtain⟨⟨o1,o2,o3,o4,o5,o6⟩,ot,oa,ob⟩:=hp
 have hsub:∀ x q,q∈(Go.AM.doL s t p.1 rest).wt x→q∈s.wt x:=by
  intro x q hq
  have hq2:q∈if x=t then rest else s.wt x:=by
   unfold Go.AM.doL at hq;split at hq
   ·unfold takeL at hq;split at hq <;> exact hq
   ·exact hq
  clear hq;split at hq2
  ·rename_i hx;rw[hx,hw];exact .tail _ hq2
  ·exact hq2
 have ht2:wtot (Go.AM.doL s t p.1 rest)=rest.length+k:=by
  rw[← e2 rest];unfold Go.AM.doL wtot putW;split
  ·unfold takeL;split <;> rfl
  ·rfl
 have hd:(Go.AM.doL s t p.1 rest).done=s.done++[p.1]:=rfl
 have hab:(Go.AM.doL s t p.1 rest).ab=s.ab:=by
  unfold Go.AM.doL putW;split
  ·unfold takeL;split <;> rfl
  ·rfl
 refine⟨?_,?_,?_,?_,?_,?_,?_⟩
 ·rw[ht2,hd];have:=h.tot;rw[e1,hw]at this;simp at this ⊢;omega
 ·rw[hab,hd];have:=h.abl;simp;omega
 ·intro i x hx;unfold Go.AM.doL at hx;split at hx
  ·unfold takeL at hx;split at hx
   ·exact h.sh i x hx
   ·have hx:(if i=p.1.qi.toNat∧x=p.1.qb then true else s.sh i x)=true:=hx;split at hx
    ·rename_i e;omega
    ·exact h.sh i x hx
  ·have hx:(if x=t then false else s.sh i x)=true:=hx;split at hx
   ·cases hx
   ·exact h.sh i x hx
 ·intro i;have h0:=h.ex i;unfold Go.AM.doL;split
  ·unfold takeL;split
   ·show 0≤(if i=p.1.qi.toNat then p.1.qb else s.ex i)∧(if i=p.1.qi.toNat then p.1.qb else s.ex i)≤6;split <;> omega
   ·exact h0
  ·show 0≤(if s.ex i=t then 0 else s.ex i)∧(if s.ex i=t then 0 else s.ex i)≤6;split <;> omega
 ·intro x hx;obtain⟨q,hq⟩:=C7 _ hx;exact h.wtk x (List.ne_nil_of_mem (hsub x q hq))
 ·intro x q hq;exact h.wto x q (hsub x q hq)
 ·intro x u q r hq hr he;exact h.one x u q r (hsub x q hq) (hsub u r hr) he
theorem OkS.abortL {N:Nat} {s:LS} (h:OkS N s) {t:Int} {p:hsOp×Int} {rest:List (hsOp×Int)} (hw:s.wt t=p::rest):OkS N (abortL s t):=by
 have hk:=h.wtk t (by rw[hw];simp);obtain⟨k,e1,e2⟩:=Dh (s:=s) hk.1 hk.2
 have hsub:∀ x q,q∈(Go.AM.abortL s t).wt x→q∈s.wt x:=by
  intro x q hq
  have hq:q∈if x=t then [] else s.wt x:=hq
  split at hq
  ·cases hq
  ·exact hq
 have ht2:wtot (Go.AM.abortL s t)=0+k:=by
  rw[← show ([]:List (hsOp×Int)).length=0 from rfl,← e2 []];rfl
 have hd:(Go.AM.abortL s t).done=s.done++[⟨t,3,0⟩]:=rfl;have hab:(Go.AM.abortL s t).ab=s.ab++[t]:=rfl;refine⟨?_,?_,?_,?_,?_,?_,?_⟩
 ·rw[ht2,hd];have:=h.tot;rw[e1,hw]at this;simp at this ⊢;omega
 ·rw[hab,hd];have:=h.abl;simp;omega
 ·intro i x hx;have hx:(if x=t then false else s.sh i x)=true:=hx;split at hx
  ·cases hx
  ·exact h.sh i x hx
 ·intro i;have h0:=h.ex i;show 0≤(if s.ex i=t then 0 else s.ex i)∧(if s.ex i=t then 0 else s.ex i)≤6;split <;> omega
 ·intro x hx;obtain⟨q,hq⟩:=C7 _ hx;exact h.wtk x (List.ne_nil_of_mem (hsub x q hq))
 ·intro x q hq;exact h.wto x q (hsub x q hq)
 ·intro x u q r hq hr he;exact h.one x u q r (hsub x q hq) (hsub u r hr) he
theorem OkS.goOn {N:Nat}:∀ (n:Nat) (s:LS) (t:Int) (rel:Bool) (r:LS×Bool),OkS N s→goOnL n s t rel=some r→OkS N r.1
 | 0,_,_,_,_,_,e=>by cases e
 | n+1,s,t,rel,r,h,e=>by
  unfold goOnL at e
  cases hw:s.wt t with
  | nil=>rw[hw]at e;cases e;exact h
  | cons p rest =>
   rw[hw]at e;simp only at e;split at e
   ·split at e
    ·cases e;exact h.abortL hw
    ·cases e;exact h
   ·exact OkS.goOn n _ _ _ _ (h.doL hw) e
theorem BestL.unique {N:Nat} {s:LS} (h:OkS N s) {a b:Int} (ha:BestL s a) (hb:BestL s b):a=b:=by
 rcases ha with ⟨rfl,h1⟩ | ⟨h0,⟨p,r,e1,e2⟩,h1⟩
 ·rcases hb with ⟨rfl,_⟩ | ⟨_,hc,_⟩
  ·rfl
  ·exact absurd hc (h1 b)
 ·rcases hb with ⟨rfl,h2⟩ | ⟨_,⟨q,u,e3,e4⟩,h2⟩
  ·exact absurd ⟨p,r,e1,e2⟩ (h2 a)
  ·have q1:=h1 b ⟨q,u,e3,e4⟩;have q2:=h2 a ⟨p,r,e1,e2⟩
   have w1:atL s a=p.2:=by unfold atL;rw[e1]
   have w2:atL s b=q.2:=by unfold atL;rw[e3]
   refine h.one a b p q (by rw[e1];exact .head _) (by rw[e3];exact .head _) (by omega)
theorem qhs {N:Nat} {s:LS} (h:OkS N s) {b:Int} (hb:BestL s b):bestL s=b:=by
 unfold bestL;rw[dif_pos ⟨b,hb⟩];exact BestL.unique h (Exists.choose_spec (p:=fun b=>BestL s b) ⟨b,hb⟩) hb
end Go.AM
