import Derived.Test.YtoiejpkfpjingaaHAT
import Derived.Test.YtoiejpkfpjingaaKAT
import Derived.WalkKit
import Derived.BigCall
import Derived.Deep.RegionHeld3
import Derived.Deep.RegionHeldLaw
import Derived.Deep.AppendLies
import Derived.Deep.OwnRows
import Derived.OneCell
import Derived.Laws.Rows
set_option linter.all false
set_option maxRecDepth 100000
open List renaming setIfInBounds_toArray→A0, set_cons_zero→A1, set_cons_succ→A2, getElem_toArray→A3, getElem_cons_succ→A4, getElem_cons_zero→A5, map→A7, length_map→A9, getElem?_eq_getElem→B3, getElem?_toArray→B7, getElem?_cons_succ→B8, getElem?_cons_zero→C7, getD_eq_getElem?_getD→D0
open Nat renaming le_trans→A6
open Int renaming toNat→A8
open Bool renaming and_eq_true→B4
open Go.Result renaming andThen→B5
open Go.Region renaming wanted→B6
open Go.MapKept renaming run_getObj_map→D1
namespace Go.AM
open Go.Proofs
def jj (fuel:Nat) (a1:(List hsOp)):Option (List Int):=(jY fuel a1 2).bind fun l=>chk (decide (l.length≤1000)) (some (sortI (comm l)))
theorem Jb (fuel:Nat) (a1:(List hsOp)) (r:(List Int)) (h:jj fuel a1=some r):Run Try.prog (.call 51 [l44 none a1] (l3 none r)):=by
 unfold jj at h;obtain⟨l,hl,h⟩:=qh h;obtain⟨hc,h⟩:=qw h;cases h;exact .ext0 (qaP hl (of_decide_eq_true hc))
def QF:Option Int :=
 (some (-1))
def Jw (a2:Int) (K4:(Option Int)):List Int→Nat→Option Int
 | [],k1=>K4
 | x1::r1,k1=>(bif (a2 == x1) then (some (k1:Int)) else (Jw a2 K4 r1 (k1+1)))
def Yk (a1:(List Int)) (a2:Int):Option Int :=
 (chk (lenOk a1) (Jw a2 (QF) a1 0))
theorem UP (a1:(List Int)) (a2:Int) (r:Int) (h:Yk a1 a2=some r):Run Try.prog (.call 75 [l3 none a1,I6 a2] (I6 r)):=by
 refine cW Try.func75 rfl (env0:=[(0,l3 none a1),(1,I6 a2)]) ?_;unfold Yk at h;refine W.seq ?_;let z0:=fun t=>EN ((0,l3 none a1)::(1,I6 a2)::t);refine W.rt (e2:=z0 []) ?_;refine W.seq<|W.join (σ:=Unit) (fun s=>[]) (fun s=>(QF)=some r) (fun s h=>?_) (fun hK4=>?_)
 ·unfold QF at h;refine W.seq<|W.rt (e2:=[(4,I6 (-1))]) ?_;refine W.wk (e:=[(4,I6 (-1))]) ?_;cases h;exact W.rr
 refine W.sr<|WO.pq 1 (jM (.int .i64) a1) (e1:=z0 [(6,l3 none a1),(7,I6 (a1.length:Int))]) ?_;let z1:=fun t=>z0 ((7,I6 (a1.length:Int))::t);refine WO.fn (e2:=z1 [(8,.int .i64 0)]) ?_;refine W.block ?_;obtain⟨hl1,h⟩:=qw h;refine W.wk (e:=z1 [(8,I6 ((0:Nat):Int))])<|W.range (σ:=Unit) a1 (fun k1 s=>z1 [(8,I6 (k1:Int))]) (fun r0 k0 s=>Jw a2 (QF) r0 k0=some r) (fun s h=>?_) (fun x1 r1 k1 s hx1 hk1 h hN1=>?_) () h
 ·rw[Jw.eq_1]at h;refine W.sr ?_;let y0:Env:=[(1,I6 a2),(7,I6 (a1.length:Int)),(8,I6 ((a1).length:Int)),(9,.bool false)];refine WO.pq 0 (jB (jN (l:=a1))) (e1:=((0,l3 none a1)::y0))<|WO.fn (e2:=((0,l3 none a1)::y0)) ?_;refine W.seq<|W.cF<|W.exit<|W.wk (e:=[]) ?_;exact hK4 () h
 ·rw[Jw.eq_2]at h;refine W.sr ?_;let y1:Env:=[(1,I6 a2),(7,I6 (a1.length:Int)),(8,I6 (k1:Int)),(9,.bool true)];let z2:=fun t=>EN ((0,l3 none a1)::t);refine WO.pq 0 (jB (Jr hk1)) (e1:=z2 y1)<|WO.fn (e2:=z2 y1) ?_;refine W.seq<|W.cT<|W.skip ?_;let y2:Env:=[(7,I6 (a1.length:Int)),(8,I6 (k1:Int))];refine W.wk (e:=z0 y2)<|W.seq<|W.block<|W.seq ?_;let z3:=fun t=>z0 ((5,I6 (k1:Int))::t);refine W.rt (e2:=z3 y2) ?_;refine W.sr ?_;let z4:=fun t=>z3 ((7,I6 (a1.length:Int))::(8,I6 (k1:Int))::t);refine WO.pq 3 (Js (f:=(AV.int .i64)) hx1) (e1:=z4 [(11,I6 a2),(12,l3 none a1),(13,I6 (k1:Int)),(14,.ptr (I6 x1))])<|WO.fn (e2:=z4 [(16,.bool (a2 == x1))]) ?_;refine W.ch (a2 == x1) h (fun h=>?_) (fun h=>?_)
  ·refine W.seq<|W.rt (e2:=[(4,I6 (k1:Int))]) ?_;refine W.wk (e:=[(4,I6 (k1:Int))]) ?_;cases h;exact W.rr
  refine W.sw (e:=z0 y2) ?_;refine W.rg<|WO.pq 0 (jI (jg hl1 hk1)) (e1:=z1 [(8,I6 (k1:Int)),(18,I6 ((k1+1:Nat):Int))])<|WO.fn (e2:=z1 [(8,I6 ((k1+1:Nat):Int))]) ?_;exact hN1 () h
def QG (a1:(List Int)) (a2:Int):Option Bool :=
 ((Yk a1 a2).bind fun w5=>(some (decide (w5 ≥ 0))))
theorem Yg (a1:(List Int)) (a2:Int) (r:Bool) (h:QG a1 a2=some r):Run Try.prog (.call 39 [l3 none a1,I6 a2] (.bool r)):=by
 refine cW Try.func39 rfl (env0:=[(0,l3 none a1),(1,I6 a2)]) ?_;unfold QG at h;refine W.seq<|W.rt (e2:=[(0,l3 none a1),(1,I6 a2)]) ?_;refine W.sr ?_;obtain⟨w5,hw5,h⟩:=qh h;refine WO.ck 2 (F:=75) (l:=[l3 none a1,I6 a2]) (C:=[]) (r:=I6 w5) (UP a1 a2 w5 hw5) (e1:=[(0,l3 none a1),(1,I6 a2),(5,l3 none a1),(6,I6 a2),(7,I6 w5)])<|WO.fn (e2:=[(4,.bool (decide (w5 ≥ 0)))]) ?_;refine W.wk (e:=[(4,.bool (decide (w5 ≥ 0)))]) ?_;cases h;exact W.rr
def Je (v15:(List hsOp)):Option (List hsOp) :=
 (some v15)
def Qf (N1:((List hsOp)→Option (List hsOp))) (v14:(List hsOp)):Option (List hsOp) :=
 (N1 v14)
def jb (w4:(List Int)) (K6:((List hsOp)→Option (List hsOp))):List hsOp→Nat→(List hsOp)→Option (List hsOp)
 | [],k1,v8=>(K6 v8)
 | x1::r1,k1,v8=>((QG w4 x1.qg).bind fun w12=>(bif w12 then (chk (capOk 24 ((v8++[x1])).length) ((Qf (jb w4 K6 r1 (k1+1))) (v8++[x1]))) else ((Qf (jb w4 K6 r1 (k1+1))) v8)))
def Jx (fuel:Nat) (a1:(List hsOp)):Option (List hsOp) :=
 ((jj fuel a1).bind fun w4=>(chk (lenOk a1) (jb w4 (Je) a1 0 ([]:(List hsOp)))))
theorem QZ (fuel:Nat) (a1:(List hsOp)) (r:(List hsOp)) (h:Jx fuel a1=some r):Run Try.prog (.call 48 [l44 none a1] (l44 (some 1) r)):=by
 refine cW Try.func48 rfl (env0:=[(0,l44 none a1)]) ?_;unfold Jx at h;refine W.seq ?_;let z0:=fun t=>EN ((0,l44 none a1)::t);refine W.rt (e2:=z0 []) ?_;refine W.sr ?_;obtain⟨w4,hw4,h⟩:=qh h;refine WO.ck 1 (F:=51) (l:=[l44 none a1]) (C:=[]) (r:=l3 none w4) (Jb fuel a1 w4 hw4) (e1:=z0 [(7,l44 none a1),(8,l3 none w4)]) ?_;let z1:=fun t=>z0 ((3,l3 none w4)::t);refine WO.fn (e2:=z1 []) ?_;refine W.seq<|W.rt (e2:=z1 [(4,.nils)]) ?_;refine W.seq<|W.join (σ:=((List hsOp))) (fun s=>[(4,l44 (some 10400) s)]) (fun s=>(Je) s=some r) (fun v15 h=>?_) (fun hK6=>?_)
 ·unfold Je at h;refine W.seq<|W.rt (e2:=[(2,l44 (some 10400) v15)]) ?_;refine W.weak [2] [] [] [(10400,some 1)] (env':=[(2,l44 (some 1) v15)]) (by kernel_rfl) ?_;cases h;exact W.rr
 refine W.sr<|WO.pq 1 (jM jn a1) (e1:=z1 [(4,.nils),(9,l44 none a1),(10,I6 (a1.length:Int))]) ?_;let z2:=fun t=>EN ((3,l3 none w4)::t);refine WO.fn (e2:=z2 [(4,.nils),(9,l44 none a1),(10,I6 (a1.length:Int)),(11,.int .i64 0)]) ?_;refine W.block ?_;obtain⟨hl1,h⟩:=qw h;refine W.weak [3,4,9,10,11] [] [(4,0,44,3,10400)] [] (env':=z2 [(4,l44 (some 10400) ([]:(List hsOp))),(9,l44 none a1),(10,I6 (a1.length:Int)),(11,I6 ((0:Nat):Int))]) (by kernel_rfl)<|W.range (σ:=((List hsOp))) a1 (fun k1 s=>z2 [(4,l44 (some 10400) s),(9,l44 none a1),(10,I6 (a1.length:Int)),(11,I6 (k1:Int))]) (fun r0 k0 s=>jb w4 (Je) r0 k0 s=some r) (fun v8 h=>?_) (fun x1 r1 k1 s hx1 hk1 h hN1=>?_) ([]:(List hsOp)) h
 ·have h:jb w4 (Je) [] (a1).length v8=some r:=h;rw[jb.eq_1]at h;refine W.sr ?_;let y0:Env:=[(4,l44 (some 10400) v8),(9,l44 none a1),(10,I6 (a1.length:Int)),(11,I6 ((a1).length:Int)),(12,.bool false)];refine WO.pq 0 (jB (jN (l:=a1))) (e1:=z2 y0)<|WO.fn (e2:=z2 y0) ?_;refine W.seq<|W.cF<|W.exit<|W.wk (e:=[(4,l44 (some 10400) v8)]) ?_;exact hK6 v8 h
 ·obtain⟨v8,rfl⟩:∃ x,x=s:=⟨s,rfl⟩;have h:jb w4 (Je) (x1::r1) k1 v8=some r:=h;rw[jb.eq_2]at h;refine W.sr ?_;let y1:Env:=[(4,l44 (some 10400) v8),(9,l44 none a1),(10,I6 (a1.length:Int)),(11,I6 (k1:Int)),(12,.bool true)];refine WO.pq 0 (jB (Jr hk1)) (e1:=z2 y1)<|WO.fn (e2:=z2 y1) ?_;refine W.seq<|W.cT<|W.skip ?_;let y2:Env:=[(9,l44 none a1),(10,I6 (a1.length:Int)),(11,I6 (k1:Int))];let z3:=fun t=>z2 ((4,l44 (some 10400) v8)::t);refine W.wk (e:=z3 y2)<|W.seq<|W.join (σ:=((List hsOp))) (fun s=>z2 ((4,l44 (some 10400) s)::y2)) (fun s=>(Qf (jb w4 (Je) r1 (k1+1))) s=some r) (fun v14 h=>?_) (fun hK9=>?_)
  ·unfold Qf at h;refine W.rg ?_;let z4:=fun t=>z2 ((4,l44 (some 10400) v14)::(9,l44 none a1)::(10,I6 (a1.length:Int))::t);refine WO.pq 0 (jI (jg hl1 hk1)) (e1:=z4 [(11,I6 (k1:Int)),(23,I6 ((k1+1:Nat):Int))])<|WO.fn (e2:=z4 [(11,I6 ((k1+1:Nat):Int))]) ?_;exact hN1 v14 h
  refine W.block<|W.sr<|WO.pq 0 (Js (f:=jn) hx1) (e1:=z3 [(9,l44 none a1),(10,I6 (a1.length:Int)),(11,I6 (k1:Int)),(13,.ptr (.agg [I6 x1.qg,I6 x1.qi,I6 x1.qj]))]) ?_;let z5:=fun t=>z3 ((6,.ptr (.agg [I6 x1.qg,I6 x1.qi,I6 x1.qj]))::t);refine WO.fi [3,4,6,9,10,11] [6] (e2:=z5 y2) ?_;refine W.sr ?_;obtain⟨w12,hw12,h⟩:=qh h;let z6:=fun t=>z5 ((9,l44 none a1)::(10,I6 (a1.length:Int))::(11,I6 (k1:Int))::t);refine WO.ck 3 (F:=39) (l:=[l3 none w4,I6 x1.qg]) (C:=[]) (r:=.bool w12) (Yg w4 x1.qg w12 hw12) (e1:=z6 [(15,l3 none w4),(16,.ptr (I6 x1.qg)),(17,I6 x1.qg),(18,.bool w12)])<|WO.fn (e2:=z6 [(18,.bool w12)]) ?_;refine W.ch w12 h (fun h=>?_) (fun h=>?_)
  ·refine W.rg ?_;obtain⟨hc13,h⟩:=qw h;refine WO.appendK 3 (d:=22) (e:=44) (s:=3) (bytes:=24) (xs:=(A7 jn v8)) (ys:=(A7 jn [x1])) (zs:=(A7 jn (v8++[x1]))) (env1:=[(3,l3 none w4),(4,l44 none v8),(6,.ptr (.agg [I6 x1.qg,I6 x1.qi,I6 x1.qj])),(9,l44 none a1),(10,I6 (a1.length:Int)),(11,I6 (k1:Int)),(18,.bool w12),(19,l44 none v8),(20,.agg [I6 x1.qg,I6 x1.qi,I6 x1.qj]),(21,l44 (some 21) [x1])]) (by kernel_rfl) (List.map_append.symm) (by rw[A9];exact hc13) (e1:=z2 [(4,l44 none v8),(6,.ptr (.agg [I6 x1.qg,I6 x1.qi,I6 x1.qj])),(9,l44 none a1),(10,I6 (a1.length:Int)),(11,I6 (k1:Int)),(18,.bool w12),(19,l44 none v8),(20,.agg [I6 x1.qg,I6 x1.qi,I6 x1.qj]),(21,l44 (some 21) [x1]),(22,l44 (some 22) (v8++[x1]))]) (by kernel_rfl) ?_;refine WO.fin [3,4,9,10,11] [] [] [(22,some 10400)] (e2:=z2 ((4,l44 (some 10400) (v8++[x1]))::y2)) (by kernel_rfl) (fun _ h=>h) ?_;exact hK9 (v8++[x1]) h
  refine W.sw (e:=z3 y2) ?_;exact hK9 v8 h
def qH (v20:(List (qd×Bool))):Option (List (qd×Bool)) :=
 (some v20)
def ja (N1:((List (qd×Bool))→Option (List (qd×Bool)))) (v19:(List (qd×Bool))):Option (List (qd×Bool)) :=
 (N1 v19)
def jf (N2:((List (qd×Bool))→Option (List (qd×Bool)))) (v18:(List (qd×Bool))):Option (List (qd×Bool)) :=
 (N2 v18)
def jm (x1:hsOp) (x2:hsOp) (v11:(List (qd×Bool))) (K12:((List (qd×Bool))→Option (List (qd×Bool)))) (v15:Bool):Option (List (qd×Bool)) :=
 (bif v15 then (chk (wfI .i64 x1.qg && wfI .i64 x2.qg) (chk (Nat.blt v11.length 1000000000) (K12 (mset qr (qd.mk x1.qg x2.qg) true v11)))) else (K12 v11))
def qD (x1:hsOp) (K7:((List (qd×Bool))→Option (List (qd×Bool)))):List hsOp→Nat→(List (qd×Bool))→Option (List (qd×Bool))
 | [],k2,v11=>(K7 v11)
 | x2::r2,k2,v11=>(bif (x1.qg != x2.qg) then (bif (x1.qj == x2.qj) then ((jm x1 x2 v11 (jf (qD x1 K7 r2 (k2+1)))) ((if x2.qi > x1.qi then x2.qi else x1.qi) == 1)) else ((jm x1 x2 v11 (jf (qD x1 K7 r2 (k2+1)))) false)) else ((jm x1 x2 v11 (jf (qD x1 K7 r2 (k2+1)))) false))
def qz (a1:(List hsOp)) (K4:((List (qd×Bool))→Option (List (qd×Bool)))):List hsOp→Nat→(List (qd×Bool))→Option (List (qd×Bool))
 | [],k1,v6=>(K4 v6)
 | x1::r1,k1,v6=>((sub a1 ((k1+1:Nat):Int) (a1.length:Int)).bind fun e10=>(chk (lenOk e10) (qD x1 (ja (qz a1 K4 r1 (k1+1))) e10 0 v6)))
def Jj (a1:(List hsOp)):Option (List (qd×Bool)) :=
 (chk (lenOk a1) (qz a1 (qH) a1 0 ([]:(List (qd×Bool)))))
theorem Xb (a1:(List hsOp)) (r:(List (qd×Bool))) (h:Jj a1=some r):Run Try.prog (.call 49 [l44 none a1] (mpE qc AV.bool r)):=by
 refine cW Try.func49 rfl (env0:=[(0,l44 none a1)]) ?_;unfold Jj at h;refine W.seq ?_;let z0:=fun t=>EN ((0,l44 none a1)::t);refine W.rt (e2:=z0 []) ?_;refine W.seq ?_;let y0:Env:=[(1000008,hobE qc AV.bool ([]:(List (qd×Bool))))];let z1:=fun t=>z0 ((3,.mb 0 1000008)::t);refine W.rt (e2:=z1 y0) ?_;refine W.seq<|W.join (σ:=((List (qd×Bool)))) (fun s=>[(3,.mb 0 1000008),(1000008,hobE qc AV.bool s)]) (fun s=>(qH) s=some r) (fun v20 h=>?_) (fun hK4=>?_)
 ·unfold qH at h;refine W.seq<|W.rt (e2:=[(2,.mb 0 1000008),(1000008,hobE qc AV.bool v20)]) ?_;refine W.mv [.frz 1000008] (env':=[(2,mpE qc AV.bool v20)]) (by kernel_rfl)<|W.wk (e:=[(2,mpE qc AV.bool v20)]) ?_;cases h;exact W.rr
 refine W.sr ?_;let z2:=fun t=>z1 ((9,l44 none a1)::(10,I6 (a1.length:Int))::t);refine WO.pq 1 (jM jn a1) (e1:=z2 y0)<|WO.fn (e2:=z2 ((11,.int .i64 0)::y0)) ?_;refine W.block ?_;obtain⟨hl1,h⟩:=qw h;refine W.wk (e:=z2 ((11,I6 ((0:Nat):Int))::y0))<|W.range (σ:=((List (qd×Bool)))) a1 (fun k1 s=>z2 [(11,I6 (k1:Int)),(1000008,hobE qc AV.bool s)]) (fun r0 k0 s=>qz a1 (qH) r0 k0 s=some r) (fun v6 h=>?_) (fun x1 r1 k1 s hx1 hk1 h hN1=>?_) ([]:(List (qd×Bool))) h
 ·have h:qz a1 (qH) [] (a1).length v6=some r:=h;rw[qz.eq_1]at h;refine W.sr ?_;let y1:Env:=[(3,.mb 0 1000008),(9,l44 none a1),(10,I6 (a1.length:Int)),(11,I6 ((a1).length:Int)),(12,.bool false),(1000008,hobE qc AV.bool v6)];refine WO.pq 0 (jB (jN (l:=a1))) (e1:=z0 y1)<|WO.fn (e2:=z0 y1) ?_;refine W.seq<|W.cF<|W.exit<|W.wk (e:=[(3,.mb 0 1000008),(1000008,hobE qc AV.bool v6)]) ?_;exact hK4 v6 h
 ·obtain⟨v6,rfl⟩:∃ x,x=s:=⟨s,rfl⟩;have h:qz a1 (qH) (x1::r1) k1 v6=some r:=h;rw[qz.eq_2]at h;refine W.sr ?_;let y2:Env:=[(1000008,hobE qc AV.bool v6)];let z3:=fun t=>z2 ((11,I6 (k1:Int))::t);refine WO.pq 0 (jB (Jr hk1)) (e1:=z3 ((12,.bool true)::y2))<|WO.fn (e2:=z3 ((12,.bool true)::y2)) ?_;refine W.seq<|W.cT<|W.skip ?_;let y3:Env:=(9,l44 none a1)::(10,I6 (a1.length:Int))::(11,I6 (k1:Int))::y2;refine W.wk (e:=z1 y3)<|W.seq<|W.join (σ:=((List (qd×Bool)))) (fun s=>z3 [(1000008,hobE qc AV.bool s)]) (fun s=>(ja (qz a1 (qH) r1 (k1+1))) s=some r) (fun v19 h=>?_) (fun hK7=>?_)
  ·unfold ja at h;refine W.rg<|WO.pq 0 (jI (jg hl1 hk1)) (e1:=z3 [(52,I6 ((k1+1:Nat):Int)),(1000008,hobE qc AV.bool v19)])<|WO.fn (e2:=z2 [(11,I6 ((k1+1:Nat):Int)),(1000008,hobE qc AV.bool v19)]) ?_;exact hN1 v19 h
  refine W.block<|W.sr<|WO.pq 1 (Js (f:=jn) hx1) (e1:=z3 ((13,I6 (k1:Int))::(14,.ptr (.agg [I6 x1.qg,I6 x1.qi,I6 x1.qj]))::y2)) ?_;let z4:=fun t=>z1 ((4,I6 (k1:Int))::(5,.ptr (.agg [I6 x1.qg,I6 x1.qi,I6 x1.qj]))::t);refine WO.fi [0,3,4,5,9,10,11,1000008] [5] (e2:=z4 y3) ?_;refine W.sr ?_;let z5:=fun t=>z4 ((9,l44 none a1)::(10,I6 (a1.length:Int))::(11,I6 (k1:Int))::(16,l44 none a1)::(17,I6 (k1:Int))::(18,I6 ((k1+1:Nat):Int))::t);refine WO.pq 2 (jI (jg hl1 hk1)) (e1:=z5 y2) ?_;obtain⟨e10,he10,h⟩:=qh h;refine WO.pk 0 (if (0:Int)≤((k1+1:Nat):Int)∧((k1+1:Nat):Int)≤((A7 jn a1).length:Int)∧((A7 jn a1).length:Int)≤((A7 jn a1).length:Int) then some (.lst 44 3 none (((A7 jn a1).take (A8 ((A7 jn a1).length:Int))).drop (A8 ((k1+1:Nat):Int)))) else none) (qcm he10) (e1:=z5 ((19,l44 none e10)::y2))<|WO.pq 0 (jM jn e10) (e1:=z5 ((19,l44 none e10)::(20,I6 (e10.length:Int))::y2)) ?_;let z6:=fun t=>z1 ((5,.ptr (.agg [I6 x1.qg,I6 x1.qi,I6 x1.qj]))::(9,l44 none a1)::(10,I6 (a1.length:Int))::(11,I6 (k1:Int))::(19,l44 none e10)::(20,I6 (e10.length:Int))::t);refine WO.fn (e2:=z6 ((21,.int .i64 0)::y2)) ?_;refine W.block ?_;obtain⟨hl2,h⟩:=qw h;refine W.wk (e:=z6 ((21,I6 ((0:Nat):Int))::y2))<|W.range (σ:=((List (qd×Bool)))) e10 (fun k2 s=>z6 [(21,I6 (k2:Int)),(1000008,hobE qc AV.bool s)]) (fun r0 k0 s=>qD x1 (ja (qz a1 (qH) r1 (k1+1))) r0 k0 s=some r) (fun v11 h=>?_) (fun x2 r2 k2 s hx2 hk2 h hN2=>?_) v6 h
  ·have h:qD x1 (ja (qz a1 (qH) r1 (k1+1))) [] (e10).length v11=some r:=h;rw[qD.eq_1]at h;refine W.sr ?_;let y4:Env:=[(3,.mb 0 1000008),(5,.ptr (.agg [I6 x1.qg,I6 x1.qi,I6 x1.qj])),(9,l44 none a1),(10,I6 (a1.length:Int)),(11,I6 (k1:Int)),(19,l44 none e10),(20,I6 (e10.length:Int)),(21,I6 ((e10).length:Int)),(22,.bool false),(1000008,hobE qc AV.bool v11)];refine WO.pq 0 (jB (jN (l:=e10))) (e1:=z0 y4)<|WO.fn (e2:=z0 y4) ?_;refine W.seq<|W.cF<|W.exit<|W.wk (e:=z3 [(1000008,hobE qc AV.bool v11)]) ?_;exact hK7 v11 h
  ·obtain⟨v11,rfl⟩:∃ x,x=s:=⟨s,rfl⟩;have h:qD x1 (ja (qz a1 (qH) r1 (k1+1))) (x2::r2) k2 v11=some r:=h;rw[qD.eq_2]at h;refine W.sr ?_;let y5:Env:=[(1000008,hobE qc AV.bool v11)];let z7:=fun t=>z6 ((21,I6 (k2:Int))::t);refine WO.pq 0 (jB (Jr hk2)) (e1:=z7 ((22,.bool true)::y5))<|WO.fn (e2:=z7 ((22,.bool true)::y5)) ?_;refine W.seq<|W.cT<|W.skip ?_;let y6:Env:=(9,l44 none a1)::(10,I6 (a1.length:Int))::(11,I6 (k1:Int))::(19,l44 none e10)::(20,I6 (e10.length:Int))::(21,I6 (k2:Int))::y5;let z8:=fun t=>z1 ((5,.ptr (.agg [I6 x1.qg,I6 x1.qi,I6 x1.qj]))::t);refine W.wk (e:=z8 y6)<|W.seq<|W.join (σ:=((List (qd×Bool)))) (fun s=>z7 [(1000008,hobE qc AV.bool s)]) (fun s=>(jf (qD x1 (ja (qz a1 (qH) r1 (k1+1))) r2 (k2+1))) s=some r) (fun v18 h=>?_) (fun hK12=>?_)
   ·unfold jf at h;refine W.rg<|WO.pq 0 (jI (jg hl2 hk2)) (e1:=z7 [(51,I6 ((k2+1:Nat):Int)),(1000008,hobE qc AV.bool v18)])<|WO.fn (e2:=z6 [(21,I6 ((k2+1:Nat):Int)),(1000008,hobE qc AV.bool v18)]) ?_;exact hN2 v18 h
   refine W.block<|W.sr<|WO.pq 0 (Js (f:=jn) hx2) (e1:=z7 ((23,.ptr (.agg [I6 x2.qg,I6 x2.qi,I6 x2.qj]))::y5)) ?_;let z9:=fun t=>z8 ((7,.ptr (.agg [I6 x2.qg,I6 x2.qi,I6 x2.qj]))::t);refine WO.fi [0,3,5,7,9,10,11,19,20,21,1000008] [7] (e2:=z9 y6) ?_;refine W.seq ?_;let z10:=fun t=>z9 ((9,l44 none a1)::(10,I6 (a1.length:Int))::(11,I6 (k1:Int))::(19,l44 none e10)::(20,I6 (e10.length:Int))::(21,I6 (k2:Int))::t);refine W.join (σ:=(Bool)) (fun s=>z10 ((44,.bool s)::y5)) (fun s=>(jm x1 x2 v11 (jf (qD x1 (ja (qz a1 (qH) r1 (k1+1))) r2 (k2+1)))) s=some r) (fun v15 h=>?_) (fun hK14=>?_)
   ·unfold jm at h;refine W.ch v15 h (fun h=>?_) (fun h=>?_)
    ·refine W.rg ?_;obtain⟨hc16,h⟩:=qw h;obtain⟨hc17,h⟩:=qw h;let y7:Env:=[(1000008,hobE qc AV.bool (mset qr (qd.mk x1.qg x2.qg) true v11))];refine WO.mapK (F:=qc) (G:=AV.bool) (eq:=qr) (l:=v11) (a:=(qd.mk x1.qg x2.qg)) (b:=true) (id:=1000008) (kt:=73) 6 (Yc hc16) hc17 (e1:=z10 ((44,.bool v15)::(45,.mb 0 1000008)::(46,.ptr (I6 x1.qg))::(47,I6 x1.qg)::(48,.ptr (I6 x2.qg))::(49,I6 x2.qg)::(50,.agg [I6 x1.qg,I6 x2.qg])::y7)) ?_ (fun x=>by kernel_rfl) (fun x y=>by kernel_rfl);refine WO.fn (e2:=z7 y7) ?_;exact hK12 (mset qr (qd.mk x1.qg x2.qg) true v11) h
    refine W.sw (e:=z8 y6) ?_;exact hK12 v11 h
   refine W.rg ?_;let z11:=fun t=>z10 ((25,.ptr (I6 x1.qg))::(26,I6 x1.qg)::(27,.ptr (I6 x2.qg))::(28,I6 x2.qg)::t);refine WO.bh 6 (fun b=>z11 ((29,.bool b)::(30,.bool b)::y5)) (x1.qg != x2.qg) h (fun h=>?_) (fun h=>?_)
   ·refine WO.bh 7 (fun b=>z11 ((29,.bool true)::(30,.bool true)::(31,.ptr (I6 x1.qj))::(32,I6 x1.qj)::(33,.ptr (I6 x2.qj))::(34,I6 x2.qj)::(35,.bool b)::(36,.bool b)::(37,.bool b)::y5)) (x1.qj == x2.qj) h (fun h=>?_) (fun h=>?_)
    ·refine WO.fn (e2:=z10 ((44,.bool ((if x2.qi > x1.qi then x2.qi else x1.qi) == 1))::y5)) ?_;exact hK14 ((if x2.qi > x1.qi then x2.qi else x1.qi) == 1) h
    refine WO.fn (e2:=z10 ((44,.bool false)::y5)) ?_;exact hK14 false h
   refine WO.fn (e2:=z10 ((44,.bool false)::y5)) ?_;exact hK14 false h
def JZ (a1:(List Int)):Option (List Int):=chk (capOk 8 (0+a1.length)) (some a1)
theorem XW (a1:(List Int)) (r:(List Int)) (h:JZ a1=some r):Run Try.prog (.callM 53 [l3 none a1] [] (.sb 1900000 3 1 0 r.length) [(1900000,.obj 3 1 (M6 r))]):=by
 refine cM Try.func53 rfl (env0:=[(0,l3 none a1)]) ?_;unfold JZ at h;obtain⟨hc,h⟩:=qw h;cases h;refine W.regS [0] [] [] [] (e2:=[(0,l3 none a1)]) (by kernel_rfl) (by kernel_rfl) ?_;let z0:=fun t=>EN ((2,.sb 1900000 3 1 0 a1.length)::(1900000,.obj 3 1 (M6 a1))::t);refine W.seqU (e0:=[(0,l3 none a1),(3,l3 none a1),(4,.ub (M6 a1).isEmpty)]) (e2:=z0 []) (ei:=[(0,l3 none a1)]) (M6 a1).isEmpty ?_ (by kernel_rfl) (fun hp=>?_) ?_ ?_ ?_
 ·exact W.region (by kernel_rfl) (WO.end0 (e2:=[(0,l3 none a1),(3,l3 none a1),(4,.ub (M6 a1).isEmpty)]) (by kernel_rfl) ⟨rfl,rfl⟩)
 ·have hl:a1=[]:=by simpa using hp
  subst hl;refine W.regS [2] [] [] [] (e2:=[(2,.nils)]) (by kernel_rfl) (by kernel_rfl)<|W.mv [.nil 2 3 1 1900000] (env':=[(2,.sb 1900000 3 1 0 0),(1900000,.obj 3 1 [])]) (by kernel_rfl) ?_;exact W.ret ⟨rfl,rfl⟩
 ·refine W.weak [0] [] [] [] (env':=[(0,l3 none a1)]) (by kernel_rfl) ?_;exact W.skip ⟨rfl,rfl⟩
 ·refine W.sr<|WO.rowK 0 (e1:=[(0,l3 none a1),(5,.sb 1000005 3 1 0 0),(1000005,.obj 3 1 [])]) (by kernel_rfl)<|WO.appendOK 1 (d:=7) (e:=3) (s:=1) (bytes:=8) (m:=0) (n2:=a1.length) (xs:=[]) (ys:=(M6 a1)) (zs:=(M6 a1)) (env1:=[(0,l3 none a1),(5,.top),(6,l3 none a1)]) (by kernel_rfl) (by rw[A9];exact hc) rfl (A9 _) (e1:=[(0,l3 none a1),(5,.top),(6,l3 none a1),(7,.sb 1000007 3 1 0 a1.length),(1000007,.obj 3 1 (M6 a1))]) (by kernel_rfl) ?_;refine WO.fn (e2:=[(2,.sb 1000007 3 1 0 a1.length),(1000007,.obj 3 1 (M6 a1))]) ?_;refine W.mv [.ren 1000007 1900000] (env':=z0 []) (by kernel_rfl) ?_;exact W.ret ⟨rfl,rfl⟩
 ·exact⟨by kernel_rfl,by kernel_rfl⟩
def JQ:Option Int :=
 (some (-1))
def jF (g2:(Int→Option Bool)) (K4:(Option Int)):List Int→Nat→Option Int
 | [],k1=>K4
 | x1::r1,k1=>((g2 x1).bind fun w9=>(bif w9 then (some (k1:Int)) else (jF g2 K4 r1 (k1+1))))
def JY (a1:(List Int)) (g2:(Int→Option Bool)):Option Int :=
 (chk (lenOk a1) (jF g2 (JQ) a1 0))
theorem XU (a1:(List Int)) (g2:(Int→Option Bool)) (F_g2:Nat) (C_g2:List AV) (hok_g2:okFn Try.prog F_g2=true) (hrun_g2:∀ (x0:Int) r,g2 x0=some r→Run Try.prog (.call F_g2 ([I6 x0]++C_g2) (.bool r))) (r:Int) (h:JY a1 g2=some r):Run Try.prog (.call 88 [l3 none a1,.clo F_g2 C_g2] (I6 r)):=by
 refine cW Try.func88 rfl (env0:=[(0,l3 none a1),(1,.clo F_g2 C_g2)]) ?_;unfold JY at h;refine W.seq ?_;let z0:=fun t=>EN ((0,l3 none a1)::(1,.clo F_g2 C_g2)::t);refine W.rt (e2:=z0 []) ?_;refine W.seq<|W.join (σ:=Unit) (fun s=>[]) (fun s=>(JQ)=some r) (fun s h=>?_) (fun hK4=>?_)
 ·unfold JQ at h;refine W.seq<|W.rt (e2:=[(4,I6 (-1))]) ?_;refine W.wk (e:=[(4,I6 (-1))]) ?_;cases h;exact W.rr
 refine W.sr<|WO.pq 1 (jM (.int .i64) a1) (e1:=z0 [(6,l3 none a1),(7,I6 (a1.length:Int))]) ?_;let z1:=fun t=>z0 ((7,I6 (a1.length:Int))::t);refine WO.fn (e2:=z1 [(8,.int .i64 0)]) ?_;refine W.block ?_;obtain⟨hl1,h⟩:=qw h;refine W.wk (e:=z1 [(8,I6 ((0:Nat):Int))])<|W.range (σ:=Unit) a1 (fun k1 s=>z1 [(8,I6 (k1:Int))]) (fun r0 k0 s=>jF g2 (JQ) r0 k0=some r) (fun s h=>?_) (fun x1 r1 k1 s hx1 hk1 h hN1=>?_) () h
 ·rw[jF.eq_1]at h;refine W.sr ?_;let y0:Env:=[(1,.clo F_g2 C_g2),(7,I6 (a1.length:Int)),(8,I6 ((a1).length:Int)),(9,.bool false)];refine WO.pq 0 (jB (jN (l:=a1))) (e1:=((0,l3 none a1)::y0))<|WO.fn (e2:=((0,l3 none a1)::y0)) ?_;refine W.seq<|W.cF<|W.exit<|W.wk (e:=[]) ?_;exact hK4 () h
 ·rw[jF.eq_2]at h;refine W.sr ?_;let y1:Env:=[(1,.clo F_g2 C_g2),(7,I6 (a1.length:Int)),(8,I6 (k1:Int)),(9,.bool true)];let z2:=fun t=>EN ((0,l3 none a1)::t);refine WO.pq 0 (jB (Jr hk1)) (e1:=z2 y1)<|WO.fn (e2:=z2 y1) ?_;refine W.seq<|W.cT<|W.skip ?_;let y2:Env:=[(7,I6 (a1.length:Int)),(8,I6 (k1:Int))];refine W.wk (e:=z0 y2)<|W.seq<|W.block<|W.seq ?_;let z3:=fun t=>z0 ((5,I6 (k1:Int))::t);refine W.rt (e2:=z3 y2) ?_;refine W.sr ?_;let z4:=fun t=>z3 ((7,I6 (a1.length:Int))::(8,I6 (k1:Int))::(11,.clo F_g2 C_g2)::(12,l3 none a1)::(13,I6 (k1:Int))::(14,.ptr (I6 x1))::t);refine WO.pq 3 (Js (f:=(AV.int .i64)) hx1) (e1:=z4 []) ?_;obtain⟨w9,hw9,h⟩:=qh h;refine WO.callK 1 (F:=F_g2) (l:=[I6 x1]) (C:=C_g2) (r:=.bool w9) (by kernel_rfl) hok_g2 (hrun_g2 x1 w9 hw9) (e1:=z4 [(15,I6 x1),(16,.bool w9)]) (by kernel_rfl)<|WO.fn (e2:=z3 [(7,I6 (a1.length:Int)),(8,I6 (k1:Int)),(16,.bool w9)]) ?_;refine W.ch w9 h (fun h=>?_) (fun h=>?_)
  ·refine W.seq<|W.rt (e2:=[(4,I6 (k1:Int))]) ?_;refine W.wk (e:=[(4,I6 (k1:Int))]) ?_;cases h;exact W.rr
  refine W.sw (e:=z0 y2) ?_;refine W.rg<|WO.pq 0 (jI (jg hl1 hk1)) (e1:=z1 [(8,I6 (k1:Int)),(18,I6 ((k1+1:Nat):Int))])<|WO.fn (e2:=z1 [(8,I6 ((k1+1:Nat):Int))]) ?_;exact hN1 () h
def JR (a1:(List Int)) (g2:(Int→Option Bool)):Option Bool :=
 ((JY a1 g2).bind fun w5=>(some (decide (w5 ≥ 0))))
theorem YZ (a1:(List Int)) (g2:(Int→Option Bool)) (F_g2:Nat) (C_g2:List AV) (hok_g2:okFn Try.prog F_g2=true) (hrun_g2:∀ (x0:Int) r,g2 x0=some r→Run Try.prog (.call F_g2 ([I6 x0]++C_g2) (.bool r))) (r:Bool) (h:JR a1 g2=some r):Run Try.prog (.call 54 [l3 none a1,.clo F_g2 C_g2] (.bool r)):=by
 refine cW Try.func54 rfl (env0:=[(0,l3 none a1),(1,.clo F_g2 C_g2)]) ?_;unfold JR at h;refine W.seq<|W.rt (e2:=[(0,l3 none a1),(1,.clo F_g2 C_g2)]) ?_;refine W.sr ?_;obtain⟨w5,hw5,h⟩:=qh h;refine WO.ck 2 (F:=88) (l:=[l3 none a1,.clo F_g2 C_g2]) (C:=[]) (r:=I6 w5) (XU a1 g2 F_g2 C_g2 hok_g2 hrun_g2 w5 hw5) (e1:=[(0,l3 none a1),(1,.clo F_g2 C_g2),(5,l3 none a1),(6,.clo F_g2 C_g2),(7,I6 w5)])<|WO.fn (e2:=[(4,.bool (decide (w5 ≥ 0)))]) ?_;refine W.wk (e:=[(4,.bool (decide (w5 ≥ 0)))]) ?_;cases h;exact W.rr
def JT (a1:Int) (c2:(List (qd×Bool))) (c3:Int):Option Bool :=
 (chk (wfI .i64 a1 && wfI .i64 c3) (some (mget qr false (qd.mk a1 c3) c2)))
theorem Za (a1:Int) (c2:(List (qd×Bool))) (c3:Int) (r:Bool) (h:JT a1 c2 c3=some r):Run Try.prog (.call 90 [I6 a1,.ptr (mpE qc AV.bool c2),.ptr (I6 c3)] (.bool r)):=by
 refine cW Try.func90 rfl (env0:=[(0,I6 a1),(1,.ptr (mpE qc AV.bool c2)),(2,.ptr (I6 c3))]) ?_;unfold JT at h;refine W.seq ?_;let z0:=fun t=>EN ((0,I6 a1)::(1,.ptr (mpE qc AV.bool c2))::(2,.ptr (I6 c3))::t);refine W.rt (e2:=z0 []) ?_;refine W.sr ?_;obtain⟨hc6,h⟩:=qw h;refine WO.pk 4 ((alookup Try.prog 67 [] (mpE qc AV.bool c2) (.agg [I6 a1,I6 c3])).map AV.strip) (congrArg (Option.map AV.strip) (jD (F:=qc) (G:=AV.bool) (eq:=qr) (l:=c2) (k:=(qd.mk a1 c3)) (z:=false) (kt:=73) (e:=4) (Yc hc6) (by kernel_rfl) (fun x=>by kernel_rfl) (fun x y=>by kernel_rfl) (by kernel_rfl))) (e1:=z0 [(5,mpE qc AV.bool c2),(6,I6 a1),(7,I6 c3),(8,.agg [I6 a1,I6 c3]),(9,.bool (mget qr false (qd.mk a1 c3) c2))]) ?_;let z1:=fun t=>EN ((4,.bool (mget qr false (qd.mk a1 c3) c2))::t);refine WO.fn (e2:=z1 []) ?_;refine W.wk (e:=z1 []) ?_;cases h;exact W.rr
def JJ (a1:Int) (c2:(List Int)) (c3:(List (qd×Bool))):Option Bool :=
 ((JR c2 (fun y0=>JT y0 c3 a1)).bind fun w6=>(some (!w6)))
theorem ZQ (a1:Int) (c2:(List Int)) (c3:(List (qd×Bool))) (r:Bool) (h:JJ a1 c2 c3=some r):Run Try.prog (.call 89 [I6 a1,.ptr (l3 none c2),.ptr (mpE qc AV.bool c3)] (.bool r)):=by
 refine cW Try.func89 rfl (env0:=[(0,I6 a1),(1,.ptr (l3 none c2)),(2,.ptr (mpE qc AV.bool c3))]) ?_;unfold JJ at h;refine W.seq ?_;let z0:=fun t=>EN ((1,.ptr (l3 none c2))::(2,.ptr (mpE qc AV.bool c3))::(3,.ptr (I6 a1))::t);refine W.rT [1,2,3] [3] (e2:=z0 []) ?_;refine W.sr ?_;obtain⟨w6,hw6,h⟩:=qh h;refine WO.ck 2 (F:=54) (l:=[l3 none c2,.clo 90 [.ptr (mpE qc AV.bool c3),.ptr (I6 a1)]]) (C:=[]) (r:=.bool w6) (YZ c2 (fun y0=>JT y0 c3 a1) 90 [.ptr (mpE qc AV.bool c3),.ptr (I6 a1)] (by kernel_rfl) (fun y0 r h=>Za y0 c3 a1 r h) w6 hw6) (e1:=z0 [(5,l3 none c2),(6,.clo 90 [.ptr (mpE qc AV.bool c3),.ptr (I6 a1)]),(7,.bool w6)]) ?_;refine WO.fn (e2:=[(4,.bool (!w6))]) ?_;refine W.wk (e:=[(4,.bool (!w6))]) ?_;cases h;exact W.rr
def XQ (a1:(List Int)) (n1:Nat) (a2 a3:Int):Option (Nat×(List Int)):=chk (decide (n1=a1.length∧a1.length≤4611686018427387904∧0≤a2∧a2.toNat<a1.length∧a3=a2+1)) (some (a1.length - 1,a1.take a2.toNat++a1.drop (a2.toNat+1)++[0]))
theorem Ug (a1:(List Int)) (n1:Nat) (a2 a3:Int) (r:(Nat×(List Int))) (h:XQ a1 n1 a2 a3=some r):Run Try.prog (.callM 91 [.sb 2000000 3 1 0 n1,I6 a2,I6 a3] [(2000000,.obj 3 1 (M6 a1))] (.sb 2000000 3 1 0 r.1) [(2000000,.obj 3 1 (M6 r.2))]):=by
 unfold XQ at h;obtain⟨hp,h⟩:=qw h;cases h;obtain⟨h1,h2,h3,h4,h5⟩:=of_decide_eq_true hp;subst h1;subst h5;obtain⟨i,rfl⟩:∃ i:Nat,a2=i:=⟨a2.toNat,by omega⟩;rw[Int.toNat_natCast]at h4 ⊢;exact .extM (delete1 h4 h2) (fun id x hx=>by simp only[look]at hx;split at hx <;> cases hx;rfl)
def JB (v23:(List Int)):Option ((List Int)×Bool) :=
 (some (v23,true))
def jl (a1:(List (qd×Bool))) (K7:((List Int)→Option ((List Int)×Bool))):Nat→(List Int)→Nat→(List Int)→Option ((List Int)×Bool)
 | 0,_,_,_=>none
 | m1+1,v8,n9,v10=>(bif (decide (((n9:Nat):Int) > 0)) then ((JY (snap 0 n9 v8) (fun y0=>JJ y0 (snap 0 n9 v8) a1)).bind fun w14=>(bif (decide (w14<0)) then (some (([]:(List Int)),false)) else (chk (decide ((0:Int)≤w14∧w14<((n9:Nat):Int))) ((v8[(0+A8 w14)]?).bind fun e20=>(chk (capOk 8 ((v10++[e20])).length) ((XQ (snap 0 n9 v8) (((snap 0 n9 v8)).length) w14 (IntKind.wrap .i64 (w14+1))).bind fun w22=>((jl a1 K7 m1) w22.2 w22.1 (v10++[e20])))))))) else (K7 v10))
def Ql (fuel:Nat) (a1:(List (qd×Bool))) (a2:(List Int)):Option ((List Int)×Bool) :=
 ((JZ a2).bind fun w5=>(jl a1 (JB) fuel w5 ((w5).length) ([]:(List Int))))
theorem Yh (fuel:Nat) (a1:(List (qd×Bool))) (a2:(List Int)) (r:((List Int)×Bool)) (h:Ql fuel a1 a2=some r):Run Try.prog (.call 50 [mpE qc AV.bool a1,l3 none a2] (.tup [l3 none r.1,.bool r.2])):=by
 refine cW Try.func50 rfl (env0:=[(0,mpE qc AV.bool a1),(1,l3 none a2)]) ?_;unfold Ql at h;refine W.seq ?_;let z0:=fun t=>EN ((1,l3 none a2)::(2,.ptr (mpE qc AV.bool a1))::t);refine W.rT [1,2] [2] (e2:=z0 []) ?_;refine W.sr ?_;obtain⟨w5,hw5,h⟩:=qh h;let y0:Env:=[(1000010,.obj 3 1 (M6 w5))];refine WO.cm 1 [] [(1000010,1900000)] (F:=53) (args:=[l3 none a2]) (hp:=[]) (hp2:=[(1900000,.obj 3 1 (M6 w5))]) (r:=.sb 1900000 3 1 0 ((w5).length)) (XW a2 w5 hw5) (e1:=z0 ((9,l3 none a2)::(10,.sb 1000010 3 1 0 ((w5).length))::y0)) ?_;let z1:=fun t=>EN ((2,.ptr (mpE qc AV.bool a1))::t);let z2:=fun t=>z1 ((6,.bxg [.sb 1000010 3 1 0 ((w5).length)])::t);refine WO.fn (e2:=z2 y0) ?_;refine W.seq<|W.rt (e2:=z2 ((7,.nils)::y0)) ?_;refine W.seq<|W.join (σ:=((List Int))) (fun s=>[(7,l3 (some 10700) s)]) (fun s=>(JB) s=some r) (fun v23 h=>?_) (fun hK7=>?_)
 ·unfold JB at h;refine W.seq<|W.rt (e2:=[(4,l3 (some 10700) v23),(5,.bool true)]) ?_;refine W.wk (e:=[(4,l3 (some 10700) v23),(5,.bool true)]) ?_;cases h;exact W.rr
 refine W.block<|W.weak [2,6,7,1000010] [] [(7,0,3,1,10700)] [] (env':=z2 ((7,l3 (some 10700) ([]:(List Int)))::y0)) (by kernel_rfl)<|W.fuel (σ:=((List Int)×Nat×(List Int))) (fun s=>z1 [(6,.bxg [.sb 1000010 3 1 0 s.2.1]),(7,l3 (some 10700) s.2.2),(1000010,.obj 3 1 (M6 s.1))]) (fun m0 s=>jl a1 (JB) m0 s.1 s.2.1 s.2.2=some r) (fun s h=>?_) (fun m1 s h hN1=>?_) fuel (w5,(w5).length,([]:(List Int))) h
 ·obtain⟨v8,n9,v10⟩:=s;have h:jl a1 (JB) 0 v8 n9 v10=some r:=h;rw[jl.eq_1]at h;cases h
 ·obtain⟨v8,n9,v10⟩:=s;have h:jl a1 (JB) (m1+1) v8 n9 v10=some r:=h;rw[jl.eq_2]at h;refine W.seq<|W.seq ?_;let y1:Env:=[(1000010,.obj 3 1 (M6 v8))];let z3:=fun t=>z1 ((6,.bxg [.sb 1000010 3 1 0 n9])::(7,l3 (some 10700) v10)::t);refine W.rt (e2:=z3 ((13,.bool (decide (((n9:Nat):Int) > 0)))::y1)) ?_;refine W.ch (decide (((n9:Nat):Int) > 0)) h (fun h=>?_) (fun h=>?_)
  ·refine W.sw (e:=z3 y1) ?_;refine W.block<|W.sr ?_;obtain⟨w14,hw14,h⟩:=qh h;refine WO.callRK 2 (F:=88) (l:=[.lst 3 1 none (snapA 0 n9 (M6 v8)),.clo 89 [.ptr (.lst 3 1 none (snapA 0 n9 (M6 v8))),.ptr (mpE qc AV.bool a1)]]) (C:=[]) (args:=[l3 none (snap 0 n9 v8),.clo 89 [.ptr (l3 none (snap 0 n9 v8)),.ptr (mpE qc AV.bool a1)]]) (r:=I6 w14) (by kernel_rfl) (by first | (simp only[NY,Dr,qbg,List.cons_append,List.nil_append];done) | (simp only[NY,Dr,qbg,List.cons_append,List.nil_append];kernel_rfl)) (by kernel_rfl) (by kernel_rfl) (XU (snap 0 n9 v8) (fun y0=>JJ y0 (snap 0 n9 v8) a1) 89 [.ptr (l3 none (snap 0 n9 v8)),.ptr (mpE qc AV.bool a1)] (by kernel_rfl) (fun y0 r h=>ZQ y0 (snap 0 n9 v8) a1 r h) w14 hw14) (e1:=z3 ((14,.sb 1000010 3 1 0 n9)::(15,.clb 89 [.pb 6 0,.ptr (mpE qc AV.bool a1)])::(16,I6 w14)::y1)) (by kernel_rfl) ?_;let y2:Env:=(6,.bxg [.sb 1000010 3 1 0 n9])::(7,l3 (some 10700) v10)::(8,I6 w14)::y1;refine WO.fn (e2:=z1 y2) ?_;refine W.seq<|W.seq<|W.rt (e2:=z3 ((8,I6 w14)::(18,.bool (decide (w14<0)))::y1)) ?_;refine W.ch (decide (w14<0)) h (fun h=>?_) (fun h=>?_)
   ·refine W.seq<|W.rt (e2:=[(4,.nils),(5,.bool false)]) ?_;refine W.weak [4,5] [] [(4,0,3,1,70004)] [] (env':=[(4,l3 (some 70004) ([]:(List Int))),(5,.bool false)]) (by kernel_rfl) ?_;cases h;exact W.rr
   refine W.sw (e:=z1 y2) ?_;refine W.sr ?_;obtain⟨hc19,h⟩:=qw h;let z4:=fun t=>z3 ((8,I6 w14)::(19,l3 (some 10700) v10)::(20,.sb 1000010 3 1 0 n9)::(21,I6 w14)::(22,.pe 1000010 1 (0+A8 w14) 0)::t);refine WO.pi 3 (v:=.pe 1000010 1 (0+A8 w14) 0) hc19 (e1:=z4 y1) ?_;obtain⟨e20,he20,h⟩:=qh h;refine WO.pl 0 (v:=I6 e20) (AV.int .i64) 3 0 he20 (e1:=z4 ((23,I6 e20)::y1)) ?_;obtain⟨hc21,h⟩:=qw h;let z5:=fun t=>z1 ((6,.bxg [.sb 1000010 3 1 0 n9])::t);refine WO.appendK 1 (d:=25) (e:=3) (s:=1) (bytes:=8) (xs:=(M6 v10)) (ys:=(M6 [e20])) (zs:=(M6 (v10++[e20]))) (env1:=[(2,.ptr (mpE qc AV.bool a1)),(6,.bxg [.sb 1000010 3 1 0 n9]),(7,l3 none v10),(8,I6 w14),(19,l3 none v10),(20,.sb 1000010 3 1 0 n9),(21,I6 w14),(22,.pe 1000010 1 (0+A8 w14) 0),(23,I6 e20),(24,l3 (some 24) [e20]),(1000010,.obj 3 1 (M6 v8))]) (by kernel_rfl) (List.map_append.symm) (by rw[A9];exact hc21) (e1:=z5 ((7,l3 none v10)::(8,I6 w14)::(19,l3 none v10)::(20,.sb 1000010 3 1 0 n9)::(21,I6 w14)::(22,.pe 1000010 1 (0+A8 w14) 0)::(23,I6 e20)::(24,l3 (some 24) [e20])::(25,l3 (some 25) (v10++[e20]))::y1)) (by kernel_rfl) ?_;let z6:=fun t=>z5 ((7,l3 (some 25) (v10++[e20]))::(8,I6 w14)::t);refine WO.fn (e2:=z6 y1) ?_;refine W.rg<|WO.steps 4 (e1:=z6 ((26,.sb 1000010 3 1 0 n9)::(27,I6 w14)::(28,I6 w14)::(29,I6 (W6 (w14+1)))::y1)) (by kernel_rfl) ?_;let z7:=fun t=>z1 ((6,.bxg [.top])::(7,l3 (some 25) (v10++[e20]))::(8,I6 w14)::(26,.sb 1000010 3 1 0 (((snap 0 n9 v8)).length))::(27,I6 w14)::(28,I6 w14)::(29,I6 (W6 (w14+1)))::t);refine WO.mv [.trim 26 1000010] (env':=z7 [(1000010,.obj 3 1 (M6 (snap 0 n9 v8)))]) ((by kernel_rfl:mvAll [(2,.ptr (mpE qc AV.bool a1)),(6,.bxg [.sb 1000010 3 1 0 n9]),(7,l3 (some 25) (v10++[e20])),(8,I6 w14),(26,.sb 1000010 3 1 0 n9),(27,I6 w14),(28,I6 w14),(29,I6 (W6 (w14+1))),(1000010,.obj 3 1 (M6 v8))] [.trim 26 1000010]=[(2,.ptr (mpE qc AV.bool a1)),(6,.bxg [.top]),(7,l3 (some 25) (v10++[e20])),(8,I6 w14),(26,.sb 1000010 3 1 0 (snapA 0 n9 (M6 v8)).length),(27,I6 w14),(28,I6 w14),(29,I6 (W6 (w14+1))),(1000010,.obj 3 1 (snapA 0 n9 (M6 v8)))]).trans (by simp only[NY,A9]<;>rfl)) ?_;obtain⟨w22,hw22,h⟩:=qh h;refine WO.cm 0 [(1000010,2000000)] [] (F:=91) (args:=[.sb 2000000 3 1 0 (((snap 0 n9 v8)).length),I6 w14,I6 (W6 (w14+1))]) (hp:=[(2000000,.obj 3 1 (M6 (snap 0 n9 v8)))]) (hp2:=[(2000000,.obj 3 1 (M6 w22.2))]) (r:=.sb 2000000 3 1 0 w22.1) (Ug (snap 0 n9 v8) (((snap 0 n9 v8)).length) w14 (W6 (w14+1)) w22 hw22) (e1:=z7 [(30,.sb 1000010 3 1 0 w22.1),(1000010,.obj 3 1 (M6 w22.2))])<|WO.fin [2,6,7,1000010] [] [] [(25,some 10700)] (e2:=z1 [(6,.bxg [.sb 1000010 3 1 0 w22.1]),(7,l3 (some 10700) (v10++[e20])),(1000010,.obj 3 1 (M6 w22.2))]) (by kernel_rfl) (fun _ h=>h) ?_;exact hN1 (w22.2,w22.1,(v10++[e20])) h
  refine W.exit<|W.wk (e:=[(7,l3 (some 10700) v10)]) ?_;exact hK7 v10 h
def Xx (fuel:Nat) (a1:(List hsOp)):Option ((List Int)×Int) :=
 ((QT a1).bind fun w5=>(bif (!w5) then (some (([]:(List Int)),2)) else ((Jx fuel a1).bind fun w8=>((Jj w8).bind fun w9=>((jj fuel a1).bind fun w10=>((Ql fuel w9 w10).bind fun w11=>(bif (!w11.2) then (some (([]:(List Int)),8)) else (some (w11.1,0)))))))))
theorem Zt (fuel:Nat) (a1:(List hsOp)) (r:((List Int)×Int)) (h:Xx fuel a1=some r):Run Try.prog (.call 17 [l44 none a1] (.tup [l3 none r.1,I6 r.2])):=by
 refine cW Try.func17 rfl (env0:=[(0,l44 none a1)]) ?_;unfold Xx at h;refine W.seq ?_;let z0:=fun t=>EN ((0,l44 none a1)::t);refine W.rt (e2:=z0 []) ?_;refine W.seq<|W.sr ?_;obtain⟨w5,hw5,h⟩:=qh h;refine WO.ck 1 (F:=26) (l:=[l44 none a1]) (C:=[]) (r:=.bool w5) (QC a1 w5 hw5) (e1:=z0 [(6,l44 none a1),(7,.bool w5)])<|WO.fn (e2:=z0 [(8,.bool (!w5))]) ?_;refine W.ch (!w5) h (fun h=>?_) (fun h=>?_)
 ·refine W.seq<|W.rt (e2:=[(2,.nils),(3,.int .i64 2)]) ?_;refine W.weak [2,3] [] [(2,0,3,1,70002)] [] (env':=[(2,l3 (some 70002) ([]:(List Int))),(3,.int .i64 2)]) (by kernel_rfl) ?_;cases h;exact W.rr
 refine W.sw (e:=z0 []) ?_;refine W.sr ?_;obtain⟨w8,hw8,h⟩:=qh h;let z1:=fun t=>z0 ((10,l44 none a1)::(11,l44 (some 11) w8)::t);refine WO.ck 1 (F:=48) (l:=[l44 none a1]) (C:=[]) (r:=l44 (some 1) w8) (QZ fuel a1 w8 hw8) (e1:=z1 []) ?_;obtain⟨w9,hw9,h⟩:=qh h;let z2:=fun t=>z1 ((12,mpE qc AV.bool w9)::t);refine WO.ck 0 (F:=49) (l:=[l44 none w8]) (C:=[]) (r:=mpE qc AV.bool w9) (Xb w8 w9 hw9) (e1:=z2 []) ?_;obtain⟨w10,hw10,h⟩:=qh h;let z3:=fun t=>z2 ((13,l44 none a1)::(14,l3 none w10)::t);refine WO.ck 1 (F:=51) (l:=[l44 none a1]) (C:=[]) (r:=l3 none w10) (Jb fuel a1 w10 hw10) (e1:=z3 []) ?_;obtain⟨w11,hw11,h⟩:=qh h;refine WO.ck 0 (F:=50) (l:=[mpE qc AV.bool w9,l3 none w10]) (C:=[]) (r:=.tup [l3 none w11.1,.bool w11.2]) (Yh fuel w9 w10 w11 hw11) (e1:=z3 [(15,.tup [l3 none w11.1,.bool w11.2])])<|WO.fn (e2:=[(4,l3 none w11.1),(5,.bool w11.2)]) ?_;refine W.seq<|W.seq<|W.rt (e2:=[(4,l3 none w11.1),(19,.bool (!w11.2))]) ?_;refine W.ch (!w11.2) h (fun h=>?_) (fun h=>?_)
 ·refine W.seq<|W.rt (e2:=[(2,.nils),(3,.int .i64 8)]) ?_;refine W.weak [2,3] [] [(2,0,3,1,70002)] [] (env':=[(2,l3 (some 70002) ([]:(List Int))),(3,.int .i64 8)]) (by kernel_rfl) ?_;cases h;exact W.rr
 refine W.sw (e:=[(4,l3 none w11.1)]) ?_;refine W.seq<|W.rt (e2:=[(2,l3 none w11.1),(3,.int .i64 0)]) ?_;refine W.wk (e:=[(2,l3 none w11.1),(3,.int .i64 0)]) ?_;cases h;exact W.rr
def Qj:Option Bool :=
 (some true)
def jE (a2:(List Int)) (K7:(Option Bool)):List Int→Nat→Option Bool
 | [],k1=>K7
 | x1::r1,k1=>((idx a2 (k1:Int)).bind fun e12=>(bif (x1 != e12) then (some false) else (jE a2 K7 r1 (k1+1))))
def Jn (a1:(List Int)) (a2:(List Int)):Option Bool :=
 (bif ((a1.length:Int) != (a2.length:Int)) then (some false) else (chk (lenOk a1) (jE a2 (Qj) a1 0)))
theorem Qa (a1:(List Int)) (a2:(List Int)) (r:Bool) (h:Jn a1 a2=some r):Run Try.prog (.call 24 [l3 none a1,l3 none a2] (.bool r)):=by
 refine cW Try.func24 rfl (env0:=[(0,l3 none a1),(1,l3 none a2)]) ?_;unfold Jn at h;refine W.seq ?_;let z0:=fun t=>EN ((0,l3 none a1)::(1,l3 none a2)::t);refine W.rt (e2:=z0 []) ?_;refine W.seq<|W.sr ?_;let z1:=fun t=>z0 ((6,l3 none a1)::(7,I6 (a1.length:Int))::t);refine WO.pq 1 (jM (.int .i64) a1) (e1:=z1 [])<|WO.pq 1 (jM (.int .i64) a2) (e1:=z1 [(8,l3 none a2),(9,I6 (a2.length:Int))])<|WO.fn (e2:=z0 [(10,.bool ((a1.length:Int) != (a2.length:Int)))]) ?_;refine W.ch ((a1.length:Int) != (a2.length:Int)) h (fun h=>?_) (fun h=>?_)
 ·refine W.seq<|W.rt (e2:=[(4,.bool false)]) ?_;refine W.wk (e:=[(4,.bool false)]) ?_;cases h;exact W.rr
 refine W.sw (e:=z0 []) ?_;refine W.seq<|W.join (σ:=Unit) (fun s=>[]) (fun s=>(Qj)=some r) (fun s h=>?_) (fun hK7=>?_)
 ·unfold Qj at h;refine W.seq<|W.rt (e2:=[(4,.bool true)]) ?_;refine W.wk (e:=[(4,.bool true)]) ?_;cases h;exact W.rr
 refine W.sr<|WO.pq 1 (jM (.int .i64) a1) (e1:=z0 [(11,l3 none a1),(12,I6 (a1.length:Int))]) ?_;let z2:=fun t=>z0 ((12,I6 (a1.length:Int))::t);refine WO.fn (e2:=z2 [(13,.int .i64 0)]) ?_;refine W.block ?_;obtain⟨hl1,h⟩:=qw h;refine W.wk (e:=z2 [(13,I6 ((0:Nat):Int))])<|W.range (σ:=Unit) a1 (fun k1 s=>z2 [(13,I6 (k1:Int))]) (fun r0 k0 s=>jE a2 (Qj) r0 k0=some r) (fun s h=>?_) (fun x1 r1 k1 s hx1 hk1 h hN1=>?_) () h
 ·rw[jE.eq_1]at h;refine W.sr ?_;let y0:Env:=[(1,l3 none a2),(12,I6 (a1.length:Int)),(13,I6 ((a1).length:Int)),(14,.bool false)];refine WO.pq 0 (jB (jN (l:=a1))) (e1:=((0,l3 none a1)::y0))<|WO.fn (e2:=((0,l3 none a1)::y0)) ?_;refine W.seq<|W.cF<|W.exit<|W.wk (e:=[]) ?_;exact hK7 () h
 ·rw[jE.eq_2]at h;refine W.sr ?_;let y1:Env:=[(1,l3 none a2),(12,I6 (a1.length:Int)),(13,I6 (k1:Int)),(14,.bool true)];let z3:=fun t=>EN ((0,l3 none a1)::t);refine WO.pq 0 (jB (Jr hk1)) (e1:=z3 y1)<|WO.fn (e2:=z3 y1) ?_;refine W.seq<|W.cT<|W.skip ?_;let y2:Env:=[(12,I6 (a1.length:Int)),(13,I6 (k1:Int))];refine W.wk (e:=z0 y2)<|W.seq<|W.block<|W.seq ?_;let z4:=fun t=>z0 ((5,I6 (k1:Int))::t);refine W.rt (e2:=z4 y2) ?_;refine W.sr ?_;let z5:=fun t=>z4 ((12,I6 (a1.length:Int))::(13,I6 (k1:Int))::(16,l3 none a1)::(17,I6 (k1:Int))::(18,.ptr (I6 x1))::t);refine WO.pq 2 (Js (f:=(AV.int .i64)) hx1) (e1:=z5 []) ?_;obtain⟨e12,he12,h⟩:=qh h;refine WO.pq 3 (qaI (f:=(AV.int .i64)) he12) (e1:=z5 [(19,I6 x1),(20,l3 none a2),(21,I6 (k1:Int)),(22,.ptr (I6 e12))])<|WO.fn (e2:=z2 [(13,I6 (k1:Int)),(24,.bool (x1 != e12))]) ?_;refine W.ch (x1 != e12) h (fun h=>?_) (fun h=>?_)
  ·refine W.seq<|W.rt (e2:=[(4,.bool false)]) ?_;refine W.wk (e:=[(4,.bool false)]) ?_;cases h;exact W.rr
  refine W.sw (e:=z0 y2) ?_;refine W.rg<|WO.pq 0 (jI (jg hl1 hk1)) (e1:=z2 [(13,I6 (k1:Int)),(25,I6 ((k1+1:Nat):Int))])<|WO.fn (e2:=z2 [(13,I6 ((k1+1:Nat):Int))]) ?_;exact hN1 () h
def Yn (v6:Bool):Option Bool :=
 (some v6)
def Yt (fuel:Nat):Option Bool :=
 ((Xx fuel [(hsOp.mk 2 1 0),(hsOp.mk 1 0 0),(hsOp.mk 1 2 0),(hsOp.mk 2 2 0)]).bind fun w3=>(bif (w3.2 == 0) then ((Jn w3.1 [2,1]).bind fun w5=>((Yn) w5)) else ((Yn) false)))
theorem VJ (fuel:Nat)  (r:Bool) (h:Yt fuel=some r):Run Try.prog (.call 21 [] (.bool r)):=by
 refine cW Try.func21 rfl (env0:=[]) ?_;unfold Yt at h;refine W.seq<|W.rt (e2:=[]) ?_;refine W.sr ?_;obtain⟨w3,hw3,h⟩:=qh h;refine WO.ck 5 (F:=17) (l:=[l44 none [(hsOp.mk 2 1 0),(hsOp.mk 1 0 0),(hsOp.mk 1 2 0),(hsOp.mk 2 2 0)]]) (C:=[]) (r:=.tup [l3 none w3.1,I6 w3.2]) (Zt fuel [(hsOp.mk 2 1 0),(hsOp.mk 1 0 0),(hsOp.mk 1 2 0),(hsOp.mk 2 2 0)] w3 hw3) (e1:=[(4,.agg [.int .i64 2,.int .i64 1,.int .i64 0]),(5,.agg [.int .i64 1,.int .i64 0,.int .i64 0]),(6,.agg [.int .i64 1,.int .i64 2,.int .i64 0]),(7,.agg [.int .i64 2,.int .i64 2,.int .i64 0]),(8,l44 (some 8) [(hsOp.mk 2 1 0),(hsOp.mk 1 0 0),(hsOp.mk 1 2 0),(hsOp.mk 2 2 0)]),(9,.tup [l3 none w3.1,I6 w3.2])]) ?_;let z0:=fun t=>EN ((1,l3 none w3.1)::(2,I6 w3.2)::t);refine WO.fn (e2:=z0 []) ?_;refine W.seq<|W.join (σ:=(Bool)) (fun s=>[(0,.bool s)]) (fun s=>(Yn) s=some r) (fun v6 h=>?_) (fun hK4=>?_)
 ·unfold Yn at h;refine W.wk (e:=[(0,.bool v6)]) ?_;cases h;exact W.rr
 refine W.rg<|WO.bh 3 (fun b=>z0 [(12,I6 w3.2),(13,.bool b),(14,.bool b)]) (w3.2 == 0) h (fun h=>?_) (fun h=>?_)
 ·obtain⟨w5,hw5,h⟩:=qh h;refine WO.ck 2 (F:=24) (l:=[l3 none w3.1,l3 none [2,1]]) (C:=[]) (r:=.bool w5) (Qa w3.1 [2,1] w5 hw5) (e1:=z0 [(12,I6 w3.2),(13,.bool true),(14,.bool true),(15,l3 none w3.1),(16,l3 (some 16) [2,1]),(17,.bool w5)])<|WO.fn (e2:=[(0,.bool w5)]) ?_;exact hK4 w5 h
 refine WO.fn (e2:=[(0,.bool false)]) ?_;exact hK4 false h
end Go.AM
namespace Go.AM
open Go.RowKit Go.Proofs
theorem glob0 (M:Mem):Glob M:=fun g hg=>by cases hg
theorem Cons.below {M:Mem} {w w':World} (h:Cons M w) (hB:Below w.heap.size w w'):Cons M w':=Hy h hB
theorem Cons.of_blocks {M:Mem} {w w':World} (h:Cons M w) (hb:∀ b o u,M b o=some u→b<w.heap.size→w'.heap[b]? = w.heap[b]?):Cons M w':=fun b o u hu=>by
 have h1:=h b o u hu;rw[Qw (hb b o u hu (ZN h1))];exact h1
theorem Cons.alloc {M:Mem} {w:World} (h:Cons M w) (o:Obj):Cons M (w.alloc o):=h.of_blocks fun b _ _ _ hb=>heap_alloc_old w o hb
theorem Cons.setCell {M:Mem} {w:World} (h:Cons M w) {a:Addr} (ha:∀ o,M a.block o=none) (v:Value):Cons M (w.setCell a v) :=
 h.of_blocks fun b o u hu hb=>Below.heap_setCell w a v b fun e=>by rw[e,ha]at hu;cases hu
theorem DV (l:List Int):flat (cL l)=cL l:=ZC l .i64
theorem XG {M:Mem} {l:List Int} {v:Value} (h:R M (.lst 3 1 none (cL l)) v):∃ a cap,v=.slice a l.length cap∧∀ j (hj:j<l.length),∃ b off,a=some ⟨b,off,none⟩∧M b (off+j)=some (.int .i64 l[j]):=by
 generalize hx:cL l=xs at h
 cases h with
 | lstn =>
  have:l=[]:=by simpa[cL] using hx
  subst this;exact⟨none,0,rfl,fun j hj=>absurd hj (by simp)⟩
 | lste _ _ _ ad cap =>
  have:l=[]:=by simpa[cL] using hx
  subst this;exact⟨some ad,cap,rfl,fun j hj=>absurd hj (by simp)⟩
 | lst us h1 h2 h5 h3 h4 =>
  subst hx;rename_i b off cap;refine⟨some ⟨b,off,none⟩,cap,by simp[cL],fun j hj=>⟨b,off,rfl,?_⟩⟩
  have hf:(flat (cL l))[j]? = some (.int .i64 l[j]):=by rw[DV];simp[cL,hj]
  rw[h3 j _ hf,(h4 j _ hf).int_inv]
theorem qaH {M:Mem} {c:List Int} {g off cap:Nat} (hcap:c.length≤cap) (hM:∀ j (hj:j<c.length),M g (off+j)=some (.int .i64 c[j])):R M (.lst 3 1 none (cL c)) (.slice (some ⟨g,off,none⟩) c.length cap):=by
 have hl:(cL c).length=c.length:=by simp[cL]
 have hf:∀ (j:Nat) x,(flat (cL c))[j]? = some x→∃ h:j<c.length,x=.int .i64 c[j]:=by
  intro j x hx;rw[DV]at hx;have hj:=(List.getElem?_eq_some_iff.1 hx).1;rw[hl]at hj;refine⟨hj,?_⟩
  simpa[cL,hj] using hx.symm
 rw[← hl];refine .lst (fun j=>.int .i64 (c.getD j 0)) (by rw[hl];exact hcap) (fun x hx=>?_) (fun x hx=>?_) (fun j x hx=>?_) (fun j x hx=>?_)
 ·obtain⟨z,_,rfl⟩:=List.mem_map.1 hx;rfl
 ·obtain⟨z,_,rfl⟩:=List.mem_map.1 hx;rfl
 ·obtain⟨hj,rfl⟩:=hf j x hx;rw[hM j hj,D0,B3 hj];rfl
 ·obtain⟨hj,rfl⟩:=hf j x hx;rw[D0,B3 hj];exact .int _ _
abbrev intsV (l:List Int):List Value:=l.map (Value.int .i64)
theorem Vu {w:World} {base:Nat} {v:Value} {c:List Int} (h:w.ownsRow base 3 1 v c.length (intsV c)):∃ N:Mem,Cons N w∧R N (.lst 3 1 none (cL c)) v∧∀ b o u,N b o=some u→v.ownBlock=some b:=by
 rcases h.2 with ⟨rfl,h0⟩ | ⟨g,cap,cur,rfl,hb,hg,hn,hm,hs,ht⟩
 ·have:c=[]:=List.eq_nil_of_length_eq_zero h0;subst this;exact⟨fun _ _=>none,fun _ _ _ hu=>(by cases hu),.lstn _ _ _,fun _ _ _ hu=>(by cases hu)⟩
 ·have hcell:∀ j (hj:j<c.length),cur[j]? = some (.int .i64 c[j]):=by
   intro j hj;have h1:=congrArg (fun l=>l[j]?) ht;simp only[List.getElem?_take,Array.getElem?_toList]at h1;rw[if_pos (by omega)]at h1;rw[h1];simp[hj]
  refine⟨fun b o=>if b=g then (c[o]?).map (Value.int .i64) else none,fun b o u hu=>?_,?_,fun b o u hu=>?_⟩
  ·simp only at hu;split at hu
   ·rename_i e;subst e
    cases ho:c[o]? with
    | none=>rw[ho]at hu;cases hu
    | some x =>
     rw[ho]at hu;cases hu;obtain⟨hj,rfl⟩:=List.getElem?_eq_some_iff.1 ho;unfold mc;rw[hg];exact jS (hcell o hj) rfl
   ·cases hu
  ·refine qaH hn fun j hj=>?_
   simp[hj]
  ·simp only at hu;split at hu
   ·rename_i e;subst e;rfl
   ·cases hu
theorem Xp {f:Nat} {args:List AV} {r:AV} (h:Run Try.prog (.call f args r)):CallOk Try.prog f args r:=YY mixedP h
theorem qaS {w w':World} (h:Below w.heap.size w w'):w.grownBy w' none:=⟨h.os,h.tape,h.output,h.size,fun k hk _=>h.block k hk⟩
theorem qbJ {M:Mem} {w:World} {t kt e:TypeId} {ks vs:List AV} {mv kv:Value} {k r:AV} (hC:Cons M w) (hm:R M (.mpv ks vs) mv) (ht:QS Try.prog t=some (kt,e)) (hkv:k.keyV=some kv) (hr:alookup Try.prog t [] (.mpv ks vs) k=some r) :
  ∃ v,(Instr.lookup t mv kv false).run Try.prog w=.ok v w∧R M r v:=by
 unfold alookup at hr;rw[ht]at hr;simp only[Ye]at hr;split at hr
 case h_2=>cases hr
 rename_i hc;simp only[B4]at hc;obtain⟨⟨hfit,hks⟩,hall⟩:=hc;have ht:=QL ht;obtain⟨K,l,hl⟩:=ZA hfit hkv
 have hz:∀ z,zeroA1 Try.prog e=some z→∃ v,(zeroValue e).run Try.prog w=.ok v w∧R M z v:=fun z hz=>by
  obtain⟨v,h1,h2⟩:=Zo (M:=M) (O:=⟨fun _ _=>none,fun _=>0,fun _=>0⟩) (w:=w) hz;exact⟨v,h1,h2⟩
 rcases qaE hm with ⟨rfl,rfl,rfl⟩ | ⟨ks',vs',b,es,clock,hp,rfl,h1,h2,h3,h4,h5,h6,h7⟩
 ·simp only[findA]at hr;obtain⟨z,hz,hz2⟩:=hz _ hr;refine⟨z,?_,hz2⟩
  have hfind:(Instr.findKey kt kv (#[]:Array MapEntry).toList).run Try.prog w=.ok none w:=by
   rcases K.find w hl [] (by simp) with ⟨h1,_⟩ | ⟨j,e,_,h2,_⟩
   ·exact h1
   ·simp at h2
  simp[Instr.lookup,run_underlying ht,K.check w true hl,hfind,hz,B5]
 ·have hb:=Hk (hC _ _ _ h1)
  have hall':ks'.all (keyFits Try.prog kt)=true:=List.all_eq_true.2 fun y hy=>List.all_eq_true.1 hall y (hp.keys.mem_iff.2 hy)
  have E:EntOk M es clock ks' vs':=⟨h2,h3,h4,h5,h6,h7⟩;obtain⟨hck,hst,hfd⟩:=YE (w:=w) hfit hkv hall' E;obtain⟨fp1,fp2⟩:=DW hkv hp E
  rcases hfd with ⟨k1,k2,k3⟩ | ⟨j,e0,k1,k2,k3,k4⟩
  ·rw[fp1 k1]at hr;obtain⟨z,hz,hz2⟩:=hz _ hr;refine⟨z,?_,hz2⟩;simp[Instr.lookup,run_underlying ht,D1 hb,hck,k2,hz,B5]
  ·obtain⟨i,g1,g2⟩:=fp2 j k1;rw[g1]at hr;simp only[g2]at hr;refine⟨e0.val,?_,h7 j r e0 hr (by simpa using k3)⟩;simp[Instr.lookup,run_underlying ht,D1 hb,hck,k2,B5]
def madd (M:Mem) (b:Nat) (v:Value):Mem:=fun b' o=>if b'=b∧o=0 then some v else M b' o
theorem Zx (M:Mem) (b:Nat) (v:Value):madd M b v b 0=some v:=by simp[madd]
theorem jU {M:Mem} {b b' o:Nat} {v:Value} (h:b'≠b):madd M b v b' o=M b' o:=by simp[madd,h]
theorem qfn {M:Mem} {w:World} {b:Nat} {v:Value} (hC:Cons M w) (h:w.heap.size≤b):Sub M (madd M b v):=fun b' o u hu=>by
 have:=ZN (hC _ _ _ hu);rw[jU (by omega)];exact hu
theorem XF {M:Mem} {w:World} {b:Nat} {v:Value} {t:TypeId} {fz:Nat×Nat} {cs:Array Value} (hC:Cons M w) (h:w.heap[b]? = some (.cells cs t fz)) (hv:cs[0]? = some v) (ht:isTup v=false):Cons (madd M b v) w:=fun b' o u hu=>by
 unfold madd at hu;split at hu
 ·rename_i e;obtain⟨rfl,rfl⟩:=e;cases hu;unfold mc;rw[h];exact jS hv ht
 ·exact hC _ _ _ hu
end Go.AM
namespace Go.AM
theorem Nx (t:Int):∀ (l:List Int) (k:Nat),∃ r:Int,Jw t QF l k=some r∧(decide (r ≥ 0)=l.contains t)
 | [],k=>⟨-1,by rw[Jw.eq_1];rfl,rfl⟩
 | x::l,k=>by
  obtain⟨r,h1,h2⟩:=Nx t l (k+1);rw[Jw.eq_2];by_cases h:t=x
  ·subst h;refine⟨(k:Int),by simp,?_⟩;simp
  ·refine⟨r,?_,?_⟩
   ·rw[beq_eq_false_iff_ne.2 h,cN,h1]
   ·rw[h2,List.contains_cons];simp[h]
theorem Uz {l:List Int} (hl:l.length≤100000) (t:Int):QG l t=some (l.contains t):=by
 unfold QG Yk;obtain⟨r,h1,h2⟩:=Nx t l 0;have:lenOk l=true:=Nat.ble_eq_true_of_le (by omega);rw[this];simp only[chk,cT];rw[h1,← h2];rfl
def growF (E:Int→Int→Bool) (l:List Int):Nat→List Int→Option (List Int)
 | 0,c=>if E (c.getLastD 0) (c.headD 0) then some c else none
 | n+1,c=>l.findSome? fun t=>if c.contains t then none else if E (c.getLastD 0) t then growF E l n (c++[t]) else none
def stepF (E:Int→Int→Bool) (l:List Int) (n:Nat) (c:List Int) (t:Int):Option (List Int):=if c.contains t then none else if E (c.getLastD 0) t then growF E l n (c++[t]) else none
end Go.AM
namespace Go.Proofs
open Go.RowKit Go.AM
theorem Try.infoInt:(Try.prog.info? 3).map (fun i=>(i.zero,i.size,i.bytes))=some (some (.int .i64 0),1,8):=by kernel_rfl
theorem Try.indexFunc (k:Nat) (hrun:∀ args w,(callFunc k args).run Try.prog w=.ok (.enter k args) w) (caps:Array Value) (l:List Int) (v:Value) (hlen:l.length≤100000) (M:Mem) (hv:R M (.lst 3 1 none (cL l)) v) (I Q:Nat→World→Prop) (hI:∀ i w,I i w→Cons M w)
  (step:∀ i x w,l[i]? = some x→I i w→Calls Try.prog k (#[.int .i64 x]++caps) w fun e w'=>(e=.returned (.bool true)∧Q i w')∨(e=.returned (.bool false)∧I (i+1) w')) (w:World) (h0:I 0 w) :
  Calls Try.prog 88 #[v,.func (.func k) #[] caps] w fun e w'=>(∃ i:Nat,i<l.length∧e=.returned (.int .i64 i)∧Q i w')∨(e=.returned (.int .i64 (-1))∧I l.length w'):=by
 obtain⟨a,cap,rfl,hcell⟩:=XG hv;clear hv;have mixed:=mixedP;have t3:=Try.underlying3;have a3:=Try.isAgg3;have z3:=Try.sizeOf3;have v3:=Try.zeroValue3;have u3:=run_underlying Try.underlying3;have t4:=Try.underlying4;have a4:=Try.isAgg4;have z4:=Try.sizeOf4;have v4:=Try.zeroValue4;have t24:=Try.underlying24;have a24:=Try.isAgg24;have z24:=Try.sizeOf24;have v24:=Try.zeroValue24
 go_enter Try.func88,Try.ntmps88
 go_wp2
 go_loopw [8] (fun i wr=>∃ k:Nat,k≤l.length∧i=.int .i64 k∧I k wr) (fun i _=>l.length - (RowKit.intOf i).toNat)
 case atStart=>exact⟨0,Nat.zero_le _,rfl,h0⟩
 case round =>
  obtain⟨j,hj,rfl,hIj⟩:=hrel
  rcases Nat.lt_or_ge j l.length with h1 | h1
  ·obtain⟨b,off,rfl,hM⟩:=hcell j h1;have hc:wr.cell? ⟨b,off+j,none⟩=some (.int .i64 l[j]):=je (hI _ _ hIj _ _ _ hM) rfl;have j0:(0:Int)≤(j:Int):=Int.natCast_nonneg _
   have j1:(j:Int)<(l.length:Int):=by omega
   have hs:=step j l[j] wr (B3 h1) hIj;clear hcell
   go_wp2_with fail
   refine hs.mono ?_
   rintro e w' (⟨rfl,hq⟩ | ⟨rfl,hq⟩)
   ·go_wp2
    go_ret
    exact .inl ⟨j,h1,rfl,hq⟩
   ·go_wp2
    go_roundw
    case rel=>exact⟨j+1,h1,by go_num,hq⟩
    case measure=>simp[RowKit.intOf];omega
  ·have hkl:j=l.length:=by omega
   subst hkl
   go_wp2
   go_ret
   exact .inr ⟨rfl,hIj⟩
end Go.Proofs
namespace Go.Proofs
open Go.RowKit Go.AM
theorem Try.run_append_int (w:World) (base:Nat) {g cap:Nat} {c:List Int} (x:Int) {ad:Addr} {c0:Nat} {ty:TypeId} (hown:w.ownsRow base 3 1 (.slice (some ⟨g,0,none⟩) c.length cap) c.length (intsV c)) (hx:w.cell? (ad.add 0)=some (.int .i64 x)) (hlen:c.length≤1000000) (hb:base≤w.heap.size) :
  ∃ g' cap' w',(Builtin.append_ #[24,24] ty #[.slice (some ⟨g,0,none⟩) c.length cap,.slice (some ad) 1 c0]).run Try.prog w=.ok (.slice (some ⟨g',0,none⟩) (c.length+1) cap') w'∧w'.ownsRow base 3 1 (.slice (some ⟨g',0,none⟩) (c.length+1) cap') (c.length+1) (intsV (c++[x])) ∧
   ((g'=g∧cap'=cap∧w.grownBy w' (some g))∨(g'=w.heap.size∧w.grownBy w' none)):=by
 obtain⟨i,hi,hz,hs1,hby⟩:=info_parts Try.infoInt
 have hnews:∀ (j:Nat) u,[Value.int .i64 x][j]? = some u→w.cell? (ad.add j)=some u:=by
  intro j u hj
  match j,hj with
  | 0,hj=>simp at hj;subst hj;exact hx
 have h1:∀ u,u∈[Value.int .i64 x]→u.oneCell'=true:=by intro u hu;simp at hu;subst hu;rfl
 have hap:intsV (c++[x])=intsV c++[.int .i64 x]:=by simp[intsV]
 rw[hap];by_cases hroom:c.length+1≤cap
 ·obtain⟨w',hr,ho,hg⟩:=run_append_fits (P:=Try.prog) w base 24 ty 3 i 1 Try.underlying24 hi hs1 g c.length cap (intsV c) hown ad 1 c0 [.int .i64 x] rfl hnews h1 hroom;exact⟨g,cap,w',hr,ho,.inl ⟨rfl,rfl,hg⟩⟩
 ·have hrow:=hown
  rcases hrow.2 with ⟨hv,h0⟩ | ⟨g',cap',cur,hv,hbg,hg,hnc,hcm,hcs,htake⟩
  ·cases hv
  ·cases hv;have holds:∀ (j:Nat) u,(intsV c)[j]? = some u→w.cell? ((⟨g,0,none⟩:Addr).add j)=some u:=hown.cells (g:=g) rfl;have hr:=run_append_grow (P:=Try.prog) w 24 ty 3 i (.int .i64 0) Try.underlying24 hi hz ⟨g,0,none⟩ c.length cap (intsV c) (by rw[hs1];exact hown.1) holds ad 1 c0 [.int .i64 x] (by rw[hs1];rfl) hnews (by omega) (by omega) (growslice_fits (by omega) (by rw[hby];omega));refine⟨_,_,_,hr,⟨by simp[intsV],.inr ⟨w.heap.size,_,_,rfl,hb,Go.heap_alloc_new w.drew _,grownCap_ge w (c.length+1) cap 3,grownCap_le_maxLen w (c.length+1) cap 3 (by unfold maxLen;omega),?_,?_⟩⟩,.inr ⟨rfl,⟨rfl,rfl,rfl,by simp,fun k hk _=>heap_alloc_old w.drew _ hk⟩⟩⟩
   ·have hge:=grownCap_ge w (c.length+1) cap 3;have hzs:(Value.int IntKind.i64 0).cells.size=1:=rfl;simp only[Array.size_append,List.size_toArray,size_zeroCells,hzs,A9,List.length_cons,List.length_nil];omega
   ·simp only[Array.toList_append,List.append_assoc];rw[← List.append_assoc]
    have:(c.length+1) * 1=(intsV c++[Value.int .i64 x]).length:=by simp[intsV]
    rw[this];exact List.take_left
theorem Try.step_append_int {ops:Array Oper} {o:Oper} {a:Act} {w:World} {K:Act→World→Prop} {Q:Exit→Act→World→Prop} {Z:Prop} (s x:Operand) (ho:o.op=.call { callee:=.builtin .append,args:=#[s,x],argTypes:=#[24,24] }) (base:Nat) {g cap:Nat} {c:List Int} (t:Int) {ad:Addr} {c0:Nat}
  (hs:a.eval s=.slice (some ⟨g,0,none⟩) c.length cap) (hown:w.ownsRow base 3 1 (.slice (some ⟨g,0,none⟩) c.length cap) c.length (intsV c)) (hx:a.eval x=.slice (some ad) 1 c0) (hc:w.cell? (ad.add 0)=some (.int .i64 t)) (hlen:c.length≤1000000) (hb:base≤w.heap.size)
  (hw:B6 o (yielded ops a.tmps)=true)
  (h:∀ g' cap' w',w'.ownsRow base 3 1 (.slice (some ⟨g',0,none⟩) (c.length+1) cap') (c.length+1) (intsV (c++[t]))→((g'=g∧cap'=cap∧w.grownBy w' (some g))∨(g'=w.heap.size∧w.grownBy w' none))→K (a.put o.dst (.slice (some ⟨g',0,none⟩) (c.length+1) cap')) w') :
  if B6 o (yielded ops a.tmps)=true then Oper.wp Try.prog o a w K Q else Z:=by
 rw[if_pos hw];obtain⟨g',cap',w',hr,h2,h3⟩:=Try.run_append_int w base t (ty:=o.type) (c0:=c0) hown hc hlen hb;unfold Oper.wp execOp;simp only[ho,resolve,invoke,builtin,Sem.run_bind,Sem.run_pure,Result.andThen_ok,List.map_toArray,List.map_cons,List.map_nil,hs,hx,hr];exact h g' cap' w' h2 h3
structure GP (base:Nat) (w:World) (bf:Nat) (vc:Value) (c:List Int) (w':World):Prop where
 os:w'.os=w.os
 tape:w'.tape=w.tape
 output:w'.output=w.output
 size:w.heap.size≤w'.heap.size
 block:∀ k,k<w.heap.size→k≠bf→some k≠vc.ownBlock→w'.heap[k]? = w.heap[k]?
 own:w'.ownsRow base 3 1 vc c.length (intsV c)
 box:∃ fv,w'.heap[bf]? = some (.cells #[fv] 24 (0,0))
theorem XP {w:World} {base bf:Nat} {fv vc:Value} {c:List Int} (hb:w.heap[bf]? = some (.cells #[fv] 24 (0,0))) (ho:w.ownsRow base 3 1 vc c.length (intsV c)):some bf≠vc.ownBlock:=by
 rcases ho.2 with ⟨rfl,_⟩ | ⟨g,cap,cur,rfl,_,hg,_⟩
 ·intro e;cases e
 ·intro e;simp only[Value.ownBlock,Option.some.injEq]at e;subst e;rw[hb]at hg;simp at hg
section
variable {base:Nat} {w w1 w2:World} {bf:Nat} {vc:Value} {c:List Int}
theorem GP.refl {fv:Value} (ho:w.ownsRow base 3 1 vc c.length (intsV c)) (hb:w.heap[bf]? = some (.cells #[fv] 24 (0,0))):GP base w bf vc c w:=⟨rfl,rfl,rfl,Nat.le_refl _,fun _ _ _ _=>rfl,ho,fv,hb⟩
theorem GP.below (h:GP base w bf vc c w1) (hB:Below w1.heap.size w1 w2):GP base w bf vc c w2:=by
 obtain⟨fv,hf⟩:=h.box;refine⟨hB.os.trans h.os,hB.tape.trans h.tape,hB.output.trans h.output,A6 h.size hB.size,fun k hk h1 h2=>?_,World.ownsRow.kept h.own (qaS hB) ?_,fv,?_⟩
 ·have:=h.size;rw[hB.block k (by omega),h.block k hk h1 h2]
 ·cases vc.ownBlock with
  | none=>exact .inl rfl
  | some k=>exact .inr (by intro e;cases e)
 ·rw[hB.block bf (lt_of_block hf)];exact hf
theorem GP.alloc (h:GP base w bf vc c w1) (o:Obj):GP base w bf vc c (w1.alloc o):=h.below ((Below.refl _ _).alloc (Nat.le_refl _) o)
theorem GP.drew (h:GP base w bf vc c w1):GP base w bf vc c w1.drew:=h.below ⟨rfl,rfl,rfl,Nat.le_refl _,fun _ _=>rfl⟩
theorem GP.trans (h:GP base w bf vc c w1) (k:GP base w1 bf vc c w2):GP base w bf vc c w2 :=
 ⟨k.os.trans h.os,k.tape.trans h.tape,k.output.trans h.output,A6 h.size k.size,fun j hj h1 h2=>by
  have:=h.size
  rw[k.block j (by omega) h1 h2,h.block j hj h1 h2],k.own,k.box⟩
theorem GP.cons {M:Mem} (h:GP base w bf vc c w1) (hC:Cons M w) (hf:∀ o,M bf o=none) (hv:∀ g,vc.ownBlock=some g→∀ o,M g o=none):Cons M w1 :=
 hC.of_blocks fun b o u hu hb=>h.block b hb (fun e=>by rw[e,hf]at hu;cases hu) (fun e=>by rw[hv b e.symm]at hu;cases hu)
theorem GP.back {t:Int} {g g' cap cap':Nat} {v3 w4:World} (h:GP base w bf (.slice (some ⟨g,0,none⟩) c.length cap) c v3)  {v4:World}
  (hap:(g'=g∧cap'=cap∧v3.grownBy v4 (some g))∨(g'=v3.heap.size∧v3.grownBy v4 none)) (hk:GP base v4 bf (.slice (some ⟨g',0,none⟩) (c.length+1) cap') (c++[t]) w4):GP base w bf (.slice (some ⟨g,0,none⟩) c.length cap) c w4:=by
 have hs:=h.size;have hgl:=(h.own.lt g rfl).2;obtain⟨fv,hf⟩:=h.box
 have hne:bf≠g:=fun e=>XP hf h.own (by rw[e];rfl)
 rcases hap with ⟨rfl,rfl,hg⟩ | ⟨rfl,hg⟩
 ·refine⟨hk.os.trans (hg.os.trans h.os),hk.tape.trans (hg.tape.trans h.tape),hk.output.trans (hg.output.trans h.output),A6 hs (A6 hg.size hk.size),fun k hk1 hk2 hk3=>?_,?_,hk.box⟩
  ·have:=hg.size;rw[hk.block k (by omega) hk2 hk3,hg.block k (by omega) hk3,h.block k hk1 hk2 hk3]
  ·obtain⟨e1,e2⟩:=hk.own;refine⟨by simp[intsV],.inr ?_⟩
   rcases e2 with ⟨hv,_⟩ | ⟨g2,cap2,cur,hv,k1,k2,k3,k4,k5,k6⟩
   ·cases hv
   ·obtain⟨e3,e4⟩:g'=g2∧cap'=cap2:=by
     simp only[Value.slice.injEq,Option.some.injEq,Addr.mk.injEq]at hv;exact⟨hv.1.1,hv.2.2⟩
    subst e3;subst e4;rw[List.length_append,List.length_singleton]at k6;refine⟨g',cap',cur,rfl,k1,k2,by rw[List.length_append]at k3;simp at k3;omega,k4,k5,?_⟩;have h1:=congrArg (List.take c.length) k6;rw[List.take_take]at h1;rw[Nat.min_eq_left (by omega)]at h1;rw[Nat.mul_one,h1];simp[intsV]
 ·have hneq:g≠v3.heap.size:=by omega
  refine⟨hk.os.trans (hg.os.trans h.os),hk.tape.trans (hg.tape.trans h.tape),hk.output.trans (hg.output.trans h.output),A6 hs (A6 hg.size hk.size),fun k hk1 hk2 hk3=>?_,?_,hk.box⟩
  ·have:=hg.size;rw[hk.block k (by omega) hk2 (by intro e;simp[Value.ownBlock]at e;omega),hg.block k (by omega) (by intro e;cases e),h.block k hk1 hk2 hk3]
  ·obtain⟨e1,e2⟩:=h.own;refine⟨e1,?_⟩
   rcases e2 with ⟨hv,_⟩ | ⟨g2,cap2,cur,hv,k1,k2,k3⟩
   ·cases hv
   ·cases hv;have:=hg.size;exact .inr ⟨g,cap,cur,rfl,k1,by rw[hk.block g (by omega) (fun e=>hne e.symm) (by intro e;simp[Value.ownBlock]at e;omega),hg.block g (by omega) (by intro e;cases e)];exact k2,k3⟩
end
def Found (M:Mem) (w:World) (bf:Nat) (r:List Int) (w':World):Prop :=
 ∃ M' fv,Sub M M'∧Cons M' w'∧(∀ b o,b<w.heap.size→M' b o=M b o)∧w'.heap[bf]? = some (.cells #[fv] 24 (0,0))∧R M' (.lst 3 1 none (cL r)) fv
def qcj (M:Mem) (base:Nat) (w:World) (bf:Nat) (vc:Value) (c:List Int) (res:Option (List Int)) (e:Ending) (w':World):Prop :=
 e=.returned (.bool res.isSome)∧GP base w bf vc c w'∧∀ r,res=some r→Found M w bf r w'
def growV (bf be bl bg:Nat):Value:=.func (.func 52) #[] #[.pointer (some ⟨bf,0,none⟩),.pointer (some ⟨be,0,none⟩),.pointer (some ⟨bl,0,none⟩),.pointer (some ⟨bg,0,none⟩)]
structure GE (M:Mem) (bf be bl bg:Nat) (E:Int→Int→Bool) (l:List Int):Prop where
 e:∃ mv,M be 0=some mv∧isTup mv=false∧∀ w,Cons M w→∀ a b,wfI .i64 a=true→wfI .i64 b=true→(Instr.lookup 67 mv (.agg #[.int .i64 a,.int .i64 b]) false).run Try.prog w=.ok (.bool (E a b)) w
 lv:∃ lv,M bl 0=some lv∧isTup lv=false∧R M (.lst 3 1 none (cL l)) lv
 g:M bg 0=some (growV bf be bl bg)
 f:∀ o,M bf o=none
 wf:∀ x,x∈l→wfI .i64 x=true
 len:l.length≤1000
def Grow52 (n:Nat):Prop:=∀ (E:Int→Int→Bool) (l c:List Int) (M:Mem) (w:World) (base bf be bl bg long:Nat) (vc:Value),GE M bf be bl bg E l→Cons M w→c≠[]→(∀ x,x∈c→wfI .i64 x=true)→c.length+n=long→long≤1000 →
 w.ownsRow base 3 1 vc c.length (intsV c)→(∀ g,vc.ownBlock=some g→∀ o,M g o=none)→(∃ fv,w.heap[bf]? = some (.cells #[fv] 24 (0,0)))→base≤w.heap.size →
 Calls Try.prog 52 #[vc,.int .i64 (long:Nat),.pointer (some ⟨bf,0,none⟩),.pointer (some ⟨be,0,none⟩),.pointer (some ⟨bl,0,none⟩),.pointer (some ⟨bg,0,none⟩)] w (qcj M base w bf vc c (growF E l n c))
theorem Try.contains_own {w:World} {base:Nat} {v:Value} {c:List Int} {t:Int} (hl:c.length≤100000) (h:w.ownsRow base 3 1 v c.length (intsV c)):Calls Try.prog 39 #[v,.int .i64 t] w fun e w'=>e=.returned (.bool (c.contains t))∧Below w.heap.size w w':=by
 obtain⟨N,hN,hR,_⟩:=Vu h;refine (Xp (Yg c t _ (Uz hl t)) N w [v,.int .i64 t] (glob0 N) hN rfl (fun j a b ha hb=>?_)).mono ?_
 ·match j,ha,hb with
  | 0,ha,hb=>cases ha;cases hb;exact hR
  | 1,ha,hb=>cases ha;cases hb;exact .int _ _
 ·rintro e w' ⟨v',M',rfl,hB,_,_,_,hr,_⟩
  cases hr;exact⟨rfl,hB⟩
end Go.Proofs
namespace Go.Proofs
open Go.RowKit Go.AM
theorem Try.enter55:∀ args w,(callFunc 55 args).run Try.prog w=.ok (.enter 55 args) w:=fun args w=>by
 have h := Try.func55;have h1 : Try.f55.name ≠ "runtime.NumGoroutine" := of_decide_eq_true (by kernel_rfl)
 have h2:Try.f55.body≠none:=fun e=>absurd (show Try.f55.body.isNone=false by kernel_rfl) (by rw[e];decide)
 simp[callFunc,h,h1,h2]
theorem Try.enter52:∀ args w,(callFunc 52 args).run Try.prog w=.ok (.enter 52 args) w:=fun args w=>by
 have h := Try.func52;have h1 : Try.f52.name ≠ "runtime.NumGoroutine" := of_decide_eq_true (by kernel_rfl)
 have h2:Try.f52.body≠none:=fun e=>absurd (show Try.f52.body.isNone=false by kernel_rfl) (by rw[e];decide)
 simp[callFunc,h,h1,h2]
theorem Try.containsFunc (k:Nat) (hrun:∀ args w,(callFunc k args).run Try.prog w=.ok (.enter k args) w) (caps:Array Value) (l:List Int) (v:Value) (hlen:l.length≤100000) (M:Mem) (hv:R M (.lst 3 1 none (cL l)) v) (I Q:Nat→World→Prop) (hI:∀ i w,I i w→Cons M w)
  (step:∀ i x w,l[i]? = some x→I i w→Calls Try.prog k (#[.int .i64 x]++caps) w fun e w'=>(e=.returned (.bool true)∧Q i w')∨(e=.returned (.bool false)∧I (i+1) w')) (w:World) (h0:I 0 w) :
  Calls Try.prog 54 #[v,.func (.func k) #[] caps] w fun e w'=>(∃ i:Nat,i<l.length∧e=.returned (.bool true)∧Q i w')∨(e=.returned (.bool false)∧I l.length w'):=by
 have mixed:=mixedP;have t3:=Try.underlying3;have a3:=Try.isAgg3;have z3:=Try.sizeOf3;have v3:=Try.zeroValue3;have u3:=run_underlying Try.underlying3;have t4:=Try.underlying4;have a4:=Try.isAgg4;have z4:=Try.sizeOf4;have v4:=Try.zeroValue4;have hc:=Try.indexFunc k hrun caps l v hlen M hv I Q hI step w h0;clear hrun step hI hv h0
 go_enter Try.func54,Try.ntmps54
 go_wp2_with fail
 refine hc.mono ?_
 rintro e w' (⟨i,hi,rfl,hq⟩ | ⟨rfl,hq⟩)
 ·have i0:(0:Int)≤(i:Int):=Int.natCast_nonneg _
  go_wp2
  go_ret
  exact .inl ⟨i,hi,rfl,hq⟩
 ·go_wp2
  go_ret
  exact .inr ⟨rfl,hq⟩
theorem Yd {α β:Type} {f:α→Option β}:∀ {l:List α} {i:Nat} {x:α} {r:β},l[i]? = some x→(∀ j y,j<i→l[j]? = some y→f y=none)→f x=some r→l.findSome? f=some r
 | [],i,x,r,h,_,_=>by simp at h
 | a::l,0,x,r,h,_,hf=>by
  simp at h;subst h;rw[List.findSome?_cons,hf]
 | a::l,i+1,x,r,h,hn,hf=>by
  rw[List.findSome?_cons,hn 0 a (by omega) rfl];exact Yd (l:=l) (i:=i) (by simpa using h) (fun j y hj hy=>hn (j+1) y (by omega) (by simpa using hy)) hf
theorem YP {α β:Type} {f:α→Option β} {l:List α} (h:∀ j y,j<l.length→l[j]? = some y→f y=none):l.findSome? f=none:=by
 rw[List.findSome?_eq_none_iff];intro x hx;obtain⟨j,hj⟩:=List.mem_iff_getElem?.1 hx;exact h j x (List.getElem?_eq_some_iff.1 hj).1 hj
def skipsOk (md:Region.Mode) (ops:Array Oper):List Nat→Array Bool→Act→Bool
 | [],_,_=>true
 | i::r,listed,a=>Region.free md ops listed i && (((Region.ready md ops listed).contains i) && (match ops[i]? with
  | some o=>!B6 o (yielded ops a.tmps) && skipsOk md ops r (listed.setIfInBounds i true) (a.put o.dst undef)
  | none=>false))
def skipL:List Nat→Array Bool→Array Bool
 | [],l=>l
 | i::r,l=>skipL r (l.setIfInBounds i true)
def skipA (ops:Array Oper):List Nat→Act→Act
 | [],a=>a
 | i::r,a=>skipA ops r (match ops[i]? with | some o=>a.put o.dst undef | none=>a)
theorem Yi {P:Program} {ops:Array Oper} {Q:Exit→Act→World→Prop} {md:Region.Mode} {S:World→Prop} (hs:Region.noSelect ops=true) {w:World} (hS:S w) (hq:∀ c a d v w,Q (.panic c) (a.put d v) w→Q (.panic c) a w):∀ (L:List Nat) {fuel:Nat} {listed:Array Bool} {a:Act},skipsOk md ops L listed a=true →
  wpAnyH P md ops Q S fuel (skipL L listed) (skipA ops L a) w→wpAnyH P md ops Q S (fuel+L.length) listed a w
 | [],fuel,listed,a,_,h=>h
 | i::r,fuel,listed,a,hk,h=>by
  simp only[skipsOk,B4]at hk;obtain⟨h1,h2,h3⟩:=hk
  cases ho:ops[i]? with
  | none=>rw[ho]at h3;cases h3
  | some o =>
   rw[ho]at h3;simp only[B4,Bool.not_eq_true']at h3
   have h4:wpAnyH P md ops Q S fuel (skipL r (listed.setIfInBounds i true)) (skipA ops r (a.put o.dst undef)) w:=by
    have:skipA ops (i::r) a=skipA ops r (a.put o.dst undef):=by simp only[skipA,ho]
    rw[← this];exact h
   exact wpAnyH_take ho hs h1 h2 (fun c b w' hh=>hq _ _ _ _ _ hh) (Or.inr ⟨h3.1,rfl⟩) hS (Yi hs hS hq r h3.2 h4)
theorem qeK {M:Mem} {base bf g g' cap cap' n:Nat} {w w2 w3:World} {c:List Int} (P2:GP base w bf (.slice (some ⟨g,0,none⟩) c.length cap) c w2) (C2:Cons M w2) (hMg:∀ o,M g o=none)
  (hap:(g'=g∧cap'=cap∧w2.grownBy w3 (some g))∨(g'=w2.heap.size∧w2.grownBy w3 none)) :
  Cons M w3∧(∀ g2,(Value.slice (some ⟨g',0,none⟩) n cap').ownBlock=some g2→∀ o,M g2 o=none)∧(∃ fv,w3.heap[bf]? = some (.cells #[fv] 24 (0,0)))∧w.heap.size≤w3.heap.size:=by
 obtain⟨fv,hf⟩:=P2.box
 have hne:bf≠g:=fun e=>XP hf P2.own (by rw[e];rfl)
 have hs:=P2.size
 rcases hap with ⟨rfl,rfl,hg⟩ | ⟨rfl,hg⟩
 ·refine⟨C2.of_blocks fun b o u hu hb=>hg.block b hb (fun e=>by cases e;rw[hMg]at hu;cases hu),fun g2 h2 o=>?_,⟨fv,by rw[hg.block bf (lt_of_block hf) (fun e=>hne (by cases e;rfl))];exact hf⟩,A6 hs hg.size⟩;cases h2;exact hMg o
 ·refine⟨C2.of_blocks fun b o u hu hb=>hg.block b hb (fun e=>by cases e),fun g2 h2 o=>?_,⟨fv,by rw[hg.block bf (lt_of_block hf) (fun e=>by cases e)];exact hf⟩,A6 hs hg.size⟩;cases h2
  cases hm:M w2.heap.size o with
  | none=>rfl
  | some u =>
   have:=ZN (C2 _ _ _ hm);omega
theorem Found.back {M:Mem} {w w3 w4:World} {bf:Nat} {r:List Int} (h:Found M w3 bf r w4) (hs:w.heap.size≤w3.heap.size):Found M w bf r w4:=by
 obtain⟨M',fv,h1,h2,h3,h4⟩:=h;exact⟨M',fv,h1,h2,fun b o hb=>h3 b o (by omega),h4⟩
set_option maxHeartbeats 4000000 in
theorem Try.step55 {n:Nat} (ih:Grow52 n) (E:Int→Int→Bool) (l c:List Int) (M:Mem) (w:World) (base bf be bl bg bc bt bn long:Nat) (vc:Value) (t:Int) (hG:GE M bf be bl bg E l) (hC:Cons M w) (hne:c≠[]) (hwc:∀ x,x∈c→wfI .i64 x=true) (hwt:wfI .i64 t=true)
  (hlong:c.length+(n+1)=long) (hl:long≤1000) (hown:w.ownsRow base 3 1 vc c.length (intsV c)) (hMv:∀ g,vc.ownBlock=some g→∀ o,M g o=none) (hbox:∃ fv,w.heap[bf]? = some (.cells #[fv] 24 (0,0))) (hb:base≤w.heap.size)
  (k1:M bc 0=some vc) (k2:M bt 0=some (.int .i64 (c.getLastD 0))) (k3:M bn 0=some (.int .i64 (long:Nat))) :
  Calls Try.prog 55 #[.int .i64 t,.pointer (some ⟨bc,0,none⟩),.pointer (some ⟨be,0,none⟩),.pointer (some ⟨bt,0,none⟩),.pointer (some ⟨bg,0,none⟩),.pointer (some ⟨bn,0,none⟩)] w (qcj M base w bf vc c (stepF E l n c t)):=by
 obtain⟨mv,e1,e2,e3⟩:=hG.e;have hg:=hG.g;obtain⟨fv,hbox⟩:=hbox;have hpos:0<c.length:=List.length_pos_iff.2 hne
 have hclen:c.length≤1000:=by omega
 obtain⟨g,cap,rfl,hbg,hgl⟩:=hown.form hpos;have hlast:wfI .i64 (c.getLastD 0)=true:=hwc _ (by rw[List.getLastD_eq_getLast?,List.getLast?_eq_some_getLast hne];exact List.getLast_mem hne);generalize hla:c.getLastD 0=last at *
 have hE:=fun w' h=>e3 w' h last t hlast hwt
 have KS:∀ w',Cons M w'→w'.cell? ⟨bc,0,none⟩=some (.slice (some ⟨g,0,none⟩) c.length cap)∧w'.cell? ⟨be,0,none⟩=some mv∧w'.cell? ⟨bt,0,none⟩=some (.int .i64 last)∧w'.cell? ⟨bg,0,none⟩=some (.func (.func 52) #[] #[.pointer (some ⟨bf,0,none⟩),.pointer (some ⟨be,0,none⟩),.pointer (some ⟨bl,0,none⟩),.pointer (some ⟨bg,0,none⟩)])∧w'.cell? ⟨bn,0,none⟩=some (.int .i64 (long:Nat))∧(Instr.lookup 67 mv (.agg #[.int .i64 last,.int .i64 t]) false).run Try.prog w'=.ok (.bool (E last t)) w' :=
  fun w' h=>⟨je (h _ _ _ k1) rfl,je (h _ _ _ e1) e2,je (h _ _ _ k2) rfl,je (h _ _ _ hg) rfl,je (h _ _ _ k3) rfl,hE w' h⟩
 have P0:GP base w bf (.slice (some ⟨g,0,none⟩) c.length cap) c w:=.refl hown hbox;have mixed:=mixedP;have t3:=Try.underlying3;have a3:=Try.isAgg3;have z3:=Try.sizeOf3;have v3:=Try.zeroValue3;have u3:=run_underlying Try.underlying3;have t4:=Try.underlying4;have a4:=Try.isAgg4;have z4:=Try.sizeOf4;have v4:=Try.zeroValue4;have t24:=Try.underlying24;have a24:=Try.isAgg24;have z24:=Try.sizeOf24;have v24:=Try.zeroValue24;have u24:=run_underlying Try.underlying24;have t55:=Try.underlying55;have a55:=Try.isAgg55;have z55:=Try.sizeOf55;have v55:=Try.zeroValue55;have t67:=Try.underlying67;have a67:=Try.isAgg67;have z67:=Try.sizeOf67;have v67:=Try.zeroValue67;have t73:=Try.underlying73;have a73:=Try.isAgg73;have z73:=Try.sizeOf73;have v73:=Try.zeroValue73;have u73:=run_underlying Try.underlying73
 have hct:Hid (∀ w1,w1.ownsRow base 3 1 (.slice (some ⟨g,0,none⟩) c.length cap) c.length (intsV c)→Calls Try.prog 39 #[.slice (some ⟨g,0,none⟩) c.length cap,.int .i64 t] w1 fun e w'=>e=.returned (.bool (c.contains t))∧Below w1.heap.size w1 w'):=fun w1 h=>Try.contains_own (by omega) h
 have hstep:stepF E l n c t=if c.contains t then none else if E last t then growF E l n (c++[t]) else none:=by unfold stepF;rw[hla]
 rw[hstep];clear hstep hE e3 hla hlast
 cases hcc:c.contains t with
 | true =>
  rw[hcc]at hct;have K0:=KS w.drew hC
  go_enter Try.func55,Try.ntmps55
  go_wp2
  refine wp_region_held_drew (S:=fun w'=>w'.cell? ⟨bc,0,none⟩=some (.slice (some ⟨g,0,none⟩) c.length cap)) (by kernel_rfl) K0.1 (fun hHeld=>?_);refine wpAnyH_take (i:=0) (v:=.slice (some ⟨g,0,none⟩) c.length cap) rfl (by kernel_rfl) (by kernel_rfl) (by kernel_rfl) (fun _ _ _ h=>h) (Or.inl ⟨by kernel_rfl,fun w' hw'=>?_⟩) hHeld ?_
  ·go_simp
  simp only[Act.put,A3,A4,A5,A0,A1,A2];refine wpAnyH_take (i:=1) (v:=.int .i64 t) rfl (by kernel_rfl) (by kernel_rfl) (by kernel_rfl) (fun _ _ _ h=>h) (Or.inl ⟨by kernel_rfl,fun w' hw'=>?_⟩) hHeld ?_
  ·go_simp
  simp only[Act.put,A3,A4,A5,A0,A1,A2];refine wpAnyH_ready (rs:=[2]) (by kernel_rfl) (by simp) (AllReadyH.cons rfl (fun K hK=>?_) AllReadyH.nil);rw[if_pos (by kernel_rfl)];go_simp
  go_at_call 39
  refine (hct.out _ P0.drew.own).mono ?_
  rintro e w1 ⟨rfl,hB⟩
  have C1:Cons M w1:=Cons.below (w:=w.drew) hC hB;have K1:=KS w1 C1
  go_wp2_with fail
  refine hK.out _ _ K1.1 (fun hHeld=>?_);clear hK K;refine wpAnyH_take (i:=3) (v:=.bool false) rfl (by kernel_rfl) (by kernel_rfl) (by kernel_rfl) (fun _ _ _ h=>h) (Or.inl ⟨by kernel_rfl,fun w' hw'=>?_⟩) hHeld ?_
  ·go_simp
  simp only[Act.put,A3,A4,A5,A0,A1,A2];refine wpAnyH_take (i:=4) (v:=.bool false) rfl (by kernel_rfl) (by kernel_rfl) (by kernel_rfl) (fun _ _ _ h=>h) (Or.inl ⟨by kernel_rfl,fun w' hw'=>?_⟩) hHeld ?_
  ·go_simp
  simp only[Act.put,A3,A4,A5,A0,A1,A2];refine Yi (by kernel_rfl) hHeld (fun _ _ d _ _ h=>by cases d <;> exact h) [5,6,7,8,9] (fuel:=11) (by kernel_rfl) ?_;simp only[skipL,skipA,Act.put,B7,B8,C7,A0,A1,A2];refine wpAnyH_take (i:=10) (v:=.bool false) rfl (by kernel_rfl) (by kernel_rfl) (by kernel_rfl) (fun _ _ _ h=>h) (Or.inl ⟨by kernel_rfl,fun w' hw'=>?_⟩) hHeld ?_
  ·go_simp
  simp only[Act.put,A3,A4,A5,A0,A1,A2];refine wpAnyH_take (i:=11) (v:=.bool false) rfl (by kernel_rfl) (by kernel_rfl) (by kernel_rfl) (fun _ _ _ h=>h) (Or.inl ⟨by kernel_rfl,fun w' hw'=>?_⟩) hHeld ?_
  ·go_simp
  simp only[Act.put,A3,A4,A5,A0,A1,A2];refine Yi (by kernel_rfl) hHeld (fun _ _ d _ _ h=>by cases d <;> exact h) [12,13,14,15,16,17,18] (fuel:=2) (by kernel_rfl) ?_;simp only[skipL,skipA,Act.put,B7,B8,C7,A0,A1,A2];refine wpAnyH_take (i:=19) (v:=.bool false) rfl (by kernel_rfl) (by kernel_rfl) (by kernel_rfl) (fun _ _ _ h=>h) (Or.inl ⟨by kernel_rfl,fun w' hw'=>?_⟩) hHeld ?_
  ·go_simp
  simp only[Act.put,A3,A4,A5,A0,A1,A2];refine wpAnyH_take (i:=20) (v:=.bool false) rfl (by kernel_rfl) (by kernel_rfl) (by kernel_rfl) (fun _ _ _ h=>h) (Or.inl ⟨by kernel_rfl,fun w' hw'=>?_⟩) hHeld ?_
  ·go_simp
  simp only[Act.put,A3,A4,A5,A0,A1,A2];refine wpAnyH_done (by kernel_rfl) ?_ _
  go_wp2
  go_ret
  exact⟨rfl,P0.drew.below hB,fun r h=>by cases h⟩
 | false =>
  rw[hcc]at hct
  cases hE1:E last t with
  | false =>
   rw[hE1]at KS;have K0:=KS w.drew hC
   go_enter Try.func55,Try.ntmps55
   go_wp2
   refine wp_region_held_drew (S:=fun w'=>w'.cell? ⟨bc,0,none⟩=some (.slice (some ⟨g,0,none⟩) c.length cap)∧w'.cell? ⟨be,0,none⟩=some mv∧w'.cell? ⟨bt,0,none⟩=some (.int .i64 last)∧(Instr.lookup 67 mv (.agg #[.int .i64 last,.int .i64 t]) false).run Try.prog w'=.ok (.bool false) w') (by kernel_rfl) ⟨K0.1,K0.2.1,K0.2.2.1,K0.2.2.2.2.2⟩ (fun hHeld=>?_);refine wpAnyH_take (i:=0) (v:=.slice (some ⟨g,0,none⟩) c.length cap) rfl (by kernel_rfl) (by kernel_rfl) (by kernel_rfl) (fun _ _ _ h=>h) (Or.inl ⟨by kernel_rfl,fun w' hw'=>?_⟩) hHeld ?_
   ·obtain⟨q0,q1,q2,q3⟩:=hw';go_simp
   simp only[Act.put,A3,A4,A5,A0,A1,A2];refine wpAnyH_take (i:=1) (v:=.int .i64 t) rfl (by kernel_rfl) (by kernel_rfl) (by kernel_rfl) (fun _ _ _ h=>h) (Or.inl ⟨by kernel_rfl,fun w' hw'=>?_⟩) hHeld ?_
   ·obtain⟨q0,q1,q2,q3⟩:=hw';go_simp
   simp only[Act.put,A3,A4,A5,A0,A1,A2];refine wpAnyH_ready (rs:=[2]) (by kernel_rfl) (by simp) (AllReadyH.cons rfl (fun K hK=>?_) AllReadyH.nil);rw[if_pos (by kernel_rfl)];go_simp
   go_at_call 39
   refine (hct.out _ P0.drew.own).mono ?_
   rintro e w1 ⟨rfl,hB⟩
   have C1:Cons M w1:=Cons.below (w:=w.drew) hC hB;have K1:=KS w1 C1
   go_wp2_with fail
   refine hK.out _ _ ⟨K1.1,K1.2.1,K1.2.2.1,K1.2.2.2.2.2⟩ (fun hHeld=>?_);clear hK K;refine wpAnyH_take (i:=3) (v:=.bool true) rfl (by kernel_rfl) (by kernel_rfl) (by kernel_rfl) (fun _ _ _ h=>h) (Or.inl ⟨by kernel_rfl,fun w' hw'=>?_⟩) hHeld ?_
   ·obtain⟨q0,q1,q2,q3⟩:=hw';go_simp
   simp only[Act.put,A3,A4,A5,A0,A1,A2];refine wpAnyH_take (i:=4) (v:=.bool true) rfl (by kernel_rfl) (by kernel_rfl) (by kernel_rfl) (fun _ _ _ h=>h) (Or.inl ⟨by kernel_rfl,fun w' hw'=>?_⟩) hHeld ?_
   ·obtain⟨q0,q1,q2,q3⟩:=hw';go_simp
   simp only[Act.put,A3,A4,A5,A0,A1,A2];refine wpAnyH_take (i:=5) (v:=mv) rfl (by kernel_rfl) (by kernel_rfl) (by kernel_rfl) (fun _ _ _ h=>h) (Or.inl ⟨by kernel_rfl,fun w' hw'=>?_⟩) hHeld ?_
   ·obtain⟨q0,q1,q2,q3⟩:=hw';go_simp
   simp only[Act.put,A3,A4,A5,A0,A1,A2];refine wpAnyH_take (i:=6) (v:=.int .i64 last) rfl (by kernel_rfl) (by kernel_rfl) (by kernel_rfl) (fun _ _ _ h=>h) (Or.inl ⟨by kernel_rfl,fun w' hw'=>?_⟩) hHeld ?_
   ·obtain⟨q0,q1,q2,q3⟩:=hw';go_simp
   simp only[Act.put,A3,A4,A5,A0,A1,A2];refine wpAnyH_take (i:=7) (v:=.int .i64 t) rfl (by kernel_rfl) (by kernel_rfl) (by kernel_rfl) (fun _ _ _ h=>h) (Or.inl ⟨by kernel_rfl,fun w' hw'=>?_⟩) hHeld ?_
   ·obtain⟨q0,q1,q2,q3⟩:=hw';go_simp
   simp only[Act.put,A3,A4,A5,A0,A1,A2];refine wpAnyH_take (i:=8) (v:=.agg #[.int .i64 last,.int .i64 t]) rfl (by kernel_rfl) (by kernel_rfl) (by kernel_rfl) (fun _ _ _ h=>h) (Or.inl ⟨by kernel_rfl,fun w' hw'=>?_⟩) hHeld ?_
   ·obtain⟨q0,q1,q2,q3⟩:=hw';go_simp
   simp only[Act.put,A3,A4,A5,A0,A1,A2];refine wpAnyH_take (i:=9) (v:=.bool false) rfl (by kernel_rfl) (by kernel_rfl) (by kernel_rfl) (fun _ _ _ h=>h) (Or.inl ⟨by kernel_rfl,fun w' hw'=>?_⟩) hHeld ?_
   ·obtain⟨q0,q1,q2,q3⟩:=hw';go_simp
   simp only[Act.put,A3,A4,A5,A0,A1,A2];refine wpAnyH_take (i:=10) (v:=.bool false) rfl (by kernel_rfl) (by kernel_rfl) (by kernel_rfl) (fun _ _ _ h=>h) (Or.inl ⟨by kernel_rfl,fun w' hw'=>?_⟩) hHeld ?_
   ·obtain⟨q0,q1,q2,q3⟩:=hw';go_simp
   simp only[Act.put,A3,A4,A5,A0,A1,A2];refine wpAnyH_take (i:=11) (v:=.bool false) rfl (by kernel_rfl) (by kernel_rfl) (by kernel_rfl) (fun _ _ _ h=>h) (Or.inl ⟨by kernel_rfl,fun w' hw'=>?_⟩) hHeld ?_
   ·obtain⟨q0,q1,q2,q3⟩:=hw';go_simp
   simp only[Act.put,A3,A4,A5,A0,A1,A2];refine Yi (by kernel_rfl) hHeld (fun _ _ d _ _ h=>by cases d <;> exact h) [12,13,14,15,16,17,18] (fuel:=2) (by kernel_rfl) ?_;simp only[skipL,skipA,Act.put,B7,B8,C7,A0,A1,A2];refine wpAnyH_take (i:=19) (v:=.bool false) rfl (by kernel_rfl) (by kernel_rfl) (by kernel_rfl) (fun _ _ _ h=>h) (Or.inl ⟨by kernel_rfl,fun w' hw'=>?_⟩) hHeld ?_
   ·obtain⟨q0,q1,q2,q3⟩:=hw';go_simp
   simp only[Act.put,A3,A4,A5,A0,A1,A2];refine wpAnyH_take (i:=20) (v:=.bool false) rfl (by kernel_rfl) (by kernel_rfl) (by kernel_rfl) (fun _ _ _ h=>h) (Or.inl ⟨by kernel_rfl,fun w' hw'=>?_⟩) hHeld ?_
   ·obtain⟨q0,q1,q2,q3⟩:=hw';go_simp
   simp only[Act.put,A3,A4,A5,A0,A1,A2];refine wpAnyH_done (by kernel_rfl) ?_ _
   go_wp2
   go_ret
   exact⟨rfl,P0.drew.below hB,fun r h=>by cases h⟩
  | true =>
   rw[hE1]at KS;have K0:=KS w.drew hC
   have hwf2:∀ x,x∈c++[t]→wfI .i64 x=true:=fun x hx=>by
    rcases List.mem_append.1 hx with h | h
    ·exact hwc x h
    ·rw[List.mem_singleton.1 h];exact hwt
   obtain⟨b9,hb9⟩:∃ b9,b9=(growF E l n (c++[t])).isSome:=⟨_,rfl⟩
   have hgr:Hid (∀ w4 vc2,Cons M w4→w4.ownsRow base 3 1 vc2 (c.length+1) (intsV (c++[t]))→(∀ g,vc2.ownBlock=some g→∀ o,M g o=none)→(∃ fv,w4.heap[bf]? = some (.cells #[fv] 24 (0,0)))→base≤w4.heap.size →
     Calls Try.prog 52 #[vc2,.int .i64 (long:Nat),.pointer (some ⟨bf,0,none⟩),.pointer (some ⟨be,0,none⟩),.pointer (some ⟨bl,0,none⟩),.pointer (some ⟨bg,0,none⟩)] w4 fun e w'=>e=.returned (.bool b9)∧GP base w4 bf vc2 (c++[t]) w'∧∀ r,growF E l n (c++[t])=some r→Found M w4 bf r w') :=
    fun w4 vc2 h1 h2 h3 h4 h5=>ih E l (c++[t]) M w4 base bf be bl bg long vc2 hG h1 (by simp) hwf2 (by simp;omega) hl (by simpa using h2) h3 h4 h5 |>.mono fun e w' h=>⟨by rw[hb9];exact h.1,h.2⟩
   have hMg:=hMv g rfl;have en52:=Try.enter52;clear ih hwf2 hwc
   go_enter Try.func55,Try.ntmps55
   go_wp2
   go_region_held3 (fun w'=>w'.cell? ⟨bc,0,none⟩=some (.slice (some ⟨g,0,none⟩) c.length cap)∧w'.cell? ⟨be,0,none⟩=some mv∧w'.cell? ⟨bt,0,none⟩=some (.int .i64 last)∧w'.cell? ⟨bg,0,none⟩=some (.func (.func 52) #[] #[.pointer (some ⟨bf,0,none⟩),.pointer (some ⟨be,0,none⟩),.pointer (some ⟨bl,0,none⟩),.pointer (some ⟨bg,0,none⟩)])∧w'.cell? ⟨bn,0,none⟩=some (.int .i64 (long:Nat))∧(Instr.lookup 67 mv (.agg #[.int .i64 last,.int .i64 t]) false).run Try.prog w'=.ok (.bool true) w')
    (first | exact K0 | exact K1 | exact KS _ (C1.alloc _) | exact KS _ A.1 | exact K4)
    (first
     | (go_at_call 39;refine (hct.out _ P0.drew.own).mono ?_;rintro e w1 ⟨rfl,hB⟩;have C1:Cons M w1:=Cons.below (w:=w.drew) hC hB;have P1:=P0.drew.below hB;have K1:=KS w1 C1)
     | (refine Try.step_append_int (.tmp 21) (.tmp 23) (by rfl) base t (by rfl) (P1.alloc _).own (by rfl) (by simp[JM]) (by omega) (by have:=P1.size;simp;omega) (by rfl) ?_;intro g' cap' w3 ho3 hap;have A:=qeK (n:=c.length+1) (P1.alloc _) (C1.alloc _) hMg hap)
     | (go_at_call 52;refine (hgr.out w3 _ A.1 ho3 A.2.1 A.2.2.1 (A6 hb A.2.2.2)).mono ?_;rintro e w4 ⟨rfl,hP4,hF4⟩;have K4:=KS w4 (hP4.cons A.1 hG.f A.2.1)))
   all_goals go_wp2
   all_goals go_ret
   all_goals exact⟨by simp[hb9],GP.back (P1.alloc _) hap hP4,fun r hr=>(hF4 r (by simpa using hr)).back A.2.2.2⟩
end Go.Proofs
