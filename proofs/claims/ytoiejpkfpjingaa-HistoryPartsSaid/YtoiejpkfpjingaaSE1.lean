import Derived.Test.YtoiejpkfpjingaaSBT
import Derived.Test.YtoiejpkfpjingaaEView
import Derived.Laws.EntriesVeiled
import Derived.Test.YtoiejpkfpjingaaASimM
import Derived.Test.YtoiejpkfpjingaaChecked
set_option linter.all false
set_option maxRecDepth 100000
open Go.World renaming cell?→A0, frozen?→A5, cell?_of_block→A6
open Option renaming map→A1
open List renaming range→A2
open Int renaming toNat→A3
open Nat renaming le_refl→A4
open Array renaming getElem?_eq_getElem→A7
namespace Go.AM
open Go.Proofs
def Jt (v10:Bool):Option Bool :=
 (some v10)
def jt (a1:qK) (a2:Int) (a3:Int):Option Bool :=
 (chk (wfI .i64 a2) (chk (wfI .i64 a3) (bif (decide ((mget keq1 0 a2 a1.qt)<(mget keq1 0 a3 a1.qA))) then (chk (wfI .i64 a3) (chk (wfI .i64 a2) ((Jt) (decide ((mget keq1 0 a3 a1.qt)<(mget keq1 0 a2 a1.qA)))))) else ((Jt) false))))
theorem Qu (a1:qK) (a2:Int) (a3:Int) (r:Bool) (h:jt a1 a2 a3=some r):Run Try.prog (.call 80 [.agg [l44 none a1.f_h,l3 none a1.qm,mpE (AV.int .i64) (AV.int .i64) a1.qt,mpE (AV.int .i64) (AV.int .i64) a1.qA],I6 a2,I6 a3] (.bool r)):=by
 refine cW Try.func80 rfl (env0:=[(0,.agg [l44 none a1.f_h,l3 none a1.qm,mpE (AV.int .i64) (AV.int .i64) a1.qt,mpE (AV.int .i64) (AV.int .i64) a1.qA]),(1,I6 a2),(2,I6 a3)]) ?_;unfold jt at h;refine W.seq ?_;let z0:=fun t=>EN ((1,I6 a2)::(2,I6 a3)::(3,.ptr (.agg [l44 none a1.f_h,l3 none a1.qm,mpE (AV.int .i64) (AV.int .i64) a1.qt,mpE (AV.int .i64) (AV.int .i64) a1.qA]))::t);refine W.rT [1,2,3] [3] (e2:=z0 []) ?_;refine W.seq<|W.join (σ:=(Bool)) (fun s=>[(6,.bool s)]) (fun s=>(Jt) s=some r) (fun v10 h=>?_) (fun hK5=>?_)
 ·unfold Jt at h;refine W.wk (e:=[(6,.bool v10)]) ?_;cases h;exact W.rr
 refine W.rg ?_;obtain⟨hc6,h⟩:=qw h;let z1:=fun t=>z0 ((7,.ptr (mpE (AV.int .i64) (AV.int .i64) a1.qt))::(8,mpE (AV.int .i64) (AV.int .i64) a1.qt)::(9,I6 a2)::(10,I6 (mget keq1 0 a2 a1.qt))::t);refine WO.pk 3 ((alookup Try.prog 85 [] (mpE (AV.int .i64) (AV.int .i64) a1.qt) (I6 a2)).map AV.strip) (congrArg (A1 AV.strip) (jD (F:=(AV.int .i64)) (G:=(AV.int .i64)) (eq:=keq1) (l:=a1.qt) (k:=a2) (z:=0) (kt:=3) (e:=3) (Jy hc6) (by kernel_rfl) (fun x=>by kernel_rfl) (fun x y=>by kernel_rfl) (by kernel_rfl))) (e1:=z1 []) ?_;obtain⟨hc7,h⟩:=qw h;let z2:=fun t=>z1 ((11,.ptr (mpE (AV.int .i64) (AV.int .i64) a1.qA))::(12,mpE (AV.int .i64) (AV.int .i64) a1.qA)::(13,I6 a3)::(14,I6 (mget keq1 0 a3 a1.qA))::t);refine WO.pk 3 ((alookup Try.prog 85 [] (mpE (AV.int .i64) (AV.int .i64) a1.qA) (I6 a3)).map AV.strip) (congrArg (A1 AV.strip) (jD (F:=(AV.int .i64)) (G:=(AV.int .i64)) (eq:=keq1) (l:=a1.qA) (k:=a3) (z:=0) (kt:=3) (e:=3) (Jy hc7) (by kernel_rfl) (fun x=>by kernel_rfl) (fun x y=>by kernel_rfl) (by kernel_rfl))) (e1:=z2 []) ?_;refine WO.bh 2 (fun b=>z2 [(15,.bool b),(16,.bool b)]) (decide ((mget keq1 0 a2 a1.qt)<(mget keq1 0 a3 a1.qA))) h (fun h=>?_) (fun h=>?_)
 ·obtain⟨hc8,h⟩:=qw h;let z3:=fun t=>z2 ((15,.bool true)::(16,.bool true)::(17,.ptr (mpE (AV.int .i64) (AV.int .i64) a1.qt))::(18,mpE (AV.int .i64) (AV.int .i64) a1.qt)::(19,I6 a3)::(20,I6 (mget keq1 0 a3 a1.qt))::t);refine WO.pk 3 ((alookup Try.prog 85 [] (mpE (AV.int .i64) (AV.int .i64) a1.qt) (I6 a3)).map AV.strip) (congrArg (A1 AV.strip) (jD (F:=(AV.int .i64)) (G:=(AV.int .i64)) (eq:=keq1) (l:=a1.qt) (k:=a3) (z:=0) (kt:=3) (e:=3) (Jy hc8) (by kernel_rfl) (fun x=>by kernel_rfl) (fun x y=>by kernel_rfl) (by kernel_rfl))) (e1:=z3 []) ?_;obtain⟨hc9,h⟩:=qw h;refine WO.pk 3 ((alookup Try.prog 85 [] (mpE (AV.int .i64) (AV.int .i64) a1.qA) (I6 a2)).map AV.strip) (congrArg (A1 AV.strip) (jD (F:=(AV.int .i64)) (G:=(AV.int .i64)) (eq:=keq1) (l:=a1.qA) (k:=a2) (z:=0) (kt:=3) (e:=3) (Jy hc9) (by kernel_rfl) (fun x=>by kernel_rfl) (fun x y=>by kernel_rfl) (by kernel_rfl))) (e1:=z3 [(21,.ptr (mpE (AV.int .i64) (AV.int .i64) a1.qA)),(22,mpE (AV.int .i64) (AV.int .i64) a1.qA),(23,I6 a2),(24,I6 (mget keq1 0 a2 a1.qA))]) ?_;refine WO.fn (e2:=[(6,.bool (decide ((mget keq1 0 a3 a1.qt)<(mget keq1 0 a2 a1.qA))))]) ?_;exact hK5 (decide ((mget keq1 0 a3 a1.qt)<(mget keq1 0 a2 a1.qA))) h
 refine WO.fn (e2:=[(6,.bool false)]) ?_;exact hK5 false h
def Jg (a1:(List hsOp)) (a2:hsOp):Option Bool :=
 ((JW a1 a2).bind fun w5=>(some (decide (w5 ≥ 0))))
theorem XV (a1:(List hsOp)) (a2:hsOp) (r:Bool) (h:Jg a1 a2=some r):Run Try.prog (.call 38 [l44 none a1,.agg [I6 a2.qg,I6 a2.qi,I6 a2.qj]] (.bool r)):=by
 refine cW Try.func38 rfl (env0:=[(0,l44 none a1),(1,.agg [I6 a2.qg,I6 a2.qi,I6 a2.qj])]) ?_;unfold Jg at h;refine W.seq ?_;let z0:=fun t=>EN ((0,l44 none a1)::(3,.ptr (.agg [I6 a2.qg,I6 a2.qi,I6 a2.qj]))::t);refine W.rT [0,3] [3] (e2:=z0 []) ?_;refine W.sr ?_;obtain⟨w5,hw5,h⟩:=qh h;refine WO.ck 2 (F:=74) (l:=[l44 none a1,.agg [I6 a2.qg,I6 a2.qi,I6 a2.qj]]) (C:=[]) (r:=I6 w5) (YM a1 a2 w5 hw5) (e1:=z0 [(5,l44 none a1),(6,.agg [I6 a2.qg,I6 a2.qi,I6 a2.qj]),(7,I6 w5)])<|WO.fn (e2:=[(4,.bool (decide (w5 ≥ 0)))]) ?_;refine W.wk (e:=[(4,.bool (decide (w5 ≥ 0)))]) ?_;cases h;exact W.rr
def jk (a1:qK) (a2:Int) (a3:Int):Option Bool :=
 ((Jg a1.f_h (hsOp.mk a2 1 a3)).bind fun w6=>(some w6))
theorem jP (a1:qK) (a2:Int) (a3:Int) (r:Bool) (h:jk a1 a2 a3=some r):Run Try.prog (.call 106 [.agg [l44 none a1.f_h,l3 none a1.qm,mpE (AV.int .i64) (AV.int .i64) a1.qt,mpE (AV.int .i64) (AV.int .i64) a1.qA],I6 a2,I6 a3] (.bool r)):=by
 refine cW Try.func106 rfl (env0:=[(0,.agg [l44 none a1.f_h,l3 none a1.qm,mpE (AV.int .i64) (AV.int .i64) a1.qt,mpE (AV.int .i64) (AV.int .i64) a1.qA]),(1,I6 a2),(2,I6 a3)]) ?_;unfold jk at h;refine W.seq ?_;let z0:=fun t=>EN ((1,I6 a2)::(2,I6 a3)::(3,.ptr (.agg [l44 none a1.f_h,l3 none a1.qm,mpE (AV.int .i64) (AV.int .i64) a1.qt,mpE (AV.int .i64) (AV.int .i64) a1.qA]))::t);refine W.rT [1,2,3] [3] (e2:=z0 []) ?_;refine W.sr ?_;obtain⟨w6,hw6,h⟩:=qh h;refine WO.ck 5 (F:=38) (l:=[l44 none a1.f_h,.agg [I6 a2,.int .i64 1,I6 a3]]) (C:=[]) (r:=.bool w6) (XV a1.f_h (hsOp.mk a2 1 a3) w6 hw6) (e1:=z0 [(7,.ptr (l44 none a1.f_h)),(8,l44 none a1.f_h),(9,I6 a2),(10,I6 a3),(11,.agg [I6 a2,.int .i64 1,I6 a3]),(12,.bool w6)])<|WO.fn (e2:=[(6,.bool w6)]) ?_;refine W.wk (e:=[(6,.bool w6)]) ?_;cases h;exact W.rr
def JI:Option Bool :=
 (some false)
def jx (a2:Int) (a3:Int) (K5:(Option Bool)):List hsOp→Nat→Option Bool
 | [],k1=>K5
 | x1::r1,k1=>(bif ((x1.qg == a2) && ((x1.qi == 1) && ((x1.qj == a3) && true))) then (some false) else (bif ((x1.qg == a2) && ((x1.qi == 0) && ((x1.qj == a3) && true))) then (some true) else (jx a2 a3 K5 r1 (k1+1))))
def jW (a1:qK) (a2:Int) (a3:Int):Option Bool :=
 (chk (lenOk a1.f_h) (jx a2 a3 (JI) a1.f_h 0))
theorem Qi (a1:qK) (a2:Int) (a3:Int) (r:Bool) (h:jW a1 a2 a3=some r):Run Try.prog (.call 107 [.agg [l44 none a1.f_h,l3 none a1.qm,mpE (AV.int .i64) (AV.int .i64) a1.qt,mpE (AV.int .i64) (AV.int .i64) a1.qA],I6 a2,I6 a3] (.bool r)):=by
 refine cW Try.func107 rfl (env0:=[(0,.agg [l44 none a1.f_h,l3 none a1.qm,mpE (AV.int .i64) (AV.int .i64) a1.qt,mpE (AV.int .i64) (AV.int .i64) a1.qA]),(1,I6 a2),(2,I6 a3)]) ?_;unfold jW at h;refine W.seq ?_;let z0:=fun t=>EN ((1,I6 a2)::(2,I6 a3)::t);let z1:=fun t=>z0 ((3,.ptr (.agg [l44 none a1.f_h,l3 none a1.qm,mpE (AV.int .i64) (AV.int .i64) a1.qt,mpE (AV.int .i64) (AV.int .i64) a1.qA]))::t);refine W.rT [1,2,3] [3] (e2:=z1 []) ?_;refine W.seq<|W.join (σ:=Unit) (fun s=>[]) (fun s=>(JI)=some r) (fun s h=>?_) (fun hK5=>?_)
 ·unfold JI at h;refine W.seq<|W.rt (e2:=[(6,.bool false)]) ?_;refine W.wk (e:=[(6,.bool false)]) ?_;cases h;exact W.rr
 refine W.sr<|WO.pq 2 (jM jn a1.f_h) (e1:=z1 [(9,.ptr (l44 none a1.f_h)),(10,l44 none a1.f_h),(11,I6 (a1.f_h.length:Int))]) ?_;let z2:=fun t=>z0 ((10,l44 none a1.f_h)::(11,I6 (a1.f_h.length:Int))::t);refine WO.fn (e2:=z2 [(12,.int .i64 0)]) ?_;refine W.block ?_;obtain⟨hl1,h⟩:=qw h;refine W.wk (e:=z2 [(12,I6 ((0:Nat):Int))])<|W.range (σ:=Unit) a1.f_h (fun k1 s=>z2 [(12,I6 (k1:Int))]) (fun r0 k0 s=>jx a2 a3 (JI) r0 k0=some r) (fun s h=>?_) (fun x1 r1 k1 s hx1 hk1 h hN1=>?_) () h
 ·rw[jx.eq_1]at h;refine W.sr ?_;let y0:Env:=[(2,I6 a3),(10,l44 none a1.f_h),(11,I6 (a1.f_h.length:Int)),(12,I6 ((a1.f_h).length:Int)),(13,.bool false)];refine WO.pq 0 (jB (jN (l:=a1.f_h))) (e1:=((1,I6 a2)::y0))<|WO.fn (e2:=((1,I6 a2)::y0)) ?_;refine W.seq<|W.cF<|W.exit<|W.wk (e:=[]) ?_;exact hK5 () h
 ·rw[jx.eq_2]at h;refine W.sr ?_;let y1:Env:=[(2,I6 a3),(10,l44 none a1.f_h),(11,I6 (a1.f_h.length:Int)),(12,I6 (k1:Int)),(13,.bool true)];let z3:=fun t=>EN ((1,I6 a2)::t);refine WO.pq 0 (jB (Jr hk1)) (e1:=z3 y1)<|WO.fn (e2:=z3 y1) ?_;refine W.seq<|W.cT<|W.skip ?_;let y2:Env:=[(10,l44 none a1.f_h),(11,I6 (a1.f_h.length:Int)),(12,I6 (k1:Int))];refine W.wk (e:=z0 y2)<|W.seq<|W.block<|W.sr ?_;let z4:=fun t=>z2 ((12,I6 (k1:Int))::t);refine WO.pq 0 (Js (f:=jn) hx1) (e1:=z4 [(14,.ptr (.agg [I6 x1.qg,I6 x1.qi,I6 x1.qj]))])<|WO.fi [1,2,8,10,11,12] [8] (e2:=z0 ((8,.ptr (.agg [I6 x1.qg,I6 x1.qi,I6 x1.qj]))::y2)) ?_;refine W.seq ?_;let z5:=fun t=>z4 ((16,.agg [I6 x1.qg,I6 x1.qi,I6 x1.qj])::t);refine W.rt (e2:=z5 []) ?_;refine W.block<|W.seq<|W.rt (e2:=z5 [(17,.bool ((x1.qg == a2) && ((x1.qi == 1) && ((x1.qj == a3) && true))))]) ?_;refine W.ch ((x1.qg == a2) && ((x1.qi == 1) && ((x1.qj == a3) && true))) h (fun h=>?_) (fun h=>?_)
  ·refine W.seq<|W.rt (e2:=[(6,.bool false)]) ?_;refine W.wk (e:=[(6,.bool false)]) ?_;cases h;exact W.rr
  refine W.seq<|W.rt (e2:=z4 [(22,.bool ((x1.qg == a2) && ((x1.qi == 0) && ((x1.qj == a3) && true))))]) ?_;refine W.ch ((x1.qg == a2) && ((x1.qi == 0) && ((x1.qj == a3) && true))) h (fun h=>?_) (fun h=>?_)
  ·refine W.seq<|W.rt (e2:=[(6,.bool true)]) ?_;refine W.wk (e:=[(6,.bool true)]) ?_;cases h;exact W.rr
  refine W.sw (e:=z0 y2) ?_;refine W.rg<|WO.pq 0 (jI (jg hl1 hk1)) (e1:=z4 [(27,I6 ((k1+1:Nat):Int))])<|WO.fn (e2:=z2 [(12,I6 ((k1+1:Nat):Int))]) ?_;exact hN1 () h
def jp (v19:Int):Option Int :=
 (some v19)
def jA (x1:Int) (v8:Int) (K9:(Int→Option Int)) (v17:Bool):Option Int :=
 (bif v17 then (K9 x1) else (K9 v8))
def jo (N1:(Int→Option Int)) (v18:Int):Option Int :=
 (N1 v18)
def qG (a1:qK) (a2:Int) (a3:Int) (K6:(Int→Option Int)):List Int→Nat→Int→Option Int
 | [],k1,v8=>(K6 v8)
 | x1::r1,k1,v8=>((jk a1 x1 a3).bind fun w12=>(bif w12 then (chk (wfI .i64 x1) (chk (wfI .i64 a2) (bif (decide ((mget keq1 0 x1 a1.qA)<(mget keq1 0 a2 a1.qt))) then (bif (v8 == 0) then ((jA x1 v8 (jo (qG a1 a2 a3 K6 r1 (k1+1)))) true) else (chk (wfI .i64 x1) (chk (wfI .i64 v8) ((jA x1 v8 (jo (qG a1 a2 a3 K6 r1 (k1+1)))) (decide ((mget keq1 0 x1 a1.qA) > (mget keq1 0 v8 a1.qA))))))) else ((jA x1 v8 (jo (qG a1 a2 a3 K6 r1 (k1+1)))) false)))) else ((jA x1 v8 (jo (qG a1 a2 a3 K6 r1 (k1+1)))) false)))
def Jd (a1:qK) (a2:Int) (a3:Int):Option Int :=
 (chk (lenOk a1.qm) (qG a1 a2 a3 (jp) a1.qm 0 0))
theorem QB (a1:qK) (a2:Int) (a3:Int) (r:Int) (h:Jd a1 a2 a3=some r):Run Try.prog (.call 108 [.agg [l44 none a1.f_h,l3 none a1.qm,mpE (AV.int .i64) (AV.int .i64) a1.qt,mpE (AV.int .i64) (AV.int .i64) a1.qA],I6 a2,I6 a3] (I6 r)):=by
 refine cW Try.func108 rfl (env0:=[(0,.agg [l44 none a1.f_h,l3 none a1.qm,mpE (AV.int .i64) (AV.int .i64) a1.qt,mpE (AV.int .i64) (AV.int .i64) a1.qA]),(1,I6 a2),(2,I6 a3)]) ?_;unfold Jd at h;refine W.seq ?_;let z0:=fun t=>EN ((1,I6 a2)::(2,I6 a3)::(3,.ptr (.agg [l44 none a1.f_h,l3 none a1.qm,mpE (AV.int .i64) (AV.int .i64) a1.qt,mpE (AV.int .i64) (AV.int .i64) a1.qA]))::t);refine W.rT [1,2,3] [3] (e2:=z0 []) ?_;refine W.seq ?_;let z1:=fun t=>z0 ((7,.int .i64 0)::t);refine W.rt (e2:=z1 []) ?_;refine W.seq<|W.join (σ:=(Int)) (fun s=>[(7,I6 s)]) (fun s=>(jp) s=some r) (fun v19 h=>?_) (fun hK6=>?_)
 ·unfold jp at h;refine W.seq<|W.rt (e2:=[(6,I6 v19)]) ?_;refine W.wk (e:=[(6,I6 v19)]) ?_;cases h;exact W.rr
 refine W.sr<|WO.pq 2 (jM (.int .i64) a1.qm) (e1:=z1 [(10,.ptr (l3 none a1.qm)),(11,l3 none a1.qm),(12,I6 (a1.qm.length:Int))]) ?_;let z2:=fun t=>z1 ((11,l3 none a1.qm)::(12,I6 (a1.qm.length:Int))::t);refine WO.fn (e2:=z2 [(13,.int .i64 0)]) ?_;refine W.block ?_;obtain⟨hl1,h⟩:=qw h;refine W.wk (e:=z2 [(13,I6 ((0:Nat):Int))])<|W.range (σ:=(Int)) a1.qm (fun k1 s=>z0 [(7,I6 s),(11,l3 none a1.qm),(12,I6 (a1.qm.length:Int)),(13,I6 (k1:Int))]) (fun r0 k0 s=>qG a1 a2 a3 (jp) r0 k0 s=some r) (fun v8 h=>?_) (fun x1 r1 k1 s hx1 hk1 h hN1=>?_) 0 h
 ·have h:qG a1 a2 a3 (jp) [] (a1.qm).length v8=some r:=h;rw[qG.eq_1]at h;refine W.sr ?_;let y0:Env:=[(2,I6 a3),(3,.ptr (.agg [l44 none a1.f_h,l3 none a1.qm,mpE (AV.int .i64) (AV.int .i64) a1.qt,mpE (AV.int .i64) (AV.int .i64) a1.qA])),(7,I6 v8),(11,l3 none a1.qm),(12,I6 (a1.qm.length:Int)),(13,I6 ((a1.qm).length:Int)),(14,.bool false)];refine WO.pq 0 (jB (jN (l:=a1.qm))) (e1:=((1,I6 a2)::y0))<|WO.fn (e2:=((1,I6 a2)::y0)) ?_;refine W.seq<|W.cF<|W.exit<|W.wk (e:=[(7,I6 v8)]) ?_;exact hK6 v8 h
 ·obtain⟨v8,rfl⟩:∃ x,x=s:=⟨s,rfl⟩;have h:qG a1 a2 a3 (jp) (x1::r1) k1 v8=some r:=h;rw[qG.eq_2]at h;refine W.sr ?_;let y1:Env:=[(2,I6 a3),(3,.ptr (.agg [l44 none a1.f_h,l3 none a1.qm,mpE (AV.int .i64) (AV.int .i64) a1.qt,mpE (AV.int .i64) (AV.int .i64) a1.qA])),(7,I6 v8),(11,l3 none a1.qm),(12,I6 (a1.qm.length:Int)),(13,I6 (k1:Int)),(14,.bool true)];let z3:=fun t=>EN ((1,I6 a2)::t);refine WO.pq 0 (jB (Jr hk1)) (e1:=z3 y1)<|WO.fn (e2:=z3 y1) ?_;refine W.seq<|W.cT<|W.skip ?_;let y2:Env:=[(11,l3 none a1.qm),(12,I6 (a1.qm.length:Int)),(13,I6 (k1:Int))];let z4:=fun t=>z0 ((7,I6 v8)::t);refine W.wk (e:=z4 y2)<|W.seq<|W.join (σ:=(Int)) (fun s=>z0 ((7,I6 s)::y2)) (fun s=>(jo (qG a1 a2 a3 (jp) r1 (k1+1))) s=some r) (fun v18 h=>?_) (fun hK9=>?_)
  ·unfold jo at h;refine W.rg ?_;let z5:=fun t=>z0 ((7,I6 v18)::(11,l3 none a1.qm)::(12,I6 (a1.qm.length:Int))::t);refine WO.pq 0 (jI (jg hl1 hk1)) (e1:=z5 [(13,I6 (k1:Int)),(48,I6 ((k1+1:Nat):Int))])<|WO.fn (e2:=z5 [(13,I6 ((k1+1:Nat):Int))]) ?_;exact hN1 v18 h
  refine W.block<|W.sr<|WO.pq 0 (Js (f:=(AV.int .i64)) hx1) (e1:=z4 [(11,l3 none a1.qm),(12,I6 (a1.qm.length:Int)),(13,I6 (k1:Int)),(15,.ptr (I6 x1))]) ?_;let z6:=fun t=>z4 ((9,I6 x1)::t);refine WO.fn (e2:=z6 y2) ?_;refine W.seq ?_;let z7:=fun t=>z6 ((11,l3 none a1.qm)::(12,I6 (a1.qm.length:Int))::(13,I6 (k1:Int))::t);refine W.join (σ:=(Bool)) (fun s=>z7 [(46,.bool s)]) (fun s=>(jA x1 v8 (jo (qG a1 a2 a3 (jp) r1 (k1+1)))) s=some r) (fun v17 h=>?_) (fun hK11=>?_)
  ·unfold jA at h;refine W.ch v17 h (fun h=>?_) (fun h=>?_)
   ·refine W.rt (e2:=z0 ((7,I6 x1)::y2)) ?_;exact hK9 x1 h
   refine W.sw (e:=z4 y2) ?_;exact hK9 v8 h
  refine W.rg ?_;obtain⟨w12,hw12,h⟩:=qh h;let z8:=fun t=>z7 ((17,.agg [l44 none a1.f_h,l3 none a1.qm,mpE (AV.int .i64) (AV.int .i64) a1.qt,mpE (AV.int .i64) (AV.int .i64) a1.qA])::(18,I6 x1)::(19,I6 a3)::t);refine WO.ck 3 (F:=106) (l:=[.agg [l44 none a1.f_h,l3 none a1.qm,mpE (AV.int .i64) (AV.int .i64) a1.qt,mpE (AV.int .i64) (AV.int .i64) a1.qA],I6 x1,I6 a3]) (C:=[]) (r:=.bool w12) (jP a1 x1 a3 w12 hw12) (e1:=z8 [(20,.bool w12)])<|WO.bh 1 (fun b=>z8 [(20,.bool b),(21,.bool b)]) w12 h (fun h=>?_) (fun h=>?_)
  ·obtain⟨hc13,h⟩:=qw h;let z9:=fun t=>z8 ((20,.bool true)::(21,.bool true)::(22,.ptr (mpE (AV.int .i64) (AV.int .i64) a1.qA))::(23,mpE (AV.int .i64) (AV.int .i64) a1.qA)::(24,I6 x1)::(25,I6 (mget keq1 0 x1 a1.qA))::t);refine WO.pk 3 ((alookup Try.prog 85 [] (mpE (AV.int .i64) (AV.int .i64) a1.qA) (I6 x1)).map AV.strip) (congrArg (A1 AV.strip) (jD (F:=(AV.int .i64)) (G:=(AV.int .i64)) (eq:=keq1) (l:=a1.qA) (k:=x1) (z:=0) (kt:=3) (e:=3) (Jy hc13) (by kernel_rfl) (fun x=>by kernel_rfl) (fun x y=>by kernel_rfl) (by kernel_rfl))) (e1:=z9 []) ?_;obtain⟨hc14,h⟩:=qw h;let z10:=fun t=>z9 ((26,.ptr (mpE (AV.int .i64) (AV.int .i64) a1.qt))::(27,mpE (AV.int .i64) (AV.int .i64) a1.qt)::(28,I6 a2)::(29,I6 (mget keq1 0 a2 a1.qt))::t);refine WO.pk 3 ((alookup Try.prog 85 [] (mpE (AV.int .i64) (AV.int .i64) a1.qt) (I6 a2)).map AV.strip) (congrArg (A1 AV.strip) (jD (F:=(AV.int .i64)) (G:=(AV.int .i64)) (eq:=keq1) (l:=a1.qt) (k:=a2) (z:=0) (kt:=3) (e:=3) (Jy hc14) (by kernel_rfl) (fun x=>by kernel_rfl) (fun x y=>by kernel_rfl) (by kernel_rfl))) (e1:=z10 []) ?_;refine WO.bh 3 (fun b=>z10 [(30,.bool b),(31,.bool b),(32,.bool b)]) (decide ((mget keq1 0 x1 a1.qA)<(mget keq1 0 a2 a1.qt))) h (fun h=>?_) (fun h=>?_)
   ·let z11:=fun t=>z10 ((30,.bool true)::(31,.bool true)::(32,.bool true)::(33,I6 v8)::t);refine WO.bh 3 (fun b=>z11 [(34,.bool b),(35,.bool b)]) (v8 == 0) h (fun h=>?_) (fun h=>?_)
    ·refine WO.fn (e2:=z7 [(46,.bool true)]) ?_;exact hK11 true h
    obtain⟨hc15,h⟩:=qw h;let z12:=fun t=>z11 ((34,.bool false)::(35,.bool false)::(36,.ptr (mpE (AV.int .i64) (AV.int .i64) a1.qA))::(37,mpE (AV.int .i64) (AV.int .i64) a1.qA)::(38,I6 x1)::(39,I6 (mget keq1 0 x1 a1.qA))::t);refine WO.pk 3 ((alookup Try.prog 85 [] (mpE (AV.int .i64) (AV.int .i64) a1.qA) (I6 x1)).map AV.strip) (congrArg (A1 AV.strip) (jD (F:=(AV.int .i64)) (G:=(AV.int .i64)) (eq:=keq1) (l:=a1.qA) (k:=x1) (z:=0) (kt:=3) (e:=3) (Jy hc15) (by kernel_rfl) (fun x=>by kernel_rfl) (fun x y=>by kernel_rfl) (by kernel_rfl))) (e1:=z12 []) ?_;obtain⟨hc16,h⟩:=qw h;refine WO.pk 3 ((alookup Try.prog 85 [] (mpE (AV.int .i64) (AV.int .i64) a1.qA) (I6 v8)).map AV.strip) (congrArg (A1 AV.strip) (jD (F:=(AV.int .i64)) (G:=(AV.int .i64)) (eq:=keq1) (l:=a1.qA) (k:=v8) (z:=0) (kt:=3) (e:=3) (Jy hc16) (by kernel_rfl) (fun x=>by kernel_rfl) (fun x y=>by kernel_rfl) (by kernel_rfl))) (e1:=z12 [(40,.ptr (mpE (AV.int .i64) (AV.int .i64) a1.qA)),(41,mpE (AV.int .i64) (AV.int .i64) a1.qA),(42,I6 v8),(43,I6 (mget keq1 0 v8 a1.qA))]) ?_;refine WO.fn (e2:=z7 [(46,.bool (decide ((mget keq1 0 x1 a1.qA) > (mget keq1 0 v8 a1.qA))))]) ?_;exact hK11 (decide ((mget keq1 0 x1 a1.qA) > (mget keq1 0 v8 a1.qA))) h
   refine WO.fn (e2:=z7 [(46,.bool false)]) ?_;exact hK11 false h
  refine WO.fn (e2:=z7 [(46,.bool false)]) ?_;exact hK11 false h
def qX:Option Bool :=
 (some true)
def ji (N1:(Option Bool)):Option Bool :=
 N1
def jQ (N2:(Option Bool)):Option Bool :=
 N2
def jv (N3:(Option Bool)) (v17:Bool):Option Bool :=
 (bif v17 then (some false) else N3)
def qL (a1:qK) (x1:Int) (x2:Int) (K8:(Option Bool)):List Nat→Nat→Option Bool
 | [],k3=>K8
 | x3::r3,k3=>(bif (decide (x1<x2)) then ((jt a1 x1 x2).bind fun w14=>(bif w14 then ((jk a1 x1 (k3:Int)).bind fun w15=>(bif w15 then ((jk a1 x2 (k3:Int)).bind fun w16=>((jv (qL a1 x1 x2 K8 r3 (k3+1))) w16)) else ((jv (qL a1 x1 x2 K8 r3 (k3+1))) false))) else ((jv (qL a1 x1 x2 K8 r3 (k3+1))) false))) else ((jv (qL a1 x1 x2 K8 r3 (k3+1))) false))
def qM (a1:qK) (x1:Int) (K5:(Option Bool)):List Int→Nat→Option Bool
 | [],k2=>K5
 | x2::r2,k2=>(chk (lenOk (A2 (A3 6))) (qL a1 x1 x2 (jQ (qM a1 x1 K5 r2 (k2+1))) (A2 (A3 6)) 0))
def qF (a1:qK) (K3:(Option Bool)):List Int→Nat→Option Bool
 | [],k1=>K3
 | x1::r1,k1=>(chk (lenOk a1.qm) (qM a1 x1 (ji (qF a1 K3 r1 (k1+1))) a1.qm 0))
def ju (a1:qK):Option Bool :=
 (chk (lenOk a1.qm) (qF a1 (qX) a1.qm 0))
theorem Qv (a1:qK) (r:Bool) (h:ju a1=some r):Run Try.prog (.call 78 [.agg [l44 none a1.f_h,l3 none a1.qm,mpE (AV.int .i64) (AV.int .i64) a1.qt,mpE (AV.int .i64) (AV.int .i64) a1.qA]] (.bool r)):=by
 refine cW Try.func78 rfl (env0:=[(0,.agg [l44 none a1.f_h,l3 none a1.qm,mpE (AV.int .i64) (AV.int .i64) a1.qt,mpE (AV.int .i64) (AV.int .i64) a1.qA])]) ?_;unfold ju at h;refine W.seq ?_;let z0:=fun t=>EN ((1,.ptr (.agg [l44 none a1.f_h,l3 none a1.qm,mpE (AV.int .i64) (AV.int .i64) a1.qt,mpE (AV.int .i64) (AV.int .i64) a1.qA]))::t);refine W.rT [1] [1] (e2:=z0 []) ?_;refine W.seq<|W.join (σ:=Unit) (fun s=>[]) (fun s=>(qX)=some r) (fun s h=>?_) (fun hK3=>?_)
 ·unfold qX at h;refine W.seq<|W.rt (e2:=[(2,.bool true)]) ?_;refine W.wk (e:=[(2,.bool true)]) ?_;cases h;exact W.rr
 refine W.sr<|WO.pq 2 (jM (.int .i64) a1.qm) (e1:=z0 [(8,.ptr (l3 none a1.qm)),(9,l3 none a1.qm),(10,I6 (a1.qm.length:Int))]) ?_;let z1:=fun t=>z0 ((9,l3 none a1.qm)::(10,I6 (a1.qm.length:Int))::t);refine WO.fn (e2:=z1 [(11,.int .i64 0)]) ?_;refine W.block ?_;obtain⟨hl1,h⟩:=qw h;refine W.wk (e:=z1 [(11,I6 ((0:Nat):Int))])<|W.range (σ:=Unit) a1.qm (fun k1 s=>z1 [(11,I6 (k1:Int))]) (fun r0 k0 s=>qF a1 (qX) r0 k0=some r) (fun s h=>?_) (fun x1 r1 k1 s hx1 hk1 h hN1=>?_) () h
 ·rw[qF.eq_1]at h;refine W.sr ?_;let y0:Env:=[(9,l3 none a1.qm),(10,I6 (a1.qm.length:Int)),(11,I6 ((a1.qm).length:Int)),(12,.bool false)];refine WO.pq 0 (jB (jN (l:=a1.qm))) (e1:=z0 y0)<|WO.fn (e2:=z0 y0) ?_;refine W.seq<|W.cF<|W.exit<|W.wk (e:=[]) ?_;exact hK3 () h
 ·rw[qF.eq_2]at h;refine W.sr ?_;let y1:Env:=[(9,l3 none a1.qm),(10,I6 (a1.qm.length:Int)),(11,I6 (k1:Int)),(12,.bool true)];refine WO.pq 0 (jB (Jr hk1)) (e1:=z0 y1)<|WO.fn (e2:=z0 y1) ?_;refine W.seq<|W.cT<|W.skip ?_;let y2:Env:=[(9,l3 none a1.qm),(10,I6 (a1.qm.length:Int)),(11,I6 (k1:Int))];refine W.wk (e:=z0 y2)<|W.seq<|W.join (σ:=Unit) (fun s=>z0 y2) (fun s=>(ji (qF a1 (qX) r1 (k1+1)))=some r) (fun s h=>?_) (fun hK5=>?_)
  ·unfold ji at h;refine W.rg<|WO.pq 0 (jI (jg hl1 hk1)) (e1:=z1 [(11,I6 (k1:Int)),(48,I6 ((k1+1:Nat):Int))])<|WO.fn (e2:=z1 [(11,I6 ((k1+1:Nat):Int))]) ?_;exact hN1 () h
  refine W.block<|W.sr<|WO.pq 0 (Js (f:=(AV.int .i64)) hx1) (e1:=z1 [(11,I6 (k1:Int)),(13,.ptr (I6 x1))]) ?_;let z2:=fun t=>z0 ((4,I6 x1)::t);refine WO.fn (e2:=z2 y2) ?_;refine W.sr ?_;let z3:=fun t=>z2 ((9,l3 none a1.qm)::(10,I6 (a1.qm.length:Int))::(11,I6 (k1:Int))::t);refine WO.pq 2 (jM (.int .i64) a1.qm) (e1:=z3 [(15,.ptr (l3 none a1.qm)),(16,l3 none a1.qm),(17,I6 (a1.qm.length:Int))]) ?_;let z4:=fun t=>z3 ((16,l3 none a1.qm)::(17,I6 (a1.qm.length:Int))::t);refine WO.fn (e2:=z4 [(18,.int .i64 0)]) ?_;refine W.block ?_;obtain⟨hl2,h⟩:=qw h;refine W.wk (e:=z4 [(18,I6 ((0:Nat):Int))])<|W.range (σ:=Unit) a1.qm (fun k2 s=>z4 [(18,I6 (k2:Int))]) (fun r0 k0 s=>qM a1 x1 (ji (qF a1 (qX) r1 (k1+1))) r0 k0=some r) (fun s h=>?_) (fun x2 r2 k2 s hx2 hk2 h hN2=>?_) () h
  ·rw[qM.eq_1]at h;refine W.sr ?_;let y3:Env:=[(4,I6 x1),(9,l3 none a1.qm),(10,I6 (a1.qm.length:Int)),(11,I6 (k1:Int)),(16,l3 none a1.qm),(17,I6 (a1.qm.length:Int)),(18,I6 ((a1.qm).length:Int)),(19,.bool false)];refine WO.pq 0 (jB (jN (l:=a1.qm))) (e1:=z0 y3)<|WO.fn (e2:=z0 y3) ?_;refine W.seq<|W.cF<|W.exit<|W.wk (e:=z0 y2) ?_;exact hK5 () h
  ·rw[qM.eq_2]at h;refine W.sr ?_;let y4:Env:=[(4,I6 x1),(9,l3 none a1.qm),(10,I6 (a1.qm.length:Int)),(11,I6 (k1:Int)),(16,l3 none a1.qm),(17,I6 (a1.qm.length:Int)),(18,I6 (k2:Int)),(19,.bool true)];refine WO.pq 0 (jB (Jr hk2)) (e1:=z0 y4)<|WO.fn (e2:=z0 y4) ?_;refine W.seq<|W.cT<|W.skip ?_;let y5:Env:=[(9,l3 none a1.qm),(10,I6 (a1.qm.length:Int)),(11,I6 (k1:Int)),(16,l3 none a1.qm),(17,I6 (a1.qm.length:Int)),(18,I6 (k2:Int))];refine W.wk (e:=z2 y5)<|W.seq<|W.join (σ:=Unit) (fun s=>z2 y5) (fun s=>(jQ (qM a1 x1 (ji (qF a1 (qX) r1 (k1+1))) r2 (k2+1)))=some r) (fun s h=>?_) (fun hK8=>?_)
   ·unfold jQ at h;refine W.rg<|WO.pq 0 (jI (jg hl2 hk2)) (e1:=z4 [(18,I6 (k2:Int)),(47,I6 ((k2+1:Nat):Int))])<|WO.fn (e2:=z4 [(18,I6 ((k2+1:Nat):Int))]) ?_;exact hN2 () h
   refine W.block<|W.sr<|WO.pq 0 (Js (f:=(AV.int .i64)) hx2) (e1:=z4 [(18,I6 (k2:Int)),(20,.ptr (I6 x2))]) ?_;let z5:=fun t=>z2 ((6,I6 x2)::t);refine WO.fn (e2:=z5 y5) ?_;refine W.seq ?_;let z6:=fun t=>z5 ((9,l3 none a1.qm)::(10,I6 (a1.qm.length:Int))::(11,I6 (k1:Int))::(16,l3 none a1.qm)::(17,I6 (a1.qm.length:Int))::(18,I6 (k2:Int))::t);refine W.rt (e2:=z6 [(22,.int .i64 0)]) ?_;refine W.block ?_;obtain⟨hl3,h⟩:=qw h;refine W.wk (e:=z6 [(22,I6 ((0:Nat):Int))])<|W.range (σ:=Unit) (A2 (A3 6)) (fun k3 s=>z6 [(22,I6 (k3:Int))]) (fun r0 k0 s=>qL a1 x1 x2 (jQ (qM a1 x1 (ji (qF a1 (qX) r1 (k1+1))) r2 (k2+1))) r0 k0=some r) (fun s h=>?_) (fun x3 r3 k3 s hx3 hk3 h hN3=>?_) () h
   ·rw[qL.eq_1]at h;refine W.sr ?_;let y6:Env:=[(4,I6 x1),(6,I6 x2),(9,l3 none a1.qm),(10,I6 (a1.qm.length:Int)),(11,I6 (k1:Int)),(16,l3 none a1.qm),(17,I6 (a1.qm.length:Int)),(18,I6 (k2:Int)),(22,I6 (((A2 (A3 6))).length:Int)),(23,.bool false)];refine WO.pq 0 (jB (DK (n:=6))) (e1:=z0 y6)<|WO.fn (e2:=z0 y6) ?_;refine W.seq<|W.cF<|W.exit<|W.wk (e:=z2 y5) ?_;exact hK8 () h
   ·rw[qL.eq_2]at h;refine W.sr ?_;let y7:Env:=[(4,I6 x1),(6,I6 x2),(9,l3 none a1.qm),(10,I6 (a1.qm.length:Int)),(11,I6 (k1:Int)),(16,l3 none a1.qm),(17,I6 (a1.qm.length:Int)),(18,I6 (k2:Int)),(22,I6 (k3:Int)),(23,.bool true)];refine WO.pq 0 (jB (qbI hk3)) (e1:=z0 y7)<|WO.fn (e2:=z0 y7) ?_;refine W.seq<|W.cT<|W.skip ?_;let y8:Env:=[(9,l3 none a1.qm),(10,I6 (a1.qm.length:Int)),(11,I6 (k1:Int)),(16,l3 none a1.qm),(17,I6 (a1.qm.length:Int)),(18,I6 (k2:Int)),(22,I6 (k3:Int))];refine W.wk (e:=z5 y8)<|W.seq<|W.block<|W.seq ?_;let z7:=fun t=>z5 ((7,I6 (k3:Int))::t);refine W.rt (e2:=z7 y8) ?_;refine W.seq ?_;let z8:=fun t=>z6 ((22,I6 (k3:Int))::t);refine W.join (σ:=(Bool)) (fun s=>z8 [(45,.bool s)]) (fun s=>(jv (qL a1 x1 x2 (jQ (qM a1 x1 (ji (qF a1 (qX) r1 (k1+1))) r2 (k2+1))) r3 (k3+1))) s=some r) (fun v17 h=>?_) (fun hK13=>?_)
    ·unfold jv at h;refine W.ch v17 h (fun h=>?_) (fun h=>?_)
     ·refine W.seq<|W.rt (e2:=[(2,.bool false)]) ?_;refine W.wk (e:=[(2,.bool false)]) ?_;cases h;exact W.rr
     refine W.sw (e:=z5 y8) ?_;refine W.rg<|WO.pq 0 (jI (jg hl3 hk3)) (e1:=z8 [(46,I6 ((k3+1:Nat):Int))])<|WO.fn (e2:=z6 [(22,I6 ((k3+1:Nat):Int))]) ?_;exact hN3 () h
    refine W.rg ?_;let z9:=fun t=>z7 ((9,l3 none a1.qm)::(10,I6 (a1.qm.length:Int))::(11,I6 (k1:Int))::(16,l3 none a1.qm)::(17,I6 (a1.qm.length:Int))::(18,I6 (k2:Int))::(22,I6 (k3:Int))::(25,I6 x1)::(26,I6 x2)::t);refine WO.bh 4 (fun b=>z9 [(27,.bool b),(28,.bool b)]) (decide (x1<x2)) h (fun h=>?_) (fun h=>?_)
    ·obtain⟨w14,hw14,h⟩:=qh h;let z10:=fun t=>z9 ((27,.bool true)::(28,.bool true)::(29,.agg [l44 none a1.f_h,l3 none a1.qm,mpE (AV.int .i64) (AV.int .i64) a1.qt,mpE (AV.int .i64) (AV.int .i64) a1.qA])::(30,I6 x1)::(31,I6 x2)::t);refine WO.ck 3 (F:=80) (l:=[.agg [l44 none a1.f_h,l3 none a1.qm,mpE (AV.int .i64) (AV.int .i64) a1.qt,mpE (AV.int .i64) (AV.int .i64) a1.qA],I6 x1,I6 x2]) (C:=[]) (r:=.bool w14) (Qu a1 x1 x2 w14 hw14) (e1:=z10 [(32,.bool w14)])<|WO.bh 2 (fun b=>z10 [(32,.bool b),(33,.bool b),(34,.bool b)]) w14 h (fun h=>?_) (fun h=>?_)
     ·obtain⟨w15,hw15,h⟩:=qh h;let z11:=fun t=>z10 ((32,.bool true)::(33,.bool true)::(34,.bool true)::(35,.agg [l44 none a1.f_h,l3 none a1.qm,mpE (AV.int .i64) (AV.int .i64) a1.qt,mpE (AV.int .i64) (AV.int .i64) a1.qA])::(36,I6 x1)::(37,I6 (k3:Int))::t);refine WO.ck 3 (F:=106) (l:=[.agg [l44 none a1.f_h,l3 none a1.qm,mpE (AV.int .i64) (AV.int .i64) a1.qt,mpE (AV.int .i64) (AV.int .i64) a1.qA],I6 x1,I6 (k3:Int)]) (C:=[]) (r:=.bool w15) (jP a1 x1 (k3:Int) w15 hw15) (e1:=z11 [(38,.bool w15)])<|WO.bh 2 (fun b=>z11 [(38,.bool b),(39,.bool b),(40,.bool b)]) w15 h (fun h=>?_) (fun h=>?_)
      ·obtain⟨w16,hw16,h⟩:=qh h;refine WO.ck 3 (F:=106) (l:=[.agg [l44 none a1.f_h,l3 none a1.qm,mpE (AV.int .i64) (AV.int .i64) a1.qt,mpE (AV.int .i64) (AV.int .i64) a1.qA],I6 x2,I6 (k3:Int)]) (C:=[]) (r:=.bool w16) (jP a1 x2 (k3:Int) w16 hw16) (e1:=z11 [(38,.bool true),(39,.bool true),(40,.bool true),(41,.agg [l44 none a1.f_h,l3 none a1.qm,mpE (AV.int .i64) (AV.int .i64) a1.qt,mpE (AV.int .i64) (AV.int .i64) a1.qA]),(42,I6 x2),(43,I6 (k3:Int)),(44,.bool w16)])<|WO.fn (e2:=z8 [(45,.bool w16)]) ?_;exact hK13 w16 h
      refine WO.fn (e2:=z8 [(45,.bool false)]) ?_;exact hK13 false h
     refine WO.fn (e2:=z8 [(45,.bool false)]) ?_;exact hK13 false h
    refine WO.fn (e2:=z8 [(45,.bool false)]) ?_;exact hK13 false h
def JH:Option Int :=
 (some (-1))
def jw (g2:(hsOp→Option Bool)) (K4:(Option Int)):List hsOp→Nat→Option Int
 | [],k1=>K4
 | x1::r1,k1=>((g2 x1).bind fun w9=>(bif w9 then (some (k1:Int)) else (jw g2 K4 r1 (k1+1))))
def Qm (a1:(List hsOp)) (g2:(hsOp→Option Bool)):Option Int :=
 (chk (lenOk a1) (jw g2 (JH) a1 0))
theorem ZP (a1:(List hsOp)) (g2:(hsOp→Option Bool)) (F_g2:Nat) (C_g2:List AV) (hok_g2:okFn Try.prog F_g2=true) (hrun_g2:∀ (x0:hsOp) r,g2 x0=some r→Run Try.prog (.call F_g2 ([.agg [I6 x0.qg,I6 x0.qi,I6 x0.qj]]++C_g2) (.bool r))) (r:Int) (h:Qm a1 g2=some r):Run Try.prog (.call 104 [l44 none a1,.clo F_g2 C_g2] (I6 r)):=by
 refine cW Try.func104 rfl (env0:=[(0,l44 none a1),(1,.clo F_g2 C_g2)]) ?_;unfold Qm at h;refine W.seq ?_;let z0:=fun t=>EN ((0,l44 none a1)::(1,.clo F_g2 C_g2)::t);refine W.rt (e2:=z0 []) ?_;refine W.seq<|W.join (σ:=Unit) (fun s=>[]) (fun s=>(JH)=some r) (fun s h=>?_) (fun hK4=>?_)
 ·unfold JH at h;refine W.seq<|W.rt (e2:=[(4,I6 (-1))]) ?_;refine W.wk (e:=[(4,I6 (-1))]) ?_;cases h;exact W.rr
 refine W.sr<|WO.pq 1 (jM jn a1) (e1:=z0 [(6,l44 none a1),(7,I6 (a1.length:Int))]) ?_;let z1:=fun t=>z0 ((7,I6 (a1.length:Int))::t);refine WO.fn (e2:=z1 [(8,.int .i64 0)]) ?_;refine W.block ?_;obtain⟨hl1,h⟩:=qw h;refine W.wk (e:=z1 [(8,I6 ((0:Nat):Int))])<|W.range (σ:=Unit) a1 (fun k1 s=>z1 [(8,I6 (k1:Int))]) (fun r0 k0 s=>jw g2 (JH) r0 k0=some r) (fun s h=>?_) (fun x1 r1 k1 s hx1 hk1 h hN1=>?_) () h
 ·rw[jw.eq_1]at h;refine W.sr ?_;let y0:Env:=[(1,.clo F_g2 C_g2),(7,I6 (a1.length:Int)),(8,I6 ((a1).length:Int)),(9,.bool false)];refine WO.pq 0 (jB (jN (l:=a1))) (e1:=((0,l44 none a1)::y0))<|WO.fn (e2:=((0,l44 none a1)::y0)) ?_;refine W.seq<|W.cF<|W.exit<|W.wk (e:=[]) ?_;exact hK4 () h
 ·rw[jw.eq_2]at h;refine W.sr ?_;let y1:Env:=[(1,.clo F_g2 C_g2),(7,I6 (a1.length:Int)),(8,I6 (k1:Int)),(9,.bool true)];let z2:=fun t=>EN ((0,l44 none a1)::t);refine WO.pq 0 (jB (Jr hk1)) (e1:=z2 y1)<|WO.fn (e2:=z2 y1) ?_;refine W.seq<|W.cT<|W.skip ?_;let y2:Env:=[(7,I6 (a1.length:Int)),(8,I6 (k1:Int))];refine W.wk (e:=z0 y2)<|W.seq<|W.block<|W.seq ?_;let z3:=fun t=>z0 ((5,I6 (k1:Int))::t);refine W.rt (e2:=z3 y2) ?_;refine W.sr ?_;let z4:=fun t=>z3 ((7,I6 (a1.length:Int))::(8,I6 (k1:Int))::(11,.clo F_g2 C_g2)::(12,l44 none a1)::(13,I6 (k1:Int))::(14,.ptr (.agg [I6 x1.qg,I6 x1.qi,I6 x1.qj]))::t);refine WO.pq 3 (Js (f:=jn) hx1) (e1:=z4 []) ?_;obtain⟨w9,hw9,h⟩:=qh h;refine WO.callK 1 (F:=F_g2) (l:=[.agg [I6 x1.qg,I6 x1.qi,I6 x1.qj]]) (C:=C_g2) (r:=.bool w9) (by kernel_rfl) hok_g2 (hrun_g2 x1 w9 hw9) (e1:=z4 [(15,.agg [I6 x1.qg,I6 x1.qi,I6 x1.qj]),(16,.bool w9)]) (by kernel_rfl)<|WO.fn (e2:=z3 [(7,I6 (a1.length:Int)),(8,I6 (k1:Int)),(16,.bool w9)]) ?_;refine W.ch w9 h (fun h=>?_) (fun h=>?_)
  ·refine W.seq<|W.rt (e2:=[(4,I6 (k1:Int))]) ?_;refine W.wk (e:=[(4,I6 (k1:Int))]) ?_;cases h;exact W.rr
  refine W.sw (e:=z0 y2) ?_;refine W.rg<|WO.pq 0 (jI (jg hl1 hk1)) (e1:=z1 [(8,I6 (k1:Int)),(18,I6 ((k1+1:Nat):Int))])<|WO.fn (e2:=z1 [(8,I6 ((k1+1:Nat):Int))]) ?_;exact hN1 () h
def jH (a1:hsOp) (c2:Int):Option Bool :=
 (some (a1.qg == c2))
theorem YK (a1:hsOp) (c2:Int) (r:Bool) (h:jH a1 c2=some r):Run Try.prog (.call 105 [.agg [I6 a1.qg,I6 a1.qi,I6 a1.qj],.ptr (I6 c2)] (.bool r)):=by
 refine cW Try.func105 rfl (env0:=[(0,.agg [I6 a1.qg,I6 a1.qi,I6 a1.qj]),(1,.ptr (I6 c2))]) ?_;unfold jH at h;refine W.seq<|W.rT [1,2] [2] (e2:=[(1,.ptr (I6 c2)),(2,.ptr (.agg [I6 a1.qg,I6 a1.qi,I6 a1.qj]))]) ?_;refine W.seq<|W.rt (e2:=[(3,.bool (a1.qg == c2))]) ?_;refine W.wk (e:=[(3,.bool (a1.qg == c2))]) ?_;cases h;exact W.rr
end Go.AM
namespace Go.AM
def beginsP (h:List hsOp):List Int→List (Int×Int)→Option (List (Int×Int))
 | [],m=>some m
 | t::l,m=>(Qm h fun y=>jH y t).bind fun i=>beginsP h l (mset keq1 t i m)
def snapP (fuel:Nat) (a1:List hsOp):Option qK:=(jj fuel a1).bind fun l=>(jY fuel a1 2).bind fun en=>chk (decide (l.length≤1000) && l.all (wfI .i64)) ((beginsP a1 l []).bind fun be=>some ⟨a1,l,be,en⟩)
end Go.AM
namespace Go.Proofs
open Go.RowKit Go.AM
open Go.ChangeMaps (setBlock)
theorem qem {M:Mem} {ks vs:List AV} {v:Value} (h:R M (.mpv ks vs) v):∃ mo,v=.map mo:=by
 generalize hx:AV.mpv ks vs=x at h
 cases h <;> first | exact⟨_,rfl⟩ | cases hx
theorem qer {M:Mem} {l:List hsOp} {v:Value} (h:R M (l44 none l) v):∃ a cap,v=.slice a l.length cap:=by
 unfold l44 at h;generalize hx:List.map jn l=xs at h
 cases h with
 | lstn =>
  have:l=[]:=by simpa using hx
  subst this;exact⟨none,0,rfl⟩
 | lste _ _ _ ad cap =>
  have:l=[]:=by simpa using hx
  subst this;exact⟨some ad,cap,rfl⟩
 | lst us h1 h2 h5 h3 h4 =>
  subst hx;exact⟨_,_,by rw[List.length_map]⟩
theorem DG (k v:Int):∀ l:List (Int×Int),(mset keq1 k v l).length≤l.length+1
 | []=>by simp[mset]
 | p::r=>by
  have:=DG k v r;unfold mset;cases keq1 p.1 k <;> simp <;> omega
set_option maxHeartbeats 4000000 in
theorem VO {fuel:Nat} {a1:List hsOp} {r:qK} (h:snapP fuel a1=some r):CallOk Try.prog 77 [l44 none a1] (Ux r):=by
 intro M w vs hG hC hl hR
 obtain⟨v0,rfl⟩:∃ v0,vs=[v0]:=by
  match vs,hl with
  | [v0],_=>exact⟨v0,rfl⟩
 have r0:R M (l44 none a1) v0:=hR 0 _ v0 rfl rfl;clear hR hl hG;show Calls Try.prog 77 [v0].toArray w (Ng M w (Ux r));unfold snapP at h;obtain⟨l,hcm,h⟩:=qh h;obtain⟨en,hen,h⟩:=qh h;obtain⟨hck,h⟩:=qw h;rw[Bool.and_eq_true,decide_eq_true_eq]at hck;obtain⟨hlen,hwf⟩:=hck;obtain⟨be,hbe,h⟩:=qh h;cases h;have mixed:=mixedP;have t3:=Try.underlying3;have a3:=Try.isAgg3;have z3:=Try.sizeOf3;have v3:=Try.zeroValue3;have u3:=run_underlying Try.underlying3;have t4:=Try.underlying4;have a4:=Try.isAgg4;have z4:=Try.sizeOf4;have v4:=Try.zeroValue4;have t24:=Try.underlying24;have a24:=Try.isAgg24;have z24:=Try.sizeOf24;have v24:=Try.zeroValue24;have u24:=run_underlying Try.underlying24;have t29:=Try.underlying29;have a29:=Try.isAgg29;have z29:=Try.sizeOf29;have v29:=Try.zeroValue29;have t85:=Try.underlying85;have a85:=Try.isAgg85;have z85:=Try.sizeOf85;have v85:=Try.zeroValue85;have u85:=run_underlying Try.underlying85;have t118:=Try.underlying118;have a118:=Try.isAgg118;have z118:=Try.sizeOf118;have v118:=Try.zeroValue118;have u118:=run_underlying Try.underlying118;have t136:=Try.underlying136;have a136:=Try.isAgg136;have z136:=Try.sizeOf136;have v136:=Try.zeroValue136;have hmm:=@run_makeMap Try.prog
 go_enter Try.func77,Try.ntmps77
 go_wp2_with fail
 obtain⟨w0,ew0⟩:∃ w0,w0=w.alloc (.cells #[.slice none 0 0,.slice none 0 0,.map none,.map none] 118):=⟨_,rfl⟩
 have C0:Cons M w0:=by rw[ew0];exact hC.alloc _
 have hz0:w0.heap[w.heap.size]? = some (.cells #[.slice none 0 0,.slice none 0 0,.map none,.map none] 118 (0,0)):=by rw[ew0];exact heap_alloc_new _ _
 have hs0:w0.heap.size=w.heap.size+1:=by rw[ew0];simp
 have B0:Below w.heap.size w w0:=by rw[ew0];exact (Below.refl _ _).alloc (A4 _) _
 rw[← ew0];have c51:=Xp (Jb fuel a1 l hcm) M w0 [v0] (glob0 M) C0 rfl (fun j a b ha hb=>by match j,ha,hb with | 0,ha,hb=>cases ha;cases hb;exact r0);refine Calls.mono c51 ?_
 rintro e w1 ⟨lv,M1,rfl,hB1,s1,C1,o1,r1,_⟩
 have c62:=Xp (QP fuel a1 2 en hen) M1 (w1.alloc (.map #[] 0)) [v0,.int .i64 2] (glob0 M1) (C1.alloc _) rfl (fun j a b ha hb=>by match j,ha,hb with | 0,ha,hb=>(cases ha;cases hb;exact r0.mono s1) | 1,ha,hb=>(cases ha;cases hb;exact .int _ _))
 go_wp2_with fail
 refine Calls.mono c62 ?_
 rintro e w2 ⟨ev,M2,rfl,hB2,s2,C2,o2,r2,_⟩
 obtain⟨a5,lcap,rfl,hlc⟩:=XG (l:=l) r1;obtain⟨mo,rfl⟩:=qem r2;obtain⟨h5,hcap,rfl⟩:∃ h5 hcap,v0=.slice h5 a1.length hcap:=qer r0;clear ew0 c51 c62;obtain⟨w3,ew3⟩:∃ w3,w3=w2.alloc (.cells #[.slice h5 a1.length hcap,.slice a5 l.length lcap,.map (some w1.heap.size),.map mo] 118):=⟨_,rfl⟩;have q1:=hB1.size
 have q2:w1.heap.size+1≤w2.heap.size:=by simpa using hB2.size
 have hs3:w3.heap.size=w2.heap.size+1:=by rw[ew3];simp
 have hb3:w3.heap[w2.heap.size]? = some (.cells #[.slice h5 a1.length hcap,.slice a5 l.length lcap,.map (some w1.heap.size),.map mo] 118 (0,0)):=by rw[ew3];exact heap_alloc_new _ _
 have hm3:w3.heap[w1.heap.size]? = some (.map #[] 0):=by
  rw[ew3,heap_alloc_old _ _ (by omega),hB2.block _ (by simp)];exact heap_alloc_new _ _
 have hz3:w3.heap[w.heap.size]? = some (.cells #[.slice none 0 0,.slice none 0 0,.map none,.map none] 118 (0,0)):=by
  rw[ew3,heap_alloc_old _ _ (by omega),hB2.block _ (by simp;omega),heap_alloc_old _ _ (by omega),hB1.block _ (by omega)];exact hz0
 have B03:Below w.heap.size w w3:=by
  have e1:Below w.heap.size w1 (w1.alloc (.map #[] 0)):=(Below.refl _ _).alloc (by omega) _;have e2:=hB2.mono (B':=w.heap.size) (by simp;omega);rw[ew3];exact ((((B0.trans (hB1.mono (by omega))).trans e1).trans e2)).alloc (by omega) _
 have C3:Cons M2 w3:=by rw[ew3];exact C2.alloc _
 have hno:∀ o,M2 w1.heap.size o=none:=fun o=>by
  rw[o2 _ _ (by simp)]
  cases hm:M1 w1.heap.size o with
  | none=>rfl
  | some u=>have:=ZN (C1 _ _ _ hm);omega
 have rH:R M2 (l44 none a1) (.slice h5 a1.length hcap):=(r0.mono s1).mono s2
 have hL:∀ j (hj:j<l.length),∃ b off,a5=some ⟨b,off,none⟩∧M2 b (off+j)=some (.int .i64 l[j]):=fun j hj=>by
  obtain⟨b,off,h1,h2⟩:=hlc j hj;exact⟨b,off,h1,s2 _ _ _ h2⟩
 have HW:=(show Hid (w3=_) from ew3)
 have hmf:∀ (fn:Fn) (first cap:Array Value) (w:World),(Instr.makeFunc fn first cap).run Try.prog w=.ok (.func fn first cap) w:=fun _ _ _ _=>rfl
 go_wp2
 rw[← HW.out];clear ew3
 go_loopw [16] (fun i wr=>∃ k:Nat,k≤l.length∧i=.int .i64 k∧(∃ m:List (Int×Int),m.length≤k∧beginsP a1 (l.drop k) m=some be∧MapAt M2 wr w1.heap.size (AV.int .i64) (AV.int .i64) m)∧(wr.os=w3.os∧wr.tape=w3.tape∧wr.output=w3.output∧w3.heap.size≤wr.heap.size∧∀ k,k<w3.heap.size→k≠w1.heap.size→wr.heap[k]? = w3.heap[k]?))
  (fun i _=>l.length - (RowKit.intOf i).toNat)
 case atStart=>exact⟨0,Nat.zero_le _,rfl,⟨[],A4 _,hbe,.empty hm3⟩,rfl,rfl,rfl,A4 _,fun _ _ _=>rfl⟩
 case round =>
  obtain⟨k,hk,rfl,⟨m,hml,hbk,es,clock,hmb,hE⟩,g1,g2,g3,g4,g5⟩:=hrel
  have hCr:Cons M2 wr:=C3.of_blocks fun b o u hu hb=>g5 b hb fun e=>by rw[e,hno]at hu;cases hu
  rcases Nat.lt_or_ge k l.length with hk1 | hk1
  ·obtain⟨b,off,rfl,hM⟩:=hL k hk1;have hcx:=je (hCr _ _ _ hM) rfl;have j0:(0:Int)≤(k:Int):=Int.natCast_nonneg _
   have j1:(k:Int)<(l.length:Int):=by omega
   have hwx:=List.all_eq_true.1 hwf _ (List.getElem_mem hk1);rw[List.drop_eq_getElem_cons hk1]at hbk;generalize l[k]=x at hcx hwx hbk;obtain⟨ix,hix,hbk⟩:=qh hbk;have hrun:=Xp (ZP a1 (fun y=>jH y x) 105 [.ptr (.int .i64 x)] (by kernel_rfl) (fun y r h=>YK y x r h) ix hix);have hcall:=hrun (madd M2 wr.heap.size (.int .i64 x)) (wr.alloc (.cells #[.int .i64 x] 3)).drew [.slice h5 a1.length hcap,.func (.func 105) #[] #[.pointer (some ⟨wr.heap.size,0,none⟩)]] (glob0 _)
    (XF (w:=wr.alloc (.cells #[.int .i64 x] 3)) (hCr.alloc _) (heap_alloc_new _ _) rfl rfl) rfl (fun j a b ha hb=>by
     match j,ha,hb with
     | 0,ha,hb=>cases ha;cases hb;exact rH.mono (qfn hCr (A4 _))
     | 1,ha,hb =>
      cases ha;cases hb
      refine .clo (vs:=[.pointer (some ⟨wr.heap.size,0,none⟩)]) rfl fun j c v hc hv=>?_
      match j,hc,hv with
      | 0,hc,hv =>
       cases hc;cases hv;refine .ptr (fun _=>.int .i64 x) (fun j c hc=>?_) (fun j c hc=>?_) (fun j c hc=>rfl)
       ·match j,hc with
        | 0,hc=>exact Zx _ _ _
       ·match j,hc with
        | 0,hc=>cases hc;exact .int _ _)
   obtain⟨es',clock',hE',hU⟩:=Try.update_own (t:=85) (kt:=3) (e:=3) (eq:=keq1) hE (by kernel_rfl) (fun x=>by kernel_rfl) (fun x y=>by simp[akeq,keq1,kbeq]) (k:=x) (v:=ix) (kv:=.int .i64 x) (vv:=.int .i64 ix) (by simp only[AV.keyV,hwx]) (.int _ _) (by omega)
   have K0:(wr.alloc (.cells #[.int .i64 x] 3)).drew.cell? ⟨w2.heap.size,2,none⟩=some (.map (some w1.heap.size))∧(wr.alloc (.cells #[.int .i64 x] 3)).drew.cell? ⟨wr.heap.size,0,none⟩=some (.int .i64 x):=by
    constructor
    ·have:(wr.alloc (.cells #[.int .i64 x] 3)).heap[w2.heap.size]? = some (.cells #[.slice h5 a1.length hcap,.slice (some ⟨b,off,none⟩) l.length lcap,.map (some w1.heap.size),.map mo] 118 (0,0)):=by
      rw[heap_alloc_old _ _ (by omega),g5 _ (by omega) (by omega)];exact hb3
     show (wr.alloc (.cells #[.int .i64 x] 3)).cell? _=_;simp[A0,this]
    ·exact cell_of_one (w:=wr.alloc (.cells #[.int .i64 x] 3)) (heap_alloc_new _ _)
   clear hrun hbe
   go_wp2
   go_region_held3 (fun w'=>w'.cell? ⟨w2.heap.size,2,none⟩=some (.map (some w1.heap.size))∧w'.cell? ⟨wr.heap.size,0,none⟩=some (.int .i64 x)) (first | exact K0 | exact K1 | exact K2)
    (first
     | (go_at_call 104;refine Calls.mono hcall ?_;rintro e w5 ⟨v,M5,rfl,hB5,_,_,_,hr5,_⟩;obtain rfl:v=.int .i64 ix:=hr5.int_inv;have m5:w5.heap[w1.heap.size]? = some (.map es clock):=(hB5.block _ (by simp;omega)).trans ((heap_alloc_old wr _ (by omega)).trans hmb);have HU5:=hU w5 w1.heap.size m5;have K1:w5.cell? ⟨w2.heap.size,2,none⟩=some (.map (some w1.heap.size))∧w5.cell? ⟨wr.heap.size,0,none⟩=some (.int .i64 x):=⟨(hB5.cell (by simp;omega)).trans K0.1,(hB5.cell (by simp)).trans K0.2⟩;have K2:(setBlock w5 w1.heap.size (.map es' clock')).cell? ⟨w2.heap.size,2,none⟩=some (.map (some w1.heap.size))∧(setBlock w5 w1.heap.size (.map es' clock')).cell? ⟨wr.heap.size,0,none⟩=some (.int .i64 x):=⟨(A6 (Qs (by simp;omega))).trans K1.1,(A6 (Qs (by simp;omega))).trans K1.2⟩))
   all_goals go_wp2
   all_goals go_roundw
   case rel =>
    refine⟨k+1,hk1,by go_num,⟨_,?_,hbk,es',clock',ZU m5,hE'⟩,hB5.os.trans g1,hB5.tape.trans g2,hB5.output.trans g3,?_,fun j hj hne=>?_⟩
    ·have:=DG x ix m;omega
    ·have:=hB5.size;simp at this;rw[VI];omega
    ·rw[Qs hne,hB5.block _ (by simp;omega)];exact (heap_alloc_old wr _ (by omega)).trans (g5 j hj hne)
   case measure=>simp[RowKit.intOf];omega
  ·have hkl:k=l.length:=by omega
   subst hkl
   have hbl:m=be:=by
    rw[List.drop_length]at hbk;exact Option.some.inj hbk
   subst hbl;have hbr:wr.heap[w2.heap.size]? = some (.cells #[.slice h5 a1.length hcap,.slice a5 l.length lcap,.map (some w1.heap.size),.map mo] 118 (0,0)):=(g5 _ (by omega) (by omega)).trans hb3;have hzr:wr.heap[w.heap.size]? = some (.cells #[.slice none 0 0,.slice none 0 0,.map none,.map none] 118 (0,0)):=(g5 _ (by omega) (by omega)).trans hz3
   have c0:wr.cell? ⟨w2.heap.size,0,none⟩=some (.slice h5 a1.length hcap):=by simp[A0,hbr]
   have c1:wr.cell? ⟨w2.heap.size,1,none⟩=some (.slice a5 l.length lcap):=by simp[A0,hbr]
   have c2:wr.cell? ⟨w2.heap.size,2,none⟩=some (.map (some w1.heap.size)):=by simp[A0,hbr]
   have c3:wr.cell? ⟨w2.heap.size,3,none⟩=some (.map mo):=by simp[A0,hbr]
   have d0:wr.cell? ⟨w.heap.size,0,none⟩=some (.slice none 0 0):=by simp[A0,hzr]
   have d1:wr.cell? ⟨w.heap.size,1,none⟩=some (.slice none 0 0):=by simp[A0,hzr]
   have d2:wr.cell? ⟨w.heap.size,2,none⟩=some (.map none):=by simp[A0,hzr]
   have d3:wr.cell? ⟨w.heap.size,3,none⟩=some (.map none):=by simp[A0,hzr]
   have f0:wr.frozen? ⟨w.heap.size,0,none⟩=false:=by simp[A5,hzr]
   have f1:wr.frozen? ⟨w.heap.size,1,none⟩=false:=by simp[A5,hzr]
   have f2:wr.frozen? ⟨w.heap.size,2,none⟩=false:=by simp[A5,hzr]
   have f3:wr.frozen? ⟨w.heap.size,3,none⟩=false:=by simp[A5,hzr]
   go_wp2
   obtain⟨w9,ew9⟩:∃ w9,w9=(((wr.setCell ⟨w.heap.size,0,none⟩ (.slice h5 a1.length hcap)).setCell ⟨w.heap.size,1,none⟩ (.slice a5 l.length lcap)).setCell ⟨w.heap.size,2,none⟩ (.map (some w1.heap.size))).setCell ⟨w.heap.size,3,none⟩ (.map mo):=⟨_,rfl⟩
   have hz9:w9.heap[w.heap.size]? = some (.cells #[.slice h5 a1.length hcap,.slice a5 l.length lcap,.map (some w1.heap.size),.map mo] 118 (0,0)):=by
    have st:∀ (w:World) (b j:Nat) (cs:Array Value) (t:TypeId) (u:Value),w.heap[b]? = some (.cells cs t (0,0))→(w.setCell ⟨b,j,none⟩ u).heap[b]? = some (.cells (cs.setIfInBounds j u) t (0,0)):=fun w b j cs t u h=>by
     have hlt:=lt_of_block h
     have h':w.heap[b]=.cells cs t (0,0):=by simpa[A7 hlt] using h
     show (w.heap.modify b _)[b]? = _;rw[A7 (by simpa using hlt),Array.getElem_modify_self,h'];rfl
    rw[ew9,st _ _ _ _ _ _ (st _ _ _ _ _ _ (st _ _ _ _ _ _ (st _ _ _ _ _ _ hzr)))];rfl
   have hb9:∀ j,j≠w.heap.size→w9.heap[j]? = wr.heap[j]?:=fun j hj=>by
    rw[ew9,Below.heap_setCell _ _ _ _ hj,Below.heap_setCell _ _ _ _ hj,Below.heap_setCell _ _ _ _ hj,Below.heap_setCell _ _ _ _ hj]
   have hrest9:w9.os=wr.os∧w9.tape=wr.tape∧w9.output=wr.output∧w9.heap.size=wr.heap.size:=by rw[ew9];exact⟨rfl,rfl,rfl,by simp[World.setCell]⟩
   rw[← ew9];clear ew9
   have hres:∀ tm:Array Value,tm[2]?.getD undef=.pointer (some ⟨w.heap.size,0,none⟩)→(results Try.f77 tm).run Try.prog w9=.ok (.agg #[.slice h5 a1.length hcap,.slice a5 l.length lcap,.map (some w1.heap.size),.map mo]) w9:=by
    intro tm htm
    have hr:Try.f77.results=#[.cell 2 118]:=by kernel_rfl
    have e0:w9.cell? ⟨w.heap.size,0,none⟩=some (.slice h5 a1.length hcap):=by simp[A0,hz9]
    have e1:w9.cell? ⟨w.heap.size,1,none⟩=some (.slice a5 l.length lcap):=by simp[A0,hz9]
    have e2:w9.cell? ⟨w.heap.size,2,none⟩=some (.map (some w1.heap.size)):=by simp[A0,hz9]
    have e3:w9.cell? ⟨w.heap.size,3,none⟩=some (.map mo):=by simp[A0,hz9]
    simp[results,hr,htm];go_simp
   refine bodyPost_ret (hres _ (by rfl)) rfl ?_
   have hlt:w1.heap.size<w9.heap.size:=by
    have:w9.heap[w1.heap.size]? = some (.map es clock):=(hb9 _ (by omega)).trans hmb;exact lt_of_block this
   have C9:Cons M2 w9:=C3.of_blocks fun b o u hu hb=>by
    by_cases e1:b=w1.heap.size
    ·rw[e1,hno]at hu;cases hu
    ·by_cases e2:b=w.heap.size
     ·exfalso;subst e2;rw[o2 _ _ (by simp;omega),o1 _ _ (by omega)]at hu;have:=ZN (hC _ _ _ hu);omega
     ·rw[hb9 _ e2,g5 _ hb e1]
   have hm9:w9.heap[w1.heap.size]? = some (.map es clock):=(hb9 _ (by omega)).trans hmb
   have hMsub:Sub M2 (maddM M2 w1.heap.size es clock):=fun b o u hu=>by
    rw[Np (fun e=>by rw[e,hno]at hu;cases hu)];exact hu
   refine⟨_,maddM M2 w1.heap.size es clock,rfl,?_,Sub.trans s1 (Sub.trans s2 hMsub),qcS C9 hm9,fun b o hb=>?_,?_,trivial⟩
   ·refine B03.trans ⟨?_,?_,?_,?_,fun k hk=>?_⟩
    ·rw[← g1];exact hrest9.1
    ·rw[← g2];exact hrest9.2.1
    ·rw[← g3];exact hrest9.2.2.1
    ·rw[hrest9.2.2.2];exact g4
    ·rw[hb9 _ (by omega),g5 _ (by omega) (by omega)]
   ·rw[Np (by omega),o2 _ _ (by simp;omega),o1 _ _ (by omega)]
   ·refine .agg (vs:=[.slice h5 a1.length hcap,.slice a5 l.length lcap,.map (some w1.heap.size),.map mo]) rfl (fun j c v hc hv=>?_)
    match j,hc,hv with
    | 0,hc,hv=>cases hc;cases hv;exact rH.mono hMsub
    | 1,hc,hv=>cases hc;cases hv;exact (R.mono (Sub.trans s2 hMsub) r1)
    | 2,hc,hv=>cases hc;cases hv;exact qfY hMsub hE
    | 3,hc,hv=>cases hc;cases hv;exact R.mono hMsub r2
end Go.Proofs
namespace Go.AM
open Go.Proofs
end Go.AM
namespace Go.AM
open Go.Proofs
def qu (v68:(List (qd×Bool))) (v69:(List (qd×Bool))):Option ((List (qd×Bool))×(List (qd×Bool))) :=
 (some (v68,v69))
def qB (N1:((List (qd×Bool))→(List (qd×Bool))→Option ((List (qd×Bool))×(List (qd×Bool))))) (v66:(List (qd×Bool))) (v67:(List (qd×Bool))):Option ((List (qd×Bool))×(List (qd×Bool))) :=
 (N1 v66 v67)
def qJ (N2:((List (qd×Bool))→(List (qd×Bool))→Option ((List (qd×Bool))×(List (qd×Bool))))) (v64:(List (qd×Bool))) (v65:(List (qd×Bool))):Option ((List (qd×Bool))×(List (qd×Bool))) :=
 (N2 v64 v65)
def qR (N3:((List (qd×Bool))→(List (qd×Bool))→Option ((List (qd×Bool))×(List (qd×Bool))))) (v62:(List (qd×Bool))) (v63:(List (qd×Bool))):Option ((List (qd×Bool))×(List (qd×Bool))) :=
 (N3 v62 v63)
def qQ (x1:Int) (x2:Int) (v46:(List (qd×Bool))) (v47:(List (qd×Bool))) (K18:((List (qd×Bool))→(List (qd×Bool))→Option ((List (qd×Bool))×(List (qd×Bool))))) (v59:Bool):Option ((List (qd×Bool))×(List (qd×Bool))) :=
 (bif v59 then (chk (wfI .i64 x1 && wfI .i64 x2) (chk (Nat.blt v47.length 1000000000) (K18 v46 (mset qr (qd.mk x1 x2) true v47)))) else (K18 v46 v47))
def qO (a1:qK) (x1:Int) (x2:Int) (k3:Nat) (K18:((List (qd×Bool))→(List (qd×Bool))→Option ((List (qd×Bool))×(List (qd×Bool))))) (v46:(List (qd×Bool))) (v47:(List (qd×Bool))):Option ((List (qd×Bool))×(List (qd×Bool))) :=
 ((jk a1 x1 (k3:Int)).bind fun w49=>(bif w49 then ((jk a1 x2 (k3:Int)).bind fun w50=>(bif w50 then (chk (wfI .i64 x1) (chk (wfI .i64 x2) (bif (decide ((mget keq1 0 x1 a1.qA)<(mget keq1 0 x2 a1.qA))) then ((qQ x1 x2 v46 v47 K18) true) else ((jW a1 x2 (k3:Int)).bind fun w53=>(bif w53 then ((Jd a1 x2 (k3:Int)).bind fun w54=>((qQ x1 x2 v46 v47 K18) (w54 == x1))) else ((qQ x1 x2 v46 v47 K18) false)))))) else ((jW a1 x2 (k3:Int)).bind fun w55=>(bif w55 then ((Jd a1 x2 (k3:Int)).bind fun w56=>((qQ x1 x2 v46 v47 K18) (w56 == x1))) else ((qQ x1 x2 v46 v47 K18) false))))) else ((jW a1 x2 (k3:Int)).bind fun w57=>(bif w57 then ((Jd a1 x2 (k3:Int)).bind fun w58=>((qQ x1 x2 v46 v47 K18) (w58 == x1))) else ((qQ x1 x2 v46 v47 K18) false)))))
def jq (x1:Int) (x2:Int) (v16:(List (qd×Bool))) (v17:(List (qd×Bool))) (K23:((List (qd×Bool))→(List (qd×Bool))→Option ((List (qd×Bool))×(List (qd×Bool))))) (v29:Bool):Option ((List (qd×Bool))×(List (qd×Bool))) :=
 (bif v29 then (chk (wfI .i64 x1 && wfI .i64 x2) (chk (Nat.blt v16.length 1000000000) (chk (wfI .i64 x1 && wfI .i64 x2) (chk (Nat.blt v17.length 1000000000) (K23 (mset qr (qd.mk x1 x2) true v16) (mset qr (qd.mk x1 x2) true v17)))))) else (K23 v16 v17))
def qp (a1:qK) (x1:Int) (x2:Int) (K13:((List (qd×Bool))→(List (qd×Bool))→Option ((List (qd×Bool))×(List (qd×Bool))))):List Nat→Nat→(List (qd×Bool))→(List (qd×Bool))→Option ((List (qd×Bool))×(List (qd×Bool)))
 | [],k3,v16,v17=>(K13 v16 v17)
 | x3::r3,k3,v16,v17=>(bif (x1 == x2) then ((qR (qp a1 x1 x2 K13 r3 (k3+1))) v16 v17) else ((jW a1 x1 (k3:Int)).bind fun w25=>(bif w25 then ((jk a1 x2 (k3:Int)).bind fun w26=>(bif w26 then (chk (wfI .i64 x2) (chk (wfI .i64 x1) ((jq x1 x2 v16 v17 (qO a1 x1 x2 k3 (qR (qp a1 x1 x2 K13 r3 (k3+1))))) (decide ((mget keq1 0 x2 a1.qA) > (mget keq1 0 x1 a1.qt)))))) else ((jq x1 x2 v16 v17 (qO a1 x1 x2 k3 (qR (qp a1 x1 x2 K13 r3 (k3+1))))) false))) else ((jq x1 x2 v16 v17 (qO a1 x1 x2 k3 (qR (qp a1 x1 x2 K13 r3 (k3+1))))) false))))
def qy (a1:qK) (x1:Int) (K8:((List (qd×Bool))→(List (qd×Bool))→Option ((List (qd×Bool))×(List (qd×Bool))))):List Int→Nat→(List (qd×Bool))→(List (qd×Bool))→Option ((List (qd×Bool))×(List (qd×Bool)))
 | [],k2,v11,v12=>(K8 v11 v12)
 | x2::r2,k2,v11,v12=>(chk (lenOk (A2 (A3 6))) (qp a1 x1 x2 (qJ (qy a1 x1 K8 r2 (k2+1))) (A2 (A3 6)) 0 v11 v12))
def qq (a1:qK) (K4:((List (qd×Bool))→(List (qd×Bool))→Option ((List (qd×Bool))×(List (qd×Bool))))):List Int→Nat→(List (qd×Bool))→(List (qd×Bool))→Option ((List (qd×Bool))×(List (qd×Bool)))
 | [],k1,v6,v7=>(K4 v6 v7)
 | x1::r1,k1,v6,v7=>(chk (lenOk a1.qm) (qy a1 x1 (qB (qq a1 K4 r1 (k1+1))) a1.qm 0 v6 v7))
def jX (a1:qK):Option ((List (qd×Bool))×(List (qd×Bool))) :=
 (chk (lenOk a1.qm) (qq a1 (qu) a1.qm 0 ([]:(List (qd×Bool))) ([]:(List (qd×Bool)))))
theorem XB (a1:qK) (r:((List (qd×Bool))×(List (qd×Bool)))) (h:jX a1=some r):Run Try.prog (.call 79 [.agg [l44 none a1.f_h,l3 none a1.qm,mpE (AV.int .i64) (AV.int .i64) a1.qt,mpE (AV.int .i64) (AV.int .i64) a1.qA]] (.tup [mpE qc AV.bool r.1,mpE qc AV.bool r.2])):=by
 refine cW Try.func79 rfl (env0:=[(0,.agg [l44 none a1.f_h,l3 none a1.qm,mpE (AV.int .i64) (AV.int .i64) a1.qt,mpE (AV.int .i64) (AV.int .i64) a1.qA])]) ?_;unfold jX at h;refine W.seq ?_;let z0:=fun t=>EN ((1,.ptr (.agg [l44 none a1.f_h,l3 none a1.qm,mpE (AV.int .i64) (AV.int .i64) a1.qt,mpE (AV.int .i64) (AV.int .i64) a1.qA]))::t);refine W.rT [1] [1] (e2:=z0 []) ?_;refine W.seq ?_;let y0:Env:=[(1000010,hobE qc AV.bool ([]:(List (qd×Bool)))),(1000011,hobE qc AV.bool ([]:(List (qd×Bool))))];let z1:=fun t=>z0 ((2,.mb 0 1000010)::(3,.mb 0 1000011)::t);refine W.rt (e2:=z1 y0) ?_;refine W.seq ?_;let z2:=fun t=>EN ((2,.mb 0 1000010)::(3,.mb 0 1000011)::t);refine W.join (σ:=((List (qd×Bool))×(List (qd×Bool)))) (fun s=>z2 [(1000010,hobE qc AV.bool s.1),(1000011,hobE qc AV.bool s.2)]) (fun s=>(qu) s.1 s.2=some r) (fun s h=>?_) (fun hK4=>?_)
 ·obtain⟨v68,v69⟩:=s;have h:(qu) v68 v69=some r:=h;unfold qu at h;refine W.seq<|W.rt (e2:=z2 [(1000010,hobE qc AV.bool v68),(1000011,hobE qc AV.bool v69)]) ?_;let z3:=fun t=>EN ((2,mpE qc AV.bool v68)::t);refine W.mv [.frz 1000010] (env':=z3 [(3,.mb 0 1000011),(1000011,hobE qc AV.bool v69)]) (by kernel_rfl) ?_;let z4:=fun t=>z3 ((3,mpE qc AV.bool v69)::t);refine W.mv [.frz 1000011] (env':=z4 []) (by kernel_rfl)<|W.wk (e:=z4 []) ?_;cases h;exact W.rr
 refine W.sr<|WO.pq 2 (jM (.int .i64) a1.qm) (e1:=z1 ((12,.ptr (l3 none a1.qm))::(13,l3 none a1.qm)::(14,I6 (a1.qm.length:Int))::y0)) ?_;let z5:=fun t=>z1 ((13,l3 none a1.qm)::(14,I6 (a1.qm.length:Int))::t);refine WO.fn (e2:=z5 ((15,.int .i64 0)::y0)) ?_;refine W.block ?_;obtain⟨hl1,h⟩:=qw h;refine W.wk (e:=z5 ((15,I6 ((0:Nat):Int))::y0))<|W.range (σ:=((List (qd×Bool))×(List (qd×Bool)))) a1.qm (fun k1 s=>z5 [(15,I6 (k1:Int)),(1000010,hobE qc AV.bool s.1),(1000011,hobE qc AV.bool s.2)]) (fun r0 k0 s=>qq a1 (qu) r0 k0 s.1 s.2=some r) (fun s h=>?_) (fun x1 r1 k1 s hx1 hk1 h hN1=>?_) (([]:(List (qd×Bool))),([]:(List (qd×Bool)))) h
 ·obtain⟨v6,v7⟩:=s;have h:qq a1 (qu) [] (a1.qm).length v6 v7=some r:=h;rw[qq.eq_1]at h;refine W.sr ?_;let y1:Env:=[(2,.mb 0 1000010),(3,.mb 0 1000011),(13,l3 none a1.qm),(14,I6 (a1.qm.length:Int)),(15,I6 ((a1.qm).length:Int)),(16,.bool false),(1000010,hobE qc AV.bool v6),(1000011,hobE qc AV.bool v7)];refine WO.pq 0 (jB (jN (l:=a1.qm))) (e1:=z0 y1)<|WO.fn (e2:=z0 y1) ?_;refine W.seq<|W.cF<|W.exit<|W.wk (e:=z2 [(1000010,hobE qc AV.bool v6),(1000011,hobE qc AV.bool v7)]) ?_;exact hK4 (v6,v7) h
 ·obtain⟨v6,v7⟩:=s;have h:qq a1 (qu) (x1::r1) k1 v6 v7=some r:=h;rw[qq.eq_2]at h;refine W.sr ?_;let y2:Env:=[(1000010,hobE qc AV.bool v6),(1000011,hobE qc AV.bool v7)];let z6:=fun t=>z5 ((15,I6 (k1:Int))::t);refine WO.pq 0 (jB (Jr hk1)) (e1:=z6 ((16,.bool true)::y2))<|WO.fn (e2:=z6 ((16,.bool true)::y2)) ?_;refine W.seq<|W.cT<|W.skip ?_;let y3:Env:=(13,l3 none a1.qm)::(14,I6 (a1.qm.length:Int))::(15,I6 (k1:Int))::y2;refine W.wk (e:=z1 y3)<|W.seq<|W.join (σ:=((List (qd×Bool))×(List (qd×Bool)))) (fun s=>z6 [(1000010,hobE qc AV.bool s.1),(1000011,hobE qc AV.bool s.2)]) (fun s=>(qB (qq a1 (qu) r1 (k1+1))) s.1 s.2=some r) (fun s h=>?_) (fun hK8=>?_)
  ·obtain⟨v66,v67⟩:=s;have h:(qB (qq a1 (qu) r1 (k1+1))) v66 v67=some r:=h;unfold qB at h;refine W.rg ?_;let y4:Env:=[(1000010,hobE qc AV.bool v66),(1000011,hobE qc AV.bool v67)];refine WO.pq 0 (jI (jg hl1 hk1)) (e1:=z6 ((99,I6 ((k1+1:Nat):Int))::y4))<|WO.fn (e2:=z5 ((15,I6 ((k1+1:Nat):Int))::y4)) ?_;exact hN1 (v66,v67) h
  refine W.block<|W.sr<|WO.pq 0 (Js (f:=(AV.int .i64)) hx1) (e1:=z6 ((17,.ptr (I6 x1))::y2)) ?_;let z7:=fun t=>z1 ((5,I6 x1)::t);refine WO.fn (e2:=z7 y3) ?_;refine W.sr ?_;let z8:=fun t=>z7 ((13,l3 none a1.qm)::(14,I6 (a1.qm.length:Int))::(15,I6 (k1:Int))::t);refine WO.pq 2 (jM (.int .i64) a1.qm) (e1:=z8 ((19,.ptr (l3 none a1.qm))::(20,l3 none a1.qm)::(21,I6 (a1.qm.length:Int))::y2)) ?_;let z9:=fun t=>z8 ((20,l3 none a1.qm)::(21,I6 (a1.qm.length:Int))::t);refine WO.fn (e2:=z9 ((22,.int .i64 0)::y2)) ?_;refine W.block ?_;obtain⟨hl2,h⟩:=qw h;refine W.wk (e:=z9 ((22,I6 ((0:Nat):Int))::y2))<|W.range (σ:=((List (qd×Bool))×(List (qd×Bool)))) a1.qm (fun k2 s=>z9 [(22,I6 (k2:Int)),(1000010,hobE qc AV.bool s.1),(1000011,hobE qc AV.bool s.2)]) (fun r0 k0 s=>qy a1 x1 (qB (qq a1 (qu) r1 (k1+1))) r0 k0 s.1 s.2=some r) (fun s h=>?_) (fun x2 r2 k2 s hx2 hk2 h hN2=>?_) (v6,v7) h
  ·obtain⟨v11,v12⟩:=s;have h:qy a1 x1 (qB (qq a1 (qu) r1 (k1+1))) [] (a1.qm).length v11 v12=some r:=h;rw[qy.eq_1]at h;refine W.sr ?_;let y5:Env:=[(2,.mb 0 1000010),(3,.mb 0 1000011),(5,I6 x1),(13,l3 none a1.qm),(14,I6 (a1.qm.length:Int)),(15,I6 (k1:Int)),(20,l3 none a1.qm),(21,I6 (a1.qm.length:Int)),(22,I6 ((a1.qm).length:Int)),(23,.bool false),(1000010,hobE qc AV.bool v11),(1000011,hobE qc AV.bool v12)];refine WO.pq 0 (jB (jN (l:=a1.qm))) (e1:=z0 y5)<|WO.fn (e2:=z0 y5) ?_;refine W.seq<|W.cF<|W.exit<|W.wk (e:=z6 [(1000010,hobE qc AV.bool v11),(1000011,hobE qc AV.bool v12)]) ?_;exact hK8 (v11,v12) h
  ·obtain⟨v11,v12⟩:=s;have h:qy a1 x1 (qB (qq a1 (qu) r1 (k1+1))) (x2::r2) k2 v11 v12=some r:=h;rw[qy.eq_2]at h;refine W.sr ?_;let y6:Env:=[(1000010,hobE qc AV.bool v11),(1000011,hobE qc AV.bool v12)];let z10:=fun t=>z9 ((22,I6 (k2:Int))::t);refine WO.pq 0 (jB (Jr hk2)) (e1:=z10 ((23,.bool true)::y6))<|WO.fn (e2:=z10 ((23,.bool true)::y6)) ?_;refine W.seq<|W.cT<|W.skip ?_;let y7:Env:=(13,l3 none a1.qm)::(14,I6 (a1.qm.length:Int))::(15,I6 (k1:Int))::(20,l3 none a1.qm)::(21,I6 (a1.qm.length:Int))::(22,I6 (k2:Int))::y6;refine W.wk (e:=z7 y7)<|W.seq<|W.join (σ:=((List (qd×Bool))×(List (qd×Bool)))) (fun s=>z10 [(1000010,hobE qc AV.bool s.1),(1000011,hobE qc AV.bool s.2)]) (fun s=>(qJ (qy a1 x1 (qB (qq a1 (qu) r1 (k1+1))) r2 (k2+1))) s.1 s.2=some r) (fun s h=>?_) (fun hK13=>?_)
   ·obtain⟨v64,v65⟩:=s;have h:(qJ (qy a1 x1 (qB (qq a1 (qu) r1 (k1+1))) r2 (k2+1))) v64 v65=some r:=h;unfold qJ at h;refine W.rg ?_;let y8:Env:=[(1000010,hobE qc AV.bool v64),(1000011,hobE qc AV.bool v65)];refine WO.pq 0 (jI (jg hl2 hk2)) (e1:=z10 ((98,I6 ((k2+1:Nat):Int))::y8))<|WO.fn (e2:=z9 ((22,I6 ((k2+1:Nat):Int))::y8)) ?_;exact hN2 (v64,v65) h
   refine W.block<|W.sr<|WO.pq 0 (Js (f:=(AV.int .i64)) hx2) (e1:=z10 ((24,.ptr (I6 x2))::y6)) ?_;let z11:=fun t=>z7 ((7,I6 x2)::t);refine WO.fn (e2:=z11 y7) ?_;refine W.seq ?_;let z12:=fun t=>z11 ((13,l3 none a1.qm)::(14,I6 (a1.qm.length:Int))::(15,I6 (k1:Int))::(20,l3 none a1.qm)::(21,I6 (a1.qm.length:Int))::(22,I6 (k2:Int))::t);refine W.rt (e2:=z12 ((26,.int .i64 0)::y6)) ?_;refine W.block ?_;obtain⟨hl3,h⟩:=qw h;refine W.wk (e:=z12 ((26,I6 ((0:Nat):Int))::y6))<|W.range (σ:=((List (qd×Bool))×(List (qd×Bool)))) (A2 (A3 6)) (fun k3 s=>z12 [(26,I6 (k3:Int)),(1000010,hobE qc AV.bool s.1),(1000011,hobE qc AV.bool s.2)]) (fun r0 k0 s=>qp a1 x1 x2 (qJ (qy a1 x1 (qB (qq a1 (qu) r1 (k1+1))) r2 (k2+1))) r0 k0 s.1 s.2=some r) (fun s h=>?_) (fun x3 r3 k3 s hx3 hk3 h hN3=>?_) (v11,v12) h
   ·obtain⟨v16,v17⟩:=s;have h:qp a1 x1 x2 (qJ (qy a1 x1 (qB (qq a1 (qu) r1 (k1+1))) r2 (k2+1))) [] ((A2 (A3 6))).length v16 v17=some r:=h;rw[qp.eq_1]at h;refine W.sr ?_;let y9:Env:=[(2,.mb 0 1000010),(3,.mb 0 1000011),(5,I6 x1),(7,I6 x2),(13,l3 none a1.qm),(14,I6 (a1.qm.length:Int)),(15,I6 (k1:Int)),(20,l3 none a1.qm),(21,I6 (a1.qm.length:Int)),(22,I6 (k2:Int)),(26,I6 (((A2 (A3 6))).length:Int)),(27,.bool false),(1000010,hobE qc AV.bool v16),(1000011,hobE qc AV.bool v17)];refine WO.pq 0 (jB (DK (n:=6))) (e1:=z0 y9)<|WO.fn (e2:=z0 y9) ?_;refine W.seq<|W.cF<|W.exit<|W.wk (e:=z10 [(1000010,hobE qc AV.bool v16),(1000011,hobE qc AV.bool v17)]) ?_;exact hK13 (v16,v17) h
   ·obtain⟨v16,v17⟩:=s;have h:qp a1 x1 x2 (qJ (qy a1 x1 (qB (qq a1 (qu) r1 (k1+1))) r2 (k2+1))) (x3::r3) k3 v16 v17=some r:=h;rw[qp.eq_2]at h;refine W.sr ?_;let y10:Env:=[(1000010,hobE qc AV.bool v16),(1000011,hobE qc AV.bool v17)];let z13:=fun t=>z12 ((26,I6 (k3:Int))::t);refine WO.pq 0 (jB (qbI hk3)) (e1:=z13 ((27,.bool true)::y10))<|WO.fn (e2:=z13 ((27,.bool true)::y10)) ?_;refine W.seq<|W.cT<|W.skip ?_;let y11:Env:=(13,l3 none a1.qm)::(14,I6 (a1.qm.length:Int))::(15,I6 (k1:Int))::(20,l3 none a1.qm)::(21,I6 (a1.qm.length:Int))::(22,I6 (k2:Int))::(26,I6 (k3:Int))::y10;refine W.wk (e:=z11 y11)<|W.seq<|W.join (σ:=((List (qd×Bool))×(List (qd×Bool)))) (fun s=>z13 [(1000010,hobE qc AV.bool s.1),(1000011,hobE qc AV.bool s.2)]) (fun s=>(qR (qp a1 x1 x2 (qJ (qy a1 x1 (qB (qq a1 (qu) r1 (k1+1))) r2 (k2+1))) r3 (k3+1))) s.1 s.2=some r) (fun s h=>?_) (fun hK18=>?_)
    ·obtain⟨v62,v63⟩:=s;have h:(qR (qp a1 x1 x2 (qJ (qy a1 x1 (qB (qq a1 (qu) r1 (k1+1))) r2 (k2+1))) r3 (k3+1))) v62 v63=some r:=h;unfold qR at h;refine W.rg ?_;let y12:Env:=[(1000010,hobE qc AV.bool v62),(1000011,hobE qc AV.bool v63)];refine WO.pq 0 (jI (jg hl3 hk3)) (e1:=z13 ((97,I6 ((k3+1:Nat):Int))::y12))<|WO.fn (e2:=z12 ((26,I6 ((k3+1:Nat):Int))::y12)) ?_;exact hN3 (v62,v63) h
    refine W.block<|W.seq ?_;let z14:=fun t=>z11 ((8,I6 (k3:Int))::t);refine W.rt (e2:=z14 y11) ?_;refine W.seq ?_;let y13:Env:=(2,.mb 0 1000010)::(3,.mb 0 1000011)::(5,I6 x1)::(7,I6 x2)::(8,I6 (k3:Int))::(9,.ptr (.agg [I6 x1,I6 x2]))::y11;refine W.rT [1,2,3,5,7,8,9,13,14,15,20,21,22,26,1000010,1000011] [9] (e2:=z0 y13) ?_;refine W.seq<|W.seq ?_;let z15:=fun t=>z14 ((9,.ptr (.agg [I6 x1,I6 x2]))::(13,l3 none a1.qm)::(14,I6 (a1.qm.length:Int))::(15,I6 (k1:Int))::(20,l3 none a1.qm)::(21,I6 (a1.qm.length:Int))::(22,I6 (k2:Int))::(26,I6 (k3:Int))::t);refine W.rt (e2:=z15 ((34,.bool (x1 == x2))::y10)) ?_;refine W.ch (x1 == x2) h (fun h=>?_) (fun h=>?_)
    ·refine W.exit<|W.wk (e:=z11 y11) ?_;exact hK18 (v16,v17) h
    refine W.sw (e:=z0 y13) ?_;refine W.seq<|W.join (σ:=((List (qd×Bool))×(List (qd×Bool)))) (fun s=>z15 [(1000010,hobE qc AV.bool s.1),(1000011,hobE qc AV.bool s.2)]) (fun s=>(qO a1 x1 x2 k3 (qR (qp a1 x1 x2 (qJ (qy a1 x1 (qB (qq a1 (qu) r1 (k1+1))) r2 (k2+1))) r3 (k3+1)))) s.1 s.2=some r) (fun s h=>?_) (fun hK23=>?_)
    ·obtain⟨v46,v47⟩:=s;have h:(qO a1 x1 x2 k3 (qR (qp a1 x1 x2 (qJ (qy a1 x1 (qB (qq a1 (qu) r1 (k1+1))) r2 (k2+1))) r3 (k3+1)))) v46 v47=some r:=h;unfold qO at h;refine W.seq ?_;let y14:Env:=[(1000010,hobE qc AV.bool v46),(1000011,hobE qc AV.bool v47)];let z16:=fun t=>z11 ((9,.ptr (.agg [I6 x1,I6 x2]))::(13,l3 none a1.qm)::(14,I6 (a1.qm.length:Int))::(15,I6 (k1:Int))::(20,l3 none a1.qm)::(21,I6 (a1.qm.length:Int))::(22,I6 (k2:Int))::(26,I6 (k3:Int))::t);refine W.join (σ:=(Bool)) (fun s=>z16 ((94,.bool s)::y14)) (fun s=>(qQ x1 x2 v46 v47 (qR (qp a1 x1 x2 (qJ (qy a1 x1 (qB (qq a1 (qu) r1 (k1+1))) r2 (k2+1))) r3 (k3+1)))) s=some r) (fun v59 h=>?_) (fun hK48=>?_)
     ·unfold qQ at h;refine W.ch v59 h (fun h=>?_) (fun h=>?_)
      ·refine W.rg ?_;obtain⟨hc60,h⟩:=qw h;obtain⟨hc61,h⟩:=qw h;let y15:Env:=[(1000010,hobE qc AV.bool v46),(1000011,hobE qc AV.bool (mset qr (qd.mk x1 x2) true v47))];refine WO.mapK (F:=qc) (G:=AV.bool) (eq:=qr) (l:=v47) (a:=(qd.mk x1 x2)) (b:=true) (id:=1000011) (kt:=73) 2 (Yc hc60) hc61 (e1:=z16 ((94,.bool v59)::(95,.mb 0 1000011)::(96,.agg [I6 x1,I6 x2])::y15)) ?_ (fun x=>by kernel_rfl) (fun x y=>by kernel_rfl);refine WO.fn (e2:=z13 y15) ?_;exact hK18 (v46,(mset qr (qd.mk x1 x2) true v47)) h
      refine W.sw (e:=z13 y14) ?_;exact hK18 (v46,v47) h
     refine W.rg ?_;obtain⟨w49,hw49,h⟩:=qh h;let z17:=fun t=>z15 ((60,.agg [l44 none a1.f_h,l3 none a1.qm,mpE (AV.int .i64) (AV.int .i64) a1.qt,mpE (AV.int .i64) (AV.int .i64) a1.qA])::(61,I6 x1)::(62,I6 (k3:Int))::t);refine WO.ck 3 (F:=106) (l:=[.agg [l44 none a1.f_h,l3 none a1.qm,mpE (AV.int .i64) (AV.int .i64) a1.qt,mpE (AV.int .i64) (AV.int .i64) a1.qA],I6 x1,I6 (k3:Int)]) (C:=[]) (r:=.bool w49) (jP a1 x1 (k3:Int) w49 hw49) (e1:=z17 ((63,.bool w49)::y14))<|WO.bh 1 (fun b=>z17 ((63,.bool b)::(64,.bool b)::y14)) w49 h (fun h=>?_) (fun h=>?_)
     ·obtain⟨w50,hw50,h⟩:=qh h;let z18:=fun t=>z17 ((63,.bool true)::(64,.bool true)::(65,.agg [l44 none a1.f_h,l3 none a1.qm,mpE (AV.int .i64) (AV.int .i64) a1.qt,mpE (AV.int .i64) (AV.int .i64) a1.qA])::(66,I6 x2)::(67,I6 (k3:Int))::t);refine WO.ck 3 (F:=106) (l:=[.agg [l44 none a1.f_h,l3 none a1.qm,mpE (AV.int .i64) (AV.int .i64) a1.qt,mpE (AV.int .i64) (AV.int .i64) a1.qA],I6 x2,I6 (k3:Int)]) (C:=[]) (r:=.bool w50) (jP a1 x2 (k3:Int) w50 hw50) (e1:=z18 ((68,.bool w50)::y14))<|WO.bh 2 (fun b=>z18 ((68,.bool b)::(69,.bool b)::(70,.bool b)::y14)) w50 h (fun h=>?_) (fun h=>?_)
      ·obtain⟨hc51,h⟩:=qw h;let z19:=fun t=>z18 ((68,.bool true)::(69,.bool true)::(70,.bool true)::(71,.ptr (mpE (AV.int .i64) (AV.int .i64) a1.qA))::(72,mpE (AV.int .i64) (AV.int .i64) a1.qA)::(73,I6 x1)::(74,I6 (mget keq1 0 x1 a1.qA))::t);refine WO.pk 3 ((alookup Try.prog 85 [] (mpE (AV.int .i64) (AV.int .i64) a1.qA) (I6 x1)).map AV.strip) (congrArg (A1 AV.strip) (jD (F:=(AV.int .i64)) (G:=(AV.int .i64)) (eq:=keq1) (l:=a1.qA) (k:=x1) (z:=0) (kt:=3) (e:=3) (Jy hc51) (by kernel_rfl) (fun x=>by kernel_rfl) (fun x y=>by kernel_rfl) (by kernel_rfl))) (e1:=z19 y14) ?_;obtain⟨hc52,h⟩:=qw h;let z20:=fun t=>z19 ((75,.ptr (mpE (AV.int .i64) (AV.int .i64) a1.qA))::(76,mpE (AV.int .i64) (AV.int .i64) a1.qA)::(77,I6 x2)::(78,I6 (mget keq1 0 x2 a1.qA))::t);refine WO.pk 3 ((alookup Try.prog 85 [] (mpE (AV.int .i64) (AV.int .i64) a1.qA) (I6 x2)).map AV.strip) (congrArg (A1 AV.strip) (jD (F:=(AV.int .i64)) (G:=(AV.int .i64)) (eq:=keq1) (l:=a1.qA) (k:=x2) (z:=0) (kt:=3) (e:=3) (Jy hc52) (by kernel_rfl) (fun x=>by kernel_rfl) (fun x y=>by kernel_rfl) (by kernel_rfl))) (e1:=z20 y14) ?_;refine WO.bh 3 (fun b=>z20 ((79,.bool b)::(80,.bool b)::(81,.bool b)::y14)) (decide ((mget keq1 0 x1 a1.qA)<(mget keq1 0 x2 a1.qA))) h (fun h=>?_) (fun h=>?_)
       ·refine WO.fn (e2:=z16 ((94,.bool true)::y14)) ?_;exact hK48 true h
       obtain⟨w53,hw53,h⟩:=qh h;let z21:=fun t=>z20 ((79,.bool false)::(80,.bool false)::(81,.bool false)::(82,.agg [l44 none a1.f_h,l3 none a1.qm,mpE (AV.int .i64) (AV.int .i64) a1.qt,mpE (AV.int .i64) (AV.int .i64) a1.qA])::(83,I6 x2)::(84,I6 (k3:Int))::t);refine WO.ck 3 (F:=107) (l:=[.agg [l44 none a1.f_h,l3 none a1.qm,mpE (AV.int .i64) (AV.int .i64) a1.qt,mpE (AV.int .i64) (AV.int .i64) a1.qA],I6 x2,I6 (k3:Int)]) (C:=[]) (r:=.bool w53) (Qi a1 x2 (k3:Int) w53 hw53) (e1:=z21 ((85,.bool w53)::y14))<|WO.bh 1 (fun b=>z21 ((85,.bool b)::(86,.bool b)::y14)) w53 h (fun h=>?_) (fun h=>?_)
       ·obtain⟨w54,hw54,h⟩:=qh h;refine WO.ck 3 (F:=108) (l:=[.agg [l44 none a1.f_h,l3 none a1.qm,mpE (AV.int .i64) (AV.int .i64) a1.qt,mpE (AV.int .i64) (AV.int .i64) a1.qA],I6 x2,I6 (k3:Int)]) (C:=[]) (r:=I6 w54) (QB a1 x2 (k3:Int) w54 hw54) (e1:=z21 ((85,.bool true)::(86,.bool true)::(87,.agg [l44 none a1.f_h,l3 none a1.qm,mpE (AV.int .i64) (AV.int .i64) a1.qt,mpE (AV.int .i64) (AV.int .i64) a1.qA])::(88,I6 x2)::(89,I6 (k3:Int))::(90,I6 w54)::y14))<|WO.fn (e2:=z16 ((94,.bool (w54 == x1))::y14)) ?_;exact hK48 (w54 == x1) h
       refine WO.fn (e2:=z16 ((94,.bool false)::y14)) ?_;exact hK48 false h
      obtain⟨w55,hw55,h⟩:=qh h;let z22:=fun t=>z18 ((68,.bool false)::(69,.bool false)::(70,.bool false)::(71,.und)::(72,.und)::(73,.und)::(74,.und)::(75,.und)::(76,.und)::(77,.und)::(78,.und)::(79,.und)::(80,.bool false)::(81,.bool false)::(82,.agg [l44 none a1.f_h,l3 none a1.qm,mpE (AV.int .i64) (AV.int .i64) a1.qt,mpE (AV.int .i64) (AV.int .i64) a1.qA])::(83,I6 x2)::(84,I6 (k3:Int))::t);refine WO.ck 14 (F:=107) (l:=[.agg [l44 none a1.f_h,l3 none a1.qm,mpE (AV.int .i64) (AV.int .i64) a1.qt,mpE (AV.int .i64) (AV.int .i64) a1.qA],I6 x2,I6 (k3:Int)]) (C:=[]) (r:=.bool w55) (Qi a1 x2 (k3:Int) w55 hw55) (e1:=z22 ((85,.bool w55)::y14))<|WO.bh 1 (fun b=>z22 ((85,.bool b)::(86,.bool b)::y14)) w55 h (fun h=>?_) (fun h=>?_)
      ·obtain⟨w56,hw56,h⟩:=qh h;refine WO.ck 3 (F:=108) (l:=[.agg [l44 none a1.f_h,l3 none a1.qm,mpE (AV.int .i64) (AV.int .i64) a1.qt,mpE (AV.int .i64) (AV.int .i64) a1.qA],I6 x2,I6 (k3:Int)]) (C:=[]) (r:=I6 w56) (QB a1 x2 (k3:Int) w56 hw56) (e1:=z22 ((85,.bool true)::(86,.bool true)::(87,.agg [l44 none a1.f_h,l3 none a1.qm,mpE (AV.int .i64) (AV.int .i64) a1.qt,mpE (AV.int .i64) (AV.int .i64) a1.qA])::(88,I6 x2)::(89,I6 (k3:Int))::(90,I6 w56)::y14))<|WO.fn (e2:=z16 ((94,.bool (w56 == x1))::y14)) ?_;exact hK48 (w56 == x1) h
      refine WO.fn (e2:=z16 ((94,.bool false)::y14)) ?_;exact hK48 false h
     obtain⟨w57,hw57,h⟩:=qh h;let z23:=fun t=>z17 ((63,.bool false)::(64,.bool false)::(65,.und)::(66,.und)::(67,.und)::(68,.und)::(69,.bool false)::(70,.bool false)::(71,.und)::(72,.und)::(73,.und)::(74,.und)::(75,.und)::(76,.und)::(77,.und)::(78,.und)::(79,.und)::(80,.bool false)::(81,.bool false)::(82,.agg [l44 none a1.f_h,l3 none a1.qm,mpE (AV.int .i64) (AV.int .i64) a1.qt,mpE (AV.int .i64) (AV.int .i64) a1.qA])::(83,I6 x2)::(84,I6 (k3:Int))::t);refine WO.ck 20 (F:=107) (l:=[.agg [l44 none a1.f_h,l3 none a1.qm,mpE (AV.int .i64) (AV.int .i64) a1.qt,mpE (AV.int .i64) (AV.int .i64) a1.qA],I6 x2,I6 (k3:Int)]) (C:=[]) (r:=.bool w57) (Qi a1 x2 (k3:Int) w57 hw57) (e1:=z23 ((85,.bool w57)::y14))<|WO.bh 1 (fun b=>z23 ((85,.bool b)::(86,.bool b)::y14)) w57 h (fun h=>?_) (fun h=>?_)
     ·obtain⟨w58,hw58,h⟩:=qh h;refine WO.ck 3 (F:=108) (l:=[.agg [l44 none a1.f_h,l3 none a1.qm,mpE (AV.int .i64) (AV.int .i64) a1.qt,mpE (AV.int .i64) (AV.int .i64) a1.qA],I6 x2,I6 (k3:Int)]) (C:=[]) (r:=I6 w58) (QB a1 x2 (k3:Int) w58 hw58) (e1:=z23 ((85,.bool true)::(86,.bool true)::(87,.agg [l44 none a1.f_h,l3 none a1.qm,mpE (AV.int .i64) (AV.int .i64) a1.qt,mpE (AV.int .i64) (AV.int .i64) a1.qA])::(88,I6 x2)::(89,I6 (k3:Int))::(90,I6 w58)::y14))<|WO.fn (e2:=z16 ((94,.bool (w58 == x1))::y14)) ?_;exact hK48 (w58 == x1) h
     refine WO.fn (e2:=z16 ((94,.bool false)::y14)) ?_;exact hK48 false h
    refine W.seq<|W.join (σ:=(Bool)) (fun s=>z15 ((55,.bool s)::y10)) (fun s=>(jq x1 x2 v16 v17 (qO a1 x1 x2 k3 (qR (qp a1 x1 x2 (qJ (qy a1 x1 (qB (qq a1 (qu) r1 (k1+1))) r2 (k2+1))) r3 (k3+1))))) s=some r) (fun v29 h=>?_) (fun hK24=>?_)
    ·unfold jq at h;refine W.ch v29 h (fun h=>?_) (fun h=>?_)
     ·obtain⟨hc30,h⟩:=qw h;obtain⟨hc31,h⟩:=qw h;obtain⟨hc32,h⟩:=qw h;obtain⟨hc33,h⟩:=qw h;let y16:Env:=[(1000010,hobE qc AV.bool (mset qr (qd.mk x1 x2) true v16)),(1000011,hobE qc AV.bool (mset qr (qd.mk x1 x2) true v17))];refine W.regionA (e1:=z15 ((55,.bool v29)::(56,.mb 0 1000010)::(57,.agg [I6 x1,I6 x2])::(58,.mb 0 1000011)::(59,.agg [I6 x1,I6 x2])::y16)) (by kernel_rfl) ?_ ?_
      ·generalize hall:Array.toList _=all;let y0:Nat×AV:=(1,.ptr (.agg [l44 none a1.f_h,l3 none a1.qm,mpE (AV.int .i64) (AV.int .i64) a1.qt,mpE (AV.int .i64) (AV.int .i64) a1.qA]));let y1:Nat×AV:=(2,.mb 0 1000010);let y2:Nat×AV:=(3,.mb 0 1000011);let y3:Nat×AV:=(5,I6 x1);let y4:Nat×AV:=(7,I6 x2);let y5:Nat×AV:=(8,I6 (k3:Int));let y6:Nat×AV:=(9,.ptr (.agg [I6 x1,I6 x2]));let y7:Nat×AV:=(13,l3 none a1.qm);let y8:Nat×AV:=(14,I6 (a1.qm.length:Int));let y9:Nat×AV:=(15,I6 (k1:Int));let y10:Nat×AV:=(20,l3 none a1.qm);let y11:Nat×AV:=(21,I6 (a1.qm.length:Int));let y12:Nat×AV:=(22,I6 (k2:Int));let y13:Nat×AV:=(26,I6 (k3:Int));let y14:Nat×AV:=(55,.bool v29);let y15:Nat×AV:=(56,.mb 0 1000010);let y16:Nat×AV:=(57,.agg [I6 x1,I6 x2]);let y17:Nat×AV:=(1000011,hobE qc AV.bool v17);let y18:Nat×AV:=(58,.mb 0 1000011);let y19:Nat×AV:=(59,.agg [I6 x1,I6 x2]);let y20:Nat×AV:=(1000010,hobE qc AV.bool v16);let y21:Nat×AV:=(1000010,hobE qc AV.bool (mset qr (qd.mk x1 x2) true v16));let y22:Nat×AV:=(1000011,hobE qc AV.bool (mset qr (qd.mk x1 x2) true v17))
       let A:=fun R E=>Run Try.prog (.any 102 all R E ([y0,y1,y2,y3,y4,y5,y6,y7,y8,y9,y10,y11,y12,y13,y14,y15,y16,y18,y19,y21,y22]))
       have s_:A [] [y0,y1,y2,y3,y4,y5,y6,y7,y8,y9,y10,y11,y12,y13,y14,y15,y16,y18,y19,y21,y22]:=.anyNil
       have s5:Run Try.prog (.any 102 all [5] ([y0,y1,y2,y3,y4,y5,y6,y7,y8,y9,y10,y11,y12,y13,y14,y15,y16,y18,y19,y21,y17]) ([y0,y1,y2,y3,y4,y5,y6,y7,y8,y9,y10,y11,y12,y13,y14,y15,y16,y18,y19,y21,y22])):=by subst hall;exact Run.anyL [(5,[y0,y1,y2,y3,y4,y5,y6,y7,y8,y9,y10,y11,y12,y13,y14,y15,y16,y18,y19,y21,y22])] (by kernel_rfl) (by kernel_rfl) (.cons ((YW (F:=qc) (G:=AV.bool) (eq:=qr) (l:=v17) (a:=(qd.mk x1 x2)) (b:=true) (id:=1000011) (kt:=73) (Yc hc32) hc33 (fun x=>by kernel_rfl) (fun x y=>by kernel_rfl) (by kernel_rfl)).trans (by kernel_rfl)) .nil) (.cons s_ .nil)
       have s45:Run Try.prog (.any 102 all [4,5] ([y0,y1,y2,y3,y4,y5,y6,y7,y8,y9,y10,y11,y12,y13,y14,y15,y16,y18,y19,y20,y17]) ([y0,y1,y2,y3,y4,y5,y6,y7,y8,y9,y10,y11,y12,y13,y14,y15,y16,y18,y19,y21,y22])):=by subst hall;exact Run.anyL [(4,[y0,y1,y2,y3,y4,y5,y6,y7,y8,y9,y10,y11,y12,y13,y14,y15,y16,y18,y19,y21,y17])] (by kernel_rfl) (by kernel_rfl) (.cons ((YW (F:=qc) (G:=AV.bool) (eq:=qr) (l:=v16) (a:=(qd.mk x1 x2)) (b:=true) (id:=1000010) (kt:=73) (Yc hc30) hc31 (fun x=>by kernel_rfl) (fun x y=>by kernel_rfl) (by kernel_rfl)).trans (by kernel_rfl)) .nil) (.cons s5 .nil)
       have s35:Run Try.prog (.any 102 all [3,5] ([y0,y1,y2,y3,y4,y5,y6,y7,y8,y9,y10,y11,y12,y13,y14,y15,y16,y18,y21,y17]) ([y0,y1,y2,y3,y4,y5,y6,y7,y8,y9,y10,y11,y12,y13,y14,y15,y16,y18,y19,y21,y22])):=by subst hall;exact Run.anyL [(3,[y0,y1,y2,y3,y4,y5,y6,y7,y8,y9,y10,y11,y12,y13,y14,y15,y16,y18,y19,y21,y17])] (by kernel_rfl) (by kernel_rfl) (.cons (by kernel_rfl) .nil) (.cons s5 .nil)
       have s25:Run Try.prog (.any 102 all [2,5] ([y0,y1,y2,y3,y4,y5,y6,y7,y8,y9,y10,y11,y12,y13,y14,y15,y16,y19,y21,y17]) ([y0,y1,y2,y3,y4,y5,y6,y7,y8,y9,y10,y11,y12,y13,y14,y15,y16,y18,y19,y21,y22])):=by subst hall;exact Run.anyL [(2,[y0,y1,y2,y3,y4,y5,y6,y7,y8,y9,y10,y11,y12,y13,y14,y15,y16,y18,y19,y21,y17])] (by kernel_rfl) (by kernel_rfl) (.cons (by kernel_rfl) .nil) (.cons s5 .nil)
       have s345:Run Try.prog (.any 102 all [3,4,5] ([y0,y1,y2,y3,y4,y5,y6,y7,y8,y9,y10,y11,y12,y13,y14,y15,y16,y18,y20,y17]) ([y0,y1,y2,y3,y4,y5,y6,y7,y8,y9,y10,y11,y12,y13,y14,y15,y16,y18,y19,y21,y22])):=by subst hall;exact Run.anyL [(3,[y0,y1,y2,y3,y4,y5,y6,y7,y8,y9,y10,y11,y12,y13,y14,y15,y16,y18,y19,y20,y17]),(4,[y0,y1,y2,y3,y4,y5,y6,y7,y8,y9,y10,y11,y12,y13,y14,y15,y16,y18,y21,y17])] (by kernel_rfl) (by kernel_rfl) (.cons (by kernel_rfl) (.cons ((YW (F:=qc) (G:=AV.bool) (eq:=qr) (l:=v16) (a:=(qd.mk x1 x2)) (b:=true) (id:=1000010) (kt:=73) (Yc hc30) hc31 (fun x=>by kernel_rfl) (fun x y=>by kernel_rfl) (by kernel_rfl)).trans (by kernel_rfl)) .nil)) (.cons s45 (.cons s35 .nil))
       have s245:Run Try.prog (.any 102 all [2,4,5] ([y0,y1,y2,y3,y4,y5,y6,y7,y8,y9,y10,y11,y12,y13,y14,y15,y16,y19,y20,y17]) ([y0,y1,y2,y3,y4,y5,y6,y7,y8,y9,y10,y11,y12,y13,y14,y15,y16,y18,y19,y21,y22])):=by subst hall;exact Run.anyL [(2,[y0,y1,y2,y3,y4,y5,y6,y7,y8,y9,y10,y11,y12,y13,y14,y15,y16,y18,y19,y20,y17]),(4,[y0,y1,y2,y3,y4,y5,y6,y7,y8,y9,y10,y11,y12,y13,y14,y15,y16,y19,y21,y17])] (by kernel_rfl) (by kernel_rfl) (.cons (by kernel_rfl) (.cons ((YW (F:=qc) (G:=AV.bool) (eq:=qr) (l:=v16) (a:=(qd.mk x1 x2)) (b:=true) (id:=1000010) (kt:=73) (Yc hc30) hc31 (fun x=>by kernel_rfl) (fun x y=>by kernel_rfl) (by kernel_rfl)).trans (by kernel_rfl)) .nil)) (.cons s45 (.cons s25 .nil))
       have s235:Run Try.prog (.any 102 all [2,3,5] ([y0,y1,y2,y3,y4,y5,y6,y7,y8,y9,y10,y11,y12,y13,y14,y15,y16,y21,y17]) ([y0,y1,y2,y3,y4,y5,y6,y7,y8,y9,y10,y11,y12,y13,y14,y15,y16,y18,y19,y21,y22])):=by subst hall;exact Run.anyL [(2,[y0,y1,y2,y3,y4,y5,y6,y7,y8,y9,y10,y11,y12,y13,y14,y15,y16,y18,y21,y17]),(3,[y0,y1,y2,y3,y4,y5,y6,y7,y8,y9,y10,y11,y12,y13,y14,y15,y16,y19,y21,y17])] (by kernel_rfl) (by kernel_rfl) (.cons (by kernel_rfl) (.cons (by kernel_rfl) .nil)) (.cons s35 (.cons s25 .nil))
       have s145:Run Try.prog (.any 102 all [1,4,5] ([y0,y1,y2,y3,y4,y5,y6,y7,y8,y9,y10,y11,y12,y13,y14,y15,y18,y19,y20,y17]) ([y0,y1,y2,y3,y4,y5,y6,y7,y8,y9,y10,y11,y12,y13,y14,y15,y16,y18,y19,y21,y22])):=by subst hall;exact Run.anyL [(1,[y0,y1,y2,y3,y4,y5,y6,y7,y8,y9,y10,y11,y12,y13,y14,y15,y16,y18,y19,y20,y17])] (by kernel_rfl) (by kernel_rfl) (.cons (by kernel_rfl) .nil) (.cons s45 .nil)
       have s045:Run Try.prog (.any 102 all [0,4,5] ([y0,y1,y2,y3,y4,y5,y6,y7,y8,y9,y10,y11,y12,y13,y14,y16,y18,y19,y20,y17]) ([y0,y1,y2,y3,y4,y5,y6,y7,y8,y9,y10,y11,y12,y13,y14,y15,y16,y18,y19,y21,y22])):=by subst hall;exact Run.anyL [(0,[y0,y1,y2,y3,y4,y5,y6,y7,y8,y9,y10,y11,y12,y13,y14,y15,y16,y18,y19,y20,y17])] (by kernel_rfl) (by kernel_rfl) (.cons (by kernel_rfl) .nil) (.cons s45 .nil)
       have s2345:Run Try.prog (.any 102 all [2,3,4,5] ([y0,y1,y2,y3,y4,y5,y6,y7,y8,y9,y10,y11,y12,y13,y14,y15,y16,y20,y17]) ([y0,y1,y2,y3,y4,y5,y6,y7,y8,y9,y10,y11,y12,y13,y14,y15,y16,y18,y19,y21,y22])):=by subst hall;exact Run.anyL [(2,[y0,y1,y2,y3,y4,y5,y6,y7,y8,y9,y10,y11,y12,y13,y14,y15,y16,y18,y20,y17]),(3,[y0,y1,y2,y3,y4,y5,y6,y7,y8,y9,y10,y11,y12,y13,y14,y15,y16,y19,y20,y17]),(4,[y0,y1,y2,y3,y4,y5,y6,y7,y8,y9,y10,y11,y12,y13,y14,y15,y16,y21,y17])] (by kernel_rfl) (by kernel_rfl) (.cons (by kernel_rfl) (.cons (by kernel_rfl) (.cons ((YW (F:=qc) (G:=AV.bool) (eq:=qr) (l:=v16) (a:=(qd.mk x1 x2)) (b:=true) (id:=1000010) (kt:=73) (Yc hc30) hc31 (fun x=>by kernel_rfl) (fun x y=>by kernel_rfl) (by kernel_rfl)).trans (by kernel_rfl)) .nil))) (.cons s345 (.cons s245 (.cons s235 .nil)))
       have s1345:Run Try.prog (.any 102 all [1,3,4,5] ([y0,y1,y2,y3,y4,y5,y6,y7,y8,y9,y10,y11,y12,y13,y14,y15,y18,y20,y17]) ([y0,y1,y2,y3,y4,y5,y6,y7,y8,y9,y10,y11,y12,y13,y14,y15,y16,y18,y19,y21,y22])):=by subst hall;exact Run.anyL [(1,[y0,y1,y2,y3,y4,y5,y6,y7,y8,y9,y10,y11,y12,y13,y14,y15,y16,y18,y20,y17]),(3,[y0,y1,y2,y3,y4,y5,y6,y7,y8,y9,y10,y11,y12,y13,y14,y15,y18,y19,y20,y17])] (by kernel_rfl) (by kernel_rfl) (.cons (by kernel_rfl) (.cons (by kernel_rfl) .nil)) (.cons s345 (.cons s145 .nil))
       have s1245:Run Try.prog (.any 102 all [1,2,4,5] ([y0,y1,y2,y3,y4,y5,y6,y7,y8,y9,y10,y11,y12,y13,y14,y15,y19,y20,y17]) ([y0,y1,y2,y3,y4,y5,y6,y7,y8,y9,y10,y11,y12,y13,y14,y15,y16,y18,y19,y21,y22])):=by subst hall;exact Run.anyL [(1,[y0,y1,y2,y3,y4,y5,y6,y7,y8,y9,y10,y11,y12,y13,y14,y15,y16,y19,y20,y17]),(2,[y0,y1,y2,y3,y4,y5,y6,y7,y8,y9,y10,y11,y12,y13,y14,y15,y18,y19,y20,y17])] (by kernel_rfl) (by kernel_rfl) (.cons (by kernel_rfl) (.cons (by kernel_rfl) .nil)) (.cons s245 (.cons s145 .nil))
       have s0345:Run Try.prog (.any 102 all [0,3,4,5] ([y0,y1,y2,y3,y4,y5,y6,y7,y8,y9,y10,y11,y12,y13,y14,y16,y18,y20,y17]) ([y0,y1,y2,y3,y4,y5,y6,y7,y8,y9,y10,y11,y12,y13,y14,y15,y16,y18,y19,y21,y22])):=by subst hall;exact Run.anyL [(0,[y0,y1,y2,y3,y4,y5,y6,y7,y8,y9,y10,y11,y12,y13,y14,y15,y16,y18,y20,y17]),(3,[y0,y1,y2,y3,y4,y5,y6,y7,y8,y9,y10,y11,y12,y13,y14,y16,y18,y19,y20,y17])] (by kernel_rfl) (by kernel_rfl) (.cons (by kernel_rfl) (.cons (by kernel_rfl) .nil)) (.cons s345 (.cons s045 .nil))
       have s0245:Run Try.prog (.any 102 all [0,2,4,5] ([y0,y1,y2,y3,y4,y5,y6,y7,y8,y9,y10,y11,y12,y13,y14,y16,y19,y20,y17]) ([y0,y1,y2,y3,y4,y5,y6,y7,y8,y9,y10,y11,y12,y13,y14,y15,y16,y18,y19,y21,y22])):=by subst hall;exact Run.anyL [(0,[y0,y1,y2,y3,y4,y5,y6,y7,y8,y9,y10,y11,y12,y13,y14,y15,y16,y19,y20,y17]),(2,[y0,y1,y2,y3,y4,y5,y6,y7,y8,y9,y10,y11,y12,y13,y14,y16,y18,y19,y20,y17])] (by kernel_rfl) (by kernel_rfl) (.cons (by kernel_rfl) (.cons (by kernel_rfl) .nil)) (.cons s245 (.cons s045 .nil))
       have s0145:Run Try.prog (.any 102 all [0,1,4,5] ([y0,y1,y2,y3,y4,y5,y6,y7,y8,y9,y10,y11,y12,y13,y14,y18,y19,y20,y17]) ([y0,y1,y2,y3,y4,y5,y6,y7,y8,y9,y10,y11,y12,y13,y14,y15,y16,y18,y19,y21,y22])):=by subst hall;exact Run.anyL [(0,[y0,y1,y2,y3,y4,y5,y6,y7,y8,y9,y10,y11,y12,y13,y14,y15,y18,y19,y20,y17]),(1,[y0,y1,y2,y3,y4,y5,y6,y7,y8,y9,y10,y11,y12,y13,y14,y16,y18,y19,y20,y17])] (by kernel_rfl) (by kernel_rfl) (.cons (by kernel_rfl) (.cons (by kernel_rfl) .nil)) (.cons s145 (.cons s045 .nil))
       have s12345:Run Try.prog (.any 102 all [1,2,3,4,5] ([y0,y1,y2,y3,y4,y5,y6,y7,y8,y9,y10,y11,y12,y13,y14,y15,y20,y17]) ([y0,y1,y2,y3,y4,y5,y6,y7,y8,y9,y10,y11,y12,y13,y14,y15,y16,y18,y19,y21,y22])):=by subst hall;exact Run.anyL [(1,[y0,y1,y2,y3,y4,y5,y6,y7,y8,y9,y10,y11,y12,y13,y14,y15,y16,y20,y17]),(2,[y0,y1,y2,y3,y4,y5,y6,y7,y8,y9,y10,y11,y12,y13,y14,y15,y18,y20,y17]),(3,[y0,y1,y2,y3,y4,y5,y6,y7,y8,y9,y10,y11,y12,y13,y14,y15,y19,y20,y17])] (by kernel_rfl) (by kernel_rfl) (.cons (by kernel_rfl) (.cons (by kernel_rfl) (.cons (by kernel_rfl) .nil))) (.cons s2345 (.cons s1345 (.cons s1245 .nil)))
       have s02345:Run Try.prog (.any 102 all [0,2,3,4,5] ([y0,y1,y2,y3,y4,y5,y6,y7,y8,y9,y10,y11,y12,y13,y14,y16,y20,y17]) ([y0,y1,y2,y3,y4,y5,y6,y7,y8,y9,y10,y11,y12,y13,y14,y15,y16,y18,y19,y21,y22])):=by subst hall;exact Run.anyL [(0,[y0,y1,y2,y3,y4,y5,y6,y7,y8,y9,y10,y11,y12,y13,y14,y15,y16,y20,y17]),(2,[y0,y1,y2,y3,y4,y5,y6,y7,y8,y9,y10,y11,y12,y13,y14,y16,y18,y20,y17]),(3,[y0,y1,y2,y3,y4,y5,y6,y7,y8,y9,y10,y11,y12,y13,y14,y16,y19,y20,y17])] (by kernel_rfl) (by kernel_rfl) (.cons (by kernel_rfl) (.cons (by kernel_rfl) (.cons (by kernel_rfl) .nil))) (.cons s2345 (.cons s0345 (.cons s0245 .nil)))
       have s01345:Run Try.prog (.any 102 all [0,1,3,4,5] ([y0,y1,y2,y3,y4,y5,y6,y7,y8,y9,y10,y11,y12,y13,y14,y18,y20,y17]) ([y0,y1,y2,y3,y4,y5,y6,y7,y8,y9,y10,y11,y12,y13,y14,y15,y16,y18,y19,y21,y22])):=by subst hall;exact Run.anyL [(0,[y0,y1,y2,y3,y4,y5,y6,y7,y8,y9,y10,y11,y12,y13,y14,y15,y18,y20,y17]),(1,[y0,y1,y2,y3,y4,y5,y6,y7,y8,y9,y10,y11,y12,y13,y14,y16,y18,y20,y17]),(3,[y0,y1,y2,y3,y4,y5,y6,y7,y8,y9,y10,y11,y12,y13,y14,y18,y19,y20,y17])] (by kernel_rfl) (by kernel_rfl) (.cons (by kernel_rfl) (.cons (by kernel_rfl) (.cons (by kernel_rfl) .nil))) (.cons s1345 (.cons s0345 (.cons s0145 .nil)))
       have s01245:Run Try.prog (.any 102 all [0,1,2,4,5] ([y0,y1,y2,y3,y4,y5,y6,y7,y8,y9,y10,y11,y12,y13,y14,y19,y20,y17]) ([y0,y1,y2,y3,y4,y5,y6,y7,y8,y9,y10,y11,y12,y13,y14,y15,y16,y18,y19,y21,y22])):=by subst hall;exact Run.anyL [(0,[y0,y1,y2,y3,y4,y5,y6,y7,y8,y9,y10,y11,y12,y13,y14,y15,y19,y20,y17]),(1,[y0,y1,y2,y3,y4,y5,y6,y7,y8,y9,y10,y11,y12,y13,y14,y16,y19,y20,y17]),(2,[y0,y1,y2,y3,y4,y5,y6,y7,y8,y9,y10,y11,y12,y13,y14,y18,y19,y20,y17])] (by kernel_rfl) (by kernel_rfl) (.cons (by kernel_rfl) (.cons (by kernel_rfl) (.cons (by kernel_rfl) .nil))) (.cons s1245 (.cons s0245 (.cons s0145 .nil)))
       have s012345:Run Try.prog (.any 102 all [0,1,2,3,4,5] ([y0,y1,y2,y3,y4,y5,y6,y7,y8,y9,y10,y11,y12,y13,y14,y20,y17]) ([y0,y1,y2,y3,y4,y5,y6,y7,y8,y9,y10,y11,y12,y13,y14,y15,y16,y18,y19,y21,y22])):=by subst hall;exact Run.anyL [(0,[y0,y1,y2,y3,y4,y5,y6,y7,y8,y9,y10,y11,y12,y13,y14,y15,y20,y17]),(1,[y0,y1,y2,y3,y4,y5,y6,y7,y8,y9,y10,y11,y12,y13,y14,y16,y20,y17]),(2,[y0,y1,y2,y3,y4,y5,y6,y7,y8,y9,y10,y11,y12,y13,y14,y18,y20,y17]),(3,[y0,y1,y2,y3,y4,y5,y6,y7,y8,y9,y10,y11,y12,y13,y14,y19,y20,y17])] (by kernel_rfl) (by kernel_rfl) (.cons (by kernel_rfl) (.cons (by kernel_rfl) (.cons (by kernel_rfl) (.cons (by kernel_rfl) .nil)))) (.cons s12345 (.cons s02345 (.cons s01345 (.cons s01245 .nil))))
       exact s012345
      refine WO.fn (e2:=z15 y16) ?_;exact hK23 ((mset qr (qd.mk x1 x2) true v16),(mset qr (qd.mk x1 x2) true v17)) h
     refine W.sw (e:=z0 y13) ?_;exact hK23 (v16,v17) h
    refine W.rg ?_;obtain⟨w25,hw25,h⟩:=qh h;let z24:=fun t=>z15 ((35,.agg [l44 none a1.f_h,l3 none a1.qm,mpE (AV.int .i64) (AV.int .i64) a1.qt,mpE (AV.int .i64) (AV.int .i64) a1.qA])::(36,I6 x1)::(37,I6 (k3:Int))::t);refine WO.ck 3 (F:=107) (l:=[.agg [l44 none a1.f_h,l3 none a1.qm,mpE (AV.int .i64) (AV.int .i64) a1.qt,mpE (AV.int .i64) (AV.int .i64) a1.qA],I6 x1,I6 (k3:Int)]) (C:=[]) (r:=.bool w25) (Qi a1 x1 (k3:Int) w25 hw25) (e1:=z24 ((38,.bool w25)::y10))<|WO.bh 1 (fun b=>z24 ((38,.bool b)::(39,.bool b)::y10)) w25 h (fun h=>?_) (fun h=>?_)
    ·obtain⟨w26,hw26,h⟩:=qh h;let z25:=fun t=>z24 ((38,.bool true)::(39,.bool true)::(40,.agg [l44 none a1.f_h,l3 none a1.qm,mpE (AV.int .i64) (AV.int .i64) a1.qt,mpE (AV.int .i64) (AV.int .i64) a1.qA])::(41,I6 x2)::(42,I6 (k3:Int))::t);refine WO.ck 3 (F:=106) (l:=[.agg [l44 none a1.f_h,l3 none a1.qm,mpE (AV.int .i64) (AV.int .i64) a1.qt,mpE (AV.int .i64) (AV.int .i64) a1.qA],I6 x2,I6 (k3:Int)]) (C:=[]) (r:=.bool w26) (jP a1 x2 (k3:Int) w26 hw26) (e1:=z25 ((43,.bool w26)::y10))<|WO.bh 2 (fun b=>z25 ((43,.bool b)::(44,.bool b)::(45,.bool b)::y10)) w26 h (fun h=>?_) (fun h=>?_)
     ·obtain⟨hc27,h⟩:=qw h;let z26:=fun t=>z25 ((43,.bool true)::(44,.bool true)::(45,.bool true)::(46,.ptr (mpE (AV.int .i64) (AV.int .i64) a1.qA))::(47,mpE (AV.int .i64) (AV.int .i64) a1.qA)::(48,I6 x2)::(49,I6 (mget keq1 0 x2 a1.qA))::t);refine WO.pk 3 ((alookup Try.prog 85 [] (mpE (AV.int .i64) (AV.int .i64) a1.qA) (I6 x2)).map AV.strip) (congrArg (A1 AV.strip) (jD (F:=(AV.int .i64)) (G:=(AV.int .i64)) (eq:=keq1) (l:=a1.qA) (k:=x2) (z:=0) (kt:=3) (e:=3) (Jy hc27) (by kernel_rfl) (fun x=>by kernel_rfl) (fun x y=>by kernel_rfl) (by kernel_rfl))) (e1:=z26 y10) ?_;obtain⟨hc28,h⟩:=qw h;refine WO.pk 3 ((alookup Try.prog 85 [] (mpE (AV.int .i64) (AV.int .i64) a1.qt) (I6 x1)).map AV.strip) (congrArg (A1 AV.strip) (jD (F:=(AV.int .i64)) (G:=(AV.int .i64)) (eq:=keq1) (l:=a1.qt) (k:=x1) (z:=0) (kt:=3) (e:=3) (Jy hc28) (by kernel_rfl) (fun x=>by kernel_rfl) (fun x y=>by kernel_rfl) (by kernel_rfl))) (e1:=z26 ((50,.ptr (mpE (AV.int .i64) (AV.int .i64) a1.qt))::(51,mpE (AV.int .i64) (AV.int .i64) a1.qt)::(52,I6 x1)::(53,I6 (mget keq1 0 x1 a1.qt))::y10)) ?_;refine WO.fn (e2:=z15 ((55,.bool (decide ((mget keq1 0 x2 a1.qA) > (mget keq1 0 x1 a1.qt))))::y10)) ?_;exact hK24 (decide ((mget keq1 0 x2 a1.qA) > (mget keq1 0 x1 a1.qt))) h
     refine WO.fn (e2:=z15 ((55,.bool false)::y10)) ?_;exact hK24 false h
    refine WO.fn (e2:=z15 ((55,.bool false)::y10)) ?_;exact hK24 false h
end Go.AM
