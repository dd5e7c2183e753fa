import Derived.Test.YtoiejpkfpjingaaKAT
import Derived.Test.YtoiejpkfpjingaaASimJ
import Derived.Test.YtoiejpkfpjingaaChecked
set_option linter.all false
set_option maxRecDepth 100000
open List renaming map→A0, length_map→A1, getD_eq_getElem?_getD→A2, getElem?_eq_getElem→A3, take_of_length_le→A4
namespace Go.AM
open Go.Proofs
def Jw:Option Int :=
 (some (-1))
def jj (a2:hsOp) (K4:(Option Int)):List hsOp→Nat→Option Int
 | [],k1=>K4
 | x1::r1,k1=>(bif ((a2.qa == x1.qa) && ((a2.qb == x1.qb) && ((a2.qc == x1.qc) && true))) then (some (k1:Int)) else (jj a2 K4 r1 (k1+1)))
def Qd (a1:(List hsOp)) (a2:hsOp):Option Int :=
 (chk (lenOk a1) (jj a2 (Jw) a1 0))
theorem ZY (a1:(List hsOp)) (a2:hsOp) (r:Int) (h:Qd a1 a2=some r):Run Try.prog (.call 74 [l44 none a1,.agg [I6 a2.qa,I6 a2.qb,I6 a2.qc]] (I6 r)):=by
 refine cW Try.func74 rfl (env0:=[(0,l44 none a1),(1,.agg [I6 a2.qa,I6 a2.qb,I6 a2.qc])]) ?_;unfold Qd at h;refine W.seq ?_;let z0:=fun t=>EN ((0,l44 none a1)::(3,.ptr (.agg [I6 a2.qa,I6 a2.qb,I6 a2.qc]))::t);refine W.rT [0,3] [3] (e2:=z0 []) ?_;refine W.seq<|W.join (σ:=Unit) (fun s=>[]) (fun s=>(Jw)=some r) (fun s h=>?_) (fun hK4=>?_)
 ·unfold Jw at h;refine W.seq<|W.rt (e2:=[(4,I6 (-1))]) ?_;refine W.wk (e:=[(4,I6 (-1))]) ?_;cases h;exact W.rr
 refine W.sr<|WO.pq 1 (jM je a1) (e1:=z0 [(6,l44 none a1),(7,I6 (a1.length:Int))]) ?_;let z1:=fun t=>z0 ((7,I6 (a1.length:Int))::t);refine WO.fn (e2:=z1 [(8,.int .i64 0)]) ?_;refine W.block ?_;obtain⟨hl1,h⟩:=qh h;refine W.wk (e:=z1 [(8,I6 ((0:Nat):Int))])<|W.range (σ:=Unit) a1 (fun k1 s=>z1 [(8,I6 (k1:Int))]) (fun r0 k0 s=>jj a2 (Jw) r0 k0=some r) (fun s h=>?_) (fun x1 r1 k1 s hx1 hk1 h hN1=>?_) () h
 ·rw[jj.eq_1]at h;refine W.sr ?_;let y0:Env:=[(3,.ptr (.agg [I6 a2.qa,I6 a2.qb,I6 a2.qc])),(7,I6 (a1.length:Int)),(8,I6 ((a1).length:Int)),(9,.bool false)];refine WO.pq 0 (jB (qS (l:=a1))) (e1:=((0,l44 none a1)::y0))<|WO.fn (e2:=((0,l44 none a1)::y0)) ?_;refine W.seq<|W.cF<|W.exit<|W.wk (e:=[]) ?_;exact hK4 () h
 ·rw[jj.eq_2]at h;refine W.sr ?_;let y1:Env:=[(3,.ptr (.agg [I6 a2.qa,I6 a2.qb,I6 a2.qc])),(7,I6 (a1.length:Int)),(8,I6 (k1:Int)),(9,.bool true)];let z2:=fun t=>EN ((0,l44 none a1)::t);refine WO.pq 0 (jB (jp hk1)) (e1:=z2 y1)<|WO.fn (e2:=z2 y1) ?_;refine W.seq<|W.cT<|W.skip ?_;let y2:Env:=[(3,.ptr (.agg [I6 a2.qa,I6 a2.qb,I6 a2.qc])),(7,I6 (a1.length:Int)),(8,I6 (k1:Int))];refine W.wk (e:=z2 y2)<|W.seq<|W.block<|W.seq ?_;let z3:=fun t=>z0 ((5,I6 (k1:Int))::(7,I6 (a1.length:Int))::(8,I6 (k1:Int))::t);refine W.rt (e2:=z3 []) ?_;refine W.sr<|WO.pq 3 (jq (f:=je) hx1) (e1:=z3 [(11,.agg [I6 a2.qa,I6 a2.qb,I6 a2.qc]),(12,l44 none a1),(13,I6 (k1:Int)),(14,.ptr (.agg [I6 x1.qa,I6 x1.qb,I6 x1.qc]))])<|WO.fn (e2:=z3 [(16,.bool ((a2.qa == x1.qa) && ((a2.qb == x1.qb) && ((a2.qc == x1.qc) && true))))]) ?_;refine W.ch ((a2.qa == x1.qa) && ((a2.qb == x1.qb) && ((a2.qc == x1.qc) && true))) h (fun h=>?_) (fun h=>?_)
  ·refine W.seq<|W.rt (e2:=[(4,I6 (k1:Int))]) ?_;refine W.wk (e:=[(4,I6 (k1:Int))]) ?_;cases h;exact W.rr
  refine W.sw (e:=z2 y2) ?_;refine W.rg<|WO.pq 0 (jI (qE hl1 hk1)) (e1:=z1 [(8,I6 (k1:Int)),(18,I6 ((k1+1:Nat):Int))])<|WO.fn (e2:=z1 [(8,I6 ((k1+1:Nat):Int))]) ?_;exact hN1 () h
def jo (v15:(List (Int×Int))):Option (List (Int×Int)) :=
 (some v15)
def qy (a1:(List hsOp)) (a2:Int) (K5:((List (Int×Int))→Option (List (Int×Int)))):Nat→(List (Int×Int))→Int→Option (List (Int×Int))
 | 0,_,_=>none
 | m1+1,v7,v8=>(bif (decide (v8≤6)) then ((Qd a1 (hsOp.mk v8 a2 0)).bind fun w12=>(chk (wfI .i64 v8) (chk (Nat.blt v7.length 1000000000) ((qy a1 a2 K5 m1) (mset keq1 v8 w12 v7) (IntKind.wrap .i64 (v8+1)))))) else (K5 v7))
def jz (fuel:Nat) (a1:(List hsOp)) (a2:Int):Option (List (Int×Int)) :=
 (qy a1 a2 (jo) fuel ([]:(List (Int×Int))) 1)
theorem QC (fuel:Nat) (a1:(List hsOp)) (a2:Int) (r:(List (Int×Int))) (h:jz fuel a1 a2=some r):Run Try.prog (.call 62 [l44 none a1,I6 a2] (mpE (AV.int .i64) (AV.int .i64) r)):=by
 refine cW Try.func62 rfl (env0:=[(0,l44 none a1),(1,I6 a2)]) ?_;unfold jz at h;refine W.seq ?_;let z0:=fun t=>EN ((0,l44 none a1)::(1,I6 a2)::t);refine W.rt (e2:=z0 []) ?_;refine W.seq ?_;let y0:Env:=[(1000007,hobE (AV.int .i64) (AV.int .i64) ([]:(List (Int×Int))))];let z1:=fun t=>z0 ((5,.mb 0 1000007)::t);refine W.rt (e2:=z1 y0) ?_;refine W.seq<|W.join (σ:=((List (Int×Int)))) (fun s=>[(5,.mb 0 1000007),(1000007,hobE (AV.int .i64) (AV.int .i64) s)]) (fun s=>(jo) s=some r) (fun v15 h=>?_) (fun hK5=>?_)
 ·unfold jo at h;refine W.seq<|W.rt (e2:=[(4,.mb 0 1000007),(1000007,hobE (AV.int .i64) (AV.int .i64) v15)]) ?_;refine W.mv [.frz 1000007] (env':=[(4,mpE (AV.int .i64) (AV.int .i64) v15)]) (by kernel_rfl)<|W.wk (e:=[(4,mpE (AV.int .i64) (AV.int .i64) v15)]) ?_;cases h;exact W.rr
 refine W.seq<|W.rt (e2:=z1 ((6,.int .i64 1)::y0)) ?_;refine W.block<|W.wk (e:=z1 ((6,.int .i64 1)::y0))<|W.fuel (σ:=((List (Int×Int))×Int)) (fun s=>z1 [(6,I6 s.2),(1000007,hobE (AV.int .i64) (AV.int .i64) s.1)]) (fun m0 s=>qy a1 a2 (jo) m0 s.1 s.2=some r) (fun s h=>?_) (fun m1 s h hN1=>?_) fuel (([]:(List (Int×Int))),1) h
 ·obtain⟨v7,v8⟩:=s;have h:qy a1 a2 (jo) 0 v7 v8=some r:=h;rw[qy.eq_1]at h;cases h
 ·obtain⟨v7,v8⟩:=s;have h:qy a1 a2 (jo) (m1+1) v7 v8=some r:=h;rw[qy.eq_2]at h;refine W.seq<|W.seq ?_;let y1:Env:=[(1000007,hobE (AV.int .i64) (AV.int .i64) v7)];let z2:=fun t=>z1 ((6,I6 v8)::t);refine W.rt (e2:=z2 ((9,.bool (decide (v8≤6)))::y1)) ?_;refine W.ch (decide (v8≤6)) h (fun h=>?_) (fun h=>?_)
  ·refine W.sw (e:=z2 y1) ?_;refine W.seq<|W.block<|W.rg ?_;obtain⟨w12,hw12,h⟩:=qd h;let z3:=fun t=>z2 ((12,.mb 0 1000007)::(13,I6 v8)::(14,l44 none a1)::(15,I6 v8)::(16,I6 a2)::(17,.agg [I6 v8,I6 a2,.int .i64 0])::(18,I6 w12)::t);refine WO.ck 6 (F:=74) (l:=[l44 none a1,.agg [I6 v8,I6 a2,.int .i64 0]]) (C:=[]) (r:=I6 w12) (ZY a1 (hsOp.mk v8 a2 0) w12 hw12) (e1:=z3 y1) ?_;obtain⟨hc13,h⟩:=qh h;obtain⟨hc14,h⟩:=qh h;let y2:Env:=[(1000007,hobE (AV.int .i64) (AV.int .i64) (mset keq1 v8 w12 v7))];refine WO.mapK (F:=(AV.int .i64)) (G:=(AV.int .i64)) (eq:=keq1) (l:=v7) (a:=v8) (b:=w12) (id:=1000007) (kt:=3) 0 (XY hc13) hc14 (e1:=z3 y2) ?_ (fun x=>by kernel_rfl) (fun x y=>by kernel_rfl);refine WO.fn (e2:=z2 y2) ?_;refine W.rt (e2:=z1 ((6,I6 (W6 (v8+1)))::y2)) ?_;exact hN1 ((mset keq1 v8 w12 v7),(W6 (v8+1))) h
  refine W.exit<|W.wk (e:=((5,.mb 0 1000007)::y1)) ?_;exact hK5 v7 h
def Xp (v12:(List hsOp)):Option (List hsOp) :=
 (some v12)
def JQ (K4:((List hsOp)→Option (List hsOp))):List rf5Op→Nat→(List hsOp)→Option (List hsOp)
 | [],k1,v6=>(K4 v6)
 | x1::r1,k1,v6=>(bif (decide ((k1:Int) > 42)) then (K4 v6) else (chk (capOk 24 ((v6++[(hsOp.mk x1.qa x1.qb x1.qc)])).length) ((JQ K4 r1 (k1+1)) (v6++[(hsOp.mk x1.qa x1.qb x1.qc)]))))
def UY (a1:(List rf5Op)):Option (List hsOp) :=
 (chk (lenOk a1) (JQ (Xp) a1 0 ([]:(List hsOp))))
theorem qbb (a1:(List rf5Op)) (r:(List hsOp)) (h:UY a1=some r):Run Try.prog (.call 18 [l43 none a1] (l44 (some 1) r)):=by
 refine cW Try.func18 rfl (env0:=[(0,l43 none a1)]) ?_;unfold UY at h;refine W.seq<|W.rt (e2:=[(0,l43 none a1)]) ?_;refine W.seq<|W.rt (e2:=[(0,l43 none a1),(3,.nils)]) ?_;refine W.seq<|W.join (σ:=((List hsOp))) (fun s=>[(3,l44 (some 10300) s)]) (fun s=>(Xp) s=some r) (fun v12 h=>?_) (fun hK4=>?_)
 ·unfold Xp at h;refine W.seq<|W.rt (e2:=[(2,l44 (some 10300) v12)]) ?_;refine W.weak [2] [] [] [(10300,some 1)] (env':=[(2,l44 (some 1) v12)]) (by kernel_rfl) ?_;cases h;exact W.rr
 refine W.sr<|WO.pq 1 (jM qM a1) (e1:=[(0,l43 none a1),(3,.nils),(6,l43 none a1),(7,I6 (a1.length:Int))])<|WO.fn (e2:=[(3,.nils),(6,l43 none a1),(7,I6 (a1.length:Int)),(8,.int .i64 0)]) ?_;refine W.block ?_;obtain⟨hl1,h⟩:=qh h;refine W.weak [3,6,7,8] [] [(3,0,44,3,10300)] [] (env':=[(3,l44 (some 10300) ([]:(List hsOp))),(6,l43 none a1),(7,I6 (a1.length:Int)),(8,I6 ((0:Nat):Int))]) (by kernel_rfl)<|W.range (σ:=((List hsOp))) a1 (fun k1 s=>[(3,l44 (some 10300) s),(6,l43 none a1),(7,I6 (a1.length:Int)),(8,I6 (k1:Int))]) (fun r0 k0 s=>JQ (Xp) r0 k0 s=some r) (fun v6 h=>?_) (fun x1 r1 k1 s hx1 hk1 h hN1=>?_) ([]:(List hsOp)) h
 ·have h:JQ (Xp) [] (a1).length v6=some r:=h;rw[JQ.eq_1]at h;refine W.sr ?_;let y0:Env:=[(6,l43 none a1),(7,I6 (a1.length:Int)),(8,I6 ((a1).length:Int)),(9,.bool false)];let z0:=fun t=>EN ((3,l44 (some 10300) v6)::t);refine WO.pq 0 (jB (qS (l:=a1))) (e1:=z0 y0)<|WO.fn (e2:=z0 y0) ?_;refine W.seq<|W.cF<|W.exit<|W.wk (e:=z0 []) ?_;exact hK4 v6 h
 ·obtain⟨v6,rfl⟩:∃ x,x=s:=⟨s,rfl⟩;have h:JQ (Xp) (x1::r1) k1 v6=some r:=h;rw[JQ.eq_2]at h;refine W.sr ?_;let y1:Env:=[(6,l43 none a1),(7,I6 (a1.length:Int)),(8,I6 (k1:Int)),(9,.bool true)];let z1:=fun t=>EN ((3,l44 (some 10300) v6)::t);refine WO.pq 0 (jB (jp hk1)) (e1:=z1 y1)<|WO.fn (e2:=z1 y1) ?_;refine W.seq<|W.cT<|W.skip ?_;let y2:Env:=[(6,l43 none a1),(7,I6 (a1.length:Int)),(8,I6 (k1:Int))];refine W.wk (e:=z1 y2)<|W.seq<|W.block<|W.sr<|WO.pq 1 (jq (f:=qM) hx1) (e1:=z1 [(6,l43 none a1),(7,I6 (a1.length:Int)),(8,I6 (k1:Int)),(10,I6 (k1:Int)),(11,.ptr (.agg [I6 x1.qa,I6 x1.qb,I6 x1.qc]))]) ?_;let y3:Env:=(5,.ptr (.agg [I6 x1.qa,I6 x1.qb,I6 x1.qc]))::y2;refine WO.fi [3,4,5,6,7,8] [5] (e2:=z1 ((4,I6 (k1:Int))::y3)) ?_;refine W.seq<|W.seq<|W.rt (e2:=z1 [(5,.ptr (.agg [I6 x1.qa,I6 x1.qb,I6 x1.qc])),(6,l43 none a1),(7,I6 (a1.length:Int)),(8,I6 (k1:Int)),(14,.bool (decide ((k1:Int) > 42)))]) ?_;refine W.ch (decide ((k1:Int) > 42)) h (fun h=>?_) (fun h=>?_)
  ·refine W.exit<|W.wk (e:=z1 []) ?_;exact hK4 v6 h
  refine W.sw (e:=z1 y3) ?_;refine W.rg ?_;obtain⟨hc11,h⟩:=qh h;refine WO.appendK 9 (d:=24) (e:=44) (s:=3) (bytes:=24) (xs:=(A0 je v6)) (ys:=(A0 je [(hsOp.mk x1.qa x1.qb x1.qc)])) (zs:=(A0 je (v6++[(hsOp.mk x1.qa x1.qb x1.qc)]))) (env1:=[(3,l44 none v6),(5,.ptr (.agg [I6 x1.qa,I6 x1.qb,I6 x1.qc])),(6,l43 none a1),(7,I6 (a1.length:Int)),(8,I6 (k1:Int)),(15,l44 none v6),(16,.ptr (I6 x1.qa)),(17,I6 x1.qa),(18,.ptr (I6 x1.qb)),(19,I6 x1.qb),(20,.ptr (I6 x1.qc)),(21,I6 x1.qc),(22,.agg [I6 x1.qa,I6 x1.qb,I6 x1.qc]),(23,l44 (some 23) [(hsOp.mk x1.qa x1.qb x1.qc)])]) (by kernel_rfl) (List.map_append.symm) (by rw[A1];exact hc11) (e1:=[(3,l44 none v6),(5,.ptr (.agg [I6 x1.qa,I6 x1.qb,I6 x1.qc])),(6,l43 none a1),(7,I6 (a1.length:Int)),(8,I6 (k1:Int)),(15,l44 none v6),(16,.ptr (I6 x1.qa)),(17,I6 x1.qa),(18,.ptr (I6 x1.qb)),(19,I6 x1.qb),(20,.ptr (I6 x1.qc)),(21,I6 x1.qc),(22,.agg [I6 x1.qa,I6 x1.qb,I6 x1.qc]),(23,l44 (some 23) [(hsOp.mk x1.qa x1.qb x1.qc)]),(24,l44 (some 24) (v6++[(hsOp.mk x1.qa x1.qb x1.qc)]))]) (by kernel_rfl) ?_;let z2:=fun t=>EN ((3,l44 (some 24) (v6++[(hsOp.mk x1.qa x1.qb x1.qc)]))::t);refine WO.fn (e2:=z2 y2) ?_;refine W.rg<|WO.pq 0 (jI (qE hl1 hk1)) (e1:=z2 [(6,l43 none a1),(7,I6 (a1.length:Int)),(8,I6 (k1:Int)),(25,I6 ((k1+1:Nat):Int))])<|WO.fin [3,6,7,8] [] [] [(24,some 10300)] (e2:=[(3,l44 (some 10300) (v6++[(hsOp.mk x1.qa x1.qb x1.qc)])),(6,l43 none a1),(7,I6 (a1.length:Int)),(8,I6 ((k1+1:Nat):Int))]) (by kernel_rfl) (fun _ h=>h) ?_;exact hN1 (v6++[(hsOp.mk x1.qa x1.qb x1.qc)]) h
def Jc:Option Bool :=
 (some true)
def ja (x1:hsOp) (v9:(List (Int×Bool))) (N1:((List (Int×Bool))→Option Bool)) (v18:Bool) (v19:Bool):Option Bool :=
 (bif v19 then (some false) else (chk (wfI .i64 x1.qa) (chk (Nat.blt v9.length 1000000000) (N1 (mset keq1 x1.qa v18 v9)))))
def Qy (x1:hsOp) (v9:(List (Int×Bool))) (N1:((List (Int×Bool))→Option Bool)) (v13:Bool):Option Bool :=
 (bif (decide (x1.qa<1)) then ((ja x1 v9 N1) v13 true) else (bif (decide (x1.qa > 6)) then ((ja x1 v9 N1) v13 true) else (bif (decide (x1.qb<0)) then ((ja x1 v9 N1) v13 true) else (bif (decide (x1.qb > 3)) then ((ja x1 v9 N1) v13 true) else (bif (decide (x1.qc<0)) then ((ja x1 v9 N1) v13 true) else (bif (decide (x1.qc ≥ 6)) then ((ja x1 v9 N1) v13 true) else (bif v13 then (bif (x1.qc != 0) then ((ja x1 v9 N1) true true) else (chk (wfI .i64 x1.qa) ((ja x1 v9 N1) true (mget keq1 false x1.qa v9)))) else (chk (wfI .i64 x1.qa) ((ja x1 v9 N1) false (mget keq1 false x1.qa v9))))))))))
def qV (K7:(Option Bool)):List hsOp→Nat→(List (Int×Bool))→Option Bool
 | [],k1,v9=>K7
 | x1::r1,k1,v9=>(bif (x1.qb == 2) then ((Qy x1 v9 (qV K7 r1 (k1+1))) true) else ((Qy x1 v9 (qV K7 r1 (k1+1))) (x1.qb == 3)))
def XD (a1:(List hsOp)):Option Bool :=
 (bif (decide ((a1.length:Int) > 40)) then (some false) else (chk (lenOk a1) (qV (Jc) a1 0 ([]:(List (Int×Bool))))))
theorem Vc (a1:(List hsOp)) (r:Bool) (h:XD a1=some r):Run Try.prog (.call 26 [l44 none a1] (.bool r)):=by
 refine cW Try.func26 rfl (env0:=[(0,l44 none a1)]) ?_;unfold XD at h;refine W.seq ?_;let z0:=fun t=>EN ((0,l44 none a1)::t);refine W.rt (e2:=z0 []) ?_;refine W.seq ?_;let y0:Env:=[(1000007,hobE (AV.int .i64) AV.bool ([]:(List (Int×Bool))))];let z1:=fun t=>z0 ((3,.mb 0 1000007)::t);refine W.rt (e2:=z1 y0) ?_;refine W.seq<|W.sr<|WO.pq 1 (jM je a1) (e1:=z1 ((8,l44 none a1)::(9,I6 (a1.length:Int))::y0))<|WO.fn (e2:=z1 ((10,.bool (decide ((a1.length:Int) > 40)))::y0)) ?_;refine W.ch (decide ((a1.length:Int) > 40)) h (fun h=>?_) (fun h=>?_)
 ·refine W.seq<|W.rt (e2:=[(2,.bool false)]) ?_;refine W.wk (e:=[(2,.bool false)]) ?_;cases h;exact W.rr
 refine W.sw (e:=z1 y0) ?_;refine W.seq<|W.join (σ:=Unit) (fun s=>[]) (fun s=>(Jc)=some r) (fun s h=>?_) (fun hK7=>?_)
 ·unfold Jc at h;refine W.seq<|W.rt (e2:=[(2,.bool true)]) ?_;refine W.wk (e:=[(2,.bool true)]) ?_;cases h;exact W.rr
 refine W.sr<|WO.pq 1 (jM je a1) (e1:=z1 ((11,l44 none a1)::(12,I6 (a1.length:Int))::y0)) ?_;let z2:=fun t=>EN ((3,.mb 0 1000007)::t);let z3:=fun t=>z2 ((11,l44 none a1)::(12,I6 (a1.length:Int))::t);refine WO.fn (e2:=z3 ((13,.int .i64 0)::y0)) ?_;refine W.block ?_;obtain⟨hl1,h⟩:=qh h;refine W.wk (e:=z3 ((13,I6 ((0:Nat):Int))::y0))<|W.range (σ:=((List (Int×Bool)))) a1 (fun k1 s=>z3 [(13,I6 (k1:Int)),(1000007,hobE (AV.int .i64) AV.bool s)]) (fun r0 k0 s=>qV (Jc) r0 k0 s=some r) (fun v9 h=>?_) (fun x1 r1 k1 s hx1 hk1 h hN1=>?_) ([]:(List (Int×Bool))) h
 ·have h:qV (Jc) [] (a1).length v9=some r:=h;rw[qV.eq_1]at h;refine W.sr ?_;let y1:Env:=[(11,l44 none a1),(12,I6 (a1.length:Int)),(13,I6 ((a1).length:Int)),(14,.bool false),(1000007,hobE (AV.int .i64) AV.bool v9)];refine WO.pq 0 (jB (qS (l:=a1))) (e1:=z2 y1)<|WO.fn (e2:=z2 y1) ?_;refine W.seq<|W.cF<|W.exit<|W.wk (e:=[]) ?_;exact hK7 () h
 ·obtain⟨v9,rfl⟩:∃ x,x=s:=⟨s,rfl⟩;have h:qV (Jc) (x1::r1) k1 v9=some r:=h;rw[qV.eq_2]at h;refine W.sr ?_;let y2:Env:=[(1000007,hobE (AV.int .i64) AV.bool v9)];let z4:=fun t=>z3 ((13,I6 (k1:Int))::t);refine WO.pq 0 (jB (jp hk1)) (e1:=z4 ((14,.bool true)::y2))<|WO.fn (e2:=z4 ((14,.bool true)::y2)) ?_;refine W.seq<|W.cT<|W.skip ?_;let y3:Env:=(11,l44 none a1)::(12,I6 (a1.length:Int))::(13,I6 (k1:Int))::y2;refine W.wk (e:=z2 y3)<|W.seq<|W.block<|W.sr<|WO.pq 0 (jq (f:=je) hx1) (e1:=z4 ((15,.ptr (.agg [I6 x1.qa,I6 x1.qb,I6 x1.qc]))::y2)) ?_;let z5:=fun t=>z2 ((5,.ptr (.agg [I6 x1.qa,I6 x1.qb,I6 x1.qc]))::t);refine WO.fi [3,5,11,12,13,1000007] [5] (e2:=z5 y3) ?_;refine W.seq<|W.join (σ:=(Bool)) (fun s=>z5 ((6,.bool s)::y3)) (fun s=>(Qy x1 v9 (qV (Jc) r1 (k1+1))) s=some r) (fun v13 h=>?_) (fun hK12=>?_)
  ·unfold Qy at h;refine W.seq<|W.seq<|W.join (σ:=(Bool×Bool)) (fun s=>z5 ((6,.bool s.1)::(11,l44 none a1)::(12,I6 (a1.length:Int))::(13,I6 (k1:Int))::(66,.bool s.2)::y2)) (fun s=>(ja x1 v9 (qV (Jc) r1 (k1+1))) s.1 s.2=some r) (fun s h=>?_) (fun hK15=>?_)
   ·obtain⟨v18,v19⟩:=s;have h:(ja x1 v9 (qV (Jc) r1 (k1+1))) v18 v19=some r:=h;unfold ja at h;refine W.ch v19 h (fun h=>?_) (fun h=>?_)
    ·refine W.seq<|W.rt (e2:=[(2,.bool false)]) ?_;refine W.wk (e:=[(2,.bool false)]) ?_;cases h;exact W.rr
    refine W.sw (e:=z5 ((6,.bool v18)::y3)) ?_;refine W.rg ?_;obtain⟨hc21,h⟩:=qh h;obtain⟨hc22,h⟩:=qh h;let y4:Env:=[(1000007,hobE (AV.int .i64) AV.bool (mset keq1 x1.qa v18 v9))];refine WO.mapK (F:=(AV.int .i64)) (G:=AV.bool) (eq:=keq1) (l:=v9) (a:=x1.qa) (b:=v18) (id:=1000007) (kt:=3) 4 (XY hc21) hc22 (e1:=z5 ((6,.bool v18)::(11,l44 none a1)::(12,I6 (a1.length:Int))::(13,I6 (k1:Int))::(67,.mb 0 1000007)::(68,.ptr (I6 x1.qa))::(69,I6 x1.qa)::(70,.bool v18)::y4)) ?_ (fun x=>by kernel_rfl) (fun x y=>by kernel_rfl);refine WO.fn (e2:=z4 y4) ?_;refine W.rg<|WO.pq 0 (jI (qE hl1 hk1)) (e1:=z4 ((71,I6 ((k1+1:Nat):Int))::y4))<|WO.fn (e2:=z3 ((13,I6 ((k1+1:Nat):Int))::y4)) ?_;exact hN1 (mset keq1 x1.qa v18 v9) h
   refine W.rg ?_;let z6:=fun t=>z5 ((6,.bool v13)::(11,l44 none a1)::(12,I6 (a1.length:Int))::(13,I6 (k1:Int))::t);let z7:=fun t=>z6 ((25,.ptr (I6 x1.qa))::(26,I6 x1.qa)::t);refine WO.bh 4 (fun b=>z7 ((27,.bool b)::(28,.bool b)::y2)) (decide (x1.qa<1)) h (fun h=>?_) (fun h=>?_)
   ·refine WO.fn (e2:=z6 ((66,.bool true)::y2)) ?_;exact hK15 (v13,true) h
   let z8:=fun t=>z7 ((27,.bool false)::(28,.bool false)::(29,.ptr (I6 x1.qa))::(30,I6 x1.qa)::t);refine WO.bh 5 (fun b=>z8 ((31,.bool b)::(32,.bool b)::(33,.bool b)::y2)) (decide (x1.qa > 6)) h (fun h=>?_) (fun h=>?_)
   ·refine WO.fn (e2:=z6 ((66,.bool true)::y2)) ?_;exact hK15 (v13,true) h
   let z9:=fun t=>z8 ((31,.bool false)::(32,.bool false)::(33,.bool false)::(34,.ptr (I6 x1.qb))::(35,I6 x1.qb)::t);refine WO.bh 5 (fun b=>z9 ((36,.bool b)::(37,.bool b)::(38,.bool b)::y2)) (decide (x1.qb<0)) h (fun h=>?_) (fun h=>?_)
   ·refine WO.fn (e2:=z6 ((66,.bool true)::y2)) ?_;exact hK15 (v13,true) h
   let z10:=fun t=>z9 ((36,.bool false)::(37,.bool false)::(38,.bool false)::(39,.ptr (I6 x1.qb))::(40,I6 x1.qb)::t);refine WO.bh 5 (fun b=>z10 ((41,.bool b)::(42,.bool b)::(43,.bool b)::y2)) (decide (x1.qb > 3)) h (fun h=>?_) (fun h=>?_)
   ·refine WO.fn (e2:=z6 ((66,.bool true)::y2)) ?_;exact hK15 (v13,true) h
   let z11:=fun t=>z10 ((41,.bool false)::(42,.bool false)::(43,.bool false)::(44,.ptr (I6 x1.qc))::(45,I6 x1.qc)::t);refine WO.bh 5 (fun b=>z11 ((46,.bool b)::(47,.bool b)::(48,.bool b)::y2)) (decide (x1.qc<0)) h (fun h=>?_) (fun h=>?_)
   ·refine WO.fn (e2:=z6 ((66,.bool true)::y2)) ?_;exact hK15 (v13,true) h
   refine WO.bh 5 (fun b=>z11 ((46,.bool false)::(47,.bool false)::(48,.bool false)::(49,.ptr (I6 x1.qc))::(50,I6 x1.qc)::(51,.bool b)::(52,.bool b)::(53,.bool b)::y2)) (decide (x1.qc ≥ 6)) h (fun h=>?_) (fun h=>?_)
   ·refine WO.fn (e2:=z6 ((66,.bool true)::y2)) ?_;exact hK15 (v13,true) h
   refine WO.bh 2 (fun b=>z5 ((6,.bool b)::(11,l44 none a1)::(12,I6 (a1.length:Int))::(13,I6 (k1:Int))::(25,.ptr (I6 x1.qa))::(26,I6 x1.qa)::(27,.bool false)::(28,.bool false)::(29,.ptr (I6 x1.qa))::(30,I6 x1.qa)::(31,.bool false)::(32,.bool false)::(33,.bool false)::(34,.ptr (I6 x1.qb))::(35,I6 x1.qb)::(36,.bool false)::(37,.bool false)::(38,.bool false)::(39,.ptr (I6 x1.qb))::(40,I6 x1.qb)::(41,.bool false)::(42,.bool false)::(43,.bool false)::(44,.ptr (I6 x1.qc))::(45,I6 x1.qc)::(46,.bool false)::(47,.bool false)::(48,.bool false)::(49,.ptr (I6 x1.qc))::(50,I6 x1.qc)::(51,.bool false)::(52,.bool false)::(53,.bool false)::(54,.bool b)::(55,.bool b)::y2)) v13 h (fun h=>?_) (fun h=>?_)
   ·let z12:=fun t=>z5 ((6,.bool true)::(11,l44 none a1)::(12,I6 (a1.length:Int))::(13,I6 (k1:Int))::(25,.ptr (I6 x1.qa))::(26,I6 x1.qa)::(27,.bool false)::(28,.bool false)::(29,.ptr (I6 x1.qa))::(30,I6 x1.qa)::(31,.bool false)::(32,.bool false)::(33,.bool false)::(34,.ptr (I6 x1.qb))::(35,I6 x1.qb)::(36,.bool false)::(37,.bool false)::(38,.bool false)::(39,.ptr (I6 x1.qb))::(40,I6 x1.qb)::(41,.bool false)::(42,.bool false)::(43,.bool false)::(44,.ptr (I6 x1.qc))::(45,I6 x1.qc)::(46,.bool false)::(47,.bool false)::(48,.bool false)::(49,.ptr (I6 x1.qc))::(50,I6 x1.qc)::(51,.bool false)::(52,.bool false)::(53,.bool false)::(54,.bool true)::(55,.bool true)::(56,.ptr (I6 x1.qc))::(57,I6 x1.qc)::t);refine WO.bh 6 (fun b=>z12 ((58,.bool b)::(59,.bool b)::(60,.bool b)::(61,.bool b)::y2)) (x1.qc != 0) h (fun h=>?_) (fun h=>?_)
    ·refine WO.fn (e2:=z5 ((6,.bool true)::(11,l44 none a1)::(12,I6 (a1.length:Int))::(13,I6 (k1:Int))::(66,.bool true)::y2)) ?_;exact hK15 (true,true) h
    obtain⟨hc16,h⟩:=qh h;refine WO.pk 3 ((alookup Try.prog 83 [] (mpE (AV.int .i64) AV.bool v9) (I6 x1.qa)).map AV.strip) (congrArg (Option.map AV.strip) (QQ (F:=(AV.int .i64)) (G:=AV.bool) (eq:=keq1) (l:=v9) (k:=x1.qa) (z:=false) (kt:=3) (e:=4) (XY hc16) (by kernel_rfl) (fun x=>by kernel_rfl) (fun x y=>by kernel_rfl) (by kernel_rfl))) (e1:=z12 ((58,.bool false)::(59,.bool false)::(60,.bool false)::(61,.bool false)::(62,.mb 0 1000007)::(63,.ptr (I6 x1.qa))::(64,I6 x1.qa)::(65,.bool (mget keq1 false x1.qa v9))::y2)) ?_;refine WO.fn (e2:=z5 ((6,.bool true)::(11,l44 none a1)::(12,I6 (a1.length:Int))::(13,I6 (k1:Int))::(66,.bool (mget keq1 false x1.qa v9))::y2)) ?_;exact hK15 (true,(mget keq1 false x1.qa v9)) h
   obtain⟨hc17,h⟩:=qh h;let z13:=fun t=>z5 ((6,.bool false)::(11,l44 none a1)::(12,I6 (a1.length:Int))::(13,I6 (k1:Int))::t);refine WO.pk 9 ((alookup Try.prog 83 [] (mpE (AV.int .i64) AV.bool v9) (I6 x1.qa)).map AV.strip) (congrArg (Option.map AV.strip) (QQ (F:=(AV.int .i64)) (G:=AV.bool) (eq:=keq1) (l:=v9) (k:=x1.qa) (z:=false) (kt:=3) (e:=4) (XY hc17) (by kernel_rfl) (fun x=>by kernel_rfl) (fun x y=>by kernel_rfl) (by kernel_rfl))) (e1:=z13 ((25,.ptr (I6 x1.qa))::(26,I6 x1.qa)::(27,.bool false)::(28,.bool false)::(29,.ptr (I6 x1.qa))::(30,I6 x1.qa)::(31,.bool false)::(32,.bool false)::(33,.bool false)::(34,.ptr (I6 x1.qb))::(35,I6 x1.qb)::(36,.bool false)::(37,.bool false)::(38,.bool false)::(39,.ptr (I6 x1.qb))::(40,I6 x1.qb)::(41,.bool false)::(42,.bool false)::(43,.bool false)::(44,.ptr (I6 x1.qc))::(45,I6 x1.qc)::(46,.bool false)::(47,.bool false)::(48,.bool false)::(49,.ptr (I6 x1.qc))::(50,I6 x1.qc)::(51,.bool false)::(52,.bool false)::(53,.bool false)::(54,.bool false)::(55,.bool false)::(56,.und)::(57,.und)::(58,.und)::(59,.bool false)::(60,.bool false)::(61,.bool false)::(62,.mb 0 1000007)::(63,.ptr (I6 x1.qa))::(64,I6 x1.qa)::(65,.bool (mget keq1 false x1.qa v9))::y2)) ?_;refine WO.fn (e2:=z13 ((66,.bool (mget keq1 false x1.qa v9))::y2)) ?_;exact hK15 (false,(mget keq1 false x1.qa v9)) h
  refine W.rg<|WO.bh 4 (fun b=>z5 ((11,l44 none a1)::(12,I6 (a1.length:Int))::(13,I6 (k1:Int))::(17,.ptr (I6 x1.qb))::(18,I6 x1.qb)::(19,.bool b)::(20,.bool b)::y2)) (x1.qb == 2) h (fun h=>?_) (fun h=>?_)
  ·refine WO.fn (e2:=z5 ((6,.bool true)::y3)) ?_;exact hK12 true h
  refine WO.fn (e2:=z5 ((6,.bool (x1.qb == 3))::y3)) ?_;exact hK12 (x1.qb == 3) h
def Ja (a1:(List rf5Op)):Option Bool :=
 (some (decide ((a1.length:Int)≤40)))
def qR (N1:(Option Bool)):Option Bool :=
 N1
def Qf (N2:(Option Bool)) (v16:Bool):Option Bool :=
 (bif v16 then (some false) else N2)
def jP (x1:rf5Op) (K5:(Option Bool)):List rf5Op→Nat→Option Bool
 | [],k2=>K5
 | x2::r2,k2=>(bif (x2.qa == x1.qa) then ((Qf (jP x1 K5 r2 (k2+1))) (decide (x2.qb > 1))) else ((Qf (jP x1 K5 r2 (k2+1))) false))
def jv (a1:(List rf5Op)) (k1:Nat) (x1:rf5Op) (K5:(Option Bool)) (v9:Bool):Option Bool :=
 (bif v9 then (some false) else ((sub a1 0 (k1:Int)).bind fun e12=>(chk (lenOk e12) (jP x1 K5 e12 0))))
def qC (a1:(List rf5Op)) (K3:(Option Bool)):List rf5Op→Nat→Option Bool
 | [],k1=>K3
 | x1::r1,k1=>(bif (decide (x1.qa<1)) then ((jv a1 k1 x1 (qR (qC a1 K3 r1 (k1+1)))) true) else (bif (decide (x1.qa > 6)) then ((jv a1 k1 x1 (qR (qC a1 K3 r1 (k1+1)))) true) else (bif (decide (x1.qb<0)) then ((jv a1 k1 x1 (qR (qC a1 K3 r1 (k1+1)))) true) else (bif (decide (x1.qb > 3)) then ((jv a1 k1 x1 (qR (qC a1 K3 r1 (k1+1)))) true) else (bif (decide (x1.qc<0)) then ((jv a1 k1 x1 (qR (qC a1 K3 r1 (k1+1)))) true) else (bif (decide (x1.qc > 5)) then ((jv a1 k1 x1 (qR (qC a1 K3 r1 (k1+1)))) true) else (bif (decide (x1.qb > 1)) then ((jv a1 k1 x1 (qR (qC a1 K3 r1 (k1+1)))) (x1.qc != 0)) else ((jv a1 k1 x1 (qR (qC a1 K3 r1 (k1+1)))) false))))))))
def XW (a1:(List rf5Op)):Option Bool :=
 (chk (lenOk a1) (qC a1 (Ja a1) a1 0))
theorem ND (a1:(List rf5Op)) (r:Bool) (h:XW a1=some r):Run Try.prog (.call 20 [l43 none a1] (.bool r)):=by
 refine cW Try.func20 rfl (env0:=[(0,l43 none a1)]) ?_;unfold XW at h;refine W.seq ?_;let z0:=fun t=>EN ((0,l43 none a1)::t);refine W.rt (e2:=z0 []) ?_;refine W.seq<|W.join (σ:=Unit) (fun s=>z0 []) (fun s=>(Ja a1)=some r) (fun s h=>?_) (fun hK3=>?_)
 ·unfold Ja at h;refine W.sr<|WO.pq 1 (jM qM a1) (e1:=z0 [(72,l43 none a1),(73,I6 (a1.length:Int))]) ?_;let z1:=fun t=>EN ((2,.bool (decide ((a1.length:Int)≤40)))::t);refine WO.fn (e2:=z1 []) ?_;refine W.wk (e:=z1 []) ?_;cases h;exact W.rr
 refine W.sr ?_;let z2:=fun t=>z0 ((7,l43 none a1)::(8,I6 (a1.length:Int))::t);refine WO.pq 1 (jM qM a1) (e1:=z2 [])<|WO.fn (e2:=z2 [(9,.int .i64 0)]) ?_;refine W.block ?_;obtain⟨hl1,h⟩:=qh h;refine W.wk (e:=z2 [(9,I6 ((0:Nat):Int))])<|W.range (σ:=Unit) a1 (fun k1 s=>z2 [(9,I6 (k1:Int))]) (fun r0 k0 s=>qC a1 (Ja a1) r0 k0=some r) (fun s h=>?_) (fun x1 r1 k1 s hx1 hk1 h hN1=>?_) () h
 ·rw[qC.eq_1]at h;refine W.sr ?_;let y0:Env:=[(7,l43 none a1),(8,I6 (a1.length:Int)),(9,I6 ((a1).length:Int)),(10,.bool false)];refine WO.pq 0 (jB (qS (l:=a1))) (e1:=z0 y0)<|WO.fn (e2:=z0 y0) ?_;refine W.seq<|W.cF<|W.exit<|W.wk (e:=z0 []) ?_;exact hK3 () h
 ·rw[qC.eq_2]at h;refine W.sr ?_;let y1:Env:=[(7,l43 none a1),(8,I6 (a1.length:Int)),(9,I6 (k1:Int)),(10,.bool true)];refine WO.pq 0 (jB (jp hk1)) (e1:=z0 y1)<|WO.fn (e2:=z0 y1) ?_;refine W.seq<|W.cT<|W.skip ?_;let y2:Env:=[(7,l43 none a1),(8,I6 (a1.length:Int)),(9,I6 (k1:Int))];refine W.wk (e:=z0 y2)<|W.seq<|W.join (σ:=Unit) (fun s=>z0 y2) (fun s=>(qR (qC a1 (Ja a1) r1 (k1+1)))=some r) (fun s h=>?_) (fun hK5=>?_)
  ·unfold qR at h;refine W.rg<|WO.pq 0 (jI (qE hl1 hk1)) (e1:=z2 [(9,I6 (k1:Int)),(71,I6 ((k1+1:Nat):Int))])<|WO.fn (e2:=z2 [(9,I6 ((k1+1:Nat):Int))]) ?_;exact hN1 () h
  refine W.block<|W.sr<|WO.pq 1 (jq (f:=qM) hx1) (e1:=z2 [(9,I6 (k1:Int)),(11,I6 (k1:Int)),(12,.ptr (.agg [I6 x1.qa,I6 x1.qb,I6 x1.qc]))]) ?_;let y3:Env:=(3,I6 (k1:Int))::(4,.ptr (.agg [I6 x1.qa,I6 x1.qb,I6 x1.qc]))::y2;refine WO.fi [0,3,4,7,8,9] [4] (e2:=z0 y3) ?_;refine W.seq<|W.seq ?_;let z3:=fun t=>z0 ((3,I6 (k1:Int))::(4,.ptr (.agg [I6 x1.qa,I6 x1.qb,I6 x1.qc]))::(7,l43 none a1)::(8,I6 (a1.length:Int))::(9,I6 (k1:Int))::t);refine W.join (σ:=(Bool)) (fun s=>z3 [(51,.bool s)]) (fun s=>(jv a1 k1 x1 (qR (qC a1 (Ja a1) r1 (k1+1)))) s=some r) (fun v9 h=>?_) (fun hK8=>?_)
  ·unfold jv at h;refine W.ch v9 h (fun h=>?_) (fun h=>?_)
   ·refine W.seq<|W.rt (e2:=[(2,.bool false)]) ?_;refine W.wk (e:=[(2,.bool false)]) ?_;cases h;exact W.rr
   refine W.sw (e:=z0 y3) ?_;refine W.sr ?_;obtain⟨e12,he12,h⟩:=qd h;let z4:=fun t=>z3 ((52,l43 none a1)::(53,I6 (k1:Int))::(54,l43 none e12)::t);refine WO.pk 2 (if (0:Int)≤0∧0≤(k1:Int)∧(k1:Int)≤((A0 qM a1).length:Int) then some (.lst 43 3 none (((A0 qM a1).take (Int.toNat (k1:Int))).drop (Int.toNat 0))) else none) (HO he12) (e1:=z4 [])<|WO.pq 0 (jM qM e12) (e1:=z4 [(55,I6 (e12.length:Int))]) ?_;let z5:=fun t=>z0 ((4,.ptr (.agg [I6 x1.qa,I6 x1.qb,I6 x1.qc]))::(7,l43 none a1)::(8,I6 (a1.length:Int))::(9,I6 (k1:Int))::(54,l43 none e12)::(55,I6 (e12.length:Int))::t);refine WO.fn (e2:=z5 [(56,.int .i64 0)]) ?_;refine W.block ?_;obtain⟨hl2,h⟩:=qh h;refine W.wk (e:=z5 [(56,I6 ((0:Nat):Int))])<|W.range (σ:=Unit) e12 (fun k2 s=>z5 [(56,I6 (k2:Int))]) (fun r0 k0 s=>jP x1 (qR (qC a1 (Ja a1) r1 (k1+1))) r0 k0=some r) (fun s h=>?_) (fun x2 r2 k2 s hx2 hk2 h hN2=>?_) () h
   ·rw[jP.eq_1]at h;refine W.sr ?_;let y4:Env:=[(4,.ptr (.agg [I6 x1.qa,I6 x1.qb,I6 x1.qc])),(7,l43 none a1),(8,I6 (a1.length:Int)),(9,I6 (k1:Int)),(54,l43 none e12),(55,I6 (e12.length:Int)),(56,I6 ((e12).length:Int)),(57,.bool false)];refine WO.pq 0 (jB (qS (l:=e12))) (e1:=z0 y4)<|WO.fn (e2:=z0 y4) ?_;refine W.seq<|W.cF<|W.exit<|W.wk (e:=z0 y2) ?_;exact hK5 () h
   ·rw[jP.eq_2]at h;refine W.sr ?_;let y5:Env:=[(4,.ptr (.agg [I6 x1.qa,I6 x1.qb,I6 x1.qc])),(7,l43 none a1),(8,I6 (a1.length:Int)),(9,I6 (k1:Int)),(54,l43 none e12),(55,I6 (e12.length:Int)),(56,I6 (k2:Int)),(57,.bool true)];refine WO.pq 0 (jB (jp hk2)) (e1:=z0 y5)<|WO.fn (e2:=z0 y5) ?_;refine W.seq<|W.cT<|W.skip ?_;let y6:Env:=[(7,l43 none a1),(8,I6 (a1.length:Int)),(9,I6 (k1:Int)),(54,l43 none e12),(55,I6 (e12.length:Int)),(56,I6 (k2:Int))];let z6:=fun t=>z0 ((4,.ptr (.agg [I6 x1.qa,I6 x1.qb,I6 x1.qc]))::t);refine W.wk (e:=z6 y6)<|W.seq<|W.block<|W.sr ?_;let z7:=fun t=>z5 ((56,I6 (k2:Int))::t);refine WO.pq 0 (jq (f:=qM) hx2) (e1:=z7 [(58,.ptr (.agg [I6 x2.qa,I6 x2.qb,I6 x2.qc]))]) ?_;let z8:=fun t=>z6 ((6,.ptr (.agg [I6 x2.qa,I6 x2.qb,I6 x2.qc]))::t);refine WO.fi [0,4,6,7,8,9,54,55,56] [6] (e2:=z8 y6) ?_;refine W.seq<|W.join (σ:=(Bool)) (fun s=>z7 [(69,.bool s)]) (fun s=>(Qf (jP x1 (qR (qC a1 (Ja a1) r1 (k1+1))) r2 (k2+1))) s=some r) (fun v16 h=>?_) (fun hK15=>?_)
    ·unfold Qf at h;refine W.ch v16 h (fun h=>?_) (fun h=>?_)
     ·refine W.seq<|W.rt (e2:=[(2,.bool false)]) ?_;refine W.wk (e:=[(2,.bool false)]) ?_;cases h;exact W.rr
     refine W.sw (e:=z6 y6) ?_;refine W.rg<|WO.pq 0 (jI (qE hl2 hk2)) (e1:=z7 [(70,I6 ((k2+1:Nat):Int))])<|WO.fn (e2:=z5 [(56,I6 ((k2+1:Nat):Int))]) ?_;exact hN2 () h
    refine W.rg<|WO.bh 6 (fun b=>z8 [(7,l43 none a1),(8,I6 (a1.length:Int)),(9,I6 (k1:Int)),(54,l43 none e12),(55,I6 (e12.length:Int)),(56,I6 (k2:Int)),(60,.ptr (I6 x2.qa)),(61,I6 x2.qa),(62,.ptr (I6 x1.qa)),(63,I6 x1.qa),(64,.bool b),(65,.bool b)]) (x2.qa == x1.qa) h (fun h=>?_) (fun h=>?_)
    ·refine WO.fn (e2:=z7 [(69,.bool (decide (x2.qb > 1)))]) ?_;exact hK15 (decide (x2.qb > 1)) h
    refine WO.fn (e2:=z7 [(69,.bool false)]) ?_;exact hK15 false h
  refine W.rg ?_;let z9:=fun t=>z3 ((14,.ptr (I6 x1.qa))::(15,I6 x1.qa)::t);refine WO.bh 4 (fun b=>z9 [(16,.bool b),(17,.bool b)]) (decide (x1.qa<1)) h (fun h=>?_) (fun h=>?_)
  ·refine WO.fn (e2:=z3 [(51,.bool true)]) ?_;exact hK8 true h
  let z10:=fun t=>z9 ((16,.bool false)::(17,.bool false)::(18,.ptr (I6 x1.qa))::(19,I6 x1.qa)::t);refine WO.bh 5 (fun b=>z10 [(20,.bool b),(21,.bool b),(22,.bool b)]) (decide (x1.qa > 6)) h (fun h=>?_) (fun h=>?_)
  ·refine WO.fn (e2:=z3 [(51,.bool true)]) ?_;exact hK8 true h
  let z11:=fun t=>z10 ((20,.bool false)::(21,.bool false)::(22,.bool false)::(23,.ptr (I6 x1.qb))::(24,I6 x1.qb)::t);refine WO.bh 5 (fun b=>z11 [(25,.bool b),(26,.bool b),(27,.bool b)]) (decide (x1.qb<0)) h (fun h=>?_) (fun h=>?_)
  ·refine WO.fn (e2:=z3 [(51,.bool true)]) ?_;exact hK8 true h
  let z12:=fun t=>z11 ((25,.bool false)::(26,.bool false)::(27,.bool false)::(28,.ptr (I6 x1.qb))::(29,I6 x1.qb)::t);refine WO.bh 5 (fun b=>z12 [(30,.bool b),(31,.bool b),(32,.bool b)]) (decide (x1.qb > 3)) h (fun h=>?_) (fun h=>?_)
  ·refine WO.fn (e2:=z3 [(51,.bool true)]) ?_;exact hK8 true h
  let z13:=fun t=>z12 ((30,.bool false)::(31,.bool false)::(32,.bool false)::(33,.ptr (I6 x1.qc))::(34,I6 x1.qc)::t);refine WO.bh 5 (fun b=>z13 [(35,.bool b),(36,.bool b),(37,.bool b)]) (decide (x1.qc<0)) h (fun h=>?_) (fun h=>?_)
  ·refine WO.fn (e2:=z3 [(51,.bool true)]) ?_;exact hK8 true h
  let z14:=fun t=>z13 ((35,.bool false)::(36,.bool false)::(37,.bool false)::(38,.ptr (I6 x1.qc))::(39,I6 x1.qc)::t);refine WO.bh 5 (fun b=>z14 [(40,.bool b),(41,.bool b),(42,.bool b)]) (decide (x1.qc > 5)) h (fun h=>?_) (fun h=>?_)
  ·refine WO.fn (e2:=z3 [(51,.bool true)]) ?_;exact hK8 true h
  refine WO.bh 4 (fun b=>z14 [(40,.bool false),(41,.bool false),(42,.bool false),(43,.ptr (I6 x1.qb)),(44,I6 x1.qb),(45,.bool b),(46,.bool b)]) (decide (x1.qb > 1)) h (fun h=>?_) (fun h=>?_)
  ·refine WO.fn (e2:=z3 [(51,.bool (x1.qc != 0))]) ?_;exact hK8 (x1.qc != 0) h
  refine WO.fn (e2:=z3 [(51,.bool false)]) ?_;exact hK8 false h
theorem mixedP:Try.prog.follows .mixedOrders=true:=by kernel_rfl
abbrev cI (x:Int):AV:=.int .i64 x
abbrev cK (l:List (Int×Int)):List AV:=l.map fun p=>AV.int .i64 p.1
abbrev cV (l:List (Int×Int)):List AV:=l.map fun p=>AV.int .i64 p.2
abbrev cL (l:List Int):List AV:=l.map (AV.int .i64)
def comm (l:List (Int×Int)):List Int:=(l.filter fun p=>decide (p.2 ≥ 0)).map Prod.fst
theorem qaS {l m:List Int} (h:l.Perm m):sortI l=sortI m:=by
 have h1:∀ l:List Int,(sortI l).Pairwise fun a b=>decide (a≤b)=true:=fun l=>List.pairwise_mergeSort (by intro a b c;simp;omega) (by intro a b;simp;omega) l
 refine List.Perm.eq_of_pairwise (le:=fun a b=>decide (a≤b)=true) (fun a b _ _ x y=>by simp at x y;omega) (h1 l) (h1 m) ?_;exact ((List.mergeSort_perm l _).trans h).trans (List.mergeSort_perm m _).symm
theorem VS {α β:Type} (f:α→β):∀ (l:List α) (j:Nat),(l.map f).eraseIdx j=(l.eraseIdx j).map f
 | [],j=>by simp
 | a::l,0=>by simp
 | a::l,j+1=>by simp[VS f l j]
theorem Nm {α:Type}:∀ (l:List α) (j:Nat) (h:j<l.length),l.Perm (l[j]::l.eraseIdx j)
 | [],j,h=>by simp at h
 | a::l,0,h=>by simp
 | a::l,j+1,h=>by
  have ih:=Nm l j (by simpa using h);simp only[List.getElem_cons_succ,List.eraseIdx_cons_succ];exact (ih.cons a).trans (List.Perm.swap _ _ _)
theorem qbm (rem:List (Int×Int)) {j:Nat} (h:j<rem.length):nextEnt (cK rem) (cV rem) j=.hob 2 (cI rem[j].1::cK (rem.eraseIdx j)) (cI rem[j].2::cV (rem.eraseIdx j)):=by
 unfold nextEnt cK cV;rw[VS,VS]
 have e1:(rem.map fun p=>AV.int .i64 p.1).getD j .und=cI rem[j].1:=by
  rw[A2,List.getElem?_map,A3 h];rfl
 have e2:(rem.map fun p=>AV.int .i64 p.2).getD j .und=cI rem[j].2:=by
  rw[A2,List.getElem?_map,A3 h];rfl
 rw[e1,e2]
theorem qcE {rem:List (Int×Int)} {j:Nat} (h:j<rem.length) {acc T:List Int} (hp:(acc++comm rem).Perm T) :
  ((if rem[j].2 ≥ 0 then acc++[rem[j].1] else acc)++comm (rem.eraseIdx j)).Perm T:=by
 refine List.Perm.trans ?_ hp;have h1:(comm rem).Perm (comm (rem[j]::rem.eraseIdx j)):=((Nm rem j h).filter _).map _;refine List.Perm.trans ?_ (h1.append_left acc).symm;unfold comm;rw[List.filter_cons];by_cases hc:rem[j].2 ≥ 0
 ·rw[if_pos hc,decide_eq_true hc];simp
 ·rw[if_neg hc,decide_eq_false hc];simp
def CommI (T:List Int) (k:Nat) (e:Env):Prop:=∃ (acc:List Int) (rem:List (Int×Int)) (y:AV),rem.length=k∧leftE y=some (cK rem,cV rem)∧acc.length+rem.length≤1000∧(acc++comm rem).Perm T ∧
 Goes 23 e [(3,.sb 1500003 3 1 0 acc.length),(8,.mb 1 1000008),(1000008,y),(1500003,.obj 3 1 (cL acc))]
theorem qdb {acc:List Int} (h:acc.length≤1000):Run Try.prog (.callM 92 [.sb 2000000 3 1 0 acc.length] [(2000000,.obj 3 1 (cL acc))] (.tup []) [(2000000,.obj 3 1 (cL (sortI acc)))]):=by
 by_cases h2:acc=[]
 ·subst h2
  have e:sortI []=[]:=by simp[sortI]
  rw[e];exact .extM qaR (fun id x hx=>by simp only[look]at hx;split at hx <;> cases hx;rfl)
 ·exact .extSort rfl h2 (by omega) qap
theorem Dx {fuel:Nat} {h:List hsOp} {l:List (Int×Int)} (he:jz fuel h 2=some l) (hl:l.length≤1000):CallOk Try.prog 51 [l44 none h] (.lst 3 1 none (cL (sortI (comm l)))):=by
 refine qaC Try.func51 rfl (by kernel_rfl) (fun e k q xs hh=>by cases hh) ?_;refine CodeP.seq (CodeP.reg mixedP (e2:=[(0,l44 none h),(2,.nils)]) ?_);refine CodeP.wk (env':=[(0,l44 none h)])<|CodeP.seq (CodeP.reg mixedP (e2:=[(0,l44 none h),(3,.nils)]) ?_);refine CodeP.mv [.nil 3 3 1 1500003] (env':=[(0,l44 none h),(3,.sb 1500003 3 1 0 0),(1500003,.obj 3 1 [])])<|CodeP.seq (CodeP.seq (CodeP.of mixedP (W.region (by kernel_rfl) ?_)));refine WO.callK 1 (F:=62) (l:=[l44 none h,.int .i64 2]) (C:=[]) (r:=mpE (AV.int .i64) (AV.int .i64) l) (by kernel_rfl) (by kernel_rfl) (QC fuel h 2 l he) (e1:=[(0,l44 none h),(3,.sb 1500003 3 1 0 0),(6,l44 none h),(7,mpE (AV.int .i64) (AV.int .i64) l),(1500003,.obj 3 1 [])]) (by kernel_rfl)<|WO.end0 (e2:=[(0,l44 none h),(3,.sb 1500003 3 1 0 0),(6,l44 none h),(7,mpE (AV.int .i64) (AV.int .i64) l),(8,.mb 1 1000008),(1000008,.hob 1 (cK l) (cV l)),(1500003,.obj 3 1 [])]) (by kernel_rfl)<|CodeP.wk (env':=[(3,.sb 1500003 3 1 0 0),(8,.mb 1 1000008),(1000008,.hob 1 (cK l) (cV l)),(1500003,.obj 3 1 [])])<|CodeP.block (CodeP.loop (I:=CommI (comm l)) ?_ l.length ⟨[],l,.hob 1 (cK l) (cV l),rfl,rfl,by simpa using hl,List.Perm.refl _,Goes.refl _⟩)
 rintro k e ⟨acc,rem,y,hk,hy,hlen,hp,hg⟩
 refine CodeP.goes hg<|CodeP.seq<|CodeP.next mixedP rfl rfl (by kernel_rfl) (it:=1000008) (y:=y) (ks:=cK rem) (vs:=cV rem) rfl rfl hy (envF:=[(3,.sb 1500003 3 1 0 acc.length),(8,.mb 1 1000008),(9,.tup [.bool false]),(1000008,y),(1500003,.obj 3 1 (cL acc))]) (by kernel_rfl)
  (envT:=fun j=>[(3,.sb 1500003 3 1 0 acc.length),(8,.mb 1 1000008),(9,.tup [.bool true,.top,.top]),(1000008,nextEnt (cK rem) (cV rem) j),(1500003,.obj 3 1 (cL acc))]) (fun j _=>by kernel_rfl) (fun h0 _=>?_) (fun j hj _=>?_)
 ·
  refine WO.end0 (e2:=[(3,.sb 1500003 3 1 0 acc.length),(8,.mb 1 1000008),(9,.tup [.bool false]),(10,.bool false),(1000008,y),(1500003,.obj 3 1 (cL acc))]) (by kernel_rfl) ?_
  have hr0:rem=[]:=by simpa[cK] using h0
  subst hr0
  have hpa:acc.Perm (comm l):=by simpa[comm] using hp
  refine CodeP.seq (CodeP.cond false (by kernel_rfl) (fun h=>Bool.noConfusion h) (fun _=>CodeP.of mixedP (W.exit ?_)));refine CodeP.wk (env':=[(3,.sb 1500003 3 1 0 acc.length),(1500003,.obj 3 1 (cL acc))])<|CodeP.of mixedP<|W.seq<|W.region (by kernel_rfl)<|WO.callMK 1 [(1500003,2000000)] [] (F:=92) (args:=[.sb 2000000 3 1 0 acc.length]) (hp:=[(2000000,.obj 3 1 (cL acc))]) (hp2:=[(2000000,.obj 3 1 (cL (sortI acc)))]) (r:=.tup []) (by kernel_rfl) (qdb (by simpa using hlen)) (e1:=[(3,.sb 1500003 3 1 0 acc.length),(20,.sb 1500003 3 1 0 acc.length),(21,.tup []),(1500003,.obj 3 1 (cL (sortI acc)))]) (by kernel_rfl) ?_;refine WO.fin [3,1500003] [] [] [] (e2:=[(3,.sb 1500003 3 1 0 acc.length),(1500003,.obj 3 1 (cL (sortI acc)))]) (by kernel_rfl) (fun _ h=>h) ?_;refine W.seq<|W.regT [2,1500003] [] [] [] (e2:=[(2,.sb 1500003 3 1 0 acc.length),(1500003,.obj 3 1 (cL (sortI acc)))]) (by kernel_rfl) (by kernel_rfl) (fun _ h=>h) ?_
  have hsl:(sortI acc).length=acc.length:=by unfold sortI;exact List.length_mergeSort acc
  have hsn:snapA 0 acc.length (cL (sortI acc))=cL (sortI (comm l)):=by
   rw[qaS hpa]at hsl ⊢;unfold snapA cL;rw[List.drop_zero,A4 (by rw[A1,hsl];exact Nat.le_refl _)]
  refine W.mv [.frz 1500003] (env':=[(2,.lst 3 1 none (cL (sortI (comm l))))]) ((by kernel_rfl:mvAll [(2,.sb 1500003 3 1 0 acc.length),(1500003,.obj 3 1 (cL (sortI acc)))] [.frz 1500003]=[(2,.lst 3 1 none (snapA 0 acc.length (cL (sortI acc))))]).trans (by rw[hsn])) ?_
  have hr:JM Try.prog Try.f51 [(2,.lst 3 1 none (cL (sortI (comm l))))]=some (.lst 3 1 none (cL (sortI (comm l)))):=by kernel_rfl
  exact W.ret hr
 ·
  have hj:j<rem.length:=by simpa[cK] using hj
  show WO Try.prog _ false _ _ _ [(3,.sb 1500003 3 1 0 acc.length),(8,.mb 1 1000008),(9,.tup [.bool true,.top,.top]),(1000008,nextEnt (cK rem) (cV rem) j),(1500003,.obj 3 1 (cL acc))];rw[qbm rem hj];have hpt:=qcE hj hp
  have hel:(rem.eraseIdx j).length=rem.length - 1:=by rw[List.length_eraseIdx,if_pos hj]
  generalize hp1:rem[j].1=pk at hpt ⊢;generalize hp2:rem[j].2=pv at hpt ⊢;generalize rem.eraseIdx j=rem2 at hpt hel ⊢;refine WO.end0 (e2:=[(3,.sb 1500003 3 1 0 acc.length),(8,.mb 1 1000008),(9,.tup [.bool true,.top,.top]),(10,.bool true),(1000008,.hob 2 (cI pk::cK rem2) (cI pv::cV rem2)),(1500003,.obj 3 1 (cL acc))]) (by kernel_rfl)<|CodeP.seq (CodeP.cond true (by kernel_rfl) (fun _=>CodeP.of mixedP (W.skip ?_)) (fun h=>Bool.noConfusion h));refine CodeP.wk (env':=[(3,.sb 1500003 3 1 0 acc.length),(8,.mb 1 1000008),(1000008,.hob 2 (cI pk::cK rem2) (cI pv::cV rem2)),(1500003,.obj 3 1 (cL acc))])<|CodeP.block (CodeP.seq (CodeP.reg mixedP (e2:=[(3,.sb 1500003 3 1 0 acc.length),(4,cI pk),(5,cI pv),(8,.mb 1 1000008),(11,.tup [cI pk,cI pv]),(12,cI pk),(13,cI pv),(1000008,.hob 2 (cI pk::cK rem2) (cI pv::cV rem2)),(1500003,.obj 3 1 (cL acc))]) ?_));refine CodeP.wk (env':=[(3,.sb 1500003 3 1 0 acc.length),(4,cI pk),(5,cI pv),(8,.mb 1 1000008),(1000008,.hob 2 (cI pk::cK rem2) (cI pv::cV rem2)),(1500003,.obj 3 1 (cL acc))])<|CodeP.seq (CodeP.reg mixedP (e2:=[(3,.sb 1500003 3 1 0 acc.length),(4,cI pk),(5,cI pv),(8,.mb 1 1000008),(14,cI pv),(15,.bool (decide (pv ≥ 0))),(1000008,.hob 2 (cI pk::cK rem2) (cI pv::cV rem2)),(1500003,.obj 3 1 (cL acc))]) ?_);refine CodeP.cond (decide (pv ≥ 0)) (by kernel_rfl) (fun hc=>?_) (fun hc=>?_)
  ·have hc:=of_decide_eq_true hc;rw[if_pos hc]at hpt;refine CodeP.wk (env':=[(3,.sb 1500003 3 1 0 acc.length),(4,cI pk),(8,.mb 1 1000008),(1000008,.hob 2 (cI pk::cK rem2) (cI pv::cV rem2)),(1500003,.obj 3 1 (cL acc))])<|CodeP.of mixedP (W.region (by kernel_rfl) ?_);refine WO.appendOK 3 (d:=19) (e:=3) (s:=1) (bytes:=8) (m:=acc.length) (n2:=(acc++[pk]).length) (xs:=cL acc) (ys:=cL [pk]) (zs:=cL (acc++[pk])) (env1:=[(3,.top),(4,cI pk),(8,.mb 1 1000008),(16,.top),(17,cI pk),(18,.lst 3 1 (some 18) (cL [pk])),(1000008,.hob 2 (cI pk::cK rem2) (cI pv::cV rem2))]) (by kernel_rfl) ?_ ?_ (A1 _) (e1:=[(3,.top),(4,cI pk),(8,.mb 1 1000008),(16,.top),(17,cI pk),(18,.lst 3 1 (some 18) (cL [pk])),(19,.sb 1000019 3 1 0 (acc++[pk]).length),(1000008,.hob 2 (cI pk::cK rem2) (cI pv::cV rem2)),(1000019,.obj 3 1 (cL (acc++[pk])))]) (by kernel_rfl) ?_
   ·have:(cL [pk]).length=1:=rfl;rw[this]
    have:(acc.length+1) * 8≤1001 * 8:=by omega
    simp only[capOk,Bool.and_eq_true,Nat.ble_eq];omega
   ·unfold snapA cL;rw[List.drop_zero,List.map_append,A4 (by rw[A1];exact Nat.le_refl _)]
   ·refine WO.end0 (e2:=[(3,.sb 1000019 3 1 0 (acc++[pk]).length),(4,cI pk),(8,.mb 1 1000008),(16,.top),(17,cI pk),(18,.lst 3 1 (some 18) (cL [pk])),(19,.sb 1000019 3 1 0 (acc++[pk]).length),(1000008,.hob 2 (cI pk::cK rem2) (cI pv::cV rem2)),(1000019,.obj 3 1 (cL (acc++[pk])))]) (by kernel_rfl) ?_;exact⟨rem.length - 1,by omega,acc++[pk],rem2,.hob 2 (cI pk::cK rem2) (cI pv::cV rem2),hel,rfl,by simp;omega,hpt,Goes.wk (e1:=[(3,.sb 1000019 3 1 0 (acc++[pk]).length),(8,.mb 1 1000008),(1000008,.hob 2 (cI pk::cK rem2) (cI pv::cV rem2)),(1000019,.obj 3 1 (cL (acc++[pk])))]) (Goes.mv [.ren 1000019 1500003] (Goes.refl _))⟩
  ·have hc:=of_decide_eq_false hc;rw[if_neg hc]at hpt;refine CodeP.of mixedP (W.skip ?_);exact⟨rem.length - 1,by omega,acc,rem2,.hob 2 (cI pk::cK rem2) (cI pv::cV rem2),hel,rfl,by omega,hpt,Goes.wk (e1:=[(3,.sb 1500003 3 1 0 acc.length),(8,.mb 1 1000008),(1000008,.hob 2 (cI pk::cK rem2) (cI pv::cV rem2)),(1500003,.obj 3 1 (cL acc))]) (Goes.refl _)⟩
end Go.AM
namespace Go.AM
open Go.Proofs
structure qj where
 f_0:Int
 f_1:Int
def l3 (c:Option Nat) (l:List Int):AV:=.lst 3 1 c (A0 (AV.int .i64) l)
def qg (x:qj):AV:=.agg [.int .i64 x.f_0,.int .i64 x.f_1]
def Jq (x a:qj):Bool:=(x.f_0 == a.f_0) && ((x.f_1 == a.f_1) && true)
end Go.AM
