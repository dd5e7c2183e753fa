/- s -/
import Derived.Test.YtdghpfejmlpjhaaRMT
set_option maxRecDepth 100000
set_option linter.unusedVariables false
set_option linter.unusedSimpArgs false
namespace Go.AM
open Go.Proofs
def Yd (fuel:Nat) (a1:(List ruRule)) (a2:(List (rufact×Bool))) (a3:(List (rufact×Bool))):Option (List (rufact×Bool)):=consP fuel a1 a2 a3
theorem VL (fuel:Nat) (a1:(List ruRule)) (a2:(List (rufact×Bool))) (a3:(List (rufact×Bool))) (r:(List (rufact×Bool))) (h:Yd fuel a1 a2 a3=some r):Run Try.prog (.call 74 [l54 none a1,mpE qh AV.bool a2,mpE qh AV.bool a3] (mpE qh AV.bool r)):=.ext0 (Try.cons74 h)
def jl (v29:(List (rufact×Bool))):Option ((List (rufact×Bool))×Bool) :=
 (some (v29,true))
def Js (fuel:Nat) (v14:(List (rufact×Bool))) (N1:((List (rufact×Bool))→Option ((List (rufact×Bool))×Bool))) (v27:(List ruRule)):Option ((List (rufact×Bool))×Bool) :=
 ((Yd fuel v27 v14 v14).bind fun w28=>(N1 w28))
def QP (N2:((List ruRule)→Option ((List (rufact×Bool))×Bool))) (v26:(List ruRule)):Option ((List (rufact×Bool))×Bool) :=
 (N2 v26)
def jQ (k1:Nat) (w5:((List Int)×Bool)) (K18:((List ruRule)→Option ((List (rufact×Bool))×Bool))):List ruRule→Nat→(List ruRule)→Option ((List (rufact×Bool))×Bool)
 | [],k2,v20=>(K18 v20)
 | x2::r2,k2,v20=>((idx w5.1 x2.qc.qb).bind fun e24=>(bif (e24 == (k1:Int)) then (chk (capOk 56 ((v20++[x2])).length) ((QP (jQ k1 w5 K18 r2 (k2+1))) (v20++[x2]))) else ((QP (jQ k1 w5 K18 r2 (k2+1))) v20)))
def ji (fuel:Nat) (a1:(List ruRule)) (w5:((List Int)×Bool)) (K11:((List (rufact×Bool))→Option ((List (rufact×Bool))×Bool))):List Nat→Nat→(List (rufact×Bool))→Option ((List (rufact×Bool))×Bool)
 | [],k1,v14=>(K11 v14)
 | x1::r1,k1,v14=>(chk (lenOk a1) (jQ k1 w5 (Js fuel v14 (ji fuel a1 w5 K11 r1 (k1+1))) a1 0 ([]:(List ruRule))))
def Xy (fuel:Nat) (a1:(List ruRule)) (a2:(List apiFact)):Option ((List (rufact×Bool))×Bool) :=
 ((QO fuel a1).bind fun w5=>(bif (!w5.2) then (some (([]:(List (rufact×Bool))),false)) else ((Yu a2).bind fun w10=>((JA fuel w5.1).bind fun w13=>(chk (lenOk (List.range (Int.toNat (IntKind.wrap .i64 (w13+1))))) (ji fuel a1 w5 (jl) (List.range (Int.toNat (IntKind.wrap .i64 (w13+1)))) 0 w10))))))
theorem Ux (fuel:Nat) (a1:(List ruRule)) (a2:(List apiFact)) (r:((List (rufact×Bool))×Bool)) (h:Xy fuel a1 a2=some r):Run Try.prog (.call 57 [l54 none a1,l41 none a2] (.tup [mpE qh AV.bool r.1,.bool r.2])):=by
 refine cW Try.func57 rfl (env0:=[(0,l54 none a1),(1,l41 none a2)]) ?_;unfold Xy at h;refine W.seq ?_
 let z0:=fun t=>EN ((0,l54 none a1)::t)
 let z1:=fun t=>z0 ((1,l41 none a2)::t)
 refine W.rt (e2:=z1 []) ?_;refine W.seq ?_;refine W.rg ?_;obtain⟨w5,hw5,h⟩:=qf h;refine WO.ck 1 (F:=85) (l:=[l54 none a1]) (C:=[]) (r:=.tup [l3 none w5.1,.bool w5.2]) (Du fuel a1 w5 hw5) (e1:=z1 [(14,l54 none a1),(15,.tup [l3 none w5.1,.bool w5.2])]) ?_
 let z2:=fun t=>z1 ((6,l3 none w5.1)::t)
 refine WO.fn (e2:=z2 [(7,.bool w5.2)]) ?_;refine W.seq ?_;refine W.seq ?_;refine W.rt (e2:=z2 [(19,.bool (!w5.2))]) ?_;refine W.cb (!w5.2) (fun hb=>?_) (fun hb=>?_)
 ·replace h:=qv hb h;refine W.seq ?_
  let z3:=fun t=>EN ((4,mpE qh AV.bool ([]:(List (rufact×Bool))))::(5,.bool false)::t)
  refine W.rt (e2:=z3 []) ?_;refine W.wk (env':=z3 []) ?_;cases h;exact W.ret (show qq _ _ _=some _ by kernel_rfl)
 replace h:=qw hb h;refine W.skip ?_;refine W.wk (env':=z2 []) ?_;refine W.seq ?_;refine W.rg ?_;obtain⟨w10,hw10,h⟩:=qf h;refine WO.ck 1 (F:=73) (l:=[l41 none a2]) (C:=[]) (r:=mpE qh AV.bool w10) (qaS a2 w10 hw10) (e1:=z2 [(20,l41 none a2),(21,mpE qh AV.bool w10)]) ?_
 let z4:=fun t=>z0 ((6,l3 none w5.1)::t)
 let z5:=fun t=>z4 ((8,mpE qh AV.bool w10)::t)
 refine WO.fn (e2:=z5 []) ?_;refine W.seq ?_;refine W.join (σ:=((List (rufact×Bool)))) (fun s=>[(8,mpE qh AV.bool s)]) (fun s=>(jl) s=some r) (fun v29 h=>?_) (fun hK11=>?_)
 ·have h:(jl) v29=some r:=h;unfold jl at h;refine W.seq ?_
  let z6:=fun t=>EN ((4,mpE qh AV.bool v29)::(5,.bool true)::t)
  refine W.rt (e2:=z6 []) ?_;refine W.wk (env':=z6 []) ?_;cases h;exact W.ret (show qq _ _ _=some _ by kernel_rfl)
 refine W.seq ?_;refine W.rg ?_;obtain⟨w13,hw13,h⟩:=qf h;refine WO.ck 1 (F:=107) (l:=[l3 none w5.1]) (C:=[]) (r:=I6 w13) (Xx fuel w5.1 w13 hw13) (e1:=z5 [(22,l3 none w5.1),(23,I6 w13)]) ?_;refine WO.fn (e2:=z5 [(24,I6 (W6 (w13+1))),(25,.int .i64 0)]) ?_;refine W.block ?_;obtain⟨hl1,h⟩:=qi h;refine W.wk (env':=z5 [(24,I6 (W6 (w13+1))),(25,I6 ((0:Nat):Int))]) ?_;refine W.range (σ:=((List (rufact×Bool)))) (List.range (Int.toNat (W6 (w13+1)))) (fun k1 s=>z4 [(8,mpE qh AV.bool s),(24,I6 (W6 (w13+1))),(25,I6 (k1:Int))]) (fun r0 k0 s=>ji fuel a1 w5 (jl) r0 k0 s=some r) (fun v14 h=>?_) (fun x1 r1 k1 s hx1 hk1 h hN1=>?_) w10 h
 ·have h:ji fuel a1 w5 (jl) [] ((List.range (Int.toNat (W6 (w13+1))))).length v14=some r:=h;rw[ji.eq_1]at h;refine W.seq ?_;refine W.rg ?_
  let z7:=fun t=>z4 ((8,mpE qh AV.bool v14)::(24,I6 (W6 (w13+1)))::(25,I6 (((List.range (Int.toNat (W6 (w13+1))))).length:Int))::(26,.bool false)::t)
  refine WO.pk 0 (some (.bool (decide ((((List.range (Int.toNat (W6 (w13+1))))).length:Int)<(W6 (w13+1)))))) (v:=.bool false) (by rw[qeP (n:=(W6 (w13+1)))]) (e1:=z7 []) ?_;refine WO.fn (e2:=z7 []) ?_;refine W.seq ?_;refine W.cb false (fun h=>Bool.noConfusion h) (fun _=>?_);refine W.exit ?_;refine W.wk (env':=[(8,mpE qh AV.bool v14)]) ?_;exact hK11 v14 h
 ·obtain⟨v14,rfl⟩:∃ x,x=s:=⟨s,rfl⟩;have h:ji fuel a1 w5 (jl) (x1::r1) k1 v14=some r:=h;rw[ji.eq_2]at h;refine W.seq ?_;refine W.rg ?_
  let z8:=fun t=>z4 ((8,mpE qh AV.bool v14)::t)
  let z9:=fun t=>z8 ((24,I6 (W6 (w13+1)))::(25,I6 (k1:Int))::t)
  refine WO.pk 0 (some (.bool (decide ((k1:Int)<(W6 (w13+1)))))) (v:=.bool true) (by rw[qfR hk1]) (e1:=z9 [(26,.bool true)]) ?_;refine WO.fn (e2:=z9 [(26,.bool true)]) ?_;refine W.seq ?_;refine W.cb true (fun _=>?_) (fun h=>Bool.noConfusion h);refine W.skip ?_;refine W.wk (env':=z9 []) ?_;refine W.seq ?_;refine W.block ?_;refine W.seq ?_
  let z10:=fun t=>z8 ((9,I6 (k1:Int))::t)
  refine W.rt (e2:=z10 [(24,I6 (W6 (w13+1))),(25,I6 (k1:Int))]) ?_;refine W.seq ?_
  let z11:=fun t=>z10 ((10,.nils)::(24,I6 (W6 (w13+1)))::(25,I6 (k1:Int))::t)
  refine W.rt (e2:=z11 []) ?_;refine W.seq ?_;refine W.join (σ:=((List ruRule))) (fun s=>z8 [(10,l54 (some 11000) s),(24,I6 (W6 (w13+1))),(25,I6 (k1:Int))]) (fun s=>(Js fuel v14 (ji fuel a1 w5 (jl) r1 (k1+1))) s=some r) (fun v27 h=>?_) (fun hK18=>?_)
  ·have h:(Js fuel v14 (ji fuel a1 w5 (jl) r1 (k1+1))) v27=some r:=h;unfold Js at h;refine W.rg ?_;obtain⟨w28,hw28,h⟩:=qf h;refine WO.ck 3 (F:=74) (l:=[l54 none v27,mpE qh AV.bool v14,mpE qh AV.bool v14]) (C:=[]) (r:=mpE qh AV.bool w28) (VL fuel v27 v14 v14 w28 hw28) (e1:=z8 [(10,l54 (some 11000) v27),(24,I6 (W6 (w13+1))),(25,I6 (k1:Int)),(47,l54 (some 11000) v27),(48,mpE qh AV.bool v14),(49,mpE qh AV.bool v14),(50,mpE qh AV.bool w28)]) ?_
   let z12:=fun t=>z4 ((8,mpE qh AV.bool w28)::t)
   refine WO.fn (e2:=z12 [(24,I6 (W6 (w13+1))),(25,I6 (k1:Int))]) ?_;refine W.rg ?_;refine WO.pk 0 (some (I6 (IntKind.wrap .i64 ((k1:Int)+1)))) (v:=I6 ((k1+1:Nat):Int)) (by rw[qX hl1 hk1]) (e1:=z12 [(24,I6 (IntKind.wrap .i64 (w13+1))),(25,I6 (k1:Int)),(51,I6 ((k1+1:Nat):Int))]) ?_;refine WO.fn (e2:=z12 [(24,I6 (W6 (w13+1))),(25,I6 ((k1+1:Nat):Int))]) ?_;exact hN1 w28 h
  refine W.seq ?_;refine W.rg ?_
  let z13:=fun t=>z11 ((28,l54 none a1)::(29,I6 (a1.length:Int))::t)
  refine WO.pk 1 (some (I6 ((List.map ja a1).length:Int))) (v:=I6 (a1.length:Int)) (by rw[List.length_map]) (e1:=z13 []) ?_;refine WO.fn (e2:=z13 [(30,.int .i64 0)]) ?_;refine W.block ?_;obtain⟨hl2,h⟩:=qi h;refine W.weak [0,6,8,9,10,24,25,28,29,30] [] [(10,0,54,3,11000)] [] (env':=z10 [(10,l54 (some 11000) ([]:(List ruRule))),(24,I6 (W6 (w13+1))),(25,I6 (k1:Int)),(28,l54 none a1),(29,I6 (a1.length:Int)),(30,I6 ((0:Nat):Int))]) (by kernel_rfl) ?_;refine W.range (σ:=((List ruRule))) a1 (fun k2 s=>z10 [(10,l54 (some 11000) s),(24,I6 (W6 (w13+1))),(25,I6 (k1:Int)),(28,l54 none a1),(29,I6 (a1.length:Int)),(30,I6 (k2:Int))]) (fun r0 k0 s=>jQ k1 w5 (Js fuel v14 (ji fuel a1 w5 (jl) r1 (k1+1))) r0 k0 s=some r) (fun v20 h=>?_) (fun x2 r2 k2 s hx2 hk2 h hN2=>?_) ([]:(List ruRule)) h
  ·have h:jQ k1 w5 (Js fuel v14 (ji fuel a1 w5 (jl) r1 (k1+1))) [] (a1).length v20=some r:=h;rw[jQ.eq_1]at h;refine W.seq ?_;refine W.rg ?_
   let z14:=fun t=>z10 ((10,l54 (some 11000) v20)::(24,I6 (W6 (w13+1)))::(25,I6 (k1:Int))::(28,l54 none a1)::(29,I6 (a1.length:Int))::(30,I6 ((a1).length:Int))::(31,.bool false)::t)
   refine WO.pk 0 (some (.bool (decide (((a1).length:Int)<(a1.length:Int))))) (v:=.bool false) (by rw[jw (l:=a1)]) (e1:=z14 []) ?_;refine WO.fn (e2:=z14 []) ?_;refine W.seq ?_;refine W.cb false (fun h=>Bool.noConfusion h) (fun _=>?_);refine W.exit ?_;refine W.wk (env':=z8 [(10,l54 (some 11000) v20),(24,I6 (W6 (w13+1))),(25,I6 (k1:Int))]) ?_;exact hK18 v20 h
  ·obtain⟨v20,rfl⟩:∃ x,x=s:=⟨s,rfl⟩;have h:jQ k1 w5 (Js fuel v14 (ji fuel a1 w5 (jl) r1 (k1+1))) (x2::r2) k2 v20=some r:=h;rw[jQ.eq_2]at h;refine W.seq ?_;refine W.rg ?_
   let z15:=fun t=>z10 ((10,l54 (some 11000) v20)::(24,I6 (W6 (w13+1)))::(25,I6 (k1:Int))::(28,l54 none a1)::(29,I6 (a1.length:Int))::(30,I6 (k2:Int))::t)
   refine WO.pk 0 (some (.bool (decide ((k2:Int)<(a1.length:Int))))) (v:=.bool true) (by rw[jT hk2]) (e1:=z15 [(31,.bool true)]) ?_;refine WO.fn (e2:=z15 [(31,.bool true)]) ?_;refine W.seq ?_;refine W.cb true (fun _=>?_) (fun h=>Bool.noConfusion h);refine W.skip ?_;refine W.wk (env':=z15 []) ?_;refine W.seq ?_;refine W.join (σ:=((List ruRule))) (fun s=>z10 [(10,l54 (some 11000) s),(24,I6 (W6 (w13+1))),(25,I6 (k1:Int)),(28,l54 none a1),(29,I6 (a1.length:Int)),(30,I6 (k2:Int))]) (fun s=>(QP (jQ k1 w5 (Js fuel v14 (ji fuel a1 w5 (jl) r1 (k1+1))) r2 (k2+1))) s=some r) (fun v26 h=>?_) (fun hK21=>?_)
   ·have h:(QP (jQ k1 w5 (Js fuel v14 (ji fuel a1 w5 (jl) r1 (k1+1))) r2 (k2+1))) v26=some r:=h;unfold QP at h;refine W.rg ?_;refine WO.pk 0 (some (I6 (IntKind.wrap .i64 ((k2:Int)+1)))) (v:=I6 ((k2+1:Nat):Int)) (by rw[qX hl2 hk2]) (e1:=z10 [(10,l54 (some 11000) v26),(24,I6 (IntKind.wrap .i64 (w13+1))),(25,I6 (k1:Int)),(28,l54 none a1),(29,I6 (a1.length:Int)),(30,I6 (k2:Int)),(46,I6 ((k2+1:Nat):Int))]) ?_;refine WO.fn (e2:=z10 [(10,l54 (some 11000) v26),(24,I6 (W6 (w13+1))),(25,I6 (k1:Int)),(28,l54 none a1),(29,I6 (a1.length:Int)),(30,I6 ((k2+1:Nat):Int))]) ?_;exact hN2 v26 h
   refine W.block ?_;refine W.seq ?_;refine W.rg ?_;refine WO.pk 0 (if (0:Int)≤(k2:Int) then ((List.map ja a1)[Int.toNat (k2:Int)]?).map AV.ptr else none) (v:=.ptr (.agg [I6 x2.qc.qb,l3 none x2.qc.qa,l56 none x2.qd])) (jU (f:=ja) hx2) (e1:=z15 [(32,.ptr (.agg [I6 x2.qc.qb,l3 none x2.qc.qa,l56 none x2.qd]))]) ?_
   let z16:=fun t=>z10 ((10,l54 (some 11000) v20)::(12,.ptr (.agg [I6 x2.qc.qb,l3 none x2.qc.qa,l56 none x2.qd]))::(24,I6 (W6 (w13+1)))::(25,I6 (k1:Int))::(28,l54 none a1)::(29,I6 (a1.length:Int))::(30,I6 (k2:Int))::t)
   refine WO.fin [0,6,8,9,10,12,24,25,28,29,30] [12] [] [] (e2:=z16 []) (by kernel_rfl) (fun _ h=>h) ?_;refine W.seq ?_;refine W.rg ?_;obtain⟨e24,he24,h⟩:=qf h;refine WO.pk 4 (if (0:Int)≤x2.qc.qb then ((M6 w5.1)[Int.toNat x2.qc.qb]?).map AV.ptr else none) (v:=.ptr (I6 e24)) (Vo (f:=(AV.int .i64)) he24) (e1:=z16 [(34,l3 none w5.1),(35,.ptr (.agg [I6 x2.qc.qb,l3 none x2.qc.qa])),(36,.ptr (I6 x2.qc.qb)),(37,I6 x2.qc.qb),(38,.ptr (I6 e24))]) ?_;refine WO.fn (e2:=z16 [(41,.bool (e24 == (k1:Int)))]) ?_;refine W.cb (e24 == (k1:Int)) (fun hb=>?_) (fun hb=>?_)
   ·replace h:=qv hb h;refine W.rg ?_;obtain⟨hc25,h⟩:=qi h;refine WO.appendK 3 (d:=45) (e:=54) (s:=3) (bytes:=56) (xs:=(List.map ja v20)) (ys:=(List.map ja [x2])) (zs:=(List.map ja (v20++[x2]))) (env1:=[(0,l54 none a1),(6,l3 none w5.1),(8,mpE qh AV.bool v14),(9,I6 (k1:Int)),(10,l54 none v20),(12,.ptr (.agg [I6 x2.qc.qb,l3 none x2.qc.qa,l56 none x2.qd])),(24,I6 (W6 (w13+1))),(25,I6 (k1:Int)),(28,l54 none a1),(29,I6 (a1.length:Int)),(30,I6 (k2:Int)),(41,.bool (e24 == (k1:Int))),(42,l54 none v20),(43,.agg [I6 x2.qc.qb,l3 none x2.qc.qa,l56 none x2.qd]),(44,l54 (some 44) [x2])]) (by kernel_rfl) (List.map_append.symm) (by rw[List.length_map];exact hc25) (e1:=z10 [(10,l54 none v20),(12,.ptr (.agg [I6 x2.qc.qb,l3 none x2.qc.qa,l56 none x2.qd])),(24,I6 (W6 (w13+1))),(25,I6 (k1:Int)),(28,l54 none a1),(29,I6 (a1.length:Int)),(30,I6 (k2:Int)),(41,.bool (e24 == (k1:Int))),(42,l54 none v20),(43,.agg [I6 x2.qc.qb,l3 none x2.qc.qa,l56 none x2.qd]),(44,l54 (some 44) [x2]),(45,l54 (some 45) (v20++[x2]))]) (by kernel_rfl) ?_;refine WO.fin [0,6,8,9,10,24,25,28,29,30] [] [] [(45,some 11000)] (e2:=z10 [(10,l54 (some 11000) (v20++[x2])),(24,I6 (W6 (w13+1))),(25,I6 (k1:Int)),(28,l54 none a1),(29,I6 (a1.length:Int)),(30,I6 (k2:Int))]) (by kernel_rfl) (fun _ h=>h) ?_;exact hK21 (v20++[x2]) h
   replace h:=qw hb h;refine W.skip ?_;refine W.wk (env':=z15 []) ?_;exact hK21 v20 h
def Qg (a1:(List (rufact×Bool))):Option (List apiFact):=chk (decide (a1.length≤1000) && nodupF (a1.map Prod.fst)) (some (sortF (apis a1)))
theorem Hd (a1:(List (rufact×Bool))) (r:(List apiFact)) (h:Qg a1=some r):Run Try.prog (.call 58 [mpE qh AV.bool a1] (l41 none r)):=by
 unfold Qg at h;obtain⟨hc,h⟩:=qi h;cases h;rw[Bool.and_eq_true,decide_eq_true_eq]at hc;exact .ext0 (list58 hc.1 (Vj hc.2))
def UB (fuel:Nat) (a1:(List ruRule)) (a2:(List apiFact)):Option ((List apiFact)×Int) :=
 ((Qo fuel a1 a2).bind fun w6=>(bif (!w6) then (some (([]:(List apiFact)),2)) else ((Xy fuel a1 a2).bind fun w9=>(bif (!w9.2) then (some (([]:(List apiFact)),8)) else ((Qg w9.1).bind fun w14=>(some (w14,0)))))))
theorem qaT (fuel:Nat) (a1:(List ruRule)) (a2:(List apiFact)) (r:((List apiFact)×Int)) (h:UB fuel a1 a2=some r):Run Try.prog (.call 17 [l54 none a1,l41 none a2] (.tup [l41 none r.1,I6 r.2])):=by
 refine cW Try.func17 rfl (env0:=[(0,l54 none a1),(1,l41 none a2)]) ?_;unfold UB at h;refine W.seq ?_
 let z0:=fun t=>EN ((0,l54 none a1)::(1,l41 none a2)::t)
 refine W.rt (e2:=z0 []) ?_;refine W.seq ?_;refine W.seq ?_;refine W.rg ?_;obtain⟨w6,hw6,h⟩:=qf h;refine WO.ck 2 (F:=56) (l:=[l54 none a1,l41 none a2]) (C:=[]) (r:=.bool w6) (Zx fuel a1 a2 w6 hw6) (e1:=z0 [(8,l54 none a1),(9,l41 none a2),(10,.bool w6)]) ?_;refine WO.fn (e2:=z0 [(11,.bool (!w6))]) ?_;refine W.cb (!w6) (fun hb=>?_) (fun hb=>?_)
 ·replace h:=qv hb h;refine W.seq ?_;refine W.rt (e2:=[(4,.nils),(5,.int .i64 2)]) ?_;refine W.weak [4,5] [] [(4,0,41,2,70004)] [] (env':=[(4,l41 (some 70004) ([]:(List apiFact))),(5,.int .i64 2)]) (by kernel_rfl) ?_;cases h;exact W.ret (show qq _ _ _=some _ by kernel_rfl)
 replace h:=qw hb h;refine W.skip ?_;refine W.wk (env':=z0 []) ?_;refine W.seq ?_;refine W.rg ?_;obtain⟨w9,hw9,h⟩:=qf h;refine WO.ck 2 (F:=57) (l:=[l54 none a1,l41 none a2]) (C:=[]) (r:=.tup [mpE qh AV.bool w9.1,.bool w9.2]) (Ux fuel a1 a2 w9 hw9) (e1:=z0 [(13,l54 none a1),(14,l41 none a2),(15,.tup [mpE qh AV.bool w9.1,.bool w9.2])]) ?_
 let z1:=fun t=>EN ((6,mpE qh AV.bool w9.1)::t)
 refine WO.fn (e2:=z1 [(7,.bool w9.2)]) ?_;refine W.seq ?_;refine W.seq ?_;refine W.rt (e2:=z1 [(19,.bool (!w9.2))]) ?_;refine W.cb (!w9.2) (fun hb=>?_) (fun hb=>?_)
 ·replace h:=qv hb h;refine W.seq ?_;refine W.rt (e2:=[(4,.nils),(5,.int .i64 8)]) ?_;refine W.weak [4,5] [] [(4,0,41,2,70004)] [] (env':=[(4,l41 (some 70004) ([]:(List apiFact))),(5,.int .i64 8)]) (by kernel_rfl) ?_;cases h;exact W.ret (show qq _ _ _=some _ by kernel_rfl)
 replace h:=qw hb h;refine W.skip ?_;refine W.wk (env':=z1 []) ?_;refine W.seq ?_;refine W.rg ?_;obtain⟨w14,hw14,h⟩:=qf h;refine WO.ck 1 (F:=58) (l:=[mpE qh AV.bool w9.1]) (C:=[]) (r:=l41 none w14) (Hd w9.1 w14 hw14) (e1:=z1 [(20,mpE qh AV.bool w9.1),(21,l41 none w14)]) ?_;refine WO.fn (e2:=[(4,l41 none w14),(5,.int .i64 0)]) ?_;refine W.wk (env':=[(4,l41 none w14),(5,.int .i64 0)]) ?_;cases h;exact W.ret (show qq _ _ _=some _ by kernel_rfl)
def XB (v6:Bool):Option Bool :=
 (some v6)
def Xs (fuel:Nat):Option Bool :=
 ((UB fuel [(ruRule.mk (qj.mk 1 [0]) [(ruLit.mk false (qj.mk 0 [0]))])] [(apiFact.mk 0 [3])]).bind fun w3=>(bif (w3.2 == 0) then ((Zl w3.1 [(apiFact.mk 0 [3]),(apiFact.mk 1 [3])]).bind fun w5=>((XB) w5)) else ((XB) false)))
theorem XU (fuel:Nat)  (r:Bool) (h:Xs fuel=some r):Run Try.prog (.call 21 [] (.bool r)):=by
 refine cW Try.func21 rfl (env0:=[]) ?_;unfold Xs at h;refine W.seq ?_;refine W.rt (e2:=[]) ?_;refine W.seq ?_;refine W.rg ?_;obtain⟨w3,hw3,h⟩:=qf h;refine WO.ck 11 (F:=17) (l:=[l54 none [(ruRule.mk (qj.mk 1 [0]) [(ruLit.mk false (qj.mk 0 [0]))])],l41 none [(apiFact.mk 0 [3])]]) (C:=[]) (r:=.tup [l41 none w3.1,I6 w3.2]) (qaT fuel [(ruRule.mk (qj.mk 1 [0]) [(ruLit.mk false (qj.mk 0 [0]))])] [(apiFact.mk 0 [3])] w3 hw3) (e1:=[(4,l3 (some 4) [0]),(5,.agg [.int .i64 1,l3 none [0]]),(6,l3 (some 6) [0]),(7,.agg [.int .i64 0,l3 none [0]]),(8,.agg [.bool false,.int .i64 0,l3 none [0]]),(9,l56 (some 9) [(ruLit.mk false (qj.mk 0 [0]))]),(10,.agg [.int .i64 1,l3 none [0],l56 none [(ruLit.mk false (qj.mk 0 [0]))]]),(11,l54 (some 11) [(ruRule.mk (qj.mk 1 [0]) [(ruLit.mk false (qj.mk 0 [0]))])]),(12,l3 (some 12) [3]),(13,.agg [.int .i64 0,l3 none [3]]),(14,l41 (some 14) [(apiFact.mk 0 [3])]),(15,.tup [l41 none w3.1,I6 w3.2])]) ?_
 let z0:=fun t=>EN ((1,l41 none w3.1)::(2,I6 w3.2)::t)
 refine WO.fn (e2:=z0 []) ?_;refine W.seq ?_;refine W.join (σ:=(Bool)) (fun s=>[(0,.bool s)]) (fun s=>(XB) s=some r) (fun v6 h=>?_) (fun hK4=>?_)
 ·have h:(XB) v6=some r:=h;unfold XB at h;refine W.wk (env':=[(0,.bool v6)]) ?_;cases h;exact W.ret (show qq _ _ _=some _ by kernel_rfl)
 refine W.rg ?_;refine WO.bk 3 (fun b=>z0 [(18,I6 w3.2),(19,.bool b),(20,.bool b)]) (w3.2 == 0) (fun hb=>?_) (fun hb=>?_)
 ·replace h:=qv hb h;obtain⟨w5,hw5,h⟩:=qf h;refine WO.ck 6 (F:=23) (l:=[l41 none w3.1,l41 none [(apiFact.mk 0 [3]),(apiFact.mk 1 [3])]]) (C:=[]) (r:=.bool w5) (UA w3.1 [(apiFact.mk 0 [3]),(apiFact.mk 1 [3])] w5 hw5) (e1:=z0 [(18,I6 w3.2),(19,.bool true),(20,.bool true),(21,l41 none w3.1),(22,l3 (some 22) [3]),(23,.agg [.int .i64 0,l3 none [3]]),(24,l3 (some 24) [3]),(25,.agg [.int .i64 1,l3 none [3]]),(26,l41 (some 26) [(apiFact.mk 0 [3]),(apiFact.mk 1 [3])]),(27,.bool w5)]) ?_;refine WO.fn (e2:=[(0,.bool w5)]) ?_;exact hK4 w5 h
 replace h:=qw hb h;refine WO.fn (e2:=[(0,.bool false)]) ?_;exact hK4 false h
end Go.AM
