/- s -/
import Derived.Test.YtdghpfejmlpjhaaRMT
set_option maxRecDepth 100000
set_option linter.unusedVariables false
set_option linter.unusedSimpArgs false
namespace Go.AM
open Go.Proofs
def Yh (fuel:Nat) (a1:(List ruRule)) (a2:(List (rufact×Bool))) (a3:(List (rufact×Bool))):Option (List (rufact×Bool)):=consP fuel a1 a2 a3
theorem XX (fuel:Nat) (a1:(List ruRule)) (a2:(List (rufact×Bool))) (a3:(List (rufact×Bool))) (r:(List (rufact×Bool))) (h:Yh fuel a1 a2 a3=some r):Run Try.prog (.call 74 [l54 none a1,mpE qh AV.bool a2,mpE qh AV.bool a3] (mpE qh AV.bool r)):=.ext0 (Try.cons74 h)
def jZ (v29:(List (rufact×Bool))):Option ((List (rufact×Bool))×Bool) :=
 (some (v29,true))
def Qs (fuel:Nat) (v14:(List (rufact×Bool))) (N1:((List (rufact×Bool))→Option ((List (rufact×Bool))×Bool))) (v27:(List ruRule)):Option ((List (rufact×Bool))×Bool) :=
 ((Yh fuel v27 v14 v14).bind fun w28=>(N1 w28))
def YA (N2:((List ruRule)→Option ((List (rufact×Bool))×Bool))) (v26:(List ruRule)):Option ((List (rufact×Bool))×Bool) :=
 (N2 v26)
def Qv (k1:Nat) (w5:((List Int)×Bool)) (K18:((List ruRule)→Option ((List (rufact×Bool))×Bool))):List ruRule→Nat→(List ruRule)→Option ((List (rufact×Bool))×Bool)
 | [],k2,v20=>(K18 v20)
 | x2::r2,k2,v20=>((idx w5.1 x2.qf.qb).bind fun e24=>(bif (e24 == (k1:Int)) then (chk (capOk 56 ((v20++[x2])).length) ((YA (Qv k1 w5 K18 r2 (k2+1))) (v20++[x2]))) else ((YA (Qv k1 w5 K18 r2 (k2+1))) v20)))
def Jl (fuel:Nat) (a1:(List ruRule)) (w5:((List Int)×Bool)) (K11:((List (rufact×Bool))→Option ((List (rufact×Bool))×Bool))):List Nat→Nat→(List (rufact×Bool))→Option ((List (rufact×Bool))×Bool)
 | [],k1,v14=>(K11 v14)
 | x1::r1,k1,v14=>(chk (lenOk a1) (Qv k1 w5 (Qs fuel v14 (Jl fuel a1 w5 K11 r1 (k1+1))) a1 0 ([]:(List ruRule))))
def NK (fuel:Nat) (a1:(List ruRule)) (a2:(List apiFact)):Option ((List (rufact×Bool))×Bool) :=
 ((Hy fuel a1).bind fun w5=>(bif (!w5.2) then (some (([]:(List (rufact×Bool))),false)) else ((Zv a2).bind fun w10=>((QY fuel w5.1).bind fun w13=>(chk (lenOk (List.range (Int.toNat (IntKind.wrap .i64 (w13+1))))) (Jl fuel a1 w5 (jZ) (List.range (Int.toNat (IntKind.wrap .i64 (w13+1)))) 0 w10))))))
theorem qcg (fuel:Nat) (a1:(List ruRule)) (a2:(List apiFact)) (r:((List (rufact×Bool))×Bool)) (h:NK fuel a1 a2=some r):Run Try.prog (.call 57 [l54 none a1,l41 none a2] (.tup [mpE qh AV.bool r.1,.bool r.2])):=by
 refine cW Try.func57 rfl (env0:=[(0,l54 none a1),(1,l41 none a2)]) ?_;unfold NK at h;refine W.seq ?_
 let z0:=fun t=>EN ((0,l54 none a1)::t)
 let z1:=fun t=>z0 ((1,l41 none a2)::t)
 refine W.rt (e2:=z1 []) ?_;refine W.seq ?_;refine W.rg ?_;obtain⟨w5,hw5,h⟩:=qe h;refine WO.ck 1 (F:=85) (l:=[l54 none a1]) (C:=[]) (r:=.tup [l3 none w5.1,.bool w5.2]) (qaG fuel a1 w5 hw5) (e1:=z1 [(14,l54 none a1),(15,.tup [l3 none w5.1,.bool w5.2])]) ?_
 let z2:=fun t=>z1 ((6,l3 none w5.1)::t)
 refine WO.fn (e2:=z2 [(7,.bool w5.2)]) ?_;refine W.seq ?_;refine W.seq ?_;refine W.rt (e2:=z2 [(19,.bool (!w5.2))]) ?_;refine W.cb (!w5.2) (fun hb=>?_) (fun hb=>?_)
 ·replace h:=qo hb h;refine W.seq ?_
  let z3:=fun t=>EN ((4,mpE qh AV.bool ([]:(List (rufact×Bool))))::(5,.bool false)::t)
  refine W.rt (e2:=z3 []) ?_;refine W.wk (env':=z3 []) ?_;cases h;exact W.ret (show qi _ _ _=some _ by kernel_rfl)
 replace h:=qp hb h;refine W.skip ?_;refine W.wk (env':=z2 []) ?_;refine W.seq ?_;refine W.rg ?_;obtain⟨w10,hw10,h⟩:=qe h;refine WO.ck 1 (F:=73) (l:=[l41 none a2]) (C:=[]) (r:=mpE qh AV.bool w10) (qch a2 w10 hw10) (e1:=z2 [(20,l41 none a2),(21,mpE qh AV.bool w10)]) ?_
 let z4:=fun t=>z0 ((6,l3 none w5.1)::t)
 let z5:=fun t=>z4 ((8,mpE qh AV.bool w10)::t)
 refine WO.fn (e2:=z5 []) ?_;refine W.seq ?_;refine W.join (σ:=((List (rufact×Bool)))) (fun s=>[(8,mpE qh AV.bool s)]) (fun s=>(jZ) s=some r) (fun v29 h=>?_) (fun hK11=>?_)
 ·have h:(jZ) v29=some r:=h;unfold jZ at h;refine W.seq ?_
  let z6:=fun t=>EN ((4,mpE qh AV.bool v29)::(5,.bool true)::t)
  refine W.rt (e2:=z6 []) ?_;refine W.wk (env':=z6 []) ?_;cases h;exact W.ret (show qi _ _ _=some _ by kernel_rfl)
 refine W.seq ?_;refine W.rg ?_;obtain⟨w13,hw13,h⟩:=qe h;refine WO.ck 1 (F:=107) (l:=[l3 none w5.1]) (C:=[]) (r:=I6 w13) (Yz fuel w5.1 w13 hw13) (e1:=z5 [(22,l3 none w5.1),(23,I6 w13)]) ?_;refine WO.fn (e2:=z5 [(24,I6 (W6 (w13+1))),(25,.int .i64 0)]) ?_;refine W.block ?_;obtain⟨hl1,h⟩:=qg h;refine W.wk (env':=z5 [(24,I6 (W6 (w13+1))),(25,I6 ((0:Nat):Int))]) ?_;refine W.range (σ:=((List (rufact×Bool)))) (List.range (Int.toNat (W6 (w13+1)))) (fun k1 s=>z4 [(8,mpE qh AV.bool s),(24,I6 (W6 (w13+1))),(25,I6 (k1:Int))]) (fun r0 k0 s=>Jl fuel a1 w5 (jZ) r0 k0 s=some r) (fun v14 h=>?_) (fun x1 r1 k1 s hx1 hk1 h hN1=>?_) w10 h
 ·have h:Jl fuel a1 w5 (jZ) [] ((List.range (Int.toNat (W6 (w13+1))))).length v14=some r:=h;rw[Jl.eq_1]at h;refine W.seq ?_;refine W.rg ?_
  let z7:=fun t=>z4 ((8,mpE qh AV.bool v14)::(24,I6 (W6 (w13+1)))::(25,I6 (((List.range (Int.toNat (W6 (w13+1))))).length:Int))::(26,.bool false)::t)
  refine WO.pk 0 (some (.bool (decide ((((List.range (Int.toNat (W6 (w13+1))))).length:Int)<(W6 (w13+1)))))) (v:=.bool false) (by rw[UF (n:=(W6 (w13+1)))]) (e1:=z7 []) ?_;refine WO.fn (e2:=z7 []) ?_;refine W.seq ?_;refine W.cb false (fun h=>Bool.noConfusion h) (fun _=>?_);refine W.exit ?_;refine W.wk (env':=[(8,mpE qh AV.bool v14)]) ?_;exact hK11 v14 h
 ·obtain⟨v14,rfl⟩:∃ x,x=s:=⟨s,rfl⟩;have h:Jl fuel a1 w5 (jZ) (x1::r1) k1 v14=some r:=h;rw[Jl.eq_2]at h;refine W.seq ?_;refine W.rg ?_
  let z8:=fun t=>z4 ((8,mpE qh AV.bool v14)::t)
  let z9:=fun t=>z8 ((24,I6 (W6 (w13+1)))::(25,I6 (k1:Int))::t)
  refine WO.pk 0 (some (.bool (decide ((k1:Int)<(W6 (w13+1)))))) (v:=.bool true) (by rw[NQ hk1]) (e1:=z9 [(26,.bool true)]) ?_;refine WO.fn (e2:=z9 [(26,.bool true)]) ?_;refine W.seq ?_;refine W.cb true (fun _=>?_) (fun h=>Bool.noConfusion h);refine W.skip ?_;refine W.wk (env':=z9 []) ?_;refine W.seq ?_;refine W.block ?_;refine W.seq ?_
  let z10:=fun t=>z8 ((9,I6 (k1:Int))::t)
  refine W.rt (e2:=z10 [(24,I6 (W6 (w13+1))),(25,I6 (k1:Int))]) ?_;refine W.seq ?_
  let z11:=fun t=>z10 ((10,.nils)::(24,I6 (W6 (w13+1)))::(25,I6 (k1:Int))::t)
  refine W.rt (e2:=z11 []) ?_;refine W.seq ?_;refine W.join (σ:=((List ruRule))) (fun s=>z8 [(10,l54 (some 11000) s),(24,I6 (W6 (w13+1))),(25,I6 (k1:Int))]) (fun s=>(Qs fuel v14 (Jl fuel a1 w5 (jZ) r1 (k1+1))) s=some r) (fun v27 h=>?_) (fun hK18=>?_)
  ·have h:(Qs fuel v14 (Jl fuel a1 w5 (jZ) r1 (k1+1))) v27=some r:=h;unfold Qs at h;refine W.rg ?_;obtain⟨w28,hw28,h⟩:=qe h;refine WO.ck 3 (F:=74) (l:=[l54 none v27,mpE qh AV.bool v14,mpE qh AV.bool v14]) (C:=[]) (r:=mpE qh AV.bool w28) (XX fuel v27 v14 v14 w28 hw28) (e1:=z8 [(10,l54 (some 11000) v27),(24,I6 (W6 (w13+1))),(25,I6 (k1:Int)),(47,l54 (some 11000) v27),(48,mpE qh AV.bool v14),(49,mpE qh AV.bool v14),(50,mpE qh AV.bool w28)]) ?_
   let z12:=fun t=>z4 ((8,mpE qh AV.bool w28)::t)
   refine WO.fn (e2:=z12 [(24,I6 (W6 (w13+1))),(25,I6 (k1:Int))]) ?_;refine W.rg ?_;refine WO.pk 0 (some (I6 (IntKind.wrap .i64 ((k1:Int)+1)))) (v:=I6 ((k1+1:Nat):Int)) (by rw[qC hl1 hk1]) (e1:=z12 [(24,I6 (IntKind.wrap .i64 (w13+1))),(25,I6 (k1:Int)),(51,I6 ((k1+1:Nat):Int))]) ?_;refine WO.fn (e2:=z12 [(24,I6 (W6 (w13+1))),(25,I6 ((k1+1:Nat):Int))]) ?_;exact hN1 w28 h
  refine W.seq ?_;refine W.rg ?_
  let z13:=fun t=>z11 ((28,l54 none a1)::(29,I6 (a1.length:Int))::t)
  refine WO.pk 1 (some (I6 ((List.map Jq a1).length:Int))) (v:=I6 (a1.length:Int)) (by rw[List.length_map]) (e1:=z13 []) ?_;refine WO.fn (e2:=z13 [(30,.int .i64 0)]) ?_;refine W.block ?_;obtain⟨hl2,h⟩:=qg h;refine W.weak [0,6,8,9,10,24,25,28,29,30] [] [(10,0,54,3,11000)] [] (env':=z10 [(10,l54 (some 11000) ([]:(List ruRule))),(24,I6 (W6 (w13+1))),(25,I6 (k1:Int)),(28,l54 none a1),(29,I6 (a1.length:Int)),(30,I6 ((0:Nat):Int))]) (by kernel_rfl) ?_;refine W.range (σ:=((List ruRule))) a1 (fun k2 s=>z10 [(10,l54 (some 11000) s),(24,I6 (W6 (w13+1))),(25,I6 (k1:Int)),(28,l54 none a1),(29,I6 (a1.length:Int)),(30,I6 (k2:Int))]) (fun r0 k0 s=>Qv k1 w5 (Qs fuel v14 (Jl fuel a1 w5 (jZ) r1 (k1+1))) r0 k0 s=some r) (fun v20 h=>?_) (fun x2 r2 k2 s hx2 hk2 h hN2=>?_) ([]:(List ruRule)) h
  ·have h:Qv k1 w5 (Qs fuel v14 (Jl fuel a1 w5 (jZ) r1 (k1+1))) [] (a1).length v20=some r:=h;rw[Qv.eq_1]at h;refine W.seq ?_;refine W.rg ?_
   let z14:=fun t=>z10 ((10,l54 (some 11000) v20)::(24,I6 (W6 (w13+1)))::(25,I6 (k1:Int))::(28,l54 none a1)::(29,I6 (a1.length:Int))::(30,I6 ((a1).length:Int))::(31,.bool false)::t)
   refine WO.pk 0 (some (.bool (decide (((a1).length:Int)<(a1.length:Int))))) (v:=.bool false) (by rw[qM (l:=a1)]) (e1:=z14 []) ?_;refine WO.fn (e2:=z14 []) ?_;refine W.seq ?_;refine W.cb false (fun h=>Bool.noConfusion h) (fun _=>?_);refine W.exit ?_;refine W.wk (env':=z8 [(10,l54 (some 11000) v20),(24,I6 (W6 (w13+1))),(25,I6 (k1:Int))]) ?_;exact hK18 v20 h
  ·obtain⟨v20,rfl⟩:∃ x,x=s:=⟨s,rfl⟩;have h:Qv k1 w5 (Qs fuel v14 (Jl fuel a1 w5 (jZ) r1 (k1+1))) (x2::r2) k2 v20=some r:=h;rw[Qv.eq_2]at h;refine W.seq ?_;refine W.rg ?_
   let z15:=fun t=>z10 ((10,l54 (some 11000) v20)::(24,I6 (W6 (w13+1)))::(25,I6 (k1:Int))::(28,l54 none a1)::(29,I6 (a1.length:Int))::(30,I6 (k2:Int))::t)
   refine WO.pk 0 (some (.bool (decide ((k2:Int)<(a1.length:Int))))) (v:=.bool true) (by rw[qY hk2]) (e1:=z15 [(31,.bool true)]) ?_;refine WO.fn (e2:=z15 [(31,.bool true)]) ?_;refine W.seq ?_;refine W.cb true (fun _=>?_) (fun h=>Bool.noConfusion h);refine W.skip ?_;refine W.wk (env':=z15 []) ?_;refine W.seq ?_;refine W.join (σ:=((List ruRule))) (fun s=>z10 [(10,l54 (some 11000) s),(24,I6 (W6 (w13+1))),(25,I6 (k1:Int)),(28,l54 none a1),(29,I6 (a1.length:Int)),(30,I6 (k2:Int))]) (fun s=>(YA (Qv k1 w5 (Qs fuel v14 (Jl fuel a1 w5 (jZ) r1 (k1+1))) r2 (k2+1))) s=some r) (fun v26 h=>?_) (fun hK21=>?_)
   ·have h:(YA (Qv k1 w5 (Qs fuel v14 (Jl fuel a1 w5 (jZ) r1 (k1+1))) r2 (k2+1))) v26=some r:=h;unfold YA at h;refine W.rg ?_;refine WO.pk 0 (some (I6 (IntKind.wrap .i64 ((k2:Int)+1)))) (v:=I6 ((k2+1:Nat):Int)) (by rw[qC hl2 hk2]) (e1:=z10 [(10,l54 (some 11000) v26),(24,I6 (IntKind.wrap .i64 (w13+1))),(25,I6 (k1:Int)),(28,l54 none a1),(29,I6 (a1.length:Int)),(30,I6 (k2:Int)),(46,I6 ((k2+1:Nat):Int))]) ?_;refine WO.fn (e2:=z10 [(10,l54 (some 11000) v26),(24,I6 (W6 (w13+1))),(25,I6 (k1:Int)),(28,l54 none a1),(29,I6 (a1.length:Int)),(30,I6 ((k2+1:Nat):Int))]) ?_;exact hN2 v26 h
   refine W.block ?_;refine W.seq ?_;refine W.rg ?_;refine WO.pk 0 (if (0:Int)≤(k2:Int) then ((List.map Jq a1)[Int.toNat (k2:Int)]?).map AV.ptr else none) (v:=.ptr (.agg [I6 x2.qf.qb,l3 none x2.qf.qa,l56 none x2.qc])) (qZ (f:=Jq) hx2) (e1:=z15 [(32,.ptr (.agg [I6 x2.qf.qb,l3 none x2.qf.qa,l56 none x2.qc]))]) ?_
   let z16:=fun t=>z10 ((10,l54 (some 11000) v20)::(12,.ptr (.agg [I6 x2.qf.qb,l3 none x2.qf.qa,l56 none x2.qc]))::(24,I6 (W6 (w13+1)))::(25,I6 (k1:Int))::(28,l54 none a1)::(29,I6 (a1.length:Int))::(30,I6 (k2:Int))::t)
   refine WO.fin [0,6,8,9,10,12,24,25,28,29,30] [12] [] [] (e2:=z16 []) (by kernel_rfl) (fun _ h=>h) ?_;refine W.seq ?_;refine W.rg ?_;obtain⟨e24,he24,h⟩:=qe h;refine WO.pk 4 (if (0:Int)≤x2.qf.qb then ((M6 w5.1)[Int.toNat x2.qf.qb]?).map AV.ptr else none) (v:=.ptr (I6 e24)) (Yp (f:=(AV.int .i64)) he24) (e1:=z16 [(34,l3 none w5.1),(35,.ptr (.agg [I6 x2.qf.qb,l3 none x2.qf.qa])),(36,.ptr (I6 x2.qf.qb)),(37,I6 x2.qf.qb),(38,.ptr (I6 e24))]) ?_;refine WO.fn (e2:=z16 [(41,.bool (e24 == (k1:Int)))]) ?_;refine W.cb (e24 == (k1:Int)) (fun hb=>?_) (fun hb=>?_)
   ·replace h:=qo hb h;refine W.rg ?_;obtain⟨hc25,h⟩:=qg h;refine WO.appendK 3 (d:=45) (e:=54) (s:=3) (bytes:=56) (xs:=(List.map Jq v20)) (ys:=(List.map Jq [x2])) (zs:=(List.map Jq (v20++[x2]))) (env1:=[(0,l54 none a1),(6,l3 none w5.1),(8,mpE qh AV.bool v14),(9,I6 (k1:Int)),(10,l54 none v20),(12,.ptr (.agg [I6 x2.qf.qb,l3 none x2.qf.qa,l56 none x2.qc])),(24,I6 (W6 (w13+1))),(25,I6 (k1:Int)),(28,l54 none a1),(29,I6 (a1.length:Int)),(30,I6 (k2:Int)),(41,.bool (e24 == (k1:Int))),(42,l54 none v20),(43,.agg [I6 x2.qf.qb,l3 none x2.qf.qa,l56 none x2.qc]),(44,l54 (some 44) [x2])]) (by kernel_rfl) (List.map_append.symm) (by rw[List.length_map];exact hc25) (e1:=z10 [(10,l54 none v20),(12,.ptr (.agg [I6 x2.qf.qb,l3 none x2.qf.qa,l56 none x2.qc])),(24,I6 (W6 (w13+1))),(25,I6 (k1:Int)),(28,l54 none a1),(29,I6 (a1.length:Int)),(30,I6 (k2:Int)),(41,.bool (e24 == (k1:Int))),(42,l54 none v20),(43,.agg [I6 x2.qf.qb,l3 none x2.qf.qa,l56 none x2.qc]),(44,l54 (some 44) [x2]),(45,l54 (some 45) (v20++[x2]))]) (by kernel_rfl) ?_;refine WO.fin [0,6,8,9,10,24,25,28,29,30] [] [] [(45,some 11000)] (e2:=z10 [(10,l54 (some 11000) (v20++[x2])),(24,I6 (W6 (w13+1))),(25,I6 (k1:Int)),(28,l54 none a1),(29,I6 (a1.length:Int)),(30,I6 (k2:Int))]) (by kernel_rfl) (fun _ h=>h) ?_;exact hK21 (v20++[x2]) h
   replace h:=qp hb h;refine W.skip ?_;refine W.wk (env':=z15 []) ?_;exact hK21 v20 h
def YZ (a1:(List (rufact×Bool))):Option (List apiFact):=chk (decide (a1.length≤1000) && nodupF (a1.map Prod.fst)) (some (sortF (apis a1)))
theorem Dx (a1:(List (rufact×Bool))) (r:(List apiFact)) (h:YZ a1=some r):Run Try.prog (.call 58 [mpE qh AV.bool a1] (l41 none r)):=by
 unfold YZ at h;obtain⟨hc,h⟩:=qg h;cases h;rw[Bool.and_eq_true,decide_eq_true_eq]at hc;exact .ext0 (list58 hc.1 (Dd hc.2))
def NL (fuel:Nat) (a1:(List ruRule)) (a2:(List apiFact)):Option ((List apiFact)×Int) :=
 ((XY fuel a1 a2).bind fun w6=>(bif (!w6) then (some (([]:(List apiFact)),2)) else ((NK fuel a1 a2).bind fun w9=>(bif (!w9.2) then (some (([]:(List apiFact)),8)) else ((YZ w9.1).bind fun w14=>(some (w14,0)))))))
theorem qci (fuel:Nat) (a1:(List ruRule)) (a2:(List apiFact)) (r:((List apiFact)×Int)) (h:NL fuel a1 a2=some r):Run Try.prog (.call 17 [l54 none a1,l41 none a2] (.tup [l41 none r.1,I6 r.2])):=by
 refine cW Try.func17 rfl (env0:=[(0,l54 none a1),(1,l41 none a2)]) ?_;unfold NL at h;refine W.seq ?_
 let z0:=fun t=>EN ((0,l54 none a1)::(1,l41 none a2)::t)
 refine W.rt (e2:=z0 []) ?_;refine W.seq ?_;refine W.seq ?_;refine W.rg ?_;obtain⟨w6,hw6,h⟩:=qe h;refine WO.ck 2 (F:=56) (l:=[l54 none a1,l41 none a2]) (C:=[]) (r:=.bool w6) (NF fuel a1 a2 w6 hw6) (e1:=z0 [(8,l54 none a1),(9,l41 none a2),(10,.bool w6)]) ?_;refine WO.fn (e2:=z0 [(11,.bool (!w6))]) ?_;refine W.cb (!w6) (fun hb=>?_) (fun hb=>?_)
 ·replace h:=qo hb h;refine W.seq ?_;refine W.rt (e2:=[(4,.nils),(5,.int .i64 2)]) ?_;refine W.weak [4,5] [] [(4,0,41,2,70004)] [] (env':=[(4,l41 (some 70004) ([]:(List apiFact))),(5,.int .i64 2)]) (by kernel_rfl) ?_;cases h;exact W.ret (show qi _ _ _=some _ by kernel_rfl)
 replace h:=qp hb h;refine W.skip ?_;refine W.wk (env':=z0 []) ?_;refine W.seq ?_;refine W.rg ?_;obtain⟨w9,hw9,h⟩:=qe h;refine WO.ck 2 (F:=57) (l:=[l54 none a1,l41 none a2]) (C:=[]) (r:=.tup [mpE qh AV.bool w9.1,.bool w9.2]) (qcg fuel a1 a2 w9 hw9) (e1:=z0 [(13,l54 none a1),(14,l41 none a2),(15,.tup [mpE qh AV.bool w9.1,.bool w9.2])]) ?_
 let z1:=fun t=>EN ((6,mpE qh AV.bool w9.1)::t)
 refine WO.fn (e2:=z1 [(7,.bool w9.2)]) ?_;refine W.seq ?_;refine W.seq ?_;refine W.rt (e2:=z1 [(19,.bool (!w9.2))]) ?_;refine W.cb (!w9.2) (fun hb=>?_) (fun hb=>?_)
 ·replace h:=qo hb h;refine W.seq ?_;refine W.rt (e2:=[(4,.nils),(5,.int .i64 8)]) ?_;refine W.weak [4,5] [] [(4,0,41,2,70004)] [] (env':=[(4,l41 (some 70004) ([]:(List apiFact))),(5,.int .i64 8)]) (by kernel_rfl) ?_;cases h;exact W.ret (show qi _ _ _=some _ by kernel_rfl)
 replace h:=qp hb h;refine W.skip ?_;refine W.wk (env':=z1 []) ?_;refine W.seq ?_;refine W.rg ?_;obtain⟨w14,hw14,h⟩:=qe h;refine WO.ck 1 (F:=58) (l:=[mpE qh AV.bool w9.1]) (C:=[]) (r:=l41 none w14) (Dx w9.1 w14 hw14) (e1:=z1 [(20,mpE qh AV.bool w9.1),(21,l41 none w14)]) ?_;refine WO.fn (e2:=[(4,l41 none w14),(5,.int .i64 0)]) ?_;refine W.wk (env':=[(4,l41 none w14),(5,.int .i64 0)]) ?_;cases h;exact W.ret (show qi _ _ _=some _ by kernel_rfl)
def YD (v6:Bool):Option Bool :=
 (some v6)
def YO (fuel:Nat):Option Bool :=
 ((NL fuel [(ruRule.mk (ql.mk 1 [0]) [(ruLit.mk false (ql.mk 0 [0]))])] [(apiFact.mk 0 [3])]).bind fun w3=>(bif (w3.2 == 0) then ((Uo w3.1 [(apiFact.mk 0 [3]),(apiFact.mk 1 [3])]).bind fun w5=>((YD) w5)) else ((YD) false)))
theorem ZT (fuel:Nat)  (r:Bool) (h:YO fuel=some r):Run Try.prog (.call 21 [] (.bool r)):=by
 refine cW Try.func21 rfl (env0:=[]) ?_;unfold YO at h;refine W.seq ?_;refine W.rt (e2:=[]) ?_;refine W.seq ?_;refine W.rg ?_;obtain⟨w3,hw3,h⟩:=qe h;refine WO.ck 11 (F:=17) (l:=[l54 none [(ruRule.mk (ql.mk 1 [0]) [(ruLit.mk false (ql.mk 0 [0]))])],l41 none [(apiFact.mk 0 [3])]]) (C:=[]) (r:=.tup [l41 none w3.1,I6 w3.2]) (qci fuel [(ruRule.mk (ql.mk 1 [0]) [(ruLit.mk false (ql.mk 0 [0]))])] [(apiFact.mk 0 [3])] w3 hw3) (e1:=[(4,l3 (some 4) [0]),(5,.agg [.int .i64 1,l3 none [0]]),(6,l3 (some 6) [0]),(7,.agg [.int .i64 0,l3 none [0]]),(8,.agg [.bool false,.int .i64 0,l3 none [0]]),(9,l56 (some 9) [(ruLit.mk false (ql.mk 0 [0]))]),(10,.agg [.int .i64 1,l3 none [0],l56 none [(ruLit.mk false (ql.mk 0 [0]))]]),(11,l54 (some 11) [(ruRule.mk (ql.mk 1 [0]) [(ruLit.mk false (ql.mk 0 [0]))])]),(12,l3 (some 12) [3]),(13,.agg [.int .i64 0,l3 none [3]]),(14,l41 (some 14) [(apiFact.mk 0 [3])]),(15,.tup [l41 none w3.1,I6 w3.2])]) ?_
 let z0:=fun t=>EN ((1,l41 none w3.1)::(2,I6 w3.2)::t)
 refine WO.fn (e2:=z0 []) ?_;refine W.seq ?_;refine W.join (σ:=(Bool)) (fun s=>[(0,.bool s)]) (fun s=>(YD) s=some r) (fun v6 h=>?_) (fun hK4=>?_)
 ·have h:(YD) v6=some r:=h;unfold YD at h;refine W.wk (env':=[(0,.bool v6)]) ?_;cases h;exact W.ret (show qi _ _ _=some _ by kernel_rfl)
 refine W.rg ?_;refine WO.bk 3 (fun b=>z0 [(18,I6 w3.2),(19,.bool b),(20,.bool b)]) (w3.2 == 0) (fun hb=>?_) (fun hb=>?_)
 ·replace h:=qo hb h;obtain⟨w5,hw5,h⟩:=qe h;refine WO.ck 6 (F:=23) (l:=[l41 none w3.1,l41 none [(apiFact.mk 0 [3]),(apiFact.mk 1 [3])]]) (C:=[]) (r:=.bool w5) (qcn w3.1 [(apiFact.mk 0 [3]),(apiFact.mk 1 [3])] w5 hw5) (e1:=z0 [(18,I6 w3.2),(19,.bool true),(20,.bool true),(21,l41 none w3.1),(22,l3 (some 22) [3]),(23,.agg [.int .i64 0,l3 none [3]]),(24,l3 (some 24) [3]),(25,.agg [.int .i64 1,l3 none [3]]),(26,l41 (some 26) [(apiFact.mk 0 [3]),(apiFact.mk 1 [3])]),(27,.bool w5)]) ?_;refine WO.fn (e2:=[(0,.bool w5)]) ?_;exact hK4 w5 h
 replace h:=qp hb h;refine WO.fn (e2:=[(0,.bool false)]) ?_;exact hK4 false h
end Go.AM
namespace Go.AM
open Go.Proofs
theorem jk {α:Type} {l:List α} (h:l.length≤9223372036854775807):lenOk l=true:=Nat.ble_eq_true_of_le (by omega)
theorem QW {b n:Nat} (hb:b≤64) (h:n≤1000000000):capOk b n=true:=by
 simp only[capOk,Bool.and_eq_true,Nat.ble_eq];refine⟨?_,by omega⟩;exact Nat.le_trans (Nat.mul_le_mul h hb) (by omega)
theorem VP {α:Type} {b:Bool} {o:Option α} (h:b=true):chk b o=o:=by rw[h];rfl
theorem wrap64 {n:Int} (h1 : -9223372036854775808≤n) (h2:n≤9223372036854775807):IntKind.wrap .i64 n=n:=by
 simp[IntKind.wrap,IntKind.signed,IntKind.bits]
 omega
def cvA (a:rf2Atom):ql:=⟨a.qb,a.qa.take 5⟩
def cvL (x:rf3Lit):ruLit:=⟨x.qr,cvA x.qd⟩
def cvR (r:rf3Rule):ruRule:=⟨cvA r.qf,(r.qc.take 5).map cvL⟩
def cvF (f:apiFact):apiFact:=⟨f.qb,f.qa.take 9⟩
theorem DK {l:List Int} (n:Nat):sub l 0 (if (n:Int)<(l.length:Int) then (n:Int) else (l.length:Int))=some (l.take n):=by
 unfold sub
 split
 ·rw[if_pos ⟨by omega,by omega,by omega⟩]
  simp
 ·rw[if_pos ⟨by omega,by omega,by omega⟩]
  simp[List.take_of_length_le (show l.length≤n by omega)]
theorem HU {l:List Int} (h:l.length≤1000):Qr l=some l:=by
 unfold Qr;rw[VP (QW (by omega) (by omega))]
theorem qdO (a:rf2Atom):Vo a=some (cvA a):=by
 unfold Vo;have:=DK (l:=a.qa) 5;rw[show ((5:Nat):Int)=5 from rfl]at this;rw[this];show (Qr (a.qa.take 5)).bind _=_;rw[HU (by simp;omega)];rfl
theorem qhL (l:List Int):NP l=some (l.take 9):=by
 unfold NP;have:=DK (l:=l) 9;rw[show ((9:Nat):Int)=9 from rfl]at this;rw[this];show (Qr (l.take 9)).bind _=_;rw[HU (by simp;omega)];rfl
theorem qgO (K:ruRule→Option (List ruRule)):∀ (body:List rf3Lit) (k:Nat) (rel:Int) (args:List Int) (acc:List ruLit),acc.length≤k→acc.length≤5→QE K body k rel args acc=K ⟨⟨rel,args⟩,acc++(body.take (5 - k)).map cvL⟩
 | [],k,rel,args,acc,_,_=>by simp[QE]
 | x::r,k,rel,args,acc,h1,h2=>by
  rw[QE]
  by_cases hk:k<5
  ·rw[decide_eq_true (by omega:(k:Int)<5),cond_true,qdO];show chk _ _=_;rw[VP (QW (by omega) (by simp;omega))];unfold Yn;rw[qgO K r (k+1) rel args _ (by simp;omega) (by simp;omega)];obtain⟨m,hm⟩:∃ m,5 - k=m+1:=⟨5 - k - 1,by omega⟩;rw[hm,show 5 - (k+1)=m by omega,List.take_succ_cons,List.map_cons,List.append_assoc];rfl
  ·rw[decide_eq_false (by omega:¬ (k:Int)<5),cond_false];unfold Yn;rw[qgO K r (k+1) rel args acc (by omega) h2,show 5 - (k+1)=0 by omega,show 5 - k=0 by omega]
   simp
theorem qhR (K:List ruRule→Option (List ruRule)):∀ (l:List rf3Rule) (k:Nat) (acc:List ruRule),(∀ r,r∈l→lenOk r.qc=true)→acc.length≤k→acc.length≤12→JC K l k acc=K (acc++(l.take (12 - k)).map cvR)
 | [],k,acc,_,_,_=>by simp[JC]
 | x::r,k,acc,hb,h1,h2=>by
  rw[JC]
  by_cases hk:k > 11
  ·rw[decide_eq_true (by omega:(k:Int) > 11),cond_true,show 12 - k=0 by omega]
   simp
  ·rw[decide_eq_false (by omega:¬ (k:Int) > 11),cond_false,qdO];show chk (lenOk x.qc) _=_;rw[VP (hb x (List.mem_cons_self ..)),qgO _ _ _ _ _ _ (by simp) (by simp)];show chk _ _=_;rw[VP (QW (by omega) (by simp;omega)),qhR K r (k+1) _ (fun q hq=>hb q (List.mem_cons_of_mem _ hq)) (by simp;omega) (by simp;omega)];obtain⟨m,hm⟩:∃ m,12 - k=m+1:=⟨12 - k - 1,by omega⟩;rw[hm,show 12 - (k+1)=m by omega,List.take_succ_cons,List.map_cons,List.append_assoc];rfl
theorem qhT {l:List rf3Rule} (hl:lenOk l=true) (hb:∀ r,r∈l→lenOk r.qc=true):DY l=some ((l.take 12).map cvR):=by
 unfold DY;rw[VP hl,qhR _ _ _ _ hb (by simp) (by simp)];rfl
theorem qdA (K:List apiFact→Option (List apiFact)):∀ (l:List apiFact) (k:Nat) (acc:List apiFact),acc.length≤k→acc.length≤26→Qg K l k acc=K (acc++(l.take (26 - k)).map cvF)
 | [],k,acc,_,_=>by simp[Qg]
 | x::r,k,acc,h1,h2=>by
  rw[Qg]
  by_cases hk:k > 25
  ·rw[decide_eq_true (by omega:(k:Int) > 25),cond_true,show 26 - k=0 by omega]
   simp
  ·rw[decide_eq_false (by omega:¬ (k:Int) > 25),cond_false,qhL];show chk _ _=_;rw[VP (QW (by omega) (by simp;omega)),qdA K r (k+1) _ (by simp;omega) (by simp;omega)];obtain⟨m,hm⟩:∃ m,26 - k=m+1:=⟨26 - k - 1,by omega⟩;rw[hm,show 26 - (k+1)=m by omega,List.take_succ_cons,List.map_cons,List.append_assoc];rfl
theorem qgh {l:List apiFact} (hl:lenOk l=true):Vp l=some ((l.take 26).map cvF):=by
 unfold Vp;rw[VP hl,qdA _ _ _ _ (by simp) (by simp)];rfl
def groundP (f:apiFact):Prop:=(0≤f.qb∧f.qb≤5)∧(1≤f.qa.length∧f.qa.length≤2)∧∀ x,x∈f.qa→1≤x∧x≤6
def fitP (rel:Int) (args:List Int):Prop:=(0≤rel∧rel≤5)∧(1≤args.length∧args.length≤2)∧∀ x,x∈args → -6≤x∧x≤7
instance (f:apiFact):Decidable (groundP f):=by unfold groundP;infer_instance
instance (rel:Int) (args:List Int):Decidable (fitP rel args):=by unfold fitP;infer_instance
theorem qbx (K:Option Bool):∀ (args:List Int) (k:Nat),jT K args k=if ∀ x,x∈args→1≤x∧x≤6 then K else some false
 | [],k=>by simp[jT]
 | x::r,k=>by
  rw[jT];unfold XA;rw[qbx K r (k+1)]
  by_cases h1:x<1
  ·rw[decide_eq_true h1,cond_true,cond_true,if_neg (fun h=>by have:=h x (List.mem_cons_self ..);omega)]
  ·rw[decide_eq_false h1,cond_false]
   by_cases h2:x > 6
   ·rw[decide_eq_true h2,cond_true,if_neg (fun h=>by have:=h x (List.mem_cons_self ..);omega)]
   ·rw[decide_eq_false h2,cond_false]
    have:(∀ y,y∈x::r→1≤y∧y≤6)↔∀ y,y∈r→1≤y∧y≤6:=by
     simp only[List.mem_cons,forall_eq_or_imp];exact⟨fun h=>h.2,fun h=>⟨by omega,h⟩⟩
    simp only[this]
theorem VH {f:apiFact} (hl:lenOk f.qa=true):YN f=some (decide (groundP f)):=by
 unfold YN;rw[VP hl,qbx];unfold JF Qj
 by_cases h:∀ x,x∈f.qa→1≤x∧x≤6
 ·rw[if_pos h]
  by_cases h1:f.qb ≥ 0
  ·rw[decide_eq_true h1,cond_true]
   by_cases h2:f.qb≤5
   ·rw[decide_eq_true h2,cond_true]
    by_cases h3:(f.qa.length:Int) ≥ 1
    ·rw[decide_eq_true h3,cond_true]
     congr 1
     rw[decide_eq_decide];unfold groundP
     constructor
     ·intro h4;exact⟨⟨h1,h2⟩,⟨by omega,by omega⟩,h⟩
     ·intro h4;have:=h4.2.1.2;omega
    ·rw[decide_eq_false h3,cond_false,decide_eq_false (fun h4:groundP f=>by have:=h4.2.1.1;omega)]
   ·rw[decide_eq_false h2,cond_false,decide_eq_false (fun h4:groundP f=>h2 h4.1.2)]
  ·rw[decide_eq_false h1,cond_false,decide_eq_false (fun h4:groundP f=>h1 h4.1.1)]
 ·rw[if_neg h,decide_eq_false (fun h4:groundP f=>h h4.2.2)]
theorem qfq (K:Option Bool):∀ (args:List Int) (k:Nat),Jw K args k=if ∀ x,x∈args → -6≤x∧x≤7 then K else some false
 | [],k=>by simp[Jw]
 | x::r,k=>by
  rw[Jw];unfold Yu;rw[qfq K r (k+1)]
  by_cases h1:x < -6
  ·rw[decide_eq_true h1,cond_true,cond_true,if_neg (fun h=>by have:=h x (List.mem_cons_self ..);omega)]
  ·rw[decide_eq_false h1,cond_false]
   by_cases h2:x > 7
   ·rw[decide_eq_true h2,cond_true,if_neg (fun h=>by have:=h x (List.mem_cons_self ..);omega)]
   ·rw[decide_eq_false h2,cond_false]
    have:(∀ y,y∈x::r → -6≤y∧y≤7)↔∀ y,y∈r → -6≤y∧y≤7:=by
     simp only[List.mem_cons,forall_eq_or_imp];exact⟨fun h=>h.2,fun h=>⟨by omega,h⟩⟩
    simp only[this]
theorem qdw {a:rf2Atom} (hl:lenOk a.qa=true):Vk a=some (decide (fitP a.qb a.qa)):=by
 unfold Vk;rw[VP hl,qfq];unfold Qz QR
 by_cases h:∀ x,x∈a.qa → -6≤x∧x≤7
 ·rw[if_pos h]
  by_cases h1:a.qb ≥ 0
  ·rw[decide_eq_true h1,cond_true]
   by_cases h2:a.qb≤5
   ·rw[decide_eq_true h2,cond_true]
    by_cases h3:(a.qa.length:Int) ≥ 1
    ·rw[decide_eq_true h3,cond_true]
     congr 1
     rw[decide_eq_decide];unfold fitP
     constructor
     ·intro h4;exact⟨⟨h1,h2⟩,⟨by omega,by omega⟩,h⟩
     ·intro h4;have:=h4.2.1.2;omega
    ·rw[decide_eq_false h3,cond_false,decide_eq_false (fun h4:fitP _ _=>by have:=h4.2.1.1;omega)]
   ·rw[decide_eq_false h2,cond_false,decide_eq_false (fun h4:fitP _ _=>h2 h4.1.2)]
  ·rw[decide_eq_false h1,cond_false,decide_eq_false (fun h4:fitP _ _=>h1 h4.1.1)]
 ·rw[if_neg h,decide_eq_false (fun h4:fitP _ _=>h h4.2.2)]
theorem DF {a b:Nat} (ha:a<256) (hb:b<256):iOr .i64 (a:Int) (b:Int)=((a ||| b:Nat):Int):=by
 have h:a ||| b<256:=Nat.or_lt_two_pow (n:=8) ha hb
 unfold iOr
 have e:(BitVec.ofInt IntKind.i64.bits (a:Int) ||| BitVec.ofInt IntKind.i64.bits (b:Int)).toNat=a ||| b:=by
  rw[BitVec.toNat_or]
  have e1:∀ n:Nat,n<256→(BitVec.ofInt IntKind.i64.bits (n:Int)).toNat=n:=fun n hn=>by
   rw[BitVec.ofInt_natCast,BitVec.toNat_ofNat];exact Nat.mod_eq_of_lt (by show n<2 ^ 64;omega)
  rw[e1 a ha,e1 b hb]
 rw[e,wrap64 (by omega) (by omega)]
theorem qgX {x:Int} (h0:0≤x) (h1:x≤7):iShl .i64 1 x=((2 ^ x.toNat:Nat):Int)∧2 ^ x.toNat<256:=by
 obtain⟨n,rfl⟩:=Int.eq_ofNat_of_zero_le h0
 have hn:n≤7:=by omega
 match n,hn with
 | 0,_ | 1,_ | 2,_ | 3,_ | 4,_ | 5,_ | 6,_ | 7,_=>decide
theorem qbV (K:Int→Option Int):∀ (args:List Int) (k m:Nat),m<256→(∀ x,x∈args→x≤7)→∃ m':Nat,m'<256∧Jy K args k (m:Int)=K (m':Int)∧∀ i,i<8→(m'.testBit i=true↔m.testBit i=true∨(i:Int)∈args)
 | [],k,m,hm,_=>⟨m,hm,by rw[Jy],fun i _=>by simp⟩
 | x::r,k,m,hm,hx=>by
  have hx0:=hx x (List.mem_cons_self ..)
  have hr:∀ y,y∈r→y≤7:=fun y hy=>hx y (List.mem_cons_of_mem _ hy)
  rw[Jy];unfold Yv
  by_cases h0:x ≥ 0
  ·rw[decide_eq_true h0,cond_true,VP rfl];obtain⟨e1,e2⟩:=qgX h0 hx0;rw[e1,DF hm e2];obtain⟨m',q1,q2,q3⟩:=qbV K r (k+1) _ (Nat.or_lt_two_pow (n:=8) hm e2) hr;refine⟨m',q1,q2,fun i hi=>?_⟩;rw[q3 i hi,Nat.testBit_or,Bool.or_eq_true,Nat.testBit_two_pow,decide_eq_true_eq,List.mem_cons]
   have:x.toNat=i↔(i:Int)=x:=by omega
   rw[this]
   constructor
   ·rintro ((h | h) | h)
    ·exact .inl h
    ·exact .inr (.inl h)
    ·exact .inr (.inr h)
   ·rintro (h | h | h)
    ·exact .inl (.inl h)
    ·exact .inl (.inr h)
    ·exact .inr h
  ·rw[decide_eq_false h0,cond_false];obtain⟨m',q1,q2,q3⟩:=qbV K r (k+1) m hm hr;refine⟨m',q1,q2,fun i hi=>?_⟩;rw[q3 i hi,List.mem_cons]
   have:¬ (i:Int)=x:=by omega
   simp[this]
theorem qcK {a:rf2Atom} (hl:lenOk a.qa=true) (hx:∀ x,x∈a.qa→x≤7):∃ m:Nat,m<256∧Zw a=some (m:Int)∧∀ i,i<8→(m.testBit i=true↔(i:Int)∈a.qa):=by
 unfold Zw;rw[VP hl];obtain⟨m,h1,h2,h3⟩:=qbV QA a.qa 0 0 (by omega) hx;exact⟨m,h1,h2,fun i hi=>by rw[h3 i hi];simp⟩
theorem qgR {a b:Nat} (ha:a<256) (hb:b<256) (h:∀ i,i<8→(a.testBit i=true↔b.testBit i=true)):a=b:=by
 refine Nat.eq_of_testBit_eq fun i=>?_
 by_cases hi:i<8
 ·rw[Bool.eq_iff_iff];exact h i hi
 ·have h8:256≤2 ^ i:=by
   calc 256=2 ^ 8:=by decide
    _≤2 ^ i:=Nat.pow_le_pow_right (by omega) (by omega)
  rw[Nat.testBit_lt_two_pow (by omega),Nat.testBit_lt_two_pow (by omega)]
end Go.AM
