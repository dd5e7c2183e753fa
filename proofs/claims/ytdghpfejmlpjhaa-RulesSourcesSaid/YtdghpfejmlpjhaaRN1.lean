/- s -/
import Derived.Test.YtdghpfejmlpjhaaRNT
set_option maxRecDepth 100000
set_option linter.unusedVariables false
set_option linter.unusedSimpArgs false
namespace Go.AM
open Go.Proofs
def JG (fuel:Nat) (a1:(List rf3Rule)) (a4:apiFact) (v16:(List apiFact)):Option Bool :=
 ((DS v16).bind fun w18=>((Xd fuel a1 w18 (List.replicate 252 false)).bind fun w19=>((Ya a4.qb a4.qa).bind fun w20=>(chk (decide ((0:Int)≤w20∧w20<((252:Nat):Int))) ((w19[Int.toNat w20 * 1]?).bind fun e22=>(some e22))))))
def QH (N1:((List apiFact)→Option Bool)) (v15:(List apiFact)):Option Bool :=
 (N1 v15)
def jU (a3:Int) (K7:((List apiFact)→Option Bool)):List apiFact→Nat→(List apiFact)→Option Bool
 | [],k1,v9=>(K7 v9)
 | x1::r1,k1,v9=>(chk (decide (0≤(k1:Int))) (bif ((iAnd .i64 (iShr .i64 a3 (k1:Int)) 1) == 1) then (chk (capOk 32 ((v9++[x1])).length) ((QH (jU a3 K7 r1 (k1+1))) (v9++[x1]))) else ((QH (jU a3 K7 r1 (k1+1))) v9)))
def Ym (fuel:Nat) (a1:(List rf3Rule)) (a2:(List apiFact)) (a3:Int) (a4:apiFact):Option Bool :=
 (chk (lenOk a2) (jU a3 (JG fuel a1 a4) a2 0 ([]:(List apiFact))))
theorem Uc (fuel:Nat) (a1:(List rf3Rule)) (a2:(List apiFact)) (a3:Int) (a4:apiFact) (r:Bool) (h:Ym fuel a1 a2 a3 a4=some r):Run Try.prog (.call 83 [l94 none a1,l41 none a2,I6 a3,.agg [I6 a4.qb,l3 none a4.qa]] (.bool r)):=by
 refine cW Try.func83 rfl (env0:=[(0,l94 none a1),(1,l41 none a2),(2,I6 a3),(3,.agg [I6 a4.qb,l3 none a4.qa])]) ?_;unfold Ym at h;refine W.seq ?_
 let z0:=fun t=>EN ((0,l94 none a1)::t)
 let z1:=fun t=>z0 ((1,l41 none a2)::(2,I6 a3)::(7,.ptr (.agg [I6 a4.qb,l3 none a4.qa]))::t)
 refine W.regT [0,1,2,7] [7] [] [] (e2:=z1 []) (by kernel_rfl) (by kernel_rfl) (fun _ h=>h) ?_;refine W.seq ?_;refine W.rt (e2:=z1 [(9,.nils)]) ?_;refine W.seq ?_
 let z2:=fun t=>z0 ((7,.ptr (.agg [I6 a4.qb,l3 none a4.qa]))::t)
 refine W.join (σ:=((List apiFact))) (fun s=>z2 [(9,l41 (some 10900) s)]) (fun s=>(JG fuel a1 a4) s=some r) (fun v16 h=>?_) (fun hK7=>?_)
 ·have h:(JG fuel a1 a4) v16=some r:=h;unfold JG at h;refine W.seq ?_;refine W.rg ?_;obtain⟨w18,hw18,h⟩:=qe h
  let z3:=fun t=>z2 ((9,l41 (some 10900) v16)::(29,l94 none a1)::(30,l41 (some 10900) v16)::(31,.agg (List.map AV.bool w18))::t)
  refine WO.ck 2 (F:=63) (l:=[l41 none v16]) (C:=[]) (r:=.agg (List.map AV.bool w18)) (qej v16 w18 hw18) (e1:=z3 []) ?_;obtain⟨w19,hw19,h⟩:=qe h
  let z4:=fun t=>z3 ((32,.agg (List.map AV.bool (List.replicate 252 false)))::(33,.agg (List.map AV.bool w19))::t)
  refine WO.ck 1 (F:=64) (l:=[l94 none a1,.agg (List.map AV.bool w18),.agg (List.map AV.bool (List.replicate 252 false))]) (C:=[]) (r:=.agg (List.map AV.bool w19)) (Ud fuel a1 w18 (List.replicate 252 false) w19 hw19) (e1:=z4 []) ?_;obtain⟨w20,hw20,h⟩:=qe h
  let z5:=fun t=>z4 ((34,.ptr (I6 a4.qb))::(35,I6 a4.qb)::(36,.ptr (l3 none a4.qa))::(37,l3 none a4.qa)::(38,I6 w20)::t)
  refine WO.ck 4 (F:=95) (l:=[I6 a4.qb,l3 none a4.qa]) (C:=[]) (r:=I6 w20) (Vx a4.qb a4.qa w20 hw20) (e1:=z5 []) ?_;obtain⟨hc21,h⟩:=qg h;obtain⟨e22,he22,h⟩:=qe h;refine WO.pk 0 (if (0:Int)≤w20∧w20<((252:Nat):Int) then cut Try.prog 4 (List.map AV.strip (List.map AV.bool w19)) (Int.toNat w20 * 1) else none) (v:=.bool e22) (HK jV (by kernel_rfl) (of_decide_eq_true hc21) he22) (e1:=z5 [(39,.bool e22)]) ?_;refine WO.fn (e2:=[(8,.bool e22)]) ?_;refine W.wk (env':=[(8,.bool e22)]) ?_;cases h;exact W.ret (show qi _ _ _=some _ by kernel_rfl)
 refine W.seq ?_;refine W.rg ?_;refine WO.pk 1 (some (I6 ((List.map qt a2).length:Int))) (v:=I6 (a2.length:Int)) (by rw[List.length_map]) (e1:=z1 [(9,.nils),(12,l41 none a2),(13,I6 (a2.length:Int))]) ?_
 let z6:=fun t=>z0 ((2,I6 a3)::(7,.ptr (.agg [I6 a4.qb,l3 none a4.qa]))::t)
 refine WO.fn (e2:=z6 [(9,.nils),(12,l41 none a2),(13,I6 (a2.length:Int)),(14,.int .i64 0)]) ?_;refine W.block ?_;obtain⟨hl1,h⟩:=qg h;refine W.weak [0,2,7,9,12,13,14] [] [(9,0,41,2,10900)] [] (env':=z6 [(9,l41 (some 10900) ([]:(List apiFact))),(12,l41 none a2),(13,I6 (a2.length:Int)),(14,I6 ((0:Nat):Int))]) (by kernel_rfl) ?_;refine W.range (σ:=((List apiFact))) a2 (fun k1 s=>z6 [(9,l41 (some 10900) s),(12,l41 none a2),(13,I6 (a2.length:Int)),(14,I6 (k1:Int))]) (fun r0 k0 s=>jU a3 (JG fuel a1 a4) r0 k0 s=some r) (fun v9 h=>?_) (fun x1 r1 k1 s hx1 hk1 h hN1=>?_) ([]:(List apiFact)) h
 ·have h:jU a3 (JG fuel a1 a4) [] (a2).length v9=some r:=h;rw[jU.eq_1]at h;refine W.seq ?_;refine W.rg ?_
  let z7:=fun t=>z6 ((9,l41 (some 10900) v9)::(12,l41 none a2)::(13,I6 (a2.length:Int))::(14,I6 ((a2).length:Int))::(15,.bool false)::t)
  refine WO.pk 0 (some (.bool (decide (((a2).length:Int)<(a2.length:Int))))) (v:=.bool false) (by rw[qM (l:=a2)]) (e1:=z7 []) ?_;refine WO.fn (e2:=z7 []) ?_;refine W.seq ?_;refine W.cb false (fun h=>Bool.noConfusion h) (fun _=>?_);refine W.exit ?_;refine W.wk (env':=z2 [(9,l41 (some 10900) v9)]) ?_;exact hK7 v9 h
 ·obtain⟨v9,rfl⟩:∃ x,x=s:=⟨s,rfl⟩;have h:jU a3 (JG fuel a1 a4) (x1::r1) k1 v9=some r:=h;rw[jU.eq_2]at h;refine W.seq ?_;refine W.rg ?_
  let z8:=fun t=>z6 ((9,l41 (some 10900) v9)::(12,l41 none a2)::(13,I6 (a2.length:Int))::(14,I6 (k1:Int))::t)
  refine WO.pk 0 (some (.bool (decide ((k1:Int)<(a2.length:Int))))) (v:=.bool true) (by rw[qY hk1]) (e1:=z8 [(15,.bool true)]) ?_;refine WO.fn (e2:=z8 [(15,.bool true)]) ?_;refine W.seq ?_;refine W.cb true (fun _=>?_) (fun h=>Bool.noConfusion h);refine W.skip ?_;refine W.wk (env':=z8 []) ?_;refine W.seq ?_;refine W.join (σ:=((List apiFact))) (fun s=>z6 [(9,l41 (some 10900) s),(12,l41 none a2),(13,I6 (a2.length:Int)),(14,I6 (k1:Int))]) (fun s=>(QH (jU a3 (JG fuel a1 a4) r1 (k1+1))) s=some r) (fun v15 h=>?_) (fun hK10=>?_)
  ·have h:(QH (jU a3 (JG fuel a1 a4) r1 (k1+1))) v15=some r:=h;unfold QH at h;refine W.rg ?_
   let z9:=fun t=>z6 ((9,l41 (some 10900) v15)::(12,l41 none a2)::(13,I6 (a2.length:Int))::t)
   refine WO.pk 0 (some (I6 (IntKind.wrap .i64 ((k1:Int)+1)))) (v:=I6 ((k1+1:Nat):Int)) (by rw[qC hl1 hk1]) (e1:=z9 [(14,I6 (k1:Int)),(28,I6 ((k1+1:Nat):Int))]) ?_;refine WO.fn (e2:=z9 [(14,I6 ((k1+1:Nat):Int))]) ?_;exact hN1 v15 h
  refine W.block ?_;refine W.seq ?_;refine W.rg ?_;refine WO.pk 1 (if (0:Int)≤(k1:Int) then ((List.map qt a2)[Int.toNat (k1:Int)]?).map AV.ptr else none) (v:=.ptr (.agg [I6 x1.qb,l3 none x1.qa])) (qZ (f:=qt) hx1) (e1:=z8 [(16,I6 (k1:Int)),(17,.ptr (.agg [I6 x1.qb,l3 none x1.qa]))]) ?_
  let z10:=fun t=>z6 ((9,l41 (some 10900) v9)::(10,I6 (k1:Int))::(11,.ptr (.agg [I6 x1.qb,l3 none x1.qa]))::(12,l41 none a2)::(13,I6 (a2.length:Int))::(14,I6 (k1:Int))::t)
  refine WO.fin [0,2,7,9,10,11,12,13,14] [11] [] [] (e2:=z10 []) (by kernel_rfl) (fun _ h=>h) ?_;refine W.seq ?_;refine W.rg ?_;obtain⟨hc13,h⟩:=qg h;refine WO.pk 2 (if (k1:Int)<0 then none else some (I6 (iShr .i64 a3 (k1:Int)))) (v:=I6 (iShr .i64 a3 (k1:Int))) (if_neg (Xa hc13)) (e1:=z10 [(19,I6 a3),(20,I6 (k1:Int)),(21,I6 (iShr .i64 a3 (k1:Int)))]) ?_;refine WO.fn (e2:=z6 [(9,l41 (some 10900) v9),(11,.ptr (.agg [I6 x1.qb,l3 none x1.qa])),(12,l41 none a2),(13,I6 (a2.length:Int)),(14,I6 (k1:Int)),(23,.bool ((iAnd .i64 (iShr .i64 a3 (k1:Int)) 1) == 1))]) ?_;refine W.cb ((iAnd .i64 (iShr .i64 a3 (k1:Int)) 1) == 1) (fun hb=>?_) (fun hb=>?_)
  ·replace h:=qo hb h;refine W.rg ?_;obtain⟨hc14,h⟩:=qg h;refine WO.appendK 3 (d:=27) (e:=41) (s:=2) (bytes:=32) (xs:=(List.map qt v9)) (ys:=(List.map qt [x1])) (zs:=(List.map qt (v9++[x1]))) (env1:=[(0,l94 none a1),(2,I6 a3),(7,.ptr (.agg [I6 a4.qb,l3 none a4.qa])),(9,l41 none v9),(11,.ptr (.agg [I6 x1.qb,l3 none x1.qa])),(12,l41 none a2),(13,I6 (a2.length:Int)),(14,I6 (k1:Int)),(23,.bool ((iAnd .i64 (iShr .i64 a3 (k1:Int)) 1) == 1)),(24,l41 none v9),(25,.agg [I6 x1.qb,l3 none x1.qa]),(26,l41 (some 26) [x1])]) (by kernel_rfl) (List.map_append.symm) (by rw[List.length_map];exact hc14) (e1:=z6 [(9,l41 none v9),(11,.ptr (.agg [I6 x1.qb,l3 none x1.qa])),(12,l41 none a2),(13,I6 (a2.length:Int)),(14,I6 (k1:Int)),(23,.bool ((iAnd .i64 (iShr .i64 a3 (k1:Int)) 1) == 1)),(24,l41 none v9),(25,.agg [I6 x1.qb,l3 none x1.qa]),(26,l41 (some 26) [x1]),(27,l41 (some 27) (v9++[x1]))]) (by kernel_rfl) ?_;refine WO.fin [0,2,7,9,12,13,14] [] [] [(27,some 10900)] (e2:=z6 [(9,l41 (some 10900) (v9++[x1])),(12,l41 none a2),(13,I6 (a2.length:Int)),(14,I6 (k1:Int))]) (by kernel_rfl) (fun _ h=>h) ?_;exact hK10 (v9++[x1]) h
  replace h:=qp hb h;refine W.skip ?_;refine W.wk (env':=z8 []) ?_;exact hK10 v9 h
def qO (v30:(List Int)):Option (List Int) :=
 (some v30)
def jd (N1:((List Int)→Option (List Int))) (v29:(List Int)):Option (List Int) :=
 (N1 v29)
def Qn (k1:Nat) (v14:(List Int)) (K15:((List Int)→Option (List Int))) (v27:Bool):Option (List Int) :=
 (bif v27 then (chk (capOk 8 ((v14++[(k1:Int)])).length) (K15 (v14++[(k1:Int)]))) else (K15 v14))
def Jd (fuel:Nat) (a1:(List rf3Rule)) (k1:Nat) (a2:(List apiFact)) (a3:apiFact) (v14:(List Int)) (K15:((List Int)→Option (List Int))) (v24:Bool):Option (List Int) :=
 (bif v24 then ((Ym fuel a1 a2 (k1:Int) a3).bind fun w26=>((Qn k1 v14 K15) w26)) else ((Qn k1 v14 K15) false))
def QN (N2:(Bool→Option (List Int))) (v23:Bool):Option (List Int) :=
 (N2 v23)
def jF (k1:Nat) (K18:(Bool→Option (List Int))):List Int→Nat→Bool→Option (List Int)
 | [],k2,v20=>(K18 v20)
 | x2::r2,k2,v20=>(bif v20 then ((QN (jF k1 K18 r2 (k2+1))) ((iAndNot .i64 x2 (k1:Int)) != 0)) else ((QN (jF k1 K18 r2 (k2+1))) false))
def qK (fuel:Nat) (a1:(List rf3Rule)) (a2:(List apiFact)) (a3:apiFact) (K11:((List Int)→Option (List Int))):List Nat→Nat→(List Int)→Option (List Int)
 | [],k1,v14=>(K11 v14)
 | x1::r1,k1,v14=>(chk (lenOk v14) (jF k1 (Jd fuel a1 k1 a2 a3 v14 (jd (qK fuel a1 a2 a3 K11 r1 (k1+1)))) v14 0 true))
def Za (fuel:Nat) (a1:(List rf3Rule)) (a2:(List apiFact)) (a3:apiFact):Option (List Int) :=
 (chk (decide (0≤(a2.length:Int))) ((Ym fuel a1 a2 (IntKind.wrap .i64 ((iShl .i64 1 (a2.length:Int)) - 1)) a3).bind fun w9=>(bif (!w9) then (some ([]:(List Int))) else (chk (decide (0≤(a2.length:Int))) (chk (lenOk (List.range (Int.toNat (iShl .i64 1 (a2.length:Int))))) (qK fuel a1 a2 a3 (qO) (List.range (Int.toNat (iShl .i64 1 (a2.length:Int)))) 0 ([]:(List Int))))))))
theorem Dz (fuel:Nat) (a1:(List rf3Rule)) (a2:(List apiFact)) (a3:apiFact) (r:(List Int)) (h:Za fuel a1 a2 a3=some r):Run Try.prog (.call 35 [l94 none a1,l41 none a2,.agg [I6 a3.qb,l3 none a3.qa]] (l3 (some 1) r)):=by
 refine cW Try.func35 rfl (env0:=[(0,l94 none a1),(1,l41 none a2),(2,.agg [I6 a3.qb,l3 none a3.qa])]) ?_;unfold Za at h;refine W.seq ?_
 let z0:=fun t=>EN ((0,l94 none a1)::(1,l41 none a2)::(5,.ptr (.agg [I6 a3.qb,l3 none a3.qa]))::t)
 refine W.regT [0,1,5] [5] [] [] (e2:=z0 []) (by kernel_rfl) (by kernel_rfl) (fun _ h=>h) ?_;refine W.seq ?_
 let z1:=fun t=>z0 ((7,.nils)::t)
 refine W.rt (e2:=z1 []) ?_;refine W.seq ?_;refine W.seq ?_;refine W.rg ?_
 let z2:=fun t=>z1 ((12,l94 none a1)::(13,l41 none a2)::(14,l41 none a2)::(15,I6 (a2.length:Int))::t)
 refine WO.pk 3 (some (I6 ((List.map qt a2).length:Int))) (v:=I6 (a2.length:Int)) (by rw[List.length_map]) (e1:=z2 []) ?_;obtain⟨hc8,h⟩:=qg h
 let z3:=fun t=>z2 ((16,I6 (iShl .i64 1 (a2.length:Int)))::t)
 refine WO.pk 0 (if (a2.length:Int)<0 then none else some (I6 (iShl .i64 1 (a2.length:Int)))) (v:=I6 (iShl .i64 1 (a2.length:Int))) (if_neg (Xa hc8)) (e1:=z3 []) ?_;obtain⟨w9,hw9,h⟩:=qe h;refine WO.ck 2 (F:=83) (l:=[l94 none a1,l41 none a2,I6 (W6 ((iShl .i64 1 (a2.length:Int)) - 1)),.agg [I6 a3.qb,l3 none a3.qa]]) (C:=[]) (r:=.bool w9) (Uc fuel a1 a2 (W6 ((iShl .i64 1 (a2.length:Int)) - 1)) a3 w9 hw9) (e1:=z3 [(17,I6 (W6 ((iShl .i64 1 (a2.length:Int)) - 1))),(18,.agg [I6 a3.qb,l3 none a3.qa]),(19,.bool w9)]) ?_;refine WO.fn (e2:=z1 [(20,.bool (!w9))]) ?_;refine W.cb (!w9) (fun hb=>?_) (fun hb=>?_)
 ·replace h:=qo hb h;refine W.seq ?_;refine W.rt (e2:=[(6,.nils)]) ?_;refine W.weak [6] [] [(6,0,3,1,1)] [] (env':=[(6,l3 (some 1) ([]:(List Int)))]) (by kernel_rfl) ?_;cases h;exact W.ret (show qi _ _ _=some _ by kernel_rfl)
 replace h:=qp hb h;refine W.skip ?_;refine W.wk (env':=z1 []) ?_;refine W.seq ?_;refine W.join (σ:=((List Int))) (fun s=>[(7,l3 (some 10700) s)]) (fun s=>(qO) s=some r) (fun v30 h=>?_) (fun hK11=>?_)
 ·have h:(qO) v30=some r:=h;unfold qO at h;refine W.seq ?_;refine W.rt (e2:=[(6,l3 (some 10700) v30)]) ?_;refine W.weak [6] [] [] [(10700,some 1)] (env':=[(6,l3 (some 1) v30)]) (by kernel_rfl) ?_;cases h;exact W.ret (show qi _ _ _=some _ by kernel_rfl)
 refine W.seq ?_;refine W.rg ?_
 let z4:=fun t=>z1 ((21,l41 none a2)::(22,I6 (a2.length:Int))::t)
 refine WO.pk 1 (some (I6 ((List.map qt a2).length:Int))) (v:=I6 (a2.length:Int)) (by rw[List.length_map]) (e1:=z4 []) ?_;obtain⟨hc13,h⟩:=qg h;refine WO.pk 0 (if (a2.length:Int)<0 then none else some (I6 (iShl .i64 1 (a2.length:Int)))) (v:=I6 (iShl .i64 1 (a2.length:Int))) (if_neg (Xa hc13)) (e1:=z4 [(23,I6 (iShl .i64 1 (a2.length:Int)))]) ?_;refine WO.fn (e2:=z1 [(23,I6 (iShl .i64 1 (a2.length:Int))),(24,.int .i64 0)]) ?_;refine W.block ?_;obtain⟨hl1,h⟩:=qg h;refine W.weak [0,1,5,7,23,24] [] [(7,0,3,1,10700)] [] (env':=z0 [(7,l3 (some 10700) ([]:(List Int))),(23,I6 (iShl .i64 1 (a2.length:Int))),(24,I6 ((0:Nat):Int))]) (by kernel_rfl) ?_;refine W.range (σ:=((List Int))) (List.range (Int.toNat (iShl .i64 1 (a2.length:Int)))) (fun k1 s=>z0 [(7,l3 (some 10700) s),(23,I6 (iShl .i64 1 (a2.length:Int))),(24,I6 (k1:Int))]) (fun r0 k0 s=>qK fuel a1 a2 a3 (qO) r0 k0 s=some r) (fun v14 h=>?_) (fun x1 r1 k1 s hx1 hk1 h hN1=>?_) ([]:(List Int)) h
 ·have h:qK fuel a1 a2 a3 (qO) [] ((List.range (Int.toNat (iShl .i64 1 (a2.length:Int))))).length v14=some r:=h;rw[qK.eq_1]at h;refine W.seq ?_;refine W.rg ?_
  let z5:=fun t=>z0 ((7,l3 (some 10700) v14)::(23,I6 (iShl .i64 1 (a2.length:Int)))::(24,I6 (((List.range (Int.toNat (iShl .i64 1 (a2.length:Int))))).length:Int))::(25,.bool false)::t)
  refine WO.pk 0 (some (.bool (decide ((((List.range (Int.toNat (iShl .i64 1 (a2.length:Int))))).length:Int)<(iShl .i64 1 (a2.length:Int)))))) (v:=.bool false) (by rw[UF (n:=(iShl .i64 1 (a2.length:Int)))]) (e1:=z5 []) ?_;refine WO.fn (e2:=z5 []) ?_;refine W.seq ?_;refine W.cb false (fun h=>Bool.noConfusion h) (fun _=>?_);refine W.exit ?_;refine W.wk (env':=[(7,l3 (some 10700) v14)]) ?_;exact hK11 v14 h
 ·obtain⟨v14,rfl⟩:∃ x,x=s:=⟨s,rfl⟩;have h:qK fuel a1 a2 a3 (qO) (x1::r1) k1 v14=some r:=h;rw[qK.eq_2]at h;refine W.seq ?_;refine W.rg ?_
  let z6:=fun t=>z0 ((7,l3 (some 10700) v14)::t)
  let z7:=fun t=>z6 ((23,I6 (iShl .i64 1 (a2.length:Int)))::(24,I6 (k1:Int))::t)
  refine WO.pk 0 (some (.bool (decide ((k1:Int)<(iShl .i64 1 (a2.length:Int)))))) (v:=.bool true) (by rw[NQ hk1]) (e1:=z7 [(25,.bool true)]) ?_;refine WO.fn (e2:=z7 [(25,.bool true)]) ?_;refine W.seq ?_;refine W.cb true (fun _=>?_) (fun h=>Bool.noConfusion h);refine W.skip ?_;refine W.wk (env':=z7 []) ?_;refine W.seq ?_;refine W.join (σ:=((List Int))) (fun s=>z0 [(7,l3 (some 10700) s),(23,I6 (iShl .i64 1 (a2.length:Int))),(24,I6 (k1:Int))]) (fun s=>(jd (qK fuel a1 a2 a3 (qO) r1 (k1+1))) s=some r) (fun v29 h=>?_) (fun hK15=>?_)
  ·have h:(jd (qK fuel a1 a2 a3 (qO) r1 (k1+1))) v29=some r:=h;unfold jd at h;refine W.rg ?_
   let z8:=fun t=>z0 ((7,l3 (some 10700) v29)::(23,I6 (iShl .i64 1 (a2.length:Int)))::t)
   refine WO.pk 0 (some (I6 (IntKind.wrap .i64 ((k1:Int)+1)))) (v:=I6 ((k1+1:Nat):Int)) (by rw[qC hl1 hk1]) (e1:=z8 [(24,I6 (k1:Int)),(53,I6 ((k1+1:Nat):Int))]) ?_;refine WO.fn (e2:=z8 [(24,I6 ((k1+1:Nat):Int))]) ?_;exact hN1 v29 h
  refine W.block ?_;refine W.seq ?_
  let z9:=fun t=>z6 ((8,I6 (k1:Int))::t)
  let z10:=fun t=>z9 ((23,I6 (iShl .i64 1 (a2.length:Int)))::(24,I6 (k1:Int))::t)
  refine W.rt (e2:=z10 []) ?_;refine W.seq ?_
  let z11:=fun t=>z9 ((9,.bool true)::(23,I6 (iShl .i64 1 (a2.length:Int)))::(24,I6 (k1:Int))::t)
  refine W.rt (e2:=z11 []) ?_;refine W.seq ?_;refine W.join (σ:=(Bool)) (fun s=>z9 [(9,.bool s),(23,I6 (iShl .i64 1 (a2.length:Int))),(24,I6 (k1:Int))]) (fun s=>(Jd fuel a1 k1 a2 a3 v14 (jd (qK fuel a1 a2 a3 (qO) r1 (k1+1)))) s=some r) (fun v24 h=>?_) (fun hK18=>?_)
  ·have h:(Jd fuel a1 k1 a2 a3 v14 (jd (qK fuel a1 a2 a3 (qO) r1 (k1+1)))) v24=some r:=h;unfold Jd at h;refine W.seq ?_;refine W.join (σ:=(Bool)) (fun s=>z10 [(48,.bool s)]) (fun s=>(Qn k1 v14 (jd (qK fuel a1 a2 a3 (qO) r1 (k1+1)))) s=some r) (fun v27 h=>?_) (fun hK25=>?_)
   ·have h:(Qn k1 v14 (jd (qK fuel a1 a2 a3 (qO) r1 (k1+1)))) v27=some r:=h;unfold Qn at h;refine W.cb v27 (fun hb=>?_) (fun hb=>?_)
    ·replace h:=qo hb h;refine W.rg ?_;obtain⟨hc28,h⟩:=qg h;refine WO.appendK 3 (d:=52) (e:=3) (s:=1) (bytes:=8) (xs:=(M6 v14)) (ys:=(M6 [(k1:Int)])) (zs:=(M6 (v14++[(k1:Int)]))) (env1:=[(0,l94 none a1),(1,l41 none a2),(5,.ptr (.agg [I6 a3.qb,l3 none a3.qa])),(7,l3 none v14),(8,I6 (k1:Int)),(23,I6 (iShl .i64 1 (a2.length:Int))),(24,I6 (k1:Int)),(48,.bool v27),(49,l3 none v14),(50,I6 (k1:Int)),(51,l3 (some 51) [(k1:Int)])]) (by kernel_rfl) (List.map_append.symm) (by rw[List.length_map];exact hc28) (e1:=z0 [(7,l3 none v14),(8,I6 (k1:Int)),(23,I6 (iShl .i64 1 (a2.length:Int))),(24,I6 (k1:Int)),(48,.bool v27),(49,l3 none v14),(50,I6 (k1:Int)),(51,l3 (some 51) [(k1:Int)]),(52,l3 (some 52) (v14++[(k1:Int)]))]) (by kernel_rfl) ?_;refine WO.fin [0,1,5,7,23,24] [] [] [(52,some 10700)] (e2:=z0 [(7,l3 (some 10700) (v14++[(k1:Int)])),(23,I6 (iShl .i64 1 (a2.length:Int))),(24,I6 (k1:Int))]) (by kernel_rfl) (fun _ h=>h) ?_;exact hK15 (v14++[(k1:Int)]) h
    replace h:=qp hb h;refine W.skip ?_;refine W.wk (env':=z7 []) ?_;exact hK15 v14 h
   refine W.rg ?_;refine WO.bk 2 (fun b=>z9 [(9,.bool b),(23,I6 (iShl .i64 1 (a2.length:Int))),(24,I6 (k1:Int)),(41,.bool b),(42,.bool b)]) v24 (fun hb=>?_) (fun hb=>?_)
   ·replace h:=qo hb h;obtain⟨w26,hw26,h⟩:=qe h;refine WO.ck 4 (F:=83) (l:=[l94 none a1,l41 none a2,I6 (k1:Int),.agg [I6 a3.qb,l3 none a3.qa]]) (C:=[]) (r:=.bool w26) (Uc fuel a1 a2 (k1:Int) a3 w26 hw26) (e1:=z11 [(41,.bool true),(42,.bool true),(43,l94 none a1),(44,l41 none a2),(45,I6 (k1:Int)),(46,.agg [I6 a3.qb,l3 none a3.qa]),(47,.bool w26)]) ?_;refine WO.fn (e2:=z10 [(48,.bool w26)]) ?_;exact hK25 w26 h
   replace h:=qp hb h;refine WO.fn (e2:=z10 [(48,.bool false)]) ?_;exact hK25 false h
  refine W.seq ?_;refine W.rg ?_
  let z12:=fun t=>z11 ((27,l3 (some 10700) v14)::(28,I6 (v14.length:Int))::t)
  refine WO.pk 1 (some (I6 ((M6 v14).length:Int))) (v:=I6 (v14.length:Int)) (by rw[List.length_map]) (e1:=z12 []) ?_;refine WO.fn (e2:=z12 [(29,.int .i64 0)]) ?_;refine W.block ?_;obtain⟨hl2,h⟩:=qg h;refine W.wk (env':=z12 [(29,I6 ((0:Nat):Int))]) ?_;refine W.range (σ:=(Bool)) v14 (fun k2 s=>z9 [(9,.bool s),(23,I6 (iShl .i64 1 (a2.length:Int))),(24,I6 (k1:Int)),(27,l3 (some 10700) v14),(28,I6 (v14.length:Int)),(29,I6 (k2:Int))]) (fun r0 k0 s=>jF k1 (Jd fuel a1 k1 a2 a3 v14 (jd (qK fuel a1 a2 a3 (qO) r1 (k1+1)))) r0 k0 s=some r) (fun v20 h=>?_) (fun x2 r2 k2 s hx2 hk2 h hN2=>?_) true h
  ·have h:jF k1 (Jd fuel a1 k1 a2 a3 v14 (jd (qK fuel a1 a2 a3 (qO) r1 (k1+1)))) [] (v14).length v20=some r:=h;rw[jF.eq_1]at h;refine W.seq ?_;refine W.rg ?_
   let z13:=fun t=>z9 ((9,.bool v20)::(23,I6 (iShl .i64 1 (a2.length:Int)))::(24,I6 (k1:Int))::(27,l3 (some 10700) v14)::(28,I6 (v14.length:Int))::(29,I6 ((v14).length:Int))::(30,.bool false)::t)
   refine WO.pk 0 (some (.bool (decide (((v14).length:Int)<(v14.length:Int))))) (v:=.bool false) (by rw[qM (l:=v14)]) (e1:=z13 []) ?_;refine WO.fn (e2:=z13 []) ?_;refine W.seq ?_;refine W.cb false (fun h=>Bool.noConfusion h) (fun _=>?_);refine W.exit ?_;refine W.wk (env':=z9 [(9,.bool v20),(23,I6 (iShl .i64 1 (a2.length:Int))),(24,I6 (k1:Int))]) ?_;exact hK18 v20 h
  ·obtain⟨v20,rfl⟩:∃ x,x=s:=⟨s,rfl⟩;have h:jF k1 (Jd fuel a1 k1 a2 a3 v14 (jd (qK fuel a1 a2 a3 (qO) r1 (k1+1)))) (x2::r2) k2 v20=some r:=h;rw[jF.eq_2]at h;refine W.seq ?_;refine W.rg ?_
   let z14:=fun t=>z9 ((9,.bool v20)::(23,I6 (iShl .i64 1 (a2.length:Int)))::(24,I6 (k1:Int))::(27,l3 (some 10700) v14)::(28,I6 (v14.length:Int))::(29,I6 (k2:Int))::t)
   refine WO.pk 0 (some (.bool (decide ((k2:Int)<(v14.length:Int))))) (v:=.bool true) (by rw[qY hk2]) (e1:=z14 [(30,.bool true)]) ?_;refine WO.fn (e2:=z14 [(30,.bool true)]) ?_;refine W.seq ?_;refine W.cb true (fun _=>?_) (fun h=>Bool.noConfusion h);refine W.skip ?_;refine W.wk (env':=z14 []) ?_;refine W.seq ?_;refine W.join (σ:=(Bool)) (fun s=>z9 [(9,.bool s),(23,I6 (iShl .i64 1 (a2.length:Int))),(24,I6 (k1:Int)),(27,l3 (some 10700) v14),(28,I6 (v14.length:Int)),(29,I6 (k2:Int))]) (fun s=>(QN (jF k1 (Jd fuel a1 k1 a2 a3 v14 (jd (qK fuel a1 a2 a3 (qO) r1 (k1+1)))) r2 (k2+1))) s=some r) (fun v23 h=>?_) (fun hK21=>?_)
   ·have h:(QN (jF k1 (Jd fuel a1 k1 a2 a3 v14 (jd (qK fuel a1 a2 a3 (qO) r1 (k1+1)))) r2 (k2+1))) v23=some r:=h;unfold QN at h;refine W.rg ?_
    let z15:=fun t=>z9 ((9,.bool v23)::(23,I6 (iShl .i64 1 (a2.length:Int)))::(24,I6 (k1:Int))::(27,l3 (some 10700) v14)::(28,I6 (v14.length:Int))::t)
    refine WO.pk 0 (some (I6 (IntKind.wrap .i64 ((k2:Int)+1)))) (v:=I6 ((k2+1:Nat):Int)) (by rw[qC hl2 hk2]) (e1:=z15 [(29,I6 (k2:Int)),(40,I6 ((k2+1:Nat):Int))]) ?_;refine WO.fn (e2:=z15 [(29,I6 ((k2+1:Nat):Int))]) ?_;exact hN2 v23 h
   refine W.block ?_;refine W.seq ?_;refine W.rg ?_;refine WO.pk 0 (if (0:Int)≤(k2:Int) then ((M6 v14)[Int.toNat (k2:Int)]?).map AV.ptr else none) (v:=.ptr (I6 x2)) (qZ (f:=(AV.int .i64)) hx2) (e1:=z14 [(31,.ptr (I6 x2))]) ?_;refine WO.fn (e2:=z9 [(9,.bool v20),(11,I6 x2),(23,I6 (iShl .i64 1 (a2.length:Int))),(24,I6 (k1:Int)),(27,l3 (some 10700) v14),(28,I6 (v14.length:Int)),(29,I6 (k2:Int))]) ?_;refine W.rg ?_;refine WO.bk 2 (fun b=>z9 [(9,.bool b),(11,I6 x2),(23,I6 (iShl .i64 1 (a2.length:Int))),(24,I6 (k1:Int)),(27,l3 (some 10700) v14),(28,I6 (v14.length:Int)),(29,I6 (k2:Int)),(33,.bool b),(34,.bool b)]) v20 (fun hb=>?_) (fun hb=>?_)
   ·replace h:=qo hb h;refine WO.fn (e2:=z9 [(9,.bool ((iAndNot .i64 x2 (k1:Int)) != 0)),(23,I6 (iShl .i64 1 (a2.length:Int))),(24,I6 (k1:Int)),(27,l3 (some 10700) v14),(28,I6 (v14.length:Int)),(29,I6 (k2:Int))]) ?_;exact hK21 ((iAndNot .i64 x2 (k1:Int)) != 0) h
   replace h:=qp hb h;refine WO.fn (e2:=z9 [(9,.bool false),(23,I6 (iShl .i64 1 (a2.length:Int))),(24,I6 (k1:Int)),(27,l3 (some 10700) v14),(28,I6 (v14.length:Int)),(29,I6 (k2:Int))]) ?_;exact hK21 false h
end Go.AM
