/- s -/
import Derived.Test.YtdghpfejmlpjhaaRAT
set_option maxRecDepth 100000
set_option linter.unusedVariables false
set_option linter.unusedSimpArgs false
namespace Go.AM
open Go.Proofs
def rf3_Strata_j31 (v30:(List Int)):Option ((List Int)×Int) :=
 (some ((snap 0 (Int.toNat 6) v30),0))
def QS (v30:(List Int)) (K31:(Option ((List Int)×Int))):List Nat→Nat→Option ((List Int)×Int)
 | [],k4=>K31
 | x4::r4,k4=>(chk (decide ((0:Int)≤(k4:Int)∧(k4:Int)<(((Int.toNat 6):Nat):Int))) ((v30[(0+Int.toNat (k4:Int))]?).bind fun e36=>(bif (decide (e36 > 5)) then (some ((snap 0 (([]:(List Int)).length) ([]:(List Int))),8)) else (QS v30 K31 r4 (k4+1)))))
def rf3_Strata_j5 (v30:(List Int)):Option ((List Int)×Int) :=
 (chk (lenOk (List.range (Int.toNat (((Int.toNat 6):Nat):Int)))) (QS v30 (rf3_Strata_j31 v30) (List.range (Int.toNat (((Int.toNat 6):Nat):Int))) 0))
def rf3_Strata_j8 (N1:((List Int)→Option ((List Int)×Int))) (v29:(List Int)):Option ((List Int)×Int) :=
 (N1 v29)
def rf3_Strata_j11 (N2:((List Int)→Option ((List Int)×Int))) (v28:(List Int)):Option ((List Int)×Int) :=
 (N2 v28)
def Xz (x2:rf3Rule) (v14:(List Int)) (N3:((List Int)→Option ((List Int)×Int))) (v22:Int):Option ((List Int)×Int) :=
 (chk (decide ((0:Int)≤x2.qf.qb∧x2.qf.qb<(((Int.toNat 6):Nat):Int))) ((v14[(0+Int.toNat x2.qf.qb)]?).bind fun e24=>(chk (decide ((0:Int)≤x2.qf.qb∧x2.qf.qb<(((Int.toNat 6):Nat):Int))) ((upd v14 (0+Int.toNat x2.qf.qb) (if v22 > e24 then v22 else e24)).bind fun u26=>(N3 u26)))))
def JU (x2:rf3Rule) (K11:((List Int)→Option ((List Int)×Int))):List rf3Lit→Nat→(List Int)→Option ((List Int)×Int)
 | [],k3,v14=>(K11 v14)
 | x3::r3,k3,v14=>(chk (decide ((0:Int)≤x3.qe.qb∧x3.qe.qb<(((Int.toNat 6):Nat):Int))) ((v14[(0+Int.toNat x3.qe.qb)]?).bind fun e19=>(bif x3.qn then ((Xz x2 v14 (JU x2 K11 r3 (k3+1))) (IntKind.wrap .i64 (e19+1))) else ((Xz x2 v14 (JU x2 K11 r3 (k3+1))) e19))))
def QT (K8:((List Int)→Option ((List Int)×Int))):List rf3Rule→Nat→(List Int)→Option ((List Int)×Int)
 | [],k2,v10=>(K8 v10)
 | x2::r2,k2,v10=>(chk (lenOk x2.qd) (JU x2 (rf3_Strata_j11 (QT K8 r2 (k2+1))) x2.qd 0 v10))
def QU (a1:(List rf3Rule)) (K5:((List Int)→Option ((List Int)×Int))):List Nat→Nat→(List Int)→Option ((List Int)×Int)
 | [],k1,v7=>(K5 v7)
 | x1::r1,k1,v7=>(chk (lenOk a1) (QT (rf3_Strata_j8 (QU a1 K5 r1 (k1+1))) a1 0 v7))
def Yu (a1:(List rf3Rule)):Option ((List Int)×Int) :=
 (chk (mkOk 8 6) (chk (lenOk (List.range (Int.toNat 60))) (QU a1 (rf3_Strata_j5) (List.range (Int.toNat 60)) 0 (List.replicate (Int.toNat 6) 0))))
def Zi (a1:Int) (a2:(List Int)):Option Int :=
 (bif ((a2.length:Int) == 1) then ((idx a2 0).bind fun e7=>(some (IntKind.wrap .i64 ((IntKind.wrap .i64 ((IntKind.wrap .i64 (a1 * 42))+e7)) - 1)))) else ((idx a2 0).bind fun e9=>((idx a2 1).bind fun e10=>(some (IntKind.wrap .i64 ((IntKind.wrap .i64 ((IntKind.wrap .i64 ((IntKind.wrap .i64 (a1 * 42))+(IntKind.wrap .i64 (e9 * 6))))+e10)) - 1))))))
def rf3_Of_j4 (v12:(List Bool)):Option (List Bool) :=
 (chk (decide (v12.length=252)) (chk (decide (v12.length=252∧(List.replicate 252 false).length=252)) (chk (decide (v12.length=252)) (some v12))))
def Zk (K4:((List Bool)→Option (List Bool))):List apiFact→Nat→(List Bool)→Option (List Bool)
 | [],k1,v6=>(K4 v6)
 | x1::r1,k1,v6=>((Zi x1.qb x1.qa).bind fun w9=>(chk (decide ((0:Int)≤w9∧w9<((252:Nat):Int)∧0<1)) (chk (decide ((0+Int.toNat w9 * 1)<v6.length)) ((Zk K4 r1 (k1+1)) (v6.set (0+Int.toNat w9 * 1) true)))))
def rf3_Of (a1:(List apiFact)):Option (List Bool) :=
 (chk (lenOk a1) (Zk (rf3_Of_j4) a1 0 (List.replicate 252 false)))
def rf3_Fact (a1:Int):Option apiFact :=
 (bif (decide (((a1).tmod 42) ≥ 6)) then (some (apiFact.mk (IntKind.wrap .i64 ((a1).tdiv 42)) [(IntKind.wrap .i64 ((((a1).tmod 42)).tdiv 6)),(IntKind.wrap .i64 (((((a1).tmod 42)).tmod 6)+1))])) else (some (apiFact.mk (IntKind.wrap .i64 ((a1).tdiv 42)) [(IntKind.wrap .i64 (((a1).tmod 42)+1))])))
def Xy (v65:(List (List Int))):Option (List (List Int)) :=
 (some v65)
def jP (N1:((List (List Int))→Option (List (List Int)))) (v64:(List (List Int))):Option (List (List Int)) :=
 (N1 v64)
def Qs (a1:rf3Rule) (a2:(List Bool)) (a3:Int) (v25:(List (List Int))) (K0:(rf3Rule→(List Bool)→Int→(List Int)→Option (List (List Int)))) (K26:((List (List Int))→Option (List (List Int)))) (v57:(List Int)) (v58:Bool):Option (List (List Int)) :=
 (bif v58 then (chk (decide (a2.length=252)) (chk (decide (v57.length=8)) ((K0 a1 a2 (IntKind.wrap .i64 (a3+1)) v57).bind fun w62=>(chk (capOk 64 ((v25++w62)).length) (K26 (v25++w62)))))) else (K26 v25))
def jM (N2:((List Int)→Bool→Option (List (List Int)))) (v55:(List Int)) (v56:Bool):Option (List (List Int)) :=
 (N2 v55 v56)
def qG (w31:apiFact) (K38:((List Int)→Bool→Option (List (List Int)))):List Int→Nat→(List Int)→Bool→Option (List (List Int))
 | [],k2,v40,v41=>(K38 v40 v41)
 | x2::r2,k2,v40,v41=>(bif (decide (x2<0)) then (bif v41 then ((idx w31.qa (k2:Int)).bind fun e45=>((jM (qG w31 K38 r2 (k2+1))) v40 (e45 == (IntKind.wrap .i64 (0 - x2))))) else ((jM (qG w31 K38 r2 (k2+1))) v40 false)) else (chk (decide ((0:Int)≤x2∧x2<((8:Nat):Int)∧0<1)) ((v40[(0+Int.toNat x2 * 1)]?).bind fun e48=>(bif (e48 != 0) then (bif v41 then ((idx w31.qa (k2:Int)).bind fun e49=>(chk (decide ((0:Int)≤x2∧x2<((8:Nat):Int)∧0<1)) ((v40[(0+Int.toNat x2 * 1)]?).bind fun e51=>((jM (qG w31 K38 r2 (k2+1))) v40 (e49 == e51))))) else ((jM (qG w31 K38 r2 (k2+1))) v40 false)) else ((idx w31.qa (k2:Int)).bind fun e52=>(chk (decide ((0:Int)≤x2∧x2<((8:Nat):Int)∧0<1)) (chk (decide ((0+Int.toNat x2 * 1)<v40.length)) ((jM (qG w31 K38 r2 (k2+1))) (v40.set (0+Int.toNat x2 * 1) e52) v41))))))))
def jO (a1:rf3Rule) (a2:(List Bool)) (a3:Int) (a4:(List Int)) (e14:rf3Lit) (v25:(List (List Int))) (w31:apiFact) (K0:(rf3Rule→(List Bool)→Int→(List Int)→Option (List (List Int)))) (K26:((List (List Int))→Option (List (List Int)))) (v34:Bool):Option (List (List Int)) :=
 (bif v34 then (K26 v25) else (chk (decide (a4.length=8)) (chk (decide (a4.length=8∧(List.replicate 8 0).length=8)) (chk (lenOk e14.qe.qa) (qG w31 (Qs a1 a2 a3 v25 K0 K26) e14.qe.qa 0 a4 true)))))
def jq (a1:rf3Rule) (a2:(List Bool)) (a3:Int) (a4:(List Int)) (e14:rf3Lit) (K0:(rf3Rule→(List Bool)→Int→(List Int)→Option (List (List Int)))) (K22:((List (List Int))→Option (List (List Int)))):List Nat→Nat→(List (List Int))→Option (List (List Int))
 | [],k1,v25=>(K22 v25)
 | x1::r1,k1,v25=>(chk (decide ((0:Int)≤(k1:Int)∧(k1:Int)<((252:Nat):Int))) ((a2[Int.toNat (k1:Int) * 1]?).bind fun e29=>((rf3_Fact (k1:Int)).bind fun w31=>(bif (!e29) then ((jO a1 a2 a3 a4 e14 v25 w31 K0 (jP (jq a1 a2 a3 a4 e14 K0 K22 r1 (k1+1)))) true) else (bif (w31.qb != e14.qe.qb) then ((jO a1 a2 a3 a4 e14 v25 w31 K0 (jP (jq a1 a2 a3 a4 e14 K0 K22 r1 (k1+1)))) true) else ((jO a1 a2 a3 a4 e14 v25 w31 K0 (jP (jq a1 a2 a3 a4 e14 K0 K22 r1 (k1+1)))) ((w31.qa.length:Int) != (e14.qe.qa.length:Int))))))))
def JT:Nat→rf3Rule→(List Bool)→Int→(List Int)→Option (List (List Int))
 | 0,_,_,_,_=>none
 | fuel+1,a1,a2,a3,a4=>(chk (!a2.isEmpty) (chk (!a4.isEmpty) (bif (a3 == (a1.qd.length:Int)) then (chk (decide (a4.length=8)) (chk (decide (a4.length=8)) (some [a4]))) else ((idx a1.qd a3).bind fun e14=>(bif e14.qn then (chk (decide (a2.length=252)) (chk (decide (a4.length=8)) (((JT fuel) a1 a2 (IntKind.wrap .i64 (a3+1)) a4).bind fun w20=>(some w20)))) else (chk (decide (a2.length=252)) (chk (lenOk (List.range (Int.toNat 252))) (jq a1 a2 a3 a4 e14 (JT fuel) (Xy) (List.range (Int.toNat 252)) 0 ([]:(List (List Int)))))))))))
def rf3_given_j6 (a1:rf2Atom) (v17:(List Int)):Option Int :=
 ((Zi a1.qb v17).bind fun w19=>(some w19))
def Zz (N1:((List Int)→Option Int)) (v16:(List Int)):Option Int :=
 (N1 v16)
def QJ (a2:(List Int)) (K6:((List Int)→Option Int)):List Int→Nat→(List Int)→Option Int
 | [],k1,v8=>(K6 v8)
 | x1::r1,k1,v8=>(bif (decide (x1<0)) then (chk (capOk 8 ((v8++[(IntKind.wrap .i64 (0 - x1))])).length) ((Zz (QJ a2 K6 r1 (k1+1))) (v8++[(IntKind.wrap .i64 (0 - x1))]))) else (chk (decide ((0:Int)≤x1∧x1<((8:Nat):Int)∧0<1)) ((a2[(0+Int.toNat x1 * 1)]?).bind fun e14=>(chk (capOk 8 ((v8++[e14])).length) ((Zz (QJ a2 K6 r1 (k1+1))) (v8++[e14]))))))
def Zh (a1:rf2Atom) (a2:(List Int)):Option Int :=
 (chk (!a2.isEmpty) (chk (lenOk a1.qa) (QJ a2 (rf3_given_j6 a1) a1.qa 0 ([]:(List Int)))))
end Go.AM
