/- s -/
import Derived.Test.YtdghpfejmlpjhaaAWq
import Derived.Test.YtdghpfejmlpjhaaChecked
import Derived.Test.YtdghpfejmlpjhaaASimJ
set_option maxRecDepth 100000
set_option linter.unusedVariables false
set_option linter.unusedSimpArgs false
namespace Go.AM
open Go.Proofs
abbrev I6:Int→AV:=AV.int .i64
abbrev W6:Int→Int:=IntKind.wrap .i64
abbrev S1 (n:Nat):AV:=.sb 2000000 5 1 0 n
abbrev O1 (l:List Int):Nat×AV:=(2000000,.obj 1000000005 1 (List.map (AV.int .u8) l))
abbrev M6 (l:List Int):List AV:=List.map (AV.int .i64) l
structure apiFact where
 qb:Int
 qa:(List Int)
def l3 (c:Option Nat) (l:List Int):AV:=.lst 3 1 c (List.map (AV.int .i64) l)
def qr (x:apiFact):AV:=.agg [.int .i64 x.qb,l3 none x.qa]
structure rf2Atom where
 qb:Int
 qa:(List Int)
def l41 (c:Option Nat) (l:List apiFact):AV:=.lst 41 2 c (List.map qr l)
def NR (x:rf2Atom):AV:=.agg [.int .i64 x.qb,l3 none x.qa]
structure rf3Lit where
 qo:Bool
 qe:rf2Atom
def YL (x:rf3Lit):AV:=.agg [.bool x.qo,.int .i64 x.qe.qb,l3 none x.qe.qa]
structure rf3Rule where
 qf:rf2Atom
 qd:(List rf3Lit)
def l96 (c:Option Nat) (l:List rf3Lit):AV:=.lst 96 3 c (List.map YL l)
def Yw (x:rf3Rule):AV:=.agg [.int .i64 x.qf.qb,l3 none x.qf.qa,l96 none x.qd]
structure qj where
 qb:Int
 qa:(List Int)
def l94 (c:Option Nat) (l:List rf3Rule):AV:=.lst 94 3 c (List.map Yw l)
def JB (x:qj):AV:=.agg [.int .i64 x.qb,l3 none x.qa]
structure ruLit where
 qo:Bool
 qe:qj
def Qk (x:ruLit):AV:=.agg [.bool x.qo,.int .i64 x.qe.qb,l3 none x.qe.qa]
structure ruRule where
 qf:qj
 qd:(List ruLit)
def l56 (c:Option Nat) (l:List ruLit):AV:=.lst 56 3 c (List.map Qk l)
def Ja (x:ruRule):AV:=.agg [.int .i64 x.qf.qb,l3 none x.qf.qa,l56 none x.qd]
structure jU where
 f_0:Int
 f_1:Int
def l54 (c:Option Nat) (l:List ruRule):AV:=.lst 54 3 c (List.map Ja l)
end Go.AM
namespace Go.AM
open Go.Proofs
def Vi (v30:(List Int)):Option ((List Int)×Int) :=
 (some ((snap 0 (Int.toNat 6) v30),0))
def QU (v30:(List Int)) (K31:(Option ((List Int)×Int))):List Nat→Nat→Option ((List Int)×Int)
 | [],k4=>K31
 | x4::r4,k4=>(chk (decide ((0:Int)≤(k4:Int)∧(k4:Int)<(((Int.toNat 6):Nat):Int))) ((v30[(0+Int.toNat (k4:Int))]?).bind fun e36=>(bif (decide (e36 > 5)) then (some ((snap 0 (([]:(List Int)).length) ([]:(List Int))),8)) else (QU v30 K31 r4 (k4+1)))))
def Uj (v30:(List Int)):Option ((List Int)×Int) :=
 (chk (lenOk (List.range (Int.toNat (((Int.toNat 6):Nat):Int)))) (QU v30 (Vi v30) (List.range (Int.toNat (((Int.toNat 6):Nat):Int))) 0))
def Ui (N1:((List Int)→Option ((List Int)×Int))) (v29:(List Int)):Option ((List Int)×Int) :=
 (N1 v29)
def Vj (N2:((List Int)→Option ((List Int)×Int))) (v28:(List Int)):Option ((List Int)×Int) :=
 (N2 v28)
def Xx (x2:rf3Rule) (v14:(List Int)) (N3:((List Int)→Option ((List Int)×Int))) (v22:Int):Option ((List Int)×Int) :=
 (chk (decide ((0:Int)≤x2.qf.qb∧x2.qf.qb<(((Int.toNat 6):Nat):Int))) ((v14[(0+Int.toNat x2.qf.qb)]?).bind fun e24=>(chk (decide ((0:Int)≤x2.qf.qb∧x2.qf.qb<(((Int.toNat 6):Nat):Int))) ((upd v14 (0+Int.toNat x2.qf.qb) (if v22 > e24 then v22 else e24)).bind fun u26=>(N3 u26)))))
def JW (x2:rf3Rule) (K11:((List Int)→Option ((List Int)×Int))):List rf3Lit→Nat→(List Int)→Option ((List Int)×Int)
 | [],k3,v14=>(K11 v14)
 | x3::r3,k3,v14=>(chk (decide ((0:Int)≤x3.qe.qb∧x3.qe.qb<(((Int.toNat 6):Nat):Int))) ((v14[(0+Int.toNat x3.qe.qb)]?).bind fun e19=>(bif x3.qo then ((Xx x2 v14 (JW x2 K11 r3 (k3+1))) (IntKind.wrap .i64 (e19+1))) else ((Xx x2 v14 (JW x2 K11 r3 (k3+1))) e19))))
def QV (K8:((List Int)→Option ((List Int)×Int))):List rf3Rule→Nat→(List Int)→Option ((List Int)×Int)
 | [],k2,v10=>(K8 v10)
 | x2::r2,k2,v10=>(chk (lenOk x2.qd) (JW x2 (Vj (QV K8 r2 (k2+1))) x2.qd 0 v10))
def QW (a1:(List rf3Rule)) (K5:((List Int)→Option ((List Int)×Int))):List Nat→Nat→(List Int)→Option ((List Int)×Int)
 | [],k1,v7=>(K5 v7)
 | x1::r1,k1,v7=>(chk (lenOk a1) (QV (Ui (QW a1 K5 r1 (k1+1))) a1 0 v7))
def ZG (a1:(List rf3Rule)):Option ((List Int)×Int) :=
 (chk (mkOk 8 6) (chk (lenOk (List.range (Int.toNat 60))) (QW a1 (Uj) (List.range (Int.toNat 60)) 0 (List.replicate (Int.toNat 6) 0))))
def Zs (a1:Int) (a2:(List Int)):Option Int :=
 (bif ((a2.length:Int) == 1) then ((idx a2 0).bind fun e7=>(some (IntKind.wrap .i64 ((IntKind.wrap .i64 ((IntKind.wrap .i64 (a1 * 42))+e7)) - 1)))) else ((idx a2 0).bind fun e9=>((idx a2 1).bind fun e10=>(some (IntKind.wrap .i64 ((IntKind.wrap .i64 ((IntKind.wrap .i64 ((IntKind.wrap .i64 (a1 * 42))+(IntKind.wrap .i64 (e9 * 6))))+e10)) - 1))))))
def NH (v12:(List Bool)):Option (List Bool) :=
 (chk (decide (v12.length=252)) (chk (decide (v12.length=252∧(List.replicate 252 false).length=252)) (chk (decide (v12.length=252)) (some v12))))
def Zt (K4:((List Bool)→Option (List Bool))):List apiFact→Nat→(List Bool)→Option (List Bool)
 | [],k1,v6=>(K4 v6)
 | x1::r1,k1,v6=>((Zs x1.qb x1.qa).bind fun w9=>(chk (decide ((0:Int)≤w9∧w9<((252:Nat):Int)∧0<1)) (chk (decide ((0+Int.toNat w9 * 1)<v6.length)) ((Zt K4 r1 (k1+1)) (v6.set (0+Int.toNat w9 * 1) true)))))
def qdI (a1:(List apiFact)):Option (List Bool) :=
 (chk (lenOk a1) (Zt (NH) a1 0 (List.replicate 252 false)))
def UT (a1:Int):Option apiFact :=
 (bif (decide (((a1).tmod 42) ≥ 6)) then (some (apiFact.mk (IntKind.wrap .i64 ((a1).tdiv 42)) [(IntKind.wrap .i64 ((((a1).tmod 42)).tdiv 6)),(IntKind.wrap .i64 (((((a1).tmod 42)).tmod 6)+1))])) else (some (apiFact.mk (IntKind.wrap .i64 ((a1).tdiv 42)) [(IntKind.wrap .i64 (((a1).tmod 42)+1))])))
def Xw (v65:(List (List Int))):Option (List (List Int)) :=
 (some v65)
def jQ (N1:((List (List Int))→Option (List (List Int)))) (v64:(List (List Int))):Option (List (List Int)) :=
 (N1 v64)
def Qt (a1:rf3Rule) (a2:(List Bool)) (a3:Int) (v25:(List (List Int))) (K0:(rf3Rule→(List Bool)→Int→(List Int)→Option (List (List Int)))) (K26:((List (List Int))→Option (List (List Int)))) (v57:(List Int)) (v58:Bool):Option (List (List Int)) :=
 (bif v58 then (chk (decide (a2.length=252)) (chk (decide (v57.length=8)) ((K0 a1 a2 (IntKind.wrap .i64 (a3+1)) v57).bind fun w62=>(chk (capOk 64 ((v25++w62)).length) (K26 (v25++w62)))))) else (K26 v25))
def jO (N2:((List Int)→Bool→Option (List (List Int)))) (v55:(List Int)) (v56:Bool):Option (List (List Int)) :=
 (N2 v55 v56)
def qF (w31:apiFact) (K38:((List Int)→Bool→Option (List (List Int)))):List Int→Nat→(List Int)→Bool→Option (List (List Int))
 | [],k2,v40,v41=>(K38 v40 v41)
 | x2::r2,k2,v40,v41=>(bif (decide (x2<0)) then (bif v41 then ((idx w31.qa (k2:Int)).bind fun e45=>((jO (qF w31 K38 r2 (k2+1))) v40 (e45 == (IntKind.wrap .i64 (0 - x2))))) else ((jO (qF w31 K38 r2 (k2+1))) v40 false)) else (chk (decide ((0:Int)≤x2∧x2<((8:Nat):Int)∧0<1)) ((v40[(0+Int.toNat x2 * 1)]?).bind fun e48=>(bif (e48 != 0) then (bif v41 then ((idx w31.qa (k2:Int)).bind fun e49=>(chk (decide ((0:Int)≤x2∧x2<((8:Nat):Int)∧0<1)) ((v40[(0+Int.toNat x2 * 1)]?).bind fun e51=>((jO (qF w31 K38 r2 (k2+1))) v40 (e49 == e51))))) else ((jO (qF w31 K38 r2 (k2+1))) v40 false)) else ((idx w31.qa (k2:Int)).bind fun e52=>(chk (decide ((0:Int)≤x2∧x2<((8:Nat):Int)∧0<1)) (chk (decide ((0+Int.toNat x2 * 1)<v40.length)) ((jO (qF w31 K38 r2 (k2+1))) (v40.set (0+Int.toNat x2 * 1) e52) v41))))))))
def jP (a1:rf3Rule) (a2:(List Bool)) (a3:Int) (a4:(List Int)) (e14:rf3Lit) (v25:(List (List Int))) (w31:apiFact) (K0:(rf3Rule→(List Bool)→Int→(List Int)→Option (List (List Int)))) (K26:((List (List Int))→Option (List (List Int)))) (v34:Bool):Option (List (List Int)) :=
 (bif v34 then (K26 v25) else (chk (decide (a4.length=8)) (chk (decide (a4.length=8∧(List.replicate 8 0).length=8)) (chk (lenOk e14.qe.qa) (qF w31 (Qt a1 a2 a3 v25 K0 K26) e14.qe.qa 0 a4 true)))))
def jr (a1:rf3Rule) (a2:(List Bool)) (a3:Int) (a4:(List Int)) (e14:rf3Lit) (K0:(rf3Rule→(List Bool)→Int→(List Int)→Option (List (List Int)))) (K22:((List (List Int))→Option (List (List Int)))):List Nat→Nat→(List (List Int))→Option (List (List Int))
 | [],k1,v25=>(K22 v25)
 | x1::r1,k1,v25=>(chk (decide ((0:Int)≤(k1:Int)∧(k1:Int)<((252:Nat):Int))) ((a2[Int.toNat (k1:Int) * 1]?).bind fun e29=>((UT (k1:Int)).bind fun w31=>(bif (!e29) then ((jP a1 a2 a3 a4 e14 v25 w31 K0 (jQ (jr a1 a2 a3 a4 e14 K0 K22 r1 (k1+1)))) true) else (bif (w31.qb != e14.qe.qb) then ((jP a1 a2 a3 a4 e14 v25 w31 K0 (jQ (jr a1 a2 a3 a4 e14 K0 K22 r1 (k1+1)))) true) else ((jP a1 a2 a3 a4 e14 v25 w31 K0 (jQ (jr a1 a2 a3 a4 e14 K0 K22 r1 (k1+1)))) ((w31.qa.length:Int) != (e14.qe.qa.length:Int))))))))
def JV:Nat→rf3Rule→(List Bool)→Int→(List Int)→Option (List (List Int))
 | 0,_,_,_,_=>none
 | fuel+1,a1,a2,a3,a4=>(chk (!a2.isEmpty) (chk (!a4.isEmpty) (bif (a3 == (a1.qd.length:Int)) then (chk (decide (a4.length=8)) (chk (decide (a4.length=8)) (some [a4]))) else ((idx a1.qd a3).bind fun e14=>(bif e14.qo then (chk (decide (a2.length=252)) (chk (decide (a4.length=8)) (((JV fuel) a1 a2 (IntKind.wrap .i64 (a3+1)) a4).bind fun w20=>(some w20)))) else (chk (decide (a2.length=252)) (chk (lenOk (List.range (Int.toNat 252))) (jr a1 a2 a3 a4 e14 (JV fuel) (Xw) (List.range (Int.toNat 252)) 0 ([]:(List (List Int)))))))))))
def US (a1:rf2Atom) (v17:(List Int)):Option Int :=
 ((Zs a1.qb v17).bind fun w19=>(some w19))
def ZE (N1:((List Int)→Option Int)) (v16:(List Int)):Option Int :=
 (N1 v16)
def QK (a2:(List Int)) (K6:((List Int)→Option Int)):List Int→Nat→(List Int)→Option Int
 | [],k1,v8=>(K6 v8)
 | x1::r1,k1,v8=>(bif (decide (x1<0)) then (chk (capOk 8 ((v8++[(IntKind.wrap .i64 (0 - x1))])).length) ((ZE (QK a2 K6 r1 (k1+1))) (v8++[(IntKind.wrap .i64 (0 - x1))]))) else (chk (decide ((0:Int)≤x1∧x1<((8:Nat):Int)∧0<1)) ((a2[(0+Int.toNat x1 * 1)]?).bind fun e14=>(chk (capOk 8 ((v8++[e14])).length) ((ZE (QK a2 K6 r1 (k1+1))) (v8++[e14]))))))
def Zr (a1:rf2Atom) (a2:(List Int)):Option Int :=
 (chk (!a2.isEmpty) (chk (lenOk a1.qa) (QK a2 (US a1) a1.qa 0 ([]:(List Int)))))
end Go.AM
