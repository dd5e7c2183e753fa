/- s -/
import Derived.Test.YtdghpfejmlpjhaaAWq
import Derived.Test.YtdghpfejmlpjhaaChecked
import Derived.Test.YtdghpfejmlpjhaaAArr
set_option maxRecDepth 100000
set_option linter.unusedVariables false
set_option linter.unusedSimpArgs false
namespace Go.AM
open Go.Proofs
abbrev I6:Int→AV:=AV.int .i64
abbrev W6:Int→Int:=IntKind.wrap .i64
abbrev S1 (n:Nat):AV:=.sb 2000000 5 1 0 n
abbrev O1 (l:List Int):Nat×AV:=(2000000,.obj 1000000005 1 (List.map (AV.int .u8) l))
abbrev M6 (l:List Int):List AV:=List.map (AV.int .i64) l
structure apiFact where
 qb:Int
 qa:(List Int)
def l3 (c:Option Nat) (l:List Int):AV:=.lst 3 1 c (List.map (AV.int .i64) l)
def qv (x:apiFact):AV:=.agg [.int .i64 x.qb,l3 none x.qa]
structure rf2Atom where
 qb:Int
 qa:(List Int)
def l41 (c:Option Nat) (l:List apiFact):AV:=.lst 41 2 c (List.map qv l)
def e_rf2Atom (x:rf2Atom):AV:=.agg [.int .i64 x.qb,l3 none x.qa]
structure rf3Lit where
 qn:Bool
 qe:rf2Atom
def QZ (x:rf3Lit):AV:=.agg [.bool x.qn,.int .i64 x.qe.qb,l3 none x.qe.qa]
structure rf3Rule where
 qf:rf2Atom
 qd:(List rf3Lit)
def l96 (c:Option Nat) (l:List rf3Lit):AV:=.lst 96 3 c (List.map QZ l)
def QN (x:rf3Rule):AV:=.agg [.int .i64 x.qf.qb,l3 none x.qf.qa,l96 none x.qd]
structure qi where
 qb:Int
 qa:(List Int)
def l94 (c:Option Nat) (l:List rf3Rule):AV:=.lst 94 3 c (List.map QN l)
def Jy (x:qi):AV:=.agg [.int .i64 x.qb,l3 none x.qa]
structure ruLit where
 qn:Bool
 qe:qi
def Qi (x:ruLit):AV:=.agg [.bool x.qn,.int .i64 x.qe.qb,l3 none x.qe.qa]
structure ruRule where
 qf:qi
 qd:(List ruLit)
def l56 (c:Option Nat) (l:List ruLit):AV:=.lst 56 3 c (List.map Qi l)
def jZ (x:ruRule):AV:=.agg [.int .i64 x.qf.qb,l3 none x.qf.qa,l56 none x.qd]
structure jT where
 f_0:Int
 f_1:Int
def l54 (c:Option Nat) (l:List ruRule):AV:=.lst 54 3 c (List.map jZ l)
end Go.AM
