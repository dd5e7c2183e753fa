/- s -/
import Derived.Test.YtdghpfejmlpjhaaAWq
import Derived.Test.YtdghpfejmlpjhaaChecked
import Derived.Test.YtdghpfejmlpjhaaAArr
set_option maxRecDepth 100000
set_option linter.unusedVariables false
set_option linter.unusedSimpArgs false
namespace Go.AM
open Go.Proofs
abbrev z252:List AV:=[.bool false,.bool false,.bool false,.bool false,.bool false,.bool false,.bool false,.bool false,.bool false,.bool false,.bool false,.bool false,.bool false,.bool false,.bool false,.bool false,.bool false,.bool false,.bool false,.bool false,.bool false,.bool false,.bool false,.bool false,.bool false,.bool false,.bool false,.bool false,.bool false,.bool false,.bool false,.bool false,.bool false,.bool false,.bool false,.bool false,.bool false,.bool false,.bool false,.bool false,.bool false,.bool false,.bool false,.bool false,.bool false,.bool false,.bool false,.bool false,.bool false,.bool false,.bool false,.bool false,.bool false,.bool false,.bool false,.bool false,.bool false,.bool false,.bool false,.bool false,.bool false,.bool false,.bool false,.bool false,.bool false,.bool false,.bool false,.bool false,.bool false,.bool false,.bool false,.bool false,.bool false,.bool false,.bool false,.bool false,.bool false,.bool false,.bool false,.bool false,.bool false,.bool false,.bool false,.bool false,.bool false,.bool false,.bool false,.bool false,.bool false,.bool false,.bool false,.bool false,.bool false,.bool false,.bool false,.bool false,.bool false,.bool false,.bool false,.bool false,.bool false,.bool false,.bool false,.bool false,.bool false,.bool false,.bool false,.bool false,.bool false,.bool false,.bool false,.bool false,.bool false,.bool false,.bool false,.bool false,.bool false,.bool false,.bool false,.bool false,.bool false,.bool false,.bool false,.bool false,.bool false,.bool false,.bool false,.bool false,.bool false,.bool false,.bool false,.bool false,.bool false,.bool false,.bool false,.bool false,.bool false,.bool false,.bool false,.bool false,.bool false,.bool false,.bool false,.bool false,.bool false,.bool false,.bool false,.bool false,.bool false,.bool false,.bool false,.bool false,.bool false,.bool false,.bool false,.bool false,.bool false,.bool false,.bool false,.bool false,.bool false,.bool false,.bool false,.bool false,.bool false,.bool false,.bool false,.bool false,.bool false,.bool false,.bool false,.bool false,.bool false,.bool false,.bool false,.bool false,.bool false,.bool false,.bool false,.bool false,.bool false,.bool false,.bool false,.bool false,.bool false,.bool false,.bool false,.bool false,.bool false,.bool false,.bool false,.bool false,.bool false,.bool false,.bool false,.bool false,.bool false,.bool false,.bool false,.bool false,.bool false,.bool false,.bool false,.bool false,.bool false,.bool false,.bool false,.bool false,.bool false,.bool false,.bool false,.bool false,.bool false,.bool false,.bool false,.bool false,.bool false,.bool false,.bool false,.bool false,.bool false,.bool false,.bool false,.bool false,.bool false,.bool false,.bool false,.bool false,.bool false,.bool false,.bool false,.bool false,.bool false,.bool false,.bool false,.bool false,.bool false,.bool false,.bool false,.bool false,.bool false,.bool false,.bool false,.bool false,.bool false,.bool false,.bool false,.bool false,.bool false,.bool false,.bool false,.bool false]
abbrev I6:Int→AV:=AV.int .i64
abbrev W6:Int→Int:=IntKind.wrap .i64
abbrev S1 (n:Nat):AV:=.sb 2000000 5 1 0 n
abbrev O1 (l:List Int):Nat×AV:=(2000000,.obj 1000000005 1 (List.map (AV.int .u8) l))
abbrev M6 (l:List Int):List AV:=List.map (AV.int .i64) l
structure apiFact where
 qb:Int
 qa:(List Int)
def l3 (c:Option Nat) (l:List Int):AV:=.lst 3 1 c (List.map (AV.int .i64) l)
def l39 (c:Option Nat) (l:List (List Int)):AV:=.lst 39 1 c (List.map (encL 3 1 (AV.int .i64)) l)
def l90 (c:Option Nat) (l:List (List Int)):AV:=.lst 90 8 c (List.map (fun l=>AV.agg (List.map (AV.int .i64) l)) l)
def qB (x:apiFact):AV:=.agg [.int .i64 x.qb,l3 none x.qa]
structure rf2Atom where
 qb:Int
 qa:(List Int)
def l41 (c:Option Nat) (l:List apiFact):AV:=.lst 41 2 c (List.map qB l)
def Hs (x:rf2Atom):AV:=.agg [.int .i64 x.qb,l3 none x.qa]
structure rf3Lit where
 qo:Bool
 qc:rf2Atom
def Jx (x:rf3Lit):AV:=.agg [.bool x.qo,.int .i64 x.qc.qb,l3 none x.qc.qa]
structure rf3Rule where
 qe:rf2Atom
 qd:(List rf3Lit)
def l96 (c:Option Nat) (l:List rf3Lit):AV:=.lst 96 3 c (List.map Jx l)
def jJ (x:rf3Rule):AV:=.agg [.int .i64 x.qe.qb,l3 none x.qe.qa,l96 none x.qd]
structure ql where
 qb:Int
 qa:(List Int)
def l94 (c:Option Nat) (l:List rf3Rule):AV:=.lst 94 3 c (List.map jJ l)
def Qu (x:ql):AV:=.agg [.int .i64 x.qb,l3 none x.qa]
structure ruLit where
 qo:Bool
 qc:ql
def Xb (x:ruLit):AV:=.agg [.bool x.qo,.int .i64 x.qc.qb,l3 none x.qc.qa]
structure ruRule where
 qe:ql
 qd:(List ruLit)
def l56 (c:Option Nat) (l:List ruLit):AV:=.lst 56 3 c (List.map Xb l)
def JM (x:ruRule):AV:=.agg [.int .i64 x.qe.qb,l3 none x.qe.qa,l56 none x.qd]
structure qi where
 f_0:Int
 f_1:Int
def l54 (c:Option Nat) (l:List ruRule):AV:=.lst 54 3 c (List.map JM l)
def Jg (x:qi):AV:=.agg [.int .i64 x.f_0,.int .i64 x.f_1]
def l112 (c:Option Nat) (l:List qi):AV:=.lst 112 2 c (List.map Jg l)
end Go.AM
