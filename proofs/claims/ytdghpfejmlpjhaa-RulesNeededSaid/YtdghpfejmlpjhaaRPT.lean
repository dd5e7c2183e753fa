/- s -/
import Derived.Test.YtdghpfejmlpjhaaAWq
import Derived.Test.YtdghpfejmlpjhaaChecked
import Derived.Test.YtdghpfejmlpjhaaANil
import Derived.Test.YtdghpfejmlpjhaaASimJ
import Derived.Test.YtdghpfejmlpjhaaRA1
import Derived.Test.YtdghpfejmlpjhaaRA2
set_option maxRecDepth 100000
set_option linter.unusedVariables false
set_option linter.unusedSimpArgs false
namespace Go.AM
open Go.Proofs
structure rufact where
 ql:Int
 f_a:Int
 f_b:Int
def l50 (c:Option Nat) (l:List qj):AV:=.lst 50 2 c (List.map JJ l)
def qh (x:rufact):AV:=.agg [.int .i64 x.ql,.int .i64 x.f_a,.int .i64 x.f_b]
def qp (x a:rufact):Bool:=(x.ql == a.ql) && ((x.f_a == a.f_a) && ((x.f_b == a.f_b) && true))
end Go.AM
