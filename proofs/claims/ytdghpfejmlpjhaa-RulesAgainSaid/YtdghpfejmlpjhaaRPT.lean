/- s -/
import Derived.Test.YtdghpfejmlpjhaaASimN
import Derived.Test.YtdghpfejmlpjhaaAWq
import Derived.Test.YtdghpfejmlpjhaaChecked
import Derived.Test.YtdghpfejmlpjhaaAAny
import Derived.Test.YtdghpfejmlpjhaaAArr
import Derived.Test.YtdghpfejmlpjhaaRKey
import Derived.Test.YtdghpfejmlpjhaaRA2
set_option linter.unusedVariables false
set_option maxRecDepth 100000
set_option linter.unusedSimpArgs false
namespace Go.AM
end Go.AM
namespace Go.AM
open Go.Proofs
structure rufact where
 qj:Int
 f_a:Int
 f_b:Int
def l50 (c:Option Nat) (l:List qi):AV:=.lst 50 2 c (List.map Jy l)
def qg (x:rufact):AV:=.agg [.int .i64 x.qj,.int .i64 x.f_a,.int .i64 x.f_b]
def qo (x a:rufact):Bool:=(x.qj == a.qj) && ((x.f_a == a.f_a) && ((x.f_b == a.f_b) && true))
end Go.AM
