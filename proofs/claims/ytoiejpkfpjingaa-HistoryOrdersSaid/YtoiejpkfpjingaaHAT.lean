/- PRINTED by gen.py: the types of the program. No statement of the seat is proved here. -/
import Derived.Test.YtoiejpkfpjingaaAWq
import Derived.Test.YtoiejpkfpjingaaChecked
import Derived.Test.YtoiejpkfpjingaaAMap
import Derived.Test.YtoiejpkfpjingaaCDel
import Derived.Test.YtoiejpkfpjingaaCComm
set_option maxRecDepth 100000
set_option linter.unusedVariables false
set_option linter.unusedSimpArgs false
namespace Go.AM
open Go.Proofs

structure arr2_Int where
  f_0 : Int
  f_1 : Int
def l3 (c : Option Nat) (l : List Int) : AV := .lst 3 1 c (List.map (AV.int .i64) l)
def e_arr2_Int (x : arr2_Int) : AV := .agg [.int .i64 x.f_0, .int .i64 x.f_1]
def keq_arr2_Int (x a : arr2_Int) : Bool := (x.f_0 == a.f_0) && ((x.f_1 == a.f_1) && true)

end Go.AM
