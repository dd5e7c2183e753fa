/- PRINTED by gen.py: the types of the program. No statement of the seat is proved here. -/
import Derived.Test.YtoiejpkfpjingaaAWq
import Derived.Test.YtoiejpkfpjingaaChecked
import Derived.Test.YtoiejpkfpjingaaAMap
set_option maxRecDepth 100000
set_option linter.unusedVariables false
set_option linter.unusedSimpArgs false
namespace Go.AM
open Go.Proofs

structure hsOp where
  f_Txn : Int
  f_Kind : Int
  f_Item : Int
def e_hsOp (x : hsOp) : AV := .agg [.int .i64 x.f_Txn, .int .i64 x.f_Kind, .int .i64 x.f_Item]

structure rf5Op where
  f_Txn : Int
  f_Kind : Int
  f_Item : Int
def l44 (c : Option Nat) (l : List hsOp) : AV := .lst 44 3 c (List.map e_hsOp l)
def e_rf5Op (x : rf5Op) : AV := .agg [.int .i64 x.f_Txn, .int .i64 x.f_Kind, .int .i64 x.f_Item]

def l43 (c : Option Nat) (l : List rf5Op) : AV := .lst 43 3 c (List.map e_rf5Op l)
end Go.AM
