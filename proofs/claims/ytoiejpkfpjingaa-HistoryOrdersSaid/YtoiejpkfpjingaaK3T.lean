/- PRINTED by gen.py: the types of the program. No statement of the seat is proved here. -/
import Derived.Test.YtoiejpkfpjingaaAWq
import Derived.Test.YtoiejpkfpjingaaChecked
import Derived.Test.YtoiejpkfpjingaaAArr
import Derived.Test.YtoiejpkfpjingaaAMap
import Derived.Test.YtoiejpkfpjingaaCDel
import Derived.Test.YtoiejpkfpjingaaECyc4
import Derived.Test.YtoiejpkfpjingaaHA1
set_option maxRecDepth 100000
set_option linter.unusedVariables false
set_option linter.unusedSimpArgs false
namespace Go.AM
open Go.Proofs

def l24 (c : Option Nat) (l : List (List Int)) : AV := .lst 24 1 c (List.map (encL 3 1 (AV.int .i64)) l)
end Go.AM
