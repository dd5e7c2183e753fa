/- PRINTED by gen.py: the types of the program. No statement of the seat is proved here. -/
import Derived.Test.YtmfdgonjnckdhaaAWq
import Derived.Test.YtmfdgonjnckdhaaChecked
import Derived.Test.YtmfdgonjnckdhaaShelf
import Derived.Test.YtmfdgonjnckdhaaM1
set_option maxRecDepth 100000
set_option linter.unusedVariables false
set_option linter.unusedSimpArgs false
namespace Go.AM
open Go.Proofs

def l9 (c : Option Nat) (l : List ByteArray) : AV := .lst 9 1 c (List.map AV.str l)
end Go.AM
