/- PRINTED by gen.py: the types of the program. No statement of the seat is proved here. -/
import Derived.Test.YtmfdgonjnckdhaaAWq
import Derived.Test.YtmfdgonjnckdhaaChecked
import Derived.Test.YtmfdgonjnckdhaaShelf
import Derived.Test.YtmfdgonjnckdhaaCSort
import Derived.Test.YtmfdgonjnckdhaaQ2
set_option maxRecDepth 100000
set_option linter.unusedVariables false
set_option linter.unusedSimpArgs false
namespace Go.AM
open Go.Proofs

end Go.AM
