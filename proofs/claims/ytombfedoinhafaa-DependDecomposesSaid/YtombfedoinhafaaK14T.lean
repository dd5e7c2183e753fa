/- PRINTED by gen.py: the types of the program. No statement of the seat is proved here. -/
import Derived.Test.YtombfedoinhafaaAWq
import Derived.Test.YtombfedoinhafaaChecked
import Derived.Test.YtombfedoinhafaaDReplK
import Derived.Test.YtombfedoinhafaaGT
set_option maxRecDepth 100000
set_option linter.unusedVariables false
set_option linter.unusedSimpArgs false
namespace Go.AM
open Go.Proofs

end Go.AM
