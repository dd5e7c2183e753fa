/- s -/
import Derived.Test.YtmfdgonjnckdhaaDoorAWq
import Derived.Test.YtmfdgonjnckdhaaDoorChecked
import Derived.Test.YtmfdgonjnckdhaaDoorShelf
import Derived.Test.YtmfdgonjnckdhaaDoorCSufx
import Derived.Test.YtmfdgonjnckdhaaDoorCTrans
import Derived.Test.YtmfdgonjnckdhaaDoorDTr
import Derived.Test.YtmfdgonjnckdhaaDoorDTr
set_option maxRecDepth 100000
set_option linter.unusedVariables false
set_option linter.unusedSimpArgs false
namespace Go.AM
open Go.Proofs
end Go.AM
