/- s -/
import Derived.Test.YtmfdgonjnckdhaaDoorAWq
import Derived.Test.YtmfdgonjnckdhaaDoorChecked
import Derived.Test.YtmfdgonjnckdhaaDoorShelf
import Derived.Test.YtmfdgonjnckdhaaDoorCSufx
import Derived.Test.YtmfdgonjnckdhaaDoorCTrans
set_option maxRecDepth 100000
set_option linter.unusedVariables false
set_option linter.unusedSimpArgs false
namespace Go.AM
open Go.Proofs
abbrev I6 : Int → AV := AV.int .i64
abbrev W6 : Int → Int := IntKind.wrap .i64
abbrev S1 (n : Nat) : AV := .sb 2000000 5 1 0 n
abbrev O1 (l : List Int) : Nat × AV := (2000000, .obj 1000000005 1 (List.map (AV.int .u8) l))
abbrev M8 (l : List Int) : List AV := List.map (AV.int .u8) l
abbrev M6 (l : List Int) : List AV := List.map (AV.int .i64) l
def l3 (c : Option Nat) (l : List Int) : AV := .lst 3 1 c (List.map (AV.int .i64) l)
def l5 (c : Option Nat) (l : List Int) : AV := .lst 5 1 c (List.map (AV.int .u8) l)
end Go.AM
