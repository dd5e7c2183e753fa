/-
  CHAPTER 4, PLAIN: what the texts of this seat share. No statement of the seat is proved here.
-/
import Derived.Test.YtmfdgonjnckdhaaAWord
import Derived.Test.YtmfdgonjnckdhaaS5
set_option linter.unusedVariables false
set_option linter.unusedSimpArgs false
namespace Go.AM

def bigFuel : Nat := 36893488147419103232

theorem lenOk_of {α : Type} {l : List α} (h : l.length ≤ 9223372036854775807) : lenOk l = true := by
  exact Nat.ble_eq_true_of_le h
end Go.AM
