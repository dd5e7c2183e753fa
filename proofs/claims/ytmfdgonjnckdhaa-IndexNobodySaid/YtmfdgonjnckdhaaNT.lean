/- PRINTED by gen.py: the types of the program. No statement of the seat is proved here. -/
import Derived.Test.YtmfdgonjnckdhaaAWq
import Derived.Test.YtmfdgonjnckdhaaChecked
import Derived.Test.YtmfdgonjnckdhaaShelf
import Derived.Test.YtmfdgonjnckdhaaS6
set_option maxRecDepth 100000
set_option linter.unusedVariables false
set_option linter.unusedSimpArgs false
namespace Go.AM
open Go.Proofs

/-- a pointer: nil, or what it points to -/
def ep {α : Type} (f : α → AV) : Option α → AV
  | none => .nilp
  | some x => .ptr (f x)
def ocase {α β : Type} (o : Option α) (a : β) (f : α → β) : β := match o with
  | none => a
  | some x => f x

structure ixIndex where
  f_w : Unit
  f_length : Int
  f_starts : (List Int)
  f_places : (List Int)
def e_ixIndex (x : ixIndex) : AV := .agg [.nilp, .int .i64 x.f_length, l3 none x.f_starts, l3 none x.f_places]

def l42 (c : Option Nat) (l : List (Option ixIndex)) : AV := .lst 42 1 c (List.map (ep e_ixIndex) l)
end Go.AM
