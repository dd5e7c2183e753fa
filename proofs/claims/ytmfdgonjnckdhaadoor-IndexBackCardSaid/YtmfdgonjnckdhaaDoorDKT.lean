/- s -/
import Derived.Test.YtmfdgonjnckdhaaDoorAWq
import Derived.Test.YtmfdgonjnckdhaaDoorChecked
import Derived.Test.YtmfdgonjnckdhaaDoorShelf
import Derived.Test.YtmfdgonjnckdhaaDoorCComp
import Derived.Test.YtmfdgonjnckdhaaDoorDB2
set_option maxRecDepth 100000
set_option linter.unusedVariables false
set_option linter.unusedSimpArgs false
namespace Go.AM
open Go.Proofs
def epx {α : Type} (f : α → AV) : Option α → AV
 | none => .und
 | some x => f x
def ep {α : Type} (f : α → AV) (o : Option α) : AV := .optr o.isNone (epx f o)
theorem nc_av {α : Type} {F : Option α → AV} {o : Option α} {q : α} (h : o = some q) : (match o.isNone with | false => some (AV.ptr (F o)) | true => none) = some (.ptr (F (some q))) := by subst h; rfl
inductive ixwavelet where
 | mk (f_alphabet : (List Int)) (f_ones : (List Int)) (f_low : (Option ixwavelet)) (f_high : (Option ixwavelet))
def ixwavelet.cs {β : Type} (q : ixwavelet) (k : (List Int) → (List Int) → (Option ixwavelet) → (Option ixwavelet) → β) : β := match q with
 | .mk a0 a1 a2 a3 => k a0 a1 a2 a3
def l3 (c : Option Nat) (l : List Int) : AV := .lst 3 1 c (List.map (AV.int .i64) l)
mutual
def e_ixwavelet : ixwavelet → AV
 | .mk a0 a1 a2 a3 => .agg [l5 none a0, l3 none a1, .optr a2.isNone (e_ixwaveletx a2), .optr a3.isNone (e_ixwaveletx a3)]
def e_ixwaveletx : Option ixwavelet → AV
 | none => .und
 | some x => e_ixwavelet x
end
def ep_ixwavelet (o : Option ixwavelet) : AV := .optr o.isNone (e_ixwaveletx o)
end Go.AM
