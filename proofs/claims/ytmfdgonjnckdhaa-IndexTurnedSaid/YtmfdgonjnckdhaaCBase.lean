/- s -/
import Derived.Test.YtmfdgonjnckdhaaAClose
import Derived.Test.YtmfdgonjnckdhaaChecked
import Derived.Shelf.LaysM
import Derived.Test.YtmfdgonjnckdhaaRows
import Derived.HandedShaped
import Derived.ProofKit
import Derived.OpenShut
set_option linter.unusedVariables false
namespace Go.AM
open Go.Proofs Go.Proofs.Ytmfdgonjnckdhaa Go.ChangeShapes Go.WideShapes Go.ChangeAt Go.RowKit
theorem readsStr : Reads Try.prog 9 AV.str (fun _ => True) := fun H enc w fuel cs x h =>
 let ⟨a, _, h2⟩ := reads_str (P := Try.prog) (t := 9) (by kernel_rfl) H enc w fuel cs x h
 ⟨a, trivial, h2⟩
theorem readsInt : Reads Try.prog 3 (AV.int .i64) (fun _ => True) := fun H enc w fuel cs x h =>
 let ⟨a, _, h2⟩ := reads_int (P := Try.prog) (t := 3) (k := .i64) (by kernel_rfl) H enc w fuel cs x h
 ⟨a, trivial, h2⟩
theorem readsByte : Reads Try.prog 5 (AV.int .u8) (fun _ => True) := fun H enc w fuel cs x h =>
 let ⟨a, _, h2⟩ := reads_int (P := Try.prog) (t := 5) (k := .u8) (by kernel_rfl) H enc w fuel cs x h
 ⟨a, trivial, h2⟩
theorem own : ownKnob Try.prog.godebug = none := by kernel_rfl
theorem mixed : Try.prog.follows .mixedOrders = true := by kernel_rfl
theorem laid : laidOutB Try.prog = true := by kernel_rfl
theorem globW_shaped {W : World} (h : W.ShapedOpen Try.prog) : GlobW W := by
 intro g hg
 simp only [globs, List.mem_singleton] at hg
 subst hg
 exact Go.Proofs.cell_of_shapedOpen_int (zero := #[.int .i64 0]) (t := 3) h (of_decide_eq_true (by kernel_rfl)) (by kernel_rfl) rfl (by kernel_rfl) (by kernel_rfl) Try.underlying3
end Go.AM
