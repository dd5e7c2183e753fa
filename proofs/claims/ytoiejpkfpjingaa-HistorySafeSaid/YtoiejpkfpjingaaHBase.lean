/- s -/
import Derived.Test.YtoiejpkfpjingaaAClose
import Derived.Test.YtoiejpkfpjingaaKA1
import Derived.Test.YtoiejpkfpjingaaChecked
import Derived.Test.YtoiejpkfpjingaaRows
import Derived.ProofKit
import Derived.OpenShut
set_option linter.unusedVariables false
namespace Go.AM
open Go.Proofs Go.Proofs.Ytoiejpkfpjingaa Go.ChangeShapes Go.WideShapes Go.ChangeAt Go.RowKit
theorem readsOp : Reads Try.prog 43 e_rf5Op (fun _ => True) :=
 reads_struct (P := Try.prog) (size := 3) (fs := #[Field.mk "Txn" 3 0 false "" "" 0, Field.mk "Kind" 3 1 false "" "" 8, Field.mk "Item" 3 2 false "" "" 16]) (fun b : Int × Int × Int × Unit => (⟨b.1, b.2.1, b.2.2.1⟩ : rf5Op)) (by kernel_rfl) (by kernel_rfl)
  (fieldsR_cons (f := AV.int .i64) (ok := fun n => (Lit.int .i64 n).wf = true) (n := 1) (off' := 1) rfl (by kernel_rfl) rfl (reads_int (k := .i64) (by kernel_rfl)) (fieldsR_cons (f := AV.int .i64) (ok := fun n => (Lit.int .i64 n).wf = true) (n := 1) (off' := 2) rfl (by kernel_rfl) rfl (reads_int (k := .i64) (by kernel_rfl)) (fieldsR_cons (f := AV.int .i64) (ok := fun n => (Lit.int .i64 n).wf = true) (n := 1) (off' := 3) rfl (by kernel_rfl) rfl (reads_int (k := .i64) (by kernel_rfl)) (fieldsR_nil rfl))))
  (fun b => rfl) (fun b h => trivial)
theorem readsHist : Reads Try.prog 23 (encL 43 3 e_rf5Op) (fun l => l.length ≤ maxLen ∧ ∀ d, d ∈ l → True) :=
 reads_slice (by kernel_rfl) (by kernel_rfl) (by decide) readsOp (fun _ => rfl) (fun _ => rfl)
theorem lenOk_max {α : Type} {l : List α} (h : l.length ≤ maxLen) : lenOk l = true := Nat.ble_eq_true_of_le (by unfold maxLen at h; omega)
theorem own : ownKnob Try.prog.godebug = none := by kernel_rfl
theorem mixed : Try.prog.follows .mixedOrders = true := by kernel_rfl
theorem laid : laidOutB Try.prog = true := by kernel_rfl
end Go.AM
