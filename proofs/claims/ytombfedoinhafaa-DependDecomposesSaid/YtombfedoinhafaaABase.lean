/-
  THE SEAT: what can be read, and the facts on the program that every row asks. No statement of the seat is proved here.
-/
import Derived.Test.YtombfedoinhafaaAClose
import Derived.Test.YtombfedoinhafaaAWord
import Derived.Test.YtombfedoinhafaaGT
import Derived.Test.YtombfedoinhafaaRows
import Derived.ProofKit
import Derived.OpenShut
set_option linter.unusedVariables false
namespace Go.AM
open Go.Proofs Go.Proofs.Ytombfedoinhafaa Go.ChangeShapes Go.WideShapes Go.ChangeAt Go.RowKit

/-! ### what can be read -/
theorem readsDep : Reads Try.prog 40 e_rf1Dep (fun d => wf64 d.f_From ∧ wf64 d.f_To) :=
  reads_struct (P := Try.prog) (size := 2) (fs := #[Field.mk "From" 3 0 false "" "" 0, Field.mk "To" 3 1 false "" "" 8]) (fun b : Int × Int × Unit => (⟨b.1, b.2.1⟩ : rf1Dep)) (by kernel_rfl) (by kernel_rfl)
    (fieldsR_cons (f := AV.int .i64) (ok := fun n => (Lit.int .i64 n).wf = true) (n := 1) (off' := 1) rfl (by kernel_rfl) rfl (reads_int (k := .i64) (by kernel_rfl)) (fieldsR_cons (f := AV.int .i64) (ok := fun n => (Lit.int .i64 n).wf = true) (n := 1) (off' := 2) rfl (by kernel_rfl) rfl (reads_int (k := .i64) (by kernel_rfl)) (fieldsR_nil rfl)))
    (fun b => rfl) (fun b h => ⟨wf_of_lit h.1, wf_of_lit h.2.1⟩)

theorem readsDeps : Reads Try.prog 22 (encL 40 2 e_rf1Dep) (fun l => l.length ≤ maxLen ∧ ∀ d, d ∈ l → wf64 d.f_From ∧ wf64 d.f_To) :=
  reads_slice (by kernel_rfl) (by kernel_rfl) (by decide) readsDep (fun _ => rfl) (fun _ => rfl)

theorem readsInt : Reads Try.prog 3 (AV.int .i64) wf64 := fun H enc w fuel cs x h =>
  let ⟨a, h1, h2⟩ := reads_int (P := Try.prog) (t := 3) (k := .i64) (by kernel_rfl) H enc w fuel cs x h
  ⟨a, wf_of_lit h1, h2⟩

theorem lenOk_max {α : Type} {l : List α} (h : l.length ≤ maxLen) : lenOk l = true := Nat.ble_eq_true_of_le (by unfold maxLen at h; omega)

theorem own : ownKnob Try.prog.godebug = none := by kernel_rfl
theorem mixed : Try.prog.follows .mixedOrders = true := by kernel_rfl
theorem laid : laidOutB Try.prog = true := by kernel_rfl

theorem readsRStep : Reads Try.prog 98 e_rf1Step (fun s => wf64 s.f_Rule ∧ wf64 s.f_I ∧ wf64 s.f_J ∧ wf64 s.f_Dep.f_From ∧ wf64 s.f_Dep.f_To) :=
  reads_struct (P := Try.prog) (size := 5) (fs := #[Field.mk "Rule" 3 0 false "" "" 0, Field.mk "I" 3 1 false "" "" 8, Field.mk "J" 3 2 false "" "" 16, Field.mk "Dep" 40 3 false "" "" 24]) (fun b : Int × Int × Int × rf1Dep × Unit => (⟨b.1, b.2.1, b.2.2.1, b.2.2.2.1⟩ : rf1Step)) (by kernel_rfl) (by kernel_rfl)
    (fieldsR_cons (f := AV.int .i64) (ok := fun n => (Lit.int .i64 n).wf = true) (n := 1) (off' := 1) rfl (by kernel_rfl) rfl (reads_int (k := .i64) (by kernel_rfl)) (fieldsR_cons (f := AV.int .i64) (ok := fun n => (Lit.int .i64 n).wf = true) (n := 1) (off' := 2) rfl (by kernel_rfl) rfl (reads_int (k := .i64) (by kernel_rfl)) (fieldsR_cons (f := AV.int .i64) (ok := fun n => (Lit.int .i64 n).wf = true) (n := 1) (off' := 3) rfl (by kernel_rfl) rfl (reads_int (k := .i64) (by kernel_rfl)) (fieldsR_cons (f := e_rf1Dep) (ok := fun d => wf64 d.f_From ∧ wf64 d.f_To) (n := 2) (off' := 5) rfl (by kernel_rfl) rfl readsDep (fieldsR_nil rfl)))))
    (fun b => rfl) (fun b h => ⟨wf_of_lit h.1, wf_of_lit h.2.1, wf_of_lit h.2.2.1, h.2.2.2.1.1, h.2.2.2.1.2⟩)

theorem readsRSteps : Reads Try.prog 46 (encL 98 5 e_rf1Step) (fun l => l.length ≤ maxLen ∧ ∀ s, s ∈ l → wf64 s.f_Rule ∧ wf64 s.f_I ∧ wf64 s.f_J ∧ wf64 s.f_Dep.f_From ∧ wf64 s.f_Dep.f_To) :=
  reads_slice (by kernel_rfl) (by kernel_rfl) (by decide) readsRStep (fun _ => rfl) (fun _ => rfl)

theorem readsInts : Reads Try.prog 35 (encL 3 1 (AV.int .i64)) (fun l => l.length ≤ maxLen ∧ ∀ x, x ∈ l → wf64 x) :=
  reads_slice (by kernel_rfl) (by kernel_rfl) (by decide) readsInt (fun _ => rfl) (fun _ => rfl)

theorem readsRows : Reads Try.prog 41 (encL 35 1 (encL 3 1 (AV.int .i64))) (fun l => l.length ≤ maxLen ∧ ∀ x, x ∈ l → x.length ≤ maxLen ∧ ∀ y, y ∈ x → wf64 y) :=
  reads_slice (by kernel_rfl) (by kernel_rfl) (by decide) readsInts (fun _ => rfl) (fun _ => rfl)

end Go.AM
