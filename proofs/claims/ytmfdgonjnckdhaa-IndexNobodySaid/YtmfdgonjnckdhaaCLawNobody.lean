/-
  IndexNobody in plain Lean: an index that no call returned answers with its error.
-/
import Derived.Test.YtmfdgonjnckdhaaCLawSort
import Derived.Test.YtmfdgonjnckdhaaN1
set_option linter.unusedVariables false
namespace Go.AM

theorem nobody_count (x : Option ixIndex) (p : ByteArray) : ix_Index_Count x p = some (0, 1) := by cases x <;> rfl
theorem nobody_locate (x : Option ixIndex) (p : ByteArray) : ix_Index_Locate x p = some ([], 1) := by cases x <;> rfl
theorem nobody_rank (x : Option ixIndex) (c i : Int) : ix_Index_Rank x c i = some (0, 1) := by cases x <;> rfl
theorem nobody_extract (fuel : Nat) (x : Option ixIndex) (i j : Int) : ix_Index_Extract fuel x i j = some (ByteArray.mk #[], 1) := by cases x <;> rfl

theorem nobody_l1 {s : ByteArray} {c i j : Int} {K : Option Bool} : ∀ (l : List (Option ixIndex)) (k : Nat), lw4_IndexNobody_l1 bigFuel s c i j K l k = K
  | [], k => by rw [lw4_IndexNobody_l1.eq_1]
  | x :: r, k => by
    obtain ⟨t, e1, _⟩ := few_val s
    rw [lw4_IndexNobody_l1.eq_2]
    have ih := nobody_l1 (s := s) (c := c) (i := i) (j := j) (K := K) r (k + 1)
    cases x with
    | none =>
      simp only [ocase, e1, Option.bind_some, nobody_count, nobody_locate, nobody_rank, nobody_extract, ih]
      rw [show ((ByteArray.mk #[]).toList == (ByteArray.mk #[]).toList) = true from beq_self_eq_true _]
      rfl
    | some q =>
      simp only [ocase, e1, Option.bind_some, nobody_count, nobody_locate, nobody_rank, nobody_extract, ih]
      rw [show ((ByteArray.mk #[]).toList == (ByteArray.mk #[]).toList) = true from beq_self_eq_true _]
      rfl

theorem indexNobody_true (s : ByteArray) (c i j : Int) : lw4_IndexNobody bigFuel s c i j = some true := by
  unfold lw4_IndexNobody
  rw [nobody_l1, lenOk_of (by simp)]
  unfold lw4_IndexNobody_j6
  rw [awake_val]
  rfl
end Go.AM
