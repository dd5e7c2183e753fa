/-
  PLAIN FACTS: the copied tables, and what dependencies that hold of two rows say. No statement of the seat is proved here.
-/
import Derived.Test.YtombfedoinhafaaALaw6
import Derived.Test.YtombfedoinhafaaH2
set_option linter.unusedVariables false
set_option linter.unusedSimpArgs false
namespace Go.AM

def fewRows (rows : List (List Int)) : List (List Int) := (rows.take 62).map (List.take 10)

theorem clone_val {x : List Int} : sl_Clone_int (x.take 10) = some (x.take 10) := by
  unfold sl_Clone_int
  have : capOk 8 (x.take 10).length = true := by
    simp only [capOk, Bool.and_eq_true]
    have := List.length_take_le 10 x
    exact ⟨Nat.ble_eq_true_of_le (by omega), Nat.ble_eq_true_of_le (by omega)⟩
  rw [this]; rfl

theorem sub_ten {x : List Int} : sub x 0 (if 10 < (x.length : Int) then 10 else (x.length : Int)) = some (x.take 10) := by
  unfold sub
  by_cases h : 10 < (x.length : Int)
  · rw [if_pos h, if_pos (by omega)]; rfl
  · rw [if_neg h, if_pos (by omega), Int.toNat_natCast]
    simp only [Int.toNat_zero, List.drop_zero, List.take_length]
    rw [List.take_of_length_le (by omega)]

theorem few_val {rows : List (List Int)} (hl : lenOk rows = true) : lw1_few rows = some (fewRows rows) := by
  unfold lw1_few fewRows
  rw [hl]
  simp only [chk, cond_true]
  have : ∀ (r : List (List Int)) (k : Nat) (acc : List (List Int)), acc.length = k → k ≤ 62 → lw1_few_l1 lw1_few_j4 r k acc = some (acc ++ (r.take (62 - k)).map (List.take 10)) := by
    intro r
    induction r with
    | nil => intro k acc _ _; rw [lw1_few_l1.eq_1]; simp [lw1_few_j4]
    | cons x r ih =>
      intro k acc ha hk
      rw [lw1_few_l1.eq_2]
      by_cases h : (k : Int) > 61
      · have : k = 62 := by omega
        subst this
        simp [lw1_few_j4]
      · have hk2 : k + 1 ≤ 62 := by omega
        have hcap : ∀ z, capOk 24 (acc ++ [z]).length = true := by
          intro z
          rw [List.length_append, ha]
          simp only [capOk, Bool.and_eq_true]
          exact ⟨Nat.ble_eq_true_of_le (by simp; omega), Nat.ble_eq_true_of_le (by simp; omega)⟩
        simp only [h, decide_false, cond_false, sub_ten, clone_val, Option.bind_some, hcap, chk, cond_true]
        rw [ih (k + 1) _ (by simp [ha]) hk2]
        have : 62 - k = (62 - (k + 1)) + 1 := by omega
        rw [this, List.take_succ_cons]
        simp
  simpa using this rows 0 [] rfl (by omega)

theorem few_table {n : Int} {rows : List (List Int)} (h : tableOk n rows = true) : fewRows rows = rows := by
  simp only [tableOk, Bool.and_eq_true, decide_eq_true_eq, List.all_eq_true, beq_iff_eq] at h
  obtain ⟨h1, h2, h3, h4⟩ := h
  unfold fewRows
  rw [List.take_of_length_le (by omega)]
  refine (List.map_congr_left fun x hx => ?_).trans (List.map_id rows)
  have := h4 x hx
  exact List.take_of_length_le (by omega)

theorem fewRows_lenOk {rows : List (List Int)} : lenOk (fewRows rows) = true := lenOk_of (by simp [fewRows]; omega)

theorem rTable_l1 {n : Int} (K : Option Bool) : ∀ (r : List (List Int)) (k : Nat), rf1_Table_l1 n K r k = bif r.all (fun x => (x.length : Int) == n) then K else some false
  | [], _ => rfl
  | x :: r, k => by
    rw [rf1_Table_l1.eq_2, rTable_l1 K r (k + 1)]
    simp only [List.all_cons, bne]
    cases ((x.length : Int) == n) <;> simp

theorem rTable_val {n : Int} {rows : List (List Int)} (hl : lenOk rows = true) : rf1_Table n rows = some (tableOk n rows) := by
  unfold rf1_Table
  rw [hl]
  simp only [chk, cond_true]
  rw [rTable_l1]
  unfold rf1_Table_j4 rf1_Table_j10 tableOk
  have h3 : decide ((rows.length : Int) ≤ 60) = decide (rows.length ≤ 60) := by
    by_cases h : rows.length ≤ 60
    · have h' : (rows.length : Int) ≤ 60 := by omega
      simp [h, h']
    · have h' : ¬ (rows.length : Int) ≤ 60 := by omega
      simp [h, h']
  rw [h3]
  by_cases h1 : 1 ≤ n <;> by_cases h2 : n ≤ 8 <;> simp [h1, h2, ge_iff_le] <;> cases (rows.all fun x => (x.length : Int) == n) <;> simp

theorem fine_iff {d : dpDep} {x y : List Int} : fine d x y = true ↔ (Bits d.f_From (agr x y) → Bits d.f_To (agr x y)) := by
  unfold fine
  rw [← has_iff, ← has_iff]
  cases has d.f_From (agr x y) <;> cases has d.f_To (agr x y) <;> simp

/-- what dependencies that hold of two rows force -/
theorem fine_cl {ds : List dpDep} (hl : lenOk ds = true) {x y : List Int} (h : ∀ d, d ∈ ds → fine d x y = true) {f t : Int} (hf : wf64 f) (ht : Bits t (cl ds f)) : fine ⟨f, t⟩ x y = true := by
  rw [fine_iff]
  intro hb
  exact ht.trans ((cl_spec hl hf).least _ (fun d hd hb => fine_iff.1 (h d hd) hb) hb)

theorem pairs_cl {ds : List dpDep} (hl : lenOk ds = true) {f t : Int} (hf : wf64 f) (ht : Bits t (cl ds f)) : ∀ (r pre : List (List Int)), (∀ d, d ∈ ds → pairsFine d pre r = true) → pairsFine ⟨f, t⟩ pre r = true
  | [], pre, _ => rfl
  | x :: r, pre, h => by
    have h2 : ∀ d, d ∈ ds → (pre.all (fine d x) = true) ∧ pairsFine d (pre ++ [x]) r = true := by
      intro d hd
      have := h d hd
      rwa [show pairsFine d pre (x :: r) = (pre.all (fine d x) && pairsFine d (pre ++ [x]) r) from rfl, Bool.and_eq_true] at this
    rw [show pairsFine (⟨f, t⟩ : dpDep) pre (x :: r) = (pre.all (fine ⟨f, t⟩ x) && pairsFine ⟨f, t⟩ (pre ++ [x]) r) from rfl, Bool.and_eq_true]
    refine ⟨List.all_eq_true.2 fun y hy => ?_, pairs_cl hl hf ht r _ (fun d hd => (h2 d hd).2)⟩
    exact fine_cl hl (fun d hd => List.all_eq_true.1 (h2 d hd).1 y hy) hf ht

end Go.AM
