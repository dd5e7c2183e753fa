/-
  CHAPTER 1, PLAIN: single attributes, rows, Armstrong's table. No statement of the seat is proved here.
-/
import Derived.Test.YtombfedoinhafaaALaw3
import Derived.Test.YtombfedoinhafaaG2
set_option linter.unusedVariables false
set_option linter.unusedSimpArgs false
namespace Go.AM

/-- attribute k of a set -/
def bit (x : Int) (k : Nat) : Bool := (V x).getLsbD k

theorem V_shr {x : Int} (hx : wf64 x) (k : Nat) (hk : k < 64) : V (iShr .i64 x (k : Int)) = (V x).sshiftRight k := by
  apply BitVec.eq_of_toInt_eq
  have hm : min k 64 = k := by omega
  have e : iShr .i64 x (k : Int) = x >>> k := by
    unfold iShr
    rw [Int.toNat_natCast]
    simp only [IntKind.bits, hm]
    rw [Int.shiftRight_eq_div_pow, Int.fdiv_eq_ediv_of_nonneg]
    · push_cast; rfl
    · exact Int.le_of_lt (Int.pow_pos (by decide))
  rw [BitVec.toInt_sshiftRight, V_toInt hx, e]
  have hw : wf64 (x >>> k) := by
    unfold wf64 at hx ⊢
    rw [Int.shiftRight_eq_div_pow]
    have hp : (1 : Int) ≤ ((2 ^ k : Nat) : Int) := by exact_mod_cast Nat.one_le_two_pow
    generalize ((2 ^ k : Nat) : Int) = p at hp
    constructor
    · apply Int.le_ediv_of_mul_le (by omega)
      omega
    · apply Int.ediv_lt_of_lt_mul (by omega)
      omega
  exact V_toInt hw

theorem bit_eq {x : Int} (hx : wf64 x) (k : Nat) (hk : k < 64) : iAnd .i64 (iShr .i64 x (k : Int)) 1 = if bit x k then 1 else 0 := by
  apply V_inj (wf_and _ _) (by unfold wf64; split <;> omega)
  rw [V_and, V_shr hx k hk]
  apply BitVec.eq_of_getLsbD_eq
  intro i hi
  have h1 : V 1 = 1#64 := by rfl
  have h0 : V 0 = 0#64 := by rfl
  rw [BitVec.getLsbD_and, h1]
  unfold bit
  by_cases hi0 : i = 0
  · subst hi0
    rw [BitVec.getLsbD_sshiftRight]
    cases hb : (V x).getLsbD k <;> simp [hb, hk, h1, h0]
  · have : (1#64).getLsbD i = false := by
      rw [BitVec.getLsbD_one]; simp [hi0]
    rw [this]
    cases hb : (V x).getLsbD k <;> simp [hb, h1, h0, hi0]

/-- row i of the table of a set -/
def rowF (n : Nat) (x i : Int) : List Int := (List.range n).map fun a => if bit x a then 0 else i

theorem row_l1 {x i : Int} (hx : wf64 x) (hi : 0 ≤ i ∧ i ≤ 256) : ∀ (r : List Nat) (k : Nat) (acc : List Int), acc.length ≤ k → k + r.length ≤ 8 →
    dp_row_l1 x i dp_row_j6 r k acc = some (acc ++ (List.range' k r.length).map fun a => if bit x a then 0 else i)
  | [], k, acc, _, _ => by simp [dp_row_l1, dp_row_j6]
  | y :: r, k, acc, ha, hk => by
    simp only [List.length_cons] at hk
    have hv : IntKind.wrap .i64 (i * (IntKind.wrap .i64 (1 - (iAnd .i64 (iShr .i64 x (k : Int)) 1)))) = if bit x k then 0 else i := by
      rw [bit_eq hx k (by omega)]
      cases bit x k with
      | true => simp [wrap_id]
      | false =>
        simp only [Bool.false_eq_true, if_false]
        rw [show (1 : Int) - 0 = 1 from rfl, wrap_id (a := 1) (by omega) (by omega), wrap_id (by omega) (by omega)]
        omega
    have h0 : decide (0 ≤ (k : Int)) = true := by simp
    have hcap : ∀ z : Int, capOk 8 (acc ++ [z]).length = true := by
      intro z
      simp only [capOk, Bool.and_eq_true, List.length_append, List.length_singleton]
      exact ⟨Nat.ble_eq_true_of_le (by omega), Nat.ble_eq_true_of_le (by omega)⟩
    rw [dp_row_l1.eq_2, hv]
    simp only [h0, chk, cond_true, hcap]
    rw [row_l1 hx hi r (k + 1) _ (by simp; omega) (by omega)]
    simp [List.range'_succ]

theorem row_val {n x i : Int} (h1 : 1 ≤ n) (h2 : n ≤ 8) (hx : wf64 x) (hi : 0 ≤ i ∧ i ≤ 256) : dp_row n x i = some (rowF n.toNat x i) := by
  unfold dp_row
  have hr : lenOk (List.range n.toNat) = true := lenOk_of (by simp; omega)
  rw [hr]
  simp only [chk, cond_true]
  rw [row_l1 hx hi _ _ _ (by simp) (by simp; omega)]
  simp [rowF, List.range_eq_range']

/-- the table of a list of sets -/
def tab (n : Nat) (S : List Int) : List (List Int) := S.mapIdx fun i x => rowF n x (i : Int)

def armGo (ds : List dpDep) : List Nat → Nat → List Int → List Int
  | [], _, S => S
  | _ :: r, k, S => armGo ds r (k + 1) (bif cl ds (k : Int) == (k : Int) then S ++ [(k : Int)] else S)

theorem arm_l1 {ds : List dpDep} (hl : lenOk ds = true) {n : Int} (h1 : 1 ≤ n) (h2 : n ≤ 8) {fuel : Nat} (hf : bigFuel ≤ fuel) : ∀ (r : List Nat) (k : Nat) (S : List Int), S.length ≤ k + 1 → k + r.length ≤ 255 →
    dp_Armstrong_l1 fuel n ds dp_Armstrong_j12 r k (tab n.toNat S) = some (tab n.toNat (armGo ds r k S), 0)
  | [], k, S, _, _ => rfl
  | x :: r, k, S, hS, hk => by
    simp only [List.length_cons] at hk
    have hw : wf64 (k : Int) := by unfold wf64; omega
    rw [dp_Armstrong_l1.eq_2, cl_eq hl hw hf]
    simp only [Option.bind_some]
    unfold armGo dp_Armstrong_j16
    cases hc : (cl ds (k : Int) == (k : Int)) with
    | false => simp only [cond_false]; exact arm_l1 hl h1 h2 hf r (k + 1) S (by omega) (by omega)
    | true =>
      simp only [cond_true]
      have hlen : (tab n.toNat S).length = S.length := by simp [tab]
      rw [row_val h1 h2 hw (by rw [hlen]; omega)]
      have hcap : ∀ z, capOk 24 (tab n.toNat S ++ [z]).length = true := by
        intro z
        simp only [capOk, Bool.and_eq_true, List.length_append, List.length_singleton, hlen]
        exact ⟨Nat.ble_eq_true_of_le (by omega), Nat.ble_eq_true_of_le (by omega)⟩
      simp only [Option.bind_some, hcap, chk, cond_true]
      have e : tab n.toNat S ++ [rowF n.toNat (k : Int) ((tab n.toNat S).length : Int)] = tab n.toNat (S ++ [(k : Int)]) := by
        rw [hlen]; simp [tab, List.mapIdx_append]
      rw [e]
      exact arm_l1 hl h1 h2 hf r (k + 1) _ (by simp; omega) (by omega)

/-- the sets of Armstrong's table: all attributes, and the closed sets -/
def armSets (n : Int) (ds : List dpDep) : List Int := armGo ds (List.range (2 ^ n.toNat - 1)) 0 [full n]

theorem Armstrong_val {n : Int} {ds : List dpDep} (hl : lenOk ds = true) {fuel : Nat} (hf : bigFuel ≤ fuel) :
    dp_Armstrong fuel n ds = some (bif okArgs n ds then (tab n.toNat (armSets n ds), 0) else ([], 2)) := by
  unfold dp_Armstrong dp_closure
  rw [valid_eq hl]
  cases ho : okArgs n ds with
  | false => rfl
  | true =>
    obtain ⟨h1, h2, _⟩ := ok_parts ho
    have hn : decide (0 ≤ n) = true := by simpa using (show 0 ≤ n by omega)
    have hp := pow_le h1 h2
    have hr : lenOk (List.range (2 ^ n.toNat - 1)) = true := lenOk_of (by simp; omega)
    simp only [Option.bind_some, Bool.not_true, cond_false, hn, chk, cond_true]
    rw [row_val h1 h2 (by unfold wf64; omega) (by omega), full_eq h1 h2]
    unfold full
    rw [Int.toNat_natCast, hr]
    simp only [Option.bind_some, cond_true]
    have e : [rowF n.toNat 0 0] = tab n.toNat [full n] := by
      simp [tab, rowF]
    rw [e]
    exact arm_l1 hl h1 h2 hf _ _ _ (by simp) (by simp; omega)

theorem armGo_mem {ds : List dpDep} : ∀ (r : List Nat) (k : Nat) (S : List Int) (x : Int), x ∈ armGo ds r k S ↔ x ∈ S ∨ ∃ j : Nat, k ≤ j ∧ j < k + r.length ∧ x = (j : Int) ∧ cl ds x = x
  | [], k, S, x => by
    simp only [armGo, List.length_nil, Nat.add_zero]
    constructor
    · exact .inl
    · rintro (h | ⟨j, h1, h2, _⟩)
      · exact h
      · omega
  | y :: r, k, S, x => by
    unfold armGo
    rw [armGo_mem r (k + 1)]
    simp only [List.length_cons]
    cases hc : (cl ds (k : Int) == (k : Int)) with
    | true =>
      simp only [cond_true, List.mem_append, List.mem_singleton]
      constructor
      · rintro ((h | h) | ⟨j, h1, h2, h3⟩)
        · exact .inl h
        · exact .inr ⟨k, by omega, by omega, h, by rw [h]; exact beq_iff_eq.1 hc⟩
        · exact .inr ⟨j, by omega, by omega, h3⟩
      · rintro (h | ⟨j, h1, h2, h3, h4⟩)
        · exact .inl (.inl h)
        · by_cases hj : j = k
          · subst hj; exact .inl (.inr h3)
          · exact .inr ⟨j, by omega, by omega, h3, h4⟩
    | false =>
      simp only [cond_false]
      constructor
      · rintro (h | ⟨j, h1, h2, h3⟩)
        · exact .inl h
        · exact .inr ⟨j, by omega, by omega, h3⟩
      · rintro (h | ⟨j, h1, h2, h3, h4⟩)
        · exact .inl h
        · by_cases hj : j = k
          · subst hj; subst h3; rw [h4] at hc; simp at hc
          · exact .inr ⟨j, by omega, by omega, h3, h4⟩

/-- the first set stays the first -/
theorem armGo_head {ds : List dpDep} : ∀ (r : List Nat) (k : Nat) (S : List Int), S ≠ [] → (armGo ds r k S)[0]? = S[0]?
  | [], k, S, _ => rfl
  | y :: r, k, S, h => by
    unfold armGo
    cases S with
    | nil => exact absurd rfl h
    | cons a S =>
      cases (cl ds (k : Int) == (k : Int)) with
      | true => simp only [cond_true]; rw [armGo_head r (k + 1) _ (by simp)]; rfl
      | false => simp only [cond_false]; rw [armGo_head r (k + 1) _ (by simp)]

theorem armSets_length {ds : List dpDep} : ∀ (r : List Nat) (k : Nat) (S : List Int), (armGo ds r k S).length ≤ S.length + r.length
  | [], k, S => by simp [armGo]
  | y :: r, k, S => by
    unfold armGo
    refine Nat.le_trans (armSets_length r (k + 1) _) ?_
    cases (cl ds (k : Int) == (k : Int)) <;> simp <;> omega

end Go.AM
