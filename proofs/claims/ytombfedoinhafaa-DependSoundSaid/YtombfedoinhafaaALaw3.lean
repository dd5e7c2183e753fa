/-
  CHAPTER 1, PLAIN: Closure, Follows and Keys as functions. No statement of the seat is proved here.
-/
import Derived.Test.YtombfedoinhafaaALawUnion
set_option linter.unusedVariables false
set_option linter.unusedSimpArgs false
namespace Go.AM

/-- the closure -/
def cl (ds : List dpDep) (x : Int) : Int := (dp_closure_1 bigFuel x ds).getD 0

theorem cl_spec {ds : List dpDep} (hl : lenOk ds = true) {x : Int} (hx : wf64 x) : IsClosure ds x (cl ds x) := by
  obtain ⟨r, h1, h2⟩ := closure_spec hl hx (Nat.le_refl bigFuel)
  unfold cl; rw [h1]; exact h2

theorem cl_eq {ds : List dpDep} (hl : lenOk ds = true) {x : Int} (hx : wf64 x) {fuel : Nat} (hf : bigFuel ≤ fuel) : dp_closure_1 fuel x ds = some (cl ds x) := by
  obtain ⟨r, h1, h2⟩ := closure_spec hl hx hf
  rw [h1, h2.unique (cl_spec hl hx)]

theorem Closure_val {n : Int} {ds : List dpDep} {x : Int} (hl : lenOk ds = true) (hx : wf64 x) {fuel : Nat} (hf : bigFuel ≤ fuel) :
    dp_Closure fuel n ds x = some (bif okArgs n ds && isSet n x then (cl ds x, 0) else (0, 2)) := by
  rcases Closure_eq (n := n) hl hx hf with ⟨h, e⟩ | ⟨h1, h2, r, h3, e⟩
  · rw [e, h]; rfl
  · rw [e, h1, h2, h3.unique (cl_spec hl hx)]; rfl

theorem Follows_val {n : Int} {ds : List dpDep} {d : dpDep} (hl : lenOk ds = true) (hx : wf64 d.f_From) {fuel : Nat} (hf : bigFuel ≤ fuel) :
    dp_Follows fuel n ds d = some (bif okArgs n ds && (isSet n d.f_From && isSet n d.f_To) then (has d.f_To (cl ds d.f_From), 0) else (false, 2)) := by
  obtain ⟨x, y⟩ := d
  rcases Follows_eq (n := n) (y := y) hl hx hf with ⟨h, e⟩ | ⟨h1, h2, h3, r, h4, e⟩
  · rw [e]; simp only at h ⊢; rw [h]; rfl
  · rw [e, h4.unique (cl_spec hl hx)]; simp only; rw [h1, h2, h3]; rfl

theorem full_eq {n : Int} (h1 : 1 ≤ n) (h2 : n ≤ 8) : IntKind.wrap .i64 (iShl .i64 1 n - 1) = full n := by
  obtain ⟨m, rfl⟩ := Int.eq_ofNat_of_zero_le (show 0 ≤ n by omega)
  have : m = 1 ∨ m = 2 ∨ m = 3 ∨ m = 4 ∨ m = 5 ∨ m = 6 ∨ m = 7 ∨ m = 8 := by omega
  rcases this with rfl | rfl | rfl | rfl | rfl | rfl | rfl | rfl <;> decide +kernel

theorem pow_le {n : Int} (h1 : 1 ≤ n) (h2 : n ≤ 8) : 2 ^ n.toNat ≤ 256 := by
  have : n.toNat ≤ 8 := by omega
  calc 2 ^ n.toNat ≤ 2 ^ 8 := Nat.pow_le_pow_right (by decide) this
    _ = 256 := rfl

theorem isSet_range {n x : Int} (h1 : 1 ≤ n) (h2 : n ≤ 8) : isSet n x = true ↔ 0 ≤ x ∧ x < ((2 ^ n.toNat : Nat) : Int) := by
  unfold isSet; rw [iShl_one h1 h2]; simp

/-- a part of a set is no greater in number -/
theorem le_of_bits {a b : Int} (ha : 0 ≤ a) (ha2 : a < 256) (hb : 0 ≤ b) (hb2 : b < 256) (h : Bits a b) : a ≤ b := by
  by_cases e : a = b
  · omega
  · have := toNat_lt_of_sub (a := a) (b := b) (by unfold wf64; omega) (by unfold wf64; omega) h e
    have e1 : ∀ c : Int, 0 ≤ c → c < 256 → ((V c).toNat : Int) = c := by
      intro c h0 h1
      have := V_toInt (a := c) (by unfold wf64; omega)
      rw [BitVec.toInt_eq_toNat_cond] at this
      split at this <;> omega
    have := e1 a ha ha2
    have := e1 b hb hb2
    omega

/-! ### keys -/
def keysGo (ds : List dpDep) (f : Int) : List Nat → Nat → List Int → List Int
  | [], _, acc => acc
  | _ :: r, k, acc => keysGo ds f r (k + 1) (bif (cl ds (k : Int) == f) && !(acc.any fun y => has y (k : Int)) then acc ++ [(k : Int)] else acc)

def keysOf (n : Int) (ds : List dpDep) : List Int := keysGo ds (full n) (List.range (2 ^ n.toNat)) 0 []

theorem keys_go {ds : List dpDep} (hl : lenOk ds = true) {n : Int} (h1 : 1 ≤ n) (h2 : n ≤ 8) {fuel : Nat} (hf : bigFuel ≤ fuel) : ∀ (r : List Nat) (k : Nat) (acc : List Int), acc.length ≤ k → k + r.length ≤ 256 →
    dp_Keys_l1 fuel n ds dp_Keys_j11 r k acc = some (keysGo ds (full n) r k acc, 0)
  | [], k, acc, _, _ => rfl
  | x :: r, k, acc, ha, hk => by
    simp only [List.length_cons] at hk
    have hk' : ((k : Nat) : Int) < 256 := by omega
    rw [dp_Keys_l1.eq_2, cl_eq hl (by unfold wf64; omega) hf, full_eq h1 h2]
    have hn : decide (0 ≤ n) = true := by simpa using (show 0 ≤ n by omega)
    simp only [Option.bind_some, hn, chk, cond_true]
    unfold keysGo dp_Keys_j17 dp_Keys_j15
    have hlen : lenOk acc = true := lenOk_of (by omega)
    cases hc : (cl ds (k : Int) == full n) with
    | false =>
      simp only [cond_false, Bool.false_and]
      exact keys_go hl h1 h2 hf r (k + 1) acc (by omega) (by omega)
    | true =>
      simp only [cond_true, Bool.true_and]
      rw [containsFunc_int (fun y0 => dp_Keys_1 y0 (k : Int)) (fun y => has y (k : Int)) acc hlen (fun y _ => rfl)]
      simp only [Option.bind_some]
      cases hany : acc.any fun y => has y (k : Int) with
      | true =>
        simp only [Bool.not_true, cond_false]
        exact keys_go hl h1 h2 hf r (k + 1) acc (by omega) (by omega)
      | false =>
        have hcap : capOk 8 (acc ++ [(k : Int)]).length = true := by
          simp only [capOk, Bool.and_eq_true, List.length_append, List.length_singleton]
          exact ⟨Nat.ble_eq_true_of_le (by omega), Nat.ble_eq_true_of_le (by omega)⟩
        simp only [Bool.not_false, cond_true, hcap, chk]
        exact keys_go hl h1 h2 hf r (k + 1) _ (by simp; omega) (by omega)

theorem Keys_val {n : Int} {ds : List dpDep} (hl : lenOk ds = true) {fuel : Nat} (hf : bigFuel ≤ fuel) :
    dp_Keys fuel n ds = some (bif okArgs n ds then (keysOf n ds, 0) else ([], 2)) := by
  unfold dp_Keys dp_closure
  rw [valid_eq hl]
  cases ho : okArgs n ds with
  | false => rfl
  | true =>
    obtain ⟨h1, h2, _⟩ := ok_parts ho
    have hn : decide (0 ≤ n) = true := by simpa using (show 0 ≤ n by omega)
    have hp := pow_le h1 h2
    have hr : lenOk (List.range (2 ^ n.toNat)) = true := lenOk_of (by simp; omega)
    simp only [Option.bind_some, Bool.not_true, cond_false, hn, chk, cond_true]
    rw [iShl_one h1 h2, Int.toNat_natCast, hr]
    simp only [cond_true]
    exact keys_go hl h1 h2 hf _ _ _ (by simp) (by simp; omega)

/-- keys found among the numbers below k -/
structure KeysTo (ds : List dpDep) (f : Int) (k : Nat) (acc : List Int) : Prop where
  rise : acc.Pairwise (· < ·)
  below : ∀ y, y ∈ acc → 0 ≤ y ∧ y < (k : Int) ∧ cl ds y = f
  apart : acc.Pairwise fun y z => has y z = false
  all : ∀ x : Nat, x < k → cl ds (x : Int) = f → ∃ y, y ∈ acc ∧ has y (x : Int) = true

theorem keysGo_to {ds : List dpDep} {f : Int} : ∀ (r : List Nat) (k : Nat) (acc : List Int), KeysTo ds f k acc → KeysTo ds f (k + r.length) (keysGo ds f r k acc)
  | [], k, acc, h => h
  | x :: r, k, acc, h => by
    have e : k + (x :: r).length = (k + 1) + r.length := by simp; omega
    rw [e]
    refine keysGo_to r (k + 1) _ ?_
    cases hc : (cl ds (k : Int) == f) && !(acc.any fun y => has y (k : Int)) with
    | true =>
      simp only [cond_true]
      simp only [Bool.and_eq_true, beq_iff_eq, Bool.not_eq_true', List.any_eq_false] at hc
      refine ⟨?_, ?_, ?_, ?_⟩
      · rw [List.pairwise_append]
        exact ⟨h.rise, List.pairwise_singleton _ _, fun a ha b hb => by simp at hb; subst hb; exact (h.below a ha).2.1⟩
      · intro y hy
        rcases List.mem_append.1 hy with hy | hy
        · obtain ⟨a, b, c⟩ := h.below y hy
          exact ⟨a, by omega, c⟩
        · simp at hy; subst hy
          exact ⟨by omega, by omega, hc.1⟩
      · rw [List.pairwise_append]
        exact ⟨h.apart, List.pairwise_singleton _ _, fun a ha b hb => by simp at hb; subst hb; simpa using hc.2 a ha⟩
      · intro x hx hf
        by_cases hxk : x = k
        · subst hxk
          exact ⟨_, List.mem_append_right _ (List.mem_singleton.2 rfl), has_iff.2 (Bits.refl _)⟩
        · obtain ⟨y, h1, h2⟩ := h.all x (by omega) hf
          exact ⟨y, List.mem_append_left _ h1, h2⟩
    | false =>
      simp only [cond_false]
      refine ⟨h.rise, fun y hy => ?_, h.apart, fun x hx hf => ?_⟩
      · obtain ⟨a, b, c⟩ := h.below y hy
        exact ⟨a, by omega, c⟩
      · by_cases hxk : x = k
        · subst hxk
          rw [hf] at hc
          simp only [beq_self_eq_true, Bool.true_and, Bool.not_eq_false'] at hc
          obtain ⟨y, hy, h2⟩ := List.any_eq_true.1 hc
          exact ⟨y, hy, h2⟩
        · exact h.all x (by omega) hf

theorem keysOf_to (n : Int) (ds : List dpDep) : KeysTo ds (full n) (2 ^ n.toNat) (keysOf n ds) := by
  have := keysGo_to (ds := ds) (f := full n) (List.range (2 ^ n.toNat)) 0 [] ⟨.nil, fun y h => by simp at h, .nil, fun x h => by omega⟩
  simpa [keysOf] using this

end Go.AM
