/-
  CHAPTER 1, PLAIN: where two rows agree. No statement of the seat is proved here.
-/
import Derived.Test.YtombfedoinhafaaALaw4
import Derived.Test.YtombfedoinhafaaG6
set_option linter.unusedVariables false
set_option linter.unusedSimpArgs false
namespace Go.AM

theorem shl_one {k : Nat} (hk : k < 8) (a : Nat) : bit (iShl .i64 1 (k : Int)) a = (a == k) := by
  have : k = 0 ∨ k = 1 ∨ k = 2 ∨ k = 3 ∨ k = 4 ∨ k = 5 ∨ k = 6 ∨ k = 7 := by omega
  have hV : V (iShl .i64 1 (k : Int)) = BitVec.ofNat 64 (2 ^ k) := by
    rcases this with rfl | rfl | rfl | rfl | rfl | rfl | rfl | rfl <;> decide +kernel
  unfold bit
  rw [hV, BitVec.getLsbD_ofNat, Nat.testBit_two_pow]
  by_cases h : a = k
  · subst h; simp; omega
  · have h' : ¬ k = a := fun e => h e.symm
    simp [h, h']

theorem bit_or (a b : Int) (i : Nat) : bit (iOr .i64 a b) i = (bit a i || bit b i) := by
  unfold bit; rw [V_or, BitVec.getLsbD_or]

theorem bits_iff {a b : Int} : Bits a b ↔ ∀ i, bit a i = true → bit b i = true := Iff.rfl

theorem agree_l1 {y : List Int} : ∀ (r : List Int) (k : Nat) (v : Int), k + r.length = y.length → y.length ≤ 8 → wf64 v →
    ∃ w, dp_agree_l1 y dp_agree_j5 r k v = some w ∧ wf64 w ∧ ∀ a, bit w a = (bit v a || (decide (k ≤ a) && (match r[a - k]?, y[a]? with | some s, some t => s == t | _, _ => false)))
  | [], k, v, _, _, hv => ⟨v, rfl, hv, fun a => by simp⟩
  | x :: r, k, v, hk, hy, hv => by
    simp only [List.length_cons] at hk
    have hky : k < y.length := by omega
    have hidx : idx y (k : Int) = some (y[k]) := by
      unfold idx
      rw [if_pos (Int.natCast_nonneg k), Int.toNat_natCast]
      exact List.getElem?_eq_getElem hky
    rw [dp_agree_l1.eq_2, hidx]
    simp only [Option.bind_some]
    unfold dp_agree_j8
    have hk0 : decide (0 ≤ (k : Int)) = true := by simp
    have hstep : ∀ (v' : Int) (b : Bool), (∀ a, bit v' a = (bit v a || (b && a == k))) → (x == y[k]) = b → wf64 v' →
        ∃ w, dp_agree_l1 y dp_agree_j5 r (k + 1) v' = some w ∧ wf64 w ∧ ∀ a, bit w a = (bit v a || (decide (k ≤ a) && (match (x :: r)[a - k]?, y[a]? with | some s, some t => s == t | _, _ => false))) := by
      intro v' b hb he hv'
      obtain ⟨w, e1, e2, e3⟩ := agree_l1 r (k + 1) v' (by omega) hy hv'
      refine ⟨w, e1, e2, fun a => ?_⟩
      rw [e3 a, hb a]
      by_cases h : a = k
      · subst h
        have : ¬ a + 1 ≤ a := by omega
        simp [this, List.getElem?_eq_getElem hky, he]
      · have hak : (a == k) = false := by simpa using h
        by_cases h2 : k ≤ a
        · have h3 : k + 1 ≤ a := by omega
          have h4 : a - k = (a - (k + 1)) + 1 := by omega
          simp [hak, h2, h3, h4]
        · have h3 : ¬ k + 1 ≤ a := by omega
          simp [hak, h2, h3]
    cases he : (x == y[k]) with
    | true =>
      simp only [cond_true, hk0, chk]
      exact hstep _ true (fun a => by rw [bit_or, shl_one (by omega)]; simp) he (wf_or _ _)
    | false =>
      simp only [cond_false]
      exact hstep _ false (fun a => by simp) he hv

/-- where two rows agree -/
def agr (x y : List Int) : Int := (dp_agree x y).getD 0

theorem agree_val {x y : List Int} (h : x.length = y.length) (hy : y.length ≤ 8) : dp_agree x y = some (agr x y) ∧ wf64 (agr x y) ∧ ∀ a, bit (agr x y) a = (match x[a]?, y[a]? with | some s, some t => s == t | _, _ => false) := by
  obtain ⟨w, e1, e2, e3⟩ := agree_l1 (y := y) x 0 0 (by omega) hy (by unfold wf64; omega)
  have hl : lenOk x = true := lenOk_of (by omega)
  have e : dp_agree x y = some w := by
    unfold dp_agree
    rw [hl]
    simpa only [chk, cond_true] using e1
  have ea : agr x y = w := by unfold agr; rw [e]; rfl
  rw [ea]
  refine ⟨e, e2, fun a => ?_⟩
  rw [e3 a]
  have h0 : bit 0 a = false := by
    unfold bit
    have : V 0 = 0#64 := rfl
    rw [this]; simp
  simp [h0]

def tableOk (n : Int) (rows : List (List Int)) : Bool := decide (1 ≤ n) && (decide (n ≤ 8) && (decide (rows.length ≤ 60) && rows.all fun r => (r.length : Int) == n))

theorem containsFunc_rows (g : List Int → Option Bool) (p : List Int → Bool) (a : List (List Int)) (hl : lenOk a = true) (hg : ∀ x, x ∈ a → g x = some (p x)) : sl_ContainsFunc_Lint a g = some (a.any p) := by
  unfold sl_ContainsFunc_Lint sl_IndexFunc_Lint
  rw [hl]
  simp only [chk, cond_true]
  have : ∀ (l : List (List Int)) (k : Nat), (∀ x, x ∈ l → g x = some (p x)) → ∃ r : Int, sl_IndexFunc_Lint_l1 g (sl_IndexFunc_Lint_j4) l k = some r ∧ (decide (r ≥ 0)) = l.any p := by
    intro l
    induction l with
    | nil => intro k _; exact ⟨-1, rfl, rfl⟩
    | cons x l ih =>
      intro k h
      rw [sl_IndexFunc_Lint_l1.eq_2, h x (by simp)]
      simp only [Option.bind_some, List.any_cons]
      cases p x with
      | true => exact ⟨k, rfl, by simp⟩
      | false => simpa using ih (k + 1) (fun x hx => h x (by simp [hx]))
  obtain ⟨r, h1, h2⟩ := this a 0 hg
  rw [h1, ← h2]; rfl

theorem table_val {n : Int} {rows : List (List Int)} (hl : lenOk rows = true) : dp_table n rows = some (tableOk n rows) := by
  unfold dp_table dp_table_j4 tableOk
  by_cases h1 : 1 ≤ n
  · by_cases h2 : n ≤ 8
    · by_cases h3 : rows.length ≤ 60
      · have h3' : (rows.length : Int) ≤ 60 := by omega
        rw [containsFunc_rows (fun y0 => dp_table_1 y0 n) (fun r => (r.length : Int) != n) rows hl (fun x _ => rfl)]
        simp only [ge_iff_le, h1, h2, h3, h3', decide_true, cond_true, Bool.true_and, Option.bind_some]
        congr 1
        clear hl h3 h3'
        induction rows with
        | nil => rfl
        | cons x l ih => simp only [List.any_cons, List.all_cons, Bool.not_or, ih]; simp [bne]
      · have h3' : ¬ (rows.length : Int) ≤ 60 := by omega
        simp [h1, h2, h3, h3']
    · simp [h1, h2]
  · simp [h1]

/-- a dependency holds of two rows -/
def fine (d : dpDep) (x y : List Int) : Bool := !has d.f_From (agr x y) || has d.f_To (agr x y)

theorem holds_l2 {n : Nat} (hn : n ≤ 8) {d : dpDep} {x : List Int} (hx : x.length = n) (K : Option (Bool × Int)) : ∀ (r : List (List Int)) (k : Nat), (∀ y, y ∈ r → y.length = n) →
    dp_Holds_l2 x d K r k = bif r.all (fine d x) then K else some (false, 0)
  | [], k, _ => rfl
  | y :: r, k, h => by
    have hy := h y (by simp)
    obtain ⟨e1, _, _⟩ := agree_val (x := x) (y := y) (by omega) (by omega)
    rw [dp_Holds_l2.eq_2, e1]
    simp only [Option.bind_some, dp_Holds_j21, List.all_cons]
    have ih := holds_l2 hn (d := d) hx K r (k + 1) (fun z hz => h z (by simp [hz]))
    have q1 : (iAndNot .i64 d.f_From (agr x y) == 0) = has d.f_From (agr x y) := rfl
    have q2 : (iAndNot .i64 d.f_To (agr x y) != 0) = !has d.f_To (agr x y) := rfl
    rw [q1, q2, ih]
    unfold fine
    cases has d.f_From (agr x y) <;> cases has d.f_To (agr x y) <;> simp

def pairsFine (d : dpDep) : List (List Int) → List (List Int) → Bool
  | _, [] => true
  | pre, x :: r => pre.all (fine d x) && pairsFine d (pre ++ [x]) r

theorem holds_l1 {n : Nat} (hn : n ≤ 8) {d : dpDep} {rows : List (List Int)} (hl : lenOk rows = true) (hr : ∀ y, y ∈ rows → y.length = n) : ∀ (r pre : List (List Int)), pre ++ r = rows →
    dp_Holds_l1 rows d dp_Holds_j11 r pre.length = some (pairsFine d pre r, 0)
  | [], pre, _ => rfl
  | x :: r, pre, hp => by
    have hsub : sub rows 0 (pre.length : Int) = some pre := by
      unfold sub
      rw [if_pos ⟨Int.le_refl 0, Int.natCast_nonneg _, by rw [← hp]; simp; omega⟩, ← hp]
      simp
    have hlp : lenOk pre = true := by
      have := Nat.le_of_ble_eq_true hl
      rw [← hp] at this
      simp at this
      exact lenOk_of (by omega)
    rw [dp_Holds_l1.eq_2, hsub]
    simp only [Option.bind_some, hlp, chk, cond_true]
    rw [holds_l2 hn (hr x (by rw [← hp]; simp)) _ pre 0 (fun y hy => hr y (by rw [← hp]; simp [hy]))]
    unfold dp_Holds_j13
    have ih := holds_l1 hn (d := d) hl hr r (pre ++ [x]) (by simpa using hp)
    simp only [List.length_append, List.length_singleton] at ih
    rw [ih, show pairsFine d pre (x :: r) = (pre.all (fine d x) && pairsFine d (pre ++ [x]) r) from rfl]
    cases pre.all (fine d x) <;> simp

theorem Holds_val {n : Int} {rows : List (List Int)} {d : dpDep} (hl : lenOk rows = true) :
    dp_Holds n rows d = some (bif tableOk n rows && (isSet n d.f_From && isSet n d.f_To) then (pairsFine d [] rows, 0) else (false, 2)) := by
  unfold dp_Holds dp_Holds_j6
  rw [table_val hl]
  cases ht : tableOk n rows with
  | false => simp
  | true =>
    have ht' := ht
    simp only [tableOk, Bool.and_eq_true, decide_eq_true_eq, List.all_eq_true, beq_iff_eq] at ht'
    obtain ⟨h1, h2, _, h4⟩ := ht'
    simp only [Option.bind_some, Bool.not_true, cond_false]
    rw [sets_eq (by omega) (by rfl)]
    cases hs : isSet n d.f_From && isSet n d.f_To with
    | false => simp [hs]
    | true =>
      have := holds_l1 (n := n.toNat) (by omega) (d := d) hl (fun y hy => by have := h4 y hy; omega) rows [] rfl
      simp only [List.length_nil] at this
      simp [hs, hl, chk, this]

end Go.AM
