/-
  PLAIN FACTS: the printed pdqsort (at dependencies) sorts; second part. No statement of the seat is proved here.
-/
import Derived.Test.YtmfdgonjnckdhaaCLawPdq
set_option linter.unusedVariables false
set_option linter.unusedSimpArgs false
set_option maxRecDepth 100000
namespace Go.AM
open Go.Sort

variable {g : Int → Int → Option Int} {lt : Int → Int → Bool} {A : Int → Prop}

/-! ### the shifting sort -/
theorem pscan (hg : Cmp g lt A) {n b : Nat} (hn : n ≤ 1152921504606846976) (hb : b ≤ n) {d : Array Int} (hs : d.size = n) (hA : AllA A d) (K : Int → Option (Bool × List Int)) : ∀ (k i m : Nat), b - i = k → k < m → 1 ≤ i →
    sl_partialInsertionSortCmpFunc_int_l2 n (b : Int) g d.toList K m ((i : Nat) : Int) = K ((scanSorted lt d b i : Nat) : Int) := by
  intro k
  induction k with
  | zero =>
    intro i m hk hm hi
    obtain ⟨m', rfl⟩ : ∃ m', m = m' + 1 := ⟨m - 1, by omega⟩
    rw [sl_partialInsertionSortCmpFunc_int_l2.eq_2, scanSorted]
    have h0 : decide (((i : Nat) : Int) < (b : Int)) = false := decide_eq_false (by omega)
    have h1 : ¬ i < b := by omega
    rw [h0]
    simp only [h1, decide_false, Bool.false_and, Bool.false_eq_true, if_false, cond_false]
    rfl
  | succ k ih =>
    intro i m hk hm hi
    obtain ⟨m', rfl⟩ : ∃ m', m = m' + 1 := ⟨m - 1, by omega⟩
    rw [sl_partialInsertionSortCmpFunc_int_l2.eq_2, scanSorted]
    have h0 : decide (((i : Nat) : Int) < (b : Int)) = true := decide_eq_true (by omega)
    have h1 : i < b := by omega
    obtain ⟨w, hw, hd⟩ := hg d[i]! d[i - 1]! (hA _ (by omega)) (hA _ (by omega))
    rw [wm1 (by omega) hi]
    simp only [h0, bnd (show i < n by omega), bnd (show i - 1 < n by omega), gl (d := d) (show i < d.size by omega), gl (d := d) (show i - 1 < d.size by omega), hw, hd, chk, cond_true, Option.bind_some]
    unfold sl_partialInsertionSortCmpFunc_int_j19
    rw [wp1 (by omega)]
    cases hl : lt d[i]! d[i - 1]! with
    | true => simp
    | false =>
      simp only [Bool.not_false, cond_true, h1, decide_true, Bool.and_self, if_true]
      exact ih (i + 1) m' (by omega) (by omega) (by omega)

theorem pdown (hg : Cmp g lt A) {n : Nat} (hn : n ≤ 1152921504606846976) (K : List Int → Option (Bool × List Int)) : ∀ (j m : Nat) (d : Array Int), j < m → j < n → d.size = n → AllA A d →
    sl_partialInsertionSortCmpFunc_int_l3 n g K m d.toList ((j : Nat) : Int) = K (shiftDown lt j d).toList
  | 0, m, d, hm, hj, hs, hA => by
    obtain ⟨m', rfl⟩ : ∃ m', m = m' + 1 := ⟨m - 1, by omega⟩
    rw [sl_partialInsertionSortCmpFunc_int_l3.eq_2]
    have h0 : decide (((0 : Nat) : Int) ≥ 1) = false := decide_eq_false (by omega)
    rw [h0]; rfl
  | j + 1, m, d, hm, hj, hs, hA => by
    obtain ⟨m', rfl⟩ : ∃ m', m = m' + 1 := ⟨m - 1, by omega⟩
    rw [sl_partialInsertionSortCmpFunc_int_l3.eq_2, shiftDown]
    have h0 : decide (((j + 1 : Nat) : Int) ≥ 1) = true := decide_eq_true (by omega)
    have e1 := wm1 (i := j + 1) (by omega) (by omega)
    simp only [Nat.add_sub_cancel] at e1
    obtain ⟨w, hw, hd⟩ := hg d[j + 1]! d[j]! (hA _ (by omega)) (hA _ (by omega))
    simp only [h0, e1, bnd (show j + 1 < n by omega), bnd (show j < n by omega), gl (d := d) (show j + 1 < d.size by omega), gl (d := d) (show j < d.size by omega), hw, hd, chk, cond_true, Option.bind_some]
    cases hl : lt d[j + 1]! d[j]! with
    | false => simp
    | true =>
      rw [upd1 (by omega)]
      simp only [Bool.not_true, cond_false, Option.bind_some]
      rw [upd2 (by omega)]
      simp only [Option.bind_some]
      rw [pdown hg hn K j m' (swp d (j + 1) j) (by omega) (by omega) (by rw [size_swp]; exact hs) (hA.swp (by omega) (by omega))]
      simp

theorem down_keep : ∀ (j : Nat) (d : Array Int), j < d.size → AllA A d → (shiftDown lt j d).size = d.size ∧ AllA A (shiftDown lt j d)
  | 0, d, _, h => ⟨rfl, h⟩
  | j + 1, d, hj, h => by
    rw [shiftDown]
    split
    · exact ⟨rfl, h⟩
    · obtain ⟨x, y⟩ := down_keep j (swp d (j + 1) j) (by rw [size_swp]; omega) (h.swp (by omega) (by omega))
      exact ⟨by rw [x, size_swp], y⟩

theorem pups (hg : Cmp g lt A) {n b : Nat} (hn : n ≤ 1152921504606846976) (hb : b ≤ n) (v26 : Int) (R : Option (Bool × List Int)) (K : List Int → Int → Option (Bool × List Int)) : ∀ (k j m : Nat) (d : Array Int), b - j = k → k < m → 1 ≤ j → d.size = n → AllA A d →
    (∀ d', d' = shiftUp lt b j d → d'.size = n → AllA A d' → K d'.toList v26 = R) →
    sl_partialInsertionSortCmpFunc_int_l4 n (b : Int) g v26 K m d.toList ((j : Nat) : Int) = R := by
  intro k
  induction k with
  | zero =>
    intro j m d hk hm hj hs hA hR
    obtain ⟨m', rfl⟩ : ∃ m', m = m' + 1 := ⟨m - 1, by omega⟩
    rw [sl_partialInsertionSortCmpFunc_int_l4.eq_2]
    have h0 : decide (((j : Nat) : Int) < (b : Int)) = false := decide_eq_false (by omega)
    rw [h0]
    exact hR d (by rw [shiftUp, if_neg (by omega)]) hs hA
  | succ k ih =>
    intro j m d hk hm hj hs hA hR
    obtain ⟨m', rfl⟩ : ∃ m', m = m' + 1 := ⟨m - 1, by omega⟩
    rw [sl_partialInsertionSortCmpFunc_int_l4.eq_2]
    rw [shiftUp, if_pos (by omega)] at hR
    have h0 : decide (((j : Nat) : Int) < (b : Int)) = true := decide_eq_true (by omega)
    obtain ⟨w, hw, hd⟩ := hg d[j]! d[j - 1]! (hA _ (by omega)) (hA _ (by omega))
    rw [wm1 (by omega) hj]
    simp only [h0, bnd (show j < n by omega), bnd (show j - 1 < n by omega), gl (d := d) (show j < d.size by omega), gl (d := d) (show j - 1 < d.size by omega), hw, hd, chk, cond_true, Option.bind_some]
    cases hl : lt d[j]! d[j - 1]! with
    | false =>
      rw [hl] at hR
      simp only [Bool.not_false, cond_true]
      exact hR d (by simp) hs hA
    | true =>
      rw [hl] at hR
      rw [upd1 (by omega)]
      simp only [Bool.not_true, cond_false, Option.bind_some]
      rw [upd2 (by omega)]
      simp only [Option.bind_some]
      rw [wp1 (by omega)]
      exact ih (j + 1) m' _ (by omega) (by omega) (by omega) (by rw [size_swp]; exact hs) (hA.swp (by omega) (by omega)) (fun d' e => hR d' (by simpa using e))

theorem ppart_l1 (hg : Cmp g lt A) {n a b fuel : Nat} (hn : n ≤ 1152921504606846976) (hb : b ≤ n) (hf : n < fuel) : ∀ (s i m : Nat) (d : Array Int), s ≤ 5 → s < m → a < i → i ≤ b → d.size = n → AllA A d →
    sl_partialInsertionSortCmpFunc_int_l1 fuel n (a : Int) (b : Int) g sl_partialInsertionSortCmpFunc_int_j8 m d.toList ((i : Nat) : Int) (5 - ((s : Nat) : Int)) = some ((partialIns lt a b s i d).2, (partialIns lt a b s i d).1.toList)
  | 0, i, m, d, hs5, hm, hai, hib, hs, hA => by
    obtain ⟨m', rfl⟩ : ∃ m', m = m' + 1 := ⟨m - 1, by omega⟩
    rw [sl_partialInsertionSortCmpFunc_int_l1.eq_2]
    rfl
  | s + 1, i, m, d, hs5, hm, hai, hib, hs, hA => by
    obtain ⟨m', rfl⟩ : ∃ m', m = m' + 1 := ⟨m - 1, by omega⟩
    rw [sl_partialInsertionSortCmpFunc_int_l1.eq_2, partialIns_succ]
    have h0 : decide (5 - ((s + 1 : Nat) : Int) < 5) = true := decide_eq_true (by omega)
    rw [h0]
    simp only [cond_true]
    rw [pscan hg hn hb hs hA _ _ _ _ rfl (by omega) (by omega)]
    have hsc : i ≤ scanSorted lt d b i ∧ scanSorted lt d b i ≤ b := by
      have : ∀ (k i : Nat), b - i = k → i ≤ b → i ≤ scanSorted lt d b i ∧ scanSorted lt d b i ≤ b := by
        intro k
        induction k with
        | zero => intro i hk hi; rw [scanSorted]; simp only [show ¬ i < b by omega, decide_false, Bool.false_and, Bool.false_eq_true, if_false]; omega
        | succ k ih =>
          intro i hk hi
          rw [scanSorted]
          split
          · have := ih (i + 1) (by omega) (by omega); omega
          · omega
      exact this _ i rfl hib
    obtain ⟨i2, hi2⟩ : ∃ i2, scanSorted lt d b i = i2 := ⟨_, rfl⟩
    rw [hi2] at hsc ⊢
    unfold sl_partialInsertionSortCmpFunc_int_j16
    by_cases hib2 : i2 = b
    · have : (((i2 : Nat) : Int) == (b : Int)) = true := by rw [beq_iff_eq]; omega
      rw [this, if_pos hib2]; rfl
    have e1 : (((i2 : Nat) : Int) == (b : Int)) = false := by rw [beq_eq_false_iff_ne]; omega
    rw [e1, if_neg hib2]
    simp only [cond_false]
    rw [wmm (by omega) (by omega)]
    by_cases h50 : b - a < 50
    · have : decide (((b - a : Nat) : Int) < 50) = true := decide_eq_true (by omega)
      rw [this, if_pos h50]; rfl
    have e2 : decide (((b - a : Nat) : Int) < 50) = false := decide_eq_false (by omega)
    rw [e2, if_neg h50, wm1 (by omega) (by omega)]
    simp only [cond_false, bnd (show i2 < n by omega), bnd (show i2 - 1 < n by omega), gl (d := d) (show i2 < d.size by omega), gl (d := d) (show i2 - 1 < d.size by omega), chk, cond_true, Option.bind_some]
    rw [upd1 (by omega)]
    simp only [Option.bind_some]
    rw [upd2 (by omega)]
    simp only [Option.bind_some]
    rw [wmm (by omega) (by omega)]
    obtain ⟨d1, hd1⟩ : ∃ d1, swp d i2 (i2 - 1) = d1 := ⟨_, rfl⟩
    have s1 : d1.size = n := by rw [← hd1, size_swp]; exact hs
    have A1 : AllA A d1 := hd1 ▸ hA.swp (by omega) (by omega)
    rw [hd1]
    obtain ⟨d2, hd2⟩ : ∃ d2, fixDown lt a i2 d1 = d2 := ⟨_, rfl⟩
    have k2 : d2.size = n ∧ AllA A d2 := by
      rw [← hd2]; unfold fixDown
      split
      · obtain ⟨x, y⟩ := down_keep (lt := lt) (i2 - 1) d1 (by omega) A1
        exact ⟨x.trans s1, y⟩
      · exact ⟨s1, A1⟩
    have main : sl_partialInsertionSortCmpFunc_int_j44 fuel n (b : Int) g ((i2 : Nat) : Int) (sl_partialInsertionSortCmpFunc_int_j15 (5 - ((s + 1 : Nat) : Int)) (sl_partialInsertionSortCmpFunc_int_l1 fuel n (a : Int) (b : Int) g sl_partialInsertionSortCmpFunc_int_j8 m')) d2.toList
        = some ((partialIns lt a b s i2 (fixUp lt b i2 d2)).2, (partialIns lt a b s i2 (fixUp lt b i2 d2)).1.toList) := by
      unfold sl_partialInsertionSortCmpFunc_int_j44
      rw [wmm (by omega) (by omega)]
      have fin : ∀ d3 : Array Int, d3 = fixUp lt b i2 d2 → d3.size = n → AllA A d3 → sl_partialInsertionSortCmpFunc_int_j15 (5 - ((s + 1 : Nat) : Int)) (sl_partialInsertionSortCmpFunc_int_l1 fuel n (a : Int) (b : Int) g sl_partialInsertionSortCmpFunc_int_j8 m') d3.toList ((i2 : Nat) : Int)
          = some ((partialIns lt a b s i2 (fixUp lt b i2 d2)).2, (partialIns lt a b s i2 (fixUp lt b i2 d2)).1.toList) := by
        intro d3 e3 s3 A3
        unfold sl_partialInsertionSortCmpFunc_int_j15
        rw [wrap64 (by omega) (by omega), show 5 - ((s + 1 : Nat) : Int) + 1 = 5 - ((s : Nat) : Int) by omega, ← e3]
        exact ppart_l1 hg hn hb hf s i2 m' d3 (by omega) (by omega) (by omega) (by omega) s3 A3
      by_cases hbi : b - i2 ≥ 2
      · have : decide (((b - i2 : Nat) : Int) ≥ 2) = true := decide_eq_true (by omega)
        rw [this, wp1 (by omega)]
        simp only [cond_true]
        refine pups hg hn hb _ _ _ _ _ _ d2 rfl (by omega) (by omega) k2.1 k2.2 fun d' e1 e2 e3 => fin d' ?_ e2 e3
        unfold fixUp; rw [if_pos hbi]; exact e1
      · have : decide (((b - i2 : Nat) : Int) ≥ 2) = false := decide_eq_false (by omega)
        rw [this]
        simp only [cond_false]
        exact fin d2 (by unfold fixUp; rw [if_neg hbi]) k2.1 k2.2
    rw [hd2]
    by_cases hia : i2 - a ≥ 2
    · have : decide (((i2 - a : Nat) : Int) ≥ 2) = true := decide_eq_true (by omega)
      rw [this]
      simp only [cond_true]
      rw [pdown hg hn _ (i2 - 1) fuel d1 (by omega) (by omega) s1 A1]
      have e : shiftDown lt (i2 - 1) d1 = d2 := by rw [← hd2]; unfold fixDown; rw [if_pos hia]
      rw [e]
      exact main
    · have : decide (((i2 - a : Nat) : Int) ≥ 2) = false := decide_eq_false (by omega)
      rw [this]
      simp only [cond_false]
      have e : d1 = d2 := by rw [← hd2]; unfold fixDown; rw [if_neg hia]
      rw [e]
      exact main

theorem ppartial (hg : Cmp g lt A) {n a b fuel : Nat} (hn : n ≤ 1152921504606846976) (hab : a < b) (hb : b ≤ n) (hf : n + 10 < fuel) {d : Array Int} (hs : d.size = n) (hA : AllA A d) :
    sl_partialInsertionSortCmpFunc_int fuel d.toList n (a : Int) (b : Int) g = some ((partialInsertionSort lt d a b).2, (partialInsertionSort lt d a b).1.toList) := by
  unfold sl_partialInsertionSortCmpFunc_int partialInsertionSort
  rw [wp1 (by omega)]
  exact ppart_l1 hg hn hb (by omega) 5 (a + 1) fuel d (by omega) (by omega) (by omega) (by omega) hs hA

end Go.AM
