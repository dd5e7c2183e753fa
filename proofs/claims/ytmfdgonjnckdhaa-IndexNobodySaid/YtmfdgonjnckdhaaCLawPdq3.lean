/-
  PLAIN FACTS: the printed pdqsort (at dependencies) sorts; third part: the partitions. No statement of the seat is proved here.
-/
import Derived.Test.YtmfdgonjnckdhaaCLawPdq2
set_option linter.unusedVariables false
set_option linter.unusedSimpArgs false
set_option maxRecDepth 100000
namespace Go.AM
open Go.Sort

variable {g : Int → Int → Option Int} {lt : Int → Int → Bool} {A : Int → Prop}

/-! ### the scans of partition -/
theorem pp_l1 (hg : Cmp g lt A) {n a b : Nat} (hn : n ≤ 1152921504606846976) (hb : b ≤ n) (hb1 : 1 ≤ b) (ha : a < n) {d : Array Int} (hs : d.size = n) (hA : AllA A d) (K : Int → Option ((Int × Bool) × List Int)) : ∀ (k i m : Nat), b - i = k → k < m →
    sl_partitionCmpFunc_int_l1 n (a : Int) (b : Int) g d.toList K m ((i : Nat) : Int) = K ((scanUp (fun x => lt x d[a]!) d (b - 1) i : Nat) : Int) := by
  intro k
  induction k with
  | zero =>
    intro i m hk hm
    obtain ⟨m', rfl⟩ : ∃ m', m = m' + 1 := ⟨m - 1, by omega⟩
    rw [sl_partitionCmpFunc_int_l1.eq_2, scanUp, wm1 (by omega) hb1]
    have h0 : decide (((i : Nat) : Int) ≤ ((b - 1 : Nat) : Int)) = false := decide_eq_false (by omega)
    rw [h0]
    simp only [show ¬ i ≤ b - 1 by omega, decide_false, Bool.false_and, Bool.false_eq_true, if_false, cond_false]
    rfl
  | succ k ih =>
    intro i m hk hm
    obtain ⟨m', rfl⟩ : ∃ m', m = m' + 1 := ⟨m - 1, by omega⟩
    rw [sl_partitionCmpFunc_int_l1.eq_2, scanUp, wm1 (by omega) hb1]
    have h0 : decide (((i : Nat) : Int) ≤ ((b - 1 : Nat) : Int)) = true := decide_eq_true (by omega)
    obtain ⟨w, hw, hd⟩ := hg d[i]! d[a]! (hA _ (by omega)) (hA _ (by omega))
    simp only [h0, bnd (show i < n by omega), bnd ha, gl (d := d) (show i < d.size by omega), gl (d := d) (show a < d.size by omega), hw, hd, chk, cond_true, Option.bind_some]
    unfold sl_partitionCmpFunc_int_j23
    rw [wp1 (by omega)]
    cases hl : lt d[i]! d[a]! with
    | false => simp
    | true =>
      simp only [cond_true, show i ≤ b - 1 by omega, decide_true, Bool.and_self, if_true]
      exact ih (i + 1) m' (by omega) (by omega)

theorem pp_l4 (hg : Cmp g lt A) {n a j : Nat} (hn : n ≤ 1152921504606846976) (hj : j < n) (ha : a < n) {d : Array Int} (hs : d.size = n) (hA : AllA A d) (K : Int → Option ((Int × Bool) × List Int)) : ∀ (k i m : Nat), j + 1 - i = k → k < m →
    sl_partitionCmpFunc_int_l4 n (a : Int) g d.toList ((j : Nat) : Int) K m ((i : Nat) : Int) = K ((scanUp (fun x => lt x d[a]!) d j i : Nat) : Int) := by
  intro k
  induction k with
  | zero =>
    intro i m hk hm
    obtain ⟨m', rfl⟩ : ∃ m', m = m' + 1 := ⟨m - 1, by omega⟩
    rw [sl_partitionCmpFunc_int_l4.eq_2, scanUp]
    have h0 : decide (((i : Nat) : Int) ≤ ((j : Nat) : Int)) = false := decide_eq_false (by omega)
    rw [h0]
    simp only [show ¬ i ≤ j by omega, decide_false, Bool.false_and, Bool.false_eq_true, if_false, cond_false]
    rfl
  | succ k ih =>
    intro i m hk hm
    obtain ⟨m', rfl⟩ : ∃ m', m = m' + 1 := ⟨m - 1, by omega⟩
    rw [sl_partitionCmpFunc_int_l4.eq_2, scanUp]
    have h0 : decide (((i : Nat) : Int) ≤ ((j : Nat) : Int)) = true := decide_eq_true (by omega)
    obtain ⟨w, hw, hd⟩ := hg d[i]! d[a]! (hA _ (by omega)) (hA _ (by omega))
    simp only [h0, bnd (show i < n by omega), bnd ha, gl (d := d) (show i < d.size by omega), gl (d := d) (show a < d.size by omega), hw, hd, chk, cond_true, Option.bind_some]
    unfold sl_partitionCmpFunc_int_j76
    rw [wp1 (by omega)]
    cases hl : lt d[i]! d[a]! with
    | false => simp
    | true =>
      simp only [cond_true, show i ≤ j by omega, decide_true, Bool.and_self, if_true]
      exact ih (i + 1) m' (by omega) (by omega)

theorem pp_l2 (hg : Cmp g lt A) {n a i : Nat} (hn : n ≤ 1152921504606846976) (hi : 1 ≤ i) (ha : a < n) {d : Array Int} (hs : d.size = n) (hA : AllA A d) (K : Int → Option ((Int × Bool) × List Int)) : ∀ (j m : Nat), j < n → j < m →
    sl_partitionCmpFunc_int_l2 n (a : Int) g d.toList ((i : Nat) : Int) K m ((j : Nat) : Int) = K ((scanDown (fun x => !lt x d[a]!) d i j : Nat) : Int)
  | 0, m, hj, hm => by
    obtain ⟨m', rfl⟩ : ∃ m', m = m' + 1 := ⟨m - 1, by omega⟩
    rw [sl_partitionCmpFunc_int_l2.eq_2, scanDown]
    have h0 : decide (((i : Nat) : Int) ≤ ((0 : Nat) : Int)) = false := decide_eq_false (by omega)
    rw [h0]; rfl
  | j + 1, m, hj, hm => by
    obtain ⟨m', rfl⟩ : ∃ m', m = m' + 1 := ⟨m - 1, by omega⟩
    rw [sl_partitionCmpFunc_int_l2.eq_2, scanDown]
    by_cases hij : i ≤ j + 1
    · have h0 : decide (((i : Nat) : Int) ≤ ((j + 1 : Nat) : Int)) = true := decide_eq_true (by omega)
      obtain ⟨w, hw, hd⟩ := hg d[j + 1]! d[a]! (hA _ (by omega)) (hA _ (by omega))
      simp only [h0, bnd hj, bnd ha, gl (d := d) (show j + 1 < d.size by omega), gl (d := d) (show a < d.size by omega), hw, hd, chk, cond_true, Option.bind_some]
      unfold sl_partitionCmpFunc_int_j34
      have e1 := wm1 (i := j + 1) (by omega) (by omega)
      simp only [Nat.add_sub_cancel] at e1
      rw [e1]
      cases hl : lt d[j + 1]! d[a]! with
      | true => simp
      | false =>
        simp only [Bool.not_false, cond_true, hij, decide_true, Bool.and_self, if_true]
        exact pp_l2 hg hn hi ha hs hA K j m' (by omega) (by omega)
    · have h0 : decide (((i : Nat) : Int) ≤ ((j + 1 : Nat) : Int)) = false := decide_eq_false (by omega)
      rw [h0]
      simp only [hij, decide_false, Bool.false_and, Bool.false_eq_true, if_false, cond_false]
      rfl

theorem pp_l5 (hg : Cmp g lt A) {n a i : Nat} (hn : n ≤ 1152921504606846976) (hi : 1 ≤ i) (ha : a < n) {d : Array Int} (hs : d.size = n) (hA : AllA A d) (K : Int → Option ((Int × Bool) × List Int)) : ∀ (j m : Nat), j < n → j < m →
    sl_partitionCmpFunc_int_l5 n (a : Int) g d.toList ((i : Nat) : Int) K m ((j : Nat) : Int) = K ((scanDown (fun x => !lt x d[a]!) d i j : Nat) : Int)
  | 0, m, hj, hm => by
    obtain ⟨m', rfl⟩ : ∃ m', m = m' + 1 := ⟨m - 1, by omega⟩
    rw [sl_partitionCmpFunc_int_l5.eq_2, scanDown]
    have h0 : decide (((i : Nat) : Int) ≤ ((0 : Nat) : Int)) = false := decide_eq_false (by omega)
    rw [h0]; rfl
  | j + 1, m, hj, hm => by
    obtain ⟨m', rfl⟩ : ∃ m', m = m' + 1 := ⟨m - 1, by omega⟩
    rw [sl_partitionCmpFunc_int_l5.eq_2, scanDown]
    by_cases hij : i ≤ j + 1
    · have h0 : decide (((i : Nat) : Int) ≤ ((j + 1 : Nat) : Int)) = true := decide_eq_true (by omega)
      obtain ⟨w, hw, hd⟩ := hg d[j + 1]! d[a]! (hA _ (by omega)) (hA _ (by omega))
      simp only [h0, bnd hj, bnd ha, gl (d := d) (show j + 1 < d.size by omega), gl (d := d) (show a < d.size by omega), hw, hd, chk, cond_true, Option.bind_some]
      unfold sl_partitionCmpFunc_int_j87
      have e1 := wm1 (i := j + 1) (by omega) (by omega)
      simp only [Nat.add_sub_cancel] at e1
      rw [e1]
      cases hl : lt d[j + 1]! d[a]! with
      | true => simp
      | false =>
        simp only [Bool.not_false, cond_true, hij, decide_true, Bool.and_self, if_true]
        exact pp_l5 hg hn hi ha hs hA K j m' (by omega) (by omega)
    · have h0 : decide (((i : Nat) : Int) ≤ ((j + 1 : Nat) : Int)) = false := decide_eq_false (by omega)
      rw [h0]
      simp only [hij, decide_false, Bool.false_and, Bool.false_eq_true, if_false, cond_false]
      rfl

/-- a swap that the printed text makes, with what follows -/
theorem pswp {n i j : Nat} {d : Array Int} (hs : d.size = n) (hi : i < n) (hj : j < n) {β : Type} (N : List Int → Option β) :
    (chk (decide ((0 : Int) ≤ ((j : Nat) : Int) ∧ ((j : Nat) : Int) < ((n : Nat) : Int))) ((d.toList[0 + Int.toNat ((j : Nat) : Int)]?).bind fun e => (chk (decide ((0 : Int) ≤ ((i : Nat) : Int) ∧ ((i : Nat) : Int) < ((n : Nat) : Int))) ((d.toList[0 + Int.toNat ((i : Nat) : Int)]?).bind fun e' =>
      (chk (decide ((0 : Int) ≤ ((i : Nat) : Int) ∧ ((i : Nat) : Int) < ((n : Nat) : Int))) ((upd d.toList (0 + Int.toNat ((i : Nat) : Int)) e).bind fun u => (chk (decide ((0 : Int) ≤ ((j : Nat) : Int) ∧ ((j : Nat) : Int) < ((n : Nat) : Int))) ((upd u (0 + Int.toNat ((j : Nat) : Int)) e').bind fun u' => N u'))))))))
    = N (swp d i j).toList := by
  simp only [bnd hi, bnd hj, gl (d := d) (show i < d.size by omega), gl (d := d) (show j < d.size by omega), chk, cond_true, Option.bind_some]
  rw [upd1 (by omega)]
  simp only [Option.bind_some]
  rw [upd2 (by omega)]
  rfl

theorem pp_l3 (hg : Cmp g lt A) {n a fuel : Nat} (hn : n ≤ 1152921504606846976) (ha : a < n) (hf : n + 10 < fuel) : ∀ (k i j m : Nat) (d : Array Int), j + 1 - i ≤ k → k < m → a < i → i ≤ j + 1 → j < n → d.size = n → AllA A d →
    (partLoop lt a i j d).1 < n ∧ sl_partitionCmpFunc_int_l3 fuel n (a : Int) g (sl_partitionCmpFunc_int_j69 n (a : Int)) m d.toList ((i : Nat) : Int) ((j : Nat) : Int)
      = some ((((partLoop lt a i j d).1 : Int), false), (swp (partLoop lt a i j d).2 (partLoop lt a i j d).1 a).toList) := by
  intro k
  induction k with
  | zero =>
    intro i j m d hk hm hi hij hj hs hA
    obtain ⟨m', rfl⟩ : ∃ m', m = m' + 1 := ⟨m - 1, by omega⟩
    rw [sl_partitionCmpFunc_int_l3.eq_2, pp_l4 hg hn hj ha hs hA _ _ _ _ rfl (by omega), partLoop_eq]
    unfold sl_partitionCmpFunc_int_j73
    have u1 := scanUp_ge (fun x => lt x d[a]!) d j i
    obtain ⟨i2, hi2⟩ : ∃ i2, scanUp (fun x => lt x d[a]!) d j i = i2 := ⟨_, rfl⟩
    rw [hi2] at u1 ⊢
    rw [pp_l5 hg hn (by omega) ha hs hA _ _ _ hj (by omega)]
    have u2 := scanDown_le (fun x => !lt x d[a]!) d i2 j
    obtain ⟨j2, hj2⟩ : ∃ j2, scanDown (fun x => !lt x d[a]!) d i2 j = j2 := ⟨_, rfl⟩
    rw [hj2] at u2 ⊢
    have hgt : i2 > j2 := by omega
    rw [if_pos hgt]
    refine ⟨by simp only; omega, ?_⟩
    unfold sl_partitionCmpFunc_int_j84
    have h0 : decide (((i2 : Nat) : Int) > ((j2 : Nat) : Int)) = true := decide_eq_true (by omega)
    rw [h0]
    simp only [cond_true]
    unfold sl_partitionCmpFunc_int_j69
    exact pswp hs (by omega) ha (fun u => some ((((j2 : Nat) : Int), false), u))
  | succ k ih =>
    intro i j m d hk hm hi hij hj hs hA
    obtain ⟨m', rfl⟩ : ∃ m', m = m' + 1 := ⟨m - 1, by omega⟩
    rw [sl_partitionCmpFunc_int_l3.eq_2, pp_l4 hg hn hj ha hs hA _ _ _ _ rfl (by omega), partLoop_eq]
    unfold sl_partitionCmpFunc_int_j73
    have u1 := scanUp_ge (fun x => lt x d[a]!) d j i
    obtain ⟨i2, hi2⟩ : ∃ i2, scanUp (fun x => lt x d[a]!) d j i = i2 := ⟨_, rfl⟩
    rw [hi2] at u1 ⊢
    rw [pp_l5 hg hn (by omega) ha hs hA _ _ _ hj (by omega)]
    have u2 := scanDown_spec (fun x => !lt x d[a]!) d i2 j
    have u3 := scanUp_spec (fun x => lt x d[a]!) d j _ i rfl
    rw [hi2] at u3
    obtain ⟨j2, hj2⟩ : ∃ j2, scanDown (fun x => !lt x d[a]!) d i2 j = j2 := ⟨_, rfl⟩
    rw [hj2] at u2 ⊢
    by_cases hgt : i2 > j2
    · rw [if_pos hgt]
      refine ⟨by simp only; omega, ?_⟩
      unfold sl_partitionCmpFunc_int_j84
      have h0 : decide (((i2 : Nat) : Int) > ((j2 : Nat) : Int)) = true := decide_eq_true (by omega)
      rw [h0]
      simp only [cond_true]
      unfold sl_partitionCmpFunc_int_j69
      exact pswp hs (by omega) ha (fun u => some ((((j2 : Nat) : Int), false), u))
    · rw [if_neg hgt]
      have hne : i2 ≠ j2 := by
        intro e
        have a1 := u3.2.2.2 (by omega)
        have a2 := u2.2.2.2 (by omega) (by omega)
        rw [← e] at a2
        simp only [Bool.not_eq_false'] at a2
        rw [a1] at a2; cases a2
      obtain ⟨b1, b2⟩ := ih (i2 + 1) (j2 - 1) m' (swp d i2 j2) (by omega) (by omega) (by omega) (by omega) (by omega) (by rw [size_swp]; exact hs) (hA.swp (by omega) (by omega))
      refine ⟨b1, ?_⟩
      unfold sl_partitionCmpFunc_int_j84
      have h0 : decide (((i2 : Nat) : Int) > ((j2 : Nat) : Int)) = false := decide_eq_false (by omega)
      rw [h0]
      simp only [cond_false]
      rw [pswp hs (by omega) (by omega), wp1 (by omega), wm1 (by omega) (by omega)]
      exact b2

end Go.AM
