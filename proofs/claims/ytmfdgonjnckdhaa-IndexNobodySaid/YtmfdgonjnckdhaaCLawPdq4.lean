/-
  PLAIN FACTS: the printed pdqsort (at dependencies) sorts; fourth part: the sort. No statement of the seat is proved here.
-/
import Derived.Test.YtmfdgonjnckdhaaCLawPdq3
set_option linter.unusedVariables false
set_option linter.unusedSimpArgs false
set_option maxRecDepth 100000
namespace Go.AM
open Go.Sort

variable {g : Int → Int → Option Int} {lt : Int → Int → Bool} {A : Int → Prop}

/-! ### partition -/
theorem ppartition (hg : Cmp g lt A) {n a b p fuel : Nat} (hn : n ≤ 1152921504606846976) (hab : a + 1 < b) (hb : b ≤ n) (hp : p < n) (hf : n + 20 < fuel) {d : Array Int} (hs : d.size = n) (hA : AllA A d) :
    sl_partitionCmpFunc_int fuel d.toList n (a : Int) (b : Int) (p : Int) g = some ((((partition lt d a b p).1 : Int), (partition lt d a b p).2.1), (partition lt d a b p).2.2.toList) := by
  unfold sl_partitionCmpFunc_int
  rw [pswp hs (show a < n by omega) hp, wp1 (by omega)]
  obtain ⟨e, he⟩ : ∃ e, swp d a p = e := ⟨_, rfl⟩
  have es : e.size = n := by rw [← he, size_swp]; exact hs
  have eA : AllA A e := he ▸ hA.swp (by omega) (by omega)
  rw [he, pp_l1 hg hn hb (by omega) (by omega) es eA _ _ _ _ rfl (by omega)]
  unfold partition
  simp only []
  rw [he]
  have u3 := scanUp_spec (fun x => lt x e[a]!) e (b - 1) _ (a + 1) rfl
  obtain ⟨i2, hi2⟩ : ∃ i2, scanUp (fun x => lt x e[a]!) e (b - 1) (a + 1) = i2 := ⟨_, rfl⟩
  rw [hi2] at u3 ⊢
  unfold sl_partitionCmpFunc_int_j20
  rw [wm1 (by omega) (by omega), pp_l2 hg hn (by omega) (by omega) es eA _ _ _ (by omega) (by omega)]
  have u2 := scanDown_spec (fun x => !lt x e[a]!) e i2 (b - 1)
  obtain ⟨j2, hj2⟩ : ∃ j2, scanDown (fun x => !lt x e[a]!) e i2 (b - 1) = j2 := ⟨_, rfl⟩
  rw [hj2] at u2 ⊢
  unfold sl_partitionCmpFunc_int_j31
  by_cases hgt : i2 > j2
  · have h0 : decide (((i2 : Nat) : Int) > ((j2 : Nat) : Int)) = true := decide_eq_true (by omega)
    rw [h0, if_pos hgt]
    simp only [cond_true]
    exact pswp es (by omega) (by omega) (fun u => some ((((j2 : Nat) : Int), true), u))
  · have h0 : decide (((i2 : Nat) : Int) > ((j2 : Nat) : Int)) = false := decide_eq_false (by omega)
    rw [h0, if_neg hgt]
    simp only [cond_false]
    have hne : i2 ≠ j2 := by
      intro e'
      have a1 := u3.2.2.2 (by omega)
      have a2 := u2.2.2.2 (by omega) (by omega)
      rw [← e'] at a2
      simp only [Bool.not_eq_false'] at a2
      rw [a1] at a2; cases a2
    rw [pswp es (by omega) (by omega), wp1 (by omega), wm1 (by omega) (by omega)]
    exact (pp_l3 hg hn (by omega) (by omega) n (i2 + 1) (j2 - 1) fuel (swp e i2 j2) (by omega) (by omega) (by omega) (by omega) (by omega) (by rw [size_swp]; exact es) (eA.swp (by omega) (by omega))).2

/-! ### partitionEqual -/
theorem pe_l2 (hg : Cmp g lt A) {n a j : Nat} (hn : n ≤ 1152921504606846976) (hj : j < n) (ha : a < n) {d : Array Int} (hs : d.size = n) (hA : AllA A d) (K : Int → Option (Int × List Int)) : ∀ (k i m : Nat), j + 1 - i = k → k < m →
    sl_partitionEqualCmpFunc_int_l2 n (a : Int) g d.toList ((j : Nat) : Int) K m ((i : Nat) : Int) = K ((scanUp (fun x => !lt d[a]! x) d j i : Nat) : Int) := by
  intro k
  induction k with
  | zero =>
    intro i m hk hm
    obtain ⟨m', rfl⟩ : ∃ m', m = m' + 1 := ⟨m - 1, by omega⟩
    rw [sl_partitionEqualCmpFunc_int_l2.eq_2, scanUp]
    have h0 : decide (((i : Nat) : Int) ≤ ((j : Nat) : Int)) = false := decide_eq_false (by omega)
    rw [h0]
    simp only [show ¬ i ≤ j by omega, decide_false, Bool.false_and, Bool.false_eq_true, if_false, cond_false]
    rfl
  | succ k ih =>
    intro i m hk hm
    obtain ⟨m', rfl⟩ : ∃ m', m = m' + 1 := ⟨m - 1, by omega⟩
    rw [sl_partitionEqualCmpFunc_int_l2.eq_2, scanUp]
    have h0 : decide (((i : Nat) : Int) ≤ ((j : Nat) : Int)) = true := decide_eq_true (by omega)
    obtain ⟨w, hw, hd⟩ := hg d[a]! d[i]! (hA _ (by omega)) (hA _ (by omega))
    simp only [h0, bnd (show i < n by omega), bnd ha, gl (d := d) (show i < d.size by omega), gl (d := d) (show a < d.size by omega), hw, hd, chk, cond_true, Option.bind_some]
    unfold sl_partitionEqualCmpFunc_int_j27
    rw [wp1 (by omega)]
    cases hl : lt d[a]! d[i]! with
    | true => simp
    | false =>
      simp only [Bool.not_false, cond_true, show i ≤ j by omega, decide_true, Bool.and_self, if_true]
      exact ih (i + 1) m' (by omega) (by omega)

theorem pe_l3 (hg : Cmp g lt A) {n a i : Nat} (hn : n ≤ 1152921504606846976) (hi : 1 ≤ i) (ha : a < n) {d : Array Int} (hs : d.size = n) (hA : AllA A d) (K : Int → Option (Int × List Int)) : ∀ (j m : Nat), j < n → j < m →
    sl_partitionEqualCmpFunc_int_l3 n (a : Int) g d.toList ((i : Nat) : Int) K m ((j : Nat) : Int) = K ((scanDown (fun x => lt d[a]! x) d i j : Nat) : Int)
  | 0, m, hj, hm => by
    obtain ⟨m', rfl⟩ : ∃ m', m = m' + 1 := ⟨m - 1, by omega⟩
    rw [sl_partitionEqualCmpFunc_int_l3.eq_2, scanDown]
    have h0 : decide (((i : Nat) : Int) ≤ ((0 : Nat) : Int)) = false := decide_eq_false (by omega)
    rw [h0]; rfl
  | j + 1, m, hj, hm => by
    obtain ⟨m', rfl⟩ : ∃ m', m = m' + 1 := ⟨m - 1, by omega⟩
    rw [sl_partitionEqualCmpFunc_int_l3.eq_2, scanDown]
    by_cases hij : i ≤ j + 1
    · have h0 : decide (((i : Nat) : Int) ≤ ((j + 1 : Nat) : Int)) = true := decide_eq_true (by omega)
      obtain ⟨w, hw, hd⟩ := hg d[a]! d[j + 1]! (hA _ (by omega)) (hA _ (by omega))
      simp only [h0, bnd hj, bnd ha, gl (d := d) (show j + 1 < d.size by omega), gl (d := d) (show a < d.size by omega), hw, hd, chk, cond_true, Option.bind_some]
      unfold sl_partitionEqualCmpFunc_int_j38
      have e1 := wm1 (i := j + 1) (by omega) (by omega)
      simp only [Nat.add_sub_cancel] at e1
      rw [e1]
      cases hl : lt d[a]! d[j + 1]! with
      | false => simp
      | true =>
        simp only [cond_true, hij, decide_true, Bool.and_self, if_true]
        exact pe_l3 hg hn hi ha hs hA K j m' (by omega) (by omega)
    · have h0 : decide (((i : Nat) : Int) ≤ ((j + 1 : Nat) : Int)) = false := decide_eq_false (by omega)
      rw [h0]
      simp only [hij, decide_false, Bool.false_and, Bool.false_eq_true, if_false, cond_false]
      rfl

theorem pe_l1 (hg : Cmp g lt A) {n a fuel : Nat} (hn : n ≤ 1152921504606846976) (ha : a < n) (hf : n + 10 < fuel) : ∀ (k i j m : Nat) (d : Array Int), j + 1 - i ≤ k → k < m → a < i → i ≤ j + 1 → j < n → d.size = n → AllA A d →
    sl_partitionEqualCmpFunc_int_l1 fuel n (a : Int) g sl_partitionEqualCmpFunc_int_j20 m d.toList ((i : Nat) : Int) ((j : Nat) : Int)
      = some (((partEqLoop lt a i j d).1 : Int), (partEqLoop lt a i j d).2.toList) := by
  intro k
  induction k with
  | zero =>
    intro i j m d hk hm hi hij hj hs hA
    obtain ⟨m', rfl⟩ : ∃ m', m = m' + 1 := ⟨m - 1, by omega⟩
    rw [sl_partitionEqualCmpFunc_int_l1.eq_2, pe_l2 hg hn hj ha hs hA _ _ _ _ rfl (by omega), partEqLoop_eq]
    unfold sl_partitionEqualCmpFunc_int_j24
    have u1 := scanUp_ge (fun x => !lt d[a]! x) d j i
    obtain ⟨i2, hi2⟩ : ∃ i2, scanUp (fun x => !lt d[a]! x) d j i = i2 := ⟨_, rfl⟩
    rw [hi2] at u1 ⊢
    rw [pe_l3 hg hn (by omega) ha hs hA _ _ _ hj (by omega)]
    have u2 := scanDown_le (fun x => lt d[a]! x) d i2 j
    obtain ⟨j2, hj2⟩ : ∃ j2, scanDown (fun x => lt d[a]! x) d i2 j = j2 := ⟨_, rfl⟩
    rw [hj2] at u2 ⊢
    have hgt : i2 > j2 := by omega
    rw [if_pos hgt]
    unfold sl_partitionEqualCmpFunc_int_j35
    have h0 : decide (((i2 : Nat) : Int) > ((j2 : Nat) : Int)) = true := decide_eq_true (by omega)
    rw [h0]
    rfl
  | succ k ih =>
    intro i j m d hk hm hi hij hj hs hA
    obtain ⟨m', rfl⟩ : ∃ m', m = m' + 1 := ⟨m - 1, by omega⟩
    rw [sl_partitionEqualCmpFunc_int_l1.eq_2, pe_l2 hg hn hj ha hs hA _ _ _ _ rfl (by omega), partEqLoop_eq]
    unfold sl_partitionEqualCmpFunc_int_j24
    have u1 := scanUp_ge (fun x => !lt d[a]! x) d j i
    have u3 := scanUp_spec (fun x => !lt d[a]! x) d j _ i rfl
    obtain ⟨i2, hi2⟩ : ∃ i2, scanUp (fun x => !lt d[a]! x) d j i = i2 := ⟨_, rfl⟩
    rw [hi2] at u1 u3 ⊢
    rw [pe_l3 hg hn (by omega) ha hs hA _ _ _ hj (by omega)]
    have u2 := scanDown_spec (fun x => lt d[a]! x) d i2 j
    obtain ⟨j2, hj2⟩ : ∃ j2, scanDown (fun x => lt d[a]! x) d i2 j = j2 := ⟨_, rfl⟩
    rw [hj2] at u2 ⊢
    unfold sl_partitionEqualCmpFunc_int_j35
    by_cases hgt : i2 > j2
    · have h0 : decide (((i2 : Nat) : Int) > ((j2 : Nat) : Int)) = true := decide_eq_true (by omega)
      rw [h0, if_pos hgt]
      rfl
    · have h0 : decide (((i2 : Nat) : Int) > ((j2 : Nat) : Int)) = false := decide_eq_false (by omega)
      rw [h0, if_neg hgt]
      simp only [cond_false]
      have hne : i2 ≠ j2 := by
        intro e
        have a1 := u3.2.2.2 (by omega)
        have a2 := u2.2.2.2 (by omega) (by omega)
        rw [← e] at a2
        simp only [Bool.not_eq_false'] at a1
        rw [a1] at a2; cases a2
      rw [pswp hs (by omega) (by omega), wp1 (by omega), wm1 (by omega) (by omega)]
      exact ih (i2 + 1) (j2 - 1) m' (swp d i2 j2) (by omega) (by omega) (by omega) (by omega) (by omega) (by rw [size_swp]; exact hs) (hA.swp (by omega) (by omega))

theorem ppartEq (hg : Cmp g lt A) {n a b p fuel : Nat} (hn : n ≤ 1152921504606846976) (hab : a + 1 < b) (hb : b ≤ n) (hp : p < n) (hf : n + 20 < fuel) {d : Array Int} (hs : d.size = n) (hA : AllA A d) :
    sl_partitionEqualCmpFunc_int fuel d.toList n (a : Int) (b : Int) (p : Int) g = some (((partitionEqual lt d a b p).1 : Int), (partitionEqual lt d a b p).2.toList) := by
  unfold sl_partitionEqualCmpFunc_int partitionEqual
  rw [pswp hs (show a < n by omega) hp, wp1 (by omega), wm1 (by omega) (by omega)]
  exact pe_l1 hg hn (by omega) (by omega) n (a + 1) (b - 1) fuel (swp d a p) (by omega) (by omega) (by omega) (by omega) (by omega) (by rw [size_swp]; exact hs) (hA.swp (by omega) (by omega))

/-! ### breakPatterns -/
theorem and_bound {a c : Int} (h0 : 0 ≤ c) (h1 : c < 4611686018427387904) : 0 ≤ iAnd .u64 a c ∧ iAnd .u64 a c ≤ c := by
  unfold iAnd
  have h2 : (BitVec.ofInt (IntKind.bits .u64) c).toNat = c.toNat := by
    show (BitVec.ofInt 64 c).toNat = c.toNat
    rw [BitVec.toNat_ofInt]
    omega
  have h3 : (BitVec.ofInt (IntKind.bits .u64) a &&& BitVec.ofInt (IntKind.bits .u64) c).toNat ≤ c.toNat := by
    rw [BitVec.toNat_and, h2]
    exact Nat.and_le_right
  have h4 : IntKind.wrap .u64 (((BitVec.ofInt (IntKind.bits .u64) a &&& BitVec.ofInt (IntKind.bits .u64) c).toNat : Nat) : Int) = (((BitVec.ofInt (IntKind.bits .u64) a &&& BitVec.ofInt (IntKind.bits .u64) c).toNat : Nat) : Int) := by
    simp only [IntKind.wrap, IntKind.signed, IntKind.bits] at h3 ⊢
    simp only [Bool.false_and, Bool.false_eq_true, if_false]
    omega
  rw [h4]
  omega

theorem npot {k : Nat} (h1 : 1 ≤ k) (h2 : k ≤ 1000) : ∃ M : Int, sl_nextPowerOfTwo ((k : Nat) : Int) = some M ∧ 1 ≤ M ∧ M ≤ 2 * k := by
  have : ∀ k : Fin 1001, (match sl_nextPowerOfTwo ((k.1 : Nat) : Int) with | some M => decide (k.1 = 0) || (decide (1 ≤ M) && decide (M ≤ 2 * k.1)) | none => false) = true := by decide +kernel
  have := this ⟨k, by omega⟩
  cases hm : sl_nextPowerOfTwo ((k : Nat) : Int) with
  | none => rw [hm] at this; cases this
  | some M =>
    rw [hm] at this
    simp only [Bool.or_eq_true, Bool.and_eq_true, decide_eq_true_eq] at this
    exact ⟨M, rfl, by omega, by omega⟩

theorem pbreak_l1 {n a b : Nat} (hn : n ≤ 1000) (hab : a + 8 ≤ b) (hb : b ≤ n) {M : Int} (hM1 : 1 ≤ M) (hM2 : M ≤ 2 * ((b - a : Nat) : Int)) : ∀ (k i m : Nat) (v : Int) (d : Array Int), a + (b - a) / 4 * 2 + 2 - i = k → k < m → a ≤ i → d.size = n →
    ∃ d', sl_breakPatternsCmpFunc_int_l1 n (a : Int) (b : Int) M m d.toList v ((i : Nat) : Int) = some d'.toList ∧ PermIn a b d d' := by
  have hd : IntKind.wrap .i64 (IntKind.wrap .i64 ((a : Int) + IntKind.wrap .i64 (IntKind.wrap .i64 ((IntKind.wrap .i64 ((b : Int) - (a : Int))).tdiv 4) * 2)) + 1) = ((a + (b - a) / 4 * 2 + 1 : Nat) : Int) := by
    rw [wmm (by omega) (by omega), show (4 : Int) = ((4 : Nat) : Int) from rfl, tdivn, wrap64 (i := (((b - a) / 4 : Nat) : Int)) (by omega) (by omega)]
    have e2 : IntKind.wrap .i64 ((((b - a) / 4 : Nat) : Int) * 2) = (((b - a) / 4 * 2 : Nat) : Int) := by rw [wrap64 (by omega) (by omega)]; omega
    rw [e2, wpl (by omega), wp1 (by omega)]
  intro k
  induction k with
  | zero =>
    intro i m v d hk hm hi hs
    obtain ⟨m', rfl⟩ : ∃ m', m = m' + 1 := ⟨m - 1, by omega⟩
    refine ⟨d, ?_, permIn_refl d a b⟩
    rw [sl_breakPatternsCmpFunc_int_l1.eq_2, hd]
    have h0 : decide (((i : Nat) : Int) ≤ ((a + (b - a) / 4 * 2 + 1 : Nat) : Int)) = false := decide_eq_false (by omega)
    rw [h0]; rfl
  | succ k ih =>
    intro i m v d hk hm hi hs
    obtain ⟨m', rfl⟩ : ∃ m', m = m' + 1 := ⟨m - 1, by omega⟩
    rw [sl_breakPatternsCmpFunc_int_l1.eq_2, hd]
    have h0 : decide (((i : Nat) : Int) ≤ ((a + (b - a) / 4 * 2 + 1 : Nat) : Int)) = true := decide_eq_true (by omega)
    rw [h0]
    simp only [cond_true]
    obtain ⟨w, hw⟩ : ∃ w, sl_xorshift_Next v = some w := ⟨_, rfl⟩
    rw [hw]
    simp only [Option.bind_some]
    have hMw : IntKind.wrap .u64 (M - 1) = M - 1 := by
      simp only [IntKind.wrap, IntKind.signed, IntKind.bits]
      simp only [Bool.false_and, Bool.false_eq_true, if_false]
      omega
    rw [hMw, wmm (by omega) (by omega)]
    obtain ⟨x1, x2⟩ := and_bound (a := w.1) (c := M - 1) (by omega) (by omega)
    obtain ⟨X, hX⟩ : ∃ X, iAnd .u64 w.1 (M - 1) = X := ⟨_, rfl⟩
    rw [hX] at x1 x2 ⊢
    rw [wrap64 (i := X) (by omega) (by omega)]
    have step : ∀ o : Nat, o < b - a → ∃ d', sl_breakPatternsCmpFunc_int_j20 n (a : Int) d.toList ((i : Nat) : Int) w (sl_breakPatternsCmpFunc_int_l1 n (a : Int) (b : Int) M m') ((o : Nat) : Int) = some d'.toList ∧ PermIn a b d d' := by
      intro o ho
      unfold sl_breakPatternsCmpFunc_int_j20
      rw [wpl (by omega), pswp hs (show i < n by omega) (show a + o < n by omega), wp1 (by omega)]
      obtain ⟨d', e1, e2⟩ := ih (i + 1) m' w.2 (swp d i (a + o)) (by omega) (by omega) (by omega) (by rw [size_swp]; exact hs)
      exact ⟨d', e1, permIn_trans _ _ _ a b (swp_permIn d a b i (a + o) (by omega) (by omega) (by omega) (by omega) (by omega)) e2⟩
    by_cases hge : X ≥ ((b - a : Nat) : Int)
    · have : decide (X ≥ ((b - a : Nat) : Int)) = true := decide_eq_true hge
      rw [this, wrap64 (by omega) (by omega)]
      simp only [cond_true]
      have e : X - ((b - a : Nat) : Int) = (((X - ((b - a : Nat) : Int)).toNat : Nat) : Int) := by omega
      rw [e]
      exact step _ (by omega)
    · have : decide (X ≥ ((b - a : Nat) : Int)) = false := decide_eq_false hge
      rw [this]
      simp only [cond_false]
      have e : X = ((X.toNat : Nat) : Int) := by omega
      rw [e]
      exact step _ (by omega)

theorem pbreak {n a b fuel : Nat} (hn : n ≤ 1000) (hab : a + 8 ≤ b) (hb : b ≤ n) (hf : n + 10 < fuel) {d : Array Int} (hs : d.size = n) :
    ∃ d', sl_breakPatternsCmpFunc_int fuel d.toList n (a : Int) (b : Int) g = some d'.toList ∧ PermIn a b d d' := by
  unfold sl_breakPatternsCmpFunc_int
  rw [wmm (by omega) (by omega)]
  have h0 : decide (((b - a : Nat) : Int) ≥ 8) = true := decide_eq_true (by omega)
  rw [h0]
  obtain ⟨M, hM, m1, m2⟩ := npot (k := b - a) (by omega) (by omega)
  simp only [cond_true, hM, Option.bind_some]
  rw [show (4 : Int) = ((4 : Nat) : Int) from rfl, tdivn, wrap64 (i := (((b - a) / 4 : Nat) : Int)) (by omega) (by omega)]
  have e2 : IntKind.wrap .i64 ((((b - a) / 4 : Nat) : Int) * 2) = (((b - a) / 4 * 2 : Nat) : Int) := by rw [wrap64 (by omega) (by omega)]; omega
  rw [e2, wpl (by omega), wm1 (by omega) (by omega)]
  exact pbreak_l1 hn hab hb m1 m2 3 _ fuel _ d (by omega) (by omega) (by omega) hs

end Go.AM
