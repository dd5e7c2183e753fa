/-
  PLAIN FACTS: the printed pdqsort (at dependencies) is the library's. No statement of the seat is proved here.
-/
import Derived.Sort.AssemblyPlain
import Derived.Sort.LotD5
import Derived.Test.YtmfdgonjnckdhaaCLawIns
import Derived.Test.YtmfdgonjnckdhaaCLaw0
set_option linter.unusedVariables false
set_option linter.unusedSimpArgs false
set_option maxRecDepth 100000
namespace Go.AM
open Go.Sort


theorem gl {d : Array Int} {i : Nat} (h : i < d.size) : d.toList[0 + Int.toNat ((i : Nat) : Int)]? = some d[i]! := by
  rw [Int.toNat_natCast, Nat.zero_add, getElem!_pos d i h]
  simp [h]

theorem bnd {i n : Nat} (h : i < n) : decide ((0 : Int) ≤ ((i : Nat) : Int) ∧ ((i : Nat) : Int) < ((n : Nat) : Int)) = true := decide_eq_true (by omega)

theorem upd1 {d : Array Int} {i : Nat} (h : i < d.size) {x : Int} : upd d.toList (0 + Int.toNat ((i : Nat) : Int)) x = some (d.setIfInBounds i x).toList := by
  rw [Int.toNat_natCast, Nat.zero_add]
  unfold upd
  rw [if_pos (by simpa using h)]
  simp

theorem upd2 {d : Array Int} {i j : Nat} (h : j < d.size) : upd (d.setIfInBounds i d[j]!).toList (0 + Int.toNat ((j : Nat) : Int)) d[i]! = some (swp d i j).toList := by
  rw [upd1 (by simpa using h)]
  rfl

def AllA (A : Int → Prop) (d : Array Int) : Prop := ∀ i, i < d.size → A d[i]!

theorem AllA.swp {A : Int → Prop} {d : Array Int} (h : AllA A d) {i j : Nat} (hi : i < d.size) (hj : j < d.size) : AllA A (swp d i j) := by
  intro k hk
  rw [size_swp] at hk
  by_cases e1 : k = j
  · subst e1; rw [swp_right d i k hj]; exact h i hi
  · by_cases e2 : k = i
    · subst e2; rw [swp_left d k j hi e1]; exact h j hj
    · rw [swp_other d i j k e2 e1]; exact h k hk

theorem AllA.perm {A : Int → Prop} {d d' : Array Int} (h : AllA A d) {a b : Nat} (hb : b ≤ d.size) (hp : PermIn a b d d') : AllA A d' := by
  intro k hk
  rw [hp.1] at hk
  by_cases e : k < a ∨ b ≤ k
  · rw [hp.2.1 k e]; exact h k hk
  · exact permIn_all d d' a b A hb hp (fun i h1 h2 => h i (by omega)) k (by omega) (by omega)

theorem wpl {i k : Nat} (h : i + k < 4611686018427387905) : IntKind.wrap .i64 (((i : Nat) : Int) + ((k : Nat) : Int)) = ((i + k : Nat) : Int) := by
  rw [wrap64 (by omega) (by omega)]; omega
theorem wp1 {i : Nat} (h : i < 4611686018427387905) : IntKind.wrap .i64 (((i : Nat) : Int) + 1) = ((i + 1 : Nat) : Int) := by
  rw [wrap64 (by omega) (by omega)]; omega
theorem wm1 {i : Nat} (h : i < 4611686018427387905) (h1 : 1 ≤ i) : IntKind.wrap .i64 (((i : Nat) : Int) - 1) = ((i - 1 : Nat) : Int) := by
  rw [wrap64 (by omega) (by omega)]; omega
theorem wmm {i k : Nat} (h : i < 4611686018427387905) (h1 : k ≤ i) : IntKind.wrap .i64 (((i : Nat) : Int) - ((k : Nat) : Int)) = ((i - k : Nat) : Int) := by
  rw [wrap64 (by omega) (by omega)]; omega
theorem w2 {i : Nat} (h : i < 4611686018427387904) : IntKind.wrap .i64 (2 * ((i : Nat) : Int)) = ((2 * i : Nat) : Int) := by
  rw [wrap64 (by omega) (by omega)]; omega

variable {g : Int → Int → Option Int} {lt : Int → Int → Bool} {A : Int → Prop}

/-! ### insertion sort -/
theorem pins_l2 (hg : Cmp g lt A) {n a : Nat} (hn : n ≤ 1152921504606846976) (K : List Int → Option (List Int)) : ∀ (j m : Nat) (d : Array Int), j < m → j < n → d.size = n → AllA A d →
    sl_insertionSortCmpFunc_int_l2 n (a : Int) g K m d.toList ((j : Nat) : Int) = K (insInner lt a j d).toList
  | 0, m, d, hm, hj, hs, hA => by
    obtain ⟨m', rfl⟩ : ∃ m', m = m' + 1 := ⟨m - 1, by omega⟩
    rw [sl_insertionSortCmpFunc_int_l2.eq_2]
    have h0 : decide (((0 : Nat) : Int) > (a : Int)) = false := decide_eq_false (by omega)
    rw [h0]; rfl
  | j + 1, m, d, hm, hj, hs, hA => by
    obtain ⟨m', rfl⟩ : ∃ m', m = m' + 1 := ⟨m - 1, by omega⟩
    rw [sl_insertionSortCmpFunc_int_l2.eq_2]
    unfold sl_insertionSortCmpFunc_int_j16
    rw [insInner.eq_2]
    by_cases h0 : j + 1 > a
    · have h0' : decide (((j + 1 : Nat) : Int) > (a : Int)) = true := decide_eq_true (by omega)
      obtain ⟨w, hw, hd⟩ := hg d[j + 1]! d[j]! (hA _ (by omega)) (hA _ (by omega))
      have e1 := wm1 (i := j + 1) (by omega) (by omega)
      simp only [Nat.add_sub_cancel] at e1
      simp only [h0', e1, bnd (show j + 1 < n by omega), bnd (show j < n by omega), gl (d := d) (show j + 1 < d.size by omega), gl (d := d) (show j < d.size by omega), hw, hd, chk, cond_true, Option.bind_some]
      cases hl : lt d[j + 1]! d[j]! with
      | false => simp
      | true =>
        rw [upd1 (by omega)]
        simp only [cond_true, Option.bind_some]
        rw [upd2 (by omega)]
        simp only [Option.bind_some]
        rw [pins_l2 hg hn K j m' (swp d (j + 1) j) (by omega) (by omega) (by rw [size_swp]; exact hs) (hA.swp (by omega) (by omega))]
        simp [h0]
    · have h0' : decide (((j + 1 : Nat) : Int) > (a : Int)) = false := decide_eq_false (by omega)
      rw [h0']
      simp [h0]

theorem insInner_keep (a : Nat) : ∀ (j : Nat) (d : Array Int), j < d.size → AllA A d → (insInner lt a j d).size = d.size ∧ AllA A (insInner lt a j d)
  | 0, d, _, h => ⟨rfl, h⟩
  | j + 1, d, hj, h => by
    rw [insInner.eq_2]
    split
    · obtain ⟨x, y⟩ := insInner_keep a j (swp d (j + 1) j) (by rw [size_swp]; omega) (h.swp (by omega) (by omega))
      exact ⟨by rw [x, size_swp], y⟩
    · exact ⟨rfl, h⟩

theorem pins_l1 (hg : Cmp g lt A) {n a b fuel : Nat} (hn : n ≤ 1152921504606846976) (hb : b ≤ n) (hf : n < fuel) : ∀ (k i m : Nat) (d : Array Int), b - i = k → k < m → d.size = n → AllA A d →
    sl_insertionSortCmpFunc_int_l1 fuel n (a : Int) (b : Int) g m d.toList ((i : Nat) : Int) = some (insOuter lt a b i d).toList := by
  intro k
  induction k with
  | zero =>
    intro i m d hk hm hs hA
    obtain ⟨m', rfl⟩ : ∃ m', m = m' + 1 := ⟨m - 1, by omega⟩
    rw [sl_insertionSortCmpFunc_int_l1.eq_2, insOuter]
    have h0 : decide (((i : Nat) : Int) < (b : Int)) = false := decide_eq_false (by omega)
    rw [h0, if_neg (by omega)]; rfl
  | succ k ih =>
    intro i m d hk hm hs hA
    obtain ⟨m', rfl⟩ : ∃ m', m = m' + 1 := ⟨m - 1, by omega⟩
    rw [sl_insertionSortCmpFunc_int_l1.eq_2, insOuter]
    have h0 : decide (((i : Nat) : Int) < (b : Int)) = true := decide_eq_true (by omega)
    rw [h0, if_pos (by omega)]
    simp only [cond_true]
    rw [pins_l2 hg hn _ i fuel d (by omega) (by omega) hs hA]
    unfold sl_insertionSortCmpFunc_int_j11
    rw [wp1 (by omega)]
    obtain ⟨x, y⟩ := insInner_keep (lt := lt) a i d (by omega) hA
    exact ih (i + 1) m' _ (by omega) (by omega) (by rw [x]; exact hs) y

theorem pins (hg : Cmp g lt A) {n a b fuel : Nat} (hn : n ≤ 1152921504606846976) (hab : a ≤ b) (hb : b ≤ n) (hf : n < fuel) {d : Array Int} (hs : d.size = n) (hA : AllA A d) :
    sl_insertionSortCmpFunc_int fuel d.toList n (a : Int) (b : Int) g = some (insertionSort lt d a b).toList := by
  unfold sl_insertionSortCmpFunc_int insertionSort
  rw [wp1 (by omega)]
  exact pins_l1 hg hn hb hf _ _ _ d rfl (by omega) hs hA

/-! ### reversing -/
theorem prev_l1 {n : Nat} (hn : n ≤ 1152921504606846976) : ∀ (k i j m : Nat) (d : Array Int), j - i ≤ k → k < m → i ≤ n → j < n → d.size = n →
    sl_reverseRangeCmpFunc_int_l1 n m d.toList ((i : Nat) : Int) ((j : Nat) : Int) = some (reverseLoop i j d).toList := by
  intro k
  induction k with
  | zero =>
    intro i j m d hk hm hi hj hs
    obtain ⟨m', rfl⟩ : ∃ m', m = m' + 1 := ⟨m - 1, by omega⟩
    rw [sl_reverseRangeCmpFunc_int_l1.eq_2, reverseLoop]
    have h0 : decide (((i : Nat) : Int) < ((j : Nat) : Int)) = false := decide_eq_false (by omega)
    rw [h0, if_neg (by omega)]; rfl
  | succ k ih =>
    intro i j m d hk hm hi hj hs
    obtain ⟨m', rfl⟩ : ∃ m', m = m' + 1 := ⟨m - 1, by omega⟩
    rw [sl_reverseRangeCmpFunc_int_l1.eq_2, reverseLoop]
    by_cases hij : i < j
    · have h0 : decide (((i : Nat) : Int) < ((j : Nat) : Int)) = true := decide_eq_true (by omega)
      rw [if_pos hij]
      simp only [h0, bnd hj, bnd (show i < n by omega), gl (d := d) (show j < d.size by omega), gl (d := d) (show i < d.size by omega), chk, cond_true, Option.bind_some]
      rw [upd1 (by omega)]
      simp only [Option.bind_some]
      rw [upd2 (by omega)]
      simp only [Option.bind_some]
      rw [wp1 (by omega), wm1 (by omega) (by omega)]
      exact ih (i + 1) (j - 1) m' _ (by omega) (by omega) (by omega) (by omega) (by rw [size_swp]; exact hs)
    · have h0 : decide (((i : Nat) : Int) < ((j : Nat) : Int)) = false := decide_eq_false (by omega)
      rw [h0, if_neg hij]; rfl

theorem prev {n a b fuel : Nat} (hn : n ≤ 1152921504606846976) (hab : a < b) (hb : b ≤ n) (hf : n < fuel) {d : Array Int} (hs : d.size = n) :
    sl_reverseRangeCmpFunc_int fuel d.toList n (a : Int) (b : Int) g = some (reverseRange d a b).toList := by
  unfold sl_reverseRangeCmpFunc_int reverseRange
  rw [wm1 (by omega) (by omega)]
  exact prev_l1 hn _ _ _ _ d (Nat.le_refl _) (by omega) (by omega) (by omega) hs

/-! ### the heap -/
theorem psift (hg : Cmp g lt A) {n hi first : Nat} (hn : n ≤ 1152921504606846976) (hF : first + hi ≤ n) : ∀ (k root m : Nat) (d : Array Int), hi - root ≤ k → k < m → root ≤ n → d.size = n → AllA A d →
    sl_siftDownCmpFunc_int_l1 n (hi : Int) (first : Int) g m d.toList ((root : Nat) : Int) = some (siftDown lt hi first root d).toList := by
  intro k
  induction k with
  | zero =>
    intro root m d hk hm hr hs hA
    obtain ⟨m', rfl⟩ : ∃ m', m = m' + 1 := ⟨m - 1, by omega⟩
    rw [sl_siftDownCmpFunc_int_l1.eq_2, siftDown, dif_pos (by omega), wrap64 (i := 2 * ((root : Nat) : Int)) (by omega) (by omega), wrap64 (by omega) (by omega)]
    have h0 : decide (2 * ((root : Nat) : Int) + 1 ≥ (hi : Int)) = true := decide_eq_true (by omega)
    rw [h0]; rfl
  | succ k ih =>
    intro root m d hk hm hr hs hA
    obtain ⟨m', rfl⟩ : ∃ m', m = m' + 1 := ⟨m - 1, by omega⟩
    rw [sl_siftDownCmpFunc_int_l1.eq_2, siftDown]
    rw [wrap64 (i := 2 * ((root : Nat) : Int)) (by omega) (by omega), wrap64 (i := 2 * ((root : Nat) : Int) + 1) (by omega) (by omega)]
    by_cases hc : 2 * root + 1 ≥ hi
    · have h0 : decide (2 * ((root : Nat) : Int) + 1 ≥ (hi : Int)) = true := decide_eq_true (by omega)
      rw [h0, dif_pos hc]; rfl
    have h0 : decide (2 * ((root : Nat) : Int) + 1 ≥ (hi : Int)) = false := decide_eq_false (by omega)
    rw [h0, dif_neg hc]
    simp only [cond_false]
    have e1 : (2 * ((root : Nat) : Int) + 1) = ((2 * root + 1 : Nat) : Int) := by omega
    rw [e1, wp1 (i := 2 * root + 1) (by omega)]
    -- the step with the chosen child
    have step : ∀ c : Nat, c < hi → root < c → sl_siftDownCmpFunc_int_j13 n (first : Int) g d.toList ((root : Nat) : Int) (sl_siftDownCmpFunc_int_l1 n (hi : Int) (first : Int) g m') ((c : Nat) : Int)
        = some (if !lt d[first + root]! d[first + c]! then d else siftDown lt hi first c (swp d (first + root) (first + c))).toList := by
      intro c hc1 hc2
      unfold sl_siftDownCmpFunc_int_j13
      rw [wpl (by omega), wpl (by omega)]
      obtain ⟨w, hw, hd⟩ := hg d[first + root]! d[first + c]! (hA _ (by omega)) (hA _ (by omega))
      simp only [bnd (show first + root < n by omega), bnd (show first + c < n by omega), gl (d := d) (show first + root < d.size by omega), gl (d := d) (show first + c < d.size by omega), hw, hd, chk, cond_true, Option.bind_some]
      cases hl : lt d[first + root]! d[first + c]! with
      | false => simp
      | true =>
        rw [upd1 (by omega)]
        simp only [Bool.not_true, cond_false, Option.bind_some]
        rw [upd2 (by omega)]
        simp only [Option.bind_some]
        rw [ih c m' _ (by omega) (by omega) (by omega) (by rw [size_swp]; exact hs) (hA.swp (by omega) (by omega))]
        simp
    by_cases hc2 : 2 * root + 1 + 1 < hi
    · have h1 : decide (((2 * root + 1 + 1 : Nat) : Int) < (hi : Int)) = true := decide_eq_true (by omega)
      rw [h1]
      simp only [cond_true]
      rw [wpl (i := first) (k := 2 * root + 1) (by omega), wp1 (i := first + (2 * root + 1)) (by omega)]
      obtain ⟨w, hw, hd⟩ := hg d[first + (2 * root + 1)]! d[first + (2 * root + 1) + 1]! (hA _ (by omega)) (hA _ (by omega))
      simp only [bnd (show first + (2 * root + 1) < n by omega), bnd (show first + (2 * root + 1) + 1 < n by omega), gl (d := d) (show first + (2 * root + 1) < d.size by omega), gl (d := d) (show first + (2 * root + 1) + 1 < d.size by omega), hw, hd, chk, cond_true, Option.bind_some]
      unfold sl_siftDownCmpFunc_int_j14
      rw [wrap64 (i := 2 * ((root : Nat) : Int)) (by omega) (by omega), wrap64 (i := 2 * ((root : Nat) : Int) + 1) (by omega) (by omega), e1, wp1 (i := 2 * root + 1) (by omega)]
      cases hl : lt d[first + (2 * root + 1)]! d[first + (2 * root + 1) + 1]! with
      | false =>
        simp only [cond_false, Bool.and_false, Bool.false_eq_true, if_false]
        exact step (2 * root + 1) (by omega) (by omega)
      | true =>
        simp only [cond_true, hc2, decide_true, Bool.and_self, if_true]
        rw [step (2 * root + 1 + 1) (by omega) (by omega)]
        rw [dif_pos trivial]
    · have h1 : decide (((2 * root + 1 + 1 : Nat) : Int) < (hi : Int)) = false := decide_eq_false (by omega)
      rw [h1]
      unfold sl_siftDownCmpFunc_int_j14
      rw [wrap64 (i := 2 * ((root : Nat) : Int)) (by omega) (by omega), wrap64 (i := 2 * ((root : Nat) : Int) + 1) (by omega) (by omega), e1]
      simp only [cond_false, hc2, decide_false, Bool.false_and, Bool.false_eq_true, if_false]
      exact step (2 * root + 1) (by omega) (by omega)

theorem sift_keep {hi first : Nat} : ∀ (k root : Nat) (d : Array Int), hi - root ≤ k → first + hi ≤ d.size → AllA A d → (siftDown lt hi first root d).size = d.size ∧ AllA A (siftDown lt hi first root d) := by
  intro k
  induction k with
  | zero => intro root d hk hs hA; rw [siftDown, dif_pos (by omega)]; exact ⟨rfl, hA⟩
  | succ k ih =>
    intro root d hk hs hA
    rw [siftDown]
    have go : ∀ c, c < hi → root < c → (siftDown lt hi first c (swp d (first + root) (first + c))).size = d.size ∧ AllA A (siftDown lt hi first c (swp d (first + root) (first + c))) := by
      intro c h1 h2
      obtain ⟨x, y⟩ := ih c (swp d (first + root) (first + c)) (by omega) (by rw [size_swp]; exact hs) (hA.swp (by omega) (by omega))
      exact ⟨by rw [x, size_swp], y⟩
    split
    · exact ⟨rfl, hA⟩
    · split
      · split
        · exact ⟨rfl, hA⟩
        · split
          · exact go _ (by omega) (by omega)
          · exact ⟨rfl, hA⟩
      · split
        · exact ⟨rfl, hA⟩
        · exact go _ (by omega) (by omega)

theorem tdivn {x k : Nat} : Int.tdiv ((x : Nat) : Int) ((k : Nat) : Int) = ((x / k : Nat) : Int) := rfl

theorem pheap_l2 (hg : Cmp g lt A) {n a fuel : Nat} (hn : n ≤ 1152921504606846976) (hf : n < fuel) : ∀ (k m : Nat) (d : Array Int), k < m → a + k ≤ n → d.size = n → AllA A d →
    sl_heapSortCmpFunc_int_l2 fuel n (a : Int) g m d.toList (((k : Nat) : Int) - 1) = some (heapPop lt a k d).toList
  | 0, m, d, hm, hk, hs, hA => by
    obtain ⟨m', rfl⟩ : ∃ m', m = m' + 1 := ⟨m - 1, by omega⟩
    rw [sl_heapSortCmpFunc_int_l2.eq_2]
    have h0 : decide (((0 : Nat) : Int) - 1 ≥ 0) = false := decide_eq_false (by omega)
    rw [h0]; rfl
  | k + 1, m, d, hm, hk, hs, hA => by
    obtain ⟨m', rfl⟩ : ∃ m', m = m' + 1 := ⟨m - 1, by omega⟩
    have e : (((k + 1 : Nat) : Int) - 1) = ((k : Nat) : Int) := by omega
    rw [sl_heapSortCmpFunc_int_l2.eq_2, e]
    have h0 : decide (((k : Nat) : Int) ≥ 0) = true := decide_eq_true (by omega)
    rw [wpl (by omega)]
    simp only [h0, bnd (show a + k < n by omega), bnd (show a < n by omega), gl (d := d) (show a + k < d.size by omega), gl (d := d) (show a < d.size by omega), chk, cond_true, Option.bind_some]
    rw [upd1 (by omega)]
    simp only [Option.bind_some]
    rw [upd2 (by omega)]
    simp only [Option.bind_some]
    unfold sl_siftDownCmpFunc_int
    have hA1 : AllA A (swp d a (a + k)) := hA.swp (by omega) (by omega)
    have hsz : (swp d a (a + k)).size = n := by rw [size_swp]; exact hs
    have := psift hg hn (hi := k) (first := a) (by omega) k 0 fuel (swp d a (a + k)) (by omega) (by omega) (by omega) hsz hA1
    rw [show (((0 : Nat)) : Int) = 0 from rfl] at this
    rw [this]
    simp only [Option.bind_some]
    obtain ⟨x, y⟩ := sift_keep (lt := lt) (hi := k) (first := a) k 0 (swp d a (a + k)) (by omega) (by omega) hA1
    rw [wrap64 (by omega) (by omega), pheap_l2 hg hn hf k m' _ (by omega) (by omega) (by rw [x]; exact hsz) y]
    rfl

theorem pheap_l1 (hg : Cmp g lt A) {n a b fuel : Nat} (hn : n ≤ 1152921504606846976) (hab : a ≤ b) (hb : b ≤ n) (hf : n < fuel) (R : Option (List Int)) (K : List Int → Option (List Int)) : ∀ (k m : Nat) (d : Array Int), k < m → k ≤ n → d.size = n → AllA A d →
    (∀ d', d' = heapBuild lt (b - a) a k d → d'.size = n → AllA A d' → K d'.toList = R) →
    sl_heapSortCmpFunc_int_l1 fuel n (a : Int) (b : Int) g K m d.toList (((k : Nat) : Int) - 1) = R
  | 0, m, d, hm, hk, hs, hA, hR => by
    obtain ⟨m', rfl⟩ : ∃ m', m = m' + 1 := ⟨m - 1, by omega⟩
    rw [sl_heapSortCmpFunc_int_l1.eq_2]
    have h0 : decide (((0 : Nat) : Int) - 1 ≥ 0) = false := decide_eq_false (by omega)
    rw [h0]
    exact hR d rfl hs hA
  | k + 1, m, d, hm, hk, hs, hA, hR => by
    obtain ⟨m', rfl⟩ : ∃ m', m = m' + 1 := ⟨m - 1, by omega⟩
    have e : (((k + 1 : Nat) : Int) - 1) = ((k : Nat) : Int) := by omega
    rw [sl_heapSortCmpFunc_int_l1.eq_2, e]
    have h0 : decide (((k : Nat) : Int) ≥ 0) = true := decide_eq_true (by omega)
    rw [h0, wmm (by omega) hab]
    unfold sl_siftDownCmpFunc_int
    simp only [cond_true]
    rw [psift hg hn (hi := b - a) (first := a) (by omega) (b - a) k fuel d (by omega) (by omega) (by omega) hs hA]
    simp only [Option.bind_some]
    obtain ⟨x, y⟩ := sift_keep (lt := lt) (hi := b - a) (first := a) (b - a) k d (by omega) (by omega) hA
    rw [wrap64 (by omega) (by omega)]
    exact pheap_l1 hg hn hab hb hf R K k m' _ (by omega) (by omega) (by rw [x]; exact hs) y (fun d' e1 e2 e3 => hR d' e1 e2 e3)

theorem pheap (hg : Cmp g lt A) {n a b fuel : Nat} (hn : n ≤ 1152921504606846976) (hab : a < b) (hb : b ≤ n) (hf : n < fuel) {d : Array Int} (hs : d.size = n) (hA : AllA A d) :
    sl_heapSortCmpFunc_int fuel d.toList n (a : Int) (b : Int) g = some (heapSort lt d a b).toList := by
  unfold sl_heapSortCmpFunc_int heapSort
  rw [wmm (by omega) (by omega), wm1 (by omega) (by omega), show (2 : Int) = ((2 : Nat) : Int) from rfl, tdivn, wrap64 (by omega) (by omega)]
  have e : (((b - a - 1) / 2 : Nat) : Int) = (((b - a - 1) / 2 + 1 : Nat) : Int) - 1 := by omega
  rw [e]
  refine pheap_l1 hg hn (by omega) hb hf _ _ _ _ d (by omega) (by omega) hs hA fun d' e1 e2 e3 => ?_
  unfold sl_heapSortCmpFunc_int_j9
  rw [wmm (by omega) (by omega), wrap64 (by omega) (by omega), pheap_l2 hg hn hf (b - a) fuel d' (by omega) (by omega) e2 e3, e1]

/-! ### the pivot -/
theorem idx_l {d : Array Int} {i : Nat} (h : i < d.size) : idx d.toList ((i : Nat) : Int) = some d[i]! := by
  unfold idx
  rw [if_pos (by omega)]
  have := gl h
  rwa [Nat.zero_add] at this

def ord3 (r : Nat × Nat × Nat) : (Int × Int) × Int := (((r.1 : Int), (r.2.1 : Int)), (r.2.2 : Int))

theorem porder2 (hg : Cmp g lt A) {d : Array Int} (hA : AllA A d) {a b s : Nat} (ha : a < d.size) (hb : b < d.size) (hs : s < 1000) :
    sl_order2CmpFunc_int d.toList (a : Int) (b : Int) (s : Int) g = some (ord3 (order2 lt d a b s)) := by
  unfold sl_order2CmpFunc_int order2 ord3
  rw [idx_l hb, idx_l ha]
  obtain ⟨w, hw, hd⟩ := hg d[b]! d[a]! (hA b hb) (hA a ha)
  simp only [Option.bind_some, hw, hd]
  rw [wp1 (by omega)]
  cases lt d[b]! d[a]! <;> rfl

theorem order2_cnt {d : Array Int} {a b s : Nat} : (order2 lt d a b s).2.2 ≤ s + 1 := by
  unfold order2; split <;> simp

theorem pmedian (hg : Cmp g lt A) {d : Array Int} (hA : AllA A d) {a b c s : Nat} (ha : a < d.size) (hb : b < d.size) (hc : c < d.size) (hs : s < 900) :
    sl_medianCmpFunc_int d.toList (a : Int) (b : Int) (c : Int) (s : Int) g = some (((median lt d a b c s).1 : Int), ((median lt d a b c s).2 : Int)) := by
  unfold sl_medianCmpFunc_int median
  rw [porder2 hg hA ha hb (by omega)]
  have c1 := order2_cnt (lt := lt) (d := d) (a := a) (b := b) (s := s)
  have m1 := order2_mem lt d a b s
  obtain ⟨r1, hr1⟩ : ∃ r, order2 lt d a b s = r := ⟨_, rfl⟩
  rw [hr1] at c1 m1 ⊢
  simp only [Option.bind_some, ord3]
  have l1 : r1.1 < d.size ∧ r1.2.1 < d.size := by rcases m1 with ⟨x, y⟩ | ⟨x, y⟩ <;> rw [x, y] <;> exact ⟨by assumption, by assumption⟩
  rw [porder2 hg hA l1.2 hc (by omega)]
  have c2 := order2_cnt (lt := lt) (d := d) (a := r1.2.1) (b := c) (s := r1.2.2)
  have m2 := order2_mem lt d r1.2.1 c r1.2.2
  obtain ⟨r2, hr2⟩ : ∃ r, order2 lt d r1.2.1 c r1.2.2 = r := ⟨_, rfl⟩
  rw [hr2] at c2 m2 ⊢
  simp only [Option.bind_some, ord3]
  have l2 : r2.1 < d.size := by rcases m2 with ⟨x, y⟩ | ⟨x, y⟩ <;> rw [x]; exact l1.2; exact hc
  rw [porder2 hg hA l1.1 l2 (by omega)]
  rfl

theorem median_cnt {d : Array Int} {a b c s : Nat} : (median lt d a b c s).2 ≤ s + 3 := by
  unfold median
  have c1 := order2_cnt (lt := lt) (d := d) (a := a) (b := b) (s := s)
  have c2 := order2_cnt (lt := lt) (d := d) (a := (order2 lt d a b s).2.1) (b := c) (s := (order2 lt d a b s).2.2)
  have c3 := order2_cnt (lt := lt) (d := d) (a := (order2 lt d a b s).1) (b := (order2 lt d (order2 lt d a b s).2.1 c (order2 lt d a b s).2.2).1) (s := (order2 lt d (order2 lt d a b s).2.1 c (order2 lt d a b s).2.2).2.2)
  simp only
  omega

theorem padj (hg : Cmp g lt A) {d : Array Int} (hA : AllA A d) {a s : Nat} (h1 : 1 ≤ a) (ha : a + 1 < d.size) (hn : d.size ≤ 1152921504606846976) (hs : s < 900) :
    sl_medianAdjacentCmpFunc_int d.toList (a : Int) (s : Int) g = some (((medianAdjacent lt d a s).1 : Int), ((medianAdjacent lt d a s).2 : Int)) := by
  unfold sl_medianAdjacentCmpFunc_int medianAdjacent
  rw [wm1 (by omega) h1, wp1 (by omega), pmedian hg hA (by omega) (by omega) (by omega) hs]
  rfl

def hintN : Hint → Int
  | .unknown => 0
  | .increasing => 1
  | .decreasing => 2

theorem phint {s p : Nat} : sl_choosePivotCmpFunc_int_j11 (s : Int) (p : Int) = some ((p : Int), hintN (if s = 0 then .increasing else if s = 12 then .decreasing else .unknown)) := by
  unfold sl_choosePivotCmpFunc_int_j11
  by_cases h0 : s = 0
  · subst h0; rfl
  · have e0 : (((s : Nat) : Int) == 0) = false := by rw [beq_eq_false_iff_ne]; omega
    rw [e0, if_neg h0]
    by_cases h1 : s = 12
    · subst h1; rfl
    · have e1 : (((s : Nat) : Int) == 12) = false := by rw [beq_eq_false_iff_ne]; omega
      rw [e1, if_neg h1]; rfl

theorem ppivot (hg : Cmp g lt A) {n a b : Nat} (hn : n ≤ 1152921504606846976) (hab : a < b) (hb : b ≤ n) {d : Array Int} (hs : d.size = n) (hA : AllA A d) :
    sl_choosePivotCmpFunc_int d.toList (a : Int) (b : Int) g = some (((choosePivot lt d a b).1 : Int), hintN (choosePivot lt d a b).2) := by
  unfold sl_choosePivotCmpFunc_int choosePivot
  rw [wmm (by omega) (by omega), show (4 : Int) = ((4 : Nat) : Int) from rfl, tdivn, wrap64 (i := (((b - a) / 4 : Nat) : Int)) (by omega) (by omega)]
  have e1 : IntKind.wrap .i64 ((((b - a) / 4 : Nat) : Int) * 1) = (((b - a) / 4 * 1 : Nat) : Int) := by rw [wrap64 (by omega) (by omega)]; omega
  have e2 : IntKind.wrap .i64 ((((b - a) / 4 : Nat) : Int) * 2) = (((b - a) / 4 * 2 : Nat) : Int) := by rw [wrap64 (by omega) (by omega)]; omega
  have e3 : IntKind.wrap .i64 ((((b - a) / 4 : Nat) : Int) * 3) = (((b - a) / 4 * 3 : Nat) : Int) := by rw [wrap64 (by omega) (by omega)]; omega
  rw [e1, e2, e3, wpl (i := a) (k := (b - a) / 4 * 1) (by omega), wpl (i := a) (k := (b - a) / 4 * 2) (by omega), wpl (i := a) (k := (b - a) / 4 * 3) (by omega)]
  by_cases h8 : b - a ≥ 8
  · have d8 : decide (((b - a : Nat) : Int) ≥ 8) = true := decide_eq_true (by omega)
    rw [d8]
    simp only [if_pos h8, cond_true]
    by_cases h50 : b - a ≥ 50
    · have d50 : decide (((b - a : Nat) : Int) ≥ 50) = true := decide_eq_true (by omega)
      rw [d50]
      simp only [if_pos h50, cond_true]
      have p1 := padj hg hA (a := a + (b - a) / 4 * 1) (s := 0) (by omega) (by omega) (by omega) (by omega)
      rw [show (((0 : Nat)) : Int) = 0 from rfl] at p1
      rw [p1]
      have k1 := median_cnt (lt := lt) (d := d) (a := a + (b - a) / 4 * 1 - 1) (b := a + (b - a) / 4 * 1) (c := a + (b - a) / 4 * 1 + 1) (s := 0)
      have q1 := medianAdjacent_mem lt d (a + (b - a) / 4 * 1) 0
      change (medianAdjacent lt d (a + (b - a) / 4 * 1) 0).2 ≤ _ at k1
      obtain ⟨r1, hr1⟩ : ∃ r, medianAdjacent lt d (a + (b - a) / 4 * 1) 0 = r := ⟨_, rfl⟩
      rw [hr1] at k1 q1 ⊢
      simp only [Option.bind_some]
      rw [padj hg hA (a := a + (b - a) / 4 * 2) (s := r1.2) (by omega) (by omega) (by omega) (by omega)]
      have k2 := median_cnt (lt := lt) (d := d) (a := a + (b - a) / 4 * 2 - 1) (b := a + (b - a) / 4 * 2) (c := a + (b - a) / 4 * 2 + 1) (s := r1.2)
      have q2 := medianAdjacent_mem lt d (a + (b - a) / 4 * 2) r1.2
      change (medianAdjacent lt d (a + (b - a) / 4 * 2) r1.2).2 ≤ _ at k2
      obtain ⟨r2, hr2⟩ : ∃ r, medianAdjacent lt d (a + (b - a) / 4 * 2) r1.2 = r := ⟨_, rfl⟩
      rw [hr2] at k2 q2 ⊢
      simp only [Option.bind_some]
      rw [padj hg hA (a := a + (b - a) / 4 * 3) (s := r2.2) (by omega) (by omega) (by omega) (by omega)]
      have k3 := median_cnt (lt := lt) (d := d) (a := a + (b - a) / 4 * 3 - 1) (b := a + (b - a) / 4 * 3) (c := a + (b - a) / 4 * 3 + 1) (s := r2.2)
      have q3 := medianAdjacent_mem lt d (a + (b - a) / 4 * 3) r2.2
      change (medianAdjacent lt d (a + (b - a) / 4 * 3) r2.2).2 ≤ _ at k3
      obtain ⟨r3, hr3⟩ : ∃ r, medianAdjacent lt d (a + (b - a) / 4 * 3) r2.2 = r := ⟨_, rfl⟩
      rw [hr3] at k3 q3 ⊢
      simp only [Option.bind_some]
      unfold sl_choosePivotCmpFunc_int_j13
      rw [pmedian hg hA (by omega) (by omega) (by omega) (by omega)]
      simp only [Option.bind_some]
      exact phint
    · have d50 : decide (((b - a : Nat) : Int) ≥ 50) = false := decide_eq_false (by omega)
      rw [d50]
      simp only [if_neg h50, cond_false]
      unfold sl_choosePivotCmpFunc_int_j13
      have := pmedian hg hA (a := a + (b - a) / 4 * 1) (b := a + (b - a) / 4 * 2) (c := a + (b - a) / 4 * 3) (s := 0) (by omega) (by omega) (by omega) (by omega)
      rw [show (((0 : Nat)) : Int) = 0 from rfl] at this
      rw [this]
      simp only [Option.bind_some]
      exact phint
  · have d8 : decide (((b - a : Nat) : Int) ≥ 8) = false := decide_eq_false (by omega)
    rw [d8]
    simp only [if_neg h8, cond_false]
    exact phint (s := 0)

end Go.AM
