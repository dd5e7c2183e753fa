/-
  CHAPTER 4, PLAIN: the lengths of matches. No statement of the seat is proved here.
-/
import Derived.Test.YtmfdgonjnckdhaaCLawSort
import Derived.Test.YtmfdgonjnckdhaaM1
set_option linter.unusedVariables false
set_option linter.unusedSimpArgs false
namespace Go.AM
open Go.Sort

/-- the longest beginning of x that stands in a string -/
def mx (x : List UInt8) : List UInt8 → Nat
  | [] => 0
  | b :: l => max (lcp x (b :: l)) (mx x l)

theorem lcp_cons (a b : UInt8) (x y : List UInt8) : lcp (a :: x) (b :: y) = if a = b then lcp x y + 1 else 0 := rfl
theorem mx_cons (x : List UInt8) (b : UInt8) (l : List UInt8) : mx x (b :: l) = max (lcp x (b :: l)) (mx x l) := rfl

theorem lcp_mx (x : List UInt8) : ∀ l : List UInt8, lcp x l ≤ mx x l
  | [] => by cases x <;> simp [lcp]
  | b :: l => by rw [mx_cons]; omega

theorem mx_len (x : List UInt8) : ∀ l : List UInt8, mx x l ≤ x.length
  | [] => by simp [mx]
  | b :: l => by
    rw [mx_cons]
    have := mx_len x l
    have := (lcp_le x (b :: l)).1
    omega

theorem mx_step (a : UInt8) (x : List UInt8) : ∀ l : List UInt8, mx (a :: x) l ≤ mx x l + 1
  | [] => by simp [mx]
  | b :: l => by
    rw [mx_cons, mx_cons]
    have h1 := mx_step a x l
    have h2 := lcp_mx x l
    have h3 : lcp (a :: x) (b :: l) ≤ lcp x l + 1 := by
      rw [lcp_cons]
      have h4 : lcp x l ≤ lcp x l + 1 := by omega
      split <;> omega
    have h5 := lcp_mx x (b :: l)
    rw [mx_cons] at h5
    omega

theorem prefix_lcp : ∀ (k : Nat) (x y : List UInt8), k ≤ x.length → (x.take k).isPrefixOf y = decide (k ≤ lcp x y)
  | 0, x, y, _ => by simp
  | k + 1, [], y, h => by simp at h
  | k + 1, a :: x, [], h => by simp [lcp]
  | k + 1, a :: x, b :: y, h => by
    have ih := prefix_lcp k x y (by simpa using h)
    simp only [List.take_succ_cons, List.isPrefixOf_cons_cons, ih, lcp_cons]
    by_cases hab : a = b
    · subst hab; simp
    · simp [hab]

theorem contains_cons (b : UInt8) (l w : List UInt8) : Lib.contains (b :: l) w = (w.isPrefixOf (b :: l) || Lib.contains l w) := by
  unfold Lib.contains
  rw [Lib.index]
  cases w.isPrefixOf (b :: l) with
  | true => simp
  | false =>
    have hge := Lib.index_ge l w
    simp only [Bool.false_eq_true, if_false, Bool.false_or]
    by_cases h : Lib.index l w = -1
    · rw [h]
      rfl
    · have hb : (Lib.index l w == -1) = false := by simpa using h
      have h1 : 0 ≤ Lib.index l w := by omega
      have h2 : 0 ≤ Lib.index l w + 1 := by omega
      rw [hb]
      simp only [Bool.false_eq_true, if_false]
      rw [decide_eq_true h1, decide_eq_true h2]

theorem contains_mx (x : List UInt8) {k : Nat} (hk : k + 1 ≤ x.length) : ∀ l : List UInt8, Lib.contains l (x.take (k + 1)) = decide (k + 1 ≤ mx x l)
  | [] => by
    cases x with
    | nil => simp at hk
    | cons a x => simp [mx, Lib.contains, Lib.index]
  | b :: l => by
    rw [contains_cons, prefix_lcp _ _ _ hk, contains_mx x hk l, mx_cons]
    by_cases h1 : k + 1 ≤ lcp x (b :: l) <;> by_cases h2 : k + 1 ≤ mx x l <;> simp [h1, h2] <;> omega

/-- all lengths -/
def mlist (t : List UInt8) : List UInt8 → List Int
  | [] => []
  | a :: x => ((mx (a :: x) t : Nat) : Int) :: mlist t x

theorem mlist_len (t : List UInt8) : ∀ p : List UInt8, (mlist t p).length = p.length
  | [] => rfl
  | a :: x => by unfold mlist; simp [mlist_len t x]

theorem match_l2 {t p : ByteArray} (ht : t.size ≤ 1000) (hp : p.size ≤ 1000) {i : Nat} (hi : i ≤ p.size) (K : Int → Option (List Int × Int)) : ∀ (d n m : Nat), p.size - i - n = d → d < m → n ≤ mx (p.data.toList.drop i) t.data.toList →
    ix_Match_l2 t i p K m ((n : Nat) : Int) = K ((mx (p.data.toList.drop i) t.data.toList : Nat) : Int) := by
  intro d
  have hx : (p.data.toList.drop i).length = p.size - i := by rw [List.length_drop, size_list]
  have hml := mx_len (p.data.toList.drop i) t.data.toList
  induction d with
  | zero =>
    intro n m hd hm hn
    obtain ⟨m, rfl⟩ : ∃ m', m = m' + 1 := ⟨m - 1, by omega⟩
    have he : n = mx (p.data.toList.drop i) t.data.toList := by omega
    have hw : IntKind.wrap .i64 ((i : Int) + ((n : Nat) : Int)) = ((i + n : Nat) : Int) := by rw [wrap_id (by omega) (by omega)]; simp
    rw [ix_Match_l2.eq_2, hw]
    have d1 : decide (((i + n : Nat) : Int) < (p.size : Int)) = false := by rw [decide_eq_false_iff_not]; omega
    rw [d1, ← he]
    rfl
  | succ d ih =>
    intro n m hd hm hn
    obtain ⟨m, rfl⟩ : ∃ m', m = m' + 1 := ⟨m - 1, by omega⟩
    have hw : IntKind.wrap .i64 ((i : Int) + ((n : Nat) : Int)) = ((i + n : Nat) : Int) := by rw [wrap_id (by omega) (by omega)]; simp
    have hw2 : IntKind.wrap .i64 (((i + n : Nat) : Int) + 1) = ((i + n + 1 : Nat) : Int) := by rw [wrap_id (by omega) (by omega)]; simp
    have hw3 : IntKind.wrap .i64 (((n : Nat) : Int) + 1) = ((n + 1 : Nat) : Int) := by rw [wrap_id (by omega) (by omega)]; simp
    rw [ix_Match_l2.eq_2, hw, hw2]
    have d1 : decide (((i + n : Nat) : Int) < (p.size : Int)) = true := by rw [decide_eq_true_eq]; omega
    obtain ⟨e, e1, e2⟩ := ssub_val (t := p) (i := (i : Int)) (j := ((i + n + 1 : Nat) : Int)) (by omega) (by omega) (by omega)
    have e3 : e.data.toList = (p.data.toList.drop i).take (n + 1) := by
      rw [e2, Int.toNat_natCast, Int.toNat_natCast, List.drop_take]
      congr 1
      omega
    rw [d1, e1]
    simp only [cond_true, Option.bind_some]
    unfold st_Contains
    rw [decide_eq_true (by omega), e3, contains_mx _ (by omega)]
    simp only [chk, cond_true, Option.bind_some]
    unfold ix_Match_j22
    by_cases hc : n + 1 ≤ mx (p.data.toList.drop i) t.data.toList
    · rw [decide_eq_true hc, hw3]
      exact ih (n + 1) m (by omega) (by omega) hc
    · rw [decide_eq_false hc]
      have he : n = mx (p.data.toList.drop i) t.data.toList := by omega
      rw [← he]
      rfl

theorem match_l1 {t p : ByteArray} (ht : t.size ≤ 1000) (hp : p.size ≤ 1000) : ∀ (r : List Nat) (k n : Nat) (v : List Int), k + r.length = p.size → v.length = k → n ≤ mx (p.data.toList.drop k) t.data.toList + 1 → n ≤ 1000 →
    ix_Match_l1 bigFuel t p (ix_Match_j12) r k v ((n : Nat) : Int) = some (v ++ mlist t.data.toList (p.data.toList.drop k), 0)
  | [], k, n, v, h, hv, hn, hn2 => by
    simp at h
    rw [ix_Match_l1.eq_1, List.drop_eq_nil_of_le (by rw [size_list]; omega)]
    simp [ix_Match_j12, mlist]
  | x :: r, k, n, v, h, hv, hn, hn2 => by
    simp at h
    have hk : k < p.data.toList.length := by rw [size_list]; omega
    have hd := List.drop_eq_getElem_cons hk
    obtain ⟨q, hq, hq2⟩ : ∃ q : Nat, (if 0 > (IntKind.wrap .i64 (((n : Nat) : Int) - 1)) then (0 : Int) else (IntKind.wrap .i64 (((n : Nat) : Int) - 1))) = ((q : Nat) : Int) ∧ q ≤ mx (p.data.toList.drop k) t.data.toList := by
      rw [wrap_id (by omega) (by omega)]
      split
      · exact ⟨0, rfl, Nat.zero_le _⟩
      · exact ⟨n - 1, by omega, by omega⟩
    rw [ix_Match_l1.eq_2, hq, match_l2 ht hp (by omega) _ (p.size - k - q) q bigFuel rfl (by unfold bigFuel; omega) hq2]
    unfold ix_Match_j19
    rw [capOk_small (by omega) (by simp; omega)]
    simp only [chk, cond_true]
    have hml := mx_len (p.data.toList.drop k) t.data.toList
    rw [List.length_drop, size_list] at hml
    have hst : mx (p.data.toList.drop k) t.data.toList ≤ mx (p.data.toList.drop (k + 1)) t.data.toList + 1 := by
      rw [hd]; exact mx_step _ _ _
    rw [match_l1 ht hp r (k + 1) _ _ (by omega) (by simp; omega) hst (by omega)]
    have ec : mlist t.data.toList (p.data.toList.drop k) = ((mx (p.data.toList.drop k) t.data.toList : Nat) : Int) :: mlist t.data.toList (p.data.toList.drop (k + 1)) := by
      conv => lhs; rw [hd]
      rw [mlist, ← hd]
    rw [ec]
    simp

theorem match_val {t p : ByteArray} (ht : t.size ≤ 1000) (hp : p.size ≤ 1000) : ix_Match bigFuel t p = some (if lab t && lab p then (mlist t.data.toList p.data.toList, 0) else ([], 2)) := by
  unfold ix_Match ix_Match_j5
  rw [valid_val (by omega), valid_val (by omega), lenOk_of (by simp; omega)]
  have := match_l1 ht hp (List.range (Int.toNat (p.size : Int))) 0 0 [] (by simp) rfl (by omega) (by omega)
  have this' : ix_Match_l1 bigFuel t p (ix_Match_j12) (List.range (Int.toNat (p.size : Int))) 0 [] 0 = some (mlist t.data.toList p.data.toList, 0) := by simpa using this
  rw [this']
  cases lab t <;> cases lab p <;> rfl

theorem refm_l2 {t p : ByteArray} (ht : t.size ≤ 1000) (hp : p.size ≤ 1000) {i : Nat} (hi : i ≤ p.size) (K : Int → Option (List Int)) : ∀ (r : List Nat) (k v : Nat), k + r.length = t.size → 
    rf4_Match_l2 bigFuel t i p K r k ((v : Nat) : Int) = K ((max v (mx (p.data.toList.drop i) (t.data.toList.drop k)) : Nat) : Int)
  | [], k, v, h => by
    simp at h
    rw [rf4_Match_l2.eq_1, show t.data.toList.drop k = [] from List.drop_eq_nil_of_le (by rw [size_list]; omega)]
    simp [mx]
  | x :: r, k, v, h => by
    simp at h
    have hk : k < t.data.toList.length := by rw [size_list]; omega
    obtain ⟨e, e1, e2⟩ := ssub_to (t := p) (i := (i : Int)) (by omega) (by omega)
    obtain ⟨f, f1, f2⟩ := ssub_to (t := t) (i := ((k : Nat) : Int)) (by omega) (by omega)
    have hes : e.size ≤ 1000 := by
      rw [← size_list, e2]
      unfold suf
      rw [List.length_drop, size_list]
      omega
    rw [rf4_Match_l2.eq_2, e1, f1]
    simp only [Option.bind_some, (agree_val (a := e) (b := f) hes).2, e2, f2]
    unfold suf
    rw [Int.toNat_natCast, Int.toNat_natCast]
    obtain ⟨q, hq, hq2⟩ : ∃ q : Nat, (if ((lcp (p.data.toList.drop i) (t.data.toList.drop k) : Nat) : Int) > ((v : Nat) : Int) then ((lcp (p.data.toList.drop i) (t.data.toList.drop k) : Nat) : Int) else ((v : Nat) : Int)) = ((q : Nat) : Int) ∧ q = max v (lcp (p.data.toList.drop i) (t.data.toList.drop k)) := by
      split
      · exact ⟨_, rfl, by omega⟩
      · exact ⟨_, rfl, by omega⟩
    rw [hq, refm_l2 ht hp hi K r (k + 1) q (by omega), hq2]
    congr 2
    rw [List.drop_eq_getElem_cons hk, mx_cons]
    omega

theorem refm_l1 {t p : ByteArray} (ht : t.size ≤ 1000) (hp : p.size ≤ 1000) : ∀ (r : List Nat) (k : Nat) (v : List Int), k + r.length = p.size → v.length = k →
    rf4_Match_l1 bigFuel t p (rf4_Match_j5) r k v = some (v ++ mlist t.data.toList (p.data.toList.drop k))
  | [], k, v, h, hv => by
    simp at h
    rw [rf4_Match_l1.eq_1, List.drop_eq_nil_of_le (by rw [size_list]; omega)]
    simp [rf4_Match_j5, mlist]
  | x :: r, k, v, h, hv => by
    simp at h
    have hk : k < p.data.toList.length := by rw [size_list]; omega
    have hd := List.drop_eq_getElem_cons hk
    have e := refm_l2 ht hp (i := k) (by omega) (rf4_Match_j11 v (rf4_Match_l1 bigFuel t p (rf4_Match_j5) r (k + 1))) (List.range (Int.toNat (t.size : Int))) 0 0 (by simp)
    have e' : rf4_Match_l2 bigFuel t k p (rf4_Match_j11 v (rf4_Match_l1 bigFuel t p (rf4_Match_j5) r (k + 1))) (List.range (Int.toNat (t.size : Int))) 0 0 = _ := e
    rw [rf4_Match_l1.eq_2, lenOk_of (by simp; omega)]
    simp only [chk, cond_true]
    rw [e']
    unfold rf4_Match_j11
    rw [capOk_small (by omega) (by simp; omega)]
    simp only [chk, cond_true]
    rw [refm_l1 ht hp r (k + 1) _ (by omega) (by simp; omega), List.drop_zero, Nat.zero_max]
    have ec : mlist t.data.toList (p.data.toList.drop k) = ((mx (p.data.toList.drop k) t.data.toList : Nat) : Int) :: mlist t.data.toList (p.data.toList.drop (k + 1)) := by
      conv => lhs; rw [hd]
      rw [mlist, ← hd]
    rw [ec]
    simp

theorem refMatch_val {t p : ByteArray} (ht : t.size ≤ 1000) (hp : p.size ≤ 1000) : rf4_Match bigFuel t p = some (mlist t.data.toList p.data.toList) := by
  unfold rf4_Match
  rw [lenOk_of (by simp; omega)]
  simp only [chk, cond_true]
  have := refm_l1 ht hp (List.range (Int.toNat (p.size : Int))) 0 [] (by simp) rfl
  simpa using this

theorem indexMatches_true (s q : ByteArray) : lw4_IndexMatches bigFuel s q = some true := by
  obtain ⟨t, e1, e2, _⟩ := few_val s
  obtain ⟨p, f1, f2, _⟩ := few_val q
  unfold lw4_IndexMatches
  rw [e1, f1]
  simp only [Option.bind_some, match_val (t := t) (p := p) (by omega) (by omega), label_val (t := t) (by omega), label_val (t := p) (by omega)]
  unfold lw4_IndexMatches_j10
  rw [refMatch_val (by omega) (by omega), awake_val]
  cases lab t with
  | false => rfl
  | true =>
    cases lab p with
    | false => rfl
    | true =>
      simp only [Bool.not_true, cond_false, Option.bind_some, Bool.and_self, if_true]
      rw [equal_refl (by rw [mlist_len, size_list]; omega)]
      rfl
end Go.AM
