/-
  PLAIN FACTS: the printed insertion sort (at dependencies) sorts. No statement of the seat is proved here.
-/
import Derived.Test.YtmfdgonjnckdhaaCLaw0
set_option linter.unusedVariables false
set_option linter.unusedSimpArgs false
namespace Go.AM

theorem wrap64 {i : Int} (h1 : -9223372036854775808 ≤ i) (h2 : i ≤ 9223372036854775807) : IntKind.wrap .i64 i = i := wrap_id h1 (by omega)

theorem get_at {α : Type} {L q : List α} {x : α} {i : Nat} (h : i = L.length) : (L ++ x :: q)[i]? = some x := by
  subst h; simp

theorem upd_at {α : Type} {L q : List α} {x y : α} {i : Nat} (h : i = L.length) : upd (L ++ x :: q) i y = some (L ++ y :: q) := by
  subst h
  unfold upd
  rw [if_pos (by simp)]
  congr 1
  simp

/-- a strict order, as a test -/
structure Ord' (α : Type) (lt : α → α → Bool) : Prop where
  asym : ∀ x y, lt x y = true → lt y x = false
  trans : ∀ x y z, lt y x = false → lt z y = false → lt z x = false

def Sorted {α : Type} (lt : α → α → Bool) (l : List α) : Prop := l.Pairwise fun a b => lt b a = false

/-- what a comparing function answers -/
def Cmp {α : Type} (g : α → α → Option Int) (lt : α → α → Bool) (A : α → Prop) : Prop :=
  ∀ x y, A x → A y → ∃ w, g x y = some w ∧ decide (w < 0) = lt x y

theorem ins_l2 {g : Int → Int → Option Int} {lt : Int → Int → Bool} {A : Int → Prop} (hg : Cmp g lt A) {n : Nat} (hn : n ≤ 4611686018427387904) (L : List Int) (K : List Int → Option (List Int)) {x : Int} (hx : A x) :
    ∀ (k : Nat) (p q : List Int) (m : Nat), p.length = k → k < m → (L ++ (p ++ x :: q)).length = n → (∀ y, y ∈ p → A y) →
    ∃ p1 p2, p = p1 ++ p2 ∧ (∀ y, y ∈ p2 → lt x y = true) ∧ (p1 = [] ∨ ∃ p0 y, p1 = p0 ++ [y] ∧ lt x y = false) ∧
      sl_insertionSortCmpFunc_int_l2 n (L.length : Int) g K m (L ++ (p ++ x :: q)) ((L.length + p.length : Nat) : Int) = K (L ++ (p1 ++ x :: (p2 ++ q)))
  | 0, p, q, m, hk, hm, hlen, hA => by
    obtain rfl := List.length_eq_zero_iff.1 hk
    obtain ⟨m', rfl⟩ : ∃ m', m = m' + 1 := ⟨m - 1, by omega⟩
    refine ⟨[], [], rfl, fun y h => absurd h List.not_mem_nil, .inl rfl, ?_⟩
    rw [sl_insertionSortCmpFunc_int_l2.eq_2]
    have h0 : decide ((((L.length + ([] : List Int).length : Nat) : Int)) > (L.length : Int)) = false := by simp
    rw [h0]
    rfl
  | k + 1, p, q, m, hk, hm, hlen, hA => by
    obtain ⟨m', rfl⟩ : ∃ m', m = m' + 1 := ⟨m - 1, by omega⟩
    obtain ⟨p', y, rfl⟩ : ∃ p' y, p = p' ++ [y] := by
      rcases List.eq_nil_or_concat p with rfl | ⟨a, b, h⟩
      · simp at hk
      · exact ⟨a, b, by simpa using h⟩
    have hk' : p'.length = k := by simpa using hk
    have hlen' : L.length + (k + 1 + (q.length + 1)) = n := by simp at hlen; omega
    have hy : A y := hA y (by simp)
    rw [sl_insertionSortCmpFunc_int_l2.eq_2]
    have e0 : ((L.length + (p' ++ [y]).length : Nat) : Int) = ((L.length + k + 1 : Nat) : Int) := by simp [hk']; omega
    rw [e0]
    have h0 : decide (((L.length + k + 1 : Nat) : Int) > (L.length : Int)) = true := decide_eq_true (by omega)
    have h1 : IntKind.wrap .i64 (((L.length + k + 1 : Nat) : Int) - 1) = ((L.length + k : Nat) : Int) := by rw [wrap64 (by omega) (by omega)]; omega
    have h2 : decide ((0 : Int) ≤ ((L.length + k + 1 : Nat) : Int) ∧ ((L.length + k + 1 : Nat) : Int) < ((n : Nat) : Int)) = true := decide_eq_true (by omega)
    have h3 : decide ((0 : Int) ≤ ((L.length + k : Nat) : Int) ∧ ((L.length + k : Nat) : Int) < ((n : Nat) : Int)) = true := decide_eq_true (by omega)
    have g1 : (L ++ (p' ++ [y] ++ x :: q))[0 + Int.toNat ((L.length + k + 1 : Nat) : Int)]? = some x := by
      have : L ++ (p' ++ [y] ++ x :: q) = (L ++ (p' ++ [y])) ++ x :: q := by simp
      rw [this]; exact get_at (by simp; omega)
    have g2 : (L ++ (p' ++ [y] ++ x :: q))[0 + Int.toNat ((L.length + k : Nat) : Int)]? = some y := by
      have : L ++ (p' ++ [y] ++ x :: q) = (L ++ p') ++ y :: x :: q := by simp
      rw [this]; exact get_at (by simp; omega)
    obtain ⟨w, hw, hd⟩ := hg x y hx hy
    have hcond : ∀ (X Y : Option (List Int)), (bif true then X else Y) = X := fun _ _ => rfl
    rw [h1]
    simp only [h0, h2, h3, g1, g2, hw, hd, chk, cond_true, Option.bind_some]
    unfold sl_insertionSortCmpFunc_int_j16
    cases hlt : lt x y with
    | false =>
      simp only [cond_false]
      exact ⟨p' ++ [y], [], by simp, fun y h => absurd h List.not_mem_nil, .inr ⟨p', y, rfl, hlt⟩, by simp⟩
    | true =>
      rw [h1]
      have u1 : upd (L ++ (p' ++ [y] ++ x :: q)) (0 + Int.toNat ((L.length + k + 1 : Nat) : Int)) y = some (L ++ (p' ++ y :: y :: q)) := by
        have : L ++ (p' ++ [y] ++ x :: q) = (L ++ (p' ++ [y])) ++ x :: q := by simp
        rw [this, upd_at (by simp; omega)]; simp
      have u2 : upd (L ++ (p' ++ y :: y :: q)) (0 + Int.toNat ((L.length + k : Nat) : Int)) x = some (L ++ (p' ++ x :: (y :: q))) := by
        have : L ++ (p' ++ y :: y :: q) = (L ++ p') ++ y :: (y :: q) := by simp
        rw [this, upd_at (by simp; omega)]; simp
      simp only [h2, h3, g1, g2, u1, u2, chk, cond_true, Option.bind_some]
      obtain ⟨p1, p2, e, a, b, c⟩ := ins_l2 hg hn L K hx k p' (y :: q) m' hk' (by omega) (by simp; omega) (fun z hz => hA z (by simp [hz]))
      refine ⟨p1, p2 ++ [y], by rw [e]; simp, fun z hz => ?_, b, ?_⟩
      · rcases List.mem_append.1 hz with hz | hz
        · exact a z hz
        · simp at hz; subst hz; exact hlt
      · rw [hk'] at c
        rw [c]
        simp

theorem ins_sorted {lt : Int → Int → Bool} (ho : Ord' Int lt) {p1 p2 : List Int} {x : Int} (hs : Sorted lt (p1 ++ p2)) (h2 : ∀ y, y ∈ p2 → lt x y = true) (h1 : p1 = [] ∨ ∃ p0 y, p1 = p0 ++ [y] ∧ lt x y = false) : Sorted lt (p1 ++ x :: p2) := by
  unfold Sorted at *
  rw [List.pairwise_append] at hs ⊢
  obtain ⟨a, b, c⟩ := hs
  refine ⟨a, List.pairwise_cons.2 ⟨fun y hy => ho.asym _ _ (h2 y hy), b⟩, fun z hz y hy => ?_⟩
  rcases List.mem_cons.1 hy with rfl | hy
  · rcases h1 with rfl | ⟨p0, w, rfl, hw⟩
    · exact absurd hz List.not_mem_nil
    · rcases List.mem_append.1 hz with hz | hz
      · rw [List.pairwise_append] at a
        exact ho.trans _ _ _ (a.2.2 z hz w (by simp)) hw
      · simp at hz; subst hz; exact hw
  · exact c z hz y hy

theorem ins_l1 {g : Int → Int → Option Int} {lt : Int → Int → Bool} {A : Int → Prop} (hg : Cmp g lt A) (ho : Ord' Int lt) {n : Nat} (hn : n ≤ 4611686018427387904) {fuel : Nat} (hf : n < fuel) (L Q : List Int) :
    ∀ (r s : List Int) (m : Nat), r.length < m → (L ++ (s ++ (r ++ Q))).length = n → Sorted lt s → (∀ y, y ∈ s ++ r → A y) →
    ∃ s', s'.Perm (s ++ r) ∧ Sorted lt s' ∧
      sl_insertionSortCmpFunc_int_l1 fuel n (L.length : Int) ((L.length + s.length + r.length : Nat) : Int) g m (L ++ (s ++ (r ++ Q))) ((L.length + s.length : Nat) : Int) = some (L ++ (s' ++ Q))
  | [], s, m, hm, hlen, hs, hA => by
    obtain ⟨m', rfl⟩ : ∃ m', m = m' + 1 := ⟨m - 1, by omega⟩
    refine ⟨s, by simp, hs, ?_⟩
    rw [sl_insertionSortCmpFunc_int_l1.eq_2]
    have h0 : decide (((L.length + s.length : Nat) : Int) < ((L.length + s.length + ([] : List Int).length : Nat) : Int)) = false := by simp
    rw [h0]
    simp
  | x :: r, s, m, hm, hlen, hs, hA => by
    obtain ⟨m', rfl⟩ : ∃ m', m = m' + 1 := ⟨m - 1, by omega⟩
    simp only [List.length_cons] at hm
    have hlen' : L.length + (s.length + (r.length + 1 + Q.length)) = n := by simp at hlen; omega
    rw [sl_insertionSortCmpFunc_int_l1.eq_2]
    have h0 : decide (((L.length + s.length : Nat) : Int) < ((L.length + s.length + (x :: r).length : Nat) : Int)) = true := decide_eq_true (by simp; omega)
    rw [h0]
    simp only [cond_true]
    have el : L ++ (s ++ (x :: r ++ Q)) = L ++ (s ++ x :: (r ++ Q)) := by simp
    rw [el]
    obtain ⟨p1, p2, e, a, b, c⟩ := ins_l2 hg hn L (sl_insertionSortCmpFunc_int_j11 ((L.length + s.length : Nat) : Int) (sl_insertionSortCmpFunc_int_l1 fuel n (L.length : Int) ((L.length + s.length + (x :: r).length : Nat) : Int) g m')) (hA x (by simp)) s.length s (r ++ Q) fuel rfl (by omega) (by simp; omega) (fun y hy => hA y (by simp [hy]))
    rw [c]
    unfold sl_insertionSortCmpFunc_int_j11
    have w1 : IntKind.wrap .i64 (((L.length + s.length : Nat) : Int) + 1) = ((L.length + (p1 ++ x :: p2).length : Nat) : Int) := by
      rw [wrap64 (by omega) (by omega), e]; simp; omega
    have w2 : ((L.length + s.length + (x :: r).length : Nat) : Int) = ((L.length + (p1 ++ x :: p2).length + r.length : Nat) : Int) := by
      rw [e]; simp; omega
    have w3 : L ++ (p1 ++ x :: (p2 ++ (r ++ Q))) = L ++ ((p1 ++ x :: p2) ++ (r ++ Q)) := by simp
    rw [w1, w2, w3]
    obtain ⟨s', i1, i2, i3⟩ := ins_l1 hg ho hn hf L Q r (p1 ++ x :: p2) m' (by omega) (by have := congrArg List.length e; simp at this; simp; omega) (ins_sorted ho (e ▸ hs) a b) (fun y hy => hA y (by
      simp only [List.mem_append, List.mem_cons, e] at hy ⊢
      rcases hy with (h | h | h) | h <;> simp [h]))
    refine ⟨s', i1.trans ?_, i2, i3⟩
    have : (p1 ++ x :: p2 ++ r).Perm (p1 ++ p2 ++ x :: r) := by
      simp only [List.append_assoc, List.cons_append]
      refine List.Perm.append_left p1 ?_
      exact (List.perm_middle (l₁ := p2) (l₂ := r) (a := x)).symm
    rw [e]; exact this

/-- insertion sort sorts a part -/
theorem insertion_sorts {g : Int → Int → Option Int} {lt : Int → Int → Bool} {A : Int → Prop} (hg : Cmp g lt A) (ho : Ord' Int lt) {n : Nat} (hn : n ≤ 4611686018427387904) {fuel : Nat} (hf : n < fuel) (L M Q : List Int)
    (hlen : (L ++ (M ++ Q)).length = n) (hA : ∀ y, y ∈ M → A y) :
    ∃ M', M'.Perm M ∧ Sorted lt M' ∧ sl_insertionSortCmpFunc_int fuel (L ++ (M ++ Q)) n (L.length : Int) ((L.length + M.length : Nat) : Int) g = some (L ++ (M' ++ Q)) := by
  unfold sl_insertionSortCmpFunc_int
  have hl : L.length + (M.length + Q.length) = n := by simpa using hlen
  cases M with
  | nil =>
    refine ⟨[], .nil, .nil, ?_⟩
    obtain ⟨m', rfl⟩ : ∃ m', fuel = m' + 1 := ⟨fuel - 1, by omega⟩
    rw [sl_insertionSortCmpFunc_int_l1.eq_2, wrap64 (by omega) (by omega)]
    have h0 : decide ((L.length : Int) + 1 < ((L.length + ([] : List Int).length : Nat) : Int)) = false := decide_eq_false (by simp; omega)
    rw [h0]; rfl
  | cons x r =>
    simp only [List.length_cons] at hl
    obtain ⟨s', i1, i2, i3⟩ := ins_l1 hg ho hn hf L Q r [x] fuel (by omega) (by simp; omega) (List.pairwise_singleton _ _) (fun y hy => hA y (by simpa using hy))
    refine ⟨s', by simpa using i1, i2, ?_⟩
    have w1 : IntKind.wrap .i64 ((L.length : Int) + 1) = ((L.length + [x].length : Nat) : Int) := by
      rw [wrap64 (by omega) (by omega)]; simp
    have w2 : ((L.length + (x :: r).length : Nat) : Int) = ((L.length + [x].length + r.length : Nat) : Int) := by simp; omega
    rw [w1, w2]
    have w3 : L ++ (x :: r ++ Q) = L ++ ([x] ++ (r ++ Q)) := by simp
    rw [w3]
    exact i3

end Go.AM
