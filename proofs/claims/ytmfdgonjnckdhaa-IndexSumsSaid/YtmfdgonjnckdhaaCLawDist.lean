/-
  CHAPTER 4, PLAIN: how many strings stand in a label. No statement of the seat is proved here.
-/
import Derived.Test.YtmfdgonjnckdhaaCLawMatch
import Derived.Test.YtmfdgonjnckdhaaQ2
set_option linter.unusedVariables false
set_option linter.unusedSimpArgs false
namespace Go.AM
open Go.Sort

/-! ### common beginnings: of three strings, the two least are the same -/

theorem lcp_comm : ∀ (x y : List UInt8), lcp x y = lcp y x
  | [], [] => rfl
  | [], _ :: _ => rfl
  | _ :: _, [] => rfl
  | a :: x, b :: y => by
    rw [lcp_cons, lcp_cons, lcp_comm x y]
    by_cases h : a = b
    · rw [if_pos h, if_pos h.symm]
    · rw [if_neg h, if_neg (fun e => h e.symm)]

theorem lcp_nil (x : List UInt8) : lcp x [] = 0 := by cases x <;> rfl

theorem lcp_ultra : ∀ (x y z : List UInt8), min (lcp x y) (lcp x z) ≤ lcp y z
  | [], y, z => by simp [lcp]
  | a :: x, [], z => by simp [lcp]
  | a :: x, b :: y, [] => by rw [lcp_nil]; omega
  | a :: x, b :: y, c :: z => by
    have ih := lcp_ultra x y z
    rw [lcp_cons, lcp_cons, lcp_cons]
    by_cases h1 : a = b <;> by_cases h2 : a = c
    · subst h1; subst h2; simp only [if_true]; omega
    · rw [if_neg h2]; omega
    · rw [if_neg h1]; omega
    · rw [if_neg h1]; omega

/-- the longest common beginning with one of some strings -/
def mxL (x : List UInt8) : List (List UInt8) → Nat
  | [] => 0
  | y :: l => max (lcp x y) (mxL x l)

theorem mxL_perm (x : List UInt8) {s s' : List (List UInt8)} (h : s.Perm s') : mxL x s = mxL x s' := by
  induction h with
  | nil => rfl
  | cons y _ ih => simp only [mxL, ih]
  | swap y z l => simp only [mxL]; omega
  | trans _ _ h1 h2 => exact h1.trans h2

theorem mxL_ultra (x y : List UInt8) : ∀ s : List (List UInt8), min (lcp x y) (mxL x s) ≤ mxL y s
  | [] => by simp [mxL]
  | z :: s => by
    have h1 := mxL_ultra x y s
    have h2 := lcp_ultra x y z
    simp only [mxL]
    omega

/-- what each string adds to those before it -/
def adds (s : List (List UInt8)) : List (List UInt8) → Int
  | [] => 0
  | x :: l => (x.length : Int) - (mxL x s : Int) + adds (x :: s) l

theorem adds_perm1 : ∀ (l : List (List UInt8)) {s s' : List (List UInt8)}, s.Perm s' → adds s l = adds s' l
  | [], s, s', h => rfl
  | x :: l, s, s', h => by
    simp only [adds]
    rw [mxL_perm x h, adds_perm1 l (h.cons x)]

theorem adds_perm {l l' : List (List UInt8)} (h : l.Perm l') : ∀ s, adds s l = adds s l' := by
  induction h with
  | nil => intro s; rfl
  | cons x _ ih => intro s; simp only [adds, ih]
  | swap x y l =>
    intro s
    simp only [adds, mxL]
    rw [adds_perm1 l (List.Perm.swap x y s)]
    have h1 := mxL_ultra x y s
    have h2 := mxL_ultra y x s
    rw [lcp_comm y x] at h2 ⊢
    omega
  | trans _ _ h1 h2 => intro s; rw [h1, h2]

/-! ### in order, the neighbour has most in common -/

theorem lcp_mid : ∀ (z y x : List UInt8), ltStr y z = false → ltStr x y = false → lcp z x ≤ lcp z y ∧ lcp z x ≤ lcp y x
  | [], y, x, _, _ => by simp [lcp]
  | c :: z, y, [], _, _ => by rw [lcp_nil]; exact ⟨Nat.zero_le _, Nat.zero_le _⟩
  | c :: z, [], a :: x, h1, _ => by simp [ltStr] at h1
  | c :: z, b :: y, a :: x, h1, h2 => by
    by_cases hac : c = a
    · subst hac
      unfold ltStr at h1 h2
      simp only [decide_eq_false_iff_not, List.cons_lt_cons_iff, not_or, not_and] at h1 h2
      have hb : b = c := UInt8.le_antisymm (UInt8.not_lt.1 h2.1) (UInt8.not_lt.1 h1.1)
      subst hb
      have := lcp_mid z y x (by unfold ltStr; simpa using h1.2 rfl) (by unfold ltStr; simpa using h2.2 rfl)
      rw [lcp_cons, lcp_cons, lcp_cons]
      simp only [if_true]
      omega
    · rw [lcp_cons, if_neg hac]
      exact ⟨Nat.zero_le _, Nat.zero_le _⟩

/-- strings in order -/
def Ord (l : List (List UInt8)) : Prop := l.Pairwise fun a b => ltStr b a = false

theorem mxL_last {x y : List UInt8} {s : List (List UInt8)} (h : ∀ z, z ∈ s → ltStr y z = false) (hxy : ltStr x y = false) : mxL x (y :: s) = lcp y x := by
  have key : ∀ s : List (List UInt8), (∀ z, z ∈ s → ltStr y z = false) → mxL x s ≤ lcp y x := by
    intro s
    induction s with
    | nil => intro _; simp [mxL]
    | cons z s ih =>
      intro h
      have h1 := ih fun w hw => h w (List.mem_cons_of_mem _ hw)
      have h2 := (lcp_mid z y x (h z (List.mem_cons_self ..)) hxy).2
      simp only [mxL]
      rw [lcp_comm x z]
      omega
  have := key s h
  simp only [mxL]
  rw [lcp_comm x y]
  omega

/-- the common beginnings of neighbours -/
def nbs : List (List UInt8) → List Nat
  | x :: y :: r => lcp x y :: nbs (y :: r)
  | _ => []

def lens (l : List (List UInt8)) : Int := (l.map fun x => (x.length : Int)).sum

theorem adds_ord : ∀ (l : List (List UInt8)) (y : List UInt8) (s : List (List UInt8)), Ord (y :: l) → (∀ z, z ∈ s → ltStr y z = false) → adds (y :: s) l = lens l - ((nbs (y :: l)).map fun (n : Nat) => (n : Int)).sum
  | [], y, s, _, _ => by simp [adds, lens, nbs]
  | x :: l, y, s, h, hs => by
    have hxy := (List.pairwise_cons.1 h).1 x (List.mem_cons_self ..)
    have hl := (List.pairwise_cons.1 h).2
    simp only [adds]
    rw [mxL_last hs hxy, adds_ord l x (y :: s) hl (fun z hz => by
      rcases List.mem_cons.1 hz with rfl | hz
      · exact hxy
      · exact swo_ltStr.ntrans _ _ _ hxy (hs z hz))]
    simp only [nbs, lens, List.map_cons, List.sum_cons]
    omega

theorem adds_sorted {l : List (List UInt8)} (h : Ord l) : adds [] l = lens l - ((nbs l).map fun (n : Nat) => (n : Int)).sum := by
  cases l with
  | nil => simp [adds, lens, nbs]
  | cons y l =>
    have := adds_ord l y [] h (fun z hz => by cases hz)
    simp only [adds, mxL, this, lens, List.map_cons, List.sum_cons]
    omega

theorem coms_nbs (t : ByteArray) : ∀ l : List Int, coms t l = (nbs (l.map (suf t))).map fun (n : Nat) => (n : Int)
  | [] => rfl
  | [_] => rfl
  | x :: y :: r => by
    simp only [coms, List.map_cons, nbs]
    rw [coms_nbs t (y :: r)]
    rfl

theorem ord_of {t : ByteArray} {l : List Int} (h : Sorted (ltS t) l) : Ord (l.map (suf t)) := by
  unfold Ord
  rw [List.pairwise_map]
  exact h

theorem lens_perm {l l' : List (List UInt8)} (h : l.Perm l') : lens l = lens l' := by
  induction h with
  | nil => rfl
  | cons x _ ih => unfold lens at ih ⊢; simp only [List.map_cons, List.sum_cons, ih]
  | swap x y l => unfold lens; simp only [List.map_cons, List.sum_cons]; omega
  | trans _ _ h1 h2 => exact h1.trans h2

theorem lens_append (a b : List (List UInt8)) : lens (a ++ b) = lens a + lens b := by
  unfold lens
  rw [List.map_append, List.sum_append]

theorem suf_len {t : ByteArray} {i : Nat} : (suf t (i : Int)).length = t.size - i := by
  unfold suf
  rw [List.length_drop, size_list, Int.toNat_natCast]

theorem lens_seq (t : ByteArray) : ∀ k : Nat, k ≤ t.size + 1 → 2 * lens ((seqI k).map (suf t)) = (k : Int) * (2 * t.size + 1 - k)
  | 0, _ => by simp [seqI, lens]
  | k + 1, h => by
    have ih := lens_seq t k (by omega)
    rw [seqI_succ, List.map_append, lens_append, Int.mul_add, ih]
    have : lens (List.map (suf t) [((k : Nat) : Int)]) = ((t.size - k : Nat) : Int) := by simp [lens, suf_len]
    rw [this]
    have e : ((t.size - k : Nat) : Int) = (t.size : Int) - k := by omega
    rw [e]
    have e2 : ((k + 1 : Nat) : Int) = (k : Int) + 1 := by omega
    rw [e2]
    generalize (k : Int) = K
    generalize (t.size : Int) = N
    have e3 : 2 * N + 1 - K = (2 * N - K) + 1 := by omega
    have e4 : 2 * N + 1 - (K + 1) = 2 * N - K := by omega
    rw [e3, e4, Int.mul_add, Int.add_mul, Int.mul_one, Int.one_mul]
    omega

/-- the strings that stand in a label, counted by the suffixes in their order in it -/
def distinct (t : ByteArray) : Int := adds [] ((seqI (t.size + 1)).map (suf t))

theorem distinct_sorted {t : ByteArray} {l : List Int} (hp : l.Perm (seqI (t.size + 1))) (hs : Sorted (ltS t) l) : 2 * distinct t = (t.size : Int) * (t.size + 1) - 2 * (coms t l).sum := by
  have h1 : distinct t = adds [] (l.map (suf t)) := (adds_perm (hp.map (suf t)) []).symm
  rw [h1, adds_sorted (ord_of hs), ← coms_nbs, lens_perm (hp.map (suf t)), Int.mul_sub, lens_seq t (t.size + 1) (Nat.le_refl _)]
  have e : (((t.size + 1 : Nat) : Int)) * (2 * (t.size : Int) + 1 - ((t.size + 1 : Nat) : Int)) = (t.size : Int) * ((t.size : Int) + 1) := by
    have e1 : (2 * (t.size : Int) + 1 - ((t.size + 1 : Nat) : Int)) = (t.size : Int) := by omega
    have e2 : ((t.size + 1 : Nat) : Int) = (t.size : Int) + 1 := by omega
    rw [e1, e2, Int.mul_comm]
  rw [e]

/-! ### the program -/

theorem coms_bound {t : ByteArray} : ∀ (l : List Int), (∀ x, x ∈ l → 0 ≤ x) → ∀ c, c ∈ coms t l → 0 ≤ c ∧ c ≤ t.size
  | [], _, c, hc => by simp [coms] at hc
  | [_], _, c, hc => by simp [coms] at hc
  | x :: y :: r, h, c, hc => by
    simp only [coms] at hc
    rcases List.mem_cons.1 hc with rfl | hc
    · have := (lcp_le (suf t x) (suf t y)).1
      unfold suf at this
      rw [List.length_drop, size_list] at this
      unfold suf
      omega
    · exact coms_bound (y :: r) (fun z hz => h z (List.mem_cons_of_mem _ hz)) c hc

theorem dist_l1 (K : Int → Option (Int × Int)) {B : Int} (hB : B ≤ 1000000000) (l : List Int) : ∀ (k : Nat) (v : Int), (∀ c, c ∈ l → 0 ≤ c ∧ c ≤ 1000) → v ≤ B → 1000 * (l.length : Int) ≤ v + B → ix_Distinct_l1 K l k v = K (v - l.sum) := by
  induction l with
  | nil => intro k v _ _ _; rw [ix_Distinct_l1.eq_1]; simp
  | cons x l ih =>
    intro k v h h1 h2
    have hx := h x (List.mem_cons_self ..)
    simp only [List.length_cons] at h2
    rw [ix_Distinct_l1.eq_2, wrap_id (by omega) (by omega), ih (k + 1) (v - x) (fun c hc => h c (List.mem_cons_of_mem _ hc)) (by omega) (by omega)]
    rw [List.sum_cons]
    congr 1
    omega

theorem distinct_val {t : ByteArray} (hs : t.size ≤ 300) : ix_Distinct bigFuel t = some (if lab t then (distinct t, 0) else (0, 2)) := by
  obtain ⟨l, h1, h2, h3, h4⟩ := sorts_same (t := t) (by omega)
  obtain ⟨c1, _⟩ := commons_val (by omega) h1 h2 h3
  have hl : l.length = t.size + 1 := by rw [h3.length_eq, seqI_len]
  have hb : ∀ c, c ∈ coms t l → 0 ≤ c ∧ c ≤ (t.size : Int) := coms_bound l fun x hx => (mem_seqI.1 (h3.mem_iff.1 hx)).1
  have hd := distinct_sorted h3 h4
  have hm : (t.size : Int) * (t.size + 1) ≤ 300 * 301 := by
    have e : (t.size : Int) * ((t.size : Int) + 1) = ((t.size * (t.size + 1) : Nat) : Int) := by simp
    have := Nat.mul_le_mul hs (show t.size + 1 ≤ 301 by omega)
    rw [e]
    omega
  have hm0 : 0 ≤ (t.size : Int) * (t.size + 1) := Int.mul_nonneg (by omega) (by omega)
  unfold ix_Distinct
  rw [valid_val (by omega)]
  simp only [Option.bind_some]
  cases lab t with
  | false => rfl
  | true =>
    have hlen : (coms t l).length = t.size := by rw [coms_len, hl]; rfl
    simp only [Bool.not_true, cond_false, c1, Option.bind_some, if_true]
    rw [lenOk_of (by omega)]
    simp only [chk, cond_true]
    rw [wrap_id (a := (t.size : Int) + 1) (by omega) (by omega), wrap_id (a := (t.size : Int) * ((t.size : Int) + 1)) (by omega) (by omega)]
    have ht : ((t.size : Int) * ((t.size : Int) + 1)).tdiv 2 = (t.size : Int) * ((t.size : Int) + 1) / 2 := Int.tdiv_eq_ediv_of_nonneg hm0
    rw [ht, wrap_id (by omega) (by omega), dist_l1 _ (Int.le_refl _) _ _ _ (fun c hc => by have := hb c hc; omega) (by omega) (by omega)]
    unfold ix_Distinct_j8
    congr 2
    generalize (t.size : Int) * ((t.size : Int) + 1) = A at hd
    omega

/-! ### the reference -/

theorem rdist_l2 {t : ByteArray} (hs : t.size ≤ 999) {i : Nat} (hi : i ≤ t.size) (K : Int → Option Int) : ∀ (r : List Nat) (k v : Nat), k + r.length = i →
    ∃ w : Nat, rf4_Distinct_l2 bigFuel t i K r k ((v : Nat) : Int) = K ((w : Nat) : Int) ∧ w = max v (mxL (suf t i) ((r.zipIdx k).map fun p => suf t ((p.2 : Nat) : Int)))
  | [], k, v, h => ⟨v, by rw [rf4_Distinct_l2.eq_1], by simp [mxL]⟩
  | x :: r, k, v, h => by
    simp at h
    obtain ⟨e, e1, e2⟩ := ssub_to (t := t) (i := (i : Int)) (by omega) (by omega)
    obtain ⟨f, f1, f2⟩ := ssub_to (t := t) (i := ((k : Nat) : Int)) (by omega) (by omega)
    have hes : e.size ≤ 1000 := by rw [← size_list, e2, suf_len]; omega
    rw [rf4_Distinct_l2.eq_2, e1, f1]
    simp only [Option.bind_some, (agree_val (a := e) (b := f) hes).2, e2, f2]
    obtain ⟨q, hq, hq2⟩ : ∃ q : Nat, (if ((lcp (suf t (i : Int)) (suf t ((k : Nat) : Int)) : Nat) : Int) > ((v : Nat) : Int) then ((lcp (suf t (i : Int)) (suf t ((k : Nat) : Int)) : Nat) : Int) else ((v : Nat) : Int)) = ((q : Nat) : Int) ∧ q = max v (lcp (suf t (i : Int)) (suf t ((k : Nat) : Int))) := by
      split
      · exact ⟨_, rfl, by omega⟩
      · exact ⟨_, rfl, by omega⟩
    rw [hq]
    obtain ⟨w, w1, w2⟩ := rdist_l2 hs hi K r (k + 1) q (by omega)
    refine ⟨w, w1, ?_⟩
    rw [w2, hq2]
    simp only [List.zipIdx_cons, List.map_cons, mxL]
    omega

theorem zip_seq (t : ByteArray) (i : Nat) : ((List.range i).zipIdx 0).map (fun p => suf t ((p.2 : Nat) : Int)) = (seqI i).map (suf t) := by
  unfold seqI
  refine List.ext_getElem (by simp) fun a h1 h2 => ?_
  simp

theorem rdist_l1 {t : ByteArray} (hs : t.size ≤ 999) : ∀ (r : List Nat) (k : Nat) (v : Int), k + r.length = t.size → 0 ≤ v → v + 1000 * (r.length : Int) ≤ 1000000000 →
    rf4_Distinct_l1 bigFuel t (rf4_Distinct_j4) r k v = some (v + adds ((seqI k).map (suf t)) (((seqI t.size).drop k).map (suf t)))
  | [], k, v, h, h0, h1 => by
    simp at h
    rw [rf4_Distinct_l1.eq_1, List.drop_eq_nil_of_le (by rw [seqI_len]; omega)]
    simp [rf4_Distinct_j4, adds]
  | x :: r, k, v, h, h0, h1 => by
    simp at h
    simp only [List.length_cons] at h1
    obtain ⟨w, w1, w2⟩ := rdist_l2 hs (i := k) (by omega) (rf4_Distinct_j10 t k v (rf4_Distinct_l1 bigFuel t (rf4_Distinct_j4) r (k + 1))) (List.range (Int.toNat (k : Int))) 0 0 (by simp)
    rw [Int.toNat_natCast, zip_seq, Nat.zero_max] at w2
    have w1' : rf4_Distinct_l2 bigFuel t k (rf4_Distinct_j10 t k v (rf4_Distinct_l1 bigFuel t (rf4_Distinct_j4) r (k + 1))) (List.range (Int.toNat (k : Int))) 0 0 = _ := w1
    have hwl : w ≤ t.size - k := by
      rw [w2, ← suf_len]
      generalize (seqI k).map (suf t) = s
      induction s with
      | nil => simp [mxL]
      | cons y s ih =>
        have := (lcp_le (suf t ((k : Nat) : Int)) y).1
        simp only [mxL]
        omega
    rw [rf4_Distinct_l1.eq_2, lenOk_of (by simp; omega)]
    simp only [chk, cond_true]
    rw [w1']
    unfold rf4_Distinct_j10
    rw [wrap_id (a := (t.size : Int) - (k : Int)) (by omega) (by omega), wrap_id (a := (t.size : Int) - (k : Int) - ((w : Nat) : Int)) (by omega) (by omega), wrap_id (by omega) (by omega)]
    rw [rdist_l1 hs r (k + 1) _ (by omega) (by omega) (by omega)]
    have hk : k < (seqI t.size).length := by rw [seqI_len]; omega
    have hd : (seqI t.size).drop k = ((k : Nat) : Int) :: (seqI t.size).drop (k + 1) := by
      rw [List.drop_eq_getElem_cons hk]
      simp [seqI]
    rw [hd, List.map_cons, adds, suf_len, ← w2]
    have hp : adds ((seqI (k + 1)).map (suf t)) (((seqI t.size).drop (k + 1)).map (suf t)) = adds (suf t ((k : Nat) : Int) :: (seqI k).map (suf t)) (((seqI t.size).drop (k + 1)).map (suf t)) := by
      refine adds_perm1 _ ?_
      rw [seqI_succ, List.map_append]
      exact List.perm_append_comm (l₂ := List.map (suf t) [((k : Nat) : Int)])
    rw [hp]
    congr 1
    omega

theorem refDistinct_val {t : ByteArray} (hs : t.size ≤ 999) : rf4_Distinct bigFuel t = some (distinct t) := by
  unfold rf4_Distinct
  rw [lenOk_of (by simp; omega)]
  simp only [chk, cond_true]
  rw [rdist_l1 hs _ 0 0 (by simp) (by omega) (by simp; omega)]
  congr 1
  have hz : ∀ (l s : List (List UInt8)), adds s (l ++ [[]]) = adds s l := by
    intro l
    induction l with
    | nil =>
      intro s
      have : mxL [] s = 0 := by
        induction s with
        | nil => rfl
        | cons y s ih => simp only [mxL, ih]; simp [lcp]
      simp [adds, this]
    | cons x l ih => intro s; simp only [List.cons_append, adds, ih]
  unfold distinct
  rw [seqI_succ, List.map_append]
  have he : List.map (suf t) [((t.size : Nat) : Int)] = [[]] := by
    have : suf t ((t.size : Nat) : Int) = [] := List.eq_nil_of_length_eq_zero (by rw [suf_len]; omega)
    simp [this]
  rw [he, hz]
  simp [seqI]
end Go.AM
