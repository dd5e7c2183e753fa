/-
  PLAIN FACTS: the printed pdqsort (at dependencies) sorts; fifth part: the recursion. No statement of the seat is proved here.
-/
import Derived.Test.YtmfdgonjnckdhaaCLawPdq4
set_option linter.unusedVariables false
set_option linter.unusedSimpArgs false
set_option maxRecDepth 100000
namespace Go.AM
open Go.Sort

variable {g : Int → Int → Option Int} {lt : Int → Int → Bool} {A : Int → Prop}

theorem snap_l {d : Array Int} {n : Nat} (hs : d.size = n) : snap 0 n d.toList = d.toList := by
  subst hs
  unfold snap
  rw [List.drop_zero, ← Array.length_toList, List.take_length]

theorem ppdq (hg : Cmp g lt A) (hS : SWO lt) {n : Nat} (hn : n ≤ 1000) : ∀ (k a b limit F m : Nat) (wb wp : Bool) (d : Array Int), limit ≤ 1000 → b - a ≤ k → a ≤ b → b ≤ n → d.size = n → AllA A d → Below lt a b d → n + 30 + k < F → k < m →
    ∃ d', sl_pdqsortCmpFunc_int_l1 F n g (sl_pdqsortCmpFunc_int F) m d.toList (a : Int) (b : Int) (limit : Int) wb wp = some d'.toList ∧ PermIn a b d d' ∧ SortedIn lt a b d' := by
  intro k
  induction k with
  | zero =>
    intro a b limit F m wb wp d hlim hk hab hb hs hA hB hF hm
    obtain ⟨m', rfl⟩ : ∃ m', m = m' + 1 := ⟨m - 1, by omega⟩
    rw [sl_pdqsortCmpFunc_int_l1.eq_2, wmm (by omega) (by omega)]
    have h0 : decide (((b - a : Nat) : Int) ≤ 12) = true := decide_eq_true (by omega)
    rw [h0, cond_true, pins hg (by omega) hab hb (by omega) hs hA]
    exact ⟨_, rfl, insertionSort_holds hS d a b hab (by omega)⟩
  | succ k ih =>
    intro a b limit F m wb wp d hlim hk hab hb hs hA hB hF hm
    obtain ⟨m', rfl⟩ : ∃ m', m = m' + 1 := ⟨m - 1, by omega⟩
    obtain ⟨F', rfl⟩ : ∃ F', F = F' + 1 := ⟨F - 1, by omega⟩
    rw [sl_pdqsortCmpFunc_int_l1.eq_2, wmm (by omega) (by omega)]
    by_cases h12 : b - a ≤ 12
    · have h0 : decide (((b - a : Nat) : Int) ≤ 12) = true := decide_eq_true (by omega)
      rw [h0, cond_true, pins hg (by omega) hab hb (by omega) hs hA]
      exact ⟨_, rfl, insertionSort_holds hS d a b hab (by omega)⟩
    have h0 : decide (((b - a : Nat) : Int) ≤ 12) = false := decide_eq_false (by omega)
    rw [h0]
    simp only [cond_false]
    by_cases hl : limit = 0
    · have h1 : (((limit : Nat) : Int) == 0) = true := by rw [beq_iff_eq]; omega
      rw [h1, cond_true, pheap hg (by omega) (by omega) hb (by omega) hs hA]
      exact ⟨_, rfl, heapSort_holds hS d a b hab (by omega)⟩
    have h1 : (((limit : Nat) : Int) == 0) = false := by rw [beq_eq_false_iff_ne]; omega
    rw [h1]
    simp only [cond_false]
    -- the call on a part, from any state
    have call : ∀ (a' b' limit' : Nat) (e : Array Int), limit' ≤ 1000 → b' - a' ≤ k → a' ≤ b' → b' ≤ n → e.size = n → AllA A e → Below lt a' b' e →
        ∃ d', sl_pdqsortCmpFunc_int (F' + 1) e.toList n (a' : Int) (b' : Int) (limit' : Int) g = some d'.toList ∧ PermIn a' b' e d' ∧ SortedIn lt a' b' d' := by
      intro a' b' limit' e e0 e1 e2 e3 e4 e5 e6
      rw [sl_pdqsortCmpFunc_int.eq_2]
      exact ih a' b' limit' F' F' true true e e0 e1 e2 e3 e4 e5 e6 (by omega) (by omega)
    have again : ∀ (a' b' limit' : Nat) (wb' wp' : Bool) (e : Array Int), limit' ≤ 1000 → b' - a' ≤ k → a' ≤ b' → b' ≤ n → e.size = n → AllA A e → Below lt a' b' e →
        ∃ d', sl_pdqsortCmpFunc_int_l1 (F' + 1) n g (sl_pdqsortCmpFunc_int (F' + 1)) m' e.toList (a' : Int) (b' : Int) (limit' : Int) wb' wp' = some d'.toList ∧ PermIn a' b' e d' ∧ SortedIn lt a' b' d' := by
      intro a' b' limit' wb' wp' e e0 e1 e2 e3 e4 e5 e6
      exact ih a' b' limit' (F' + 1) m' wb' wp' e e0 e1 e2 e3 e4 e5 e6 (by omega) (by omega)
    -- from the array that the pivot is chosen for, to the end
    have round : ∀ (lim p : Nat) (d3 : Array Int) (x y : Bool), lim ≤ 1000 → d3.size = n → AllA A d3 → Below lt a b d3 → a ≤ p → p < b →
        ∃ d', sl_pdqsortCmpFunc_int_j40 (F' + 1) n g (a : Int) (b : Int) ((lim : Nat) : Int) ((p : Nat) : Int) (sl_pdqsortCmpFunc_int (F' + 1)) (sl_pdqsortCmpFunc_int_l1 (F' + 1) n g (sl_pdqsortCmpFunc_int (F' + 1)) m') d3.toList x y = some d'.toList ∧ PermIn a b d3 d' ∧ SortedIn lt a b d' := by
      intro lim p d3 x y hlm s3 A3 B3 hp1 hp2
      unfold sl_pdqsortCmpFunc_int_j40
      have part : ∃ d', sl_pdqsortCmpFunc_int_j51 (F' + 1) n g (a : Int) (b : Int) ((lim : Nat) : Int) ((p : Nat) : Int) d3.toList x y (sl_pdqsortCmpFunc_int (F' + 1)) (sl_pdqsortCmpFunc_int_l1 (F' + 1) n g (sl_pdqsortCmpFunc_int (F' + 1)) m') false = some d'.toList ∧ PermIn a b d3 d' ∧ SortedIn lt a b d' := by
        unfold sl_pdqsortCmpFunc_int_j51
        rw [ppartition hg (by omega) (by omega) hb (by omega) (by omega) s3 A3]
        obtain ⟨mid, ap, d4, hx⟩ : ∃ mid ap d4, partition lt d3 a b p = (mid, ap, d4) := ⟨_, _, _, rfl⟩
        obtain ⟨g1, g2, hs4, hBa, hBr, hleft, hright⟩ := round_part hS (partition_holds lt) hp1 hp2 (by omega) B3 hx
        have hP4 := (partition_holds lt hS d3 a b p hp1 hp2 (by omega)).2.2.1
        rw [hx] at hP4 ⊢
        have A4 : AllA A d4 := A3.perm (by omega) hP4
        simp only [cond_false, Option.bind_some]
        rw [wmm (i := mid) (k := a) (by omega) (by omega), wmm (i := b) (k := mid) (by omega) (by omega)]
        by_cases hc : mid - a < b - mid
        · have h2 : decide (((mid - a : Nat) : Int) < ((b - mid : Nat) : Int)) = true := decide_eq_true (by omega)
          rw [h2]
          simp only [cond_true]
          obtain ⟨L, l0, l1, l2⟩ := call a mid lim d4 hlm (by omega) g1 (by omega) (by omega) A4 hBa
          rw [l0]
          simp only [Option.bind_some]
          obtain ⟨hBL, hfin⟩ := hleft L l1 l2
          rw [wp1 (by omega)]
          have AL : AllA A L := A4.perm (by omega) l1
          obtain ⟨R, r0, r1, r2⟩ := again (mid + 1) b lim (decide (((mid - a : Nat) : Int) ≥ IntKind.wrap .i64 ((IntKind.wrap .i64 ((b : Int) - (a : Int))).tdiv 8))) ap L hlm (by omega) (by omega) hb (by rw [l1.1]; omega) AL hBL
          exact ⟨R, r0, hfin R r1 r2⟩
        · have h2 : decide (((mid - a : Nat) : Int) < ((b - mid : Nat) : Int)) = false := decide_eq_false (by omega)
          rw [h2]
          simp only [cond_false]
          rw [wp1 (by omega)]
          obtain ⟨L, l0, l1, l2⟩ := call (mid + 1) b lim d4 hlm (by omega) (by omega) hb (by omega) A4 hBr
          rw [l0]
          simp only [Option.bind_some]
          obtain ⟨hBL, hfin⟩ := hright L l1 l2
          have AL : AllA A L := A4.perm (by omega) l1
          obtain ⟨R, r0, r1, r2⟩ := again a mid lim (decide (((b - mid : Nat) : Int) ≥ IntKind.wrap .i64 ((IntKind.wrap .i64 ((b : Int) - (a : Int))).tdiv 8))) ap L hlm (by omega) g1 (by omega) (by rw [l1.1]; omega) AL hBL
          exact ⟨R, r0, hfin R r1 r2⟩
      by_cases ha0 : a > 0
      · have h2 : decide (((a : Nat) : Int) > 0) = true := decide_eq_true (by omega)
        obtain ⟨w, hw, hd⟩ := hg d3[a - 1]! d3[p]! (A3 _ (by omega)) (A3 _ (by omega))
        rw [wm1 (by omega) (by omega)]
        simp only [h2, bnd (show a - 1 < n by omega), bnd (show p < n by omega), gl (d := d3) (show a - 1 < d3.size by omega), gl (d := d3) (show p < d3.size by omega), hw, hd, chk, cond_true, Option.bind_some]
        cases hc : lt d3[a - 1]! d3[p]! with
        | true => exact part
        | false =>
          unfold sl_pdqsortCmpFunc_int_j51
          rw [ppartEq hg (by omega) (by omega) hb (by omega) (by omega) s3 A3]
          obtain ⟨mid, d4, hx⟩ : ∃ mid d4, partitionEqual lt d3 a b p = (mid, d4) := ⟨_, _, rfl⟩
          obtain ⟨g1, g2, hs4, hB4, hfin⟩ := round_eq hS (partitionEqual_holds lt) ha0 hp1 hp2 (by omega) B3 hc hx
          have hP4 := (partitionEqual_holds lt hS d3 a b p hp1 hp2 (by omega) (by
            intro i hi hi'
            rcases B3 with h | h
            · omega
            · exact hS.ntrans _ _ _ (h i hi hi') hc)).2.2.1
          rw [hx] at hP4 ⊢
          have A4 : AllA A d4 := A3.perm (by omega) hP4
          simp only [Bool.not_false, cond_true, Option.bind_some]
          obtain ⟨R, r0, r1, r2⟩ := again mid b lim x y d4 hlm (by omega) g2 hb (by omega) A4 hB4
          exact ⟨R, r0, hfin R r1 r2⟩
      · have h2 : decide (((a : Nat) : Int) > 0) = false := decide_eq_false (by omega)
        rw [h2]
        exact part
    have perhaps : ∀ (lim p : Nat) (d2 : Array Int) (x y z : Bool), lim ≤ 1000 → d2.size = n → AllA A d2 → Below lt a b d2 → a ≤ p → p < b →
        ∃ d', sl_pdqsortCmpFunc_int_j41 (F' + 1) n g (a : Int) (b : Int) d2.toList (sl_pdqsortCmpFunc_int_j40 (F' + 1) n g (a : Int) (b : Int) ((lim : Nat) : Int) ((p : Nat) : Int) (sl_pdqsortCmpFunc_int (F' + 1)) (sl_pdqsortCmpFunc_int_l1 (F' + 1) n g (sl_pdqsortCmpFunc_int (F' + 1)) m')) x y z = some d'.toList ∧ PermIn a b d2 d' ∧ SortedIn lt a b d' := by
      intro lim p d2 x y z hlm s2 A2 B2 hp1 hp2
      unfold sl_pdqsortCmpFunc_int_j41
      cases z with
      | false => exact round lim p d2 x y hlm s2 A2 B2 hp1 hp2
      | true =>
        simp only [cond_true]
        rw [ppartial hg (by omega) (by omega) hb (by omega) s2 A2]
        obtain ⟨q1, q2⟩ := partialInsertionSort_holds hS d2 a b (by omega) (by omega) B2
        simp only [Option.bind_some]
        cases hq : (partialInsertionSort lt d2 a b).2 with
        | true => exact ⟨_, rfl, q1, q2 hq⟩
        | false =>
          simp only [cond_false]
          obtain ⟨R, r0, r1, r2⟩ := round lim p (partialInsertionSort lt d2 a b).1 x y hlm (by rw [q1.1]; exact s2) (A2.perm (by omega) q1) (B2.perm (by omega) q1) hp1 hp2
          exact ⟨R, r0, permIn_trans _ _ _ a b q1 r1, r2⟩
    have hinted : ∀ (lim p : Nat) (d2 : Array Int) (h : Int), lim ≤ 1000 → d2.size = n → AllA A d2 → Below lt a b d2 → a ≤ p → p < b →
        ∃ d', sl_pdqsortCmpFunc_int_j32 (F' + 1) n g (a : Int) (b : Int) wb wp ((lim : Nat) : Int) (sl_pdqsortCmpFunc_int (F' + 1)) (sl_pdqsortCmpFunc_int_l1 (F' + 1) n g (sl_pdqsortCmpFunc_int (F' + 1)) m') d2.toList ((p : Nat) : Int) h = some d'.toList ∧ PermIn a b d2 d' ∧ SortedIn lt a b d' := by
      intro lim p d2 h hlm s2 A2 B2 hp1 hp2
      unfold sl_pdqsortCmpFunc_int_j32
      cases wb with
      | false => exact perhaps lim p d2 false wp false hlm s2 A2 B2 hp1 hp2
      | true =>
        cases wp with
        | false => exact perhaps lim p d2 true false false hlm s2 A2 B2 hp1 hp2
        | true => exact perhaps lim p d2 true true (h == 1) hlm s2 A2 B2 hp1 hp2
    have chosen : ∀ (lim : Nat) (d1 : Array Int), lim ≤ 1000 → d1.size = n → AllA A d1 → Below lt a b d1 →
        ∃ d', sl_pdqsortCmpFunc_int_j24 (F' + 1) n g (a : Int) (b : Int) wb wp (sl_pdqsortCmpFunc_int (F' + 1)) (sl_pdqsortCmpFunc_int_l1 (F' + 1) n g (sl_pdqsortCmpFunc_int (F' + 1)) m') d1.toList ((lim : Nat) : Int) = some d'.toList ∧ PermIn a b d1 d' ∧ SortedIn lt a b d' := by
      intro lim d1 hlm s1 A1 B1
      unfold sl_pdqsortCmpFunc_int_j24
      rw [snap_l s1, ppivot hg (by omega) (by omega) hb s1 A1]
      obtain ⟨c1, c2⟩ := choosePivot_holds lt d1 a b (by omega)
      obtain ⟨c, hc⟩ : ∃ c, choosePivot lt d1 a b = c := ⟨_, rfl⟩
      rw [hc] at c1 c2 ⊢
      simp only [Option.bind_some]
      cases hh : (hintN c.2 == 2) with
      | false => exact hinted lim c.1 d1 _ hlm s1 A1 B1 c1 c2
      | true =>
        simp only [cond_true]
        rw [prev (by omega) (by omega) hb (by omega) s1]
        simp only [Option.bind_some]
        rw [wm1 (by omega) (by omega), wmm (by omega) (by omega), wmm (by omega) (by omega)]
        have q := reverseRange_holds d1 a b hab (by omega)
        obtain ⟨R, r0, r1, r2⟩ := hinted lim ((b - 1) - (c.1 - a)) (reverseRange d1 a b) 1 hlm (by rw [q.1]; exact s1) (A1.perm (by omega) q) (B1.perm (by omega) q) (by omega) (by omega)
        exact ⟨R, r0, permIn_trans _ _ _ a b q r1, r2⟩
    cases hwb : wb with
    | true =>
      simp only [Bool.not_true, cond_false]
      have := chosen limit d hlim hs hA hB
      rw [hwb] at this
      exact this
    | false =>
      simp only [Bool.not_false, cond_true]
      obtain ⟨d1, e1, q⟩ := pbreak (g := g) (a := a) (b := b) (fuel := F' + 1) hn (by omega) hb (by omega) hs
      rw [e1]
      simp only [Option.bind_some]
      rw [wm1 (by omega) (by omega)]
      obtain ⟨R, r0, r1, r2⟩ := chosen (limit - 1) d1 (by omega) (by rw [q.1]; exact hs) (hA.perm (by omega) q) (hB.perm (by omega) q)
      rw [hwb] at r0
      exact ⟨R, r0, permIn_trans _ _ _ a b q r1, r2⟩

theorem plen {k : Nat} (h2 : k ≤ 1000) : ∃ M : Nat, mb_Len (IntKind.wrap .u64 ((k : Nat) : Int)) = some (M : Int) ∧ M ≤ 1000 := by
  have : ∀ k : Fin 1001, (match mb_Len (IntKind.wrap .u64 ((k.1 : Nat) : Int)) with | some M => decide (0 ≤ M) && decide (M ≤ 1000) | none => false) = true := by decide +kernel
  have := this ⟨k, by omega⟩
  cases hm : mb_Len (IntKind.wrap .u64 ((k : Nat) : Int)) with
  | none => rw [hm] at this; cases this
  | some M =>
    rw [hm] at this
    simp only [Bool.and_eq_true, decide_eq_true_eq] at this
    exact ⟨M.toNat, by congr 1; omega, by omega⟩

/-- THE SORT, of at most 1000 -/
theorem sort_val (hg : Cmp g lt A) (hS : SWO lt) {l : List Int} (hl : l.length ≤ 1000) (hA : ∀ x, x ∈ l → A x) :
    ∃ l', l'.Perm l ∧ Sorted lt l' ∧ sl_SortFunc_int bigFuel l l.length g = some l' := by
  have hA' : AllA A l.toArray := by
    intro i hi
    rw [getElem!_pos l.toArray i hi]
    exact hA _ (by simp)
  obtain ⟨M, hM, hMb⟩ := plen hl
  unfold sl_SortFunc_int
  rw [hM]
  simp only [Option.bind_some]
  obtain ⟨B, hB⟩ : ∃ B, bigFuel = B + 1 := ⟨bigFuel - 1, rfl⟩
  rw [hB, sl_pdqsortCmpFunc_int.eq_2]
  have hBb : 36893488147419103231 ≤ B := by unfold bigFuel at hB; omega
  obtain ⟨d', e1, e2, e3⟩ := ppdq hg hS (n := l.length) hl l.length 0 l.length M B B true true l.toArray hMb (by omega) (by omega) (Nat.le_refl _) (by simp) hA' (Or.inl rfl) (by omega) (by omega)
  have e1' : sl_pdqsortCmpFunc_int_l1 B l.length g (sl_pdqsortCmpFunc_int B) B l 0 ((l.length : Nat) : Int) (M : Int) true true = some d'.toList := e1
  rw [e1']
  refine ⟨d'.toList, ?_, ?_, rfl⟩
  · have p := e2.2.2
    have s := e2.1
    simp only [List.size_toArray] at s
    have x1 : (d'.extract 0 l.length).toList = d'.toList := by rw [← s]; simp
    have x2 : (l.toArray.extract 0 l.length).toList = l := by simp
    rw [x1, x2] at p
    exact p
  · have s := e2.1
    simp only [List.size_toArray] at s
    unfold Sorted
    rw [List.pairwise_iff_getElem]
    intro i j hi hj hij
    have := e3 i j (by omega) hij (by simpa [s] using hj)
    rw [getElem!_pos d' i (by simpa using hi), getElem!_pos d' j (by simpa using hj)] at this
    simpa using this

end Go.AM
