/-
  IndexSums in plain Lean: the suffixes are all different, and all strings are counted.
-/
import Derived.Test.YtmfdgonjnckdhaaCLawDist
import Derived.Test.YtmfdgonjnckdhaaU1
set_option linter.unusedVariables false
set_option linter.unusedSimpArgs false
namespace Go.AM
open Go.Proofs Go.Sort

theorem fill_own {t : ByteArray} {n : Nat} (hn : Int.toNat (IntKind.wrap .i64 ((t.size : Int) + 1)) = n) (K : List Int → Option (List Int)) : ∀ (r : List Nat) (k : Nat), k + r.length = n → ix_suffixes_own_l1 t K r k (seqI k ++ List.replicate (n - k) 0) = K (seqI n)
  | [], k, h => by
    simp at h
    subst h
    rw [ix_suffixes_own_l1.eq_1]
    simp
  | x :: r, k, h => by
    simp at h
    have hk : k < n := by omega
    rw [ix_suffixes_own_l1.eq_2, hn, bnd hk, seq_upd hk]
    simp only [chk, cond_true, Option.bind_some]
    exact fill_own hn K r (k + 1) (by omega)

theorem suffixes_own_val {t : ByteArray} (ht : t.size ≤ 999) : ∃ l, ix_suffixes_own bigFuel t = some l ∧ l.Perm (seqI (t.size + 1)) ∧ Sorted (ltS t) l := by
  have hw : IntKind.wrap .i64 ((t.size : Int) + 1) = ((t.size + 1 : Nat) : Int) := wrap_id (by omega) (by omega)
  have hn : Int.toNat (IntKind.wrap .i64 ((t.size : Int) + 1)) = t.size + 1 := by rw [hw]; rfl
  obtain ⟨l, h1, h2, h3⟩ := sort_val (cmpS t) (swo_ltS t) (l := seqI (t.size + 1)) (by rw [seqI_len]; omega) (fun x hx => by have := mem_seqI.1 hx; omega)
  refine ⟨l, ?_, h1, h2⟩
  unfold ix_suffixes_own
  have hmk : mkOk 8 (IntKind.wrap .i64 ((t.size : Int) + 1)) = true := by
    rw [hw]
    simp only [mkOk, Bool.and_eq_true, decide_eq_true_eq]
    omega
  have hf := fill_own hn (ix_suffixes_own_j5 bigFuel t) (List.range (Int.toNat (((Int.toNat (IntKind.wrap .i64 ((t.size : Int) + 1))) : Nat) : Int))) 0 (by rw [hn]; simp)
  have hlen : lenOk (List.range (Int.toNat (((Int.toNat (IntKind.wrap .i64 ((t.size : Int) + 1))) : Nat) : Int))) = true := lenOk_of (by rw [hn]; simp; omega)
  rw [hmk, hlen]
  simp only [chk, cond_true]
  have e0 : List.replicate (Int.toNat (IntKind.wrap .i64 ((t.size : Int) + 1))) (0 : Int) = seqI 0 ++ List.replicate (t.size + 1 - 0) 0 := by rw [hn]; rfl
  rw [e0, hf]
  unfold ix_suffixes_own_j5
  rw [hn]
  rw [seqI_len] at h3
  rw [h3]
  simp only [Option.bind_some]
  have hl : t.size + 1 = l.length := by rw [h1.length_eq, seqI_len]
  rw [decide_eq_true hl]
  rfl

/-- numbers in their order are the numbers from 0 -/
theorem sortI_seq {n : Nat} {l : List Int} (h : l.Perm (seqI n)) : sortI l = seqI n := by
  have hp : (sortI l).Perm (seqI n) := (List.mergeSort_perm l _).trans h
  have h1 : (sortI l).Pairwise fun a b => decide (a ≤ b) = true := List.pairwise_mergeSort (by intro a b c; simp; omega) (by intro a b; simp; omega) l
  have h2 : (seqI n).Pairwise fun a b => decide (a ≤ b) = true := by
    unfold seqI
    rw [List.pairwise_map]
    refine List.pairwise_lt_range.imp ?_
    intro a b hab
    rw [decide_eq_true_eq]
    omega
  refine List.Perm.eq_of_pairwise (fun a b _ _ x y => ?_) h1 h2 hp
  rw [decide_eq_true_eq] at x y
  omega

theorem strict_of {t : ByteArray} {l : List Int} (hp : l.Perm (seqI (t.size + 1))) (hs : Sorted (ltS t) l) : l.Pairwise fun a b => ltS t a b = true := by
  have hn : l.Nodup := hp.nodup_iff.2 (by
    unfold seqI
    refine List.pairwise_map.2 (List.pairwise_lt_range.imp ?_)
    intro a b hab e
    omega)
  have hb : ∀ x, x ∈ l → 0 ≤ x ∧ x ≤ (t.size : Int) := fun x hx => by
    have := mem_seqI.1 (hp.mem_iff.1 hx)
    omega
  refine (List.Pairwise.and hs hn).imp_of_mem ?_
  intro a b ha hb' hab
  cases h : ltS t a b with
  | true => rfl
  | false => exact absurd (ltS_total (hb a ha) (hb b hb') h hab.1) hab.2

theorem sums_l2 {t : ByteArray} (hs : t.size ≤ 300) {w : List Int} {s2 : Int} (hw : ∀ x, x ∈ w → 0 ≤ x ∧ x ≤ (t.size : Int)) (hwl : w.length ≤ 1000) (K : Option Bool) : ∀ (r p : List Int) (x : Int) (m : Nat), w = p ++ x :: r → r.length < m →
    (x :: r).Pairwise (fun a b => ltS t a b = true) → lw4_IndexSums_l2 t (w, s2) K m ((p.length + 1 : Nat) : Int) = K
  | [], p, x, m, hwp, hm, hq => by
    obtain ⟨m, rfl⟩ : ∃ m', m = m' + 1 := ⟨m - 1, by omega⟩
    rw [lw4_IndexSums_l2.eq_2]
    have : decide (((p.length + 1 : Nat) : Int) < (w.length : Int)) = false := by rw [hwp, decide_eq_false_iff_not]; simp
    rw [this]
    rfl
  | y :: r, p, x, m, hwp, hm, hq => by
    obtain ⟨m, rfl⟩ : ∃ m', m = m' + 1 := ⟨m - 1, by omega⟩
    have hpl : p.length + 2 + r.length = w.length := by rw [hwp]; simp; omega
    rw [lw4_IndexSums_l2.eq_2]
    have hlt : decide (((p.length + 1 : Nat) : Int) < (w.length : Int)) = true := by rw [decide_eq_true_eq]; omega
    have ew : IntKind.wrap .i64 (((p.length + 1 : Nat) : Int) - 1) = ((p.length : Nat) : Int) := by rw [wrap_id (by omega) (by omega)]; omega
    have h1 : w[0 + Int.toNat ((p.length : Nat) : Int)]? = some x := by
      rw [hwp, List.getElem?_append_right (by simp)]
      simp
    have h2 : w[0 + Int.toNat ((p.length + 1 : Nat) : Int)]? = some y := by
      rw [hwp, List.getElem?_append_right (by simp)]
      simp
    have bx := hw x (by rw [hwp]; simp)
    have by' := hw y (by rw [hwp]; simp)
    obtain ⟨e, e1, e2⟩ := ssub_to bx.1 bx.2
    obtain ⟨f, f1, f2⟩ := ssub_to by'.1 by'.2
    have hxy : ltS t x y = true := (List.pairwise_cons.1 hq).1 y (List.mem_cons_self ..)
    have hbl : Op.bytesLess e.toList f.toList = true := by rw [bl_eq e2 f2]; exact hxy
    have c1 : decide ((0 : Int) ≤ ((p.length : Nat) : Int) ∧ ((p.length : Nat) : Int) < ((w.length : Nat) : Int)) = true := by rw [decide_eq_true_eq]; omega
    have c2 : decide ((0 : Int) ≤ ((p.length + 1 : Nat) : Int) ∧ ((p.length + 1 : Nat) : Int) < ((w.length : Nat) : Int)) = true := by rw [decide_eq_true_eq]; omega
    simp only [ew]
    rw [hlt, c1, h1, c2, h2]
    simp only [chk, cond_true, Option.bind_some, e1, f1, hbl]
    rw [decide_eq_false (by omega), decide_eq_false (by omega), decide_eq_false (by omega), decide_eq_false (by omega)]
    simp only [cond_false, Bool.not_true]
    unfold lw4_IndexSums_j33
    simp only [cond_false]
    have hw1 : IntKind.wrap .i64 (((p.length + 1 : Nat) : Int) + 1) = (((p ++ [x]).length + 1 : Nat) : Int) := by rw [wrap_id (by omega) (by omega)]; simp
    rw [hw1]
    simp at hm
    exact sums_l2 hs hw hwl K r (p ++ [x]) y m (by rw [hwp]; simp) (by omega) (List.pairwise_cons.1 hq).2

theorem sums_l3 {w w39 : List Int} {s2 : Int} {n : Nat} (hw : w.length = n) (h39 : w39 = seqI n) (K : Option Bool) : ∀ (r : List Nat) (k : Nat), k + r.length = n → lw4_IndexSums_l3 (w, s2) w39 K r k = K
  | [], k, _ => by rw [lw4_IndexSums_l3.eq_1]
  | x :: r, k, h => by
    simp at h
    have hk : k < n := by omega
    rw [lw4_IndexSums_l3.eq_2]
    simp only [hw]
    rw [bnd hk]
    have hg : w39[0 + Int.toNat ((k : Nat) : Int)]? = some ((k : Nat) : Int) := by
      rw [h39]
      simp [seqI, hk]
    rw [hg]
    simp only [chk, cond_true, Option.bind_some, bne_self_eq_false, cond_false]
    exact sums_l3 hw h39 K r (k + 1) (by omega)

theorem sums_l1 (K : Int → Option Bool) : ∀ (l : List Int) (k : Nat) (v : Int), (∀ c, c ∈ l → 0 ≤ c ∧ c ≤ 1000) → -1000000000 ≤ v → v + 1000 * (l.length : Int) ≤ 1000000000 → lw4_IndexSums_l1 K l k v = K (v + l.sum)
  | [], k, v, _, _, _ => by rw [lw4_IndexSums_l1.eq_1]; simp
  | x :: l, k, v, h, h1, h2 => by
    have hx := h x (List.mem_cons_self ..)
    simp only [List.length_cons] at h2
    rw [lw4_IndexSums_l1.eq_2, wrap_id (by omega) (by omega), sums_l1 K l (k + 1) (v + x) (fun c hc => h c (List.mem_cons_of_mem _ hc)) (by omega) (by omega), List.sum_cons]
    congr 1
    omega

theorem sum_bound {B : Int} : ∀ (l : List Int), (∀ c, c ∈ l → 0 ≤ c ∧ c ≤ 1000) → 0 ≤ l.sum ∧ l.sum ≤ 1000 * (l.length : Int)
  | [], _ => by simp
  | x :: l, h => by
    have := sum_bound (B := B) l (fun c hc => h c (List.mem_cons_of_mem _ hc))
    have hx := h x (List.mem_cons_self ..)
    simp only [List.sum_cons, List.length_cons]
    omega

theorem indexSums_true (s : ByteArray) : lw4_IndexSums bigFuel s = some true := by
  obtain ⟨t, e1, e2, _⟩ := few_val s
  obtain ⟨l, h1, h2, h3, h4⟩ := sorts_same (t := t) (by omega)
  obtain ⟨c1, c2⟩ := commons_val (by omega) h1 h2 h3
  obtain ⟨l', o1, o2, o3⟩ := suffixes_own_val (t := t) (by omega)
  have hl' : l' = l := order_unique o2 h3 o3 h4
  subst hl'
  have hl : l'.length = t.size + 1 := by rw [h3.length_eq, seqI_len]
  have hb : ∀ c, c ∈ coms t l' → 0 ≤ c ∧ c ≤ (t.size : Int) := coms_bound l' fun x hx => (mem_seqI.1 (h3.mem_iff.1 hx)).1
  have hc : ∀ c, c ∈ coms t l' → 0 ≤ c ∧ c ≤ 1000 := fun c hh => by have := hb c hh; omega
  have hd := distinct_sorted h3 h4
  have hm : (t.size : Int) * (t.size + 1) ≤ 300 * 301 := by
    have e : (t.size : Int) * ((t.size : Int) + 1) = ((t.size * (t.size + 1) : Nat) : Int) := by simp
    have := Nat.mul_le_mul e2 (show t.size + 1 ≤ 301 by omega)
    rw [e]
    omega
  have hm0 : 0 ≤ (t.size : Int) * (t.size + 1) := Int.mul_nonneg (by omega) (by omega)
  have hlen : (coms t l').length = t.size := by rw [coms_len, hl]; rfl
  obtain ⟨sb0, sb1⟩ := sum_bound (B := 0) (coms t l') hc
  rw [hlen] at sb1
  unfold lw4_IndexSums ix_Sort_own ix_Common
  rw [e1]
  simp only [Option.bind_some, valid_val (t := t) (by omega), o1, c1, distinct_val e2, awake_val]
  cases lab t with
  | false => rfl
  | true =>
    simp only [Bool.not_true, cond_false, Option.bind_some, if_true]
    rw [show ((0 : Int) != 0) = false from rfl]
    simp only [cond_false]
    rw [lenOk_of (by omega)]
    simp only [chk, cond_true]
    have hA : 2 * distinct t + 2 * (coms t l').sum = (t.size : Int) * (t.size + 1) := by omega
    generalize hAe : (t.size : Int) * ((t.size : Int) + 1) = A at hd hm hm0 hA
    rw [sums_l1 _ _ _ _ hc (by omega) (by omega)]
    unfold lw4_IndexSums_j16
    obtain ⟨x, r, rfl⟩ : ∃ x r, l' = x :: r := by
      cases l' with
      | nil => simp at hl
      | cons x r => exact ⟨x, r, rfl⟩
    have hq := strict_of h3 h4
    have hbx : ∀ y, y ∈ (x :: r) → 0 ≤ y ∧ y ≤ (t.size : Int) := fun y hy => by
      have := mem_seqI.1 (h3.mem_iff.1 hy)
      omega
    have hl2 := sums_l2 (s2 := 0) e2 hbx (by omega) (lw4_IndexSums_j22 bigFuel t (x :: r, 0) (coms t (x :: r), 0) (distinct t, 0) (distinct t + (coms t (x :: r)).sum)) r [] x bigFuel rfl (by simp at hl; unfold bigFuel; omega) hq
    rw [show (((([] : List Int).length + 1 : Nat)) : Int) = 1 from rfl] at hl2
    rw [hl2]
    unfold lw4_IndexSums_j22
    have hso : sl_Sort_int (x :: r) ((x :: r).length) = some (seqI (t.size + 1)) := by
      unfold sl_Sort_int
      rw [sortI_seq h3, decide_eq_true ⟨rfl, by simp, by omega⟩]
      rfl
    simp only [hso, Option.bind_some]
    rw [lenOk_of (by simp only [Int.toNat_natCast, List.length_range]; omega)]
    simp only [chk, cond_true]
    rw [sums_l3 hl rfl _ _ 0 (by simp only [Int.toNat_natCast, List.length_range]; omega)]
    unfold lw4_IndexSums_j40 lw4_IndexSums_j48
    rw [wrap_id (a := (t.size : Int) + 1) (by omega) (by omega), hAe, wrap_id (a := A) (by omega) (by omega)]
    have ht : A.tdiv 2 = A / 2 := Int.tdiv_eq_ediv_of_nonneg hm0
    rw [ht, wrap_id (by omega) (by omega)]
    have k1 : ((((x :: r).length : Nat) : Int) == (t.size : Int) + 1) = true := by rw [beq_iff_eq]; omega
    have k2 : ((distinct t + (coms t (x :: r)).sum) == A / 2) = true := by rw [beq_iff_eq]; omega
    simp only [k1, k2, beq_self_eq_true, cond_true, awake_val, Option.bind_some]
end Go.AM
