/-
  CHAPTER 4, PLAIN: the suffix array is the one sorted order of all suffixes; the reference's is the same; the common beginnings. No statement of the seat is proved here.
-/
import Derived.Test.YtmfdgonjnckdhaaCLawPdq5
import Derived.Test.YtmfdgonjnckdhaaS6
set_option linter.unusedVariables false
set_option linter.unusedSimpArgs false
namespace Go.AM
open Go.Sort

/-! ### suffixes and their order -/

/-- the suffix that begins at i -/
def suf (t : ByteArray) (i : Int) : List UInt8 := t.data.toList.drop i.toNat
def ltS (t : ByteArray) (i j : Int) : Bool := ltStr (suf t i) (suf t j)

theorem swo_ltS (t : ByteArray) : SWO (ltS t) := ⟨fun x => swo_ltStr.irrefl _, fun x y z => swo_ltStr.trans _ _ _, fun x y z => swo_ltStr.ntrans _ _ _⟩

theorem size_list (t : ByteArray) : t.data.toList.length = t.size := Array.length_toList

theorem ssub_val {t : ByteArray} {i j : Int} (h0 : 0 ≤ i) (h1 : i ≤ j) (h2 : j ≤ t.size) : ∃ e, ssub t i j = some e ∧ e.data.toList = (t.data.toList.take j.toNat).drop i.toNat := by
  refine ⟨t.extract i.toNat j.toNat, ?_, ?_⟩
  · unfold ssub
    rw [if_pos ⟨h0, h1, h2⟩]
  · rw [ByteArray.data_extract, Array.toList_extract, List.extract_eq_take_drop, List.drop_take]

theorem ssub_to {t : ByteArray} {i : Int} (h0 : 0 ≤ i) (h1 : i ≤ t.size) : ∃ e, ssub t i (t.size : Int) = some e ∧ e.data.toList = suf t i := by
  obtain ⟨e, h, h'⟩ := ssub_val h0 h1 (Int.le_refl _)
  refine ⟨e, h, h'.trans ?_⟩
  rw [Int.toNat_natCast, ← size_list, List.take_length]
  rfl

theorem cmp_lt : ∀ a b : List UInt8, decide (Lib.compareBytes a b < 0) = ltStr a b
  | [], [] => by simp [Lib.compareBytes, ltStr]
  | [], _ :: _ => by simp [Lib.compareBytes, ltStr]
  | _ :: _, [] => by simp [Lib.compareBytes, ltStr]
  | a :: x, b :: y => by
    have ih := cmp_lt x y
    unfold ltStr at ih ⊢
    unfold Lib.compareBytes
    simp only [List.cons_lt_cons_iff]
    by_cases h1 : a < b
    · simp [h1]
    · by_cases h2 : b < a
      · have h3 : a ≠ b := fun e => by subst e; exact UInt8.lt_irrefl a h2
        simp [h1, h2, h3]
      · have h3 : a = b := UInt8.le_antisymm (UInt8.not_lt.1 h2) (UInt8.not_lt.1 h1)
        simp [h1, h2, h3, ih]

theorem bytesLess_ltStr : ∀ (x y : List UInt8), Op.bytesLess x y = ltStr x y
  | [], [] => by simp [Op.bytesLess, ltStr]
  | _ :: _, [] => by simp [Op.bytesLess, ltStr]
  | [], _ :: _ => by simp [Op.bytesLess, ltStr]
  | a :: x, b :: y => by
    have ih := bytesLess_ltStr x y
    unfold ltStr at ih ⊢
    rw [Op.bytesLess, ih]
    simp only [List.cons_lt_cons_iff]
    by_cases h1 : a < b <;> by_cases h2 : a = b <;> by_cases h3 : x < y <;> simp [h1, h2, h3]

theorem cmpS (t : ByteArray) : Cmp (fun y0 y1 => ix_suffixes_1 y0 y1 t) (ltS t) (fun i => 0 ≤ i ∧ i ≤ (t.size : Int)) := by
  intro x y hx hy
  obtain ⟨e, h1, h2⟩ := ssub_to hx.1 hx.2
  obtain ⟨f, h3, h4⟩ := ssub_to hy.1 hy.2
  refine ⟨Lib.compareBytes (suf t x) (suf t y), ?_, cmp_lt _ _⟩
  show ix_suffixes_1 x y t = _
  unfold ix_suffixes_1 st_Compare
  rw [h1, h3]
  simp only [Option.bind_some, h2, h4]

/-! ### all places -/

/-- 0 to n - 1 -/
def seqI (n : Nat) : List Int := (List.range n).map fun (k : Nat) => (k : Int)

theorem seqI_len (n : Nat) : (seqI n).length = n := by simp [seqI]
theorem seqI_succ (n : Nat) : seqI (n + 1) = seqI n ++ [(n : Int)] := by simp [seqI, List.range_succ]
theorem mem_seqI {n : Nat} {x : Int} : x ∈ seqI n ↔ 0 ≤ x ∧ x < n := by
  unfold seqI
  rw [List.mem_map]
  constructor
  · rintro ⟨k, hk, rfl⟩
    have := List.mem_range.1 hk
    omega
  · intro h
    exact ⟨x.toNat, List.mem_range.2 (by omega), by omega⟩

theorem ltS_total {t : ByteArray} {x y : Int} (hx : 0 ≤ x ∧ x ≤ t.size) (hy : 0 ≤ y ∧ y ≤ t.size) (h1 : ltS t x y = false) (h2 : ltS t y x = false) : x = y := by
  have he : suf t x = suf t y := by
    unfold ltS ltStr at h1 h2
    simp only [decide_eq_false_iff_not, List.not_lt] at h1 h2
    exact List.le_antisymm h2 h1
  have hl := congrArg List.length he
  unfold suf at hl
  rw [List.length_drop, List.length_drop, size_list] at hl
  omega

/-- there is one sorted order of all places -/
theorem order_unique {t : ByteArray} {l m : List Int} (hl : l.Perm (seqI (t.size + 1))) (hm : m.Perm (seqI (t.size + 1))) (h1 : Sorted (ltS t) l) (h2 : Sorted (ltS t) m) : l = m := by
  have key : ∀ {q : List Int}, q.Perm (seqI (t.size + 1)) → ∀ x, x ∈ q → 0 ≤ x ∧ x ≤ (t.size : Int) := by
    intro q hq x hx
    have := mem_seqI.1 (hq.mem_iff.1 hx)
    omega
  exact List.Perm.eq_of_pairwise (fun a b ha hb x y => ltS_total (key hl a ha) (key hm b hb) y x) h1 h2 (hl.trans hm.symm)

/-! ### the program's suffix array -/

theorem seq_upd {k n : Nat} (h : k < n) : upd (seqI k ++ List.replicate (n - k) (0 : Int)) (0 + Int.toNat ((k : Nat) : Int)) ((k : Nat) : Int) = some (seqI (k + 1) ++ List.replicate (n - (k + 1)) 0) := by
  have e : n - k = (n - (k + 1)) + 1 := by omega
  rw [e, List.replicate_succ, upd_at (by rw [seqI_len]; simp), seqI_succ]
  simp

theorem fill_val {t : ByteArray} {n : Nat} (hn : Int.toNat (IntKind.wrap .i64 ((t.size : Int) + 1)) = n) (K : List Int → Option (List Int)) : ∀ (r : List Nat) (k : Nat), k + r.length = n → ix_suffixes_l1 t K r k (seqI k ++ List.replicate (n - k) 0) = K (seqI n)
  | [], k, h => by
    simp at h
    subst h
    rw [ix_suffixes_l1.eq_1]
    simp
  | x :: r, k, h => by
    simp at h
    have hk : k < n := by omega
    rw [ix_suffixes_l1.eq_2, hn, bnd hk, seq_upd hk]
    simp only [chk, cond_true, Option.bind_some]
    exact fill_val hn K r (k + 1) (by omega)

theorem suffixes_val {t : ByteArray} (ht : t.size ≤ 999) : ∃ l, ix_suffixes bigFuel t = some l ∧ l.Perm (seqI (t.size + 1)) ∧ Sorted (ltS t) l := by
  have hw : IntKind.wrap .i64 ((t.size : Int) + 1) = ((t.size + 1 : Nat) : Int) := wrap_id (by omega) (by omega)
  have hn : Int.toNat (IntKind.wrap .i64 ((t.size : Int) + 1)) = t.size + 1 := by rw [hw]; rfl
  obtain ⟨l, h1, h2, h3⟩ := sort_val (cmpS t) (swo_ltS t) (l := seqI (t.size + 1)) (by rw [seqI_len]; omega) (fun x hx => by have := mem_seqI.1 hx; omega)
  refine ⟨l, ?_, h1, h2⟩
  unfold ix_suffixes
  have hmk : mkOk 8 (IntKind.wrap .i64 ((t.size : Int) + 1)) = true := by
    rw [hw]
    simp only [mkOk, Bool.and_eq_true, decide_eq_true_eq]
    omega
  have hf := fill_val hn (ix_suffixes_j5 bigFuel t) (List.range (Int.toNat (((Int.toNat (IntKind.wrap .i64 ((t.size : Int) + 1))) : Nat) : Int))) 0 (by rw [hn]; simp)
  have hlen : lenOk (List.range (Int.toNat (((Int.toNat (IntKind.wrap .i64 ((t.size : Int) + 1))) : Nat) : Int))) = true := lenOk_of (by rw [hn]; simp; omega)
  rw [hmk, hlen]
  simp only [chk, cond_true]
  have e0 : List.replicate (Int.toNat (IntKind.wrap .i64 ((t.size : Int) + 1))) (0 : Int) = seqI 0 ++ List.replicate (t.size + 1 - 0) 0 := by rw [hn]; rfl
  rw [e0, hf]
  unfold ix_suffixes_j5
  rw [hn]
  rw [seqI_len] at h3
  rw [h3]
  simp only [Option.bind_some]
  congr 1
  unfold snap
  rw [List.drop_zero, List.take_of_length_le]
  rw [h1.length_eq, seqI_len]
  exact Nat.le_refl _

/-! ### the reference's suffix array -/

theorem idx_at {p q : List Int} {y : Int} {i : Nat} (h : p.length = i) : idx (p ++ y :: q) ((i : Nat) : Int) = some y := by
  unfold idx
  rw [if_pos (Int.natCast_nonneg _), Int.toNat_natCast, List.getElem?_append_right (by omega)]
  simp [h]

theorem bl_eq {a b : ByteArray} {x y : List UInt8} (ha : a.data.toList = x) (hb : b.data.toList = y) : Op.bytesLess a.toList b.toList = ltStr x y := by
  rw [Lib.toList_data, Lib.toList_data, ha, hb]
  exact bytesLess_ltStr x y

theorem ref_at {t : ByteArray} {k : Nat} (hk : k ≤ t.size) (hs : t.size ≤ 999) {v : List Int} (hv : ∀ x, x ∈ v → 0 ≤ x ∧ x ≤ (t.size : Int)) (hvl : v.length ≤ 1000) (K : Int → Option (List Int)) : ∀ (q p : List Int) (m : Nat), v = p ++ q → q.length < m → (∀ y, y ∈ p → ltS t y k = true) →
    ∃ p' q', v = p' ++ q' ∧ (∀ y, y ∈ p' → ltS t y k = true) ∧ (q' = [] ∨ ∃ y r, q' = y :: r ∧ ltS t y k = false) ∧ rf4_Sort_l2 t k v K m ((p.length : Nat) : Int) = K ((p'.length : Nat) : Int)
  | [], p, m, hpq, hm, hp => by
    obtain ⟨m, rfl⟩ : ∃ m', m = m' + 1 := ⟨m - 1, by omega⟩
    refine ⟨p, [], hpq, hp, .inl rfl, ?_⟩
    rw [rf4_Sort_l2.eq_2]
    have : decide (((p.length : Nat) : Int) < (v.length : Int)) = false := by rw [hpq]; simp
    rw [this]
    rfl
  | y :: q, p, m, hpq, hm, hp => by
    obtain ⟨m, rfl⟩ : ∃ m', m = m' + 1 := ⟨m - 1, by omega⟩
    rw [rf4_Sort_l2.eq_2]
    have hlt : decide (((p.length : Nat) : Int) < (v.length : Int)) = true := by rw [hpq]; simp; omega
    have hi : idx v ((p.length : Nat) : Int) = some y := by rw [hpq]; exact idx_at rfl
    have hyv := hv y (by rw [hpq]; simp)
    obtain ⟨e, h1, h2⟩ := ssub_to hyv.1 hyv.2
    obtain ⟨f, h3, h4⟩ := ssub_to (t := t) (i := ((k : Nat) : Int)) (by omega) (by omega)
    rw [hlt, hi, ]
    simp only [cond_true, Option.bind_some, h1, h3]
    rw [bl_eq h2 h4]
    show ∃ p' q', v = p' ++ q' ∧ (∀ y, y ∈ p' → ltS t y k = true) ∧ (q' = [] ∨ ∃ y r, q' = y :: r ∧ ltS t y k = false) ∧ rf4_Sort_j13 _ _ _ (ltS t y k) = K ((p'.length : Nat) : Int)
    unfold rf4_Sort_j13
    cases hb : ltS t y k with
    | true =>
      have hl : p.length < 1000 := by
        have := congrArg List.length hpq
        simp at this
        omega
      have hw : IntKind.wrap .i64 (((p.length : Nat) : Int) + 1) = (((p ++ [y]).length : Nat) : Int) := by
        rw [wrap_id (by omega) (by omega)]; simp
      simp only [cond_true]
      rw [hw]
      simp at hm
      exact ref_at hk hs hv hvl K q (p ++ [y]) m (by rw [hpq]; simp) (by omega) (fun z hz => by
        rcases List.mem_append.1 hz with h | h
        · exact hp z h
        · simp at h; subst h; exact hb)
    | false => exact ⟨p, y :: q, hpq, hp, .inr ⟨y, q, rfl, hb⟩, rfl⟩

theorem sub_lo {p q : List Int} : sub (p ++ q) 0 ((p.length : Nat) : Int) = some p := by
  unfold sub
  rw [if_pos ⟨by omega, by omega, by simp; omega⟩]
  simp
theorem sub_hi {p q : List Int} : sub (p ++ q) ((p.length : Nat) : Int) ((p ++ q).length : Int) = some q := by
  unfold sub
  rw [if_pos ⟨by omega, by simp; omega, by omega⟩, Int.toNat_natCast, Int.toNat_natCast, List.take_length, List.drop_left]

theorem capOk_small {b n : Nat} (hb : b ≤ 1000) (hn : n ≤ 100000) : capOk b n = true := by
  have : n * b ≤ 100000 * 1000 := Nat.mul_le_mul hn hb
  simp only [capOk, Bool.and_eq_true, Nat.ble_eq]
  omega

theorem sorted_ins {lt : Int → Int → Bool} (hS : SWO lt) {p q : List Int} {k : Int} (h : Sorted lt (p ++ q)) (h1 : ∀ y, y ∈ p → lt y k = true) (h2 : q = [] ∨ ∃ y r, q = y :: r ∧ lt y k = false) : Sorted lt (p ++ k :: q) := by
  unfold Sorted at h ⊢
  rw [List.pairwise_append] at h ⊢
  refine ⟨h.1, ?_, fun a ha b hb => ?_⟩
  · rw [List.pairwise_cons]
    refine ⟨fun z hz => ?_, h.2.1⟩
    rcases h2 with rfl | ⟨y, r, rfl, hy⟩
    · cases hz
    · rcases List.mem_cons.1 hz with rfl | hz
      · exact hy
      · exact hS.ntrans _ _ _ ((List.pairwise_cons.1 h.2.1).1 z hz) hy
  · rcases List.mem_cons.1 hb with rfl | hb
    · exact hS.asymmA (h1 a ha)
    · exact h.2.2 a ha b hb

theorem ref_val {t : ByteArray} (hs : t.size ≤ 999) : ∀ (r : List Nat) (k : Nat) (v : List Int), k + r.length = t.size + 1 → v.Perm (seqI k) → Sorted (ltS t) v →
    ∃ l, rf4_Sort_l1 bigFuel t (rf4_Sort_j4) r k v = some l ∧ l.Perm (seqI (t.size + 1)) ∧ Sorted (ltS t) l
  | [], k, v, h, hp, hv => by
    simp at h
    subst h
    exact ⟨v, by rw [rf4_Sort_l1.eq_1]; rfl, hp, hv⟩
  | x :: r, k, v, h, hp, hv => by
    simp at h
    have hvl : v.length = k := by rw [hp.length_eq, seqI_len]
    have hvb : ∀ x, x ∈ v → 0 ≤ x ∧ x ≤ (t.size : Int) := fun x hx => by
      have := mem_seqI.1 (hp.mem_iff.1 hx)
      omega
    obtain ⟨p, q, e1, e2, e3, e4⟩ := ref_at (t := t) (k := k) (by omega) hs hvb (by omega) (rf4_Sort_j10 k v (rf4_Sort_l1 bigFuel t (rf4_Sort_j4) r (k + 1))) v [] bigFuel rfl (by unfold bigFuel; omega) (fun y hy => by cases hy)
    have e4' : rf4_Sort_l2 t k v (rf4_Sort_j10 k v (rf4_Sort_l1 bigFuel t (rf4_Sort_j4) r (k + 1))) bigFuel 0 = rf4_Sort_j10 k v (rf4_Sort_l1 bigFuel t (rf4_Sort_j4) r (k + 1)) ((p.length : Nat) : Int) := e4
    have hlen : p.length + q.length = k := by rw [← hvl, e1]; simp
    rw [rf4_Sort_l1.eq_2, e4']
    unfold rf4_Sort_j10
    have s1 : sub v 0 ((p.length : Nat) : Int) = some p := by rw [e1]; exact sub_lo
    have s2 : sub v ((p.length : Nat) : Int) (v.length : Int) = some q := by rw [e1]; exact sub_hi
    rw [s1, s2]
    simp only [Option.bind_some, List.nil_append]
    rw [capOk_small (by omega) (by omega), capOk_small (by omega) (by simp; omega), capOk_small (by omega) (by simp; omega)]
    simp only [chk, cond_true]
    have eq : p ++ [((k : Nat) : Int)] ++ q = p ++ ((k : Nat) : Int) :: q := by simp
    rw [eq]
    refine ref_val hs r (k + 1) _ (by omega) ?_ (sorted_ins (swo_ltS t) (by rw [← e1]; exact hv) e2 e3)
    rw [seqI_succ]
    refine List.perm_middle.trans (List.Perm.trans ?_ (List.perm_append_comm (l₁ := [((k : Nat) : Int)])))
    exact List.Perm.cons _ (by rw [← e1]; exact hp)

theorem refSort_val {t : ByteArray} (hs : t.size ≤ 999) : ∃ l, rf4_Sort bigFuel t = some l ∧ l.Perm (seqI (t.size + 1)) ∧ Sorted (ltS t) l := by
  have hw : IntKind.wrap .i64 ((t.size : Int) + 1) = ((t.size + 1 : Nat) : Int) := wrap_id (by omega) (by omega)
  unfold rf4_Sort
  rw [hw, Int.toNat_natCast, lenOk_of (by simp; omega)]
  simp only [chk, cond_true]
  exact ref_val hs _ 0 [] (by simp) (by exact List.Perm.refl _) List.Pairwise.nil

/-- both are the same -/
theorem sorts_same {t : ByteArray} (hs : t.size ≤ 999) : ∃ l, ix_suffixes bigFuel t = some l ∧ rf4_Sort bigFuel t = some l ∧ l.Perm (seqI (t.size + 1)) ∧ Sorted (ltS t) l := by
  obtain ⟨l, h1, h2, h3⟩ := suffixes_val hs
  obtain ⟨m, k1, k2, k3⟩ := refSort_val hs
  obtain rfl := order_unique h2 k2 h3 k3
  exact ⟨l, h1, k1, h2, h3⟩

/-! ### common beginnings -/

def lcp : List UInt8 → List UInt8 → Nat
  | a :: x, b :: y => if a = b then lcp x y + 1 else 0
  | _, _ => 0

theorem lcp_le : ∀ (a b : List UInt8), lcp a b ≤ a.length ∧ lcp a b ≤ b.length
  | [], b => by simp [lcp]
  | a :: x, [] => by simp [lcp]
  | a :: x, b :: y => by
    unfold lcp
    have := lcp_le x y
    split
    · simp; omega
    · simp

theorem sidx_at {t : ByteArray} {i : Nat} (h : i < t.data.toList.length) : sidx t ((i : Nat) : Int) = some ((t.data.toList[i].toNat : Nat) : Int) := by
  unfold sidx
  rw [if_pos (Int.natCast_nonneg _), Int.toNat_natCast]
  have h' : i < t.size := by rw [← size_list]; exact h
  have : t[i]? = some t.data.toList[i] := by
    have e := getElem?_pos t i h'
    rw [e]
    rfl
  rw [this]
  rfl

theorem agree_step {a b : ByteArray} {v : Nat} (ha : v < a.data.toList.length) (hb : v < b.data.toList.length) : lcp (a.data.toList.drop v) (b.data.toList.drop v) = if a.data.toList[v] = b.data.toList[v] then lcp (a.data.toList.drop (v + 1)) (b.data.toList.drop (v + 1)) + 1 else 0 := by
  rw [List.drop_eq_getElem_cons ha, List.drop_eq_getElem_cons hb]
  rfl

theorem byte_beq {x y : UInt8} : (((x.toNat : Nat) : Int) == ((y.toNat : Nat) : Int)) = decide (x = y) := by
  by_cases h : x = y
  · subst h; simp
  · have : x.toNat ≠ y.toNat := fun e => h (UInt8.toNat_inj.1 e)
    simp [h]
    omega

theorem agree_l1 {a b : ByteArray} (hs : a.size ≤ 1000) : ∀ (k v m : Nat), a.size - v = k → k < m →
    ix_agree_l1 a b (ix_agree_j5) m ((v : Nat) : Int) = some ((v + lcp (a.data.toList.drop v) (b.data.toList.drop v) : Nat) : Int) ∧ rf4_agree_l1 a b (rf4_agree_j5) m ((v : Nat) : Int) = some ((v + lcp (a.data.toList.drop v) (b.data.toList.drop v) : Nat) : Int) := by
  intro k
  induction k with
  | zero =>
    intro v m hk hm
    obtain ⟨m, rfl⟩ : ∃ m', m = m' + 1 := ⟨m - 1, by omega⟩
    have h0 : a.data.toList.drop v = [] := List.drop_eq_nil_of_le (by rw [size_list]; omega)
    have hl : lcp [] (b.data.toList.drop v) = 0 := by unfold lcp; rfl
    rw [h0, hl, ix_agree_l1.eq_2, rf4_agree_l1.eq_2]
    have d1 : decide (((v : Nat) : Int) < (if (b.size : Int) < (a.size : Int) then (b.size : Int) else (a.size : Int))) = false := by
      rw [decide_eq_false_iff_not]; split <;> omega
    have d2 : decide (((v : Nat) : Int) < (a.size : Int)) = false := by
      rw [decide_eq_false_iff_not]; omega
    rw [d1, d2]
    exact ⟨rfl, rfl⟩
  | succ k ih =>
    intro v m hk hm
    obtain ⟨m, rfl⟩ : ∃ m', m = m' + 1 := ⟨m - 1, by omega⟩
    have hva : v < a.data.toList.length := by rw [size_list]; omega
    rw [ix_agree_l1.eq_2, rf4_agree_l1.eq_2]
    have d2 : decide (((v : Nat) : Int) < (a.size : Int)) = true := by rw [decide_eq_true_eq]; omega
    rw [d2]
    simp only [cond_true]
    by_cases hvb : v < b.data.toList.length
    · have hvb' : v < b.size := by rw [← size_list]; exact hvb
      have d1 : decide (((v : Nat) : Int) < (if (b.size : Int) < (a.size : Int) then (b.size : Int) else (a.size : Int))) = true := by
        rw [decide_eq_true_eq]; split <;> omega
      have d3 : decide (((v : Nat) : Int) < (b.size : Int)) = true := by rw [decide_eq_true_eq]; omega
      rw [d1, d3, sidx_at hva, sidx_at hvb, agree_step hva hvb]
      simp only [cond_true, Option.bind_some]
      rw [byte_beq]
      unfold ix_agree_j8 rf4_agree_j8
      by_cases he : a.data.toList[v] = b.data.toList[v]
      · rw [decide_eq_true he, if_pos he]
        simp only [cond_true]
        have hw : IntKind.wrap .i64 (((v : Nat) : Int) + 1) = ((v + 1 : Nat) : Int) := wrap_id (by omega) (by omega)
        rw [hw]
        have := ih (v + 1) m (by omega) (by omega)
        have e : v + (lcp (a.data.toList.drop (v + 1)) (b.data.toList.drop (v + 1)) + 1) = v + 1 + lcp (a.data.toList.drop (v + 1)) (b.data.toList.drop (v + 1)) := by omega
        rw [e]
        exact this
      · rw [decide_eq_false he, if_neg he]
        exact ⟨rfl, rfl⟩
    · have hvb' : ¬ v < b.size := by rw [← size_list]; exact hvb
      have d1 : decide (((v : Nat) : Int) < (if (b.size : Int) < (a.size : Int) then (b.size : Int) else (a.size : Int))) = false := by
        rw [decide_eq_false_iff_not]; split <;> omega
      have d3 : decide (((v : Nat) : Int) < (b.size : Int)) = false := by rw [decide_eq_false_iff_not]; omega
      have h0 : b.data.toList.drop v = [] := List.drop_eq_nil_of_le (by omega)
      have hl : lcp (a.data.toList.drop v) [] = 0 := by cases a.data.toList.drop v <;> rfl
      rw [d1, d3, h0, hl]
      exact ⟨rfl, rfl⟩

theorem agree_val {a b : ByteArray} (hs : a.size ≤ 1000) : ix_agree bigFuel a b = some ((lcp a.data.toList b.data.toList : Nat) : Int) ∧ rf4_agree bigFuel a b = some ((lcp a.data.toList b.data.toList : Nat) : Int) := by
  have := agree_l1 (a := a) (b := b) hs a.size 0 bigFuel (by omega) (by unfold bigFuel; omega)
  unfold ix_agree rf4_agree
  simpa using this

/-- the common beginnings of neighbours -/
def coms (t : ByteArray) : List Int → List Int
  | x :: y :: r => ((lcp (suf t x) (suf t y) : Nat) : Int) :: coms t (y :: r)
  | _ => []

theorem coms_len (t : ByteArray) : ∀ l : List Int, (coms t l).length = l.length - 1
  | [] => rfl
  | [_] => rfl
  | x :: y :: r => by
    unfold coms
    rw [List.length_cons, coms_len t (y :: r)]
    simp

theorem idx_prev {p q : List Int} {x y : Int} : idx (p ++ x :: y :: q) (IntKind.wrap .i64 (((p.length + 1 : Nat) : Int) - 1)) = idx (p ++ x :: y :: q) (((p.length + 1 : Nat) : Int) - 1) ∨ 1000 < p.length := by
  by_cases h : p.length ≤ 1000
  · left; rw [wrap_id (by omega) (by omega)]
  · right; omega

theorem common_l1 {t : ByteArray} (hs : t.size ≤ 999) {w : List Int} (hw : ∀ x, x ∈ w → 0 ≤ x ∧ x ≤ (t.size : Int)) (hwl : w.length ≤ 1000) : ∀ (r p : List Int) (x : Int) (v : List Int) (m : Nat), w = p ++ x :: r → r.length < m → v.length ≤ p.length →
    ix_common_l1 bigFuel t w (ix_common_j6) m v ((p.length + 1 : Nat) : Int) = some (v ++ coms t (x :: r)) ∧ rf4_Common_l1 bigFuel t w (rf4_Common_j6) m v ((p.length + 1 : Nat) : Int) = some (v ++ coms t (x :: r))
  | [], p, x, v, m, hwp, hm, hv => by
    obtain ⟨m, rfl⟩ : ∃ m', m = m' + 1 := ⟨m - 1, by omega⟩
    rw [ix_common_l1.eq_2, rf4_Common_l1.eq_2]
    have : decide (((p.length + 1 : Nat) : Int) < (w.length : Int)) = false := by rw [hwp, decide_eq_false_iff_not]; simp
    rw [this]
    simp only [coms, List.append_nil]
    exact ⟨rfl, rfl⟩
  | y :: r, p, x, v, m, hwp, hm, hv => by
    obtain ⟨m, rfl⟩ : ∃ m', m = m' + 1 := ⟨m - 1, by omega⟩
    have hpl : p.length + 2 + r.length = w.length := by rw [hwp]; simp; omega
    rw [ix_common_l1.eq_2, rf4_Common_l1.eq_2]
    have hlt : decide (((p.length + 1 : Nat) : Int) < (w.length : Int)) = true := by rw [decide_eq_true_eq]; omega
    have h1 : idx w (IntKind.wrap .i64 (((p.length + 1 : Nat) : Int) - 1)) = some x := by
      have e : IntKind.wrap .i64 (((p.length + 1 : Nat) : Int) - 1) = ((p.length : Nat) : Int) := by rw [wrap_id (by omega) (by omega)]; omega
      rw [e, hwp]; exact idx_at rfl
    have h2 : idx w ((p.length + 1 : Nat) : Int) = some y := by
      have e : w = (p ++ [x]) ++ y :: r := by rw [hwp]; simp
      rw [e]; exact idx_at (by simp)
    have bx := hw x (by rw [hwp]; simp)
    have by' := hw y (by rw [hwp]; simp)
    obtain ⟨e, e1, e2⟩ := ssub_to bx.1 bx.2
    obtain ⟨f, f1, f2⟩ := ssub_to by'.1 by'.2
    have hes : e.size ≤ 1000 := by
      rw [← size_list, e2]
      unfold suf
      rw [List.length_drop, size_list]
      omega
    obtain ⟨g1, g2⟩ := agree_val (a := e) (b := f) hes
    rw [hlt, h1, h2]
    simp only [cond_true, Option.bind_some, e1, f1, g1, g2, e2, f2]
    rw [capOk_small (by omega) (by simp; omega)]
    simp only [chk, cond_true]
    have hw1 : IntKind.wrap .i64 (((p.length + 1 : Nat) : Int) + 1) = (((p ++ [x]).length + 1 : Nat) : Int) := by rw [wrap_id (by omega) (by omega)]; simp
    rw [hw1]
    simp at hm
    have := common_l1 hs hw hwl r (p ++ [x]) y (v ++ [((lcp (suf t x) (suf t y) : Nat) : Int)]) m (by rw [hwp]; simp) (by omega) (by simp; omega)
    have ec : v ++ coms t (x :: y :: r) = (v ++ [((lcp (suf t x) (suf t y) : Nat) : Int)]) ++ coms t (y :: r) := by
      simp [coms]
    rw [ec]
    exact this

theorem commons_val {t : ByteArray} (hs : t.size ≤ 999) {l : List Int} (h1 : ix_suffixes bigFuel t = some l) (h2 : rf4_Sort bigFuel t = some l) (hp : l.Perm (seqI (t.size + 1))) : ix_common bigFuel t = some (coms t l) ∧ rf4_Common bigFuel t = some (coms t l) := by
  unfold ix_common rf4_Common
  rw [h1, h2]
  simp only [Option.bind_some]
  have hl : l.length = t.size + 1 := by rw [hp.length_eq, seqI_len]
  obtain ⟨x, r, rfl⟩ : ∃ x r, l = x :: r := by
    cases l with
    | nil => simp at hl
    | cons x r => exact ⟨x, r, rfl⟩
  have hb : ∀ y, y ∈ (x :: r) → 0 ≤ y ∧ y ≤ (t.size : Int) := fun y hy => by
    have := mem_seqI.1 (hp.mem_iff.1 hy)
    omega
  have := common_l1 hs hb (by omega) r [] x [] bigFuel rfl (by simp at hl; unfold bigFuel; omega) (by simp)
  simpa using this

/-! ### labels -/

def badB (b : Int) : Bool := decide (b < 32) || decide (b > 126)
def lab (t : ByteArray) : Bool := decide (t.size ≤ 200) && !(bytesI t).any badB

theorem bytesI_len (t : ByteArray) : (bytesI t).length = t.size := by unfold bytesI; rw [List.length_map, size_list]

theorem indexFunc_byte (g : Int → Option Bool) (p : Int → Bool) (a : List Int) (hl : lenOk a = true) (hg : ∀ x, x ∈ a → g x = some (p x)) :
    ∃ r : Int, sl_IndexFunc_byte a g = some r ∧ (decide (r ≥ 0)) = a.any p := by
  unfold sl_IndexFunc_byte
  rw [hl]
  simp only [chk, cond_true]
  have : ∀ (l : List Int) (k : Nat), (∀ x, x ∈ l → g x = some (p x)) → ∃ r : Int, sl_IndexFunc_byte_l1 g (sl_IndexFunc_byte_j4) l k = some r ∧ (decide (r ≥ 0)) = l.any p := by
    intro l
    induction l with
    | nil => intro k _; exact ⟨-1, rfl, rfl⟩
    | cons x l ih =>
      intro k h
      rw [sl_IndexFunc_byte_l1.eq_2, h x (by simp)]
      simp only [Option.bind_some, List.any_cons]
      cases p x with
      | true => exact ⟨k, rfl, by simp⟩
      | false => simpa using ih (k + 1) (fun x hx => h x (by simp [hx]))
  exact this a 0 hg

theorem printable_val {t : ByteArray} (hs : t.size ≤ 100000) : ix_printable t = some (!(bytesI t).any badB) := by
  obtain ⟨r, h1, h2⟩ := indexFunc_byte (fun y0 => ix_printable_1 y0) badB (bytesI t) (lenOk_of (by rw [bytesI_len]; omega)) (fun x _ => by
    show ix_printable_1 x = _
    unfold ix_printable_1 ix_printable_1_j3 badB
    cases decide (x < 32) <;> rfl)
  unfold ix_printable sl_ContainsFunc_byte
  rw [h1]
  simp only [Option.bind_some]
  rw [h2]

theorem valid_val {t : ByteArray} (hs : t.size ≤ 100000) : ix_valid t = some (lab t) := by
  unfold ix_valid ix_valid_j3 lab
  rw [printable_val hs]
  by_cases h : t.size ≤ 200
  · rw [decide_eq_true (by omega), decide_eq_true h]; rfl
  · rw [decide_eq_false (by omega), decide_eq_false h]; rfl

theorem label_l1 {t : ByteArray} (K : Option Bool) : ∀ (r : List Nat) (k : Nat), k + r.length = t.size → rf4_Label_l1 t K r k = bif ((bytesI t).drop k).any badB then some false else K
  | [], k, h => by
    simp at h
    rw [rf4_Label_l1.eq_1, List.drop_eq_nil_of_le (by rw [bytesI_len]; omega)]
    rfl
  | x :: r, k, h => by
    simp at h
    have hk : k < t.data.toList.length := by rw [size_list t]; omega
    rw [rf4_Label_l1.eq_2, sidx_at hk]
    have hd : (bytesI t).drop k = ((t.data.toList[k].toNat : Nat) : Int) :: (bytesI t).drop (k + 1) := by
      rw [List.drop_eq_getElem_cons (by rw [bytesI_len]; omega)]
      simp [bytesI]
    rw [hd]
    simp only [Option.bind_some, List.any_cons]
    have ih := label_l1 (t := t) K r (k + 1) (by omega)
    rw [ih]
    unfold rf4_Label_j7 badB
    cases decide (((t.data.toList[k].toNat : Nat) : Int) < 32) with
    | true => rfl
    | false => cases decide (((t.data.toList[k].toNat : Nat) : Int) > 126) <;> rfl

theorem label_val {t : ByteArray} (hs : t.size ≤ 100000) : rf4_Label t = some (lab t) := by
  unfold rf4_Label
  rw [lenOk_of (by simp; omega)]
  simp only [chk, cond_true]
  rw [label_l1 _ _ 0 (by simp)]
  unfold lab rf4_Label_j3
  rw [List.drop_zero]
  have e : decide ((t.size : Int) ≤ 200) = decide (t.size ≤ 200) := by
    by_cases h : t.size ≤ 200
    · rw [decide_eq_true (by omega), decide_eq_true h]
    · rw [decide_eq_false (by omega), decide_eq_false h]
  rw [e]
  cases (bytesI t).any badB <;> cases decide (t.size ≤ 200) <;> rfl

theorem few_val (t : ByteArray) : ∃ e, lw4_few t = some e ∧ e.size ≤ 300 ∧ e.data.toList = t.data.toList.take 300 := by
  unfold lw4_few
  have h : ∃ n : Nat, (if 300 < (t.size : Int) then (300 : Int) else (t.size : Int)) = n ∧ n ≤ 300 ∧ n ≤ t.size ∧ t.data.toList.take n = t.data.toList.take 300 := by
    split
    · exact ⟨300, rfl, Nat.le_refl _, by omega, rfl⟩
    · exact ⟨t.size, rfl, by omega, Nat.le_refl _, by rw [List.take_of_length_le (by rw [size_list]; exact Nat.le_refl _), List.take_of_length_le (by rw [size_list]; omega)]⟩
  obtain ⟨n, h1, h2, h3, h4⟩ := h
  rw [h1]
  obtain ⟨e, e1, e2⟩ := ssub_val (t := t) (i := 0) (j := n) (Int.le_refl _) (by omega) (by omega)
  rw [e1]
  simp at e2
  refine ⟨e, rfl, ?_, e2.trans h4⟩
  rw [← size_list, e2, List.length_take]
  omega

/-! ### two slices -/

theorem equal_self : ∀ (p q : List Int), sl_Equal_int_l1 (p ++ q) (sl_Equal_int_j7) q p.length = some true
  | p, [] => by rw [sl_Equal_int_l1.eq_1]; rfl
  | p, x :: q => by
    rw [sl_Equal_int_l1.eq_2, idx_at rfl]
    simp only [Option.bind_some, bne_self_eq_false, cond_false]
    have := equal_self (p ++ [x]) q
    simpa using this

theorem equal_refl {l : List Int} (hl : l.length ≤ 100000) : sl_Equal_int l l = some true := by
  unfold sl_Equal_int
  rw [lenOk_of (by omega)]
  simp only [bne_self_eq_false, cond_false, chk, cond_true]
  exact equal_self [] l

/-! ### the statement -/

theorem awake_val : lw4_awake bigFuel = some true := by
  obtain ⟨l, h1, h2, h3⟩ := suffixes_val (t := ByteArray.mk #[97, 98, 97, 98]) (by decide)
  have hl : l = [4, 2, 0, 3, 1] := order_unique h2 (by decide) h3 (by unfold Sorted; decide)
  have hv : ix_valid (ByteArray.mk #[97, 98, 97, 98]) = some true := by
    rw [valid_val (by decide)]
    exact congrArg some (by decide)
  unfold lw4_awake ix_Sort
  rw [hv, h1, hl]
  simp only [Option.bind_some, Bool.not_true, cond_false]
  rw [equal_refl (by decide)]
  rfl

theorem indexSorts_true (s : ByteArray) : lw4_IndexSorts bigFuel s = some true := by
  obtain ⟨t, e1, e2, _⟩ := few_val s
  obtain ⟨l, h1, h2, h3, h4⟩ := sorts_same (t := t) (by omega)
  obtain ⟨c1, c2⟩ := commons_val (by omega) h1 h2 h3
  have hl : l.length = t.size + 1 := by rw [h3.length_eq, seqI_len]
  unfold lw4_IndexSorts ix_Sort ix_Common
  rw [e1]
  simp only [Option.bind_some, valid_val (t := t) (by omega), label_val (t := t) (by omega), h1, h2, c1, c2, awake_val]
  cases lab t with
  | false => rfl
  | true =>
    simp only [Bool.not_true, cond_false, Option.bind_some]
    rw [equal_refl (by omega), equal_refl (by rw [coms_len]; omega)]
    rfl
end Go.AM
