/-
  CHAPTER 4, PLAIN: the shortest string that does not stand in a label. No statement of the seat is proved here.
-/
import Derived.Test.YtmfdgonjnckdhaaCLawLong
set_option linter.unusedVariables false
set_option linter.unusedSimpArgs false
namespace Go.AM
open Go.Sort

/-! ### where a string stands -/

theorem contains_none : ∀ (T x : List UInt8), Lib.contains T x = false ↔ ∀ j, j ≤ T.length → Lib.occAt T x j = false
  | [], x => by
    constructor
    · intro h j hj
      have : j = 0 := by simpa using hj
      subst this
      cases x with
      | nil => simp [Lib.contains, Lib.index] at h
      | cons a x => rfl
    · intro h
      have := h 0 (Nat.le_refl _)
      cases x with
      | nil => simp [Lib.occAt] at this
      | cons a x => simp [Lib.contains, Lib.index]
  | b :: l, x => by
    have ih := contains_none l x
    rw [contains_cons, Bool.or_eq_false_iff, ih]
    constructor
    · rintro ⟨h1, h2⟩ j hj
      cases j with
      | zero => exact h1
      | succ j => exact h2 j (by simpa using hj)
    · intro h
      refine ⟨h 0 (Nat.zero_le _), fun j hj => h (j + 1) (by simpa using hj)⟩

theorem prefix_take {x y : List UInt8} : x.isPrefixOf y = (y.take x.length == x) := by
  cases h : x.isPrefixOf y with
  | true =>
    have := List.prefix_iff_eq_take.1 (List.isPrefixOf_iff_prefix.1 h)
    rw [← this]
    simp
  | false =>
    cases h2 : y.take x.length == x with
    | false => rfl
    | true =>
      have e : y.take x.length = x := by simpa using h2
      have : x.isPrefixOf y = true := List.isPrefixOf_iff_prefix.2 (List.prefix_iff_eq_take.2 e.symm)
      rw [h] at this
      cases this

theorem contains_take {T x : List UInt8} (h : Lib.contains T x = true) : ∃ i, i ≤ T.length ∧ (T.drop i).take x.length = x := by
  have : ¬ ∀ j, j ≤ T.length → Lib.occAt T x j = false := fun hn => by
    rw [(contains_none T x).2 hn] at h
    cases h
  have h2 : ∃ i, i ≤ T.length ∧ Lib.occAt T x i = true := Classical.byContradiction fun hn => this fun j hj => by
    cases ho : Lib.occAt T x j with
    | false => rfl
    | true => exact absurd ⟨j, hj, ho⟩ hn
  obtain ⟨i, hi, ho⟩ := h2
  unfold Lib.occAt at ho
  rw [prefix_take] at ho
  exact ⟨i, hi, by simpa using ho⟩

theorem contains_len {T x : List UInt8} (h : Lib.contains T x = true) : x.length ≤ T.length := by
  obtain ⟨i, hi, he⟩ := contains_take h
  have := congrArg List.length he
  rw [List.length_take, List.length_drop] at this
  omega

theorem locate_l1 {t x : ByteArray} (hs : t.size ≤ 1000) (hx : x.size ≤ 1000) : ∀ (r : List Nat) (k : Nat) (v : List Int), k + r.length = t.size + 1 → v.length ≤ k →
    ∃ w, rf4_Locate_l1 t x (rf4_Locate_j5) r k v = some w ∧ (w = [] ↔ v = [] ∧ ∀ j, k ≤ j → j ≤ t.size → Lib.occAt t.data.toList x.data.toList j = false)
  | [], k, v, h, hv => by
    simp at h
    exact ⟨v, by rw [rf4_Locate_l1.eq_1]; rfl, fun e => ⟨e, fun j h1 h2 => by omega⟩, fun e => e.1⟩
  | y :: r, k, v, h, hv => by
    simp at h
    have hw : IntKind.wrap .i64 ((t.size : Int) - (k : Int)) = ((t.size - k : Nat) : Int) := by rw [wrap_id (by omega) (by omega)]; omega
    have key : ∃ b : Bool, b = Lib.occAt t.data.toList x.data.toList k ∧ rf4_Locate_l1 t x (rf4_Locate_j5) (y :: r) k v = rf4_Locate_j10 k v (rf4_Locate_j8 (rf4_Locate_l1 t x (rf4_Locate_j5) r (k + 1))) b := by
      rw [rf4_Locate_l1.eq_2, hw]
      by_cases hc : x.size ≤ t.size - k
      · have hw2 : IntKind.wrap .i64 ((k : Int) + (x.size : Int)) = ((k + x.size : Nat) : Int) := by rw [wrap_id (by omega) (by omega)]; simp
        obtain ⟨e, e1, e2⟩ := ssub_val (t := t) (i := (k : Int)) (j := ((k + x.size : Nat) : Int)) (by omega) (by omega) (by omega)
        rw [decide_eq_true (by omega), hw2, e1]
        refine ⟨_, ?_, rfl⟩
        rw [Lib.toList_data, Lib.toList_data, e2, Int.toNat_natCast, Int.toNat_natCast, List.drop_take]
        unfold Lib.occAt
        rw [prefix_take, size_list]
        have : k + x.size - k = x.size := by omega
        rw [this]
      · rw [decide_eq_false (by omega)]
        refine ⟨false, ?_, rfl⟩
        unfold Lib.occAt
        rw [prefix_take]
        symm
        rw [beq_eq_false_iff_ne]
        intro e
        have := congrArg List.length e
        rw [List.length_take, List.length_drop, size_list, size_list] at this
        omega
    obtain ⟨b, hb, he⟩ := key
    rw [he]
    unfold rf4_Locate_j10 rf4_Locate_j8
    cases b with
    | false =>
      obtain ⟨w, w1, w2⟩ := locate_l1 hs hx r (k + 1) v (by omega) (by omega)
      refine ⟨w, w1, w2.trans ⟨fun e => ⟨e.1, fun j h1 h2 => ?_⟩, fun e => ⟨e.1, fun j h1 h2 => e.2 j (by omega) h2⟩⟩⟩
      by_cases hj : j = k
      · subst hj; exact hb.symm
      · exact e.2 j (by omega) h2
    | true =>
      rw [capOk_small (by omega) (by simp; omega)]
      simp only [cond_true, chk]
      obtain ⟨w, w1, w2⟩ := locate_l1 hs hx r (k + 1) (v ++ [(k : Int)]) (by omega) (by simp; omega)
      refine ⟨w, w1, w2.trans ⟨fun e => absurd e.1 (by simp), fun e => ?_⟩⟩
      have := e.2 k (Nat.le_refl _) (by omega)
      rw [← hb] at this
      cases this

theorem locate_val {t x : ByteArray} (hs : t.size ≤ 1000) (hx : x.size ≤ 1000) : ∃ w, rf4_Locate t x = some w ∧ ((w.length : Int) == 0) = !Lib.contains t.data.toList x.data.toList := by
  have hw : IntKind.wrap .i64 ((t.size : Int) + 1) = ((t.size + 1 : Nat) : Int) := wrap_id (by omega) (by omega)
  obtain ⟨w, w1, w2⟩ := locate_l1 hs hx (List.range (Int.toNat (IntKind.wrap .i64 ((t.size : Int) + 1)))) 0 [] (by rw [hw]; simp) (by simp)
  refine ⟨w, ?_, ?_⟩
  · unfold rf4_Locate
    rw [lenOk_of (by rw [hw]; simp; omega)]
    exact w1
  · have h2 : w = [] ↔ Lib.contains t.data.toList x.data.toList = false := by
      rw [contains_none, w2, size_list]
      exact ⟨fun e j hj => e.2 j (Nat.zero_le _) hj, fun e => ⟨rfl, fun j _ hj => e j hj⟩⟩
    cases hc : Lib.contains t.data.toList x.data.toList with
    | false =>
      rw [h2.2 hc]; rfl
    | true =>
      have : w ≠ [] := fun e => by rw [h2.1 e] at hc; cases hc
      cases w with
      | nil => exact absurd rfl this
      | cons _ _ => simp; omega

/-! ### strings one letter longer -/

def toB (x : List UInt8) : ByteArray := ⟨x.toArray⟩

theorem toB_list (x : List UInt8) : (toB x).data.toList = x := rfl
theorem toB_size (x : List UInt8) : (toB x).size = x.length := by rw [← size_list, toB_list]
theorem toB_app (x y : List UInt8) : toB x ++ toB y = toB (x ++ y) := by
  refine ba_ext ?_
  rw [ByteArray.data_append, Array.toList_append]
  rfl

def kids (L : List UInt8) (x : List UInt8) : List (List UInt8) := L.map fun c => x ++ [c]

def badS (T x : List UInt8) : Bool := !Lib.contains T x

/-- go on behind all of a list, if none of it is absent -/
def firstBad {β : Type} (T : List UInt8) (f : List UInt8 → Option β) (K : Option β) : List (List UInt8) → Option β
  | [] => K
  | x :: r => bif badS T x then f x else firstBad T f K r

theorem firstBad_append {β : Type} (T : List UInt8) (f : List UInt8 → Option β) (K : Option β) : ∀ a b, firstBad T f K (a ++ b) = firstBad T f (firstBad T f K b) a
  | [], b => rfl
  | x :: a, b => by simp only [List.cons_append, firstBad, firstBad_append T f K a b]

theorem catOk_small {a b : ByteArray} (ha : a.size ≤ 100000) (hb : b.size ≤ 100000) : catOk a b = true := by
  unfold catOk
  refine decide_eq_true ?_
  have : IntKind.max .i64 = 9223372036854775807 := by decide
  rw [this]
  omega

section
variable {t a2 : ByteArray} (hs : t.size ≤ 300) (hl : a2.size ≤ 8)

include hs hl in
theorem rabs_l3 {x : List UInt8} (hx : x.length ≤ 900) (K : List ByteArray → Option ByteArray) {B : Nat} (hB : B ≤ 50000) (r : List Nat) : ∀ (k : Nat) (v : List ByteArray), k + r.length = a2.size → v.length + 8 ≤ B + k →
    rf4_Absent_l3 t a2 (toB x) K r k v = firstBad t.data.toList (fun y => some (toB y)) (K (v ++ (kids (a2.data.toList.drop k) x).map toB)) (kids (a2.data.toList.drop k) x) := by
  induction r with
  | nil =>
    intro k v h hv
    simp at h
    rw [rf4_Absent_l3.eq_1, List.drop_eq_nil_of_le (by rw [size_list]; omega)]
    simp [kids, firstBad]
  | cons y r ih =>
    intro k v h hv
    simp at h
    have hk : k < a2.data.toList.length := by rw [size_list]; omega
    obtain ⟨c, hd0⟩ : ∃ c, a2.data.toList.drop k = c :: a2.data.toList.drop (k + 1) := ⟨_, List.drop_eq_getElem_cons hk⟩
    obtain ⟨e, e1, e2⟩ := ssub_val (t := a2) (i := (k : Int)) (j := ((k + 1 : Nat) : Int)) (by omega) (by omega) (by omega)
    have he : e = toB [c] := by
      refine ba_ext ?_
      have h1 : k + 1 - k = 1 := by omega
      rw [e2, toB_list, Int.toNat_natCast, Int.toNat_natCast, List.drop_take, hd0, h1]
      rfl
    have hxl : (toB (x ++ [c])).size ≤ 1000 := by rw [toB_size, List.length_append, List.length_singleton]; omega
    obtain ⟨w, w1, w2⟩ := locate_val (t := t) (x := toB (x ++ [c])) (by omega) hxl
    have hcat : catOk (toB x) (toB [c]) = true := catOk_small (by rw [toB_size]; omega) (by rw [toB_size, List.length_singleton]; omega)
    have hd : kids (a2.data.toList.drop k) x = (x ++ [c]) :: kids (a2.data.toList.drop (k + 1)) x := by
      rw [hd0]; rfl
    have hcap : capOk 16 (v ++ [toB (x ++ [c])]).length = true := capOk_small (by omega) (by rw [List.length_append, List.length_singleton]; omega)
    have hih := ih (k + 1) (v ++ [toB (x ++ [c])]) (by omega) (by rw [List.length_append, List.length_singleton]; omega)
    have hstep : rf4_Absent_l3 t a2 (toB x) K (y :: r) k v = bif badS t.data.toList (x ++ [c]) then some (toB (x ++ [c])) else rf4_Absent_l3 t a2 (toB x) K r (k + 1) (v ++ [toB (x ++ [c])]) := by
      rw [rf4_Absent_l3.eq_2, e1, he, Option.bind_some, hcat, toB_app, w1, chk, cond_true, Option.bind_some, w2, toB_list, hcap, chk, cond_true]
      rfl
    rw [hstep, hih, hd, firstBad, List.map_cons]
    simp only [List.append_assoc, List.singleton_append]

include hs hl in
theorem rabs_l2 (K : List ByteArray → Option ByteArray) : ∀ (R : List (List UInt8)) (k : Nat) (v : List ByteArray), (∀ x, x ∈ R → x.length ≤ 900) → v.length + 8 * R.length ≤ 40000 →
    rf4_Absent_l2 t a2 K (R.map toB) k v = firstBad t.data.toList (fun y => some (toB y)) (K (v ++ (R.flatMap (kids a2.data.toList)).map toB)) (R.flatMap (kids a2.data.toList))
  | [], k, v, _, _ => by rw [List.map_nil, rf4_Absent_l2.eq_1]; simp [firstBad]
  | x :: R, k, v, h, hv => by
    simp at hv
    have hkl : (kids a2.data.toList x).length ≤ 8 := by unfold kids; rw [List.length_map, size_list]; exact hl
    rw [List.map_cons, rf4_Absent_l2.eq_2, lenOk_of (by simp; omega)]
    simp only [chk, cond_true]
    rw [rabs_l3 hs hl (h x (List.mem_cons_self ..)) _ (Nat.le_refl 50000) _ 0 v (by simp) (by omega), List.drop_zero]
    unfold rf4_Absent_j10
    rw [rabs_l2 K R (k + 1) _ (fun z hz => h z (List.mem_cons_of_mem _ hz)) (by simp; omega)]
    simp only [List.flatMap_cons]
    rw [firstBad_append]
    simp

theorem i32_id {a : Int} (h1 : 0 ≤ a) (h2 : a < 128) : IntKind.wrap .i32 a = a := by
  simp [IntKind.wrap, IntKind.signed, IntKind.bits]
  omega

include hs in
theorem pabs_l3 {x : List UInt8} (hx : x.length ≤ 900) (K : List ByteArray → Option (ByteArray × Int)) : ∀ (L : List UInt8) (k : Nat) (q v : List ByteArray), (∀ c, c ∈ L → c.toNat < 128) → q.length + v.length + L.length ≤ 50000 →
    ix_Absent_l3 t K (L.map fun c => (c.toNat : Int)) k (toB x :: q ++ v) = firstBad t.data.toList (fun y => some (toB y, 0)) (K (toB x :: q ++ (v ++ (kids L x).map toB))) (kids L x)
  | [], k, q, v, _, _ => by rw [List.map_nil, ix_Absent_l3.eq_1]; simp [kids, firstBad]
  | c :: L, k, q, v, h, hv => by
    simp at hv
    have hc := h c (List.mem_cons_self ..)
    have hw : IntKind.wrap .i32 (c.toNat : Int) = (c.toNat : Int) := i32_id (by omega) (by omega)
    have hi : idx (toB x :: q ++ v) 0 = some (toB x) := by simp [idx]
    have hb : strOfB (c.toNat : Int) = toB [c] := by
      refine ba_ext ?_
      simp [strOfB, toB]
    rw [List.map_cons, ix_Absent_l3.eq_2, hi, hw, hb]
    simp only [Option.bind_some]
    rw [decide_eq_true (by omega), catOk_small (by rw [toB_size]; omega) (by rw [toB_size]; simp), toB_app]
    simp only [chk, cond_true]
    unfold st_Contains
    rw [decide_eq_true (by omega), toB_list]
    simp only [chk, cond_true, Option.bind_some]
    have hd : kids (c :: L) x = (x ++ [c]) :: kids L x := rfl
    rw [hd]
    simp only [firstBad, badS]
    cases Lib.contains t.data.toList (x ++ [c]) with
    | false => simp only [Bool.not_false, cond_true]
    | true =>
      rw [capOk_small (by omega) (by simp; omega)]
      simp only [Bool.not_true, cond_false, cond_true]
      have := pabs_l3 hx K L (k + 1) q (v ++ [toB (x ++ [c])]) (fun d hd => h d (List.mem_cons_of_mem _ hd)) (by simp; omega)
      rw [List.append_assoc, this]
      simp

include hs hl in
theorem pabs_l2 (hL : ∀ c, c ∈ a2.data.toList → c.toNat < 128) : ∀ (R V : List (List UInt8)) (m : Nat), (∀ x, x ∈ R → x.length ≤ 900) → 9 * R.length + V.length ≤ 30000 → R.length ≤ m →
    ix_Absent_l2 t a2 m ((R ++ V).map toB) = firstBad t.data.toList (fun y => some (toB y, 0)) (ix_Absent_l2 t a2 (m - R.length) ((V ++ R.flatMap (kids a2.data.toList)).map toB)) (R.flatMap (kids a2.data.toList))
  | [], V, m, _, _, _ => by simp [firstBad]
  | x :: R, V, m, h, hv, hm => by
    simp at hv hm
    obtain ⟨m, rfl⟩ : ∃ m', m = m' + 1 := ⟨m - 1, by omega⟩
    have hkl : (kids a2.data.toList x).length ≤ 8 := by unfold kids; rw [List.length_map, size_list]; exact hl
    have hp := pabs_l3 hs (h x (List.mem_cons_self ..)) (ix_Absent_j22 (ix_Absent_l2 t a2 m)) a2.data.toList 0 ((R ++ V).map toB) [] hL (by rw [size_list, List.length_map, List.length_append, List.length_nil]; omega)
    have e0 : (x :: R ++ V).map toB = toB x :: (R ++ V).map toB ++ [] := by simp
    rw [ix_Absent_l2.eq_2, lenOk_of (by rw [bytesI_len]; omega)]
    simp only [chk, cond_true]
    rw [e0]
    unfold bytesI
    rw [hp]
    simp only [List.flatMap_cons]
    rw [firstBad_append]
    congr 1
    unfold ix_Absent_j22
    have hsub : sub (toB x :: (R ++ V).map toB ++ ([] ++ (kids a2.data.toList x).map toB)) 1 ((toB x :: (R ++ V).map toB ++ ([] ++ (kids a2.data.toList x).map toB)).length : Int) = some ((R ++ (V ++ kids a2.data.toList x)).map toB) := by
      unfold sub
      rw [if_pos ⟨by omega, by simp; omega, by omega⟩, Int.toNat_natCast, List.take_length]
      simp
    rw [hsub]
    simp only [Option.bind_some]
    rw [pabs_l2 hL R (V ++ kids a2.data.toList x) m (fun z hz => h z (List.mem_cons_of_mem _ hz)) (by simp; omega) (by omega)]
    have e1 : m + 1 - (x :: R).length = m - R.length := by simp
    rw [e1]
    simp

theorem firstBad_none {β : Type} {T : List UInt8} {f : List UInt8 → Option β} {K : Option β} : ∀ {l : List (List UInt8)}, (∀ x, x ∈ l → Lib.contains T x = true) → firstBad T f K l = K
  | [], _ => rfl
  | x :: r, h => by
    simp only [firstBad, badS, h x (List.mem_cons_self ..)]
    exact firstBad_none fun y hy => h y (List.mem_cons_of_mem _ hy)

theorem firstBad_some {T : List UInt8} : ∀ {l : List (List UInt8)}, (∃ x, x ∈ l ∧ Lib.contains T x = false) → ∃ y : List UInt8, (∀ (β : Type) (f : List UInt8 → Option β) (K : Option β), firstBad T f K l = f y)
  | [], h => by obtain ⟨x, hx, _⟩ := h; cases hx
  | x :: r, h => by
    cases hx : Lib.contains T x with
    | false =>
      exact ⟨x, fun β f K => by simp [firstBad, badS, hx]⟩
    | true =>
      obtain ⟨z, hz, hc⟩ := h
      have hzr : z ∈ r := by
        rcases List.mem_cons.1 hz with rfl | h
        · rw [hx] at hc; cases hc
        · exact h
      obtain ⟨y, hy⟩ := firstBad_some ⟨z, hzr, hc⟩
      exact ⟨y, fun β f K => by simp only [firstBad, badS, hx]; exact hy β f K⟩

theorem kids_nodup {L : List UInt8} (hL : L.Nodup) {R : List (List UInt8)} (hR : R.Nodup) {d : Nat} (hd : ∀ x, x ∈ R → x.length = d) : (R.flatMap (kids L)).Nodup := by
  rw [List.Nodup, List.pairwise_flatMap]
  refine ⟨fun a ha => ?_, ?_⟩
  · unfold kids
    rw [List.pairwise_map]
    refine hL.imp fun {c c'} hcc e => hcc ?_
    have := List.append_cancel_left e
    simpa using this
  · have h2 : R.Pairwise fun a b => a ∈ R ∧ b ∈ R ∧ a ≠ b := by
      have := List.Pairwise.and_mem.1 hR
      exact this.imp fun h => ⟨h.1, h.2.1, h.2.2⟩
    refine h2.imp fun {a b} hab x hx y hy e => ?_
    unfold kids at hx hy
    obtain ⟨c, _, rfl⟩ := List.mem_map.1 hx
    obtain ⟨c', _, rfl⟩ := List.mem_map.1 hy
    have := List.append_inj e (by rw [hd a hab.1, hd b hab.2.1])
    exact hab.2.2 this.1

include hs hl in
/-- level by level both do the same -/
theorem absent_levels (hL : ∀ c, c ∈ a2.data.toList → c.toNat < 128) (hn : a2.data.toList.Nodup) (h0 : a2.data.toList ≠ []) : ∀ (k d : Nat) (R : List (List UInt8)) (m1 m2 : Nat), t.size + 1 - d = k → d ≤ t.size →
    (∀ x, x ∈ R → x.length = d ∧ Lib.contains t.data.toList x = true) → R.Nodup → R ≠ [] → k < m1 → 400 * (k + 1) < m2 →
    ∃ y, rf4_Absent_l1 t a2 m1 (R.map toB) = some y ∧ ix_Absent_l2 t a2 m2 (R.map toB) = some (y, 0) := by
  intro k
  induction k with
  | zero => intro d R m1 m2 hk hd; omega
  | succ k ih =>
    intro d R m1 m2 hk hd hR hRn hR0 hm1 hm2
    have hRl : R.length ≤ t.size + 1 := by
      have hsub : R ⊆ (List.range (t.size + 1)).map fun i => (t.data.toList.drop i).take d := by
        intro x hx
        obtain ⟨e1, e2⟩ := hR x hx
        obtain ⟨i, hi, he⟩ := contains_take e2
        rw [size_list] at hi
        exact List.mem_map.2 ⟨i, List.mem_range.2 (by omega), by rw [← e1]; exact he⟩
      have := hRn.length_le_of_subset hsub
      simpa using this
    obtain ⟨m1, rfl⟩ : ∃ m', m1 = m' + 1 := ⟨m1 - 1, by omega⟩
    have hlen9 : ∀ x, x ∈ R → x.length ≤ 900 := fun x hx => by rw [(hR x hx).1]; omega
    have er := rabs_l2 hs hl (rf4_Absent_j7 (rf4_Absent_l1 t a2 m1)) R 0 [] hlen9 (by simp; omega)
    have ep := pabs_l2 hs hl hL R [] m2 hlen9 (by simp; omega) (by omega)
    rw [List.append_nil] at ep
    rw [rf4_Absent_l1.eq_2, lenOk_of (by simp; omega)]
    simp only [chk, cond_true]
    rw [er, ep]
    by_cases hall : ∀ x, x ∈ R.flatMap (kids a2.data.toList) → Lib.contains t.data.toList x = true
    · rw [firstBad_none hall, firstBad_none hall]
      have hne : R.flatMap (kids a2.data.toList) ≠ [] := by
        cases R with
        | nil => exact absurd rfl hR0
        | cons x R =>
          cases h2 : a2.data.toList with
          | nil => exact absurd h2 h0
          | cons c L => simp [kids]
      have hlenK : ∀ x, x ∈ R.flatMap (kids a2.data.toList) → x.length = d + 1 := by
        intro x hx
        obtain ⟨z, hz, hxz⟩ := List.mem_flatMap.1 hx
        unfold kids at hxz
        obtain ⟨c, _, rfl⟩ := List.mem_map.1 hxz
        simp [(hR z hz).1]
      have hd1 : d + 1 ≤ t.size := by
        cases h2 : R.flatMap (kids a2.data.toList) with
        | nil => exact absurd h2 hne
        | cons x r =>
          have hm : x ∈ R.flatMap (kids a2.data.toList) := by rw [h2]; exact List.mem_cons_self ..
          have := contains_len (hall x hm)
          rw [hlenK x hm, size_list] at this
          exact this
      unfold rf4_Absent_j7
      rw [List.nil_append, List.nil_append]
      exact ih (d + 1) _ m1 _ (by omega) hd1 (fun x hx => ⟨hlenK x hx, hall x hx⟩) (kids_nodup hn hRn fun x hx => (hR x hx).1) hne (by omega) (by omega)
    · have hex : ∃ x, x ∈ R.flatMap (kids a2.data.toList) ∧ Lib.contains t.data.toList x = false := Classical.byContradiction fun hno => hall fun x hx => by
        cases hc : Lib.contains t.data.toList x with
        | true => rfl
        | false => exact absurd ⟨x, hx, hc⟩ hno
      obtain ⟨y, hy⟩ := firstBad_some hex
      exact ⟨toB y, hy _ _ _, hy _ _ _⟩
end

/-! ### letters -/

theorem letters_l1 {a2 : ByteArray} (hs : a2.size ≤ 1000) (K : Option (ByteArray × Int)) (K3 : Option Bool) : ∀ (k v m : Nat), a2.size - v = k → k < m → 1 ≤ v →
    ∃ b : Bool, ix_Absent_l1 a2 K m ((v : Nat) : Int) = (bif b then K else some (ByteArray.mk #[], 2)) ∧ rf4_Letters_l1 a2 K3 m ((v : Nat) : Int) = (bif b then K3 else some false) ∧ (b = true → ∀ i (hi : i + 1 < a2.data.toList.length), v ≤ i + 1 → a2.data.toList[i] < a2.data.toList[i + 1]) := by
  intro k
  induction k with
  | zero =>
    intro v m hk hm hv
    obtain ⟨m, rfl⟩ : ∃ m', m = m' + 1 := ⟨m - 1, by omega⟩
    refine ⟨true, ?_, ?_, fun _ i hi hvi => ?_⟩
    · rw [ix_Absent_l1.eq_2, decide_eq_false (by omega)]; rfl
    · rw [rf4_Letters_l1.eq_2, decide_eq_false (by omega)]; rfl
    · rw [size_list] at hi; omega
  | succ k ih =>
    intro v m hk hm hv
    obtain ⟨m, rfl⟩ : ∃ m', m = m' + 1 := ⟨m - 1, by omega⟩
    have hw1 : IntKind.wrap .i64 (((v : Nat) : Int) - 1) = ((v - 1 : Nat) : Int) := by rw [wrap_id (by omega) (by omega)]; omega
    have hw2 : IntKind.wrap .i64 (((v : Nat) : Int) + 1) = ((v + 1 : Nat) : Int) := by rw [wrap_id (by omega) (by omega)]; simp
    have hv1 : v < a2.data.toList.length := by rw [size_list]; omega
    have hv0 : v - 1 < a2.data.toList.length := by omega
    rw [ix_Absent_l1.eq_2, rf4_Letters_l1.eq_2, decide_eq_true (by omega), hw1, hw2, sidx_at hv0, sidx_at hv1]
    simp only [cond_true, Option.bind_some]
    by_cases hc : a2.data.toList[v - 1] < a2.data.toList[v]
    · have hcn : a2.data.toList[v - 1].toNat < a2.data.toList[v].toNat := UInt8.lt_iff_toNat_lt.1 hc
      rw [decide_eq_false (by omega)]
      simp only [cond_false]
      obtain ⟨b, h1, h2, h3⟩ := ih (v + 1) m (by omega) (by omega) (by omega)
      refine ⟨b, h1, h2, fun hb i hi hvi => ?_⟩
      by_cases hiv : i + 1 = v
      · have e1 : a2.data.toList[i] = a2.data.toList[v - 1] := by congr 1; omega
        have e2 : a2.data.toList[i + 1] = a2.data.toList[v] := by congr 1
        rw [e1, e2]; exact hc
      · exact h3 hb i hi (by omega)
    · have hcn : ¬ a2.data.toList[v - 1].toNat < a2.data.toList[v].toNat := fun e => hc (UInt8.lt_iff_toNat_lt.2 e)
      rw [decide_eq_true (by omega)]
      exact ⟨false, rfl, rfl, fun e => by cases e⟩

theorem incr_nodup : ∀ (l : List UInt8), (∀ i (hi : i + 1 < l.length), l[i] < l[i + 1]) → l.Nodup ∧ ∀ a r, l = a :: r → ∀ c, c ∈ r → a < c
  | [], _ => ⟨List.nodup_nil, fun a r e => by cases e⟩
  | [x], _ => ⟨by simp, fun a r e c hc => by cases e; cases hc⟩
  | x :: y :: r, h => by
    have ih := incr_nodup (y :: r) fun i hi => h (i + 1) (by simpa using hi)
    have hxy : x < y := h 0 (by simp)
    have hlt : ∀ c, c ∈ y :: r → x < c := by
      intro c hc
      rcases List.mem_cons.1 hc with rfl | hc
      · exact hxy
      · exact UInt8.lt_trans hxy (ih.2 y r rfl c hc)
    refine ⟨List.nodup_cons.2 ⟨fun hm => UInt8.lt_irrefl x (hlt x hm), ih.1⟩, fun a q e c hc => by cases e; exact hlt c hc⟩

/-- what both say of the letters, and of the absent string -/
theorem absent_val {t a2 : ByteArray} (hs : t.size ≤ 300) (hs2 : a2.size ≤ 300) (ht : lab t = true) :
    ∃ b : Bool, rf4_Letters bigFuel a2 = some b ∧ (b = false → ix_Absent bigFuel t a2 = some (ByteArray.mk #[], 2)) ∧ (b = true → ∃ y, rf4_Absent bigFuel t a2 = some y ∧ ix_Absent bigFuel t a2 = some (y, 0)) := by
  obtain ⟨b, h1, h2, h3⟩ := letters_l1 (a2 := a2) (by omega) (ix_Absent_j10 bigFuel t a2) (rf4_Letters_j3 a2) (a2.size - 1) 1 bigFuel rfl (by unfold bigFuel; omega) (Nat.le_refl _)
  have h1' : ix_Absent_l1 a2 (ix_Absent_j10 bigFuel t a2) bigFuel 1 = _ := h1
  have h2' : rf4_Letters_l1 a2 (rf4_Letters_j3 a2) bigFuel 1 = _ := h2
  have hlet : rf4_Letters bigFuel a2 = some (b && (lab a2 && (decide (1 ≤ a2.size) && decide (a2.size ≤ 8)))) := by
    unfold rf4_Letters
    rw [h2']
    cases b with
    | false => rfl
    | true =>
      unfold rf4_Letters_j3 rf4_Letters_j13
      rw [label_val (by omega)]
      simp only [cond_true, Option.bind_some, Bool.true_and]
      have d1 : decide ((a2.size : Int) ≥ 1) = decide (1 ≤ a2.size) := by
        by_cases h : 1 ≤ a2.size
        · rw [decide_eq_true (by omega), decide_eq_true h]
        · rw [decide_eq_false (by omega), decide_eq_false h]
      have d2 : decide ((a2.size : Int) ≤ 8) = decide (a2.size ≤ 8) := by
        by_cases h : a2.size ≤ 8
        · rw [decide_eq_true (by omega), decide_eq_true h]
        · rw [decide_eq_false (by omega), decide_eq_false h]
      rw [d1, d2]
      cases lab a2 <;> cases decide (1 ≤ a2.size) <;> rfl
  have habs : ix_Absent bigFuel t a2 = bif (decide (1 ≤ a2.size) && decide (a2.size ≤ 8)) && !(bytesI a2).any badB then (bif b then ix_Absent_j10 bigFuel t a2 else some (ByteArray.mk #[], 2)) else some (ByteArray.mk #[], 2) := by
    unfold ix_Absent ix_Absent_j5
    rw [valid_val (by omega), ht, printable_val (by omega), h1']
    simp only [Option.bind_some, Bool.not_true, cond_false]
    by_cases g1 : 1 ≤ a2.size
    · rw [decide_eq_false (by omega), decide_eq_true g1]
      by_cases g2 : a2.size ≤ 8
      · rw [decide_eq_false (by omega), decide_eq_true g2]
        cases (bytesI a2).any badB <;> rfl
      · rw [decide_eq_true (by omega), decide_eq_false g2]; rfl
    · rw [decide_eq_true (by omega), decide_eq_false g1]; rfl
  have hlab : lab a2 = (decide (a2.size ≤ 200) && !(bytesI a2).any badB) := rfl
  refine ⟨_, hlet, fun hb => ?_, fun hb => ?_⟩
  · rw [habs]
    rw [hlab] at hb
    by_cases g2 : a2.size ≤ 8
    · rw [decide_eq_true g2] at hb ⊢
      rw [decide_eq_true (show a2.size ≤ 200 by omega)] at hb
      cases hp : (bytesI a2).any badB <;> rw [hp] at hb <;> cases b <;> cases hd : decide (1 ≤ a2.size) <;> rw [hd] at hb <;> first | rfl | cases hb
    · rw [decide_eq_false g2]; simp
  · simp only [Bool.and_eq_true, decide_eq_true_eq] at hb
    obtain ⟨rfl, hb2, hb3, hb4⟩ := hb
    rw [hlab] at hb2
    simp only [Bool.and_eq_true, Bool.not_eq_true'] at hb2
    have hinc := incr_nodup a2.data.toList fun i hi => h3 rfl i hi (by omega)
    have hne : a2.data.toList ≠ [] := fun e => by
      have := congrArg List.length e
      rw [size_list] at this
      have h9 : a2.size = 0 := this
      omega
    have hL : ∀ c, c ∈ a2.data.toList → c.toNat < 128 := by
      intro c hc
      have := hb2.2
      rw [List.any_eq_false] at this
      have hm : ((c.toNat : Nat) : Int) ∈ bytesI a2 := List.mem_map.2 ⟨c, hc, rfl⟩
      have h4 := this _ hm
      unfold badB at h4
      simp only [Bool.or_eq_true, decide_eq_true_eq, not_or] at h4
      omega
    have hemp : Lib.contains t.data.toList [] = true := by
      unfold Lib.contains
      rw [Lib.index_empty]
      rfl
    obtain ⟨y, y1, y2⟩ := absent_levels hs hb4 hL hinc.1 hne (t.size + 1) 0 [[]] bigFuel bigFuel (by omega) (Nat.zero_le _) (fun x hx => by simp at hx; subst hx; exact ⟨rfl, hemp⟩) (by simp) (by simp) (by unfold bigFuel; omega) (by unfold bigFuel; omega)
    refine ⟨y, ?_, ?_⟩
    · exact y1
    · rw [habs, decide_eq_true hb3, decide_eq_true hb4, hb2.2]
      exact y2

theorem indexStrings_true (s q : ByteArray) : lw4_IndexStrings bigFuel s q = some true := by
  obtain ⟨t, e1, e2, _⟩ := few_val s
  obtain ⟨p, f1, f2, _⟩ := few_val q
  obtain ⟨r, l1, l2⟩ := longest_same (t := t) e2
  unfold lw4_IndexStrings
  rw [e1, f1]
  simp only [Option.bind_some, l1, l2, distinct_val e2]
  cases ht : lab t with
  | false =>
    have habs : ix_Absent bigFuel t p = some (ByteArray.mk #[], 2) := by
      unfold ix_Absent ix_Absent_j5
      rw [valid_val (by omega), ht]
      rfl
    rw [habs]
    simp only [Option.bind_some, beq_self_eq_true, Bool.not_true, cond_false, bne_self_eq_false, awake_val]
    unfold lw4_IndexStrings_j16
    rw [label_val (by omega), ht]
    simp only [lw4_IndexStrings_j23, Bool.not_false, cond_true, cond_false, Option.bind_some, beq_self_eq_true, Bool.false_eq_true, if_false]
  | true =>
    obtain ⟨b, b1, b2, b3⟩ := absent_val (t := t) (a2 := p) e2 f2 ht
    have key : ∀ z : ByteArray × Int, ix_Absent bigFuel t p = some z → lw4_IndexStrings_j26 bigFuel t p z false = some true := by
      intro z hz
      unfold lw4_IndexStrings_j26
      rw [b1]
      simp only [cond_false, Option.bind_some]
      cases b with
      | false =>
        rw [b2 rfl] at hz
        cases hz
        simp only [lw4_IndexStrings_j33, Bool.not_false, cond_true, beq_self_eq_true]
      | true =>
        obtain ⟨y, y1, y2⟩ := b3 rfl
        rw [y2] at hz
        cases hz
        rw [y1]
        simp only [Bool.not_true, cond_false, Option.bind_some, beq_self_eq_true, cond_true]
        rfl
    obtain ⟨z, hz⟩ : ∃ z, ix_Absent bigFuel t p = some z := by
      cases b with
      | false => exact ⟨_, b2 rfl⟩
      | true => obtain ⟨y, _, y2⟩ := b3 rfl; exact ⟨_, y2⟩
    rw [hz]
    simp only [Option.bind_some, beq_self_eq_true, Bool.not_true, cond_false, bne_self_eq_false, awake_val, if_true]
    unfold lw4_IndexStrings_j16
    rw [label_val (by omega), ht, refDistinct_val (by omega)]
    simp only [cond_false, Option.bind_some, Bool.not_true, bne_self_eq_false]
    exact key z hz
end Go.AM
