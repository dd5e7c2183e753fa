/-
  PLAIN FACTS AND THE LAW (gathered by shake.py). No statement of the seat is proved here.
-/
import Derived.Test.YtoiejpkfpjingaaK31
set_option linter.unusedVariables false
set_option linter.unusedSimpArgs false
set_option maxRecDepth 100000
namespace Go.AM
def bigFuel : Nat := 36893488147419103232
theorem lenOk_of {α : Type} {l : List α} (h : l.length ≤ 9223372036854775807) : lenOk l = true := Nat.ble_eq_true_of_le (by omega)
theorem chk_true {α : Type} {x : Option α} : chk true x = x := rfl
theorem wr {i : Int} (h1 : -9000000000000000000 ≤ i) (h2 : i ≤ 9000000000000000000) : IntKind.wrap .i64 i = i := wrap_id (by omega) (by omega)
theorem capS {b n : Nat} (hb : b ≤ 1000) (hn : n ≤ 100000) : capOk b n = true := by
  have : n * b ≤ 100000 * 1000 := Nat.mul_le_mul hn hb
  simp only [capOk, Bool.and_eq_true, Nat.ble_eq]
  omega
theorem wf6 {i : Int} (h1 : -1000 ≤ i) (h2 : i ≤ 1000) : wfI .i64 i = true := by
  unfold wfI Lit.wf
  simp [IntKind.min, IntKind.max, IntKind.signed, IntKind.bits]
  omega
theorem sub_pre {α : Type} (p q : List α) : sub (p ++ q) 0 ((p.length : Nat) : Int) = some p := by
  unfold sub
  rw [if_pos ⟨by omega, by omega, by simp; omega⟩]
  simp
theorem idx_at {α : Type} {l : List α} {i : Nat} {x : α} (h : l[i]? = some x) : idx l ((i : Nat) : Int) = some x := by
  unfold idx
  rw [if_pos (Int.natCast_nonneg _), Int.toNat_natCast]
  exact h
theorem mget_mset {V : Type} (z v : V) (k t : Int) : ∀ l : List (Int × V), mget keq1 z t (mset keq1 k v l) = if k = t then v else mget keq1 z t l
  | [] => by
    unfold mset mget mget keq1
    by_cases h : k = t
    · subst h; simp
    · have : (k == t) = false := beq_eq_false_iff_ne.2 h
      rw [this, if_neg h]
      rfl
  | p :: r => by
    have ih := mget_mset z v k t r
    unfold mset
    by_cases hk : p.1 = k
    · have e1 : keq1 p.1 k = true := by unfold keq1; simp [hk]
      rw [e1]
      simp only [cond_true]
      unfold mget
      have e2 : keq1 (p.1, v).1 t = keq1 p.1 t := rfl
      rw [e2]
      by_cases h : k = t
      · rw [if_pos h]
        have : keq1 p.1 t = true := by unfold keq1; simp [hk, h]
        rw [this]; rfl
      · rw [if_neg h]
        have : keq1 p.1 t = false := by unfold keq1; rw [hk]; exact beq_eq_false_iff_ne.2 h
        rw [this]; rfl
    · have e1 : keq1 p.1 k = false := by unfold keq1; exact beq_eq_false_iff_ne.2 hk
      rw [e1]
      simp only [cond_false]
      unfold mget
      rw [ih]
      by_cases hp : p.1 = t
      · have e2 : keq1 p.1 t = true := by unfold keq1; simp [hp]
        have h : ¬ k = t := fun e => hk (by rw [hp, e])
        simp only [e2, if_neg h]
      · have e2 : keq1 p.1 t = false := by unfold keq1; exact beq_eq_false_iff_ne.2 hp
        rw [e2]
        rfl
theorem mset_len {V : Type} (k : Int) (v : V) : ∀ l : List (Int × V), (mset keq1 k v l).length ≤ l.length + 1
  | [] => by simp [mset]
  | p :: r => by
    have := mset_len k v r
    unfold mset
    cases keq1 p.1 k <;> simp <;> omega
def cv (x : rf5Op) : hsOp := hsOp.mk x.f_Txn x.f_Kind x.f_Item
theorem of_l1 (K : List hsOp → Option (List hsOp)) : ∀ (r : List rf5Op) (k : Nat) (v : List hsOp), v.length = k → k ≤ 43 → lw5_of_l1 K r k v = K (v ++ (r.take (43 - k)).map cv)
  | [], k, v, hv, hk => by rw [lw5_of_l1.eq_1]; simp
  | x :: r, k, v, hv, hk => by
    rw [lw5_of_l1.eq_2]
    by_cases h : k = 43
    · subst h
      rw [decide_eq_true (by omega)]
      simp
    · rw [decide_eq_false (by omega), capS (by omega) (by simp; omega)]
      simp only [cond_false, chk_true]
      rw [of_l1 K r (k + 1) _ (by simp; omega) (by omega)]
      have : 43 - k = (43 - (k + 1)) + 1 := by omega
      rw [this, List.take_succ_cons, List.map_cons, List.append_assoc]
      rfl
theorem of_val {h : List rf5Op} (hl : lenOk h = true) : lw5_of h = some ((h.take 43).map cv) := by
  unfold lw5_of
  rw [hl, chk_true, of_l1 _ h 0 [] rfl (by omega)]
  rfl
def bad6 (x : rf5Op) : Bool := decide (x.f_Txn < 1) || (decide (x.f_Txn > 6) || (decide (x.f_Kind < 0) || (decide (x.f_Kind > 3) || (decide (x.f_Item < 0) || decide (x.f_Item > 5)))))
def ended (t : Int) (l : List rf5Op) : Bool := l.any fun p => (p.f_Txn == t) && decide (p.f_Kind > 1)
def okFrom (pre : List rf5Op) : List rf5Op → Bool
  | [] => true
  | x :: r => (!bad6 x && (!(decide (x.f_Kind > 1) && (x.f_Item != 0)) && !ended x.f_Txn pre)) && okFrom (pre ++ [x]) r
theorem chain6 {β : Type} (a z : β) (d1 d2 d3 d4 d5 d6 : Bool) : (bif d1 then a else bif d2 then a else bif d3 then a else bif d4 then a else bif d5 then a else bif d6 then a else z) = bif (d1 || (d2 || (d3 || (d4 || (d5 || d6))))) then a else z := by
  cases d1 <;> cases d2 <;> cases d3 <;> cases d4 <;> cases d5 <;> cases d6 <;> rfl
theorem rvalid_l2 (x : rf5Op) (K : Option Bool) : ∀ (e : List rf5Op) (k : Nat), rf5_Valid_l2 x K e k = bif ended x.f_Txn e then some false else K
  | [], k => by rw [rf5_Valid_l2.eq_1]; rfl
  | p :: e, k => by
    rw [rf5_Valid_l2.eq_2, rvalid_l2 x K e (k + 1)]
    unfold rf5_Valid_j15 ended
    rw [List.any_cons]
    cases (p.f_Txn == x.f_Txn) with
    | false => rfl
    | true => cases decide (p.f_Kind > 1) <;> rfl
theorem rvalid_l1 {h : List rf5Op} (hh : lenOk h = true) (K : Option Bool) : ∀ (r : List rf5Op) (k : Nat) (pre : List rf5Op), h = pre ++ r → pre.length = k → rf5_Valid_l1 h K r k = bif okFrom pre r then K else some false
  | [], k, pre, _, _ => by rw [rf5_Valid_l1.eq_1]; rfl
  | x :: r, k, pre, he, hk => by
    have ih := rvalid_l1 hh K r (k + 1) (pre ++ [x]) (by rw [he]; simp) (by simp [hk])
    have hsub : sub h 0 (k : Int) = some pre := by rw [he, ← hk]; exact sub_pre pre _
    have hlp : lenOk pre = true := by
      have := Nat.le_of_ble_eq_true hh
      rw [he, List.length_append] at this
      exact lenOk_of (by omega)
    rw [rf5_Valid_l1.eq_2, chain6, ih]
    unfold rf5_Valid_j8 rf5_Valid_j5
    rw [hsub]
    simp only [Option.bind_some, hlp, chk_true, rvalid_l2, cond_true, cond_false]
    show _ = bif (!bad6 x && (!(decide (x.f_Kind > 1) && (x.f_Item != 0)) && !ended x.f_Txn pre)) && okFrom (pre ++ [x]) r then K else some false
    have : (decide (x.f_Txn < 1) || (decide (x.f_Txn > 6) || (decide (x.f_Kind < 0) || (decide (x.f_Kind > 3) || (decide (x.f_Item < 0) || decide (x.f_Item > 5)))))) = bad6 x := rfl
    rw [this]
    cases bad6 x <;> cases decide (x.f_Kind > 1) <;> cases (x.f_Item != 0) <;> cases ended x.f_Txn pre <;> rfl
def validB (h : List rf5Op) : Bool := okFrom [] h && decide (h.length ≤ 40)
theorem rvalid_val {h : List rf5Op} (hh : lenOk h = true) : rf5_Valid h = some (validB h) := by
  unfold rf5_Valid
  rw [hh, chk_true, rvalid_l1 hh _ h 0 [] rfl rfl]
  unfold rf5_Valid_j3 validB
  have : decide ((h.length : Int) ≤ 40) = decide (h.length ≤ 40) := by
    by_cases hc : h.length ≤ 40
    · rw [decide_eq_true (by omega), decide_eq_true hc]
    · rw [decide_eq_false (by omega), decide_eq_false hc]
  rw [this]
  cases okFrom [] h <;> rfl
theorem pvalid_l1 (K : Option Bool) : ∀ (r : List rf5Op) (k : Nat) (pre : List rf5Op) (m : List (Int × Bool)), (∀ t, mget keq1 false t m = ended t pre) → m.length ≤ pre.length → pre.length + r.length ≤ 1000 →
    hs_Valid_l1 K (r.map cv) k m = bif okFrom pre r then K else some false
  | [], k, pre, m, _, _, _ => by rw [List.map_nil, hs_Valid_l1.eq_1]; rfl
  | x :: r, k, pre, m, hm, hml, hl => by
    have hl : pre.length + (r.length + 1) ≤ 1000 := hl
    have ih := fun m' h1 h2 => pvalid_l1 K r (k + 1) (pre ++ [x]) m' h1 h2 (by simp; omega)
    rw [List.map_cons, hs_Valid_l1.eq_2]
    unfold hs_Valid_j12 hs_Valid_j15
    simp only [chain6]
    have e5 : decide ((cv x).f_Item ≥ 6) = decide (x.f_Item > 5) := by
      by_cases hc : x.f_Item > 5
      · rw [decide_eq_true hc]; exact decide_eq_true (show x.f_Item ≥ 6 by omega)
      · rw [decide_eq_false hc]; exact decide_eq_false (show ¬ x.f_Item ≥ 6 by omega)
    rw [e5]
    have : (decide ((cv x).f_Txn < 1) || (decide ((cv x).f_Txn > 6) || (decide ((cv x).f_Kind < 0) || (decide ((cv x).f_Kind > 3) || (decide ((cv x).f_Item < 0) || decide (x.f_Item > 5)))))) = bad6 x := rfl
    rw [this]
    show _ = bif (!bad6 x && (!(decide (x.f_Kind > 1) && (x.f_Item != 0)) && !ended x.f_Txn pre)) && okFrom (pre ++ [x]) r then K else some false
    cases hb : bad6 x with
    | true =>
      simp only [cond_true]
      cases ((cv x).f_Kind == 2) <;> rfl
    | false =>
      simp only [bad6, Bool.or_eq_false_iff, decide_eq_false_iff_not] at hb
      obtain ⟨b1, b2, b3, b4, b5, b6⟩ := hb
      have hwf : wfI .i64 (cv x).f_Txn = true := wf6 (by show -1000 ≤ x.f_Txn; omega) (by show x.f_Txn ≤ 1000; omega)
      have hml2 : Nat.blt m.length 1000000000 = true := Nat.ble_eq_true_of_le (by omega)
      have hmt : mget keq1 false (cv x).f_Txn m = ended x.f_Txn pre := hm x.f_Txn
      simp only [cond_false, hwf, chk_true, hml2, hmt]
      have hstep : ∀ b : Bool, b = decide (x.f_Kind > 1) → ended x.f_Txn pre = false → hs_Valid_l1 K (r.map cv) (k + 1) (mset keq1 (cv x).f_Txn b m) = bif okFrom (pre ++ [x]) r then K else some false := by
        intro b hb2 hen
        refine ih _ (fun t => ?_) (by have := mset_len x.f_Txn b m; rw [List.length_append, List.length_singleton]; show (mset keq1 x.f_Txn b m).length ≤ _; omega)
        show mget keq1 false t (mset keq1 x.f_Txn b m) = _
        rw [mget_mset, hm]
        unfold ended at hen ⊢
        rw [List.any_append, List.any_cons, List.any_nil, Bool.or_false]
        by_cases ht : x.f_Txn = t
        · subst ht
          rw [if_pos rfl, hen, hb2]
          simp
        · rw [if_neg ht]
          have : (x.f_Txn == t) = false := beq_eq_false_iff_ne.2 ht
          rw [this]
          simp
      have k2 : ((cv x).f_Kind == 2) = (x.f_Kind == 2) := rfl
      have k3 : ((cv x).f_Kind == 3) = (x.f_Kind == 3) := rfl
      have i0 : ((cv x).f_Item != 0) = (x.f_Item != 0) := rfl
      rw [k2, k3, i0]
      by_cases hk : x.f_Kind > 1
      · have h23 : (x.f_Kind == 2) = true ∨ (x.f_Kind == 2) = false ∧ (x.f_Kind == 3) = true := by
          by_cases h2 : x.f_Kind = 2
          · left; simp [h2]
          · right; exact ⟨beq_eq_false_iff_ne.2 h2, by simp; omega⟩
        have hst := hstep true (decide_eq_true hk).symm
        rw [decide_eq_true hk]
        cases hi : (x.f_Item != 0) with
        | true => rcases h23 with h2 | ⟨h2, h3⟩ <;> simp [*]
        | false =>
          cases hen : ended x.f_Txn pre with
          | true => rcases h23 with h2 | ⟨h2, h3⟩ <;> simp [*]
          | false =>
            have := hst hen
            rcases h23 with h2 | ⟨h2, h3⟩ <;> simp [*]
      · have h2 : (x.f_Kind == 2) = false := beq_eq_false_iff_ne.2 (by omega)
        have h3 : (x.f_Kind == 3) = false := beq_eq_false_iff_ne.2 (by omega)
        have hst := hstep false (decide_eq_false hk).symm
        rw [decide_eq_false hk, h2, h3]
        cases hen : ended x.f_Txn pre with
        | true => simp
        | false =>
          have := hst hen
          simp [*]
theorem pvalid_val {h : List rf5Op} (hl : h.length ≤ 1000) : hs_Valid (h.map cv) = some (validB h) := by
  unfold hs_Valid validB
  rw [List.length_map]
  by_cases hc : h.length ≤ 40
  · rw [decide_eq_false (by omega), lenOk_of (by simp; omega), decide_eq_true hc]
    simp only [cond_false, chk_true]
    rw [pvalid_l1 _ h 0 [] [] (fun t => rfl) (by simp) (by simp; omega)]
    unfold hs_Valid_j7
    cases okFrom [] h <;> rfl
  · rw [decide_eq_true (by omega), decide_eq_false hc]
    simp
theorem valid_same {h : List rf5Op} : hs_Valid ((h.take 43).map cv) = some (validB h) := by
  rw [pvalid_val (by rw [List.length_take]; omega)]
  by_cases hc : h.length ≤ 43
  · rw [List.take_of_length_le hc]
  · unfold validB
    rw [decide_eq_false (p := h.length ≤ 40) (by omega), decide_eq_false (p := (h.take 43).length ≤ 40) (by rw [List.length_take]; omega)]
    simp
theorem okFrom_mem : ∀ (r pre : List rf5Op), okFrom pre r = true → ∀ x, x ∈ r → bad6 x = false ∧ (x.f_Kind > 1 → x.f_Item = 0)
  | [], pre, _, x, hx => by cases hx
  | y :: r, pre, h, x, hx => by
    unfold okFrom at h
    simp only [Bool.and_eq_true, Bool.not_eq_true'] at h
    obtain ⟨⟨h1, h2, h3⟩, h4⟩ := h
    rcases List.mem_cons.1 hx with rfl | hx
    · refine ⟨h1, fun hk => ?_⟩
      rw [decide_eq_true hk] at h2
      simpa using h2
    · exact okFrom_mem r _ h4 x hx
structure Hist (h : List rf5Op) : Prop where
  len : h.length ≤ 1000
  txn : ∀ x, x ∈ h → 1 ≤ x.f_Txn ∧ x.f_Txn ≤ 6
  kind : ∀ x, x ∈ h → 0 ≤ x.f_Kind ∧ x.f_Kind ≤ 3
  item : ∀ x, x ∈ h → 0 ≤ x.f_Item ∧ x.f_Item ≤ 5
  zero : ∀ x, x ∈ h → x.f_Kind > 1 → x.f_Item = 0
theorem hist_of {h : List rf5Op} (hv : validB h = true) : Hist h ∧ h.length ≤ 40 := by
  unfold validB at hv
  simp only [Bool.and_eq_true, decide_eq_true_eq] at hv
  have hm := okFrom_mem h [] hv.1
  have hb : ∀ x, x ∈ h → (1 ≤ x.f_Txn ∧ x.f_Txn ≤ 6) ∧ (0 ≤ x.f_Kind ∧ x.f_Kind ≤ 3) ∧ (0 ≤ x.f_Item ∧ x.f_Item ≤ 5) := by
    intro x hx
    have := (hm x hx).1
    simp only [bad6, Bool.or_eq_false_iff, decide_eq_false_iff_not] at this
    omega
  exact ⟨⟨by omega, fun x hx => (hb x hx).1, fun x hx => (hb x hx).2.1, fun x hx => (hb x hx).2.2, fun x hx => (hm x hx).2⟩, hv.2⟩
def endL (t k : Int) : List rf5Op → Nat → Int
  | [], _ => -1
  | x :: r, i => bif (x.f_Txn == t) && (x.f_Kind == k) then (i : Int) else endL t k r (i + 1)
theorem end_l1 (t k : Int) : ∀ (r : List rf5Op) (i : Nat), rf5_end_l1 t k (rf5_end_j5) r i = some (endL t k r i)
  | [], i => by rw [rf5_end_l1.eq_1]; rfl
  | x :: r, i => by
    rw [rf5_end_l1.eq_2, end_l1 t k r (i + 1)]
    unfold rf5_end_j9
    show _ = some (bif (x.f_Txn == t) && (x.f_Kind == k) then (i : Int) else endL t k r (i + 1))
    cases (x.f_Txn == t) with
    | false => rfl
    | true => cases (x.f_Kind == k) <;> rfl
theorem end_val {h : List rf5Op} (hl : lenOk h = true) (t k : Int) : rf5_end h t k = some (endL t k h 0) := by
  unfold rf5_end
  rw [hl, chk_true]
  exact end_l1 t k h 0
theorem index_l1 {t k : Int} (hk : k > 1) : ∀ (r : List rf5Op) (i : Nat), (∀ x, x ∈ r → x.f_Kind > 1 → x.f_Item = 0) → sl_Index_hsOp_l1 (hsOp.mk t k 0) (sl_Index_hsOp_j4) (r.map cv) i = some (endL t k r i)
  | [], i, _ => by rw [List.map_nil, sl_Index_hsOp_l1.eq_1]; rfl
  | x :: r, i, hz => by
    rw [List.map_cons, sl_Index_hsOp_l1.eq_2, index_l1 hk r (i + 1) fun y hy => hz y (List.mem_cons_of_mem _ hy)]
    have : ((t == (cv x).f_Txn) && ((k == (cv x).f_Kind) && (((0 : Int) == (cv x).f_Item) && true))) = ((x.f_Txn == t) && (x.f_Kind == k)) := by
      show ((t == x.f_Txn) && ((k == x.f_Kind) && (((0 : Int) == x.f_Item) && true))) = _
      rw [Bool.beq_comm (a := t), Bool.beq_comm (a := k)]
      by_cases h1 : x.f_Kind = k
      · have := hz x (List.mem_cons_self ..) (by omega)
        rw [this]
        simp
      · have : (x.f_Kind == k) = false := beq_eq_false_iff_ne.2 h1
        rw [this]
        simp
    rw [this]
    show _ = some (bif (x.f_Txn == t) && (x.f_Kind == k) then (i : Int) else endL t k r (i + 1))
    cases (x.f_Txn == t) && (x.f_Kind == k) <;> rfl
theorem index_val {h : List rf5Op} (H : Hist h) {t k : Int} (hk : k > 1) : sl_Index_hsOp (h.map cv) (hsOp.mk t k 0) = some (endL t k h 0) := by
  have := H.len
  unfold sl_Index_hsOp
  rw [lenOk_of (by simp; omega), chk_true]
  exact index_l1 hk h 0 H.zero
def endMap (f : Int → Int) : List (Int × Int) := [(1, f 1), (2, f 2), (3, f 3), (4, f 4), (5, f 5), (6, f 6)]
theorem ending_step {h : List rf5Op} (H : Hist h) {k : Int} (hk : k > 1) (K : List (Int × Int) → Option (List (Int × Int))) {m : Nat} {v : List (Int × Int)} (t t' : Int) (h1 : 1 ≤ t) (h2 : t ≤ 6) (ht : t' = t + 1) (hv : v.length ≤ 10) :
    hs_History_ending_l1 (h.map cv) k K (m + 1) v t = hs_History_ending_l1 (h.map cv) k K m (mset keq1 t (endL t k h 0) v) t' := by
  subst ht
  rw [hs_History_ending_l1.eq_2, decide_eq_true h2, index_val H hk]
  simp only [cond_true, Option.bind_some]
  rw [wf6 (by omega) (by omega), chk_true, Nat.ble_eq_true_of_le (show v.length + 1 ≤ 1000000000 by omega) |> (fun e => show Nat.blt v.length 1000000000 = true from e), chk_true, wr (by omega) (by omega)]
theorem ending_val {h : List rf5Op} (H : Hist h) {k : Int} (hk : k > 1) : hs_History_ending bigFuel (h.map cv) k = some (endMap fun t => endL t k h 0) := by
  unfold hs_History_ending
  have e : bigFuel = 36893488147419103225 + 1 + 1 + 1 + 1 + 1 + 1 + 1 := rfl
  rw [e, ending_step H hk _ 1 2 (by omega) (by omega) rfl (by simp), ending_step H hk _ 2 3 (by omega) (by omega) rfl (Nat.le_of_ble_eq_true rfl), ending_step H hk _ 3 4 (by omega) (by omega) rfl (Nat.le_of_ble_eq_true rfl), ending_step H hk _ 4 5 (by omega) (by omega) rfl (Nat.le_of_ble_eq_true rfl), ending_step H hk _ 5 6 (by omega) (by omega) rfl (Nat.le_of_ble_eq_true rfl), ending_step H hk _ 6 7 (by omega) (by omega) rfl (Nat.le_of_ble_eq_true rfl)]
  rw [hs_History_ending_l1.eq_2, decide_eq_false (by omega)]
  rfl
theorem equal_self : ∀ (p q : List Int), sl_Equal_int_l1 (p ++ q) (sl_Equal_int_j7) q p.length = some true
  | p, [] => by rw [sl_Equal_int_l1.eq_1]; rfl
  | p, x :: q => by
    have h : idx (p ++ x :: q) ((p.length : Nat) : Int) = some x := idx_at (by simp)
    rw [sl_Equal_int_l1.eq_2, h]
    simp only [Option.bind_some, bne_self_eq_false, cond_false]
    have := equal_self (p ++ [x]) q
    simpa using this
theorem equal_refl {l : List Int} (hl : l.length ≤ 100000) : sl_Equal_int l l = some true := by
  unfold sl_Equal_int
  rw [lenOk_of (by omega)]
  simp only [bne_self_eq_false, cond_false, chk_true]
  exact equal_self [] l
theorem sortI_id {l : List Int} (hm : l.Pairwise fun a b => a ≤ b) : sortI l = l := by
  have h1 : (sortI l).Pairwise fun a b => decide (a ≤ b) = true := List.pairwise_mergeSort (by intro a b c; simp; omega) (by intro a b; simp; omega) l
  refine List.Perm.eq_of_pairwise (le := fun a b => a ≤ b) (fun a b _ _ x y => by omega) (h1.imp fun h => by simpa using h) hm (List.mergeSort_perm l _)
def commL (h : List rf5Op) : List Int := ([1, 2, 3, 4, 5, 6] : List Int).filter fun t => decide (endL t 2 h 0 ≥ 0)
theorem comm_end (f : Int → Int) : comm (endMap f) = ([1, 2, 3, 4, 5, 6] : List Int).filter fun t => decide (f t ≥ 0) := by
  have : endMap f = ([1, 2, 3, 4, 5, 6] : List Int).map fun t => (t, f t) := rfl
  unfold comm
  rw [this, List.filter_map, List.map_map]
  have e : (Prod.fst ∘ fun t : Int => (t, f t)) = id := rfl
  rw [e, List.map_id]
  rfl
theorem committed_val {h : List rf5Op} (H : Hist h) : hs_History_committed bigFuel (h.map cv) = some (commL h) := by
  unfold hs_History_committed
  rw [ending_val H (by omega)]
  simp only [Option.bind_some]
  have : decide ((endMap fun t => endL t 2 h 0).length ≤ 1000) = true := rfl
  rw [this, chk_true, comm_end]
  have hp : (([1, 2, 3, 4, 5, 6] : List Int).filter fun t => decide (endL t 2 h 0 ≥ 0)).Pairwise fun a b => a ≤ b := by
    refine List.Pairwise.filter _ ?_
    decide
  rw [sortI_id hp]
  rfl
def sample : List rf5Op := [⟨2, 1, 0⟩, ⟨1, 0, 0⟩, ⟨1, 2, 0⟩, ⟨2, 2, 0⟩]
theorem sample_hist : Hist sample := (hist_of (by rfl)).1
theorem awake_val : lw5_awake bigFuel = some true := by
  have e : [(hsOp.mk 2 1 0), (hsOp.mk 1 0 0), (hsOp.mk 1 2 0), (hsOp.mk 2 2 0)] = sample.map cv := rfl
  have hc := committed_val sample_hist
  have hcl : commL sample = [1, 2] := rfl
  rw [hcl] at hc
  have ho : hs_Order bigFuel (sample.map cv) = some ([2, 1], 0) := by
    unfold hs_Order hs_History_part
    rw [hc]
    kernel_rfl
  unfold lw5_awake
  rw [e, ho]
  rfl
def srcB (E : Int → Int → Bool) (l : List Int) (b : Int) : Bool := !(l.any fun a => E a b)
def topo (E : Int → Int → Bool) : Nat → List Int → Option (List Int)
  | _, [] => some []
  | 0, _ :: _ => none
  | n + 1, x :: l => match (x :: l).find? (srcB E (x :: l)) with
    | none => none
    | some b => (topo E n ((x :: l).erase b)).map (b :: ·)
def permsF : Nat → List Int → List (List Int)
  | _, [] => [[]]
  | 0, _ :: _ => []
  | n + 1, x :: l => (x :: l).flatMap fun y => (permsF n ((x :: l).erase y)).map (y :: ·)
def agreesB (E : Int → Int → Bool) : List Int → Bool
  | [] => true
  | b :: r => (r.all fun c => !E c b) && agreesB E r
theorem agrees_pw {E : Int → Int → Bool} : ∀ {p : List Int}, agreesB E p = true ↔ p.Pairwise fun a c => E c a = false
  | [] => by simp [agreesB]
  | b :: r => by
    rw [List.pairwise_cons, ← agrees_pw (p := r)]
    simp [agreesB]
theorem perm_mem : ∀ {n : Nat} {l : List Int}, l.Nodup → l.length ≤ n → ∀ p, p ∈ permsF n l ↔ p.Perm l
  | n, [], _, _, p => by
    have : permsF n [] = [[]] := by cases n <;> rfl
    rw [this, List.mem_singleton, List.perm_nil]
  | 0, x :: l, _, h, _ => by simp at h
  | n + 1, x :: l, hn, hl, p => by
    have e : permsF (n + 1) (x :: l) = (x :: l).flatMap fun y => (permsF n ((x :: l).erase y)).map (y :: ·) := rfl
    rw [e, List.mem_flatMap]
    constructor
    · rintro ⟨y, hy, hp⟩
      obtain ⟨q, hq, rfl⟩ := List.mem_map.1 hp
      have := (perm_mem (n := n) (hn.erase y) (by rw [List.length_erase_of_mem hy]; simp at hl ⊢; omega) q).1 hq
      exact (this.cons y).trans (List.perm_cons_erase hy).symm
    · intro hp
      cases p with
      | nil => exact absurd hp.length_eq (by simp)
      | cons y q =>
        have hy : y ∈ x :: l := hp.mem_iff.1 (by simp)
        refine ⟨y, hy, List.mem_map.2 ⟨q, ?_, rfl⟩⟩
        refine (perm_mem (n := n) (hn.erase y) (by rw [List.length_erase_of_mem hy]; simp at hl ⊢; omega) q).2 ?_
        have := hp.trans (List.perm_cons_erase hy)
        exact (List.perm_cons y).1 this
theorem find_mapCons {y : Int} (f : List Int → Bool) (L : List (List Int)) : (L.map (y :: ·)).find? f = (L.find? fun p => f (y :: p)).map (y :: ·) := by
  rw [List.find?_map]; rfl
theorem find_congr {α : Type} {f g : α → Bool} : ∀ {l : List α}, (∀ x, x ∈ l → f x = g x) → l.find? f = l.find? g
  | [], _ => rfl
  | a :: l, h => by
    rw [List.find?_cons, List.find?_cons, h a (by simp), find_congr (l := l) fun x hx => h x (by simp [hx])]
theorem findSome_congr {α β : Type} {f g : α → Option β} : ∀ {l : List α}, (∀ x, x ∈ l → f x = g x) → l.findSome? f = l.findSome? g
  | [], _ => rfl
  | a :: l, h => by
    rw [List.findSome?_cons, List.findSome?_cons, h a (by simp), findSome_congr (l := l) fun x hx => h x (by simp [hx])]
theorem src_erase {E : Int → Int → Bool} {L : List Int} {y : Int} (hi : E y y = false) : ((L.erase y).all fun c => !E c y) = srcB E L y := by
  unfold srcB
  rw [Bool.eq_iff_iff]
  simp only [List.all_eq_true, Bool.not_eq_true', List.any_eq_false]
  constructor
  · intro h c hc
    by_cases e : c = y
    · subst e; simp [hi]
    · simpa using h c ((List.mem_erase_of_ne e).2 hc)
  · intro h c hc
    have := h c (List.mem_of_mem_erase hc)
    simpa using this
theorem find_topo {E : Int → Int → Bool} (hi : ∀ x, E x x = false) : ∀ {n : Nat} {l : List Int}, l.Nodup → l.length ≤ n → (permsF n l).find? (agreesB E) = topo E n l
  | n, [], _, _ => by
    have : permsF n [] = [[]] := by cases n <;> rfl
    rw [this]
    cases n <;> rfl
  | 0, x :: l, _, h => by simp at h
  | n + 1, x :: l, hn, hl => by
    have ih : ∀ y, y ∈ x :: l → (permsF n ((x :: l).erase y)).find? (agreesB E) = topo E n ((x :: l).erase y) := fun y hy => find_topo hi (hn.erase y) (by rw [List.length_erase_of_mem hy]; simp at hl ⊢; omega)
    have hmem : ∀ y, y ∈ x :: l → ∀ p, p ∈ permsF n ((x :: l).erase y) ↔ p.Perm ((x :: l).erase y) := fun y hy => perm_mem (hn.erase y) (by rw [List.length_erase_of_mem hy]; simp at hl ⊢; omega)
    have e : permsF (n + 1) (x :: l) = (x :: l).flatMap fun y => (permsF n ((x :: l).erase y)).map (y :: ·) := rfl
    have e2 : topo E (n + 1) (x :: l) = match (x :: l).find? (srcB E (x :: l)) with | none => none | some b => (topo E n ((x :: l).erase b)).map (b :: ·) := rfl
    rw [e, e2, List.find?_flatMap]
    generalize hL : x :: l = L at *
    have h1 : L.findSome? (fun y => ((permsF n (L.erase y)).map (y :: ·)).find? (agreesB E)) = L.findSome? fun y => if srcB E L y then (topo E n (L.erase y)).map (y :: ·) else none := by
      refine findSome_congr fun y hy => ?_
      rw [find_mapCons]
      have h2 : (permsF n (L.erase y)).find? (fun p => agreesB E (y :: p)) = (permsF n (L.erase y)).find? fun p => srcB E L y && agreesB E p := by
        refine find_congr fun p hp => ?_
        have hpp := (hmem y hy p).1 hp
        show ((p.all fun c => !E c y) && agreesB E p) = _
        rw [← src_erase (L := L) (hi y)]
        congr 1
        rw [Bool.eq_iff_iff]
        simp only [List.all_eq_true]
        exact ⟨fun h c hc => h c (hpp.mem_iff.2 hc), fun h c hc => h c (hpp.mem_iff.1 hc)⟩
      rw [h2]
      cases hs : srcB E L y with
      | true =>
        simp only [Bool.true_and, if_true]
        rw [ih y hy]
      | false =>
        simp only [Bool.false_and]
        rw [List.find?_eq_none.2 (by simp)]
        rfl
    rw [h1]
    clear h1 e e2
    cases hf : L.find? (srcB E L) with
    | none =>
      simp only
      rw [List.findSome?_eq_none_iff]
      intro y hy
      have := List.find?_eq_none.1 hf y hy
      rw [if_neg this]
    | some b =>
      simp only
      have hb := List.mem_of_find?_eq_some hf
      have hsb := List.find?_some hf
      cases ht : topo E n (L.erase b) with
      | some q =>
        obtain ⟨_, pre, bs, rfl, has⟩ := List.find?_eq_some_iff_append.1 hf
        rw [List.findSome?_append]
        have : pre.findSome? (fun y => if srcB E (pre ++ b :: bs) y then (topo E n ((pre ++ b :: bs).erase y)).map (y :: ·) else none) = none := by
          rw [List.findSome?_eq_none_iff]
          intro y hy
          have := has y hy
          rw [if_neg (by simpa using this)]
        rw [this, List.findSome?_cons, if_pos hsb, ht]
        rfl
      | none =>
        rw [Option.map_none, List.findSome?_eq_none_iff]
        intro y hy
        split
        · rename_i hsy
          cases hty : topo E n (L.erase y) with
          | none => rfl
          | some q =>
            exfalso
            rw [← ih y hy] at hty
            have hq := (hmem y hy q).1 (List.mem_of_find?_eq_some hty)
            have hqa := List.find?_some hty
            rw [← ih b hb] at ht
            have hyq : agreesB E (y :: q) = true := by
              show ((q.all fun c => !E c y) && agreesB E q) = true
              rw [hqa, Bool.and_true]
              have := src_erase (E := E) (L := L) (hi y)
              rw [hsy] at this
              rw [List.all_eq_true] at this ⊢
              exact fun c hc => this c (hq.mem_iff.1 hc)
            have hp2 : ((y :: q).erase b).Perm (L.erase b) := ((hq.cons y).trans (List.perm_cons_erase hy).symm).erase b
            have hag2 : agreesB E ((y :: q).erase b) = true := agrees_pw.2 ((agrees_pw.1 hyq).sublist List.erase_sublist)
            exact absurd hag2 (by simpa using List.find?_eq_none.1 ht _ ((hmem b hb _).2 hp2))
        · rfl
def someF : Nat → List Int → List (List Int)
  | 0, _ => [[]]
  | n + 1, l => l.flatMap fun y => (someF n (l.erase y)).map (y :: ·)
def extE (E : Int → Int → Bool) (h : Int) : Int → List Int → Bool
  | a, [] => E a h
  | a, t :: q => E a t && extE E h t q
def cycB (E : Int → Int → Bool) : List Int → Bool
  | [] => true
  | t :: q => extE E t t q
theorem findSome_filter {α β : Type} (p : α → Bool) (g : α → Option β) : ∀ l : List α, (l.filter p).findSome? g = l.findSome? fun t => if p t then g t else none
  | [] => rfl
  | a :: l => by
    rw [List.filter_cons, List.findSome?_cons]
    cases p a with
    | true => simp only [if_true]; rw [List.findSome?_cons, findSome_filter p g l]
    | false => simp only [Bool.false_eq_true, if_false]; rw [findSome_filter p g l]
theorem filter_erase2 {l c : List Int} (hn : l.Nodup) (y : Int) : (l.filter fun x => !c.contains x).erase y = l.filter fun x => !(c ++ [y]).contains x := by
  rw [List.Nodup.erase_eq_filter (show List.Nodup _ from List.Pairwise.filter _ hn), List.filter_filter]
  refine List.filter_congr fun x _ => ?_
  simp only [List.contains_append, Bool.not_or, List.contains_cons, List.contains_nil, Bool.or_false]
  cases hx : (x == y) <;> cases c.contains x <;> simp [bne, hx]
theorem findSome_map {α β γ : Type} (f : β → γ) (g : α → Option β) : ∀ l : List α, (l.findSome? g).map f = l.findSome? fun x => (g x).map f
  | [] => rfl
  | a :: l => by
    rw [List.findSome?_cons, List.findSome?_cons]
    cases g a with
    | some b => rfl
    | none => exact findSome_map f g l
theorem grow_find {E : Int → Int → Bool} {l : List Int} (hn : l.Nodup) : ∀ (n : Nat) (c : List Int), c ≠ [] → growF E l n c = ((someF n (l.filter fun x => !c.contains x)).find? (extE E (c.headD 0) (c.getLastD 0))).map (c ++ ·)
  | 0, c, hc => by
    unfold growF someF
    rw [List.find?_cons]
    show _ = Option.map (c ++ ·) (match E (c.getLastD 0) (c.headD 0) with | true => some [] | false => [].find? _)
    cases E (c.getLastD 0) (c.headD 0) <;> simp
  | n + 1, c, hc => by
    have e1 : growF E l (n + 1) c = l.findSome? fun t => if c.contains t then none else if E (c.getLastD 0) t then growF E l n (c ++ [t]) else none := rfl
    have e2 : ∀ F : List Int, someF (n + 1) F = F.flatMap fun y => (someF n (F.erase y)).map (y :: ·) := fun _ => rfl
    rw [e1, e2, List.find?_flatMap, findSome_map, findSome_filter]
    refine findSome_congr fun t ht => ?_
    cases hct : c.contains t with
    | true => rfl
    | false =>
      simp only [Bool.false_eq_true, if_false, Bool.not_false, if_true]
      rw [find_mapCons]
      have h2 : (fun p => extE E (c.headD 0) (c.getLastD 0) (t :: p)) = fun p => E (c.getLastD 0) t && extE E (c.headD 0) t p := rfl
      rw [h2]
      cases hE : E (c.getLastD 0) t with
      | false =>
        simp only [Bool.false_and, Bool.false_eq_true, if_false]
        rw [List.find?_eq_none.2 (by simp)]
        rfl
      | true =>
        simp only [Bool.true_and, if_true]
        have ih := grow_find (E := E) hn n (c ++ [t]) (by simp)
        have hh : (c ++ [t]).headD 0 = c.headD 0 := by cases c with | nil => exact absurd rfl hc | cons a r => rfl
        have hl : (c ++ [t]).getLastD 0 = t := by simp [List.getLastD_eq_getLast?]
        rw [ih, hh, hl, filter_erase2 hn]
        cases (someF n (l.filter fun x => !(c ++ [t]).contains x)).find? (extE E (c.headD 0) t) <;> simp
theorem find_cyc {E : Int → Int → Bool} {l : List Int} (hn : l.Nodup) (n : Nat) : l.findSome? (fun t => growF E l n [t]) = (someF (n + 1) l).find? (cycB E) := by
  have e2 : someF (n + 1) l = l.flatMap fun y => (someF n (l.erase y)).map (y :: ·) := rfl
  rw [e2, List.find?_flatMap]
  refine findSome_congr fun t ht => ?_
  rw [grow_find hn n [t] (by simp), find_mapCons]
  have h1 : (l.filter fun x => !([t] : List Int).contains x) = l.erase t := by
    rw [hn.erase_eq_filter]
    refine List.filter_congr fun x _ => ?_
    by_cases h : x = t <;> simp [h]
  rw [h1]
  rfl
theorem someF_len : ∀ (n : Nat) (l p : List Int), p ∈ someF n l → p.length = n ∧ ∀ x, x ∈ p → x ∈ l
  | 0, l, p, h => by
    have : p = [] := by simpa [someF] using h
    subst this; simp
  | n + 1, l, p, h => by
    obtain ⟨y, hy, h⟩ := List.mem_flatMap.1 h
    obtain ⟨q, hq, rfl⟩ := List.mem_map.1 h
    obtain ⟨h1, h2⟩ := someF_len n _ q hq
    refine ⟨by simp [h1], fun x hx => ?_⟩
    rcases List.mem_cons.1 hx with rfl | hx
    · exact hy
    · exact List.mem_of_mem_erase (h2 x hx)
theorem someF_none : ∀ (n : Nat) (l : List Int), l.length < n → someF n l = []
  | 0, l, h => by simp at h
  | n + 1, l, h => by
    show (l.flatMap fun y => (someF n (l.erase y)).map (y :: ·)) = []
    rw [List.flatMap_eq_nil_iff]
    intro y hy
    rw [someF_none n (l.erase y) (by rw [List.length_erase_of_mem hy]; have := List.length_pos_of_mem hy; omega)]
    rfl
theorem sub_suf {α : Type} (p q : List α) : sub (p ++ q) ((p.length : Nat) : Int) ((p ++ q).length : Int) = some q := by
  unfold sub
  have e : (((p ++ q).length : Nat) : Int).toNat = (p ++ q).length := by omega
  rw [if_pos ⟨by omega, by simp only [List.length_append]; omega, by omega⟩, e, List.take_length]
  simp
theorem keq2_iff (x a : arr2_Int) : keq_arr2_Int x a = true ↔ x = a := by
  cases x; cases a
  simp [keq_arr2_Int]
theorem keq2_no {x a : arr2_Int} (h : ¬ x = a) : keq_arr2_Int x a = false := by rw [← Bool.not_eq_true, keq2_iff]; exact h
theorem mget_mset2 {V : Type} (z v : V) (k t : arr2_Int) : ∀ l : List (arr2_Int × V), mget keq_arr2_Int z t (mset keq_arr2_Int k v l) = bif keq_arr2_Int k t then v else mget keq_arr2_Int z t l
  | [] => by
    unfold mset mget mget
    rfl
  | p :: r => by
    have ih := mget_mset2 z v k t r
    unfold mset
    cases hk : keq_arr2_Int p.1 k with
    | true =>
      have hk := (keq2_iff _ _).1 hk
      simp only [cond_true]
      unfold mget
      have e2 : keq_arr2_Int (p.1, v).1 t = keq_arr2_Int p.1 t := rfl
      rw [e2, hk]
      cases keq_arr2_Int k t <;> rfl
    | false =>
      simp only [cond_false]
      unfold mget
      rw [ih]
      cases hp : keq_arr2_Int p.1 t with
      | false => rfl
      | true =>
        have hp := (keq2_iff _ _).1 hp
        have h : keq_arr2_Int k t = false := keq2_no fun e => by
          rw [hp, ← e, (keq2_iff k k).2 rfl] at hk; cases hk
        rw [h]; rfl
theorem mset_len2 {V : Type} (k : arr2_Int) (v : V) : ∀ l : List (arr2_Int × V), (mset keq_arr2_Int k v l).length ≤ l.length + 1
  | [] => by simp [mset]
  | p :: r => by
    have := mset_len2 k v r
    unfold mset
    cases keq_arr2_Int p.1 k <;> simp <;> omega
def partL (h : List rf5Op) : List rf5Op := h.filter fun x => decide (endL x.f_Txn 2 h 0 ≥ 0)
theorem commL_mem {h : List rf5Op} {t : Int} : t ∈ commL h ↔ (1 ≤ t ∧ t ≤ 6) ∧ endL t 2 h 0 ≥ 0 := by
  unfold commL
  rw [List.mem_filter, decide_eq_true_eq]
  refine and_congr_left fun _ => ?_
  simp
  omega
theorem commL_nodup (h : List rf5Op) : (commL h).Nodup := List.Pairwise.filter _ (by decide)
theorem commL_len (h : List rf5Op) : (commL h).length ≤ 6 := Nat.le_trans (List.length_filter_le _ _) (by simp)
theorem ppart_l1 {h : List rf5Op} (K : List hsOp → Option (List hsOp)) : ∀ (r : List rf5Op) (k : Nat) (v : List hsOp), (∀ x, x ∈ r → 1 ≤ x.f_Txn ∧ x.f_Txn ≤ 6) → v.length + r.length ≤ 1000 →
    hs_History_part_l1 (commL h) K (r.map cv) k v = K (v ++ (r.filter fun x => decide (endL x.f_Txn 2 h 0 ≥ 0)).map cv)
  | [], k, v, _, _ => by rw [List.map_nil, hs_History_part_l1.eq_1]; simp
  | x :: r, k, v, hx, hl => by
    have hl : v.length + (r.length + 1) ≤ 1000 := hl
    have ih := fun v' h1 => ppart_l1 (h := h) K r (k + 1) v' (fun y hy => hx y (List.mem_cons_of_mem _ hy)) h1
    rw [List.map_cons, hs_History_part_l1.eq_2]
    unfold hs_History_part_j9
    have hb := hx x (List.mem_cons_self ..)
    have hc : (commL h).contains (cv x).f_Txn = decide (endL x.f_Txn 2 h 0 ≥ 0) := by
      rw [Bool.eq_iff_iff, List.contains_iff_mem, decide_eq_true_eq]
      show x.f_Txn ∈ commL h ↔ _
      rw [commL_mem]
      exact ⟨fun h => h.2, fun h => ⟨hb, h⟩⟩
    rw [contains_val (by have := commL_len h; omega), hc, List.filter_cons]
    simp only [Option.bind_some]
    cases decide (endL x.f_Txn 2 h 0 ≥ 0) with
    | true =>
      simp only [cond_true, if_true]
      rw [capS (by omega) (by simp; omega), chk_true, ih _ (by simp; omega)]
      simp
    | false =>
      simp only [cond_false, Bool.false_eq_true, if_false]
      rw [ih _ (by omega)]
theorem ppart_val {h : List rf5Op} (H : Hist h) : hs_History_part bigFuel (h.map cv) = some ((partL h).map cv) := by
  have := H.len
  unfold hs_History_part
  rw [committed_val H, Option.bind_some, lenOk_of (by simp; omega), chk_true, ppart_l1 _ h 0 [] H.txn (by simpa using this)]
  rfl
theorem rpart_l1 {h : List rf5Op} (hl : lenOk h = true) (K : List rf5Op → Option (List rf5Op)) : ∀ (r : List rf5Op) (k : Nat) (v : List rf5Op), v.length + r.length ≤ 1000 →
    rf5_part_l1 h K r k v = K (v ++ r.filter fun x => decide (endL x.f_Txn 2 h 0 ≥ 0))
  | [], k, v, _ => by rw [rf5_part_l1.eq_1]; simp
  | x :: r, k, v, hv => by
    have hv : v.length + (r.length + 1) ≤ 1000 := hv
    have ih := fun v' h1 => rpart_l1 hl K r (k + 1) v' h1
    rw [rf5_part_l1.eq_2]
    unfold rf5_part_j7
    rw [end_val hl, List.filter_cons]
    simp only [Option.bind_some]
    cases decide (endL x.f_Txn 2 h 0 ≥ 0) with
    | true =>
      simp only [cond_true, if_true]
      rw [capS (by omega) (by simp; omega), chk_true, ih _ (by simp; omega)]
      simp
    | false =>
      simp only [cond_false, Bool.false_eq_true, if_false]
      rw [ih _ (by omega)]
theorem rpart_val {h : List rf5Op} (H : Hist h) : rf5_part h = some (partL h) := by
  have := H.len
  have hl : lenOk h = true := lenOk_of (by omega)
  unfold rf5_part
  rw [hl, chk_true, rpart_l1 hl _ h 0 [] (by simpa using this)]
  rfl
theorem rcomm_step {h : List rf5Op} (hl : lenOk h = true) (K : List Int → Option (List Int)) (m : Nat) (v : List Int) (t t' : Int) (hv : v.length ≤ 10) (h1 : 1 ≤ t) (h2 : t ≤ 6) (ht : t' = t + 1) :
    rf5_committed_l1 h K (m + 1) v t = rf5_committed_l1 h K m (v ++ if endL t 2 h 0 ≥ 0 then [t] else []) t' := by
  subst ht
  rw [rf5_committed_l1.eq_2, decide_eq_true h2, end_val hl]
  unfold rf5_committed_j10
  simp only [cond_true, Option.bind_some]
  rw [wr (by omega) (by omega)]
  by_cases hc : endL t 2 h 0 ≥ 0
  · rw [decide_eq_true hc, if_pos hc, cond_true, capS (by omega) (by simp; omega), chk_true]
  · rw [decide_eq_false hc, if_neg hc, cond_false, List.append_nil]
theorem len_opt (v : List Int) (c : Prop) [Decidable c] (t : Int) (n : Nat) (hv : v.length ≤ n) : (v ++ if c then [t] else []).length ≤ n + 1 := by
  split <;> simp <;> omega
theorem rcomm_val {h : List rf5Op} (H : Hist h) : rf5_committed bigFuel h = some (commL h) := by
  have := H.len
  have hl : lenOk h = true := lenOk_of (by omega)
  unfold rf5_committed
  have e : bigFuel = 36893488147419103225 + 1 + 1 + 1 + 1 + 1 + 1 + 1 := rfl
  have l0 : ([] : List Int).length ≤ 0 := Nat.le_refl _
  have l1 := len_opt _ (endL 1 2 h 0 ≥ 0) 1 0 l0
  have l2 := len_opt _ (endL 2 2 h 0 ≥ 0) 2 1 l1
  have l3 := len_opt _ (endL 3 2 h 0 ≥ 0) 3 2 l2
  have l4 := len_opt _ (endL 4 2 h 0 ≥ 0) 4 3 l3
  have l5 := len_opt _ (endL 5 2 h 0 ≥ 0) 5 4 l4
  rw [e, rcomm_step hl _ _ _ 1 2 (by omega) (by omega) (by omega) rfl, rcomm_step hl _ _ _ 2 3 (by omega) (by omega) (by omega) rfl, rcomm_step hl _ _ _ 3 4 (by omega) (by omega) (by omega) rfl, rcomm_step hl _ _ _ 4 5 (by omega) (by omega) (by omega) rfl, rcomm_step hl _ _ _ 5 6 (by omega) (by omega) (by omega) rfl, rcomm_step hl _ _ _ 6 7 (by omega) (by omega) (by omega) rfl]
  rw [rf5_committed_l1.eq_2, decide_eq_false (by omega), cond_false]
  unfold rf5_committed_j4 commL
  congr 1
  simp only [List.filter_cons, List.filter_nil]
  by_cases c1 : endL 1 2 h 0 ≥ 0 <;> by_cases c2 : endL 2 2 h 0 ≥ 0 <;> by_cases c3 : endL 3 2 h 0 ≥ 0 <;> by_cases c4 : endL 4 2 h 0 ≥ 0 <;> by_cases c5 : endL 5 2 h 0 ≥ 0 <;> by_cases c6 : endL 6 2 h 0 ≥ 0 <;> simp [c1, c2, c3, c4, c5, c6]
def clash (x y : rf5Op) : Bool := (x.f_Txn != y.f_Txn) && ((x.f_Item == y.f_Item) && ((if y.f_Kind > x.f_Kind then y.f_Kind else x.f_Kind) == 1))
def confL : List rf5Op → Int → Int → Bool
  | [], _, _ => false
  | x :: r, a, b => (r.any fun y => clash x y && ((x.f_Txn == a) && (y.f_Txn == b))) || confL r a b
theorem pc_l2 (x : rf5Op) (hx : 1 ≤ x.f_Txn ∧ x.f_Txn ≤ 6) (K : List (arr2_Int × Bool) → Option (List (arr2_Int × Bool))) : ∀ (r : List rf5Op) (k : Nat) (v : List (arr2_Int × Bool)), (∀ y, y ∈ r → 1 ≤ y.f_Txn ∧ y.f_Txn ≤ 6) → v.length + r.length ≤ 10000000 →
    ∃ v', hs_History_conflicts_l2 (cv x) K (r.map cv) k v = K v' ∧ v'.length ≤ v.length + r.length ∧ ∀ a b, edgeB v' a b = (edgeB v a b || r.any fun y => clash x y && ((x.f_Txn == a) && (y.f_Txn == b)))
  | [], k, v, _, _ => ⟨v, by rw [List.map_nil, hs_History_conflicts_l2.eq_1], by simp, fun a b => by simp⟩
  | y :: r, k, v, hy, hl => by
    have hl : v.length + (r.length + 1) ≤ 10000000 := hl
    have hb := hy y (List.mem_cons_self ..)
    have ih := fun v' h1 => pc_l2 x hx K r (k + 1) v' (fun z hz => hy z (List.mem_cons_of_mem _ hz)) h1
    have e : hs_History_conflicts_l2 (cv x) K ((y :: r).map cv) k v = hs_History_conflicts_j14 (cv x) (cv y) v (hs_History_conflicts_j12 (hs_History_conflicts_l2 (cv x) K (r.map cv) (k + 1))) (clash x y) := by
      rw [List.map_cons, hs_History_conflicts_l2.eq_2]
      show (bif (x.f_Txn != y.f_Txn) then (bif (x.f_Item == y.f_Item) then _ else _) else _) = _
      unfold clash
      cases (x.f_Txn != y.f_Txn) <;> cases (x.f_Item == y.f_Item) <;> rfl
    rw [e]
    unfold hs_History_conflicts_j14 hs_History_conflicts_j12
    cases hc : clash x y with
    | false =>
      simp only [cond_false]
      obtain ⟨v', h1, h2, h3⟩ := ih v (by omega)
      refine ⟨v', h1, by simp; omega, fun a b => ?_⟩
      rw [h3, List.any_cons, hc]
      simp
    | true =>
      simp only [cond_true]
      have w1 : wfI .i64 (cv x).f_Txn = true := wf6 (by show -1000 ≤ x.f_Txn; omega) (by show x.f_Txn ≤ 1000; omega)
      have w2 : wfI .i64 (cv y).f_Txn = true := wf6 (by show -1000 ≤ y.f_Txn; omega) (by show y.f_Txn ≤ 1000; omega)
      have w3 : Nat.blt v.length 1000000000 = true := Nat.ble_eq_true_of_le (by omega)
      rw [w1, w2, w3]
      simp only [Bool.and_self, chk_true]
      have hm := mset_len2 (arr2_Int.mk (cv x).f_Txn (cv y).f_Txn) true v
      obtain ⟨v', h1, h2, h3⟩ := ih _ (by omega : (mset keq_arr2_Int (arr2_Int.mk (cv x).f_Txn (cv y).f_Txn) true v).length + r.length ≤ 10000000)
      refine ⟨v', h1, by simp; omega, fun a b => ?_⟩
      rw [h3, List.any_cons, hc, Bool.true_and]
      have e2 : edgeB (mset keq_arr2_Int (arr2_Int.mk (cv x).f_Txn (cv y).f_Txn) true v) a b = (((x.f_Txn == a) && (y.f_Txn == b)) || edgeB v a b) := by
        unfold edgeB
        rw [mget_mset2]
        have : keq_arr2_Int (arr2_Int.mk (cv x).f_Txn (cv y).f_Txn) (arr2_Int.mk a b) = ((x.f_Txn == a) && (y.f_Txn == b)) := by
          show ((x.f_Txn == a) && ((y.f_Txn == b) && true)) = _
          rw [Bool.and_true]
        rw [this]
        cases (x.f_Txn == a) && (y.f_Txn == b) <;> rfl
      rw [e2]
      cases edgeB v a b <;> cases (x.f_Txn == a) && (y.f_Txn == b) <;> simp
theorem pc_l1 {h : List rf5Op} (hh : h.length ≤ 1000) (ht : ∀ x, x ∈ h → 1 ≤ x.f_Txn ∧ x.f_Txn ≤ 6) (K : List (arr2_Int × Bool) → Option (List (arr2_Int × Bool))) : ∀ (r : List rf5Op) (k : Nat) (v : List (arr2_Int × Bool)) (pre : List rf5Op), h = pre ++ r → pre.length = k → v.length + r.length * 1000 ≤ 9000000 →
    ∃ v', hs_History_conflicts_l1 (h.map cv) K (r.map cv) k v = K v' ∧ v'.length ≤ v.length + r.length * 1000 ∧ ∀ a b, edgeB v' a b = (edgeB v a b || confL r a b)
  | [], k, v, pre, _, _, _ => ⟨v, by rw [List.map_nil, hs_History_conflicts_l1.eq_1], by simp, fun a b => by simp [confL]⟩
  | x :: r, k, v, pre, he, hk, hl => by
    have hl : v.length + (r.length + 1) * 1000 ≤ 9000000 := hl
    have hlen : pre.length + (r.length + 1) ≤ 1000 := by rw [he] at hh; simpa using hh
    have hs : sub (h.map cv) ((k + 1 : Nat) : Int) ((h.map cv).length : Int) = some (r.map cv) := by
      have := sub_suf ((pre ++ [x]).map cv) (r.map cv)
      have e : (pre ++ [x]).map cv ++ r.map cv = h.map cv := by rw [he]; simp
      rw [e] at this
      simpa [hk] using this
    rw [List.map_cons, hs_History_conflicts_l1.eq_2, hs, Option.bind_some, lenOk_of (by simp; omega), chk_true]
    obtain ⟨v1, h1, h2, h3⟩ := pc_l2 x (ht x (by rw [he]; simp)) (hs_History_conflicts_j7 (hs_History_conflicts_l1 (h.map cv) K (r.map cv) (k + 1))) r 0 v (fun y hy => ht y (by rw [he]; simp [hy])) (by omega)
    obtain ⟨v2, g1, g2, g3⟩ := pc_l1 hh ht K r (k + 1) v1 (pre ++ [x]) (by rw [he]; simp) (by simp [hk]) (by omega)
    refine ⟨v2, by rw [h1]; exact g1, by simp; omega, fun a b => ?_⟩
    rw [g3, h3]
    show ((_ || _) || _) = (_ || (_ || confL r a b))
    rw [Bool.or_assoc]
theorem pconf_val {h : List rf5Op} (hh : h.length ≤ 1000) (ht : ∀ x, x ∈ h → 1 ≤ x.f_Txn ∧ x.f_Txn ≤ 6) : ∃ es, hs_History_conflicts (h.map cv) = some es ∧ ∀ a b, edgeB es a b = confL h a b := by
  unfold hs_History_conflicts
  rw [lenOk_of (by simp; omega), chk_true]
  obtain ⟨es, h1, _, h3⟩ := pc_l1 hh ht (hs_History_conflicts_j4) h 0 [] [] rfl rfl (by simp; omega)
  exact ⟨es, h1, fun a b => by rw [h3]; simp [edgeB, mget]⟩
def at2 (v : List Bool) (a b : Int) : Bool := v.getD (a.toNat * 7 + b.toNat) false
theorem at2_some {v : List Bool} (hv : v.length = 49) {a b : Int} (ha : 0 ≤ a ∧ a ≤ 6) (hb : 0 ≤ b ∧ b ≤ 6) : v[((0 + Int.toNat a * 7) + Int.toNat b * 1)]? = some (at2 v a b) := by
  have e : (0 + Int.toNat a * 7) + Int.toNat b * 1 = a.toNat * 7 + b.toNat := by omega
  rw [e]
  have hl : a.toNat * 7 + b.toNat < v.length := by omega
  unfold at2
  rw [List.getD_eq_getElem?_getD, List.getElem?_eq_getElem hl]; rfl
theorem at2_set {v : List Bool} (hv : v.length = 49) {a b c d : Int} (ha : 0 ≤ a ∧ a ≤ 6) (hb : 0 ≤ b ∧ b ≤ 6) (hc : 0 ≤ c ∧ c ≤ 6) (hd : 0 ≤ d ∧ d ≤ 6) : at2 (v.set ((0 + Int.toNat c * 7) + Int.toNat d * 1) true) a b = (at2 v a b || ((c == a) && (d == b))) := by
  have e : (0 + Int.toNat c * 7) + Int.toNat d * 1 = c.toNat * 7 + d.toNat := by omega
  rw [e]
  unfold at2
  rw [List.getD_eq_getElem?_getD, List.getD_eq_getElem?_getD, List.getElem?_set]
  by_cases h : c.toNat * 7 + d.toNat = a.toNat * 7 + b.toNat
  · have h1 : c = a := by omega
    have h2 : d = b := by omega
    subst h1; subst h2
    rw [if_pos rfl, if_pos (by omega)]
    simp
  · rw [if_neg h]
    have : ((c == a) && (d == b)) = false := by
      rw [Bool.and_eq_false_iff, beq_eq_false_iff_ne, beq_eq_false_iff_ne]
      by_cases h1 : c = a
      · right; intro h2; subst h1; subst h2; exact h rfl
      · exact .inl h1
    rw [this, Bool.or_false]
theorem confL_snoc (x : rf5Op) (a b : Int) : ∀ pre : List rf5Op, confL (pre ++ [x]) a b = (confL pre a b || pre.any fun p => clash p x && ((p.f_Txn == a) && (x.f_Txn == b)))
  | [] => by simp [confL]
  | p :: pre => by
    show ((pre ++ [x]).any _ || confL (pre ++ [x]) a b) = ((pre.any _ || confL pre a b) || _)
    rw [confL_snoc x a b pre, List.any_append, List.any_cons]
    simp only [List.any_cons, List.any_nil, Bool.or_false]
    generalize pre.any (fun y => clash p y && (p.f_Txn == a && y.f_Txn == b)) = A
    generalize (clash p x && (p.f_Txn == a && x.f_Txn == b)) = B
    generalize confL pre a b = C
    generalize pre.any (fun p => clash p x && (p.f_Txn == a && x.f_Txn == b)) = D
    cases A <;> cases B <;> cases C <;> cases D <;> rfl
theorem rc_l2 (x : rf5Op) (hx : 1 ≤ x.f_Txn ∧ x.f_Txn ≤ 6) (hxk : 0 ≤ x.f_Kind ∧ x.f_Kind ≤ 3) (K : List Bool → Option (List Bool)) : ∀ (e : List rf5Op) (k : Nat) (v : List Bool), (∀ y, y ∈ e → (1 ≤ y.f_Txn ∧ y.f_Txn ≤ 6) ∧ 0 ≤ y.f_Kind ∧ y.f_Kind ≤ 3) → v.length = 49 →
    ∃ v', rf5_conflicts_l2 x K e k v = K v' ∧ v'.length = 49 ∧ ∀ a b, 0 ≤ a ∧ a ≤ 6 → 0 ≤ b ∧ b ≤ 6 → at2 v' a b = (at2 v a b || e.any fun p => clash p x && ((p.f_Txn == a) && (x.f_Txn == b)))
  | [], k, v, _, hv => ⟨v, by rw [rf5_conflicts_l2.eq_1], hv, fun a b _ _ => by simp⟩
  | y :: e, k, v, hy, hv => by
    obtain ⟨hb, hk⟩ := hy y (List.mem_cons_self ..)
    have ih := fun v' h1 => rc_l2 x hx hxk K e (k + 1) v' (fun z hz => hy z (List.mem_cons_of_mem _ hz)) h1
    have e1 : rf5_conflicts_l2 x K (y :: e) k v = rf5_conflicts_j16 x y v (rf5_conflicts_j14 (rf5_conflicts_l2 x K e (k + 1))) (clash y x) := by
      rw [rf5_conflicts_l2.eq_2, wr (by omega) (by omega)]
      unfold clash
      have c1 : (x.f_Item == y.f_Item) = (y.f_Item == x.f_Item) := Bool.beq_comm
      have c2 : (x.f_Txn != y.f_Txn) = (y.f_Txn != x.f_Txn) := by simp only [bne, Bool.beq_comm]
      rw [c1, c2]
      have hkk : ((if x.f_Kind > y.f_Kind then x.f_Kind else y.f_Kind) == 1) = (decide (x.f_Kind < 2) && (decide (y.f_Kind < 2) && decide (x.f_Kind + y.f_Kind > 0))) := by
        have h1 : x.f_Kind = 0 ∨ x.f_Kind = 1 ∨ x.f_Kind = 2 ∨ x.f_Kind = 3 := by omega
        have h2 : y.f_Kind = 0 ∨ y.f_Kind = 1 ∨ y.f_Kind = 2 ∨ y.f_Kind = 3 := by omega
        rcases h1 with h1 | h1 | h1 | h1 <;> rcases h2 with h2 | h2 | h2 | h2 <;> rw [h1, h2] <;> rfl
      rw [hkk]
      cases decide (x.f_Kind < 2) <;> cases decide (y.f_Kind < 2) <;> cases decide (x.f_Kind + y.f_Kind > 0) <;> cases (y.f_Item == x.f_Item) <;> cases (y.f_Txn != x.f_Txn) <;> rfl
    rw [e1]
    unfold rf5_conflicts_j16 rf5_conflicts_j14
    cases hc : clash y x with
    | false =>
      simp only [cond_false]
      obtain ⟨v', h1, h2, h3⟩ := ih v hv
      refine ⟨v', h1, h2, fun a b ha hb' => ?_⟩
      rw [h3 a b ha hb', List.any_cons, hc]
      simp
    | true =>
      simp only [cond_true]
      rw [decide_eq_true (by omega), decide_eq_true (by omega), decide_eq_true (by rw [hv]; omega)]
      simp only [chk_true]
      obtain ⟨v', h1, h2, h3⟩ := ih _ (by rw [List.length_set]; exact hv : (v.set ((0 + Int.toNat y.f_Txn * 7) + Int.toNat x.f_Txn * 1) true).length = 49)
      refine ⟨v', h1, h2, fun a b ha hb' => ?_⟩
      rw [h3 a b ha hb', List.any_cons, hc, Bool.true_and, at2_set hv ha hb' (by omega) (by omega), Bool.or_assoc]
theorem rc_l1 {w : List rf5Op} (hh : w.length ≤ 1000) (ht : ∀ y, y ∈ w → (1 ≤ y.f_Txn ∧ y.f_Txn ≤ 6) ∧ 0 ≤ y.f_Kind ∧ y.f_Kind ≤ 3) (K : List Bool → Option (List Bool)) : ∀ (r : List rf5Op) (k : Nat) (v : List Bool) (pre : List rf5Op), w = pre ++ r → pre.length = k → v.length = 49 → (∀ a b, 0 ≤ a ∧ a ≤ 6 → 0 ≤ b ∧ b ≤ 6 → at2 v a b = confL pre a b) →
    ∃ v', rf5_conflicts_l1 w K r k v = K v' ∧ v'.length = 49 ∧ ∀ a b, 0 ≤ a ∧ a ≤ 6 → 0 ≤ b ∧ b ≤ 6 → at2 v' a b = confL w a b
  | [], k, v, pre, he, hk, hv, hc => ⟨v, by rw [rf5_conflicts_l1.eq_1], hv, fun a b ha hb => by rw [hc a b ha hb, he, List.append_nil]⟩
  | x :: r, k, v, pre, he, hk, hv, hc => by
    have hlen : pre.length + (r.length + 1) ≤ 1000 := by rw [he] at hh; simpa using hh
    have hs : sub w 0 (k : Int) = some pre := by rw [he, ← hk]; exact sub_pre pre _
    rw [rf5_conflicts_l1.eq_2, hs, Option.bind_some, lenOk_of (by omega), chk_true]
    obtain ⟨tx, kx⟩ := ht x (by rw [he]; simp)
    obtain ⟨v1, h1, h2, h3⟩ := rc_l2 x tx kx (rf5_conflicts_j9 (rf5_conflicts_l1 w K r (k + 1))) pre 0 v (fun y hy => ht y (by rw [he]; simp [hy])) hv
    obtain ⟨v2, g1, g2, g3⟩ := rc_l1 hh ht K r (k + 1) v1 (pre ++ [x]) (by rw [he]; simp) (by simp [hk]) h2 (fun a b ha hb => by rw [h3 a b ha hb, hc a b ha hb, confL_snoc])
    exact ⟨v2, by rw [h1]; exact g1, g2, g3⟩
theorem rconf_val {h : List rf5Op} (H : Hist h) : ∃ v, rf5_conflicts h = some v ∧ v.length = 49 ∧ ∀ a b, 0 ≤ a ∧ a ≤ 6 → 0 ≤ b ∧ b ≤ 6 → at2 v a b = confL (partL h) a b := by
  have hl := H.len
  have hp : (partL h).length ≤ 1000 := Nat.le_trans (List.length_filter_le _ _) hl
  unfold rf5_conflicts
  rw [rpart_val H, Option.bind_some, lenOk_of (by omega), chk_true]
  have h0 : ∀ a b, 0 ≤ a ∧ a ≤ 6 → 0 ≤ b ∧ b ≤ 6 → at2 (List.replicate 49 false) a b = confL [] a b := fun a b ha hb => by
    unfold at2
    rw [List.getD_eq_getElem?_getD, List.getElem?_replicate]
    split <;> rfl
  obtain ⟨v, h1, h2, h3⟩ := rc_l1 hp (fun y hy => ⟨H.txn y (List.mem_filter.1 hy).1, H.kind y (List.mem_filter.1 hy).1⟩) rf5_conflicts_j6 (partL h) 0 _ [] rfl rfl (by simp) h0
  refine ⟨v, ?_, h2, h3⟩
  rw [h1]
  unfold rf5_conflicts_j6
  rw [h2]
  simp [chk]
theorem findIdx_find {p : Int → Bool} : ∀ (l : List Int), (l.findIdx? p = none ∧ l.find? p = none) ∨ ∃ k b, l.findIdx? p = some k ∧ l.find? p = some b ∧ l[k]? = some b ∧ (l.Nodup → l.take k ++ l.drop (k + 1) = l.erase b)
  | [] => .inl ⟨rfl, rfl⟩
  | a :: l => by
    rw [List.findIdx?_cons, List.find?_cons]
    cases hp : p a with
    | true => exact .inr ⟨0, a, rfl, rfl, rfl, fun _ => by simp⟩
    | false =>
      rcases findIdx_find (p := p) l with ⟨h1, h2⟩ | ⟨k, b, h1, h2, h3, h4⟩
      · exact .inl ⟨by rw [h1]; rfl, h2⟩
      · refine .inr ⟨k + 1, b, by rw [h1]; rfl, h2, by simpa using h3, fun hn => ?_⟩
        have hb : b ≠ a := fun e => by
          have := List.find?_some h2
          rw [e, hp] at this; cases this
        rw [List.erase_cons_tail (by simpa using fun e => hb e.symm)]
        simp only [List.take_succ_cons, List.drop_succ_cons, List.cons_append]
        rw [h4 (List.nodup_cons.1 hn).2]
theorem indexFunc_l1 {g : Int → Option Bool} {p : Int → Bool} : ∀ (l : List Int) (k : Nat), (∀ x, x ∈ l → g x = some (p x)) → sl_IndexFunc_int_l1 g sl_IndexFunc_int_j4 l k = some (match l.findIdx? p with | some j => ((k + j : Nat) : Int) | none => -1)
  | [], k, _ => by rw [sl_IndexFunc_int_l1.eq_1]; rfl
  | x :: l, k, h => by
    rw [sl_IndexFunc_int_l1.eq_2, h x (by simp), Option.bind_some, List.findIdx?_cons, indexFunc_l1 l (k + 1) fun y hy => h y (by simp [hy])]
    cases p x with
    | true => simp
    | false =>
      simp only [cond_false, Bool.false_eq_true, if_false]
      cases l.findIdx? p with
      | none => rfl
      | some j =>
        show some (((k + 1 + j : Nat)) : Int) = some (((k + (j + 1) : Nat)) : Int)
        congr 1; omega
theorem indexFunc_val {l : List Int} (hl : l.length ≤ 100000) {g : Int → Option Bool} {p : Int → Bool} (h : ∀ x, x ∈ l → g x = some (p x)) : sl_IndexFunc_int l g = some (match l.findIdx? p with | some j => (j : Int) | none => -1) := by
  unfold sl_IndexFunc_int
  rw [lenOk_of (by omega), chk_true, indexFunc_l1 l 0 h]
  cases l.findIdx? p <;> simp
theorem containsFunc_val {l : List Int} (hl : l.length ≤ 100000) {g : Int → Option Bool} {p : Int → Bool} (h : ∀ x, x ∈ l → g x = some (p x)) : sl_ContainsFunc_int l g = some (l.any p) := by
  unfold sl_ContainsFunc_int
  rw [indexFunc_val hl h, Option.bind_some]
  congr 1
  cases hf : l.findIdx? p with
  | none =>
    rw [List.findIdx?_eq_none_iff] at hf
    have : l.any p = false := by rw [List.any_eq_false]; intro x hx; simp [hf x hx]
    rw [this]; rfl
  | some j =>
    have : l.any p = true := by
      rw [List.any_eq_true]
      obtain ⟨hj, h1, _⟩ := List.findIdx?_eq_some_iff_getElem.1 hf
      exact ⟨_, List.getElem_mem hj, h1⟩
    rw [this]
    simp
theorem sorted_1 {es : List (arr2_Int × Bool)} {l : List Int} (hl : l.length ≤ 100000) (hw : ∀ x, x ∈ l → wfI .i64 x = true) (b : Int) (hb : wfI .i64 b = true) : hs_edges_sorted_1 b l es = some (srcB (edgeB es) l b) := by
  unfold hs_edges_sorted_1
  rw [containsFunc_val (p := fun a => edgeB es a b) hl fun x hx => ?_]
  · rfl
  · unfold hs_edges_sorted_1_1
    rw [hw x hx, hb]
    rfl
theorem sorted_l1 {es : List (arr2_Int × Bool)} (K : List Int → Option (List Int × Bool)) : ∀ (n m : Nat) (v out left : List Int), left.length = n → snap 0 n v = left → left.Nodup → (∀ x, x ∈ left → wfI .i64 x = true) → n < m → out.length + n ≤ 1000 →
    hs_edges_sorted_l1 es K m v n out = match topo (edgeB es) n left with | none => some ([], false) | some o => K (out ++ o)
  | 0, m, v, out, left, hl, hs, _, _, hm, _ => by
    obtain ⟨m, rfl⟩ : ∃ m', m = m' + 1 := ⟨m - 1, by omega⟩
    have : left = [] := List.eq_nil_of_length_eq_zero hl
    subst this
    rw [hs_edges_sorted_l1.eq_2, decide_eq_false (by omega)]
    simp [topo]
  | n + 1, m, v, out, left, hl, hs, hn, hw, hm, ho => by
    obtain ⟨m, rfl⟩ : ∃ m', m = m' + 1 := ⟨m - 1, by omega⟩
    rw [hs_edges_sorted_l1.eq_2, decide_eq_true (by omega), cond_true, hs]
    rw [indexFunc_val (p := srcB (edgeB es) left) (by omega) fun x hx => sorted_1 (by omega) hw x (hw x hx), Option.bind_some]
    have ht : topo (edgeB es) (n + 1) left = match left.find? (srcB (edgeB es) left) with | none => none | some b => (topo (edgeB es) n (left.erase b)).map (b :: ·) := by
      cases left with
      | nil => simp at hl
      | cons x r => rfl
    rw [ht]
    rcases findIdx_find (p := srcB (edgeB es) left) left with ⟨h1, h2⟩ | ⟨k, b, h1, h2, h3, h4⟩
    · rw [h1, h2]; rfl
    · rw [h1, h2]
      simp only
      have hk := (List.getElem?_eq_some_iff.1 h3).1
      have hb : b ∈ left := List.mem_of_getElem? h3
      have hvk : v[0 + Int.toNat (k : Int)]? = some b := by
        have := congrArg (fun l => l[k]?) hs
        unfold snap at this
        simp only [List.drop_zero, List.getElem?_take] at this
        rw [if_pos (by omega)] at this
        rw [Nat.zero_add, Int.toNat_natCast, this]; exact h3
      rw [decide_eq_false (by omega), cond_false, decide_eq_true (by omega), chk_true, hvk, Option.bind_some, capS (by omega) (by simp; omega), chk_true, wr (by omega) (by omega)]
      unfold sl_Delete_int
      rw [decide_eq_true ⟨rfl, by omega, by omega, by omega, rfl⟩, chk_true, Option.bind_some, Int.toNat_natCast]
      simp only
      have hle : (left.erase b).length = n := by rw [List.length_erase_of_mem hb]; omega
      have he : left.length - 1 = n := by omega
      rw [he, sorted_l1 K n m _ (out ++ [b]) (left.erase b) hle ?_ (hn.erase b) (fun x hx => hw x (List.mem_of_mem_erase hx)) (by omega) (by simp; omega)]
      · cases topo (edgeB es) n (left.erase b) with
        | none => rfl
        | some o => simp
      · unfold snap
        rw [List.drop_zero, h4 hn]
        have : (left.erase b ++ [0]).take n = (left.erase b).take n := by rw [List.take_append_of_le_length (by omega)]
        rw [this, List.take_of_length_le (by omega)]
theorem sorted_val {es : List (arr2_Int × Bool)} {l : List Int} (hl : l.length ≤ 500) (hn : l.Nodup) (hw : ∀ x, x ∈ l → wfI .i64 x = true) : hs_edges_sorted bigFuel es l = some (match topo (edgeB es) l.length l with | none => ([], false) | some o => (o, true)) := by
  unfold hs_edges_sorted sl_Clone_int_own
  rw [capS (by omega) (by omega), chk_true, Option.bind_some, sorted_l1 _ l.length bigFuel l [] l rfl (by unfold snap; simp) hn hw (by unfold bigFuel; omega) (by simp; omega)]
  cases topo (edgeB es) l.length l <;> rfl
theorem flatMap_len {α β : Type} {f : α → List β} {m : Nat} : ∀ {l : List α}, (∀ x, x ∈ l → (f x).length ≤ m) → (l.flatMap f).length ≤ l.length * m
  | [], _ => by simp
  | a :: l, h => by
    rw [List.flatMap_cons, List.length_append, List.length_cons, Nat.add_mul, Nat.one_mul]
    have := flatMap_len (l := l) fun x hx => h x (by simp [hx])
    have := h a (by simp)
    omega
def facN : Nat → Nat
  | 0 => 1
  | n + 1 => (n + 1) * facN n
theorem perms_len : ∀ (n : Nat) (l : List Int), l.length ≤ n → (permsF n l).length ≤ facN l.length ∧ ∀ p, p ∈ permsF n l → p.length = l.length
  | n, [], _ => by
    have : permsF n [] = [[]] := by cases n <;> rfl
    rw [this]
    exact ⟨Nat.le_refl _, fun p hp => by rw [List.mem_singleton.1 hp]⟩
  | 0, x :: l, h => by simp at h
  | n + 1, x :: l, h => by
    have e : permsF (n + 1) (x :: l) = (x :: l).flatMap fun y => (permsF n ((x :: l).erase y)).map (y :: ·) := rfl
    have hy : ∀ y, y ∈ x :: l → ((x :: l).erase y).length = l.length := fun y hy => by rw [List.length_erase_of_mem hy]; rfl
    have hl : l.length ≤ n := by simpa using h
    refine ⟨?_, fun p hp => ?_⟩
    · rw [e]
      refine Nat.le_trans (flatMap_len (m := facN l.length) fun y hm => ?_) (Nat.le_refl _)
      rw [List.length_map]
      have := (perms_len n ((x :: l).erase y) (by rw [hy y hm]; exact hl)).1
      rw [hy y hm] at this
      exact this
    · rw [e, List.mem_flatMap] at hp
      obtain ⟨y, hm, hp⟩ := hp
      obtain ⟨q, hq, rfl⟩ := List.mem_map.1 hp
      have := (perms_len n ((x :: l).erase y) (by rw [hy y hm]; exact hl)).2 q hq
      rw [hy y hm] at this
      simp [this]
theorem fac_le {n : Nat} (h : n ≤ 6) : facN n ≤ 720 := by
  have : n = 0 ∨ n = 1 ∨ n = 2 ∨ n = 3 ∨ n = 4 ∨ n = 5 ∨ n = 6 := by omega
  rcases this with rfl | rfl | rfl | rfl | rfl | rfl | rfl <;> decide
theorem perms_l2 (x : Int) (K : List (List Int) → Option (List (List Int))) : ∀ (ps : List (List Int)) (k : Nat) (v : List (List Int)), (∀ p, p ∈ ps → p.length ≤ 100) → v.length + ps.length ≤ 90000 → rf5_perms_l2 x K ps k v = K (v ++ ps.map (x :: ·))
  | [], k, v, _, _ => by rw [rf5_perms_l2.eq_1]; simp
  | p :: ps, k, v, hp, hl => by
    have hl : v.length + (ps.length + 1) ≤ 90000 := hl
    have := hp p (by simp)
    rw [rf5_perms_l2.eq_2, capS (by omega) (by simp; omega), chk_true, capS (by omega) (by simp; omega), chk_true, perms_l2 x K ps (k + 1) _ (fun q hq => hp q (by simp [hq])) (by simp; omega)]
    simp
theorem split_at {pre r : List Int} {x : Int} (hn : (pre ++ x :: r).Nodup) : pre ++ r = (pre ++ x :: r).erase x := by
  rw [List.erase_append_right]
  · simp
  · intro h
    have := List.nodup_append.1 hn
    exact this.2.2 x h x (by simp) rfl
theorem perms_l1 {a : List Int} (hn : a.Nodup) (h6 : a.length ≤ 6) (P0 : List Int → List (List Int)) (K0 : List Int → Option (List (List Int))) (hK : ∀ x, x ∈ a → K0 (a.erase x) = some (P0 (a.erase x)) ∧ (P0 (a.erase x)).length ≤ 10000 ∧ ∀ p, p ∈ P0 (a.erase x) → p.length ≤ 50) (K : List (List Int) → Option (List (List Int))) :
    ∀ (r : List Int) (k : Nat) (v : List (List Int)) (pre : List Int), a = pre ++ r → pre.length = k → v.length ≤ k * 10000 → rf5_perms_l1 a K0 K r k v = K (v ++ r.flatMap fun y => (P0 (a.erase y)).map (y :: ·))
  | [], k, v, pre, _, _, _ => by rw [rf5_perms_l1.eq_1]; simp
  | x :: r, k, v, pre, he, hk, hv => by
    have hlen : pre.length + (r.length + 1) ≤ 6 := by rw [he] at h6; simpa using h6
    have h1 : sub a 0 (k : Int) = some pre := by rw [he, ← hk]; exact sub_pre pre _
    have h2 : sub a ((k + 1 : Nat) : Int) (a.length : Int) = some r := by
      have := sub_suf (pre ++ [x]) r
      have e : (pre ++ [x]) ++ r = a := by rw [he]; simp
      rw [e] at this
      simpa [hk] using this
    obtain ⟨k1, k2, k3⟩ := hK x (by rw [he]; simp)
    have h3 : ([] : List Int) ++ pre ++ r = a.erase x := by rw [he, List.nil_append]; exact split_at (he ▸ hn)
    rw [rf5_perms_l1.eq_2, h1, Option.bind_some, capS (by omega) (by simp; omega), chk_true, h2, Option.bind_some, capS (by omega) (by simp; omega), chk_true, h3, k1, Option.bind_some, lenOk_of (by omega), chk_true]
    rw [perms_l2 x _ _ 0 v (fun p hp => by have := k3 p hp; omega) (by omega)]
    unfold rf5_perms_j10
    rw [perms_l1 hn h6 P0 K0 hK K r (k + 1) _ (pre ++ [x]) (by rw [he]; simp) (by simp [hk]) (by simp; omega)]
    simp
theorem perms_val : ∀ (n : Nat) (l : List Int), l.Nodup → l.length ≤ n → l.length ≤ 6 → rf5_perms (n + 1) l = some (permsF n l)
  | n, [], _, _, _ => by
    have : permsF n [] = [[]] := by cases n <;> rfl
    rw [rf5_perms.eq_2, this]
    rfl
  | 0, x :: l, _, h, _ => by simp at h
  | n + 1, x :: l, hn, hl, h6 => by
    have e : permsF (n + 1) (x :: l) = (x :: l).flatMap fun y => (permsF n ((x :: l).erase y)).map (y :: ·) := rfl
    have hy : ∀ y, y ∈ x :: l → ((x :: l).erase y).length = l.length := fun y hy => by rw [List.length_erase_of_mem hy]; rfl
    have hl : l.length ≤ n := by simpa using hl
    have h6' : l.length ≤ 5 := by simpa using h6
    have hz : (((x :: l).length : Int) == 0) = false := by rw [beq_eq_false_iff_ne]; simp; omega
    rw [rf5_perms.eq_2, hz, cond_false, lenOk_of (by omega), chk_true, perms_l1 hn h6 (permsF n) (rf5_perms (n + 1)) (fun y hm => ?_) _ (x :: l) 0 [] [] rfl rfl (by simp), e]
    · rfl
    · have hlen := perms_len n ((x :: l).erase y) (by rw [hy y hm]; exact hl)
      rw [hy y hm] at hlen
      refine ⟨perms_val n _ (hn.erase y) (by rw [hy y hm]; exact hl) (by rw [hy y hm]; omega), ?_, fun p hp => by rw [hlen.2 p hp]; omega⟩
      have := fac_le (n := l.length) (by omega)
      omega
def chkFrom (E : Int → Int → Bool) (pre : List Int) : List Int → Bool
  | [] => true
  | x :: r => (pre.all fun a => !E x a) && chkFrom E (pre ++ [x]) r
theorem chk_agrees {E : Int → Int → Bool} : ∀ (r pre : List Int), agreesB E (pre ++ r) = (agreesB E pre && chkFrom E pre r)
  | [], pre => by simp [chkFrom]
  | x :: r, pre => by
    have h1 : agreesB E (pre ++ [x]) = (agreesB E pre && pre.all fun a => !E x a) := by
      induction pre with
      | nil => simp [agreesB]
      | cons a p ih =>
        show ((p ++ [x]).all (fun c => !E c a) && agreesB E (p ++ [x])) = ((p.all (fun c => !E c a) && agreesB E p) && (!E x a && p.all fun a => !E x a))
        rw [ih, List.all_append]
        simp only [List.all_cons, List.all_nil, Bool.and_true]
        generalize p.all (fun c => !E c a) = A
        generalize E x a = B
        generalize agreesB E p = C
        generalize p.all (fun a => !E x a) = D
        cases A <;> cases B <;> cases C <;> cases D <;> rfl
    have := chk_agrees (E := E) r (pre ++ [x])
    rw [List.append_assoc] at this
    show agreesB E (pre ++ ([x] ++ r)) = (agreesB E pre && ((pre.all fun a => !E x a) && chkFrom E (pre ++ [x]) r))
    rw [this, h1, Bool.and_assoc]
theorem agrees_l2 {w : List Bool} (hw : w.length = 49) (x : Int) (hx : 0 ≤ x ∧ x ≤ 6) (K : Option Bool) : ∀ (e : List Int) (k : Nat), (∀ y, y ∈ e → 0 ≤ y ∧ y ≤ 6) → rf5_agrees_l2 x w K e k = bif e.all (fun a => !at2 w x a) then K else some false
  | [], k, _ => by rw [rf5_agrees_l2.eq_1]; rfl
  | y :: e, k, hy => by
    have hb := hy y (by simp)
    rw [rf5_agrees_l2.eq_2, decide_eq_true (by omega), chk_true, decide_eq_true (by omega), chk_true, at2_some hw hx hb, Option.bind_some, agrees_l2 hw x hx K e (k + 1) fun z hz => hy z (by simp [hz]), List.all_cons]
    cases at2 w x y <;> rfl
theorem agrees_l1 {w : List Bool} (hw : w.length = 49) {p : List Int} (hl : p.length ≤ 100) (hp : ∀ y, y ∈ p → 0 ≤ y ∧ y ≤ 6) (K : Option Bool) : ∀ (r : List Int) (k : Nat) (pre : List Int), p = pre ++ r → pre.length = k → rf5_agrees_l1 p w K r k = bif chkFrom (at2 w) pre r then K else some false
  | [], k, pre, _, _ => by rw [rf5_agrees_l1.eq_1]; rfl
  | x :: r, k, pre, he, hk => by
    have hlen : pre.length + (r.length + 1) ≤ 100 := by rw [he] at hl; simpa using hl
    have h1 : sub p 0 (k : Int) = some pre := by rw [he, ← hk]; exact sub_pre pre _
    rw [rf5_agrees_l1.eq_2, h1, Option.bind_some, lenOk_of (by omega), chk_true, agrees_l2 hw x (hp x (by rw [he]; simp)) _ pre 0 fun y hy => hp y (by rw [he]; simp [hy])]
    unfold rf5_agrees_j7
    rw [agrees_l1 hw hl hp K r (k + 1) (pre ++ [x]) (by rw [he]; simp) (by simp [hk])]
    show _ = bif ((pre.all fun a => !at2 w x a) && chkFrom (at2 w) (pre ++ [x]) r) then K else some false
    cases pre.all (fun a => !at2 w x a) <;> rfl
theorem ragrees_val {w : List Bool} (hw : w.length = 49) {p : List Int} (hl : p.length ≤ 100) (hp : ∀ y, y ∈ p → 0 ≤ y ∧ y ≤ 6) : rf5_agrees p w = some (agreesB (at2 w) p) := by
  unfold rf5_agrees
  have hne : (!w.isEmpty) = true := by cases w with | nil => simp at hw | cons => rfl
  rw [hne, chk_true, lenOk_of (by omega), chk_true, agrees_l1 hw hl hp _ p 0 [] rfl rfl]
  have := chk_agrees (E := at2 w) p []
  rw [List.nil_append] at this
  rw [this]
  show _ = some (true && chkFrom (at2 w) [] p)
  rw [Bool.true_and]
  cases chkFrom (at2 w) [] p <;> rfl
theorem first_l1 {w : List Bool} (hw : w.length = 49) (K : Option (List Int × Bool)) : ∀ (ps : List (List Int)) (k : Nat), (∀ p, p ∈ ps → p.length ≤ 100 ∧ ∀ y, y ∈ p → 0 ≤ y ∧ y ≤ 6) → rf5_first_l1 w K ps k = match ps.find? (agreesB (at2 w)) with | some p => some (p, true) | none => K
  | [], k, _ => by rw [rf5_first_l1.eq_1]; rfl
  | p :: ps, k, hp => by
    obtain ⟨h1, h2⟩ := hp p (by simp)
    rw [rf5_first_l1.eq_2, hw, decide_eq_true rfl, chk_true, ragrees_val hw h1 h2, Option.bind_some, first_l1 hw K ps (k + 1) fun q hq => hp q (by simp [hq]), List.find?_cons]
    cases agreesB (at2 w) p <;> rfl
theorem agrees_congr {E F : Int → Int → Bool} : ∀ {p : List Int}, (∀ a b, a ∈ p → b ∈ p → E a b = F a b) → agreesB E p = agreesB F p
  | [], _ => rfl
  | b :: r, h => by
    show ((r.all fun c => !E c b) && agreesB E r) = ((r.all fun c => !F c b) && agreesB F r)
    rw [agrees_congr (p := r) fun x y hx hy => h x y (by simp [hx]) (by simp [hy])]
    congr 1
    rw [Bool.eq_iff_iff, List.all_eq_true, List.all_eq_true]
    exact ⟨fun g c hc => by rw [← h c b (by simp [hc]) (by simp)]; exact g c hc, fun g c hc => by rw [h c b (by simp [hc]) (by simp)]; exact g c hc⟩
theorem first_val {w : List Bool} (hw : w.length = 49) {l : List Int} (hn : l.Nodup) (h6 : l.length ≤ 6) (hl : ∀ x, x ∈ l → 0 ≤ x ∧ x ≤ 6) {E : Int → Int → Bool} (hE : ∀ a b, a ∈ l → b ∈ l → at2 w a b = E a b) (hi : ∀ x, E x x = false) :
    rf5_first bigFuel l w = some (match topo E l.length l with | some p => (p, true) | none => ([], false)) := by
  unfold rf5_first
  have hne : (!w.isEmpty) = true := by cases w with | nil => simp at hw | cons => rfl
  have e : bigFuel = 36893488147419103231 + 1 := rfl
  have hlen := perms_len 36893488147419103231 l (by omega)
  have hpm : ∀ p, p ∈ permsF 36893488147419103231 l ↔ p.Perm l := perm_mem hn (by omega)
  rw [hne, chk_true, e, perms_val _ l hn (by omega) h6, Option.bind_some, lenOk_of (by have := fac_le h6; omega), chk_true, first_l1 hw _ _ 0 (fun p hp => ⟨by rw [hlen.2 p hp]; omega, fun y hy => hl y (((hpm p).1 hp).mem_iff.1 hy)⟩)]
  have h1 : (permsF 36893488147419103231 l).find? (agreesB (at2 w)) = (permsF 36893488147419103231 l).find? (agreesB E) := find_congr fun p hp => agrees_congr fun a b ha hb => hE a b (((hpm p).1 hp).mem_iff.1 ha) (((hpm p).1 hp).mem_iff.1 hb)
  have h2 : topo E 36893488147419103231 l = topo E l.length l := by
    have topo_fuel : ∀ (n : Nat) (l : List Int), l.length ≤ n → topo E n l = topo E l.length l := by
      intro n
      induction n with
      | zero => intro l h; cases l with | nil => rfl | cons => simp at h
      | succ n ih =>
        intro l h
        cases l with
        | nil => rfl
        | cons x r =>
          show (match (x :: r).find? (srcB E (x :: r)) with | none => none | some b => (topo E n ((x :: r).erase b)).map (b :: ·)) = (match (x :: r).find? (srcB E (x :: r)) with | none => none | some b => (topo E r.length ((x :: r).erase b)).map (b :: ·))
          cases hf : (x :: r).find? (srcB E (x :: r)) with
          | none => rfl
          | some b =>
            have hb := List.mem_of_find?_eq_some hf
            have hle : ((x :: r).erase b).length = r.length := by rw [List.length_erase_of_mem hb]; rfl
            simp only
            rw [ih _ (by rw [hle]; simpa using h), hle]
    exact topo_fuel _ l (by omega)
  rw [h1, find_topo hi hn (by omega), h2]
  cases topo E l.length l <;> rfl
theorem some_lens : ∀ (n : Nat) (l : List Int), l.length ≤ 6 → (someF n l).length ≤ 6 ^ n
  | 0, l, _ => Nat.le_refl _
  | n + 1, l, h => by
    show (l.flatMap fun y => (someF n (l.erase y)).map (y :: ·)).length ≤ _
    refine Nat.le_trans (flatMap_len (m := 6 ^ n) fun y hy => ?_) ?_
    · rw [List.length_map]
      exact some_lens n _ (Nat.le_trans (List.length_erase_le ..) h)
    · rw [Nat.pow_succ, Nat.mul_comm]
      exact Nat.mul_le_mul_left _ h
theorem some_l2 (x : Int) (K : List (List Int) → Option (List (List Int))) : ∀ (ps : List (List Int)) (k : Nat) (v : List (List Int)), (∀ p, p ∈ ps → p.length ≤ 100) → v.length + ps.length ≤ 90000 → rf5_some_l2 x K ps k v = K (v ++ ps.map (x :: ·))
  | [], k, v, _, _ => by rw [rf5_some_l2.eq_1]; simp
  | p :: ps, k, v, hp, hl => by
    have hl : v.length + (ps.length + 1) ≤ 90000 := hl
    have := hp p (by simp)
    rw [rf5_some_l2.eq_2, capS (by omega) (by simp; omega), chk_true, capS (by omega) (by simp; omega), chk_true, some_l2 x K ps (k + 1) _ (fun q hq => hp q (by simp [hq])) (by simp; omega)]
    simp
theorem some_l1 {a : List Int} (hn : a.Nodup) (h6 : a.length ≤ 6) (a2 : Int) (h2 : 1 ≤ a2 ∧ a2 ≤ 100) (P0 : List Int → List (List Int)) (K0 : List Int → Int → Option (List (List Int))) (hK : ∀ x, x ∈ a → K0 (a.erase x) (a2 - 1) = some (P0 (a.erase x)) ∧ (P0 (a.erase x)).length ≤ 7776 ∧ ∀ p, p ∈ P0 (a.erase x) → p.length ≤ 50) (K : List (List Int) → Option (List (List Int))) :
    ∀ (r : List Int) (k : Nat) (v : List (List Int)) (pre : List Int), a = pre ++ r → pre.length = k → v.length ≤ k * 7776 → rf5_some_l1 a a2 K0 K r k v = K (v ++ r.flatMap fun y => (P0 (a.erase y)).map (y :: ·))
  | [], k, v, pre, _, _, _ => by rw [rf5_some_l1.eq_1]; simp
  | x :: r, k, v, pre, he, hk, hv => by
    have hlen : pre.length + (r.length + 1) ≤ 6 := by rw [he] at h6; simpa using h6
    have h1 : sub a 0 (k : Int) = some pre := by rw [he, ← hk]; exact sub_pre pre _
    have h2' : sub a ((k + 1 : Nat) : Int) (a.length : Int) = some r := by
      have := sub_suf (pre ++ [x]) r
      have e : (pre ++ [x]) ++ r = a := by rw [he]; simp
      rw [e] at this
      simpa [hk] using this
    obtain ⟨k1, k2, k3⟩ := hK x (by rw [he]; simp)
    have h3 : ([] : List Int) ++ pre ++ r = a.erase x := by rw [he, List.nil_append]; exact split_at (he ▸ hn)
    rw [rf5_some_l1.eq_2, h1, Option.bind_some, capS (by omega) (by simp; omega), chk_true, h2', Option.bind_some, capS (by omega) (by simp; omega), chk_true, h3, wr (by omega) (by omega), k1, Option.bind_some, lenOk_of (by omega), chk_true]
    rw [some_l2 x _ _ 0 v (fun p hp => by have := k3 p hp; omega) (by omega)]
    unfold rf5_some_j11
    rw [some_l1 hn h6 a2 h2 P0 K0 hK K r (k + 1) _ (pre ++ [x]) (by rw [he]; simp) (by simp [hk]) (by simp; omega)]
    simp
theorem rsome_val : ∀ (n m : Nat) (l : List Int), n ≤ 6 → n ≤ m → l.Nodup → l.length ≤ 6 → rf5_some (m + 1) l (n : Int) = some (someF n l)
  | 0, m, l, _, _, _, _ => by
    rw [rf5_some.eq_2]
    rfl
  | n + 1, m, l, h1, hm, hn, h6 => by
    obtain ⟨m, rfl⟩ : ∃ m', m = m' + 1 := ⟨m - 1, by omega⟩
    have hz : (((n + 1 : Nat) : Int) == 0) = false := by rw [beq_eq_false_iff_ne]; omega
    rw [rf5_some.eq_2, hz, cond_false, lenOk_of (by omega), chk_true, some_l1 hn h6 _ (by omega) (someF n) (rf5_some (m + 1)) (fun y hy => ?_) _ l 0 [] [] rfl rfl (by simp)]
    · rfl
    · have hle : (l.erase y).length ≤ 6 := Nat.le_trans (List.length_erase_le ..) h6
      have e : ((n + 1 : Nat) : Int) - 1 = (n : Int) := by omega
      refine ⟨by rw [e]; exact rsome_val n m _ (by omega) (by omega) (hn.erase y) hle, ?_, fun p hp => ?_⟩
      · refine Nat.le_trans (some_lens n _ hle) ?_
        have : n = 0 ∨ n = 1 ∨ n = 2 ∨ n = 3 ∨ n = 4 ∨ n = 5 := by omega
        rcases this with rfl | rfl | rfl | rfl | rfl | rfl <;> decide
      · rw [(someF_len n _ p hp).1]; omega
theorem cyc_l3 {w : List Bool} (hw : w.length = 49) {p : List Int} {h : Int} (hp : p[0]? = some h) (hl : p.length ≤ 100) (hb : ∀ y, y ∈ p → 0 ≤ y ∧ y ≤ 6) (K : Bool → Option (List Int × Int)) : ∀ (r : List Int) (k : Nat) (v : Bool) (pre : List Int), p = pre ++ r → pre.length = k →
    rf5_Cycle_l3 p w (p.length : Int) K r k v = K (match r with | [] => v | x :: r' => v && extE (at2 w) h x r')
  | [], k, v, pre, _, _ => by rw [rf5_Cycle_l3.eq_1]
  | x :: r, k, v, pre, he, hk => by
    have hlen : p.length = pre.length + (r.length + 1) := by rw [he]; simp
    have ih := fun v' => cyc_l3 hw hp hl hb K r (k + 1) v' (pre ++ [x]) (by rw [he]; simp) (by simp [hk])
    have hx := hb x (by rw [he]; simp)
    have hpm : h ∈ p := List.mem_of_getElem? hp
    have hh := hb h hpm
    rw [rf5_Cycle_l3.eq_2]
    cases v with
    | false =>
      unfold rf5_Cycle_j21
      rw [cond_false, ih]
      cases r <;> rfl
    | true =>
      rw [cond_true, decide_eq_true (by omega), chk_true]
      cases r with
      | nil =>
        have e1 : (((k + 1 : Nat) : Int)).tmod (p.length : Int) = 0 := by
          have : ((k + 1 : Nat) : Int) = (p.length : Int) := by simp at hlen; omega
          rw [this]; exact Int.tmod_self
        have e2 : idx p 0 = some h := by unfold idx; rw [if_pos (by omega)]; exact hp
        rw [e1, e2, Option.bind_some, decide_eq_true (by omega), chk_true, decide_eq_true (by omega), chk_true, at2_some hw hx hh, Option.bind_some]
        unfold rf5_Cycle_j21
        rw [ih]
        rfl
      | cons y r =>
        have hy := hb y (by rw [he]; simp)
        have e1 : (((k + 1 : Nat) : Int)).tmod (p.length : Int) = ((k + 1 : Nat) : Int) := Int.tmod_eq_of_lt (by omega) (by simp at hlen; omega)
        have e2 : idx p ((k + 1 : Nat) : Int) = some y := idx_at (by rw [he, ← hk]; simp)
        rw [e1, e2, Option.bind_some, decide_eq_true (by omega), chk_true, decide_eq_true (by omega), chk_true, at2_some hw hx hy, Option.bind_some]
        unfold rf5_Cycle_j21
        rw [ih]
        rfl
theorem ext_congr {E F : Int → Int → Bool} {S : List Int} (hS : ∀ a b, a ∈ S → b ∈ S → E a b = F a b) {h : Int} (hh : h ∈ S) : ∀ (q : List Int) (a : Int), a ∈ S → (∀ x, x ∈ q → x ∈ S) → extE E h a q = extE F h a q
  | [], a, ha, _ => hS a h ha hh
  | t :: q, a, ha, hq => by
    show (E a t && extE E h t q) = (F a t && extE F h t q)
    rw [hS a t ha (hq t (by simp)), ext_congr hS hh q t (hq t (by simp)) fun x hx => hq x (by simp [hx])]
theorem cyc_l2 {w : List Bool} (hw : w.length = 49) {E : Int → Int → Bool} {l : List Int} (hl : ∀ x, x ∈ l → 0 ≤ x ∧ x ≤ 6) (hE : ∀ a b, a ∈ l → b ∈ l → at2 w a b = E a b) {n : Nat} (hn : 1 ≤ n ∧ n ≤ 100) (K : Option (List Int × Int)) : ∀ (ps : List (List Int)) (k : Nat), (∀ p, p ∈ ps → p.length = n ∧ ∀ x, x ∈ p → x ∈ l) →
    rf5_Cycle_l2 w (n : Int) K ps k = match ps.find? (cycB E) with | some p => some (p, 0) | none => K
  | [], k, _ => by rw [rf5_Cycle_l2.eq_1]; rfl
  | p :: ps, k, hp => by
    obtain ⟨h1, h2⟩ := hp p (by simp)
    cases p with
    | nil => simp at h1; omega
    | cons t q =>
      have h3 := cyc_l3 hw (p := t :: q) (h := t) rfl (by omega) (fun y hy => hl y (h2 y hy)) (rf5_Cycle_j18 (t :: q) (rf5_Cycle_l2 w (n : Int) K ps (k + 1))) (t :: q) 0 true [] rfl rfl
      have h4 := ext_congr hE (h2 t (by simp)) q t (h2 t (by simp)) fun x hx => h2 x (by simp [hx])
      rw [h1] at h3
      rw [rf5_Cycle_l2.eq_2, lenOk_of (by omega), chk_true, h3, List.find?_cons, cyc_l2 hw hl hE hn K ps (k + 1) fun q hq => hp q (by simp [hq])]
      unfold rf5_Cycle_j18
      simp only [Bool.true_and]
      have e : cycB E (t :: q) = extE (at2 w) t t q := h4.symm
      rw [e]
      cases extE (at2 w) t t q <;> rfl
theorem cyc_step {h : List rf5Op} (H : Hist h) {w : List Bool} (hw : w.length = 49) {E : Int → Int → Bool} (hE : ∀ a b, a ∈ commL h → b ∈ commL h → at2 w a b = E a b) (K : Option (List Int × Int)) (m n : Nat) (hn : 1 ≤ n ∧ n ≤ 6) :
    rf5_Cycle_l1 bigFuel h w K (m + 1) (n : Int) = match (someF n (commL h)).find? (cycB E) with | some p => some (p, 0) | none => rf5_Cycle_l1 bigFuel h w K m ((n + 1 : Nat) : Int) := by
  have hl : ∀ x, x ∈ commL h → 0 ≤ x ∧ x ≤ 6 := fun x hx => by have := (commL_mem.1 hx).1; omega
  have e : bigFuel = 36893488147419103231 + 1 := rfl
  have hln := some_lens n (commL h) (commL_len h)
  have h7 : 6 ^ n ≤ 46656 := by
    have : n = 1 ∨ n = 2 ∨ n = 3 ∨ n = 4 ∨ n = 5 ∨ n = 6 := by omega
    rcases this with rfl | rfl | rfl | rfl | rfl | rfl <;> decide
  rw [rf5_Cycle_l1.eq_2, decide_eq_true (by omega), cond_true, rcomm_val H, Option.bind_some]
  have hs : rf5_some bigFuel (commL h) (n : Int) = some (someF n (commL h)) := by
    rw [e]; exact rsome_val n _ _ hn.2 (by omega) (commL_nodup h) (commL_len h)
  rw [hs, Option.bind_some, lenOk_of (by omega), chk_true, cyc_l2 hw hl hE ⟨hn.1, by omega⟩ _ _ 0 (fun p hp => someF_len n _ p hp)]
  unfold rf5_Cycle_j11
  rw [wr (by omega) (by omega)]
  rfl
theorem rcycle_val {h : List rf5Op} (H : Hist h) : rf5_Cycle bigFuel h = some (match cycFind (confL (partL h)) (commL h) with | some c => (c, 0) | none => ([], 5)) := by
  obtain ⟨w, h1, h2, h3⟩ := rconf_val H
  have hE : ∀ a b, a ∈ commL h → b ∈ commL h → at2 w a b = confL (partL h) a b := fun a b ha hb => h3 a b (by have := (commL_mem.1 ha).1; omega) (by have := (commL_mem.1 hb).1; omega)
  unfold rf5_Cycle
  rw [h1, Option.bind_some, h2, decide_eq_true (by simp), chk_true]
  have e : bigFuel = 36893488147419103226 + 1 + 1 + 1 + 1 + 1 + 1 := rfl
  have st := fun m n hn => cyc_step H h2 hE rf5_Cycle_j6 m n hn
  have s2 := st (36893488147419103226 + 1 + 1 + 1 + 1 + 1) 2 (by omega)
  have s3 := st (36893488147419103226 + 1 + 1 + 1 + 1) 3 (by omega)
  have s4 := st (36893488147419103226 + 1 + 1 + 1) 4 (by omega)
  have s5 := st (36893488147419103226 + 1 + 1) 5 (by omega)
  have s6 := st (36893488147419103226 + 1) 6 (by omega)
  have s7 : rf5_Cycle_l1 bigFuel h w rf5_Cycle_j6 (36893488147419103226 + 1) ((6 + 1 : Nat) : Int) = some ([], 5) := by
    rw [rf5_Cycle_l1.eq_2, decide_eq_false (by omega)]
    rfl
  have hfind : cycFind (confL (partL h)) (commL h) = ([2, 3, 4, 5, 6] : List Nat).findSome? fun k => (someF k (commL h)).find? (cycB (confL (partL h))) := by
    unfold cycFind
    have hf : ∀ k : Nat, 2 ≤ k → (if k < 2 then none else (commL h).findSome? fun t => growF (confL (partL h)) (commL h) (k - 1) [t]) = (someF k (commL h)).find? (cycB (confL (partL h))) := fun k hk => by
      rw [if_neg (by omega), find_cyc (commL_nodup h)]
      have : k - 1 + 1 = k := by omega
      rw [this]
    have hno : ∀ k : Nat, (commL h).length < k → (someF k (commL h)).find? (cycB (confL (partL h))) = none := fun k hk => by rw [someF_none k _ hk]; rfl
    have hl := commL_len h
    generalize hn : (commL h).length = n at hl hno ⊢
    have f0 : (if 0 < 2 then none else (commL h).findSome? fun t => growF (confL (partL h)) (commL h) (0 - 1) [t]) = none := rfl
    have f1 : (if 1 < 2 then none else (commL h).findSome? fun t => growF (confL (partL h)) (commL h) (1 - 1) [t]) = none := rfl
    have hext : ∀ m : Nat, n ≤ m → (List.range (m + 1)).findSome? (fun long => if long < 2 then none else (commL h).findSome? fun t => growF (confL (partL h)) (commL h) (long - 1) [t]) = (List.range (n + 1)).findSome? (fun long => if long < 2 then none else (commL h).findSome? fun t => growF (confL (partL h)) (commL h) (long - 1) [t]) := by
      intro m hm
      induction m with
      | zero => have : n = 0 := by omega
                subst this; rfl
      | succ m ih =>
        rcases Nat.lt_or_ge m n with h1 | h1
        · have : m + 1 = n := by omega
          rw [this]
        · rw [List.range_succ, List.findSome?_append, ih h1]
          have : ([m + 1] : List Nat).findSome? (fun long => if long < 2 then none else (commL h).findSome? fun t => growF (confL (partL h)) (commL h) (long - 1) [t]) = none := by
            rw [List.findSome?_cons]
            by_cases h2 : m + 1 < 2
            · rw [if_pos h2]; rfl
            · have := hf (m + 1) (by omega)
              rw [this, hno (m + 1) (by omega)]; rfl
          rw [this]
          cases (List.range (n + 1)).findSome? _ <;> rfl
    rw [← hext 6 hl]
    have er : List.range (6 + 1) = [0, 1, 2, 3, 4, 5, 6] := rfl
    rw [er, List.findSome?_cons, f0, List.findSome?_cons, f1]
    refine findSome_congr fun k hk => hf k ?_
    simp at hk
    omega
  rw [hfind]
  have eb : rf5_Cycle_l1 bigFuel h w rf5_Cycle_j6 bigFuel 2 = rf5_Cycle_l1 bigFuel h w rf5_Cycle_j6 (36893488147419103226 + 1 + 1 + 1 + 1 + 1 + 1) ((2 : Nat) : Int) := rfl
  rw [eb, s2, s3, s4, s5, s6, s7]
  simp only [List.findSome?_cons, List.findSome?_nil]
  cases (someF 2 (commL h)).find? (cycB (confL (partL h))) <;> cases (someF 3 (commL h)).find? (cycB (confL (partL h))) <;> cases (someF 4 (commL h)).find? (cycB (confL (partL h))) <;> cases (someF 5 (commL h)).find? (cycB (confL (partL h))) <;> cases (someF 6 (commL h)).find? (cycB (confL (partL h))) <;> rfl
theorem confL_irr (a : Int) : ∀ l : List rf5Op, confL l a a = false
  | [] => rfl
  | x :: r => by
    show (r.any _ || confL r a a) = false
    rw [confL_irr a r, Bool.or_false, List.any_eq_false]
    intro y hy
    unfold clash
    by_cases h1 : x.f_Txn = a
    · by_cases h2 : y.f_Txn = a
      · simp [h1, h2]
      · simp [h2]
    · simp [h1]
def orderR (h : List rf5Op) : List Int × Int := if validB h then (match topo (confL (partL h)) (commL h).length (commL h) with | some o => (o, 0) | none => ([], 8)) else ([], 2)
def cycleR (h : List rf5Op) : List Int × Int := if validB h then (match cycFind (confL (partL h)) (commL h) with | some c => (c, 0) | none => ([], 5)) else ([], 2)
theorem comm_wf {h : List rf5Op} : ∀ x, x ∈ commL h → wfI .i64 x = true := fun x hx => wf6 (by have := (commL_mem.1 hx).1; omega) (by have := (commL_mem.1 hx).1; omega)
theorem part_hist {h : List rf5Op} (H : Hist h) : (partL h).length ≤ 1000 ∧ ∀ x, x ∈ partL h → 1 ≤ x.f_Txn ∧ x.f_Txn ≤ 6 :=
  ⟨Nat.le_trans (List.length_filter_le _ _) H.len, fun x hx => H.txn x (List.mem_filter.1 hx).1⟩
theorem order_any (h : List rf5Op) : hs_Order bigFuel ((h.take 43).map cv) = some (orderR h) := by
  unfold hs_Order orderR
  rw [valid_same, Option.bind_some]
  cases hv : validB h with
  | false => rfl
  | true =>
    obtain ⟨H, hlen⟩ := hist_of hv
    have : h.take 43 = h := List.take_of_length_le (by omega)
    obtain ⟨es, h1, h2⟩ := pconf_val (part_hist H).1 (part_hist H).2
    have hE : edgeB es = confL (partL h) := funext fun a => funext fun b => h2 a b
    rw [this, Bool.not_true, cond_false, ppart_val H, Option.bind_some, h1, Option.bind_some, committed_val H, Option.bind_some, sorted_val (by have := commL_len h; omega) (commL_nodup h) comm_wf, hE, Option.bind_some]
    simp only [if_true]
    cases topo (confL (partL h)) (commL h).length (commL h) <;> rfl
theorem cycle_any (h : List rf5Op) : hs_Cycle bigFuel ((h.take 43).map cv) = some (cycleR h) := by
  unfold hs_Cycle cycP cycleR
  rw [valid_same, Option.bind_some]
  cases hv : validB h with
  | false => rfl
  | true =>
    obtain ⟨H, hlen⟩ := hist_of hv
    have : h.take 43 = h := List.take_of_length_le (by omega)
    obtain ⟨es, h1, h2⟩ := pconf_val (part_hist H).1 (part_hist H).2
    have hE : edgeB es = confL (partL h) := funext fun a => funext fun b => h2 a b
    have hck : (decide ((commL h).length ≤ 999) && (commL h).all (wfI .i64)) = true := by
      rw [Bool.and_eq_true, decide_eq_true_eq, List.all_eq_true]
      exact ⟨by have := commL_len h; omega, comm_wf⟩
    rw [this, cond_true, ppart_val H, Option.bind_some, h1, Option.bind_some, committed_val H, Option.bind_some, hck, chk_true, hE]
    rfl
theorem rorder_val {h : List rf5Op} (H : Hist h) : rf5_Order bigFuel h = some (match topo (confL (partL h)) (commL h).length (commL h) with | some o => (o, 0) | none => ([], 8)) := by
  obtain ⟨w, h1, h2, h3⟩ := rconf_val H
  have hb : ∀ x, x ∈ commL h → 0 ≤ x ∧ x ≤ 6 := fun x hx => by have := (commL_mem.1 hx).1; omega
  unfold rf5_Order
  rw [rcomm_val H, Option.bind_some, h1, Option.bind_some, first_val h2 (commL_nodup h) (commL_len h) hb (fun a b ha hb' => h3 a b (hb a ha) (hb b hb')) (fun x => confL_irr x _), Option.bind_some]
  cases topo (confL (partL h)) (commL h).length (commL h) <;> rfl
theorem topo_mem {E : Int → Int → Bool} : ∀ (n : Nat) (l o : List Int), topo E n l = some o → o.length ≤ n + l.length
  | n, [], o, h => by cases n <;> (cases h; simp)
  | 0, x :: l, o, h => by cases h
  | n + 1, x :: l, o, h => by
    have e2 : topo E (n + 1) (x :: l) = match (x :: l).find? (srcB E (x :: l)) with | none => none | some b => (topo E n ((x :: l).erase b)).map (b :: ·) := rfl
    rw [e2] at h
    cases hf : (x :: l).find? (srcB E (x :: l)) with
    | none => rw [hf] at h; cases h
    | some b =>
      rw [hf] at h
      obtain ⟨q, hq, rfl⟩ := Option.map_eq_some_iff.1 h
      have := topo_mem n _ q hq
      have hle := List.length_erase_le (a := b) (l := x :: l)
      simp at hle ⊢
      omega
theorem cycFind_len {E : Int → Int → Bool} {l c : List Int} (hn : l.Nodup) (h : cycFind E l = some c) : c.length ≤ l.length := by
  unfold cycFind at h
  obtain ⟨k, hk, h⟩ := List.exists_of_findSome?_eq_some h
  have hk := List.mem_range.1 hk
  split at h
  · cases h
  · rw [find_cyc hn] at h
    have := (someF_len _ _ c (List.mem_of_find?_eq_some h)).1
    omega
theorem order_len (h : List rf5Op) : (orderR h).1.length ≤ 100 := by
  unfold orderR
  split
  · split
    · rename_i o ho
      have := topo_mem _ _ _ ho
      have := commL_len h
      simp only
      omega
    · simp
  · simp
theorem cycle_len (h : List rf5Op) : (cycleR h).1.length ≤ 100 := by
  unfold cycleR
  split
  · split
    · rename_i o ho
      have := cycFind_len (commL_nodup h) ho
      have := commL_len h
      simp only
      omega
    · simp
  · simp
theorem historyOrders_true {h : List rf5Op} (hl : lenOk h = true) : lw5_HistoryOrders bigFuel h = some true := by
  unfold lw5_HistoryOrders
  rw [of_val hl, Option.bind_some, order_any, Option.bind_some, Option.bind_some, cycle_any, Option.bind_some, rvalid_val hl, Option.bind_some]
  have h1 := order_len h
  have h2 := cycle_len h
  cases hv : validB h with
  | false =>
    have e1 : orderR h = ([], 2) := by unfold orderR; rw [hv]; rfl
    have e2 : cycleR h = ([], 2) := by unfold cycleR; rw [hv]; rfl
    rw [e1, e2, awake_val]
    rfl
  | true =>
    obtain ⟨H, hlen⟩ := hist_of hv
    have e1 : rf5_Order bigFuel h = some (orderR h) := by rw [rorder_val H]; unfold orderR; rw [hv]; rfl
    have e2 : rf5_Cycle bigFuel h = some (cycleR h) := by rw [rcycle_val H]; unfold cycleR; rw [hv]; rfl
    rw [e1, e2, awake_val]
    simp only [Bool.not_true, cond_false, Option.bind_some]
    rw [equal_refl (by omega), equal_refl (by omega)]
    simp [lw5_HistoryOrders_j19]
end Go.AM
