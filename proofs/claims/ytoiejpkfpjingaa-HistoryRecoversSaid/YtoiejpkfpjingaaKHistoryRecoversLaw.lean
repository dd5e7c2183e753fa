/-
  PLAIN FACTS AND THE LAW (gathered by shake.py). No statement of the seat is proved here.
-/
import Derived.Test.YtoiejpkfpjingaaK51
set_option linter.unusedVariables false
set_option linter.unusedSimpArgs false
set_option maxRecDepth 100000
namespace Go.AM
def bigFuel : Nat := 36893488147419103232
theorem lenOk_of {α : Type} {l : List α} (h : l.length ≤ 9223372036854775807) : lenOk l = true := Nat.ble_eq_true_of_le (by omega)
theorem chk_true {α : Type} {x : Option α} : chk true x = x := rfl
theorem wr {i : Int} (h1 : -9000000000000000000 ≤ i) (h2 : i ≤ 9000000000000000000) : IntKind.wrap .i64 i = i := wrap_id (by omega) (by omega)
theorem capS {b n : Nat} (hb : b ≤ 1000) (hn : n ≤ 100000) : capOk b n = true := by
  have : n * b ≤ 100000 * 1000 := Nat.mul_le_mul hn hb
  simp only [capOk, Bool.and_eq_true, Nat.ble_eq]
  omega
theorem wf6 {i : Int} (h1 : -1000 ≤ i) (h2 : i ≤ 1000) : wfI .i64 i = true := by
  unfold wfI Lit.wf
  simp [IntKind.min, IntKind.max, IntKind.signed, IntKind.bits]
  omega
theorem sub_pre {α : Type} (p q : List α) : sub (p ++ q) 0 ((p.length : Nat) : Int) = some p := by
  unfold sub
  rw [if_pos ⟨by omega, by omega, by simp; omega⟩]
  simp
theorem idx_at {α : Type} {l : List α} {i : Nat} {x : α} (h : l[i]? = some x) : idx l ((i : Nat) : Int) = some x := by
  unfold idx
  rw [if_pos (Int.natCast_nonneg _), Int.toNat_natCast]
  exact h
theorem mget_mset {V : Type} (z v : V) (k t : Int) : ∀ l : List (Int × V), mget keq1 z t (mset keq1 k v l) = if k = t then v else mget keq1 z t l
  | [] => by
    unfold mset mget mget keq1
    by_cases h : k = t
    · subst h; simp
    · have : (k == t) = false := beq_eq_false_iff_ne.2 h
      rw [this, if_neg h]
      rfl
  | p :: r => by
    have ih := mget_mset z v k t r
    unfold mset
    by_cases hk : p.1 = k
    · have e1 : keq1 p.1 k = true := by unfold keq1; simp [hk]
      rw [e1]
      simp only [cond_true]
      unfold mget
      have e2 : keq1 (p.1, v).1 t = keq1 p.1 t := rfl
      rw [e2]
      by_cases h : k = t
      · rw [if_pos h]
        have : keq1 p.1 t = true := by unfold keq1; simp [hk, h]
        rw [this]; rfl
      · rw [if_neg h]
        have : keq1 p.1 t = false := by unfold keq1; rw [hk]; exact beq_eq_false_iff_ne.2 h
        rw [this]; rfl
    · have e1 : keq1 p.1 k = false := by unfold keq1; exact beq_eq_false_iff_ne.2 hk
      rw [e1]
      simp only [cond_false]
      unfold mget
      rw [ih]
      by_cases hp : p.1 = t
      · have e2 : keq1 p.1 t = true := by unfold keq1; simp [hp]
        have h : ¬ k = t := fun e => hk (by rw [hp, e])
        simp only [e2, if_neg h]
      · have e2 : keq1 p.1 t = false := by unfold keq1; exact beq_eq_false_iff_ne.2 hp
        rw [e2]
        rfl
theorem mset_len {V : Type} (k : Int) (v : V) : ∀ l : List (Int × V), (mset keq1 k v l).length ≤ l.length + 1
  | [] => by simp [mset]
  | p :: r => by
    have := mset_len k v r
    unfold mset
    cases keq1 p.1 k <;> simp <;> omega
def cv (x : rf5Op) : hsOp := hsOp.mk x.f_Txn x.f_Kind x.f_Item
theorem of_l1 (K : List hsOp → Option (List hsOp)) : ∀ (r : List rf5Op) (k : Nat) (v : List hsOp), v.length = k → k ≤ 43 → lw5_of_l1 K r k v = K (v ++ (r.take (43 - k)).map cv)
  | [], k, v, hv, hk => by rw [lw5_of_l1.eq_1]; simp
  | x :: r, k, v, hv, hk => by
    rw [lw5_of_l1.eq_2]
    by_cases h : k = 43
    · subst h
      rw [decide_eq_true (by omega)]
      simp
    · rw [decide_eq_false (by omega), capS (by omega) (by simp; omega)]
      simp only [cond_false, chk_true]
      rw [of_l1 K r (k + 1) _ (by simp; omega) (by omega)]
      have : 43 - k = (43 - (k + 1)) + 1 := by omega
      rw [this, List.take_succ_cons, List.map_cons, List.append_assoc]
      rfl
theorem of_val {h : List rf5Op} (hl : lenOk h = true) : lw5_of h = some ((h.take 43).map cv) := by
  unfold lw5_of
  rw [hl, chk_true, of_l1 _ h 0 [] rfl (by omega)]
  rfl
def bad6 (x : rf5Op) : Bool := decide (x.f_Txn < 1) || (decide (x.f_Txn > 6) || (decide (x.f_Kind < 0) || (decide (x.f_Kind > 3) || (decide (x.f_Item < 0) || decide (x.f_Item > 5)))))
def ended (t : Int) (l : List rf5Op) : Bool := l.any fun p => (p.f_Txn == t) && decide (p.f_Kind > 1)
def okFrom (pre : List rf5Op) : List rf5Op → Bool
  | [] => true
  | x :: r => (!bad6 x && (!(decide (x.f_Kind > 1) && (x.f_Item != 0)) && !ended x.f_Txn pre)) && okFrom (pre ++ [x]) r
theorem chain6 {β : Type} (a z : β) (d1 d2 d3 d4 d5 d6 : Bool) : (bif d1 then a else bif d2 then a else bif d3 then a else bif d4 then a else bif d5 then a else bif d6 then a else z) = bif (d1 || (d2 || (d3 || (d4 || (d5 || d6))))) then a else z := by
  cases d1 <;> cases d2 <;> cases d3 <;> cases d4 <;> cases d5 <;> cases d6 <;> rfl
theorem rvalid_l2 (x : rf5Op) (K : Option Bool) : ∀ (e : List rf5Op) (k : Nat), rf5_Valid_l2 x K e k = bif ended x.f_Txn e then some false else K
  | [], k => by rw [rf5_Valid_l2.eq_1]; rfl
  | p :: e, k => by
    rw [rf5_Valid_l2.eq_2, rvalid_l2 x K e (k + 1)]
    unfold rf5_Valid_j15 ended
    rw [List.any_cons]
    cases (p.f_Txn == x.f_Txn) with
    | false => rfl
    | true => cases decide (p.f_Kind > 1) <;> rfl
theorem rvalid_l1 {h : List rf5Op} (hh : lenOk h = true) (K : Option Bool) : ∀ (r : List rf5Op) (k : Nat) (pre : List rf5Op), h = pre ++ r → pre.length = k → rf5_Valid_l1 h K r k = bif okFrom pre r then K else some false
  | [], k, pre, _, _ => by rw [rf5_Valid_l1.eq_1]; rfl
  | x :: r, k, pre, he, hk => by
    have ih := rvalid_l1 hh K r (k + 1) (pre ++ [x]) (by rw [he]; simp) (by simp [hk])
    have hsub : sub h 0 (k : Int) = some pre := by rw [he, ← hk]; exact sub_pre pre _
    have hlp : lenOk pre = true := by
      have := Nat.le_of_ble_eq_true hh
      rw [he, List.length_append] at this
      exact lenOk_of (by omega)
    rw [rf5_Valid_l1.eq_2, chain6, ih]
    unfold rf5_Valid_j8 rf5_Valid_j5
    rw [hsub]
    simp only [Option.bind_some, hlp, chk_true, rvalid_l2, cond_true, cond_false]
    show _ = bif (!bad6 x && (!(decide (x.f_Kind > 1) && (x.f_Item != 0)) && !ended x.f_Txn pre)) && okFrom (pre ++ [x]) r then K else some false
    have : (decide (x.f_Txn < 1) || (decide (x.f_Txn > 6) || (decide (x.f_Kind < 0) || (decide (x.f_Kind > 3) || (decide (x.f_Item < 0) || decide (x.f_Item > 5)))))) = bad6 x := rfl
    rw [this]
    cases bad6 x <;> cases decide (x.f_Kind > 1) <;> cases (x.f_Item != 0) <;> cases ended x.f_Txn pre <;> rfl
def validB (h : List rf5Op) : Bool := okFrom [] h && decide (h.length ≤ 40)
theorem rvalid_val {h : List rf5Op} (hh : lenOk h = true) : rf5_Valid h = some (validB h) := by
  unfold rf5_Valid
  rw [hh, chk_true, rvalid_l1 hh _ h 0 [] rfl rfl]
  unfold rf5_Valid_j3 validB
  have : decide ((h.length : Int) ≤ 40) = decide (h.length ≤ 40) := by
    by_cases hc : h.length ≤ 40
    · rw [decide_eq_true (by omega), decide_eq_true hc]
    · rw [decide_eq_false (by omega), decide_eq_false hc]
  rw [this]
  cases okFrom [] h <;> rfl
theorem pvalid_l1 (K : Option Bool) : ∀ (r : List rf5Op) (k : Nat) (pre : List rf5Op) (m : List (Int × Bool)), (∀ t, mget keq1 false t m = ended t pre) → m.length ≤ pre.length → pre.length + r.length ≤ 1000 →
    hs_Valid_l1 K (r.map cv) k m = bif okFrom pre r then K else some false
  | [], k, pre, m, _, _, _ => by rw [List.map_nil, hs_Valid_l1.eq_1]; rfl
  | x :: r, k, pre, m, hm, hml, hl => by
    have hl : pre.length + (r.length + 1) ≤ 1000 := hl
    have ih := fun m' h1 h2 => pvalid_l1 K r (k + 1) (pre ++ [x]) m' h1 h2 (by simp; omega)
    rw [List.map_cons, hs_Valid_l1.eq_2]
    unfold hs_Valid_j12 hs_Valid_j15
    simp only [chain6]
    have e5 : decide ((cv x).f_Item ≥ 6) = decide (x.f_Item > 5) := by
      by_cases hc : x.f_Item > 5
      · rw [decide_eq_true hc]; exact decide_eq_true (show x.f_Item ≥ 6 by omega)
      · rw [decide_eq_false hc]; exact decide_eq_false (show ¬ x.f_Item ≥ 6 by omega)
    rw [e5]
    have : (decide ((cv x).f_Txn < 1) || (decide ((cv x).f_Txn > 6) || (decide ((cv x).f_Kind < 0) || (decide ((cv x).f_Kind > 3) || (decide ((cv x).f_Item < 0) || decide (x.f_Item > 5)))))) = bad6 x := rfl
    rw [this]
    show _ = bif (!bad6 x && (!(decide (x.f_Kind > 1) && (x.f_Item != 0)) && !ended x.f_Txn pre)) && okFrom (pre ++ [x]) r then K else some false
    cases hb : bad6 x with
    | true =>
      simp only [cond_true]
      cases ((cv x).f_Kind == 2) <;> rfl
    | false =>
      simp only [bad6, Bool.or_eq_false_iff, decide_eq_false_iff_not] at hb
      obtain ⟨b1, b2, b3, b4, b5, b6⟩ := hb
      have hwf : wfI .i64 (cv x).f_Txn = true := wf6 (by show -1000 ≤ x.f_Txn; omega) (by show x.f_Txn ≤ 1000; omega)
      have hml2 : Nat.blt m.length 1000000000 = true := Nat.ble_eq_true_of_le (by omega)
      have hmt : mget keq1 false (cv x).f_Txn m = ended x.f_Txn pre := hm x.f_Txn
      simp only [cond_false, hwf, chk_true, hml2, hmt]
      have hstep : ∀ b : Bool, b = decide (x.f_Kind > 1) → ended x.f_Txn pre = false → hs_Valid_l1 K (r.map cv) (k + 1) (mset keq1 (cv x).f_Txn b m) = bif okFrom (pre ++ [x]) r then K else some false := by
        intro b hb2 hen
        refine ih _ (fun t => ?_) (by have := mset_len x.f_Txn b m; rw [List.length_append, List.length_singleton]; show (mset keq1 x.f_Txn b m).length ≤ _; omega)
        show mget keq1 false t (mset keq1 x.f_Txn b m) = _
        rw [mget_mset, hm]
        unfold ended at hen ⊢
        rw [List.any_append, List.any_cons, List.any_nil, Bool.or_false]
        by_cases ht : x.f_Txn = t
        · subst ht
          rw [if_pos rfl, hen, hb2]
          simp
        · rw [if_neg ht]
          have : (x.f_Txn == t) = false := beq_eq_false_iff_ne.2 ht
          rw [this]
          simp
      have k2 : ((cv x).f_Kind == 2) = (x.f_Kind == 2) := rfl
      have k3 : ((cv x).f_Kind == 3) = (x.f_Kind == 3) := rfl
      have i0 : ((cv x).f_Item != 0) = (x.f_Item != 0) := rfl
      rw [k2, k3, i0]
      by_cases hk : x.f_Kind > 1
      · have h23 : (x.f_Kind == 2) = true ∨ (x.f_Kind == 2) = false ∧ (x.f_Kind == 3) = true := by
          by_cases h2 : x.f_Kind = 2
          · left; simp [h2]
          · right; exact ⟨beq_eq_false_iff_ne.2 h2, by simp; omega⟩
        have hst := hstep true (decide_eq_true hk).symm
        rw [decide_eq_true hk]
        cases hi : (x.f_Item != 0) with
        | true => rcases h23 with h2 | ⟨h2, h3⟩ <;> simp [*]
        | false =>
          cases hen : ended x.f_Txn pre with
          | true => rcases h23 with h2 | ⟨h2, h3⟩ <;> simp [*]
          | false =>
            have := hst hen
            rcases h23 with h2 | ⟨h2, h3⟩ <;> simp [*]
      · have h2 : (x.f_Kind == 2) = false := beq_eq_false_iff_ne.2 (by omega)
        have h3 : (x.f_Kind == 3) = false := beq_eq_false_iff_ne.2 (by omega)
        have hst := hstep false (decide_eq_false hk).symm
        rw [decide_eq_false hk, h2, h3]
        cases hen : ended x.f_Txn pre with
        | true => simp
        | false =>
          have := hst hen
          simp [*]
theorem pvalid_val {h : List rf5Op} (hl : h.length ≤ 1000) : hs_Valid (h.map cv) = some (validB h) := by
  unfold hs_Valid validB
  rw [List.length_map]
  by_cases hc : h.length ≤ 40
  · rw [decide_eq_false (by omega), lenOk_of (by simp; omega), decide_eq_true hc]
    simp only [cond_false, chk_true]
    rw [pvalid_l1 _ h 0 [] [] (fun t => rfl) (by simp) (by simp; omega)]
    unfold hs_Valid_j7
    cases okFrom [] h <;> rfl
  · rw [decide_eq_true (by omega), decide_eq_false hc]
    simp
theorem valid_same {h : List rf5Op} : hs_Valid ((h.take 43).map cv) = some (validB h) := by
  rw [pvalid_val (by rw [List.length_take]; omega)]
  by_cases hc : h.length ≤ 43
  · rw [List.take_of_length_le hc]
  · unfold validB
    rw [decide_eq_false (p := h.length ≤ 40) (by omega), decide_eq_false (p := (h.take 43).length ≤ 40) (by rw [List.length_take]; omega)]
    simp
theorem okFrom_mem : ∀ (r pre : List rf5Op), okFrom pre r = true → ∀ x, x ∈ r → bad6 x = false ∧ (x.f_Kind > 1 → x.f_Item = 0)
  | [], pre, _, x, hx => by cases hx
  | y :: r, pre, h, x, hx => by
    unfold okFrom at h
    simp only [Bool.and_eq_true, Bool.not_eq_true'] at h
    obtain ⟨⟨h1, h2, h3⟩, h4⟩ := h
    rcases List.mem_cons.1 hx with rfl | hx
    · refine ⟨h1, fun hk => ?_⟩
      rw [decide_eq_true hk] at h2
      simpa using h2
    · exact okFrom_mem r _ h4 x hx
structure Hist (h : List rf5Op) : Prop where
  len : h.length ≤ 1000
  txn : ∀ x, x ∈ h → 1 ≤ x.f_Txn ∧ x.f_Txn ≤ 6
  kind : ∀ x, x ∈ h → 0 ≤ x.f_Kind ∧ x.f_Kind ≤ 3
  item : ∀ x, x ∈ h → 0 ≤ x.f_Item ∧ x.f_Item ≤ 5
  zero : ∀ x, x ∈ h → x.f_Kind > 1 → x.f_Item = 0
theorem hist_of {h : List rf5Op} (hv : validB h = true) : Hist h ∧ h.length ≤ 40 := by
  unfold validB at hv
  simp only [Bool.and_eq_true, decide_eq_true_eq] at hv
  have hm := okFrom_mem h [] hv.1
  have hb : ∀ x, x ∈ h → (1 ≤ x.f_Txn ∧ x.f_Txn ≤ 6) ∧ (0 ≤ x.f_Kind ∧ x.f_Kind ≤ 3) ∧ (0 ≤ x.f_Item ∧ x.f_Item ≤ 5) := by
    intro x hx
    have := (hm x hx).1
    simp only [bad6, Bool.or_eq_false_iff, decide_eq_false_iff_not] at this
    omega
  exact ⟨⟨by omega, fun x hx => (hb x hx).1, fun x hx => (hb x hx).2.1, fun x hx => (hb x hx).2.2, fun x hx => (hm x hx).2⟩, hv.2⟩
def endL (t k : Int) : List rf5Op → Nat → Int
  | [], _ => -1
  | x :: r, i => bif (x.f_Txn == t) && (x.f_Kind == k) then (i : Int) else endL t k r (i + 1)
theorem end_l1 (t k : Int) : ∀ (r : List rf5Op) (i : Nat), rf5_end_l1 t k (rf5_end_j5) r i = some (endL t k r i)
  | [], i => by rw [rf5_end_l1.eq_1]; rfl
  | x :: r, i => by
    rw [rf5_end_l1.eq_2, end_l1 t k r (i + 1)]
    unfold rf5_end_j9
    show _ = some (bif (x.f_Txn == t) && (x.f_Kind == k) then (i : Int) else endL t k r (i + 1))
    cases (x.f_Txn == t) with
    | false => rfl
    | true => cases (x.f_Kind == k) <;> rfl
theorem end_val {h : List rf5Op} (hl : lenOk h = true) (t k : Int) : rf5_end h t k = some (endL t k h 0) := by
  unfold rf5_end
  rw [hl, chk_true]
  exact end_l1 t k h 0
theorem index_l1 {t k : Int} (hk : k > 1) : ∀ (r : List rf5Op) (i : Nat), (∀ x, x ∈ r → x.f_Kind > 1 → x.f_Item = 0) → sl_Index_hsOp_l1 (hsOp.mk t k 0) (sl_Index_hsOp_j4) (r.map cv) i = some (endL t k r i)
  | [], i, _ => by rw [List.map_nil, sl_Index_hsOp_l1.eq_1]; rfl
  | x :: r, i, hz => by
    rw [List.map_cons, sl_Index_hsOp_l1.eq_2, index_l1 hk r (i + 1) fun y hy => hz y (List.mem_cons_of_mem _ hy)]
    have : ((t == (cv x).f_Txn) && ((k == (cv x).f_Kind) && (((0 : Int) == (cv x).f_Item) && true))) = ((x.f_Txn == t) && (x.f_Kind == k)) := by
      show ((t == x.f_Txn) && ((k == x.f_Kind) && (((0 : Int) == x.f_Item) && true))) = _
      rw [Bool.beq_comm (a := t), Bool.beq_comm (a := k)]
      by_cases h1 : x.f_Kind = k
      · have := hz x (List.mem_cons_self ..) (by omega)
        rw [this]
        simp
      · have : (x.f_Kind == k) = false := beq_eq_false_iff_ne.2 h1
        rw [this]
        simp
    rw [this]
    show _ = some (bif (x.f_Txn == t) && (x.f_Kind == k) then (i : Int) else endL t k r (i + 1))
    cases (x.f_Txn == t) && (x.f_Kind == k) <;> rfl
theorem index_val {h : List rf5Op} (H : Hist h) {t k : Int} (hk : k > 1) : sl_Index_hsOp (h.map cv) (hsOp.mk t k 0) = some (endL t k h 0) := by
  have := H.len
  unfold sl_Index_hsOp
  rw [lenOk_of (by simp; omega), chk_true]
  exact index_l1 hk h 0 H.zero
def endMap (f : Int → Int) : List (Int × Int) := [(1, f 1), (2, f 2), (3, f 3), (4, f 4), (5, f 5), (6, f 6)]
theorem mget_end {f : Int → Int} {t : Int} (h1 : 1 ≤ t) (h2 : t ≤ 6) : mget keq1 0 t (endMap f) = f t := by
  have : t = 1 ∨ t = 2 ∨ t = 3 ∨ t = 4 ∨ t = 5 ∨ t = 6 := by omega
  rcases this with rfl | rfl | rfl | rfl | rfl | rfl <;> rfl
theorem ending_step {h : List rf5Op} (H : Hist h) {k : Int} (hk : k > 1) (K : List (Int × Int) → Option (List (Int × Int))) {m : Nat} {v : List (Int × Int)} (t t' : Int) (h1 : 1 ≤ t) (h2 : t ≤ 6) (ht : t' = t + 1) (hv : v.length ≤ 10) :
    hs_History_ending_l1 (h.map cv) k K (m + 1) v t = hs_History_ending_l1 (h.map cv) k K m (mset keq1 t (endL t k h 0) v) t' := by
  subst ht
  rw [hs_History_ending_l1.eq_2, decide_eq_true h2, index_val H hk]
  simp only [cond_true, Option.bind_some]
  rw [wf6 (by omega) (by omega), chk_true, Nat.ble_eq_true_of_le (show v.length + 1 ≤ 1000000000 by omega) |> (fun e => show Nat.blt v.length 1000000000 = true from e), chk_true, wr (by omega) (by omega)]
theorem ending_val {h : List rf5Op} (H : Hist h) {k : Int} (hk : k > 1) : hs_History_ending bigFuel (h.map cv) k = some (endMap fun t => endL t k h 0) := by
  unfold hs_History_ending
  have e : bigFuel = 36893488147419103225 + 1 + 1 + 1 + 1 + 1 + 1 + 1 := rfl
  rw [e, ending_step H hk _ 1 2 (by omega) (by omega) rfl (by simp), ending_step H hk _ 2 3 (by omega) (by omega) rfl (Nat.le_of_ble_eq_true rfl), ending_step H hk _ 3 4 (by omega) (by omega) rfl (Nat.le_of_ble_eq_true rfl), ending_step H hk _ 4 5 (by omega) (by omega) rfl (Nat.le_of_ble_eq_true rfl), ending_step H hk _ 5 6 (by omega) (by omega) rfl (Nat.le_of_ble_eq_true rfl), ending_step H hk _ 6 7 (by omega) (by omega) rfl (Nat.le_of_ble_eq_true rfl)]
  rw [hs_History_ending_l1.eq_2, decide_eq_false (by omega)]
  rfl
def scanB (W : rf5Op → Bool) : List rf5Op → Int
  | [] => 0
  | p :: r => bif W p then p.f_Txn else scanB W r
def scanF (W : rf5Op → Bool) (v : Int) : List rf5Op → Int
  | [] => v
  | p :: r => scanF W (bif W p then p.f_Txn else v) r
theorem scanF_snoc (W : rf5Op → Bool) (p : rf5Op) : ∀ (l : List rf5Op) (v : Int), scanF W v (l ++ [p]) = bif W p then p.f_Txn else scanF W v l
  | [], v => rfl
  | q :: l, v => by
    rw [List.cons_append]
    unfold scanF
    exact scanF_snoc W p l _
theorem scan_turn (W : rf5Op → Bool) : ∀ (l : List rf5Op), scanF W 0 l.reverse = scanB W l
  | [] => rfl
  | p :: l => by
    rw [List.reverse_cons, scanF_snoc, scan_turn W l]
    rfl
theorem scanB_congr {W W' : rf5Op → Bool} : ∀ {l : List rf5Op}, (∀ p, p ∈ l → W p = W' p) → scanB W l = scanB W' l
  | [], _ => rfl
  | p :: l, h => by
    unfold scanB
    rw [h p (List.mem_cons_self ..), scanB_congr fun q hq => h q (List.mem_cons_of_mem _ hq)]
def wins (h : List rf5Op) (i : Nat) (x p : rf5Op) : Bool := (p.f_Kind == 1) && ((p.f_Item == x.f_Item) && !(decide (endL p.f_Txn 3 h 0 ≥ 0) && decide (endL p.f_Txn 3 h 0 < (i : Int))))
def fromAt (h : List rf5Op) (i : Nat) (x : rf5Op) : Int := bif x.f_Kind != 0 then -1 else scanB (wins h i x) (h.take i).reverse
def fromL (h : List rf5Op) : List rf5Op → Nat → List Int
  | [], _ => []
  | x :: r, i => fromAt h i x :: fromL h r (i + 1)
theorem fromL_len (h : List rf5Op) : ∀ (r : List rf5Op) (i : Nat), (fromL h r i).length = r.length
  | [], i => rfl
  | x :: r, i => by unfold fromL; simp [fromL_len h r (i + 1)]
theorem from_l2 {h : List rf5Op} (H : Hist h) (i : Nat) (x : rf5Op) (K : Int → Option (List Int)) : ∀ (j m : Nat), j ≤ h.length → j < m →
    hs_History_from_l2 (h.map cv) i (cv x) (endMap fun t => endL t 3 h 0) K m 0 ((j : Int) - 1) = K (scanB (wins h i x) (h.take j).reverse)
  | 0, m, hj, hm => by
    obtain ⟨m, rfl⟩ : ∃ m', m = m' + 1 := ⟨m - 1, by omega⟩
    rw [hs_History_from_l2.eq_2, decide_eq_false (by omega)]
    rfl
  | j + 1, m, hj, hm => by
    have hlen := H.len
    obtain ⟨m, rfl⟩ : ∃ m', m = m' + 1 := ⟨m - 1, by omega⟩
    have ej : ((j + 1 : Nat) : Int) - 1 = (j : Int) := by omega
    have hmem : h[j] ∈ h := List.getElem_mem (by omega)
    have ht := H.txn _ hmem
    have ih := from_l2 H i x K j m (by omega) (by omega)
    rw [hs_History_from_l2.eq_2, ej, decide_eq_true (by omega), idx_at (x := cv h[j]) (by rw [List.getElem?_map, List.getElem?_eq_getElem (by omega)]; rfl)]
    simp only [cond_true, Option.bind_some]
    have hwf : wfI .i64 (cv h[j]).f_Txn = true := wf6 (by show -1000 ≤ h[j].f_Txn; omega) (by show h[j].f_Txn ≤ 1000; omega)
    have hmg : mget keq1 0 (cv h[j]).f_Txn (endMap fun t => endL t 3 h 0) = endL h[j].f_Txn 3 h 0 := mget_end ht.1 ht.2
    simp only [hwf, chk_true, hmg]
    have etk : (h.take (j + 1)).reverse = h[j] :: (h.take j).reverse := by
      rw [List.take_succ_eq_append_getElem (by omega), List.reverse_append]
      rfl
    rw [etk]
    unfold hs_History_from_j25 hs_History_from_j29 scanB wins
    have a1 : ((cv h[j]).f_Kind == 1) = (h[j].f_Kind == 1) := rfl
    have a2 : ((cv h[j]).f_Item == (cv x).f_Item) = (h[j].f_Item == x.f_Item) := rfl
    have a3 : (cv h[j]).f_Txn = h[j].f_Txn := rfl
    rw [a1, a2, a3, wr (by omega) (by omega), ih]
    cases (h[j].f_Kind == 1) with
    | false => cases decide (endL h[j].f_Txn 3 h 0 ≥ 0) <;> rfl
    | true =>
      cases (h[j].f_Item == x.f_Item) with
      | false => cases decide (endL h[j].f_Txn 3 h 0 ≥ 0) <;> rfl
      | true => cases decide (endL h[j].f_Txn 3 h 0 ≥ 0) <;> cases decide (endL h[j].f_Txn 3 h 0 < (i : Int)) <;> rfl
theorem from_l1 {h : List rf5Op} (H : Hist h) (K : List Int → Option (List Int)) : ∀ (r : List rf5Op) (k : Nat) (v : List Int), k + r.length = h.length → v.length = k →
    hs_History_from_l1 bigFuel (h.map cv) (endMap fun t => endL t 3 h 0) K (r.map cv) k v = K (v ++ fromL h r k)
  | [], k, v, _, _ => by rw [List.map_nil, hs_History_from_l1.eq_1]; simp [fromL]
  | x :: r, k, v, hk, hv => by
    have hlen := H.len
    have hk : k + (r.length + 1) = h.length := hk
    have ih := fun z => from_l1 H K r (k + 1) (v ++ [z]) (by omega) (by simp; omega)
    have hcap : ∀ z : Int, capOk 8 (v ++ [z]).length = true := fun z => capS (by omega) (by simp; omega)
    rw [List.map_cons, hs_History_from_l1.eq_2]
    unfold hs_History_from_j9 hs_History_from_j16
    rw [wr (by omega) (by omega), from_l2 H k x _ k bigFuel (by omega) (by unfold bigFuel; omega)]
    simp only [hcap, chk_true, ih]
    have : ((cv x).f_Kind != 0) = (x.f_Kind != 0) := rfl
    rw [this]
    have ef : fromL h (x :: r) k = fromAt h k x :: fromL h r (k + 1) := rfl
    rw [ef]
    unfold fromAt
    cases (x.f_Kind != 0) with
    | true => simp only [cond_true, List.append_assoc, List.singleton_append]
    | false => simp only [cond_false, List.append_assoc, List.singleton_append]
theorem from_val {h : List rf5Op} (H : Hist h) : hs_History_from bigFuel (h.map cv) = some (fromL h h 0) := by
  have := H.len
  unfold hs_History_from
  rw [ending_val H (by omega)]
  simp only [Option.bind_some]
  rw [lenOk_of (by simp; omega), chk_true, from_l1 H _ h 0 [] (by simp) rfl]
  rfl
def winsR (h : List rf5Op) (i : Nat) (x p : rf5Op) : Bool := (p.f_Kind == 1) && ((p.f_Item == x.f_Item) && (decide (endL p.f_Txn 3 h 0 < 0) || decide (endL p.f_Txn 3 h 0 > (i : Int))))
theorem endL_at (t k : Int) : ∀ (r : List rf5Op) (j i : Nat), endL t k r j = (i : Int) → ∃ x, r[i - j]? = some x ∧ j ≤ i ∧ x.f_Kind = k
  | [], j, i, h => by unfold endL at h; omega
  | x :: r, j, i, h => by
    unfold endL at h
    cases hc : (x.f_Txn == t) && (x.f_Kind == k) with
    | true =>
      rw [hc] at h
      simp only [cond_true] at h
      obtain rfl : j = i := by omega
      simp only [Bool.and_eq_true, beq_iff_eq] at hc
      exact ⟨x, by simp, Nat.le_refl _, hc.2⟩
    | false =>
      rw [hc] at h
      obtain ⟨y, h1, h2, h3⟩ := endL_at t k r (j + 1) i h
      refine ⟨y, ?_, by omega, h3⟩
      have : i - j = (i - (j + 1)) + 1 := by omega
      rw [this, List.getElem?_cons_succ]
      exact h1
theorem wins_same {h : List rf5Op} {i : Nat} {x : rf5Op} (hx : h[i]? = some x) (h0 : x.f_Kind = 0) (p : rf5Op) : wins h i x p = winsR h i x p := by
  unfold wins winsR
  congr 2
  have hne : endL p.f_Txn 3 h 0 ≠ (i : Int) := fun e => by
    obtain ⟨y, h1, _, h3⟩ := endL_at _ _ h 0 i e
    rw [Nat.sub_zero, hx] at h1
    cases h1
    omega
  by_cases h1 : endL p.f_Txn 3 h 0 < 0
  · rw [decide_eq_true h1, decide_eq_false (p := endL p.f_Txn 3 h 0 ≥ 0) (by omega)]
    rfl
  · rw [decide_eq_false h1, decide_eq_true (p := endL p.f_Txn 3 h 0 ≥ 0) (by omega)]
    by_cases h2 : endL p.f_Txn 3 h 0 < (i : Int)
    · rw [decide_eq_true h2, decide_eq_false (by omega)]
      rfl
    · rw [decide_eq_false h2, decide_eq_true (by omega)]
      rfl
theorem rfrom_l2 {h : List rf5Op} (hl : lenOk h = true) (i : Nat) (x : rf5Op) (K : Int → Option (List Int)) : ∀ (e : List rf5Op) (k : Nat) (v : Int), rf5_From_l2 h i x K e k v = K (scanF (winsR h i x) v e)
  | [], k, v => by rw [rf5_From_l2.eq_1]; rfl
  | p :: e, k, v => by
    rw [rf5_From_l2.eq_2]
    unfold rf5_From_j18 rf5_From_j22 rf5_From_j16
    simp only [end_val hl, Option.bind_some, rfrom_l2 hl i x K e (k + 1)]
    have ef : scanF (winsR h i x) v (p :: e) = scanF (winsR h i x) (bif winsR h i x p then p.f_Txn else v) e := rfl
    have hw : winsR h i x p = ((p.f_Kind == 1) && ((p.f_Item == x.f_Item) && (decide (endL p.f_Txn 3 h 0 < 0) || decide (endL p.f_Txn 3 h 0 > (i : Int))))) := rfl
    rw [ef, hw]
    cases (p.f_Kind == 1) with
    | false => rfl
    | true =>
      cases (p.f_Item == x.f_Item) with
      | false => rfl
      | true =>
        cases decide (endL p.f_Txn 3 h 0 < 0) <;> cases decide (endL p.f_Txn 3 h 0 > (i : Int)) <;> rfl
theorem rfrom_l1 {h : List rf5Op} (H : Hist h) (K : List Int → Option (List Int)) : ∀ (r : List rf5Op) (k : Nat) (v : List Int) (pre : List rf5Op), h = pre ++ r → pre.length = k → v.length = k →
    rf5_From_l1 h K r k v = K (v ++ fromL h r k)
  | [], k, v, pre, _, _, _ => by rw [rf5_From_l1.eq_1]; simp [fromL]
  | x :: r, k, v, pre, he, hk, hv => by
    have hlen := H.len
    have hl2 := congrArg List.length he
    rw [List.length_append, List.length_cons] at hl2
    have ih := fun z => rfrom_l1 H K r (k + 1) (v ++ [z]) (pre ++ [x]) (by rw [he]; simp) (by simp [hk]) (by simp [hv])
    have hsub : sub h 0 (k : Int) = some pre := by
      have := sub_pre pre (x :: r)
      rw [← he, hk] at this
      exact this
    have htk : h.take k = pre := by rw [he, ← hk, List.take_left]
    have hat : h[k]? = some x := by rw [he, ← hk]; simp
    rw [rf5_From_l1.eq_2, hsub]
    simp only [Option.bind_some]
    rw [lenOk_of (l := pre) (by omega), chk_true, rfrom_l2 (lenOk_of (by omega))]
    unfold rf5_From_j10
    simp only [capS (b := 8) (n := (v ++ [_]).length) (by omega) (by simp; omega), chk_true, ih]
    have ef : fromL h (x :: r) k = fromAt h k x :: fromL h r (k + 1) := rfl
    rw [ef]
    unfold fromAt
    rw [htk]
    by_cases h0 : x.f_Kind = 0
    · have e1 : (x.f_Kind == 0) = true := by simp [h0]
      have e2 : (x.f_Kind != 0) = false := by simp [h0]
      rw [e1, e2]
      simp only [cond_true, cond_false]
      rw [scanB_congr fun p _ => wins_same hat h0 p, ← scan_turn, List.reverse_reverse, List.append_assoc, List.singleton_append]
    · have e1 : (x.f_Kind == 0) = false := beq_eq_false_iff_ne.2 h0
      have e2 : (x.f_Kind != 0) = true := by simp [h0]
      rw [e1, e2]
      simp only [cond_true, cond_false, List.append_assoc, List.singleton_append]
theorem rfrom_val {h : List rf5Op} (H : Hist h) : rf5_From h = some (fromL h h 0) := by
  have := H.len
  unfold rf5_From
  rw [lenOk_of (by omega), chk_true, rfrom_l1 H _ h 0 [] [] rfl rfl rfl]
  rfl
theorem sortI_id {l : List Int} (hm : l.Pairwise fun a b => a ≤ b) : sortI l = l := by
  have h1 : (sortI l).Pairwise fun a b => decide (a ≤ b) = true := List.pairwise_mergeSort (by intro a b c; simp; omega) (by intro a b; simp; omega) l
  refine List.Perm.eq_of_pairwise (le := fun a b => a ≤ b) (fun a b _ _ x y => by omega) (h1.imp fun h => by simpa using h) hm (List.mergeSort_perm l _)
def commL (h : List rf5Op) : List Int := ([1, 2, 3, 4, 5, 6] : List Int).filter fun t => decide (endL t 2 h 0 ≥ 0)
theorem comm_end (f : Int → Int) : comm (endMap f) = ([1, 2, 3, 4, 5, 6] : List Int).filter fun t => decide (f t ≥ 0) := by
  have : endMap f = ([1, 2, 3, 4, 5, 6] : List Int).map fun t => (t, f t) := rfl
  unfold comm
  rw [this, List.filter_map, List.map_map]
  have e : (Prod.fst ∘ fun t : Int => (t, f t)) = id := rfl
  rw [e, List.map_id]
  rfl
theorem committed_val {h : List rf5Op} (H : Hist h) : hs_History_committed bigFuel (h.map cv) = some (commL h) := by
  unfold hs_History_committed
  rw [ending_val H (by omega)]
  simp only [Option.bind_some]
  have : decide ((endMap fun t => endL t 2 h 0).length ≤ 1000) = true := rfl
  rw [this, chk_true, comm_end]
  have hp : (([1, 2, 3, 4, 5, 6] : List Int).filter fun t => decide (endL t 2 h 0 ≥ 0)).Pairwise fun a b => a ≤ b := by
    refine List.Pairwise.filter _ ?_
    decide
  rw [sortI_id hp]
  rfl
def sample : List rf5Op := [⟨2, 1, 0⟩, ⟨1, 0, 0⟩, ⟨1, 2, 0⟩, ⟨2, 2, 0⟩]
theorem sample_hist : Hist sample := (hist_of (by rfl)).1
theorem awake_val : lw5_awake bigFuel = some true := by
  have e : [(hsOp.mk 2 1 0), (hsOp.mk 1 0 0), (hsOp.mk 1 2 0), (hsOp.mk 2 2 0)] = sample.map cv := rfl
  have hc := committed_val sample_hist
  have hcl : commL sample = [1, 2] := rfl
  rw [hcl] at hc
  have ho : hs_Order bigFuel (sample.map cv) = some ([2, 1], 0) := by
    unfold hs_Order hs_History_part
    rw [hc]
    kernel_rfl
  unfold lw5_awake
  rw [e, ho]
  rfl
def overL (h : List rf5Op) (t : Int) : Int := if endL t 3 h 0 > endL t 2 h 0 then endL t 3 h 0 else endL t 2 h 0
def badP (h : List rf5Op) (i : Nat) (x p : rf5Op) : Bool := (p.f_Kind == 1) && ((p.f_Item == x.f_Item) && ((p.f_Txn != x.f_Txn) && (decide (overL h p.f_Txn < 0) || decide (overL h p.f_Txn > (i : Int)))))
def readsOf (h : List rf5Op) (i : Nat) (x : rf5Op) : Bool := decide (fromAt h i x > 0) && (fromAt h i x != x.f_Txn)
def mayA (h : List rf5Op) (x : rf5Op) (f : Int) : Bool := decide (endL x.f_Txn 2 h 0 < 0) || (decide (endL f 2 h 0 ≥ 0) && decide (endL f 2 h 0 < endL x.f_Txn 2 h 0))
def mayB (h : List rf5Op) (i : Nat) (f : Int) : Bool := decide (endL f 2 h 0 ≥ 0) && decide (endL f 2 h 0 < (i : Int))
def okA (h : List rf5Op) : List rf5Op → Nat → Bool
  | [], _ => true
  | x :: r, i => (!readsOf h i x || mayA h x (fromAt h i x)) && okA h r (i + 1)
def okB (h : List rf5Op) : List rf5Op → Nat → Bool
  | [], _ => true
  | x :: r, i => (!readsOf h i x || mayB h i (fromAt h i x)) && okB h r (i + 1)
def okC (h : List rf5Op) : List rf5Op → Nat → Bool
  | [], _ => true
  | x :: r, i => (decide (x.f_Kind > 1) || !((h.take i).any (badP h i x))) && okC h r (i + 1)
theorem scanB_bound {W : rf5Op → Bool} : ∀ {l : List rf5Op}, (∀ p, p ∈ l → 1 ≤ p.f_Txn ∧ p.f_Txn ≤ 6) → 0 ≤ scanB W l ∧ scanB W l ≤ 6
  | [], _ => by unfold scanB; omega
  | p :: l, h => by
    have ih := scanB_bound (W := W) fun q hq => h q (List.mem_cons_of_mem _ hq)
    have hp := h p (List.mem_cons_self ..)
    unfold scanB
    cases W p
    · exact ih
    · exact ⟨by show 0 ≤ p.f_Txn; omega, hp.2⟩
theorem fromAt_bound {h : List rf5Op} (H : Hist h) (i : Nat) (x : rf5Op) : -1 ≤ fromAt h i x ∧ fromAt h i x ≤ 6 := by
  have := scanB_bound (W := wins h i x) (l := (h.take i).reverse) fun p hp => H.txn p (List.mem_of_mem_take (List.mem_reverse.1 hp))
  unfold fromAt
  cases (x.f_Kind != 0)
  · show -1 ≤ scanB _ _ ∧ scanB _ _ ≤ 6
    omega
  · show (-1 : Int) ≤ -1 ∧ (-1 : Int) ≤ 6
    omega
theorem prec_l2 {h : List rf5Op} (H : Hist h) (i : Nat) (x : rf5Op) (a b : Bool) (K : Bool → Bool → Bool → Option (Bool × Bool × Bool × Int)) : ∀ (e : List rf5Op) (k : Nat) (v : Bool), (∀ p, p ∈ e → p ∈ h) →
    hs_Recovery_l2 i (endMap fun t => endL t 2 h 0) (endMap fun t => endL t 3 h 0) (cv x) a b K (e.map cv) k v = K a b (v && !(e.any (badP h i x)))
  | [], k, v, _ => by rw [List.map_nil, hs_Recovery_l2.eq_1]; simp
  | p :: e, k, v, he => by
    have ht := H.txn p (he p (List.mem_cons_self ..))
    have ih := fun v => prec_l2 H i x a b K e (k + 1) v fun q hq => he q (List.mem_cons_of_mem _ hq)
    have hwf : wfI .i64 (cv p).f_Txn = true := wf6 (by show -1000 ≤ p.f_Txn; omega) (by show p.f_Txn ≤ 1000; omega)
    have m2 : mget keq1 0 (cv p).f_Txn (endMap fun t => endL t 2 h 0) = endL p.f_Txn 2 h 0 := mget_end ht.1 ht.2
    have m3 : mget keq1 0 (cv p).f_Txn (endMap fun t => endL t 3 h 0) = endL p.f_Txn 3 h 0 := mget_end ht.1 ht.2
    rw [List.map_cons, hs_Recovery_l2.eq_2]
    unfold hs_Recovery_j41 hs_Recovery_j36
    simp only [hwf, chk_true, m2, m3, ih]
    rw [List.any_cons]
    have hb : badP h i x p = ((p.f_Kind == 1) && ((p.f_Item == x.f_Item) && ((p.f_Txn != x.f_Txn) && (decide (overL h p.f_Txn < 0) || decide (overL h p.f_Txn > (i : Int)))))) := rfl
    have ho : (if endL p.f_Txn 3 h 0 > endL p.f_Txn 2 h 0 then endL p.f_Txn 3 h 0 else endL p.f_Txn 2 h 0) = overL h p.f_Txn := rfl
    have a1 : ((cv p).f_Kind == 1) = (p.f_Kind == 1) := rfl
    have a2 : ((cv p).f_Item == (cv x).f_Item) = (p.f_Item == x.f_Item) := rfl
    have a3 : ((cv p).f_Txn != (cv x).f_Txn) = (p.f_Txn != x.f_Txn) := rfl
    rw [hb, ho, a1, a2, a3]
    generalize e.any (badP h i x) = u
    cases (p.f_Kind == 1) with
    | false => rfl
    | true =>
      cases (p.f_Item == x.f_Item) with
      | false => rfl
      | true =>
        cases (p.f_Txn != x.f_Txn) with
        | false => rfl
        | true => cases decide (overL h p.f_Txn < 0) <;> cases decide (overL h p.f_Txn > (i : Int)) <;> cases v <;> rfl
theorem prec_l1 {h : List rf5Op} (H : Hist h) (K : Bool → Bool → Bool → Option (Bool × Bool × Bool × Int)) : ∀ (r : List rf5Op) (k : Nat) (a b c : Bool) (pre : List rf5Op), h = pre ++ r → pre.length = k →
    hs_Recovery_l1 (h.map cv) (endMap fun t => endL t 2 h 0) (endMap fun t => endL t 3 h 0) K (fromL h r k) k a b c = K (a && okA h r k) (b && okB h r k) (c && okC h r k)
  | [], k, a, b, c, pre, _, _ => by unfold fromL; rw [hs_Recovery_l1.eq_1]; simp [okA, okB, okC]
  | x :: r, k, a, b, c, pre, he, hk => by
    have hlen := H.len
    have hl2 := congrArg List.length he
    rw [List.length_append, List.length_cons] at hl2
    have ih := fun a b c => prec_l1 H K r (k + 1) a b c (pre ++ [x]) (by rw [he]; simp) (by simp [hk])
    have hat : h[k]? = some x := by rw [he, ← hk]; simp
    have hmem : x ∈ h := List.mem_of_getElem? hat
    have htx := H.txn x hmem
    have htk : h.take k = pre := by rw [he, ← hk, List.take_left]
    have hsub : sub (h.map cv) 0 (k : Int) = some (pre.map cv) := by
      have := sub_pre (pre.map cv) ((x :: r).map cv)
      rw [← List.map_append, ← he, List.length_map, hk] at this
      exact this
    have hf := fromAt_bound H k x
    have ef : fromL h (x :: r) k = fromAt h k x :: fromL h r (k + 1) := rfl
    have hidx : idx (h.map cv) ((k : Nat) : Int) = some (cv x) := idx_at (by rw [List.getElem?_map, hat]; rfl)
    have hwx : wfI .i64 (cv x).f_Txn = true := wf6 (by show -1000 ≤ x.f_Txn; omega) (by show x.f_Txn ≤ 1000; omega)
    have hwf : wfI .i64 (fromAt h k x) = true := wf6 (by omega) (by omega)
    have m2 : mget keq1 0 (cv x).f_Txn (endMap fun t => endL t 2 h 0) = endL x.f_Txn 2 h 0 := mget_end htx.1 htx.2
    rw [ef, hs_Recovery_l1.eq_2, hidx]
    simp only [Option.bind_some]
    have eA : okA h (x :: r) k = ((!readsOf h k x || mayA h x (fromAt h k x)) && okA h r (k + 1)) := rfl
    have eB : okB h (x :: r) k = ((!readsOf h k x || mayB h k (fromAt h k x)) && okB h r (k + 1)) := rfl
    have eC : okC h (x :: r) k = ((decide (x.f_Kind > 1) || !((h.take k).any (badP h k x))) && okC h r (k + 1)) := rfl
    rw [eA, eB, eC]
    have h21 : ∀ a b : Bool, hs_Recovery_j21 (h.map cv) k (endMap fun t => endL t 2 h 0) (endMap fun t => endL t 3 h 0) c (cv x) (hs_Recovery_j17 (hs_Recovery_l1 (h.map cv) (endMap fun t => endL t 2 h 0) (endMap fun t => endL t 3 h 0) K (fromL h r (k + 1)) (k + 1))) a b = K (a && okA h r (k + 1)) (b && okB h r (k + 1)) (c && ((decide (x.f_Kind > 1) || !((h.take k).any (badP h k x))) && okC h r (k + 1))) := by
      intro a b
      unfold hs_Recovery_j21 hs_Recovery_j17
      rw [hsub]
      simp only [Option.bind_some]
      rw [lenOk_of (by rw [List.length_map]; omega), chk_true, prec_l2 H k x a b _ pre 0 c (fun p hp => by rw [he]; exact List.mem_append_left _ hp)]
      simp only [ih]
      rw [htk]
      have : decide ((cv x).f_Kind > 1) = decide (x.f_Kind > 1) := rfl
      rw [this]
      cases decide (x.f_Kind > 1) with
      | true => simp only [cond_true, Bool.true_or, Bool.true_and]
      | false => simp only [cond_false, Bool.false_or, Bool.and_assoc]
    have h22 : ∀ g : Bool, (g = true → fromAt h k x > 0) → hs_Recovery_j22 k (fromAt h k x) (endMap fun t => endL t 2 h 0) a b (cv x) (hs_Recovery_j21 (h.map cv) k (endMap fun t => endL t 2 h 0) (endMap fun t => endL t 3 h 0) c (cv x) (hs_Recovery_j17 (hs_Recovery_l1 (h.map cv) (endMap fun t => endL t 2 h 0) (endMap fun t => endL t 3 h 0) K (fromL h r (k + 1)) (k + 1)))) g = K (a && ((!g || mayA h x (fromAt h k x)) && okA h r (k + 1))) (b && ((!g || mayB h k (fromAt h k x)) && okB h r (k + 1))) (c && ((decide (x.f_Kind > 1) || !((h.take k).any (badP h k x))) && okC h r (k + 1))) := by
      intro g hg
      unfold hs_Recovery_j22 hs_Recovery_j27
      simp only [h21]
      cases g with
      | false => simp only [cond_false, Bool.not_false, Bool.true_or, Bool.true_and]
      | true =>
        have hpos := hg rfl
        have m1 : mget keq1 0 (fromAt h k x) (endMap fun t => endL t 2 h 0) = endL (fromAt h k x) 2 h 0 := mget_end (by omega) hf.2
        simp only [cond_true, hwx, hwf, chk_true, m1, m2, Bool.not_true, Bool.false_or]
        unfold mayA mayB
        cases a <;> cases b <;> cases decide (endL x.f_Txn 2 h 0 < 0) <;> cases decide (endL (fromAt h k x) 2 h 0 ≥ 0) <;> cases decide (endL (fromAt h k x) 2 h 0 < (k : Int)) <;> cases decide (endL (fromAt h k x) 2 h 0 < endL x.f_Txn 2 h 0) <;> rfl
    have hrd : readsOf h k x = (decide (fromAt h k x > 0) && (fromAt h k x != (cv x).f_Txn)) := rfl
    rw [hrd]
    by_cases hp : fromAt h k x > 0
    · rw [decide_eq_true hp]
      simp only [cond_true, Bool.true_and]
      exact h22 _ fun _ => hp
    · rw [decide_eq_false hp]
      simp only [cond_false, Bool.false_and]
      exact h22 false fun e => by cases e
theorem recovery_any (h : List rf5Op) : hs_Recovery bigFuel ((h.take 43).map cv) = some (if validB h then (okA h h 0, okB h h 0, okC h h 0, 0) else (false, false, false, 2)) := by
  unfold hs_Recovery
  rw [valid_same]
  simp only [Option.bind_some]
  cases hv : validB h with
  | false => rfl
  | true =>
    obtain ⟨H, hl⟩ := hist_of hv
    rw [List.take_of_length_le (by omega)]
    simp only [Bool.not_true, cond_false, if_true, from_val H, ending_val H (k := 2) (by omega), ending_val H (k := 3) (by omega), Option.bind_some]
    rw [lenOk_of (by rw [fromL_len]; omega), chk_true, prec_l1 H _ h 0 true true true [] rfl rfl]
    rfl
def badR (h : List rf5Op) (i : Nat) (x p : rf5Op) : Bool := (p.f_Kind == 1) && ((p.f_Item == x.f_Item) && ((p.f_Txn != x.f_Txn) && !(decide (overL h p.f_Txn ≥ 0) && decide (overL h p.f_Txn < (i : Int)))))
theorem bad_same {h : List rf5Op} {i : Nat} {x : rf5Op} (hx : h[i]? = some x) (h0 : x.f_Kind ≤ 1) (p : rf5Op) : badR h i x p = badP h i x p := by
  unfold badR badP
  congr 3
  have hne : overL h p.f_Txn ≠ (i : Int) := fun e => by
    unfold overL at e
    have : ∃ k, k > 1 ∧ endL p.f_Txn k h 0 = (i : Int) := by
      split at e
      · exact ⟨3, by omega, e⟩
      · exact ⟨2, by omega, e⟩
    obtain ⟨k, hk, e⟩ := this
    obtain ⟨y, h1, _, h3⟩ := endL_at _ _ h 0 i e
    rw [Nat.sub_zero, hx] at h1
    cases h1
    omega
  by_cases h1 : overL h p.f_Txn < 0
  · rw [decide_eq_true h1, decide_eq_false (p := overL h p.f_Txn ≥ 0) (by omega)]
    rfl
  · rw [decide_eq_false h1, decide_eq_true (p := overL h p.f_Txn ≥ 0) (by omega)]
    by_cases h2 : overL h p.f_Txn < (i : Int)
    · rw [decide_eq_true h2, decide_eq_false (by omega)]
      rfl
    · rw [decide_eq_false h2, decide_eq_true (by omega)]
      rfl
theorem rrec_l2 {h : List rf5Op} (hl : lenOk h = true) (i : Nat) (x : rf5Op) (a b : Bool) (K : Bool → Bool → Bool → Option (Bool × Bool × Bool)) : ∀ (e : List rf5Op) (k : Nat) (v : Bool),
    rf5_Recovery_l2 h i x a b K e k v = K a b (v && (decide (x.f_Kind > 1) || !(e.any (badR h i x))))
  | [], k, v => by rw [rf5_Recovery_l2.eq_1]; simp
  | p :: e, k, v => by
    rw [rf5_Recovery_l2.eq_2]
    unfold rf5_Recovery_j29 rf5_Recovery_j27
    simp only [end_val hl, Option.bind_some, rrec_l2 hl i x a b K e (k + 1)]
    rw [List.any_cons]
    have hb : badR h i x p = ((p.f_Kind == 1) && ((p.f_Item == x.f_Item) && ((p.f_Txn != x.f_Txn) && !(decide (overL h p.f_Txn ≥ 0) && decide (overL h p.f_Txn < (i : Int)))))) := rfl
    have ho : (if endL p.f_Txn 3 h 0 > endL p.f_Txn 2 h 0 then endL p.f_Txn 3 h 0 else endL p.f_Txn 2 h 0) = overL h p.f_Txn := rfl
    rw [hb, ho]
    generalize e.any (badR h i x) = u
    by_cases h2 : x.f_Kind > 1
    · rw [decide_eq_true h2, decide_eq_false (by omega)]
      rfl
    · rw [decide_eq_false h2, decide_eq_true (show x.f_Kind < 2 by omega)]
      cases (p.f_Kind == 1) with
      | false => rfl
      | true =>
        cases (p.f_Item == x.f_Item) with
        | false => rfl
        | true =>
          cases (p.f_Txn != x.f_Txn) with
          | false => rfl
          | true => cases decide (overL h p.f_Txn ≥ 0) <;> cases decide (overL h p.f_Txn < (i : Int)) <;> cases v <;> rfl
theorem rrec_l1 {h : List rf5Op} (H : Hist h) (K : Bool → Bool → Bool → Option (Bool × Bool × Bool)) : ∀ (r : List rf5Op) (k : Nat) (a b c : Bool) (pre : List rf5Op), h = pre ++ r → pre.length = k →
    rf5_Recovery_l1 h K (fromL h r k) k a b c = K (a && okA h r k) (b && okB h r k) (c && okC h r k)
  | [], k, a, b, c, pre, _, _ => by unfold fromL; rw [rf5_Recovery_l1.eq_1]; simp [okA, okB, okC]
  | x :: r, k, a, b, c, pre, he, hk => by
    have hlen := H.len
    have hl2 := congrArg List.length he
    rw [List.length_append, List.length_cons] at hl2
    have hlo : lenOk h = true := lenOk_of (by omega)
    have ih := fun a b c => rrec_l1 H K r (k + 1) a b c (pre ++ [x]) (by rw [he]; simp) (by simp [hk])
    have hat : h[k]? = some x := by rw [he, ← hk]; simp
    have htk : h.take k = pre := by rw [he, ← hk, List.take_left]
    have hsub : sub h 0 (k : Int) = some pre := by
      have := sub_pre pre (x :: r)
      rw [← he, hk] at this
      exact this
    have ef : fromL h (x :: r) k = fromAt h k x :: fromL h r (k + 1) := rfl
    rw [ef, rf5_Recovery_l1.eq_2, idx_at hat]
    simp only [Option.bind_some]
    have eA : okA h (x :: r) k = ((!readsOf h k x || mayA h x (fromAt h k x)) && okA h r (k + 1)) := rfl
    have eB : okB h (x :: r) k = ((!readsOf h k x || mayB h k (fromAt h k x)) && okB h r (k + 1)) := rfl
    have eC : okC h (x :: r) k = ((decide (x.f_Kind > 1) || !((h.take k).any (badP h k x))) && okC h r (k + 1)) := rfl
    rw [eA, eB, eC]
    have hany : (decide (x.f_Kind > 1) || !(pre.any (badR h k x))) = (decide (x.f_Kind > 1) || !(pre.any (badP h k x))) := by
      by_cases h2 : x.f_Kind > 1
      · rw [decide_eq_true h2]; rfl
      · have : badR h k x = badP h k x := funext fun p => bad_same hat (by omega) p
        rw [this]
    unfold rf5_Recovery_j15 rf5_Recovery_j14 rf5_Recovery_j20 rf5_Recovery_j10
    simp only [hsub, Option.bind_some, end_val hlo]
    rw [lenOk_of (l := pre) (by omega)]
    simp only [chk_true, rrec_l2 hlo, ih, hany, htk]
    have hrd : readsOf h k x = (decide (fromAt h k x > 0) && (fromAt h k x != x.f_Txn)) := rfl
    rw [hrd]
    unfold mayA mayB
    generalize (decide (x.f_Kind > 1) || !(pre.any (badP h k x))) = z
    cases decide (fromAt h k x > 0) with
    | false => simp [Bool.and_assoc]
    | true =>
      cases (fromAt h k x != x.f_Txn) with
      | false => simp [Bool.and_assoc]
      | true =>
        cases a <;> cases b <;> cases decide (endL x.f_Txn 2 h 0 < 0) <;> cases decide (endL (fromAt h k x) 2 h 0 ≥ 0) <;> cases decide (endL (fromAt h k x) 2 h 0 < (k : Int)) <;> cases decide (endL (fromAt h k x) 2 h 0 < endL x.f_Txn 2 h 0) <;> simp [Bool.and_assoc]
theorem rrecovery_val {h : List rf5Op} (H : Hist h) : rf5_Recovery h = some (okA h h 0, okB h h 0, okC h h 0) := by
  have := H.len
  unfold rf5_Recovery
  rw [rfrom_val H]
  simp only [Option.bind_some]
  rw [lenOk_of (by rw [fromL_len]; omega), chk_true, rrec_l1 H _ h 0 true true true [] rfl rfl]
  rfl
theorem historyRecovers_true {h : List rf5Op} (hl : lenOk h = true) : lw5_HistoryRecovers bigFuel h = some true := by
  unfold lw5_HistoryRecovers
  rw [of_val hl]
  simp only [Option.bind_some, recovery_any, rvalid_val hl, awake_val]
  cases hv : validB h with
  | false => rfl
  | true =>
    obtain ⟨H, hlen⟩ := hist_of hv
    simp only [Bool.not_true, cond_false, if_true, rrecovery_val H, Option.bind_some, beq_self_eq_true, cond_true]
    rfl
end Go.AM
