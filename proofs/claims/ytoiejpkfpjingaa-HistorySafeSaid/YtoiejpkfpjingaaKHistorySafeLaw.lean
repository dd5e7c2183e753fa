/- s -/
import Derived.Test.YtoiejpkfpjingaaK151
set_option linter.unusedVariables false
set_option linter.unusedSimpArgs false
set_option maxRecDepth 100000
namespace Go.AM
open Go.Proofs
def bigFuel : Nat := 36893488147419103232
theorem lenOk_of {α : Type} {l : List α} (h : l.length ≤ 9223372036854775807) : lenOk l = true := Nat.ble_eq_true_of_le (by omega)
theorem chk_true {α : Type} {x : Option α} : chk true x = x := rfl
theorem wr {i : Int} (h1 : -9000000000000000000 ≤ i) (h2 : i ≤ 9000000000000000000) : IntKind.wrap .i64 i = i := wrap_id (by omega) (by omega)
theorem capS {b n : Nat} (hb : b ≤ 1000) (hn : n ≤ 100000) : capOk b n = true := by
 have : n * b ≤ 100000 * 1000 := Nat.mul_le_mul hn hb
 simp only [capOk, Bool.and_eq_true, Nat.ble_eq]
 omega
theorem wf6 {i : Int} (h1 : -1000 ≤ i) (h2 : i ≤ 1000) : wfI .i64 i = true := by
 unfold wfI Lit.wf
 simp [IntKind.min, IntKind.max, IntKind.signed, IntKind.bits]
 omega
theorem mget_mset {V : Type} (z v : V) (k t : Int) : ∀ l : List (Int × V), mget keq1 z t (mset keq1 k v l) = if k = t then v else mget keq1 z t l
 | [] => by
  unfold mset mget mget keq1
  by_cases h : k = t
  ·subst h; simp
  ·have : (k == t) = false := beq_eq_false_iff_ne.2 h
   rw [this, if_neg h]
   rfl
 | p :: r => by
  have ih := mget_mset z v k t r
  unfold mset
  by_cases hk : p.1 = k
  ·have e1 : keq1 p.1 k = true := by unfold keq1; simp [hk]
   rw [e1]
   simp only [cond_true]
   unfold mget
   have e2 : keq1 (p.1, v).1 t = keq1 p.1 t := rfl
   rw [e2]
   by_cases h : k = t
   ·rw [if_pos h]
    have : keq1 p.1 t = true := by unfold keq1; simp [hk, h]
    rw [this]; rfl
   ·rw [if_neg h]
    have : keq1 p.1 t = false := by unfold keq1; rw [hk]; exact beq_eq_false_iff_ne.2 h
    rw [this]; rfl
  ·have e1 : keq1 p.1 k = false := by unfold keq1; exact beq_eq_false_iff_ne.2 hk
   rw [e1]
   simp only [cond_false]
   unfold mget
   rw [ih]
   by_cases hp : p.1 = t
   ·have e2 : keq1 p.1 t = true := by unfold keq1; simp [hp]
    have h : ¬ k = t := fun e => hk (by rw [hp, e])
    simp only [e2, if_neg h]
   ·have e2 : keq1 p.1 t = false := by unfold keq1; exact beq_eq_false_iff_ne.2 hp
    rw [e2]
    rfl
theorem mset_len {V : Type} (k : Int) (v : V) : ∀ l : List (Int × V), (mset keq1 k v l).length ≤ l.length + 1
 | [] => by simp [mset]
 | p :: r => by
  have := mset_len k v r
  unfold mset
  cases keq1 p.1 k <;> simp <;> omega
def cv (x : rf5Op) : hsOp := hsOp.mk x.f_Txn x.f_Kind x.f_Item
theorem of_l1 (K : List hsOp → Option (List hsOp)) : ∀ (r : List rf5Op) (k : Nat) (v : List hsOp), v.length = k → k ≤ 43 → lw5_of_l1 K r k v = K (v ++ (r.take (43 - k)).map cv)
 | [], k, v, hv, hk => by rw [lw5_of_l1.eq_1]; simp
 | x :: r, k, v, hv, hk => by
  rw [lw5_of_l1.eq_2]
  by_cases h : k = 43
  ·subst h
   rw [decide_eq_true (by omega)]
   simp
  ·rw [decide_eq_false (by omega), capS (by omega) (by simp; omega)]
   simp only [cond_false, chk_true]
   rw [of_l1 K r (k + 1) _ (by simp; omega) (by omega)]
   have : 43 - k = (43 - (k + 1)) + 1 := by omega
   rw [this, List.take_succ_cons, List.map_cons, List.append_assoc]
   rfl
theorem of_val {h : List rf5Op} (hl : lenOk h = true) : lw5_of h = some ((h.take 43).map cv) := by
 unfold lw5_of
 rw [hl, chk_true, of_l1 _ h 0 [] rfl (by omega)]
 rfl
def bad6 (x : rf5Op) : Bool := decide (x.f_Txn < 1) || (decide (x.f_Txn > 6) || (decide (x.f_Kind < 0) || (decide (x.f_Kind > 3) || (decide (x.f_Item < 0) || decide (x.f_Item > 5)))))
def ended (t : Int) (l : List rf5Op) : Bool := l.any fun p => (p.f_Txn == t) && decide (p.f_Kind > 1)
def okFrom (pre : List rf5Op) : List rf5Op → Bool
 | [] => true
 | x :: r => (!bad6 x && (!(decide (x.f_Kind > 1) && (x.f_Item != 0)) && !ended x.f_Txn pre)) && okFrom (pre ++ [x]) r
theorem chain6 {β : Type} (a z : β) (d1 d2 d3 d4 d5 d6 : Bool) : (bif d1 then a else bif d2 then a else bif d3 then a else bif d4 then a else bif d5 then a else bif d6 then a else z) = bif (d1 || (d2 || (d3 || (d4 || (d5 || d6))))) then a else z := by
 cases d1 <;> cases d2 <;> cases d3 <;> cases d4 <;> cases d5 <;> cases d6 <;> rfl
def validB (h : List rf5Op) : Bool := okFrom [] h && decide (h.length ≤ 40)
theorem pvalid_l1 (K : Option Bool) : ∀ (r : List rf5Op) (k : Nat) (pre : List rf5Op) (m : List (Int × Bool)), (∀ t, mget keq1 false t m = ended t pre) → m.length ≤ pre.length → pre.length + r.length ≤ 1000 →
  hs_Valid_l1 K (r.map cv) k m = bif okFrom pre r then K else some false
 | [], k, pre, m, _, _, _ => by rw [List.map_nil, hs_Valid_l1.eq_1]; rfl
 | x :: r, k, pre, m, hm, hml, hl => by
  have hl : pre.length + (r.length + 1) ≤ 1000 := hl
  have ih := fun m' h1 h2 => pvalid_l1 K r (k + 1) (pre ++ [x]) m' h1 h2 (by simp; omega)
  rw [List.map_cons, hs_Valid_l1.eq_2]
  unfold hs_Valid_j12 hs_Valid_j15
  simp only [chain6]
  have e5 : decide ((cv x).f_Item ≥ 6) = decide (x.f_Item > 5) := by
   by_cases hc : x.f_Item > 5
   ·rw [decide_eq_true hc]; exact decide_eq_true (show x.f_Item ≥ 6 by omega)
   ·rw [decide_eq_false hc]; exact decide_eq_false (show ¬ x.f_Item ≥ 6 by omega)
  rw [e5]
  have : (decide ((cv x).f_Txn < 1) || (decide ((cv x).f_Txn > 6) || (decide ((cv x).f_Kind < 0) || (decide ((cv x).f_Kind > 3) || (decide ((cv x).f_Item < 0) || decide (x.f_Item > 5)))))) = bad6 x := rfl
  rw [this]
  show _ = bif (!bad6 x && (!(decide (x.f_Kind > 1) && (x.f_Item != 0)) && !ended x.f_Txn pre)) && okFrom (pre ++ [x]) r then K else some false
  cases hb : bad6 x with
  | true =>
   simp only [cond_true]
   cases ((cv x).f_Kind == 2) <;> rfl
  | false =>
   simp only [bad6, Bool.or_eq_false_iff, decide_eq_false_iff_not] at hb
   obtain ⟨b1, b2, b3, b4, b5, b6⟩ := hb
   have hwf : wfI .i64 (cv x).f_Txn = true := wf6 (by show -1000 ≤ x.f_Txn; omega) (by show x.f_Txn ≤ 1000; omega)
   have hml2 : Nat.blt m.length 1000000000 = true := Nat.ble_eq_true_of_le (by omega)
   have hmt : mget keq1 false (cv x).f_Txn m = ended x.f_Txn pre := hm x.f_Txn
   simp only [cond_false, hwf, chk_true, hml2, hmt]
   have hstep : ∀ b : Bool, b = decide (x.f_Kind > 1) → ended x.f_Txn pre = false → hs_Valid_l1 K (r.map cv) (k + 1) (mset keq1 (cv x).f_Txn b m) = bif okFrom (pre ++ [x]) r then K else some false := by
    intro b hb2 hen
    refine ih _ (fun t => ?_) (by have := mset_len x.f_Txn b m; rw [List.length_append, List.length_singleton]; show (mset keq1 x.f_Txn b m).length ≤ _; omega)
    show mget keq1 false t (mset keq1 x.f_Txn b m) = _
    rw [mget_mset, hm]
    unfold ended at hen ⊢
    rw [List.any_append, List.any_cons, List.any_nil, Bool.or_false]
    by_cases ht : x.f_Txn = t
    ·subst ht
     rw [if_pos rfl, hen, hb2]
     simp
    ·rw [if_neg ht]
     have : (x.f_Txn == t) = false := beq_eq_false_iff_ne.2 ht
     rw [this]
     simp
   have k2 : ((cv x).f_Kind == 2) = (x.f_Kind == 2) := rfl
   have k3 : ((cv x).f_Kind == 3) = (x.f_Kind == 3) := rfl
   have i0 : ((cv x).f_Item != 0) = (x.f_Item != 0) := rfl
   rw [k2, k3, i0]
   by_cases hk : x.f_Kind > 1
   ·have h23 : (x.f_Kind == 2) = true ∨ (x.f_Kind == 2) = false ∧ (x.f_Kind == 3) = true := by
     by_cases h2 : x.f_Kind = 2
     ·left; simp [h2]
     ·right; exact ⟨beq_eq_false_iff_ne.2 h2, by simp; omega⟩
    have hst := hstep true (decide_eq_true hk).symm
    rw [decide_eq_true hk]
    cases hi : (x.f_Item != 0) with
    | true => rcases h23 with h2 | ⟨h2, h3⟩ <;> simp [*]
    | false =>
     cases hen : ended x.f_Txn pre with
     | true => rcases h23 with h2 | ⟨h2, h3⟩ <;> simp [*]
     | false =>
      have := hst hen
      rcases h23 with h2 | ⟨h2, h3⟩ <;> simp [*]
   ·have h2 : (x.f_Kind == 2) = false := beq_eq_false_iff_ne.2 (by omega)
    have h3 : (x.f_Kind == 3) = false := beq_eq_false_iff_ne.2 (by omega)
    have hst := hstep false (decide_eq_false hk).symm
    rw [decide_eq_false hk, h2, h3]
    cases hen : ended x.f_Txn pre with
    | true => simp
    | false =>
     have := hst hen
     simp [*]
theorem pvalid_val {h : List rf5Op} (hl : h.length ≤ 1000) : hs_Valid (h.map cv) = some (validB h) := by
 unfold hs_Valid validB
 rw [List.length_map]
 by_cases hc : h.length ≤ 40
 ·rw [decide_eq_false (by omega), lenOk_of (by simp; omega), decide_eq_true hc]
  simp only [cond_false, chk_true]
  rw [pvalid_l1 _ h 0 [] [] (fun t => rfl) (by simp) (by simp; omega)]
  unfold hs_Valid_j7
  cases okFrom [] h <;> rfl
 ·rw [decide_eq_true (by omega), decide_eq_false hc]
  simp
theorem valid_same {h : List rf5Op} : hs_Valid ((h.take 43).map cv) = some (validB h) := by
 rw [pvalid_val (by rw [List.length_take]; omega)]
 by_cases hc : h.length ≤ 43
 ·rw [List.take_of_length_le hc]
 ·unfold validB
  rw [decide_eq_false (p := h.length ≤ 40) (by omega), decide_eq_false (p := (h.take 43).length ≤ 40) (by rw [List.length_take]; omega)]
  simp
theorem okFrom_mem : ∀ (r pre : List rf5Op), okFrom pre r = true → ∀ x, x ∈ r → bad6 x = false ∧ (x.f_Kind > 1 → x.f_Item = 0)
 | [], pre, _, x, hx => by cases hx
 | y :: r, pre, h, x, hx => by
  unfold okFrom at h
  simp only [Bool.and_eq_true, Bool.not_eq_true'] at h
  obtain ⟨⟨h1, h2, h3⟩, h4⟩ := h
  rcases List.mem_cons.1 hx with rfl | hx
  ·refine ⟨h1, fun hk => ?_⟩
   rw [decide_eq_true hk] at h2
   simpa using h2
  ·exact okFrom_mem r _ h4 x hx
structure Hist (h : List rf5Op) : Prop where
 len : h.length ≤ 1000
 txn : ∀ x, x ∈ h → 1 ≤ x.f_Txn ∧ x.f_Txn ≤ 6
 kind : ∀ x, x ∈ h → 0 ≤ x.f_Kind ∧ x.f_Kind ≤ 3
 item : ∀ x, x ∈ h → 0 ≤ x.f_Item ∧ x.f_Item ≤ 5
 zero : ∀ x, x ∈ h → x.f_Kind > 1 → x.f_Item = 0
theorem hist_of {h : List rf5Op} (hv : validB h = true) : Hist h ∧ h.length ≤ 40 := by
 unfold validB at hv
 simp only [Bool.and_eq_true, decide_eq_true_eq] at hv
 have hm := okFrom_mem h [] hv.1
 have hb : ∀ x, x ∈ h → (1 ≤ x.f_Txn ∧ x.f_Txn ≤ 6) ∧ (0 ≤ x.f_Kind ∧ x.f_Kind ≤ 3) ∧ (0 ≤ x.f_Item ∧ x.f_Item ≤ 5) := by
  intro x hx
  have := (hm x hx).1
  simp only [bad6, Bool.or_eq_false_iff, decide_eq_false_iff_not] at this
  omega
 exact ⟨⟨by omega, fun x hx => (hb x hx).1, fun x hx => (hb x hx).2.1, fun x hx => (hb x hx).2.2, fun x hx => (hm x hx).2⟩, hv.2⟩
def endL (t k : Int) : List rf5Op → Nat → Int
 | [], _ => -1
 | x :: r, i => bif (x.f_Txn == t) && (x.f_Kind == k) then (i : Int) else endL t k r (i + 1)
theorem index_l1 {t k : Int} (hk : k > 1) : ∀ (r : List rf5Op) (i : Nat), (∀ x, x ∈ r → x.f_Kind > 1 → x.f_Item = 0) → sl_Index_hsOp_l1 (hsOp.mk t k 0) (sl_Index_hsOp_j4) (r.map cv) i = some (endL t k r i)
 | [], i, _ => by rw [List.map_nil, sl_Index_hsOp_l1.eq_1]; rfl
 | x :: r, i, hz => by
  rw [List.map_cons, sl_Index_hsOp_l1.eq_2, index_l1 hk r (i + 1) fun y hy => hz y (List.mem_cons_of_mem _ hy)]
  have : ((t == (cv x).f_Txn) && ((k == (cv x).f_Kind) && (((0 : Int) == (cv x).f_Item) && true))) = ((x.f_Txn == t) && (x.f_Kind == k)) := by
   show ((t == x.f_Txn) && ((k == x.f_Kind) && (((0 : Int) == x.f_Item) && true))) = _
   rw [Bool.beq_comm (a := t), Bool.beq_comm (a := k)]
   by_cases h1 : x.f_Kind = k
   ·have := hz x (List.mem_cons_self ..) (by omega)
    rw [this]
    simp
   ·have : (x.f_Kind == k) = false := beq_eq_false_iff_ne.2 h1
    rw [this]
    simp
  rw [this]
  show _ = some (bif (x.f_Txn == t) && (x.f_Kind == k) then (i : Int) else endL t k r (i + 1))
  cases (x.f_Txn == t) && (x.f_Kind == k) <;> rfl
theorem index_val {h : List rf5Op} (H : Hist h) {t k : Int} (hk : k > 1) : sl_Index_hsOp (h.map cv) (hsOp.mk t k 0) = some (endL t k h 0) := by
 have := H.len
 unfold sl_Index_hsOp
 rw [lenOk_of (by simp; omega), chk_true]
 exact index_l1 hk h 0 H.zero
def endMap (f : Int → Int) : List (Int × Int) := [(1, f 1), (2, f 2), (3, f 3), (4, f 4), (5, f 5), (6, f 6)]
theorem mget_end {f : Int → Int} {t : Int} (h1 : 1 ≤ t) (h2 : t ≤ 6) : mget keq1 0 t (endMap f) = f t := by
 have : t = 1 ∨ t = 2 ∨ t = 3 ∨ t = 4 ∨ t = 5 ∨ t = 6 := by omega
 rcases this with rfl | rfl | rfl | rfl | rfl | rfl <;> rfl
theorem ending_step {h : List rf5Op} (H : Hist h) {k : Int} (hk : k > 1) (K : List (Int × Int) → Option (List (Int × Int))) {m : Nat} {v : List (Int × Int)} (t t' : Int) (h1 : 1 ≤ t) (h2 : t ≤ 6) (ht : t' = t + 1) (hv : v.length ≤ 10) :
  hs_History_ending_l1 (h.map cv) k K (m + 1) v t = hs_History_ending_l1 (h.map cv) k K m (mset keq1 t (endL t k h 0) v) t' := by
 subst ht
 rw [hs_History_ending_l1.eq_2, decide_eq_true h2, index_val H hk]
 simp only [cond_true, Option.bind_some]
 rw [wf6 (by omega) (by omega), chk_true, Nat.ble_eq_true_of_le (show v.length + 1 ≤ 1000000000 by omega) |> (fun e => show Nat.blt v.length 1000000000 = true from e), chk_true, wr (by omega) (by omega)]
theorem ending_val {h : List rf5Op} (H : Hist h) {k : Int} (hk : k > 1) : hs_History_ending bigFuel (h.map cv) k = some (endMap fun t => endL t k h 0) := by
 unfold hs_History_ending
 have e : bigFuel = 36893488147419103225 + 1 + 1 + 1 + 1 + 1 + 1 + 1 := rfl
 rw [e, ending_step H hk _ 1 2 (by omega) (by omega) rfl (by simp), ending_step H hk _ 2 3 (by omega) (by omega) rfl (Nat.le_of_ble_eq_true rfl), ending_step H hk _ 3 4 (by omega) (by omega) rfl (Nat.le_of_ble_eq_true rfl), ending_step H hk _ 4 5 (by omega) (by omega) rfl (Nat.le_of_ble_eq_true rfl), ending_step H hk _ 5 6 (by omega) (by omega) rfl (Nat.le_of_ble_eq_true rfl), ending_step H hk _ 6 7 (by omega) (by omega) rfl (Nat.le_of_ble_eq_true rfl)]
 rw [hs_History_ending_l1.eq_2, decide_eq_false (by omega)]
 rfl
theorem sortI_id {l : List Int} (hm : l.Pairwise fun a b => a ≤ b) : sortI l = l := by
 have h1 : (sortI l).Pairwise fun a b => decide (a ≤ b) = true := List.pairwise_mergeSort (by intro a b c; simp; omega) (by intro a b; simp; omega) l
 refine List.Perm.eq_of_pairwise (le := fun a b => a ≤ b) (fun a b _ _ x y => by omega) (h1.imp fun h => by simpa using h) hm (List.mergeSort_perm l _)
def commL (h : List rf5Op) : List Int := ([1, 2, 3, 4, 5, 6] : List Int).filter fun t => decide (endL t 2 h 0 ≥ 0)
theorem comm_end (f : Int → Int) : comm (endMap f) = ([1, 2, 3, 4, 5, 6] : List Int).filter fun t => decide (f t ≥ 0) := by
 have : endMap f = ([1, 2, 3, 4, 5, 6] : List Int).map fun t => (t, f t) := rfl
 unfold comm
 rw [this, List.filter_map, List.map_map]
 have e : (Prod.fst ∘ fun t : Int => (t, f t)) = id := rfl
 rw [e, List.map_id]
 rfl
theorem committed_val {h : List rf5Op} (H : Hist h) : hs_History_committed bigFuel (h.map cv) = some (commL h) := by
 unfold hs_History_committed
 rw [ending_val H (by omega)]
 simp only [Option.bind_some]
 have : decide ((endMap fun t => endL t 2 h 0).length ≤ 1000) = true := rfl
 rw [this, chk_true, comm_end]
 have hp : (([1, 2, 3, 4, 5, 6] : List Int).filter fun t => decide (endL t 2 h 0 ≥ 0)).Pairwise fun a b => a ≤ b := by
  refine List.Pairwise.filter _ ?_
  decide
 rw [sortI_id hp]
 rfl
def sample : List rf5Op := [⟨2, 1, 0⟩, ⟨1, 0, 0⟩, ⟨1, 2, 0⟩, ⟨2, 2, 0⟩]
theorem sample_hist : Hist sample := (hist_of (by rfl)).1
theorem awake_val : lw5_awake bigFuel = some true := by
 have e : [(hsOp.mk 2 1 0), (hsOp.mk 1 0 0), (hsOp.mk 1 2 0), (hsOp.mk 2 2 0)] = sample.map cv := rfl
 have hc := committed_val sample_hist
 have hcl : commL sample = [1, 2] := rfl
 rw [hcl] at hc
 have ho : hs_Order bigFuel (sample.map cv) = some ([2, 1], 0) := by
  unfold hs_Order hs_History_part
  rw [hc]
  kernel_rfl
 unfold lw5_awake
 rw [e, ho]
 rfl
def edgeB (es : List (arr2_Int × Bool)) (a b : Int) : Bool := mget keq_arr2_Int false ⟨a, b⟩ es
def srcB (E : Int → Int → Bool) (l : List Int) (b : Int) : Bool := !(l.any fun a => E a b)
def topo (E : Int → Int → Bool) : Nat → List Int → Option (List Int)
 | _, [] => some []
 | 0, _ :: _ => none
 | n + 1, x :: l => match (x :: l).find? (srcB E (x :: l)) with
  | none => none
  | some b => (topo E n ((x :: l).erase b)).map (b :: ·)
theorem keq2_iff (x a : arr2_Int) : keq_arr2_Int x a = true ↔ x = a := by
 cases x; cases a
 simp [keq_arr2_Int]
theorem keq2_no {x a : arr2_Int} (h : ¬ x = a) : keq_arr2_Int x a = false := by rw [← Bool.not_eq_true, keq2_iff]; exact h
theorem mset_len2 {V : Type} (k : arr2_Int) (v : V) : ∀ l : List (arr2_Int × V), (mset keq_arr2_Int k v l).length ≤ l.length + 1
 | [] => by simp [mset]
 | p :: r => by
  have := mset_len2 k v r
  unfold mset
  cases keq_arr2_Int p.1 k <;> simp <;> omega
theorem commL_mem {h : List rf5Op} {t : Int} : t ∈ commL h ↔ (1 ≤ t ∧ t ≤ 6) ∧ endL t 2 h 0 ≥ 0 := by
 unfold commL
 rw [List.mem_filter, decide_eq_true_eq]
 refine and_congr_left fun _ => ?_
 simp
 omega
theorem commL_nodup (h : List rf5Op) : (commL h).Nodup := List.Pairwise.filter _ (by decide)
theorem commL_len (h : List rf5Op) : (commL h).length ≤ 6 := Nat.le_trans (List.length_filter_le _ _) (by simp)
theorem findIdx_find {p : Int → Bool} : ∀ (l : List Int), (l.findIdx? p = none ∧ l.find? p = none) ∨ ∃ k b, l.findIdx? p = some k ∧ l.find? p = some b ∧ l[k]? = some b ∧ (l.Nodup → l.take k ++ l.drop (k + 1) = l.erase b)
 | [] => .inl ⟨rfl, rfl⟩
 | a :: l => by
  rw [List.findIdx?_cons, List.find?_cons]
  cases hp : p a with
  | true => exact .inr ⟨0, a, rfl, rfl, rfl, fun _ => by simp⟩
  | false =>
   rcases findIdx_find (p := p) l with ⟨h1, h2⟩ | ⟨k, b, h1, h2, h3, h4⟩
   ·exact .inl ⟨by rw [h1]; rfl, h2⟩
   ·refine .inr ⟨k + 1, b, by rw [h1]; rfl, h2, by simpa using h3, fun hn => ?_⟩
    have hb : b ≠ a := fun e => by
     have := List.find?_some h2
     rw [e, hp] at this; cases this
    rw [List.erase_cons_tail (by simpa using fun e => hb e.symm)]
    simp only [List.take_succ_cons, List.drop_succ_cons, List.cons_append]
    rw [h4 (List.nodup_cons.1 hn).2]
theorem indexFunc_l1 {g : Int → Option Bool} {p : Int → Bool} : ∀ (l : List Int) (k : Nat), (∀ x, x ∈ l → g x = some (p x)) → sl_IndexFunc_int_l1 g sl_IndexFunc_int_j4 l k = some (match l.findIdx? p with | some j => ((k + j : Nat) : Int) | none => -1)
 | [], k, _ => by rw [sl_IndexFunc_int_l1.eq_1]; rfl
 | x :: l, k, h => by
  rw [sl_IndexFunc_int_l1.eq_2, h x (by simp), Option.bind_some, List.findIdx?_cons, indexFunc_l1 l (k + 1) fun y hy => h y (by simp [hy])]
  cases p x with
  | true => simp
  | false =>
   simp only [cond_false, Bool.false_eq_true, if_false]
   cases l.findIdx? p with
   | none => rfl
   | some j =>
    show some (((k + 1 + j : Nat)) : Int) = some (((k + (j + 1) : Nat)) : Int)
    congr 1; omega
theorem indexFunc_val {l : List Int} (hl : l.length ≤ 100000) {g : Int → Option Bool} {p : Int → Bool} (h : ∀ x, x ∈ l → g x = some (p x)) : sl_IndexFunc_int l g = some (match l.findIdx? p with | some j => (j : Int) | none => -1) := by
 unfold sl_IndexFunc_int
 rw [lenOk_of (by omega), chk_true, indexFunc_l1 l 0 h]
 cases l.findIdx? p <;> simp
theorem containsFunc_val {l : List Int} (hl : l.length ≤ 100000) {g : Int → Option Bool} {p : Int → Bool} (h : ∀ x, x ∈ l → g x = some (p x)) : sl_ContainsFunc_int l g = some (l.any p) := by
 unfold sl_ContainsFunc_int
 rw [indexFunc_val hl h, Option.bind_some]
 congr 1
 cases hf : l.findIdx? p with
 | none =>
  rw [List.findIdx?_eq_none_iff] at hf
  have : l.any p = false := by rw [List.any_eq_false]; intro x hx; simp [hf x hx]
  rw [this]; rfl
 | some j =>
  have : l.any p = true := by
   rw [List.any_eq_true]
   obtain ⟨hj, h1, _⟩ := List.findIdx?_eq_some_iff_getElem.1 hf
   exact ⟨_, List.getElem_mem hj, h1⟩
  rw [this]
  simp
theorem sorted_1 {es : List (arr2_Int × Bool)} {l : List Int} (hl : l.length ≤ 100000) (hw : ∀ x, x ∈ l → wfI .i64 x = true) (b : Int) (hb : wfI .i64 b = true) : hs_edges_sorted_1 b l es = some (srcB (edgeB es) l b) := by
 unfold hs_edges_sorted_1
 rw [containsFunc_val (p := fun a => edgeB es a b) hl fun x hx => ?_]
 ·rfl
 ·unfold hs_edges_sorted_1_1
  rw [hw x hx, hb]
  rfl
theorem sorted_l1 {es : List (arr2_Int × Bool)} (K : List Int → Option (List Int × Bool)) : ∀ (n m : Nat) (v out left : List Int), left.length = n → snap 0 n v = left → left.Nodup → (∀ x, x ∈ left → wfI .i64 x = true) → n < m → out.length + n ≤ 1000 →
  hs_edges_sorted_l1 es K m v n out = match topo (edgeB es) n left with | none => some ([], false) | some o => K (out ++ o)
 | 0, m, v, out, left, hl, hs, _, _, hm, _ => by
  obtain ⟨m, rfl⟩ : ∃ m', m = m' + 1 := ⟨m - 1, by omega⟩
  have : left = [] := List.eq_nil_of_length_eq_zero hl
  subst this
  rw [hs_edges_sorted_l1.eq_2, decide_eq_false (by omega)]
  simp [topo]
 | n + 1, m, v, out, left, hl, hs, hn, hw, hm, ho => by
  obtain ⟨m, rfl⟩ : ∃ m', m = m' + 1 := ⟨m - 1, by omega⟩
  rw [hs_edges_sorted_l1.eq_2, decide_eq_true (by omega), cond_true, hs]
  rw [indexFunc_val (p := srcB (edgeB es) left) (by omega) fun x hx => sorted_1 (by omega) hw x (hw x hx), Option.bind_some]
  have ht : topo (edgeB es) (n + 1) left = match left.find? (srcB (edgeB es) left) with | none => none | some b => (topo (edgeB es) n (left.erase b)).map (b :: ·) := by
   cases left with
   | nil => simp at hl
   | cons x r => rfl
  rw [ht]
  rcases findIdx_find (p := srcB (edgeB es) left) left with ⟨h1, h2⟩ | ⟨k, b, h1, h2, h3, h4⟩
  ·rw [h1, h2]; rfl
  ·rw [h1, h2]
   simp only
   have hk := (List.getElem?_eq_some_iff.1 h3).1
   have hb : b ∈ left := List.mem_of_getElem? h3
   have hvk : v[0 + Int.toNat (k : Int)]? = some b := by
    have := congrArg (fun l => l[k]?) hs
    unfold snap at this
    simp only [List.drop_zero, List.getElem?_take] at this
    rw [if_pos (by omega)] at this
    rw [Nat.zero_add, Int.toNat_natCast, this]; exact h3
   rw [decide_eq_false (by omega), cond_false, decide_eq_true (by omega), chk_true, hvk, Option.bind_some, capS (by omega) (by simp; omega), chk_true, wr (by omega) (by omega)]
   unfold sl_Delete_int
   rw [decide_eq_true ⟨rfl, by omega, by omega, by omega, rfl⟩, chk_true, Option.bind_some, Int.toNat_natCast]
   simp only
   have hle : (left.erase b).length = n := by rw [List.length_erase_of_mem hb]; omega
   have he : left.length - 1 = n := by omega
   rw [he, sorted_l1 K n m _ (out ++ [b]) (left.erase b) hle ?_ (hn.erase b) (fun x hx => hw x (List.mem_of_mem_erase hx)) (by omega) (by simp; omega)]
   ·cases topo (edgeB es) n (left.erase b) with
    | none => rfl
    | some o => simp
   ·unfold snap
    rw [List.drop_zero, h4 hn]
    have : (left.erase b ++ [0]).take n = (left.erase b).take n := by rw [List.take_append_of_le_length (by omega)]
    rw [this, List.take_of_length_le (by omega)]
theorem sorted_val {es : List (arr2_Int × Bool)} {l : List Int} (hl : l.length ≤ 500) (hn : l.Nodup) (hw : ∀ x, x ∈ l → wfI .i64 x = true) : hs_edges_sorted bigFuel es l = some (match topo (edgeB es) l.length l with | none => ([], false) | some o => (o, true)) := by
 unfold hs_edges_sorted sl_Clone_int_own
 rw [capS (by omega) (by omega), chk_true, Option.bind_some, sorted_l1 _ l.length bigFuel l [] l rfl (by unfold snap; simp) hn hw (by unfold bigFuel; omega) (by simp; omega)]
 cases topo (edgeB es) l.length l <;> rfl
theorem flatMap_len {α β : Type} {f : α → List β} {m : Nat} : ∀ {l : List α}, (∀ x, x ∈ l → (f x).length ≤ m) → (l.flatMap f).length ≤ l.length * m
 | [], _ => by simp
 | a :: l, h => by
  rw [List.flatMap_cons, List.length_append, List.length_cons, Nat.add_mul, Nat.one_mul]
  have := flatMap_len (l := l) fun x hx => h x (by simp [hx])
  have := h a (by simp)
  omega
theorem comm_wf {h : List rf5Op} : ∀ x, x ∈ commL h → wfI .i64 x = true := fun x hx => wf6 (by have := (commL_mem.1 hx).1; omega) (by have := (commL_mem.1 hx).1; omega)
def begL (t : Int) : List rf5Op → Nat → Int
 | [], _ => -1
 | x :: r, i => bif x.f_Txn == t then (i : Int) else begL t r (i + 1)
theorem begL_at (t : Int) : ∀ (r : List rf5Op) (i : Nat), (∃ x, x ∈ r ∧ x.f_Txn = t) → (i : Int) ≤ begL t r i ∧ ∃ x, r[(begL t r i - i).toNat]? = some x ∧ x.f_Txn = t
 | [], i, h => by simp at h
 | y :: r, i, h => by
  unfold begL
  by_cases hy : y.f_Txn = t
  ·rw [beq_iff_eq.2 hy, cond_true]
   exact ⟨Int.le_refl _, y, by simp, hy⟩
  ·rw [beq_eq_false_iff_ne.2 hy, cond_false]
   obtain ⟨h1, x, h2, h3⟩ := begL_at t r (i + 1) (by
    obtain ⟨x, hx, hxt⟩ := h
    rcases List.mem_cons.1 hx with rfl | hx
    ·exact absurd hxt hy
    ·exact ⟨x, hx, hxt⟩)
   refine ⟨by omega, x, ?_, h3⟩
   have e : (begL t r (i + 1) - (i : Int)).toNat = (begL t r (i + 1) - ((i + 1 : Nat) : Int)).toNat + 1 := by omega
   rw [e, List.getElem?_cons_succ]
   exact h2
theorem begL_le (t : Int) : ∀ (r : List rf5Op) (i j : Nat) (x : rf5Op), r[j]? = some x → x.f_Txn = t → begL t r i ≤ ((i + j : Nat) : Int)
 | [], i, j, x, h, _ => by simp at h
 | y :: r, i, j, x, h, ht => by
  unfold begL
  by_cases hy : y.f_Txn = t
  ·rw [beq_iff_eq.2 hy, cond_true]; omega
  ·rw [beq_eq_false_iff_ne.2 hy, cond_false]
   cases j with
   | zero => simp at h; subst h; exact absurd ht hy
   | succ j =>
    have := begL_le t r (i + 1) j x (by simpa using h) ht
    omega
theorem endL_some {t k : Int} : ∀ (r : List rf5Op) (i : Nat), 0 ≤ endL t k r i → ∃ j x, endL t k r i = ((i + j : Nat) : Int) ∧ r[j]? = some x ∧ x.f_Txn = t ∧ x.f_Kind = k := by
 intro r
 induction r with
 | nil => intro i h; simp [endL] at h
 | cons y r ih =>
  intro i h
  unfold endL at h ⊢
  cases hc : ((y.f_Txn == t) && (y.f_Kind == k)) with
  | true =>
   rw [cond_true]
   rw [Bool.and_eq_true, beq_iff_eq, beq_iff_eq] at hc
   exact ⟨0, y, by simp, rfl, hc.1, hc.2⟩
  | false =>
   rw [hc, cond_false] at h
   rw [cond_false]
   obtain ⟨j, x, h1, h2, h3⟩ := ih (i + 1) h
   exact ⟨j + 1, x, by rw [h1]; congr 1; omega, by simpa using h2, h3⟩
theorem beg_end {h : List rf5Op} {t : Int} (ht : t ∈ commL h) : 0 ≤ begL t h 0 ∧ begL t h 0 ≤ endL t 2 h 0 := by
 obtain ⟨_, h2⟩ := commL_mem.1 ht
 obtain ⟨j, x, e1, e2, e3, _⟩ := endL_some h 0 h2
 have h1 := begL_at t h 0 ⟨x, List.mem_of_getElem? e2, e3⟩
 have h3 := begL_le t h 0 j x e2 e3
 rw [e1]
 exact ⟨by simpa using h1.1, h3⟩
def writesL (h : List rf5Op) (t i : Int) : Bool := h.any fun x => (x.f_Txn == t) && ((x.f_Kind == 1) && (x.f_Item == i))
def readsL (t i : Int) : List rf5Op → Bool
 | [] => false
 | x :: r => bif (x.f_Txn == t) && ((x.f_Kind == 1) && ((x.f_Item == i) && true)) then false else bif (x.f_Txn == t) && ((x.f_Kind == 0) && ((x.f_Item == i) && true)) then true else readsL t i r
def ovL (h : List rf5Op) (a b : Int) : Bool := decide (begL a h 0 < endL b 2 h 0) && decide (begL b h 0 < endL a 2 h 0)
structure SnapOk (h : List rf5Op) (s : hssnapshot) : Prop where
 hh : s.f_h = h.map cv
 tx : s.f_txns = commL h
 be : ∀ t, t ∈ commL h → mget keq1 0 t s.f_begin = begL t h 0
 en : ∀ t, t ∈ commL h → mget keq1 0 t s.f_end = endL t 2 h 0
 ln : h.length ≤ 1000
theorem comm_rng {h : List rf5Op} {t : Int} (ht : t ∈ commL h) : 1 ≤ t ∧ t ≤ 6 := (commL_mem.1 ht).1
theorem comm_wfi {h : List rf5Op} {t : Int} (ht : t ∈ commL h) : wfI .i64 t = true := comm_wf t ht
theorem ixf_l1 (t : Int) : ∀ (r : List rf5Op) (i : Nat), sl_IndexFunc_hsOp_l1 (fun y => hs_History_snapshot_1 y t) sl_IndexFunc_hsOp_j4 (r.map cv) i = some (begL t r i)
 | [], i => by rw [List.map_nil, sl_IndexFunc_hsOp_l1.eq_1]; rfl
 | x :: r, i => by
  rw [List.map_cons, sl_IndexFunc_hsOp_l1.eq_2]
  unfold hs_History_snapshot_1 begL
  rw [Option.bind_some]
  show (bif (x.f_Txn == t) then _ else _) = _
  cases (x.f_Txn == t) with
  | true => rfl
  | false => exact ixf_l1 t r (i + 1)
theorem ixf_val {h : List rf5Op} (hl : h.length ≤ 1000) (t : Int) : sl_IndexFunc_hsOp (h.map cv) (fun y => hs_History_snapshot_1 y t) = some (begL t h 0) := by
 unfold sl_IndexFunc_hsOp
 rw [lenOk_of (by simp; omega), chk_true, ixf_l1]
theorem begins_val {h : List rf5Op} (hl : h.length ≤ 1000) : ∀ (l : List Int) (m : List (Int × Int)), ∃ m', beginsP (h.map cv) l m = some m' ∧ ∀ t, mget keq1 0 t m' = if t ∈ l then begL t h 0 else mget keq1 0 t m
 | [], m => ⟨m, rfl, fun t => by simp⟩
 | x :: l, m => by
  unfold beginsP
  rw [ixf_val hl, Option.bind_some]
  obtain ⟨m', h1, h2⟩ := begins_val hl l (mset keq1 x (begL x h 0) m)
  refine ⟨m', h1, fun t => ?_⟩
  rw [h2 t, mget_mset]
  by_cases h3 : t ∈ l
  ·rw [if_pos h3, if_pos (by simp [h3])]
  ·rw [if_neg h3]
   by_cases h4 : x = t
   ·subst h4; simp
   ·rw [if_neg h4, if_neg (by simp [h3, Ne.symm h4])]
theorem snap_val {h : List rf5Op} (H : Hist h) : ∃ s, snapP bigFuel (h.map cv) = some s ∧ SnapOk h s := by
 have hl : h.length ≤ 1000 := H.1
 unfold snapP
 rw [committed_val H, Option.bind_some, ending_val H (by decide), Option.bind_some]
 have hc : (decide ((commL h).length ≤ 1000) && (commL h).all (wfI .i64)) = true := by
  rw [Bool.and_eq_true, decide_eq_true_eq, List.all_eq_true]
  exact ⟨by have := commL_len h; omega, comm_wf⟩
 rw [hc, chk_true]
 obtain ⟨m', h1, h2⟩ := begins_val hl (commL h) []
 rw [h1, Option.bind_some]
 refine ⟨_, rfl, rfl, rfl, fun t ht => ?_, fun t ht => ?_, hl⟩
 ·show mget keq1 0 t m' = _
  rw [h2, if_pos ht]
 ·have := comm_rng ht
  exact mget_end (f := fun t => endL t 2 h 0) this.1 this.2
variable {h : List rf5Op} {s : hssnapshot}
theorem pov_val (S : SnapOk h s) {a b : Int} (ha : a ∈ commL h) (hb : b ∈ commL h) : hs_snapshot_overlap s a b = some (ovL h a b) := by
 unfold hs_snapshot_overlap hs_snapshot_overlap_j5 ovL
 rw [comm_wfi ha, comm_wfi hb, S.be a ha, S.be b hb, S.en a ha, S.en b hb]
 simp only [chk_true]
 cases decide (begL a h 0 < endL b 2 h 0) <;> rfl
theorem ix1 {t i : Int} : ∀ (r : List rf5Op) (k : Nat), ∃ z : Int, sl_Index_hsOp_l1 (hsOp.mk t 1 i) sl_Index_hsOp_j4 (r.map cv) k = some z ∧ decide (z ≥ 0) = r.any fun x => (x.f_Txn == t) && ((x.f_Kind == 1) && (x.f_Item == i))
 | [], k => ⟨-1, by rw [List.map_nil, sl_Index_hsOp_l1.eq_1]; rfl, rfl⟩
 | x :: r, k => by
  obtain ⟨z, h1, h2⟩ := ix1 (t := t) (i := i) r (k + 1)
  rw [List.map_cons, sl_Index_hsOp_l1.eq_2, List.any_cons]
  have e : ((t == (cv x).f_Txn) && (((1 : Int) == (cv x).f_Kind) && ((i == (cv x).f_Item) && true))) = ((x.f_Txn == t) && ((x.f_Kind == 1) && (x.f_Item == i))) := by
   show ((t == x.f_Txn) && (((1 : Int) == x.f_Kind) && ((i == x.f_Item) && true))) = _
   rw [Bool.beq_comm (a := t), Bool.beq_comm (a := (1 : Int)), Bool.beq_comm (a := i), Bool.and_true]
  rw [e]
  cases ((x.f_Txn == t) && ((x.f_Kind == 1) && (x.f_Item == i))) with
  | true => exact ⟨(k : Int), rfl, by simp⟩
  | false => exact ⟨z, h1, by rw [h2, Bool.false_or]⟩
theorem pwr_val (S : SnapOk h s) (a i : Int) : hs_snapshot_writes s a i = some (writesL h a i) := by
 unfold hs_snapshot_writes sl_Contains_hsOp sl_Index_hsOp
 obtain ⟨z, h1, h2⟩ := ix1 (t := a) (i := i) h 0
 rw [S.hh, lenOk_of (by have := S.ln; simp; omega), chk_true, h1, Option.bind_some, h2]
 rfl
theorem prd_l1 (t i : Int) : ∀ (r : List rf5Op) (k : Nat), hs_snapshot_reads_l1 t i hs_snapshot_reads_j5 (r.map cv) k = some (readsL t i r)
 | [], k => by rw [List.map_nil, hs_snapshot_reads_l1.eq_1]; rfl
 | x :: r, k => by
  rw [List.map_cons, hs_snapshot_reads_l1.eq_2]
  unfold readsL
  simp only [cv]
  cases (x.f_Txn == t) && ((x.f_Kind == 1) && ((x.f_Item == i) && true)) with
  | true => rfl
  | false =>
   cases (x.f_Txn == t) && ((x.f_Kind == 0) && ((x.f_Item == i) && true)) with
   | true => rfl
   | false => exact prd_l1 t i r (k + 1)
theorem prd_val (S : SnapOk h s) (a i : Int) : hs_snapshot_reads s a i = some (readsL a i h) := by
 unfold hs_snapshot_reads
 rw [S.hh, lenOk_of (by have := S.ln; simp; omega), chk_true, prd_l1]
def srcStep (h : List rf5Op) (b i : Int) (best a : Int) : Int := bif writesL h a i && (decide (endL a 2 h 0 < begL b h 0) && ((best == 0) || decide (endL a 2 h 0 > endL best 2 h 0))) then a else best
def srcL (h : List rf5Op) (b i : Int) : Int := (commL h).foldl (srcStep h b i) 0
theorem psrc_l1 (S : SnapOk h s) {b i : Int} (hb : b ∈ commL h) (K : Int → Option Int) : ∀ (r : List Int) (k : Nat) (v : Int), (∀ x, x ∈ r → x ∈ commL h) → (v = 0 ∨ v ∈ commL h) →
  hs_snapshot_source_l1 s b i K r k v = K (r.foldl (srcStep h b i) v)
 | [], k, v, _, _ => by rw [hs_snapshot_source_l1.eq_1]; rfl
 | x :: r, k, v, hr, hv => by
  have hx := hr x (by simp)
  rw [hs_snapshot_source_l1.eq_2, pwr_val S, Option.bind_some, List.foldl_cons]
  have ih := fun v hv => psrc_l1 (i := i) S hb K r (k + 1) v (fun y hy => hr y (by simp [hy])) hv
  unfold hs_snapshot_source_j11 hs_snapshot_source_j9
  unfold srcStep
  cases writesL h x i with
  | false => simp only [cond_false, Bool.false_and]; exact ih v hv
  | true =>
   simp only [cond_true, Bool.true_and]
   rw [comm_wfi hx, comm_wfi hb, chk_true, chk_true, S.en x hx, S.be b hb]
   cases decide (endL x 2 h 0 < begL b h 0) with
   | false => simp only [cond_false, Bool.false_and]; exact ih v hv
   | true =>
    simp only [cond_true, Bool.true_and]
    cases hv0 : (v == 0) with
    | true => simp only [cond_true, Bool.true_or]; exact ih x (.inr hx)
    | false =>
     rw [beq_eq_false_iff_ne] at hv0
     have hvc : v ∈ commL h := by rcases hv with h0 | h0; exact absurd h0 hv0; exact h0
     rw [comm_wfi hvc, S.en v hvc]
     simp only [chk_true, cond_false, Bool.false_or]
     cases decide (endL x 2 h 0 > endL v 2 h 0) with
     | true => simp only [cond_true]; exact ih x (.inr hx)
     | false => simp only [cond_false]; exact ih v hv
theorem psrc_val (S : SnapOk h s) {b i : Int} (hb : b ∈ commL h) : hs_snapshot_source s b i = some (srcL h b i) := by
 unfold hs_snapshot_source
 rw [S.tx, lenOk_of (by have := commL_len h; omega), chk_true, psrc_l1 S hb _ _ 0 0 (fun x hx => hx) (.inl rfl)]
 rfl
def badA (h : List rf5Op) (a b i : Int) : Prop := a < b ∧ ovL h a b = true ∧ writesL h a i = true ∧ writesL h b i = true
theorem pall_l3 (S : SnapOk h s) {a b : Int} (ha : a ∈ commL h) (hb : b ∈ commL h) (K : Option Bool) : ∀ (r : List Nat) (k : Nat),
  ((∃ i : Nat, k ≤ i ∧ i < k + r.length ∧ badA h a b i) ∧ hs_snapshot_allowed_l3 s a b K r k = some false) ∨ ((∀ i : Nat, k ≤ i → i < k + r.length → ¬ badA h a b i) ∧ hs_snapshot_allowed_l3 s a b K r k = K)
 | [], k => .inr ⟨fun i h1 h2 => by simp at h2; omega, by rw [hs_snapshot_allowed_l3.eq_1]⟩
 | x :: r, k => by
  rw [hs_snapshot_allowed_l3.eq_2, pov_val S ha hb, Option.bind_some, pwr_val S, Option.bind_some, pwr_val S, Option.bind_some]
  unfold hs_snapshot_allowed_j13
  by_cases hbad : badA h a b k
  ·obtain ⟨h1, h2, h3, h4⟩ := hbad
   refine .inl ⟨⟨k, Nat.le_refl _, by simp, h1, h2, h3, h4⟩, ?_⟩
   rw [decide_eq_true h1, h2, h3, h4]
   rfl
  ·have hskip : ∀ X : Option Bool, (bif decide (a < b) then bif ovL h a b then bif writesL h a (k : Int) then bif writesL h b (k : Int) then some false else X else bif false then some false else X else bif false then some false else X else bif false then some false else X) = X := fun X => by
    cases h1 : decide (a < b) <;> cases h2 : ovL h a b <;> cases h3 : writesL h a (k : Int) <;> cases h4 : writesL h b (k : Int) <;> first | rfl | skip
    exact absurd ⟨of_decide_eq_true h1, h2, h3, h4⟩ hbad
   rw [hskip]
   rcases pall_l3 S ha hb K r (k + 1) with ⟨⟨i, h1, h2, h3⟩, h4⟩ | ⟨h1, h2⟩
   ·exact .inl ⟨⟨i, by omega, by simp; omega, h3⟩, h4⟩
   ·refine .inr ⟨fun i g1 g2 => ?_, h2⟩
    by_cases e : i = k
    ·subst e; exact hbad
    ·exact h1 i (by omega) (by simp at g2; omega)
theorem pall_l2 (S : SnapOk h s) {a : Int} (ha : a ∈ commL h) (K : Option Bool) : ∀ (r : List Int) (k : Nat), (∀ x, x ∈ r → x ∈ commL h) →
  ((∃ b, b ∈ r ∧ ∃ i : Nat, i < 6 ∧ badA h a b i) ∧ hs_snapshot_allowed_l2 s a K r k = some false) ∨ ((∀ b, b ∈ r → ∀ i : Nat, i < 6 → ¬ badA h a b i) ∧ hs_snapshot_allowed_l2 s a K r k = K)
 | [], k, _ => .inr ⟨fun i h1 => by simp at h1, by rw [hs_snapshot_allowed_l2.eq_1]⟩
 | x :: r, k, hr => by
  have hl : lenOk (List.range (Int.toNat 6)) = true := by decide
  rw [hs_snapshot_allowed_l2.eq_2, hl, chk_true]
  rcases pall_l3 S ha (hr x (by simp)) (hs_snapshot_allowed_j8 (hs_snapshot_allowed_l2 s a K r (k + 1))) (List.range (Int.toNat 6)) 0 with ⟨⟨i, h1, h2, h3⟩, h4⟩ | ⟨h1, h2⟩
  ·exact .inl ⟨⟨x, by simp, i, by simpa using h2, h3⟩, h4⟩
  ·rw [h2]
   rcases pall_l2 S ha K r (k + 1) (fun y hy => hr y (by simp [hy])) with ⟨⟨b, g1, g2⟩, g3⟩ | ⟨g1, g2⟩
   ·exact .inl ⟨⟨b, by simp [g1], g2⟩, g3⟩
   ·refine .inr ⟨fun b hb i hi => ?_, g2⟩
    rcases List.mem_cons.1 hb with rfl | hb
    ·exact h1 i (Nat.zero_le _) (by simpa using hi)
    ·exact g1 b hb i hi
theorem pall_l1 (S : SnapOk h s) (K : Option Bool) : ∀ (r : List Int) (k : Nat), (∀ x, x ∈ r → x ∈ commL h) →
  ((∃ a, a ∈ r ∧ ∃ b, b ∈ commL h ∧ ∃ i : Nat, i < 6 ∧ badA h a b i) ∧ hs_snapshot_allowed_l1 s K r k = some false) ∨ ((∀ a, a ∈ r → ∀ b, b ∈ commL h → ∀ i : Nat, i < 6 → ¬ badA h a b i) ∧ hs_snapshot_allowed_l1 s K r k = K)
 | [], k, _ => .inr ⟨fun i h1 => by simp at h1, by rw [hs_snapshot_allowed_l1.eq_1]⟩
 | x :: r, k, hr => by
  rw [hs_snapshot_allowed_l1.eq_2, S.tx, lenOk_of (by have := commL_len h; omega), chk_true]
  rcases pall_l2 S (hr x (by simp)) (hs_snapshot_allowed_j5 (hs_snapshot_allowed_l1 s K r (k + 1))) (commL h) 0 (fun y hy => hy) with ⟨⟨b, h1, h2⟩, h4⟩ | ⟨h1, h2⟩
  ·exact .inl ⟨⟨x, by simp, b, h1, h2⟩, h4⟩
  ·rw [h2]
   rcases pall_l1 S K r (k + 1) (fun y hy => hr y (by simp [hy])) with ⟨⟨b, g1, g2⟩, g3⟩ | ⟨g1, g2⟩
   ·exact .inl ⟨⟨b, by simp [g1], g2⟩, g3⟩
   ·refine .inr ⟨fun b hb => ?_, g2⟩
    rcases List.mem_cons.1 hb with rfl | hb
    ·exact h1
    ·exact g1 b hb
def NoBad (h : List rf5Op) : Prop := ∀ a, a ∈ commL h → ∀ b, b ∈ commL h → ∀ i : Nat, i < 6 → ¬ badA h a b i
theorem pall_val (S : SnapOk h s) : (NoBad h ∧ hs_snapshot_allowed s = some true) ∨ (¬ NoBad h ∧ hs_snapshot_allowed s = some false) := by
 unfold hs_snapshot_allowed
 rw [S.tx, lenOk_of (by have := commL_len h; omega), chk_true]
 rcases pall_l1 S hs_snapshot_allowed_j3 (commL h) 0 (fun y hy => hy) with ⟨⟨a, g1, b, g2, i, g3, g4⟩, g5⟩ | ⟨g1, g2⟩
 ·exact .inr ⟨fun hn => hn a g1 b g2 i g3 g4, g5⟩
 ·exact .inl ⟨g1, g2⟩
structure GoodM (n : Nat) (m : List (arr2_Int × Bool)) (E : Int → Int → Prop) : Prop where
 len : m.length ≤ n
 nd : (keys2 m).Nodup
 tt : ∀ p, p ∈ m → p.2 = true
 mem : ∀ a b, arr2_Int.mk a b ∈ keys2 m ↔ E a b
theorem GoodM.congr {n n' : Nat} {m : List (arr2_Int × Bool)} {E F : Int → Int → Prop} (h : GoodM n m E) (hn : n ≤ n') (he : ∀ a b, E a b ↔ F a b) : GoodM n' m F :=
 ⟨Nat.le_trans h.len hn, h.nd, h.tt, fun a b => (h.mem a b).trans (he a b)⟩
theorem mset_keys (k : arr2_Int) (v : Bool) : ∀ l : List (arr2_Int × Bool), (k ∈ keys2 l → keys2 (mset keq_arr2_Int k v l) = keys2 l) ∧ (k ∉ keys2 l → keys2 (mset keq_arr2_Int k v l) = keys2 l ++ [k])
 | [] => ⟨fun h => by simp at h, fun _ => rfl⟩
 | p :: r => by
  obtain ⟨h1, h2⟩ := mset_keys k v r
  unfold mset
  by_cases hp : p.1 = k
  ·rw [(keq2_iff p.1 k).2 hp, cond_true]
   exact ⟨fun _ => rfl, fun h => absurd (by simp [hp]) h⟩
  ·rw [keq2_no hp, cond_false]
   refine ⟨fun h => ?_, fun h => ?_⟩
   ·simp only [List.map_cons, List.mem_cons] at h ⊢
    rcases h with h | h
    ·exact absurd h.symm hp
    ·exact congrArg (p.1 :: ·) (h1 h)
   ·simp only [List.map_cons, List.mem_cons, not_or] at h ⊢
    exact congrArg (p.1 :: ·) (h2 h.2)
theorem mset_tt (k : arr2_Int) : ∀ l : List (arr2_Int × Bool), (∀ p, p ∈ l → p.2 = true) → ∀ p, p ∈ mset keq_arr2_Int k true l → p.2 = true
 | [], _, p, hp => by simp [mset] at hp; rw [hp]
 | q :: r, h, p, hp => by
  unfold mset at hp
  by_cases hq : q.1 = k
  ·rw [(keq2_iff q.1 k).2 hq, cond_true] at hp
   rcases List.mem_cons.1 hp with rfl | hp
   ·rfl
   ·exact h p (by simp [hp])
  ·rw [keq2_no hq, cond_false] at hp
   rcases List.mem_cons.1 hp with rfl | hp
   ·exact h _ (by simp)
   ·exact mset_tt k r (fun x hx => h x (by simp [hx])) p hp
theorem GoodM.set {n : Nat} {m : List (arr2_Int × Bool)} {E : Int → Int → Prop} (h : GoodM n m E) (a b : Int) : GoodM (n + 1) (mset keq_arr2_Int (arr2_Int.mk a b) true m) (fun c d => E c d ∨ (c = a ∧ d = b)) := by
 obtain ⟨h1, h2⟩ := mset_keys (arr2_Int.mk a b) true m
 refine ⟨Nat.le_trans (mset_len2 _ _ _) (by have := h.len; omega), ?_, mset_tt _ _ h.tt, fun c d => ?_⟩
 ·by_cases hk : arr2_Int.mk a b ∈ keys2 m
  ·rw [h1 hk]; exact h.nd
  ·rw [h2 hk]
   refine List.nodup_append.2 ⟨h.nd, by simp, fun x hx y hy => ?_⟩
   simp at hy
   subst hy
   exact fun e => hk (e ▸ hx)
 ·by_cases hk : arr2_Int.mk a b ∈ keys2 m
  ·rw [h1 hk, h.mem]
   refine ⟨.inl, fun hh => ?_⟩
   rcases hh with hh | ⟨rfl, rfl⟩
   ·exact hh
   ·exact (h.mem _ _).1 hk
  ·rw [h2 hk, List.mem_append, h.mem]
   simp
theorem GoodM.edge {n : Nat} {m : List (arr2_Int × Bool)} {E : Int → Int → Prop} (h : GoodM n m E) (a b : Int) : edgeB m a b = true ↔ E a b := by
 rw [← h.mem]
 have ht := h.tt
 clear h
 unfold edgeB
 induction m with
 | nil => simp [mget]
 | cons p r ih =>
  have ih := ih fun x hx => ht x (by simp [hx])
  unfold mget
  by_cases hp : p.1 = arr2_Int.mk a b
  ·rw [(keq2_iff _ _).2 hp, cond_true, ht p (by simp)]
   simp [hp]
  ·rw [keq2_no hp, cond_false]
   refine Iff.trans ih ?_
   simp only [List.map_cons, List.mem_cons]
   exact ⟨.inr, fun h => by rcases h with h | h; exact absurd h.symm hp; exact h⟩
def antiC (h : List rf5Op) (a b i : Int) : Prop := readsL a i h = true ∧ writesL h b i = true ∧ endL b 2 h 0 > begL a h 0
def restC (h : List rf5Op) (a b i : Int) : Prop := (writesL h a i = true ∧ writesL h b i = true ∧ endL a 2 h 0 < endL b 2 h 0) ∨ (readsL b i h = true ∧ srcL h b i = a)
abbrev Map2 := List (arr2_Int × Bool)
theorem pj48 {n : Nat} {u : Map2} {F : Int → Int → Prop} {a b : Int} (hu : GoodM n u F) (hn : n ≤ 100000) (ha : a ∈ commL h) (hb : b ∈ commL h) (v : Map2) (K : Map2 → Map2 → Option (Map2 × Map2)) (B : Bool) :
  ∃ u', hs_snapshot_edges_j48 a b v u K B = K v u' ∧ GoodM (n + 1) u' (fun c d => F c d ∨ (c = a ∧ d = b ∧ B = true)) := by
 unfold hs_snapshot_edges_j48
 cases B with
 | true =>
  have hl : Nat.blt u.length 1000000000 = true := by have := hu.len; simp [Nat.blt]; omega
  rw [cond_true, comm_wfi ha, comm_wfi hb, hl, Bool.and_self, chk_true, chk_true]
  exact ⟨_, rfl, (hu.set a b).congr (Nat.le_refl _) fun c d => by simp⟩
 | false => exact ⟨u, rfl, hu.congr (by omega) fun c d => by simp⟩
theorem pj23 (S : SnapOk h s) {n : Nat} {u : Map2} {F : Int → Int → Prop} {a b : Int} (hu : GoodM n u F) (hn : n ≤ 100000) (ha : a ∈ commL h) (hb : b ∈ commL h) (k : Nat) (v : Map2) (K : Map2 → Map2 → Option (Map2 × Map2)) :
  ∃ u', hs_snapshot_edges_j23 s a b k K v u = K v u' ∧ GoodM (n + 1) u' (fun c d => F c d ∨ (c = a ∧ d = b ∧ restC h a b k)) := by
 have key : ∀ B : Bool, (B = true ↔ restC h a b k) → hs_snapshot_edges_j23 s a b k K v u = hs_snapshot_edges_j48 a b v u K B → ∃ u', hs_snapshot_edges_j23 s a b k K v u = K v u' ∧ GoodM (n + 1) u' (fun c d => F c d ∨ (c = a ∧ d = b ∧ restC h a b k)) := fun B hB he => by
  obtain ⟨u', h1, h2⟩ := pj48 hu hn ha hb v K B
  exact ⟨u', he.trans h1, h2.congr (Nat.le_refl _) fun c d => by rw [hB]⟩
 refine key ((writesL h a (k : Int) && (writesL h b (k : Int) && decide (endL a 2 h 0 < endL b 2 h 0))) || (readsL b (k : Int) h && (srcL h b (k : Int) == a))) (by simp [restC]) ?_
 unfold hs_snapshot_edges_j23
 simp only [pwr_val S, prd_val S, psrc_val S hb, Option.bind_some, comm_wfi ha, comm_wfi hb, chk_true, S.en a ha, S.en b hb]
 cases writesL h a (k : Int) <;> cases writesL h b (k : Int) <;> cases decide (endL a 2 h 0 < endL b 2 h 0) <;> cases readsL b (k : Int) h <;> rfl
theorem pj24 {n : Nat} {v u : Map2} {E F : Int → Int → Prop} {a b : Int} (hv : GoodM n v E) (hu : GoodM n u F) (hn : n ≤ 100000) (ha : a ∈ commL h) (hb : b ∈ commL h) (K : Map2 → Map2 → Option (Map2 × Map2)) (B : Bool) :
  ∃ v' u', hs_snapshot_edges_j24 a b v u K B = K v' u' ∧ GoodM (n + 1) v' (fun c d => E c d ∨ (c = a ∧ d = b ∧ B = true)) ∧ GoodM (n + 1) u' (fun c d => F c d ∨ (c = a ∧ d = b ∧ B = true)) := by
 unfold hs_snapshot_edges_j24
 cases B with
 | true =>
  have hl : Nat.blt u.length 1000000000 = true := by have := hu.len; simp [Nat.blt]; omega
  have hl' : Nat.blt v.length 1000000000 = true := by have := hv.len; simp [Nat.blt]; omega
  rw [cond_true, comm_wfi ha, comm_wfi hb, hl, hl', Bool.and_self, chk_true, chk_true, chk_true, chk_true]
  exact ⟨_, _, rfl, (hv.set a b).congr (Nat.le_refl _) fun c d => by simp, (hu.set a b).congr (Nat.le_refl _) fun c d => by simp⟩
 | false => exact ⟨v, u, rfl, hv.congr (by omega) fun c d => by simp, hu.congr (by omega) fun c d => by simp⟩
theorem pl3_same (a : Int) (K : Map2 → Map2 → Option (Map2 × Map2)) (v u : Map2) : ∀ (r : List Nat) (k : Nat), hs_snapshot_edges_l3 s a a K r k v u = K v u
 | [], k => by rw [hs_snapshot_edges_l3.eq_1]
 | x :: r, k => by
  rw [hs_snapshot_edges_l3.eq_2, beq_self_eq_true, cond_true]
  exact pl3_same a K v u r (k + 1)
theorem pl3_val (S : SnapOk h s) {a b : Int} (ha : a ∈ commL h) (hb : b ∈ commL h) (hab : a ≠ b) (K : Map2 → Map2 → Option (Map2 × Map2)) : ∀ (r : List Nat) (k n : Nat) (v u : Map2) (E F : Int → Int → Prop), GoodM n v E → GoodM n u F → n + 2 * r.length ≤ 100000 →
  ∃ v' u', hs_snapshot_edges_l3 s a b K r k v u = K v' u' ∧ GoodM (n + 2 * r.length) v' (fun c d => E c d ∨ (c = a ∧ d = b ∧ ∃ i : Nat, k ≤ i ∧ i < k + r.length ∧ antiC h a b i)) ∧
   GoodM (n + 2 * r.length) u' (fun c d => F c d ∨ (c = a ∧ d = b ∧ ∃ i : Nat, k ≤ i ∧ i < k + r.length ∧ (antiC h a b i ∨ restC h a b i)))
 | [], k, n, v, u, E, F, hv, hu, hn => ⟨v, u, by rw [hs_snapshot_edges_l3.eq_1], hv.congr (by simp) fun c d => ⟨.inl, fun hh => by rcases hh with hh | ⟨_, _, i, h1, h2, _⟩; exact hh; simp at h2; omega⟩, hu.congr (by simp) fun c d => ⟨.inl, fun hh => by rcases hh with hh | ⟨_, _, i, h1, h2, _⟩; exact hh; simp at h2; omega⟩⟩
 | x :: r, k, n, v, u, E, F, hv, hu, hn => by
  have hn' : n + 2 * (r.length + 1) ≤ 100000 := hn
  have key : ∀ B : Bool, (B = true ↔ antiC h a b k) → hs_snapshot_edges_l3 s a b K (x :: r) k v u = hs_snapshot_edges_j24 a b v u (hs_snapshot_edges_j23 s a b k (hs_snapshot_edges_l3 s a b K r (k + 1))) B → (∃ v' u', hs_snapshot_edges_l3 s a b K (x :: r) k v u = K v' u' ∧ GoodM (n + 2 * (x :: r).length) v' (fun c d => E c d ∨ (c = a ∧ d = b ∧ ∃ i : Nat, k ≤ i ∧ i < k + (x :: r).length ∧ antiC h a b i)) ∧
    GoodM (n + 2 * (x :: r).length) u' (fun c d => F c d ∨ (c = a ∧ d = b ∧ ∃ i : Nat, k ≤ i ∧ i < k + (x :: r).length ∧ (antiC h a b i ∨ restC h a b i)))) := fun B hB he => by
   obtain ⟨v1, u1, e1, g1, g2⟩ := pj24 (h := h) hv hu (by omega) ha hb (hs_snapshot_edges_j23 s a b k (hs_snapshot_edges_l3 s a b K r (k + 1))) B
   obtain ⟨u2, e2, g3⟩ := pj23 S g2 (by omega) ha hb k v1 (hs_snapshot_edges_l3 s a b K r (k + 1))
   obtain ⟨v3, u3, e3, g4, g5⟩ := pl3_val S ha hb hab K r (k + 1) (n + 2) v1 u2 _ _ (g1.congr (by omega) fun _ _ => Iff.rfl) (g3.congr (by omega) fun _ _ => Iff.rfl) (by omega)
   refine ⟨v3, u3, by rw [he, e1, e2, e3], g4.congr (by simp; omega) fun c d => ?_, g5.congr (by simp; omega) fun c d => ?_⟩
   ·rw [hB]
    constructor
    ·rintro ((hh | ⟨h1, h2, h3⟩) | ⟨h1, h2, i, h3, h4, h5⟩)
     ·exact .inl hh
     ·exact .inr ⟨h1, h2, k, Nat.le_refl _, by simp, h3⟩
     ·exact .inr ⟨h1, h2, i, by omega, by simp; omega, h5⟩
    ·rintro (hh | ⟨h1, h2, i, h3, h4, h5⟩)
     ·exact .inl (.inl hh)
     ·by_cases e : i = k
      ·subst e; exact .inl (.inr ⟨h1, h2, h5⟩)
      ·exact .inr ⟨h1, h2, i, by omega, by simp at h4; omega, h5⟩
   ·rw [hB]
    constructor
    ·rintro (((hh | ⟨h1, h2, h3⟩) | ⟨h1, h2, h3⟩) | ⟨h1, h2, i, h3, h4, h5⟩)
     ·exact .inl hh
     ·exact .inr ⟨h1, h2, k, Nat.le_refl _, by simp, .inl h3⟩
     ·exact .inr ⟨h1, h2, k, Nat.le_refl _, by simp, .inr h3⟩
     ·exact .inr ⟨h1, h2, i, by omega, by simp; omega, h5⟩
    ·rintro (hh | ⟨h1, h2, i, h3, h4, h5⟩)
     ·exact .inl (.inl (.inl hh))
     ·by_cases e : i = k
      ·subst e
       rcases h5 with h5 | h5
       ·exact .inl (.inl (.inr ⟨h1, h2, h5⟩))
       ·exact .inl (.inr ⟨h1, h2, h5⟩)
      ·exact .inr ⟨h1, h2, i, by omega, by simp at h4; omega, h5⟩
  refine key (readsL a (k : Int) h && (writesL h b (k : Int) && decide (endL b 2 h 0 > begL a h 0))) (by simp [antiC]) ?_
  rw [hs_snapshot_edges_l3.eq_2, beq_eq_false_iff_ne.2 hab, cond_false]
  unfold hs_snapshot_edges_j18
  simp only [pwr_val S, prd_val S, Option.bind_some, comm_wfi ha, comm_wfi hb, chk_true, S.en b hb, S.be a ha]
  cases readsL a (k : Int) h <;> cases writesL h b (k : Int) <;> cases decide (endL b 2 h 0 > begL a h 0) <;> rfl
def antiP (h : List rf5Op) (c d : Int) : Prop := c ≠ d ∧ ∃ i : Nat, i < 6 ∧ antiC h c d i
def allP (h : List rf5Op) (c d : Int) : Prop := c ≠ d ∧ ∃ i : Nat, i < 6 ∧ (antiC h c d i ∨ restC h c d i)
theorem pl2_val (S : SnapOk h s) {a : Int} (ha : a ∈ commL h) (K : Map2 → Map2 → Option (Map2 × Map2)) : ∀ (r : List Int) (k n : Nat) (v u : Map2) (E F : Int → Int → Prop), (∀ x, x ∈ r → x ∈ commL h) → GoodM n v E → GoodM n u F → n + 12 * r.length ≤ 100000 →
  ∃ v' u', hs_snapshot_edges_l2 s a K r k v u = K v' u' ∧ GoodM (n + 12 * r.length) v' (fun c d => E c d ∨ (c = a ∧ d ∈ r ∧ antiP h c d)) ∧ GoodM (n + 12 * r.length) u' (fun c d => F c d ∨ (c = a ∧ d ∈ r ∧ allP h c d))
 | [], k, n, v, u, E, F, _, hv, hu, hn => ⟨v, u, by rw [hs_snapshot_edges_l2.eq_1], hv.congr (by simp) fun c d => by simp, hu.congr (by simp) fun c d => by simp⟩
 | x :: r, k, n, v, u, E, F, hr, hv, hu, hn => by
  have hn' : n + 12 * (r.length + 1) ≤ 100000 := hn
  have hl : lenOk (List.range (Int.toNat 6)) = true := by decide
  have hx := hr x (by simp)
  rw [hs_snapshot_edges_l2.eq_2, hl, chk_true]
  have hlen : (List.range (Int.toNat 6)).length = 6 := by decide
  unfold hs_snapshot_edges_j13
  by_cases hax : a = x
  ·subst hax
   rw [pl3_same]
   obtain ⟨v1, u1, e1, g1, g2⟩ := pl2_val S ha K r (k + 1) n v u E F (fun y hy => hr y (by simp [hy])) hv hu (by omega)
   refine ⟨v1, u1, e1, g1.congr (by simp; omega) fun c d => ?_, g2.congr (by simp; omega) fun c d => ?_⟩
   ·unfold antiP
    constructor
    ·rintro (hh | ⟨h1, h2, h3⟩)
     ·exact .inl hh
     ·exact .inr ⟨h1, by simp [h2], h3⟩
    ·rintro (hh | ⟨h1, h2, h3, h4⟩)
     ·exact .inl hh
     ·rcases List.mem_cons.1 h2 with e | h2
      ·exact absurd (h1.trans e.symm) h3
      ·exact .inr ⟨h1, h2, h3, h4⟩
   ·unfold allP
    constructor
    ·rintro (hh | ⟨h1, h2, h3⟩)
     ·exact .inl hh
     ·exact .inr ⟨h1, by simp [h2], h3⟩
    ·rintro (hh | ⟨h1, h2, h3, h4⟩)
     ·exact .inl hh
     ·rcases List.mem_cons.1 h2 with e | h2
      ·exact absurd (h1.trans e.symm) h3
      ·exact .inr ⟨h1, h2, h3, h4⟩
  ·obtain ⟨v1, u1, e1, g1, g2⟩ := pl3_val S ha hx hax (hs_snapshot_edges_l2 s a K r (k + 1)) (List.range (Int.toNat 6)) 0 n v u E F hv hu (by rw [hlen]; omega)
   rw [hlen] at g1 g2
   obtain ⟨v2, u2, e2, g3, g4⟩ := pl2_val S ha K r (k + 1) (n + 12) v1 u1 _ _ (fun y hy => hr y (by simp [hy])) (g1.congr (by omega) fun _ _ => Iff.rfl) (g2.congr (by omega) fun _ _ => Iff.rfl) (by omega)
   refine ⟨v2, u2, by rw [e1, e2], g3.congr (by simp; omega) fun c d => ?_, g4.congr (by simp; omega) fun c d => ?_⟩
   ·unfold antiP
    constructor
    ·rintro ((hh | ⟨rfl, rfl, i, _, h3, h4⟩) | ⟨h1, h2, h3⟩)
     ·exact .inl hh
     ·exact .inr ⟨rfl, by simp, hax, i, by omega, h4⟩
     ·exact .inr ⟨h1, by simp [h2], h3⟩
    ·rintro (hh | ⟨rfl, h2, h3, i, h4, h5⟩)
     ·exact .inl (.inl hh)
     ·rcases List.mem_cons.1 h2 with rfl | h2
      ·exact .inl (.inr ⟨rfl, rfl, i, Nat.zero_le _, by omega, h5⟩)
      ·exact .inr ⟨rfl, h2, h3, i, h4, h5⟩
   ·unfold allP
    constructor
    ·rintro ((hh | ⟨rfl, rfl, i, _, h3, h4⟩) | ⟨h1, h2, h3⟩)
     ·exact .inl hh
     ·exact .inr ⟨rfl, by simp, hax, i, by omega, h4⟩
     ·exact .inr ⟨h1, by simp [h2], h3⟩
    ·rintro (hh | ⟨rfl, h2, h3, i, h4, h5⟩)
     ·exact .inl (.inl hh)
     ·rcases List.mem_cons.1 h2 with rfl | h2
      ·exact .inl (.inr ⟨rfl, rfl, i, Nat.zero_le _, by omega, h5⟩)
      ·exact .inr ⟨rfl, h2, h3, i, h4, h5⟩
theorem pl1_val (S : SnapOk h s) (K : Map2 → Map2 → Option (Map2 × Map2)) : ∀ (r : List Int) (k n : Nat) (v u : Map2) (E F : Int → Int → Prop), (∀ x, x ∈ r → x ∈ commL h) → GoodM n v E → GoodM n u F → n + 72 * r.length ≤ 100000 →
  ∃ v' u', hs_snapshot_edges_l1 s K r k v u = K v' u' ∧ GoodM (n + 72 * r.length) v' (fun c d => E c d ∨ (c ∈ r ∧ d ∈ commL h ∧ antiP h c d)) ∧ GoodM (n + 72 * r.length) u' (fun c d => F c d ∨ (c ∈ r ∧ d ∈ commL h ∧ allP h c d))
 | [], k, n, v, u, E, F, _, hv, hu, hn => ⟨v, u, by rw [hs_snapshot_edges_l1.eq_1], hv.congr (by simp) fun c d => by simp, hu.congr (by simp) fun c d => by simp⟩
 | x :: r, k, n, v, u, E, F, hr, hv, hu, hn => by
  have hn' : n + 72 * (r.length + 1) ≤ 100000 := hn
  have hc6 := commL_len h
  rw [hs_snapshot_edges_l1.eq_2, S.tx, lenOk_of (by omega), chk_true]
  unfold hs_snapshot_edges_j8
  obtain ⟨v1, u1, e1, g1, g2⟩ := pl2_val S (hr x (by simp)) (hs_snapshot_edges_l1 s K r (k + 1)) (commL h) 0 n v u E F (fun y hy => hy) hv hu (by omega)
  obtain ⟨v2, u2, e2, g3, g4⟩ := pl1_val S K r (k + 1) (n + 72) v1 u1 _ _ (fun y hy => hr y (by simp [hy])) (g1.congr (by omega) fun _ _ => Iff.rfl) (g2.congr (by omega) fun _ _ => Iff.rfl) (by omega)
  refine ⟨v2, u2, by rw [e1, e2], g3.congr (by simp; omega) fun c d => ?_, g4.congr (by simp; omega) fun c d => ?_⟩ <;>
  ·simp only [List.mem_cons, or_and_right]
   exact or_assoc
def antiE (h : List rf5Op) (c d : Int) : Prop := c ∈ commL h ∧ d ∈ commL h ∧ antiP h c d
def allE (h : List rf5Op) (c d : Int) : Prop := c ∈ commL h ∧ d ∈ commL h ∧ allP h c d
theorem pedges_val (S : SnapOk h s) : ∃ v u, hs_snapshot_edges s = some (v, u) ∧ GoodM 500 v (antiE h) ∧ GoodM 500 u (allE h) := by
 unfold hs_snapshot_edges
 have hc6 := commL_len h
 have g0 : GoodM 0 [] (fun _ _ => False) := ⟨Nat.le_refl _, by simp, by simp, fun _ _ => by simp⟩
 obtain ⟨v, u, e, g1, g2⟩ := pl1_val S (hs_snapshot_edges_j4) (commL h) 0 0 [] [] _ _ (fun y hy => hy) g0 g0 (by omega)
 rw [S.tx, lenOk_of (by omega), chk_true, e]
 exact ⟨v, u, rfl, g1.congr (by omega) fun c d => by simp [antiE], g2.congr (by omega) fun c d => by simp [allE]⟩
theorem ovB_val (S : SnapOk h s) {a b : Int} (ha : a ∈ commL h) (hb : b ∈ commL h) : ovB s a b = ovL h a b := by
 unfold ovB
 rw [pov_val S ha hb]
 rfl
theorem arr2_ext {x y : arr2_Int} (h0 : x.f_0 = y.f_0) (h1 : x.f_1 = y.f_1) : x = y := by
 cases x; cases y; cases h0; cases h1; rfl
theorem tri_mem {ov : Int → Int → Bool} {l : List arr2_Int} (x : arr3_Int) : x ∈ triAll ov l l ↔ (arr2_Int.mk x.f_0 x.f_1 ∈ l ∧ arr2_Int.mk x.f_1 x.f_2 ∈ l ∧ ov x.f_0 x.f_1 = true ∧ ov x.f_1 x.f_2 = true) := by
 unfold triAll triIn
 simp only [List.mem_flatMap, List.mem_map, List.mem_filter]
 constructor
 ·rintro ⟨a, ha, b, ⟨hb, ht⟩, rfl⟩
  unfold tri2 at ht
  simp only [Bool.and_eq_true, beq_iff_eq] at ht
  obtain ⟨e, h1, h2⟩ := ht
  have e2 : arr2_Int.mk a.f_1 b.f_1 = b := arr2_ext e rfl
  have e1 : arr2_Int.mk a.f_0 a.f_1 = a := arr2_ext rfl rfl
  exact ⟨by rw [e1]; exact ha, by show arr2_Int.mk a.f_1 b.f_1 ∈ l; rw [e2]; exact hb, h1, by show ov a.f_1 b.f_1 = true; rw [e]; exact h2⟩
 ·rintro ⟨h1, h2, h3, h4⟩
  exact ⟨_, h1, _, ⟨h2, by simp [tri2, h3, h4]⟩, arr3_ext rfl rfl rfl⟩
theorem tri_nodup {ov : Int → Int → Bool} {l : List arr2_Int} (hl : l.Nodup) : (triAll ov l l).Nodup := by
 unfold triAll
 refine List.pairwise_flatMap.2 ⟨fun a ha => ?_, hl.imp fun {a b} hab x hx y hy e => ?_⟩
 ·unfold triIn
  refine List.pairwise_map.2 ((hl.filter _).imp_of_mem fun {b c} hb hc hbc e => hbc ?_)
  have h1 := (List.mem_filter.1 hb).2
  have h2 := (List.mem_filter.1 hc).2
  unfold tri2 at h1 h2
  simp only [Bool.and_eq_true, beq_iff_eq] at h1 h2
  exact arr2_ext (h1.1.symm.trans h2.1) (by injection e)
 ·subst e
  unfold triIn at hx hy
  obtain ⟨p, _, h1⟩ := List.mem_map.1 hx
  obtain ⟨q, _, h2⟩ := List.mem_map.1 hy
  rw [← h1] at h2
  injection h2 with e0 e1 e2
  exact hab (arr2_ext e0.symm e1.symm)
theorem tri_len {ov : Int → Int → Bool} {l : List arr2_Int} {n : Nat} (hn : l.length ≤ n) : (triAll ov l l).length ≤ n * n := by
 unfold triAll
 refine Nat.le_trans (flatMap_len (m := n) fun x hx => ?_) (Nat.mul_le_mul_right _ hn)
 unfold triIn
 rw [List.length_map]
 exact Nat.le_trans (List.length_filter_le _ _) hn
theorem sort3_eq {T R : List arr3_Int} (hT : T.Nodup) (hR : R.Pairwise fun a b => ltOf cf3 a b = true) (hm : ∀ x, x ∈ T ↔ x ∈ R) : sort3 T = R := by
 have hRn : R.Nodup := hR.imp fun {a b} hab e => by subst e; rw [swo3.irrefl] at hab; cases hab
 have hp : T.Perm R := (List.perm_ext_iff_of_nodup hT hRn).2 hm
 rw [sort3_perm hp]
 have tr : ∀ a b c : arr3_Int, (!ltOf cf3 b a) = true → (!ltOf cf3 c b) = true → (!ltOf cf3 c a) = true := fun a b c h1 h2 => by
  rw [Bool.not_eq_true'] at *
  exact swo3.ntrans _ _ _ h2 h1
 have to : ∀ a b : arr3_Int, ((!ltOf cf3 b a) || !ltOf cf3 a b) = true := fun a b => by
  cases h1 : ltOf cf3 b a
  ·rfl
  ·cases h2 : ltOf cf3 a b
   ·rfl
   ·have := swo3.trans _ _ _ h1 h2
    rw [swo3.irrefl] at this; cases this
 have h1 : (sort3 R).Pairwise fun a b => (!ltOf cf3 b a) = true := List.pairwise_mergeSort tr to R
 refine List.Perm.eq_of_pairwise (le := fun a b => (!ltOf cf3 b a) = true) (fun a b _ _ x y => ?_) h1 (hR.imp fun {a b} hab => ?_) (List.mergeSort_perm R _)
 ·rw [Bool.not_eq_true'] at x y
  exact tot3 a b y x
 ·cases h2 : ltOf cf3 b a
  ·rfl
  ·have := swo3.trans _ _ _ hab h2
   rw [swo3.irrefl] at this; cases this
def dangT (h : List rf5Op) (x : arr3_Int) : Prop := antiE h x.f_0 x.f_1 ∧ antiE h x.f_1 x.f_2 ∧ ovL h x.f_0 x.f_1 = true ∧ ovL h x.f_1 x.f_2 = true
theorem pdanger_val (S : SnapOk h s) {v : Map2} (hv : GoodM 500 v (antiE h)) {R : List arr3_Int} (hR : R.Pairwise fun a b => ltOf cf3 a b = true) (hm : ∀ x, x ∈ R ↔ dangT h x) :
  ((keys2 v).all (fun p => (hs_snapshot_overlap s p.f_0 p.f_1).isSome) && decide ((triAll (ovB s) (keys2 v) (keys2 v)).length ≤ 1000000)) = true ∧ sort3 (triAll (ovB s) (keys2 v) (keys2 v)) = R := by
 have hin : ∀ p, p ∈ keys2 v → antiE h p.f_0 p.f_1 := fun p hp => (hv.mem _ _).1 (by rw [show arr2_Int.mk p.f_0 p.f_1 = p from arr2_ext rfl rfl]; exact hp)
 constructor
 ·rw [Bool.and_eq_true, decide_eq_true_eq, List.all_eq_true]
  refine ⟨fun p hp => ?_, ?_⟩
  ·have := hin p hp
   rw [pov_val S this.1 this.2.1]
   rfl
  ·have h1 : (keys2 v).length ≤ 500 := by rw [List.length_map]; exact hv.len
   exact Nat.le_trans (tri_len h1) (by omega)
 ·refine sort3_eq (tri_nodup hv.nd) hR fun x => ?_
  rw [tri_mem, hm]
  unfold dangT
  rw [hv.mem, hv.mem]
  constructor
  ·rintro ⟨h1, h2, h3, h4⟩
   rw [ovB_val S h1.1 h1.2.1] at h3
   rw [ovB_val S h2.1 h2.2.1] at h4
   exact ⟨h1, h2, h3, h4⟩
  ·rintro ⟨h1, h2, h3, h4⟩
   rw [← ovB_val S h1.1 h1.2.1] at h3
   rw [← ovB_val S h2.1 h2.2.1] at h4
   exact ⟨h1, h2, h3, h4⟩
def okB (h : List rf5Op) : Bool := (commL h).all fun a => (commL h).all fun b => (List.range 6).all fun i => !(decide (a < b) && (ovL h a b && (writesL h a (i : Nat) && writesL h b (i : Nat))))
theorem okB_iff (h : List rf5Op) : okB h = true ↔ NoBad h := by
 unfold okB NoBad badA
 simp only [List.all_eq_true, List.mem_range]
 constructor
 ·rintro hh a ha b hb i hi ⟨h1, h2, h3, h4⟩
  have := hh a ha b hb i hi
  rw [h2, h3, h4, decide_eq_true h1] at this
  cases this
 ·intro hh a ha b hb i hi
  have := hh a ha b hb i hi
  cases h1 : decide (a < b) <;> cases h2 : ovL h a b <;> cases h3 : writesL h a (i : Int) <;> cases h4 : writesL h b (i : Int) <;> first | rfl | skip
  exact absurd ⟨of_decide_eq_true h1, h2, h3, h4⟩ this
def antiB (h : List rf5Op) (a b : Int) : Bool := (commL h).contains a && ((commL h).contains b && ((a != b) && (List.range 6).any fun i => readsL a (i : Nat) h && (writesL h b (i : Nat) && decide (endL b 2 h 0 > begL a h 0))))
def restB (h : List rf5Op) (a b : Int) : Bool := (commL h).contains a && ((commL h).contains b && ((a != b) && (List.range 6).any fun i => (writesL h a (i : Nat) && (writesL h b (i : Nat) && decide (endL a 2 h 0 < endL b 2 h 0))) || (readsL b (i : Nat) h && (srcL h b (i : Nat) == a))))
def allB (h : List rf5Op) (a b : Int) : Bool := antiB h a b || restB h a b
theorem antiB_iff (h : List rf5Op) (a b : Int) : antiB h a b = true ↔ antiE h a b := by
 unfold antiB antiE antiP antiC
 simp [List.contains_iff_mem]
theorem allB_iff (h : List rf5Op) (a b : Int) : allB h a b = true ↔ allE h a b := by
 unfold allB
 rw [Bool.or_eq_true, antiB_iff]
 unfold restB antiE allE antiP allP antiC restC
 simp only [Bool.and_eq_true, List.contains_iff_mem, bne_iff_ne, List.any_eq_true, List.mem_range, Bool.or_eq_true, decide_eq_true_eq, beq_iff_eq]
 constructor
 ·rintro (⟨h1, h2, h3, i, h4, h5⟩ | ⟨h1, h2, h3, i, h4, h5⟩)
  ·exact ⟨h1, h2, h3, i, h4, .inl h5⟩
  ·exact ⟨h1, h2, h3, i, h4, .inr h5⟩
 ·rintro ⟨h1, h2, h3, i, h4, h5 | h5⟩
  ·exact .inl ⟨h1, h2, h3, i, h4, h5⟩
  ·exact .inr ⟨h1, h2, h3, i, h4, h5⟩
def triT (h : List rf5Op) (x y z : Int) : Bool := antiB h x y && (antiB h y z && (ovL h x y && ovL h y z))
def triR (h : List rf5Op) : List arr3_Int := (commL h).flatMap fun x => (commL h).flatMap fun y => ((commL h).filter (triT h x y)).map (arr3_Int.mk x y)
theorem comm_sorted (h : List rf5Op) : (commL h).Pairwise fun a b => a < b := List.Pairwise.filter _ (by decide)
theorem triR_mem (h : List rf5Op) (x : arr3_Int) : x ∈ triR h ↔ dangT h x := by
 unfold triR dangT triT
 simp only [List.mem_flatMap, List.mem_map, List.mem_filter, Bool.and_eq_true, antiB_iff]
 constructor
 ·rintro ⟨a, _, b, _, c, ⟨_, h1, h2, h3, h4⟩, rfl⟩
  exact ⟨h1, h2, h3, h4⟩
 ·rintro ⟨h1, h2, h3, h4⟩
  exact ⟨x.f_0, h1.1, x.f_1, h1.2.1, x.f_2, ⟨h2.2.1, h1, h2, h3, h4⟩, rfl⟩
theorem triR_sorted (h : List rf5Op) : (triR h).Pairwise fun a b => ltOf cf3 a b = true := by
 unfold triR
 refine List.pairwise_flatMap.2 ⟨fun x hx => List.pairwise_flatMap.2 ⟨fun y hy => ?_, (comm_sorted h).imp fun {a b} hab p hp q hq => ?_⟩, (comm_sorted h).imp fun {a b} hab p hp q hq => ?_⟩
 ·refine List.pairwise_map.2 (((comm_sorted h).filter _).imp fun {a b} hab => ?_)
  rw [lt3]
  exact .inr ⟨rfl, .inr ⟨rfl, hab⟩⟩
 ·obtain ⟨_, _, rfl⟩ := List.mem_map.1 hp
  obtain ⟨_, _, rfl⟩ := List.mem_map.1 hq
  rw [lt3]
  exact .inr ⟨rfl, .inl hab⟩
 ·obtain ⟨_, _, hp⟩ := List.mem_flatMap.1 hp
  obtain ⟨_, _, hq⟩ := List.mem_flatMap.1 hq
  obtain ⟨_, _, rfl⟩ := List.mem_map.1 hp
  obtain ⟨_, _, rfl⟩ := List.mem_map.1 hq
  rw [lt3]
  exact .inl hab
def snapR (h : List rf5Op) : Bool × Int := if validB h then (okB h, 0) else (false, 2)
def sordR (h : List rf5Op) : List Int × Int := if validB h then (if okB h then (match topo (allB h) (commL h).length (commL h) with | some o => (o, 0) | none => ([], 5)) else ([], 7)) else ([], 2)
def dangR (h : List rf5Op) : List arr3_Int × Int := if validB h then (if okB h then (triR h, 0) else ([], 7)) else ([], 2)
theorem pok_val {h : List rf5Op} {s : hssnapshot} (S : SnapOk h s) : hs_snapshot_allowed s = some (okB h) := by
 rcases pall_val S with ⟨h1, h2⟩ | ⟨h1, h2⟩
 ·rw [h2, (okB_iff h).2 h1]
 ·have : okB h = false := by
   cases hh : okB h
   ·rfl
   ·exact absurd ((okB_iff h).1 hh) h1
  rw [h2, this]
theorem edge_all {h : List rf5Op} {u : Map2} (g : GoodM 500 u (allE h)) : edgeB u = allB h := by
 funext a b
 rw [Bool.eq_iff_iff, g.edge, allB_iff]
theorem snap_any (h : List rf5Op) : hs_Snapshot bigFuel ((h.take 43).map cv) = some (snapR h) := by
 unfold hs_Snapshot snapR hs_History_snapshot
 rw [valid_same, Option.bind_some]
 cases hv : validB h with
 | false => rfl
 | true =>
  obtain ⟨H, hlen⟩ := hist_of hv
  obtain ⟨s, e, S⟩ := snap_val H
  rw [List.take_of_length_le (by omega), Bool.not_true, cond_false, e, Option.bind_some, pok_val S]
  rfl
theorem sord_any (h : List rf5Op) : hs_SnapshotOrder bigFuel ((h.take 43).map cv) = some (sordR h) := by
 unfold hs_SnapshotOrder sordR hs_History_snapshot
 rw [valid_same, Option.bind_some]
 cases hv : validB h with
 | false => rfl
 | true =>
  obtain ⟨H, hlen⟩ := hist_of hv
  obtain ⟨s, e, S⟩ := snap_val H
  rw [List.take_of_length_le (by omega), Bool.not_true, cond_false, e, Option.bind_some, pok_val S, Option.bind_some]
  cases ho : okB h with
  | false => rfl
  | true =>
   obtain ⟨v, u, e2, g1, g2⟩ := pedges_val S
   rw [Bool.not_true, cond_false, e2, Option.bind_some]
   simp only [S.tx]
   rw [sorted_val (by have := commL_len h; omega) (commL_nodup h) comm_wf, edge_all g2, Option.bind_some]
   simp only [if_true]
   cases topo (allB h) (commL h).length (commL h) <;> rfl
theorem dang_any (h : List rf5Op) : hs_Danger bigFuel ((h.take 43).map cv) = some (dangR h) := by
 unfold hs_Danger dangerP dangR
 rw [valid_same, Option.bind_some]
 cases hv : validB h with
 | false => rfl
 | true =>
  obtain ⟨H, hlen⟩ := hist_of hv
  obtain ⟨s, e, S⟩ := snap_val H
  rw [List.take_of_length_le (by omega), Bool.not_true, cond_false, e, Option.bind_some, pok_val S, Option.bind_some]
  cases ho : okB h with
  | false => rfl
  | true =>
   obtain ⟨v, u, e2, g1, g2⟩ := pedges_val S
   obtain ⟨c1, c2⟩ := pdanger_val S g1 (triR_sorted h) (triR_mem h)
   rw [Bool.not_true, cond_false, e2, Option.bind_some, c1, chk_true, c2]
   rfl
theorem topo_none {E : Int → Int → Bool} : ∀ (n : Nat) (l : List Int), l.length ≤ n → topo E n l = none → ∃ S : List Int, S ≠ [] ∧ (∀ x, x ∈ S → x ∈ l) ∧ ∀ b, b ∈ S → ∃ a, a ∈ S ∧ E a b = true
 | n, [], _, h => by cases n <;> cases h
 | 0, x :: l, hl, _ => by simp at hl
 | n + 1, x :: l, hl, h => by
  have e2 : topo E (n + 1) (x :: l) = match (x :: l).find? (srcB E (x :: l)) with | none => none | some b => (topo E n ((x :: l).erase b)).map (b :: ·) := rfl
  rw [e2] at h
  cases hf : (x :: l).find? (srcB E (x :: l)) with
  | none =>
   refine ⟨x :: l, by simp, fun _ h => h, fun b hb => ?_⟩
   have := List.find?_eq_none.1 hf b hb
   unfold srcB at this
   simp only [Bool.not_eq_true', Bool.not_eq_false] at this
   obtain ⟨a, ha, hab⟩ := List.any_eq_true.1 this
   exact ⟨a, ha, hab⟩
  | some b =>
   rw [hf] at h
   have hb := List.mem_of_find?_eq_some hf
   have hle : ((x :: l).erase b).length ≤ n := by
    rw [List.length_erase_of_mem hb]
    simp at hl ⊢
    omega
   obtain ⟨S, h1, h2, h3⟩ := topo_none n _ hle (Option.map_eq_none_iff.1 h)
   exact ⟨S, h1, fun y hy => List.mem_of_mem_erase (h2 y hy), h3⟩
theorem least_of (f : Int → Int) : ∀ S : List Int, S ≠ [] → ∃ b, b ∈ S ∧ ∀ a, a ∈ S → f b ≤ f a
 | [], h => absurd rfl h
 | [x], _ => ⟨x, by simp, fun a ha => by simp at ha; subst ha; exact Int.le_refl _⟩
 | x :: y :: S, _ => by
  obtain ⟨b, hb, hm⟩ := least_of f (y :: S) (by simp)
  by_cases h : f x ≤ f b
  ·refine ⟨x, by simp, fun a ha => ?_⟩
   rcases List.mem_cons.1 ha with rfl | ha
   ·exact Int.le_refl _
   ·exact Int.le_trans h (hm a ha)
  ·refine ⟨b, by simp [hb], fun a ha => ?_⟩
   rcases List.mem_cons.1 ha with rfl | ha
   ·omega
   ·exact hm a ha
variable {h : List rf5Op}
theorem end_ne_beg {a b : Int} (ha : a ∈ commL h) (hb : b ∈ commL h) (hab : a ≠ b) : endL a 2 h 0 ≠ begL b h 0 := by
 intro e
 obtain ⟨_, h2⟩ := commL_mem.1 ha
 obtain ⟨j, x, e1, e2, e3, _⟩ := endL_some h 0 h2
 obtain ⟨_, h3⟩ := commL_mem.1 hb
 obtain ⟨j', x', _, e2', e3', _⟩ := endL_some h 0 h3
 obtain ⟨_, y, hy, hyt⟩ := begL_at b h 0 ⟨x', List.mem_of_getElem? e2', e3'⟩
 have ej : (begL b h 0 - (0 : Nat)).toNat = j := by rw [← e, e1]; omega
 rw [ej, e2] at hy
 cases hy
 exact hab (e3.symm.trans hyt)
theorem foldl_end {b : Int} (i : Int) : ∀ (r : List Int) (z : Int), (z = 0 ∨ endL z 2 h 0 < begL b h 0) → (r.foldl (srcStep h b i) z = 0 ∨ endL (r.foldl (srcStep h b i) z) 2 h 0 < begL b h 0)
 | [], z, hz => hz
 | x :: r, z, hz => by
  rw [List.foldl_cons]
  refine foldl_end i r _ ?_
  unfold srcStep
  cases hc : (writesL h x i && (decide (endL x 2 h 0 < begL b h 0) && ((z == 0) || decide (endL x 2 h 0 > endL z 2 h 0)))) with
  | true =>
   simp only [Bool.and_eq_true, decide_eq_true_eq] at hc
   exact .inr hc.2.1
  | false => exact hz
theorem edge_kinds (hok : NoBad h) {a b : Int} (he : allE h a b) : endL a 2 h 0 < begL b h 0 ∨ (antiE h a b ∧ ovL h a b = true ∧ begL a h 0 < endL b 2 h 0) := by
 obtain ⟨ha, hb, hab, i, hi, hc⟩ := he
 have ba := beg_end ha
 have bb := beg_end hb
 have n1 := end_ne_beg ha hb hab
 rcases hc with hc | ⟨h1, h2, h3⟩ | ⟨h1, h2⟩
 ·have hlt : begL a h 0 < endL b 2 h 0 := hc.2.2
  by_cases hov : begL b h 0 < endL a 2 h 0
  ·exact .inr ⟨⟨ha, hb, hab, i, hi, hc⟩, by unfold ovL; rw [decide_eq_true hlt, decide_eq_true hov]; rfl, hlt⟩
  ·exact .inl (by omega)
 ·refine .inl ?_
  have hlt : begL a h 0 < endL b 2 h 0 := by omega
  by_cases hov : begL b h 0 < endL a 2 h 0
  ·exfalso
   have ho : ovL h a b = true := by unfold ovL; rw [decide_eq_true hlt, decide_eq_true hov]; rfl
   rcases Int.lt_or_lt_of_ne hab with hl | hl
   ·exact hok a ha b hb i hi ⟨hl, ho, h1, h2⟩
   ·exact hok b hb a ha i hi ⟨hl, by unfold ovL at ho ⊢; rw [Bool.and_comm]; exact ho, h2, h1⟩
  ·omega
 ·refine .inl ?_
  have := foldl_end (h := h) (b := b) (i : Int) (commL h) 0 (.inl rfl)
  have e : (commL h).foldl (srcStep h b (i : Int)) 0 = a := h2
  rw [e] at this
  have := comm_rng ha
  omega
theorem safe_order (hok : NoBad h) (hd : triR h = []) : topo (allB h) (commL h).length (commL h) ≠ none := by
 intro hn
 obtain ⟨S, h1, h2, h3⟩ := topo_none _ _ (Nat.le_refl _) hn
 obtain ⟨b, hb, hm⟩ := least_of (fun t => endL t 2 h 0) S h1
 obtain ⟨a, ha, hab⟩ := h3 b hb
 have bb := beg_end (h2 b hb)
 rcases edge_kinds hok ((allB_iff h a b).1 hab) with hf | ⟨g1, g2, g3⟩
 ·have hq : endL b 2 h 0 ≤ endL a 2 h 0 := hm a ha
  omega
 ·obtain ⟨c, hc, hca⟩ := h3 a ha
  rcases edge_kinds hok ((allB_iff h c a).1 hca) with hf | ⟨g4, g5, g6⟩
  ·have hq : endL b 2 h 0 ≤ endL c 2 h 0 := hm c hc
   omega
  ·have : arr3_Int.mk c a b ∈ triR h := (triR_mem h _).2 ⟨g4, g1, g5, g2⟩
   rw [hd] at this
   simp at this
theorem historySafe_true {h : List rf5Op} (hl : lenOk h = true) : lw5_HistorySafe bigFuel h = some true := by
 unfold lw5_HistorySafe
 rw [of_val hl, Option.bind_some, snap_any, Option.bind_some, Option.bind_some, sord_any, Option.bind_some, Option.bind_some, dang_any, Option.bind_some, awake_val]
 cases hv : validB h with
 | false =>
  have e1 : snapR h = (false, 2) := by unfold snapR; rw [hv]; rfl
  have e2 : sordR h = ([], 2) := by unfold sordR; rw [hv]; rfl
  have e3 : dangR h = ([], 2) := by unfold dangR; rw [hv]; rfl
  rw [e1, e2, e3]
  rfl
 | true =>
  have e1 : snapR h = (okB h, 0) := by unfold snapR; rw [hv]; rfl
  cases ho : okB h with
  | false =>
   have e2 : sordR h = ([], 7) := by unfold sordR; rw [hv, ho]; rfl
   have e3 : dangR h = ([], 7) := by unfold dangR; rw [hv, ho]; rfl
   rw [e1, e2, e3, ho]
   rfl
  | true =>
   have e3 : dangR h = (triR h, 0) := by unfold dangR; rw [hv, ho]; rfl
   have e2 : sordR h = match topo (allB h) (commL h).length (commL h) with | some o => (o, 0) | none => ([], 5) := by unfold sordR; rw [hv, ho]; rfl
   rw [e1, e3, ho, e2]
   have hs := safe_order ((okB_iff h).1 ho)
   cases ht : topo (allB h) (commL h).length (commL h) with
   | some o => rfl
   | none =>
    have hne : triR h ≠ [] := fun hd => hs hd ht
    have hp : decide (((triR h).length : Int) > 0) = true := by
     have := List.length_pos_iff.2 hne
     exact decide_eq_true (by omega)
    simp only [lw5_HistorySafe_j22]
    rw [hp]
    rfl
end Go.AM
