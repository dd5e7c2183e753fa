/-
  PLAIN FACTS: the reference's tables (Armstrong's and the refuting rows), and that two equal tables are the same. No statement of the seat is proved here.
-/
import Derived.Test.YtombfedoinhafaaALawShown
import Derived.Test.YtombfedoinhafaaALaw5
import Derived.Test.YtombfedoinhafaaH1
set_option linter.unusedVariables false
set_option linter.unusedSimpArgs false
namespace Go.AM

theorem lenOk_map {α β : Type} {f : α → β} {l : List α} (h : lenOk l = true) : lenOk (l.map f) = true := by
  unfold lenOk at h ⊢; rw [List.length_map]; exact h

/-! ### a row that is being filled -/
def rowG (n : Nat) (x i : Int) (k : Nat) : List Int := (List.range n).map fun a => if a < k then (if bit x a then 0 else i) else 0

theorem rowG_zero {n : Nat} {x i : Int} : rowG n x i 0 = List.replicate n 0 := by
  unfold rowG; simp [List.map_const']

theorem rowG_end {n : Nat} {x i : Int} : rowG n x i n = rowF n x i := by
  unfold rowG rowF
  refine List.map_congr_left fun a ha => ?_
  rw [if_pos (List.mem_range.1 ha)]

theorem rowG_len {n : Nat} {x i : Int} {k : Nat} : (rowG n x i k).length = n := by simp [rowG]

theorem rowG_set {n : Nat} {x i : Int} {k : Nat} (hb : bit x k = false) : (rowG n x i k).set k i = rowG n x i (k + 1) := by
  refine List.ext_getElem (by simp [rowG]) fun a h1 h2 => ?_
  rw [List.getElem_set]
  simp only [rowG, List.getElem_map, List.getElem_range]
  by_cases h : k = a
  · subst h; simp [hb]
  · rw [if_neg h]
    by_cases h3 : a < k
    · have h4 : a < k + 1 := by omega
      simp only [h3, h4, if_true]
    · have h4 : ¬ a < k + 1 := by omega
      simp only [h3, h4, if_false]

theorem rowG_skip {n : Nat} {x i : Int} {k : Nat} (hb : bit x k = true) : rowG n x i k = rowG n x i (k + 1) := by
  unfold rowG
  refine List.map_congr_left fun a ha => ?_
  by_cases h : a = k
  · subst h; simp [hb]
  · by_cases h3 : a < k
    · have h4 : a < k + 1 := by omega
      simp only [h3, h4, if_true]
    · have h4 : ¬ a < k + 1 := by omega
      simp only [h3, h4, if_false]

theorem rowG_upd {n : Nat} {x i : Int} {k : Nat} (hk : k < n) (hb : bit x k = false) : upd (rowG n x i k) (0 + Int.toNat (k : Int)) i = some (rowG n x i (k + 1)) := by
  unfold upd
  simp only [Int.toNat_natCast, Nat.zero_add]
  rw [if_pos (by rw [rowG_len]; exact hk), rowG_set hb]

theorem mkOk_small {b : Nat} {n : Int} (h1 : 0 ≤ n) (h2 : n ≤ 8) (hb : b ≤ 1000) : mkOk b n = true := by
  have : n * b ≤ 8 * 1000 := Int.mul_le_mul h2 (by omega) (by omega) (by omega)
  simp only [mkOk, Bool.and_eq_true, decide_eq_true_eq]
  omega

theorem snap_rowF {n : Nat} {x i : Int} : snap 0 n (rowF n x i) = rowF n x i := by
  unfold snap
  rw [List.drop_zero, List.take_of_length_le (by simp [rowF])]

theorem rarm_l2 {n : Int} (h1 : 1 ≤ n) (h2 : n ≤ 8) {j : Nat} (hw : wf64 (j : Int)) {v9 : List (List Int)} (K : List Int → Option (List (List Int))) : ∀ (r : List Nat) (k : Nat), k + r.length = n.toNat →
    rf1_Armstrong_l2 n j v9 K r k (rowG n.toNat (j : Int) (v9.length : Int) k) = K (rowF n.toNat (j : Int) (v9.length : Int))
  | [], k, hk => by
    simp only [List.length_nil, Nat.add_zero] at hk
    rw [hk, rowG_end]; rfl
  | x :: r, k, hk => by
    simp only [List.length_cons] at hk
    rw [rf1_Armstrong_l2.eq_2, bit0 hw (by omega)]
    have e1 : decide (0 ≤ (k : Int)) = true := decide_eq_true (by omega)
    have e2 : decide ((0 : Int) ≤ (k : Int) ∧ (k : Int) < ((n.toNat : Nat) : Int)) = true := decide_eq_true (by omega)
    unfold rf1_Armstrong_j20
    simp only [e1, e2, chk, cond_true]
    cases hb : bit (j : Int) k with
    | false =>
      rw [rowG_upd (by omega) hb]
      simp only [Bool.not_false, cond_true, Option.bind_some]
      exact rarm_l2 h1 h2 hw K r (k + 1) (by omega)
    | true =>
      simp only [Bool.not_true, cond_false]
      rw [rowG_skip hb]
      exact rarm_l2 h1 h2 hw K r (k + 1) (by omega)

theorem rarm_l1 {n : Int} (h1 : 1 ≤ n) (h2 : n ≤ 8) {l : List rf1Dep} (hl : lenOk l = true) : ∀ (r : List Nat) (k : Nat) (S : List Int), S.length ≤ k + 1 → k + r.length ≤ 255 →
    rf1_Armstrong_l1 n l rf1_Armstrong_j6 r k (tab n.toNat S) = some (tab n.toNat (armGo (l.map toDep) r k S))
  | [], k, S, _, _ => rfl
  | x :: r, k, S, hS, hk => by
    simp only [List.length_cons] at hk
    have hw : wf64 (k : Int) := by unfold wf64; omega
    rw [rf1_Armstrong_l1.eq_2, rClosure_val hl hw]
    simp only [Option.bind_some]
    unfold armGo rf1_Armstrong_j10
    cases hc : (cl (l.map toDep) (k : Int) == (k : Int)) with
    | false =>
      have hc' : (cl (l.map toDep) (k : Int) != (k : Int)) = true := by unfold bne; rw [hc]; rfl
      simp only [hc', cond_true, cond_false]
      exact rarm_l1 h1 h2 hl r (k + 1) S (by omega) (by omega)
    | true =>
      have hc' : (cl (l.map toDep) (k : Int) != (k : Int)) = false := by unfold bne; rw [hc]; rfl
      have hlen : (tab n.toNat S).length = S.length := by simp [tab]
      have hr : lenOk (List.range n.toNat) = true := lenOk_of (by simp; omega)
      simp only [hc', cond_true, cond_false, mkOk_small (b := 8) (show 0 ≤ n by omega) h2 (by omega), hr, chk]
      rw [← rowG_zero (x := (k : Int)) (i := ((tab n.toNat S).length : Int)), rarm_l2 h1 h2 hw _ _ _ (by simp)]
      unfold rf1_Armstrong_j17
      rw [snap_rowF]
      have hcap : ∀ z, capOk 24 (tab n.toNat S ++ [z]).length = true := by
        intro z
        simp only [capOk, Bool.and_eq_true, List.length_append, List.length_singleton, hlen]
        exact ⟨Nat.ble_eq_true_of_le (by omega), Nat.ble_eq_true_of_le (by omega)⟩
      simp only [hcap, chk, cond_true]
      have e : tab n.toNat S ++ [rowF n.toNat (k : Int) ((tab n.toNat S).length : Int)] = tab n.toNat (S ++ [(k : Int)]) := by
        rw [hlen]; simp [tab, List.mapIdx_append]
      rw [e]
      exact rarm_l1 h1 h2 hl r (k + 1) _ (by simp; omega) (by omega)

theorem rArmstrong_val {n : Int} (h1 : 1 ≤ n) (h2 : n ≤ 8) {l : List rf1Dep} (hl : lenOk l = true) : rf1_Armstrong n l = some (tab n.toNat (armSets n (l.map toDep))) := by
  unfold rf1_Armstrong
  have hn : decide (0 ≤ n) = true := by simpa using (show 0 ≤ n by omega)
  have hp := pow_le h1 h2
  have hr : lenOk (List.range (2 ^ n.toNat - 1)) = true := lenOk_of (by simp; omega)
  rw [mkOk_small (b := 8) (show 0 ≤ n by omega) h2 (by omega), hn, full_eq h1 h2]
  unfold full
  rw [Int.toNat_natCast, hr]
  simp only [chk, cond_true]
  have e : [List.replicate n.toNat (0 : Int)] = tab n.toNat [full n] := by
    simp [tab, rowF, List.map_const']
  rw [e]
  exact rarm_l1 h1 h2 hl _ _ _ (by simp) (by simp; omega)

theorem rref_l1 {n : Int} (h1 : 1 ≤ n) (h2 : n ≤ 8) {l : List rf1Dep} (hl : lenOk l = true) {d : rf1Dep} (hw : wf64 d.f_From) (K : List Int → Option (List (List Int))) : ∀ (r : List Nat) (k : Nat), k + r.length = n.toNat →
    rf1_Refute_l1 n l d K r k (rowG n.toNat (cl (l.map toDep) d.f_From) 1 k) = K (rowF n.toNat (cl (l.map toDep) d.f_From) 1)
  | [], k, hk => by
    simp only [List.length_nil, Nat.add_zero] at hk
    rw [hk, rowG_end]; rfl
  | x :: r, k, hk => by
    simp only [List.length_cons] at hk
    have hwc : wf64 (cl (l.map toDep) d.f_From) := (cl_spec (lenOk_map hl) hw).wf
    rw [rf1_Refute_l1.eq_2, rClosure_val hl hw]
    simp only [Option.bind_some]
    rw [bit0 hwc (by omega)]
    have e1 : decide (0 ≤ (k : Int)) = true := decide_eq_true (by omega)
    have e2 : decide ((0 : Int) ≤ (k : Int) ∧ (k : Int) < ((n.toNat : Nat) : Int)) = true := decide_eq_true (by omega)
    unfold rf1_Refute_j10
    simp only [e1, e2, chk, cond_true]
    cases hb : bit (cl (l.map toDep) d.f_From) k with
    | false =>
      rw [rowG_upd (by omega) hb]
      simp only [Bool.not_false, cond_true, Option.bind_some]
      exact rref_l1 h1 h2 hl hw K r (k + 1) (by omega)
    | true =>
      simp only [Bool.not_true, cond_false]
      rw [rowG_skip hb]
      exact rref_l1 h1 h2 hl hw K r (k + 1) (by omega)

theorem rRefute_val {n : Int} (h1 : 1 ≤ n) (h2 : n ≤ 8) {l : List rf1Dep} (hl : lenOk l = true) {d : rf1Dep} (hw : wf64 d.f_From) :
    rf1_Refute n l d = some [rowF n.toNat 0 0, rowF n.toNat (cl (l.map toDep) d.f_From) 1] := by
  unfold rf1_Refute
  have hr : lenOk (List.range n.toNat) = true := lenOk_of (by simp; omega)
  simp only [mkOk_small (b := 8) (show 0 ≤ n by omega) h2 (by omega), hr, chk, cond_true]
  rw [← rowG_zero (x := cl (l.map toDep) d.f_From) (i := 1), rref_l1 h1 h2 hl hw _ _ _ (by simp)]
  unfold rf1_Refute_j7
  rw [snap_rowF]
  try rw [rowG_zero]
  simp only [mkOk_small (b := 8) (show 0 ≤ n by omega) h2 (by omega), chk, cond_true]
  simp [rowF, List.map_const']

/-! ### the same table -/
theorem equal_int_l1 {a : List Int} (K : Option Bool) : ∀ (r pre : List Int), pre ++ r = a → sl_Equal_int_l1 a K r pre.length = K
  | [], pre, _ => rfl
  | x :: r, pre, h => by
    rw [sl_Equal_int_l1.eq_2]
    have hi : idx a (pre.length : Int) = some x := by
      unfold idx
      rw [if_pos (by omega), Int.toNat_natCast, ← h]
      simp
    simp only [hi, Option.bind_some, bne_self_eq_false, cond_false]
    have := equal_int_l1 K r (pre ++ [x]) (by simpa using h)
    simpa using this

theorem equal_int_refl {a : List Int} (h : lenOk a = true) : sl_Equal_int a a = some true := by
  unfold sl_Equal_int
  simp only [bne_self_eq_false, cond_false, h, chk, cond_true]
  exact equal_int_l1 _ a [] rfl

theorem equalFunc_l1 {a : List (List Int)} {g : List Int → List Int → Option Bool} (hg : ∀ x, x ∈ a → g x x = some true) (K : Option Bool) : ∀ (r pre : List (List Int)), pre ++ r = a → sl_EqualFunc_Lint_l1 a g K r pre.length = K
  | [], pre, _ => rfl
  | x :: r, pre, h => by
    rw [sl_EqualFunc_Lint_l1.eq_2]
    have hi : idx a (pre.length : Int) = some x := by
      unfold idx
      rw [if_pos (by omega), Int.toNat_natCast, ← h]
      simp
    have hx : g x x = some true := hg x (by rw [← h]; simp)
    simp only [hi, hx, Option.bind_some, Bool.not_true, cond_false]
    have := equalFunc_l1 hg K r (pre ++ [x]) (by simpa using h)
    simpa using this

theorem same_refl {a : List (List Int)} (h : lenOk a = true) (hr : ∀ x, x ∈ a → lenOk x = true) : lw1_same a a = some true := by
  unfold lw1_same sl_EqualFunc_Lint
  simp only [bne_self_eq_false, cond_false, h, chk, cond_true]
  have := equalFunc_l1 (g := fun y0 y1 => sl_Equal_int y0 y1) (fun x hx => equal_int_refl (hr x hx)) sl_EqualFunc_Lint_j8 a [] rfl
  simp only [List.length_nil] at this
  rw [this]
  rfl

/-- a law's list that is valid is the program's list -/
theorem ok_take {n : Int} {l : List rf1Dep} (ho : okArgs n ((l.take 14).map toDep) = true) : (l.take 14).map toDep = l.map toDep ∧ lenOk l = true := by
  unfold okArgs at ho
  simp only [Bool.and_eq_true, decide_eq_true_eq] at ho
  obtain ⟨⟨_, h⟩, _⟩ := ho
  simp only [List.length_map, List.length_take] at h
  rw [List.take_of_length_le (by omega)]
  exact ⟨rfl, lenOk_of (by omega)⟩

theorem lenOk_rowF {n : Nat} (h : n ≤ 8) {x i : Int} : lenOk (rowF n x i) = true := lenOk_of (by simp [rowF]; omega)

theorem lenOk_tab {n : Nat} (h : n ≤ 8) {S : List Int} : ∀ x, x ∈ tab n S → lenOk x = true := by
  intro x hx
  unfold tab at hx
  rw [List.mem_mapIdx] at hx
  obtain ⟨i, hi, rfl⟩ := hx
  exact lenOk_rowF h

end Go.AM
