/-
  CHAPTER 1, PLAIN: what the closure of the program is. No statement of the seat is proved here.
-/
import Derived.Test.YtombfedoinhafaaAWord
import Derived.Test.YtombfedoinhafaaG1
set_option linter.unusedVariables false
set_option linter.unusedSimpArgs false
namespace Go.AM

/-! ### finding an element -/
theorem indexFunc_dep (g : dpDep → Option Bool) (p : dpDep → Bool) (a : List dpDep) (hl : lenOk a = true) (hg : ∀ x, x ∈ a → g x = some (p x)) :
    ∃ r : Int, sl_IndexFunc_dpDep a g = some r ∧ (decide (r ≥ 0)) = a.any p := by
  unfold sl_IndexFunc_dpDep
  rw [hl]
  simp only [chk, cond_true]
  have : ∀ (l : List dpDep) (k : Nat), (∀ x, x ∈ l → g x = some (p x)) → ∃ r : Int, sl_IndexFunc_dpDep_l1 g (sl_IndexFunc_dpDep_j4) l k = some r ∧ (decide (r ≥ 0)) = l.any p := by
    intro l
    induction l with
    | nil => intro k _; exact ⟨-1, rfl, rfl⟩
    | cons x l ih =>
      intro k h
      rw [sl_IndexFunc_dpDep_l1.eq_2, h x (by simp)]
      simp only [Option.bind_some, List.any_cons]
      cases p x with
      | true => exact ⟨k, rfl, by simp⟩
      | false => simpa using ih (k + 1) (fun x hx => h x (by simp [hx]))
  exact this a 0 hg

theorem containsFunc_dep (g : dpDep → Option Bool) (p : dpDep → Bool) (a : List dpDep) (hl : lenOk a = true) (hg : ∀ x, x ∈ a → g x = some (p x)) :
    sl_ContainsFunc_dpDep a g = some (a.any p) := by
  obtain ⟨r, h1, h2⟩ := indexFunc_dep g p a hl hg
  unfold sl_ContainsFunc_dpDep
  rw [h1, ← h2]; rfl

theorem indexFunc_int (g : Int → Option Bool) (p : Int → Bool) (a : List Int) (hl : lenOk a = true) (hg : ∀ x, x ∈ a → g x = some (p x)) :
    ∃ r : Int, sl_IndexFunc_int a g = some r ∧ (decide (r ≥ 0)) = a.any p := by
  unfold sl_IndexFunc_int
  rw [hl]
  simp only [chk, cond_true]
  have : ∀ (l : List Int) (k : Nat), (∀ x, x ∈ l → g x = some (p x)) → ∃ r : Int, sl_IndexFunc_int_l1 g (sl_IndexFunc_int_j4) l k = some r ∧ (decide (r ≥ 0)) = l.any p := by
    intro l
    induction l with
    | nil => intro k _; exact ⟨-1, rfl, rfl⟩
    | cons x l ih =>
      intro k h
      rw [sl_IndexFunc_int_l1.eq_2, h x (by simp)]
      simp only [Option.bind_some, List.any_cons]
      cases p x with
      | true => exact ⟨k, rfl, by simp⟩
      | false => simpa using ih (k + 1) (fun x hx => h x (by simp [hx]))
  exact this a 0 hg

theorem containsFunc_int (g : Int → Option Bool) (p : Int → Bool) (a : List Int) (hl : lenOk a = true) (hg : ∀ x, x ∈ a → g x = some (p x)) :
    sl_ContainsFunc_int a g = some (a.any p) := by
  obtain ⟨r, h1, h2⟩ := indexFunc_int g p a hl hg
  unfold sl_ContainsFunc_int
  rw [h1, ← h2]; rfl

/-! ### sets of attributes, valid dependencies -/
/-- a set over n attributes -/
def isSet (n x : Int) : Bool := decide (0 ≤ x) && decide (x < iShl .i64 1 n)

theorem lenOk_of {α : Type} {l : List α} (h : l.length ≤ 9223372036854775807) : lenOk l = true := by
  exact Nat.ble_eq_true_of_le h

theorem sets_eq {n : Int} {l : List Int} (hn : 0 ≤ n) (hl : lenOk l = true) : dp_sets n l = some (l.all (isSet n)) := by
  unfold dp_sets
  rw [containsFunc_int _ (fun x => !isSet n x) l hl]
  · simp only [Option.bind_some]
    congr 1
    induction l with
    | nil => rfl
    | cons x l ih => 
      have hl' : lenOk l = true := lenOk_of (by have := Nat.le_of_ble_eq_true hl; simp at this; omega)
      simp only [List.any_cons, List.all_cons, Bool.not_or, Bool.not_not, ih hl']
  · intro x _
    unfold dp_sets_1 dp_sets_1_j4 isSet
    have : decide (0 ≤ n) = true := by simpa using hn
    simp only [this, chk, cond_true]
    by_cases h : x < 0
    · have h0 : ¬ 0 ≤ x := by omega
      simp [h, h0]
    · have h0 : 0 ≤ x := by omega
      simp [h, h0]
      by_cases h2 : iShl .i64 1 n ≤ x
      · have : ¬ x < iShl .i64 1 n := by omega
        simp [h2, this]
      · have : x < iShl .i64 1 n := by omega
        simp [h2, this]

/-- what the program takes -/
def okArgs (n : Int) (ds : List dpDep) : Bool := decide (1 ≤ n) && decide (n ≤ 8) && decide (ds.length ≤ 12) && ds.all fun d => isSet n d.f_From && isSet n d.f_To

theorem valid_eq {n : Int} {ds : List dpDep} (hl : lenOk ds = true) : dp_valid n ds = some (okArgs n ds) := by
  unfold dp_valid dp_valid_j5 okArgs
  by_cases h1 : n < 1
  · have : ¬ 1 ≤ n := by omega
    simp [h1, this]
  · by_cases h2 : n > 8
    · have : ¬ n ≤ 8 := by omega
      simp [h1, h2, this]
    · have h3 : 1 ≤ n := by omega
      have h4 : n ≤ 8 := by omega
      by_cases h5 : ds.length ≤ 12
      · have h6 : ¬ (ds.length : Int) > 12 := by omega
        simp only [h1, h2, h3, h4, h5, h6, decide_true, decide_false, cond_false, cond_true, Bool.true_and]
        rw [containsFunc_dep _ (fun d => !(isSet n d.f_From && isSet n d.f_To)) ds hl]
        · simp only [Option.bind_some]
          congr 1
          clear hl h5 h6
          induction ds with
          | nil => rfl
          | cons x l ih => simp only [List.any_cons, List.all_cons, Bool.not_or, Bool.not_not, ih]
        · intro d _
          unfold dp_valid_1
          rw [sets_eq (by omega) (by rfl)]
          simp
      · have h6 : (ds.length : Int) > 12 := by omega
        simp [h1, h2, h3, h4, h5, h6]

/-! ### the closure -/
def Shut (ds : List dpDep) (c : Int) : Prop := ∀ d, d ∈ ds → Bits d.f_From c → Bits d.f_To c

def pass : List dpDep → Int → Bool → Int × Bool
  | [], v, ch => (v, ch)
  | d :: r, v, ch => bif (iAndNot .i64 d.f_From v == 0) && (iAndNot .i64 d.f_To v != 0) then pass r (iOr .i64 v d.f_To) true else pass r v ch

theorem l2_eq (N : Int → Bool → Option Int) : ∀ (l : List dpDep) (k : Nat) (v : Int) (ch : Bool), dp_closure_1_l2 N l k v ch = N (pass l v ch).1 (pass l v ch).2
  | [], k, v, ch => rfl
  | d :: l, k, v, ch => by
    rw [dp_closure_1_l2.eq_2]
    unfold pass dp_closure_1_j16 dp_closure_1_j14
    cases h1 : (iAndNot .i64 d.f_From v == 0)
    · simp only [cond_false, Bool.false_and]; exact l2_eq N l _ _ _
    · cases h2 : (iAndNot .i64 d.f_To v != 0)
      · simp only [cond_true, cond_false, Bool.true_and]; exact l2_eq N l _ _ _
      · simp only [cond_true, Bool.true_and]; exact l2_eq N l _ _ _

theorem pass_spec : ∀ (l : List dpDep) (v : Int) (ch : Bool), wf64 v →
    wf64 (pass l v ch).1 ∧ Bits v (pass l v ch).1 ∧ (∀ c, Shut l c → Bits v c → Bits (pass l v ch).1 c) ∧
    ((pass l v ch).2 = false → ch = false ∧ (pass l v ch).1 = v ∧ Shut l v) ∧ ((pass l v ch).2 = true → ch = true ∨ (pass l v ch).1 ≠ v)
  | [], v, ch, hv => ⟨hv, Bits.refl v, fun c _ h => h, fun h => ⟨h, rfl, fun d hd => by cases hd⟩, fun h => .inl h⟩
  | d :: l, v, ch, hv => by
    unfold pass
    cases hc : (iAndNot .i64 d.f_From v == 0) && (iAndNot .i64 d.f_To v != 0) with
    | false =>
      simp only [cond_false]
      obtain ⟨h1, h2, h3, h4, h5⟩ := pass_spec l v ch hv
      refine ⟨h1, h2, fun c hcl => h3 c (fun e he => hcl e (by simp [he])), fun h => ?_, h5⟩
      obtain ⟨k1, k2, k3⟩ := h4 h
      refine ⟨k1, k2, fun e he hs => ?_⟩
      rcases List.mem_cons.1 he with rfl | he
      · rw [andNot_zero.2 hs] at hc
        simp only [Bool.true_and] at hc
        by_cases hh : Bits e.f_To v
        · exact hh
        · rw [andNot_ne.2 hh] at hc; cases hc
      · exact k3 e he hs
    | true =>
      simp only [cond_true]
      simp only [Bool.and_eq_true] at hc
      have hf := andNot_zero.1 hc.1
      have ht := andNot_ne.1 hc.2
      obtain ⟨h1, h2, h3, h4, h5⟩ := pass_spec l (iOr .i64 v d.f_To) true (wf_or _ _)
      refine ⟨h1, (sub_or_left _ _).trans h2, fun c hcl hs => h3 c (fun e he => hcl e (by simp [he])) (or_sub hs (hcl d (by simp) (hf.trans hs))), fun h => ?_, fun _ => .inr fun e => ?_⟩
      · exact absurd (h4 h).1 (by decide)
      · apply ht
        rw [← e]
        exact (sub_or_right v d.f_To).trans h2

/-- r is the closure of x under ds -/
structure IsClosure (ds : List dpDep) (x r : Int) : Prop where
  wf : wf64 r
  sup : Bits x r
  closed : Shut ds r
  least : ∀ c, Shut ds c → Bits x c → Bits r c

theorem IsClosure.unique {ds : List dpDep} {x r s : Int} (h : IsClosure ds x r) (k : IsClosure ds x s) : r = s :=
  Bits.antisymm h.wf k.wf (h.least s k.closed k.sup) (k.least r h.closed h.sup)

theorem l1_spec {ds : List dpDep} (hl : lenOk ds = true) (x : Int) : ∀ (m : Nat) (v : Int), wf64 v → Bits x v → (∀ c, Shut ds c → Bits x c → Bits v c) → 18446744073709551616 - (V v).toNat < m →
    ∃ r, dp_closure_1_l1 ds (dp_closure_1_j4) m v true = some r ∧ IsClosure ds x r
  | 0, v, _, _, _, h => by omega
  | m + 1, v, hv, hx, hleast, hm => by
    rw [dp_closure_1_l1.eq_2]
    simp only [cond_true, hl, chk]
    rw [l2_eq]
    obtain ⟨h1, h2, h3, h4, h5⟩ := pass_spec ds v false hv
    cases hp : (pass ds v false).2 with
    | false =>
      obtain ⟨_, k2, k3⟩ := h4 hp
      rw [k2]
      cases m with
      | zero =>
        have := (V v).isLt
        omega
      | succ m =>
        rw [dp_closure_1_l1.eq_2]
        exact ⟨v, rfl, hv, hx, k3, hleast⟩
    | true =>
      rcases h5 hp with h | h
      · cases h
      · have := toNat_lt_of_sub hv h1 h2 (Ne.symm h)
        have hlt := (V (pass ds v false).1).isLt
        exact l1_spec hl x m _ h1 (hx.trans h2) (fun c hc hs => h3 c hc (hleast c hc hs)) (by omega)

/-- enough rounds -/
def bigFuel : Nat := 36893488147419103232

theorem closure_spec {ds : List dpDep} (hl : lenOk ds = true) {x : Int} (hx : wf64 x) {fuel : Nat} (hf : bigFuel ≤ fuel) : ∃ r, dp_closure_1 fuel x ds = some r ∧ IsClosure ds x r := by
  unfold dp_closure_1
  exact l1_spec hl x fuel x hx (Bits.refl x) (fun c _ h => h) (by unfold bigFuel at hf; omega)

/-- the program's Closure -/
theorem Closure_eq {n : Int} {ds : List dpDep} {x : Int} (hl : lenOk ds = true) (hx : wf64 x) {fuel : Nat} (hf : bigFuel ≤ fuel) :
    ((okArgs n ds && isSet n x) = false ∧ dp_Closure fuel n ds x = some (0, 2)) ∨ (okArgs n ds = true ∧ isSet n x = true ∧ ∃ r, IsClosure ds x r ∧ dp_Closure fuel n ds x = some (r, 0)) := by
  obtain ⟨r, h1, h2⟩ := closure_spec hl hx hf
  unfold dp_Closure dp_Closure_j6 dp_closure
  rw [valid_eq hl]
  cases ho : okArgs n ds with
  | false => left; simp
  | true =>
    have hn : 0 ≤ n := by
      simp only [okArgs, Bool.and_eq_true, decide_eq_true_eq] at ho; omega
    simp only [Option.bind_some, Bool.not_true, cond_false]
    rw [sets_eq hn (by rfl)]
    cases hs : isSet n x with
    | false => left; simp [hs]
    | true =>
      right
      refine ⟨by first | rfl | trivial, by first | rfl | trivial, r, h2, ?_⟩
      simp [hs, h1]

end Go.AM
