/-
  PLAIN FACTS AND THE LAW (gathered by shake.py). No statement of the seat is proved here.
-/
import Derived.Test.YtombfedoinhafaaAWord
import Derived.Test.YtombfedoinhafaaK142
set_option linter.unusedVariables false
set_option linter.unusedSimpArgs false
set_option maxRecDepth 100000
namespace Go.AM
open Go.Proofs
theorem indexFunc_dep (g : dpDep → Option Bool) (p : dpDep → Bool) (a : List dpDep) (hl : lenOk a = true) (hg : ∀ x, x ∈ a → g x = some (p x)) :
    ∃ r : Int, sl_IndexFunc_dpDep a g = some r ∧ (decide (r ≥ 0)) = a.any p := by
  unfold sl_IndexFunc_dpDep
  rw [hl]
  simp only [chk, cond_true]
  have : ∀ (l : List dpDep) (k : Nat), (∀ x, x ∈ l → g x = some (p x)) → ∃ r : Int, sl_IndexFunc_dpDep_l1 g (sl_IndexFunc_dpDep_j4) l k = some r ∧ (decide (r ≥ 0)) = l.any p := by
    intro l
    induction l with
    | nil => intro k _; exact ⟨-1, rfl, rfl⟩
    | cons x l ih =>
      intro k h
      rw [sl_IndexFunc_dpDep_l1.eq_2, h x (by simp)]
      simp only [Option.bind_some, List.any_cons]
      cases p x with
      | true => exact ⟨k, rfl, by simp⟩
      | false => simpa using ih (k + 1) (fun x hx => h x (by simp [hx]))
  exact this a 0 hg
theorem containsFunc_dep (g : dpDep → Option Bool) (p : dpDep → Bool) (a : List dpDep) (hl : lenOk a = true) (hg : ∀ x, x ∈ a → g x = some (p x)) :
    sl_ContainsFunc_dpDep a g = some (a.any p) := by
  obtain ⟨r, h1, h2⟩ := indexFunc_dep g p a hl hg
  unfold sl_ContainsFunc_dpDep
  rw [h1, ← h2]; rfl
theorem indexFunc_int (g : Int → Option Bool) (p : Int → Bool) (a : List Int) (hl : lenOk a = true) (hg : ∀ x, x ∈ a → g x = some (p x)) :
    ∃ r : Int, sl_IndexFunc_int a g = some r ∧ (decide (r ≥ 0)) = a.any p := by
  unfold sl_IndexFunc_int
  rw [hl]
  simp only [chk, cond_true]
  have : ∀ (l : List Int) (k : Nat), (∀ x, x ∈ l → g x = some (p x)) → ∃ r : Int, sl_IndexFunc_int_l1 g (sl_IndexFunc_int_j4) l k = some r ∧ (decide (r ≥ 0)) = l.any p := by
    intro l
    induction l with
    | nil => intro k _; exact ⟨-1, rfl, rfl⟩
    | cons x l ih =>
      intro k h
      rw [sl_IndexFunc_int_l1.eq_2, h x (by simp)]
      simp only [Option.bind_some, List.any_cons]
      cases p x with
      | true => exact ⟨k, rfl, by simp⟩
      | false => simpa using ih (k + 1) (fun x hx => h x (by simp [hx]))
  exact this a 0 hg
theorem containsFunc_int (g : Int → Option Bool) (p : Int → Bool) (a : List Int) (hl : lenOk a = true) (hg : ∀ x, x ∈ a → g x = some (p x)) :
    sl_ContainsFunc_int a g = some (a.any p) := by
  obtain ⟨r, h1, h2⟩ := indexFunc_int g p a hl hg
  unfold sl_ContainsFunc_int
  rw [h1, ← h2]; rfl
def isSet (n x : Int) : Bool := decide (0 ≤ x) && decide (x < iShl .i64 1 n)
theorem lenOk_of {α : Type} {l : List α} (h : l.length ≤ 9223372036854775807) : lenOk l = true := by
  exact Nat.ble_eq_true_of_le h
theorem sets_eq {n : Int} {l : List Int} (hn : 0 ≤ n) (hl : lenOk l = true) : dp_sets n l = some (l.all (isSet n)) := by
  unfold dp_sets
  rw [containsFunc_int _ (fun x => !isSet n x) l hl]
  · simp only [Option.bind_some]
    congr 1
    induction l with
    | nil => rfl
    | cons x l ih => 
      have hl' : lenOk l = true := lenOk_of (by have := Nat.le_of_ble_eq_true hl; simp at this; omega)
      simp only [List.any_cons, List.all_cons, Bool.not_or, Bool.not_not, ih hl']
  · intro x _
    unfold dp_sets_1 dp_sets_1_j4 isSet
    have : decide (0 ≤ n) = true := by simpa using hn
    simp only [this, chk, cond_true]
    by_cases h : x < 0
    · have h0 : ¬ 0 ≤ x := by omega
      simp [h, h0]
    · have h0 : 0 ≤ x := by omega
      simp [h, h0]
      by_cases h2 : iShl .i64 1 n ≤ x
      · have : ¬ x < iShl .i64 1 n := by omega
        simp [h2, this]
      · have : x < iShl .i64 1 n := by omega
        simp [h2, this]
def okArgs (n : Int) (ds : List dpDep) : Bool := decide (1 ≤ n) && decide (n ≤ 8) && decide (ds.length ≤ 12) && ds.all fun d => isSet n d.f_From && isSet n d.f_To
theorem valid_eq {n : Int} {ds : List dpDep} (hl : lenOk ds = true) : dp_valid n ds = some (okArgs n ds) := by
  unfold dp_valid dp_valid_j5 okArgs
  by_cases h1 : n < 1
  · have : ¬ 1 ≤ n := by omega
    simp [h1, this]
  · by_cases h2 : n > 8
    · have : ¬ n ≤ 8 := by omega
      simp [h1, h2, this]
    · have h3 : 1 ≤ n := by omega
      have h4 : n ≤ 8 := by omega
      by_cases h5 : ds.length ≤ 12
      · have h6 : ¬ (ds.length : Int) > 12 := by omega
        simp only [h1, h2, h3, h4, h5, h6, decide_true, decide_false, cond_false, cond_true, Bool.true_and]
        rw [containsFunc_dep _ (fun d => !(isSet n d.f_From && isSet n d.f_To)) ds hl]
        · simp only [Option.bind_some]
          congr 1
          clear hl h5 h6
          induction ds with
          | nil => rfl
          | cons x l ih => simp only [List.any_cons, List.all_cons, Bool.not_or, Bool.not_not, ih]
        · intro d _
          unfold dp_valid_1
          rw [sets_eq (by omega) (by rfl)]
          simp
      · have h6 : (ds.length : Int) > 12 := by omega
        simp [h1, h2, h3, h4, h5, h6]
def Shut (ds : List dpDep) (c : Int) : Prop := ∀ d, d ∈ ds → Bits d.f_From c → Bits d.f_To c
def pass : List dpDep → Int → Bool → Int × Bool
  | [], v, ch => (v, ch)
  | d :: r, v, ch => bif (iAndNot .i64 d.f_From v == 0) && (iAndNot .i64 d.f_To v != 0) then pass r (iOr .i64 v d.f_To) true else pass r v ch
theorem l2_eq (N : Int → Bool → Option Int) : ∀ (l : List dpDep) (k : Nat) (v : Int) (ch : Bool), dp_closure_1_l2 N l k v ch = N (pass l v ch).1 (pass l v ch).2
  | [], k, v, ch => rfl
  | d :: l, k, v, ch => by
    rw [dp_closure_1_l2.eq_2]
    unfold pass dp_closure_1_j16 dp_closure_1_j14
    cases h1 : (iAndNot .i64 d.f_From v == 0)
    · simp only [cond_false, Bool.false_and]; exact l2_eq N l _ _ _
    · cases h2 : (iAndNot .i64 d.f_To v != 0)
      · simp only [cond_true, cond_false, Bool.true_and]; exact l2_eq N l _ _ _
      · simp only [cond_true, Bool.true_and]; exact l2_eq N l _ _ _
theorem pass_spec : ∀ (l : List dpDep) (v : Int) (ch : Bool), wf64 v →
    wf64 (pass l v ch).1 ∧ Bits v (pass l v ch).1 ∧ (∀ c, Shut l c → Bits v c → Bits (pass l v ch).1 c) ∧
    ((pass l v ch).2 = false → ch = false ∧ (pass l v ch).1 = v ∧ Shut l v) ∧ ((pass l v ch).2 = true → ch = true ∨ (pass l v ch).1 ≠ v)
  | [], v, ch, hv => ⟨hv, Bits.refl v, fun c _ h => h, fun h => ⟨h, rfl, fun d hd => by cases hd⟩, fun h => .inl h⟩
  | d :: l, v, ch, hv => by
    unfold pass
    cases hc : (iAndNot .i64 d.f_From v == 0) && (iAndNot .i64 d.f_To v != 0) with
    | false =>
      simp only [cond_false]
      obtain ⟨h1, h2, h3, h4, h5⟩ := pass_spec l v ch hv
      refine ⟨h1, h2, fun c hcl => h3 c (fun e he => hcl e (by simp [he])), fun h => ?_, h5⟩
      obtain ⟨k1, k2, k3⟩ := h4 h
      refine ⟨k1, k2, fun e he hs => ?_⟩
      rcases List.mem_cons.1 he with rfl | he
      · rw [andNot_zero.2 hs] at hc
        simp only [Bool.true_and] at hc
        by_cases hh : Bits e.f_To v
        · exact hh
        · rw [andNot_ne.2 hh] at hc; cases hc
      · exact k3 e he hs
    | true =>
      simp only [cond_true]
      simp only [Bool.and_eq_true] at hc
      have hf := andNot_zero.1 hc.1
      have ht := andNot_ne.1 hc.2
      obtain ⟨h1, h2, h3, h4, h5⟩ := pass_spec l (iOr .i64 v d.f_To) true (wf_or _ _)
      refine ⟨h1, (sub_or_left _ _).trans h2, fun c hcl hs => h3 c (fun e he => hcl e (by simp [he])) (or_sub hs (hcl d (by simp) (hf.trans hs))), fun h => ?_, fun _ => .inr fun e => ?_⟩
      · exact absurd (h4 h).1 (by decide)
      · apply ht
        rw [← e]
        exact (sub_or_right v d.f_To).trans h2
structure IsClosure (ds : List dpDep) (x r : Int) : Prop where
  wf : wf64 r
  sup : Bits x r
  closed : Shut ds r
  least : ∀ c, Shut ds c → Bits x c → Bits r c
theorem IsClosure.unique {ds : List dpDep} {x r s : Int} (h : IsClosure ds x r) (k : IsClosure ds x s) : r = s :=
  Bits.antisymm h.wf k.wf (h.least s k.closed k.sup) (k.least r h.closed h.sup)
theorem l1_spec {ds : List dpDep} (hl : lenOk ds = true) (x : Int) : ∀ (m : Nat) (v : Int), wf64 v → Bits x v → (∀ c, Shut ds c → Bits x c → Bits v c) → 18446744073709551616 - (V v).toNat < m →
    ∃ r, dp_closure_1_l1 ds (dp_closure_1_j4) m v true = some r ∧ IsClosure ds x r
  | 0, v, _, _, _, h => by omega
  | m + 1, v, hv, hx, hleast, hm => by
    rw [dp_closure_1_l1.eq_2]
    simp only [cond_true, hl, chk]
    rw [l2_eq]
    obtain ⟨h1, h2, h3, h4, h5⟩ := pass_spec ds v false hv
    cases hp : (pass ds v false).2 with
    | false =>
      obtain ⟨_, k2, k3⟩ := h4 hp
      rw [k2]
      cases m with
      | zero =>
        have := (V v).isLt
        omega
      | succ m =>
        rw [dp_closure_1_l1.eq_2]
        exact ⟨v, rfl, hv, hx, k3, hleast⟩
    | true =>
      rcases h5 hp with h | h
      · cases h
      · have := toNat_lt_of_sub hv h1 h2 (Ne.symm h)
        have hlt := (V (pass ds v false).1).isLt
        exact l1_spec hl x m _ h1 (hx.trans h2) (fun c hc hs => h3 c hc (hleast c hc hs)) (by omega)
def bigFuel : Nat := 36893488147419103232
theorem closure_spec {ds : List dpDep} (hl : lenOk ds = true) {x : Int} (hx : wf64 x) {fuel : Nat} (hf : bigFuel ≤ fuel) : ∃ r, dp_closure_1 fuel x ds = some r ∧ IsClosure ds x r := by
  unfold dp_closure_1
  exact l1_spec hl x fuel x hx (Bits.refl x) (fun c _ h => h) (by unfold bigFuel at hf; omega)
theorem Closure_eq {n : Int} {ds : List dpDep} {x : Int} (hl : lenOk ds = true) (hx : wf64 x) {fuel : Nat} (hf : bigFuel ≤ fuel) :
    ((okArgs n ds && isSet n x) = false ∧ dp_Closure fuel n ds x = some (0, 2)) ∨ (okArgs n ds = true ∧ isSet n x = true ∧ ∃ r, IsClosure ds x r ∧ dp_Closure fuel n ds x = some (r, 0)) := by
  obtain ⟨r, h1, h2⟩ := closure_spec hl hx hf
  unfold dp_Closure dp_Closure_j6 dp_closure
  rw [valid_eq hl]
  cases ho : okArgs n ds with
  | false => left; simp
  | true =>
    have hn : 0 ≤ n := by
      simp only [okArgs, Bool.and_eq_true, decide_eq_true_eq] at ho; omega
    simp only [Option.bind_some, Bool.not_true, cond_false]
    rw [sets_eq hn (by rfl)]
    cases hs : isSet n x with
    | false => left; simp [hs]
    | true =>
      right
      refine ⟨by first | rfl | trivial, by first | rfl | trivial, r, h2, ?_⟩
      simp [hs, h1]
theorem iShl_one {n : Int} (h1 : 1 ≤ n) (h2 : n ≤ 8) : iShl .i64 1 n = ((2 ^ n.toNat : Nat) : Int) := by
  obtain ⟨m, rfl⟩ := Int.eq_ofNat_of_zero_le (show 0 ≤ n by omega)
  have h3 : 1 ≤ m := by omega
  have h4 : m ≤ 8 := by omega
  have : m = 1 ∨ m = 2 ∨ m = 3 ∨ m = 4 ∨ m = 5 ∨ m = 6 ∨ m = 7 ∨ m = 8 := by omega
  rcases this with rfl | rfl | rfl | rfl | rfl | rfl | rfl | rfl <;> decide +kernel
def full (n : Int) : Int := ((2 ^ n.toNat - 1 : Nat) : Int)
theorem ok_parts {n : Int} {ds : List dpDep} (h : okArgs n ds = true) : 1 ≤ n ∧ n ≤ 8 ∧ ∀ d, d ∈ ds → isSet n d.f_From = true ∧ isSet n d.f_To = true := by
  simp only [okArgs, Bool.and_eq_true, decide_eq_true_eq, List.all_eq_true] at h
  exact ⟨h.1.1.1, h.1.1.2, fun d hd => h.2 d hd⟩
def toDep (d : rf1Dep) : dpDep := ⟨d.f_From, d.f_To⟩
theorem deps_eq {l : List rf1Dep} (hl : lenOk l = true) : lw1_deps l = some ((l.take 14).map toDep) := by
  unfold lw1_deps
  rw [hl]
  simp only [chk, cond_true]
  have : ∀ (r : List rf1Dep) (k : Nat) (acc : List dpDep), acc.length = k → k ≤ 14 → lw1_deps_l1 lw1_deps_j4 r k acc = some (acc ++ (r.take (14 - k)).map toDep) := by
    intro r
    induction r with
    | nil => intro k acc _ _; rw [lw1_deps_l1.eq_1]; simp [lw1_deps_j4]
    | cons x r ih =>
      intro k acc ha hk
      rw [lw1_deps_l1.eq_2]
      by_cases h : (k : Int) > 13
      · have : k = 14 := by omega
        subst this
        simp [lw1_deps_j4]
      · have hk2 : k + 1 ≤ 14 := by omega
        have hcap : capOk 16 (acc ++ [(dpDep.mk x.f_From x.f_To)]).length = true := by
          rw [List.length_append, ha]
          simp only [capOk, Bool.and_eq_true]
          exact ⟨Nat.ble_eq_true_of_le (by simp; omega), Nat.ble_eq_true_of_le (by simp; omega)⟩
        simp only [h, decide_false, cond_false, hcap, chk, cond_true]
        rw [ih (k + 1) _ (by simp [ha]) hk2]
        have : 14 - k = (14 - (k + 1)) + 1 := by omega
        rw [this, List.take_succ_cons]
        simp [toDep]
  simpa using this l 0 [] rfl (by omega)
theorem awake_eq {fuel : Nat} (hf : bigFuel ≤ fuel) : lw1_awake fuel = some true := by
  unfold lw1_awake lw1_awake_j4
  have hc := Closure_eq (n := 3) (ds := [(dpDep.mk 1 2), (dpDep.mk 2 4)]) (x := 1) (by rfl) (by unfold wf64; omega) hf
  have ho : okArgs 3 [(dpDep.mk 1 2), (dpDep.mk 2 4)] = true := by decide +kernel
  have hs : isSet 3 1 = true := by decide +kernel
  rcases hc with ⟨h, _⟩ | ⟨_, _, r, h1, h2⟩
  · rw [ho, hs] at h; cases h
  · have : r = 7 := h1.unique (s := 7) ⟨by unfold wf64; omega, by rw [← sub_iff]; decide +kernel, fun d hd _ => by
        simp at hd; rcases hd with rfl | rfl <;> (rw [← sub_iff]; decide +kernel), fun c hc h1 => by
        have k1 := hc (dpDep.mk 1 2) (by simp) h1
        have k2 := hc (dpDep.mk 2 4) (by simp) k1
        have : (7 : Int) = iOr .i64 (iOr .i64 1 2) 4 := by decide +kernel
        rw [this]
        exact or_sub (or_sub h1 k1) k2⟩
    subst this
    rw [h2]; rfl
theorem lenOk_take {l : List rf1Dep} : lenOk ((l.take 14).map toDep) = true := lenOk_of (by simp; omega)
def has (y r : Int) : Bool := iAndNot .i64 y r == 0
theorem has_iff {y r : Int} : has y r = true ↔ Bits y r := andNot_zero
def cl (ds : List dpDep) (x : Int) : Int := (dp_closure_1 bigFuel x ds).getD 0
theorem cl_spec {ds : List dpDep} (hl : lenOk ds = true) {x : Int} (hx : wf64 x) : IsClosure ds x (cl ds x) := by
  obtain ⟨r, h1, h2⟩ := closure_spec hl hx (Nat.le_refl bigFuel)
  unfold cl; rw [h1]; exact h2
theorem cl_eq {ds : List dpDep} (hl : lenOk ds = true) {x : Int} (hx : wf64 x) {fuel : Nat} (hf : bigFuel ≤ fuel) : dp_closure_1 fuel x ds = some (cl ds x) := by
  obtain ⟨r, h1, h2⟩ := closure_spec hl hx hf
  rw [h1, h2.unique (cl_spec hl hx)]
theorem full_eq {n : Int} (h1 : 1 ≤ n) (h2 : n ≤ 8) : IntKind.wrap .i64 (iShl .i64 1 n - 1) = full n := by
  obtain ⟨m, rfl⟩ := Int.eq_ofNat_of_zero_le (show 0 ≤ n by omega)
  have : m = 1 ∨ m = 2 ∨ m = 3 ∨ m = 4 ∨ m = 5 ∨ m = 6 ∨ m = 7 ∨ m = 8 := by omega
  rcases this with rfl | rfl | rfl | rfl | rfl | rfl | rfl | rfl <;> decide +kernel
theorem pow_le {n : Int} (h1 : 1 ≤ n) (h2 : n ≤ 8) : 2 ^ n.toNat ≤ 256 := by
  have : n.toNat ≤ 8 := by omega
  calc 2 ^ n.toNat ≤ 2 ^ 8 := Nat.pow_le_pow_right (by decide) this
    _ = 256 := rfl
theorem isSet_range {n x : Int} (h1 : 1 ≤ n) (h2 : n ≤ 8) : isSet n x = true ↔ 0 ≤ x ∧ x < ((2 ^ n.toNat : Nat) : Int) := by
  unfold isSet; rw [iShl_one h1 h2]; simp
def passR : List rf1Dep → Int → Int
  | [], v => v
  | d :: r, v => passR r (bif iAndNot .i64 d.f_From v == 0 then iOr .i64 v d.f_To else v)
theorem passR_l2 (K : Int → Option Int) : ∀ (l : List rf1Dep) (k : Nat) (v : Int), rf1_Closure_l2 K l k v = K (passR l v)
  | [], k, v => rfl
  | d :: l, k, v => by
    rw [rf1_Closure_l2.eq_2]
    unfold passR rf1_Closure_j10
    cases (iAndNot .i64 d.f_From v == 0)
    · simp only [cond_false]; exact passR_l2 K l _ _
    · simp only [cond_true]; exact passR_l2 K l _ _
theorem passR_spec : ∀ (l : List rf1Dep) (v : Int), wf64 v → wf64 (passR l v) ∧ Bits v (passR l v) ∧ (∀ c, Shut (l.map toDep) c → Bits v c → Bits (passR l v) c) ∧ (∀ d, d ∈ l → Bits d.f_From v → Bits d.f_To (passR l v))
  | [], v, hv => ⟨hv, Bits.refl v, fun c _ h => h, fun d hd => by cases hd⟩
  | d :: l, v, hv => by
    unfold passR
    cases hc : (iAndNot .i64 d.f_From v == 0) with
    | false =>
      simp only [cond_false]
      obtain ⟨h1, h2, h3, h4⟩ := passR_spec l v hv
      refine ⟨h1, h2, fun c hs => h3 c (fun e he => hs e (by simp at he ⊢; exact .inr he)), fun e he hf => ?_⟩
      rcases List.mem_cons.1 he with rfl | he
      · rw [andNot_zero.2 hf] at hc; cases hc
      · exact h4 e he hf
    | true =>
      simp only [cond_true]
      have hf := andNot_zero.1 hc
      obtain ⟨h1, h2, h3, h4⟩ := passR_spec l (iOr .i64 v d.f_To) (wf_or _ _)
      refine ⟨h1, (sub_or_left _ _).trans h2, fun c hs hv => h3 c (fun e he => hs e (by simp at he ⊢; exact .inr he)) (or_sub hv (hs (toDep d) (by simp) (hf.trans hv))), fun e he hfe => ?_⟩
      rcases List.mem_cons.1 he with rfl | he
      · exact (sub_or_right _ _).trans h2
      · exact h4 e he (hfe.trans (sub_or_left _ _))
theorem passR_sub : ∀ (l : List rf1Dep) (v w : Int), Bits v w → (∀ d, d ∈ l → Bits d.f_To (passR l v) → Bits d.f_To w) → wf64 v → Bits (passR l v) w
  | [], v, w, h, _, _ => h
  | d :: l, v, w, h, hd, hv => by
    unfold passR at hd ⊢
    cases hc : (iAndNot .i64 d.f_From v == 0) with
    | false =>
      rw [hc] at hd
      simp only [cond_false] at hd ⊢
      exact passR_sub l v w h (fun e he => hd e (by simp [he])) hv
    | true =>
      rw [hc] at hd
      simp only [cond_true] at hd ⊢
      obtain ⟨_, h2, _⟩ := passR_spec l (iOr .i64 v d.f_To) (wf_or _ _)
      exact passR_sub l _ w (or_sub h (hd d (by simp) ((sub_or_right _ _).trans h2))) (fun e he => hd e (by simp [he])) (wf_or _ _)
def cnt (l : List rf1Dep) (v : Int) : Nat := l.countP fun d => has d.f_To v
theorem cnt_more {v w : Int} (hmono : ∀ d : rf1Dep, has d.f_To v = true → has d.f_To w = true) : ∀ (l : List rf1Dep), (∃ d, d ∈ l ∧ has d.f_To w = true ∧ has d.f_To v = false) → cnt l v < cnt l w
  | [], h => by obtain ⟨d, hd, _⟩ := h; cases hd
  | e :: l, h => by
    obtain ⟨d, hd, ha, hb⟩ := h
    have hle : cnt l v ≤ cnt l w := List.countP_mono_left (fun x _ hx => hmono x hx)
    unfold cnt at hle ⊢
    rw [List.countP_cons, List.countP_cons]
    rcases List.mem_cons.1 hd with rfl | hd
    · rw [ha, hb]; simp; omega
    · have := cnt_more hmono l ⟨d, hd, ha, hb⟩
      unfold cnt at this
      cases h1 : has e.f_To v with
      | true => rw [hmono e h1]; simp; omega
      | false =>
        cases h2 : has e.f_To w with
        | true => simp; omega
        | false => simpa using this
theorem cnt_lt {l : List rf1Dep} {v : Int} (hv : wf64 v) (h : passR l v ≠ v) : cnt l v < cnt l (passR l v) := by
  obtain ⟨h1, h2, _, _⟩ := passR_spec l v hv
  have hex : ∃ d, d ∈ l ∧ has d.f_To (passR l v) = true ∧ has d.f_To v = false := by
    apply Classical.byContradiction
    intro hn
    apply h
    refine (Bits.antisymm hv h1 h2 (passR_sub l v v (Bits.refl v) (fun d hd ht => ?_) hv)).symm
    apply Classical.byContradiction
    intro hnt
    refine hn ⟨d, hd, has_iff.2 ht, ?_⟩
    cases hh : has d.f_To v with
    | false => rfl
    | true => exact absurd (has_iff.1 hh) hnt
  exact cnt_more (fun d hd => has_iff.2 ((has_iff.1 hd).trans h2)) l hex
def passes (l : List rf1Dep) : Nat → Int → Int
  | 0, v => v
  | m + 1, v => passes l m (passR l v)
theorem passes_l1 {l : List rf1Dep} (hl : lenOk l = true) (K : Int → Option Int) : ∀ (r : List rf1Dep) (k : Nat) (v : Int), rf1_Closure_l1 l K r k v = K (passes l r.length v)
  | [], k, v => rfl
  | x :: r, k, v => by
    rw [rf1_Closure_l1.eq_2]
    simp only [hl, chk, cond_true]
    rw [passR_l2]
    unfold rf1_Closure_j7
    exact passes_l1 hl K r (k + 1) _
theorem passes_fix {l : List rf1Dep} {v : Int} (h : passR l v = v) : ∀ m, passes l m v = v
  | 0 => rfl
  | m + 1 => by unfold passes; rw [h]; exact passes_fix h m
theorem passes_spec {l : List rf1Dep} {x : Int} : ∀ (m : Nat) (v : Int), wf64 v → Bits x v → (∀ c, Shut (l.map toDep) c → Bits x c → Bits v c) → l.length ≤ m + cnt l v →
    IsClosure (l.map toDep) x (passes l m v)
  | 0, v, hv, hx, hle, hm => by
    refine ⟨hv, hx, fun d hd _ => ?_, hle⟩
    obtain ⟨e, he, rfl⟩ := List.mem_map.1 hd
    have : cnt l v = l.length := Nat.le_antisymm (List.countP_le_length) (by omega)
    unfold cnt at this
    rw [List.countP_eq_length] at this
    exact has_iff.1 (this e he)
  | m + 1, v, hv, hx, hle, hm => by
    unfold passes
    obtain ⟨h1, h2, h3, h4⟩ := passR_spec l v hv
    by_cases h : passR l v = v
    · rw [h, passes_fix h]
      refine ⟨hv, hx, fun d hd hf => ?_, hle⟩
      obtain ⟨e, he, rfl⟩ := List.mem_map.1 hd
      have := h4 e he hf
      rwa [h] at this
    · have := cnt_lt hv h
      exact passes_spec m _ h1 (hx.trans h2) (fun c hs hc => h3 c hs (hle c hs hc)) (by omega)
theorem rClosure_val {l : List rf1Dep} (hl : lenOk l = true) {x : Int} (hx : wf64 x) : rf1_Closure l x = some (cl (l.map toDep) x) := by
  unfold rf1_Closure
  rw [hl]
  simp only [chk, cond_true]
  rw [passes_l1 hl]
  unfold rf1_Closure_j4
  have hl' : lenOk (l.map toDep) = true := by unfold lenOk at hl ⊢; simpa using hl
  rw [(passes_spec (l := l) (x := x) l.length x hx (Bits.refl x) (fun c _ h => h) (by omega)).unique (cl_spec hl' hx)]
theorem rSet_val {n x : Int} (hn : 0 ≤ n) : rf1_Set n x = some (isSet n x) := by
  unfold rf1_Set rf1_Set_j4 isSet
  have h0 : decide (0 ≤ n) = true := by simpa using hn
  by_cases h : 0 ≤ x
  · have h1 : x ≥ 0 := h
    simp [h, h1, h0, chk]
  · have h1 : ¬ x ≥ 0 := h
    simp [h, h1]
theorem rPair_val {n : Int} {d : rf1Dep} (hn : 0 ≤ n) : rf1_Pair n d = some (isSet n d.f_From && isSet n d.f_To) := by
  unfold rf1_Pair rf1_Pair_j4
  rw [rSet_val hn]
  cases h : isSet n d.f_From with
  | true => simp [h, rSet_val hn]
  | false => simp [h]
theorem rValid_val {n : Int} {l : List rf1Dep} (hl : lenOk l = true) : rf1_Valid n l = some (okArgs n ((l.take 14).map toDep)) := by
  unfold rf1_Valid rf1_Valid_j5 okArgs
  by_cases h1 : n < 1
  · have : ¬ 1 ≤ n := by omega
    simp [h1, this]
  · by_cases h2 : n > 8
    · have : ¬ n ≤ 8 := by omega
      simp [h1, h2, this]
    · have h3 : 1 ≤ n := by omega
      have h4 : n ≤ 8 := by omega
      by_cases h5 : l.length ≤ 12
      · have h6 : ¬ (l.length : Int) > 12 := by omega
        have ht : l.take 14 = l := List.take_of_length_le (by omega)
        have h7 : (l.map toDep).length ≤ 12 := by simpa using h5
        rw [ht]
        simp only [h1, h2, h3, h4, h6, h7, decide_true, decide_false, cond_false, cond_true, Bool.true_and, hl, chk]
        have key : ∀ (r : List rf1Dep) (k : Nat), rf1_Valid_l1 n rf1_Valid_j8 r k = some ((r.map toDep).all fun d => isSet n d.f_From && isSet n d.f_To) := by
          intro r
          induction r with
          | nil => intro k; rfl
          | cons x r ih =>
            intro k
            rw [rf1_Valid_l1.eq_2, rPair_val (by omega)]
            simp only [Option.bind_some, List.map_cons, List.all_cons, toDep]
            cases hx : isSet n x.f_From && isSet n x.f_To with
            | true => simp only [Bool.not_true, cond_false, Bool.true_and]; exact ih _
            | false => simp
        exact key l 0
      · have h6 : (l.length : Int) > 12 := by omega
        have h7 : ¬ ((l.take 14).map toDep).length ≤ 12 := by simp; omega
        simp only [h1, h2, h3, h4, h6, h7, decide_true, decide_false, cond_false, cond_true, Bool.true_and, Bool.false_and]
def vY (f : Int → Int) (S x : Int) : Int := iAndNot .i64 (iAnd .i64 (f x) S) x
def vAt (f : Int → Int) (S x : Int) : Bool := has x S && (!has S (f x) && (vY f S x != 0))
def violGo (f : Int → Int) (S : Int) : List Nat → Nat → Option Int
  | [], _ => none
  | _ :: r, k => bif vAt f S (k : Int) then some (k : Int) else violGo f S r (k + 1)
def viol (f : Int → Int) (S : Int) : Option Int := violGo f S (List.range (Int.toNat (S + 1))) 0
def vDep (f : Int → Int) (S : Int) : Option Int → dpDep × Bool
  | none => (⟨0, 0⟩, false)
  | some x => (⟨x, vY f S x⟩, true)
def vRef (f : Int → Int) (S : Int) : Option Int → rf1Dep × Int
  | none => (⟨0, 0⟩, 5)
  | some x => (⟨x, vY f S x⟩, 0)
theorem violGo_val {f : Int → Int} {g : Int → Option Int} {S : Int} : ∀ (r : List Nat) (k : Nat) (v w : Int), (∀ j : Nat, j < k + r.length → g (j : Int) = some (f (j : Int))) →
    dp_violation_l1 g S dp_violation_j4 r k v w = some (vDep f S (violGo f S r k))
  | [], k, v, w, _ => rfl
  | x :: r, k, v, w, h => by
    have hk := h k (by simp)
    have ih := violGo_val (f := f) (g := g) (S := S) r (k + 1) v w (fun j hj => h j (by simp only [List.length_cons]; omega))
    rw [dp_violation_l1.eq_2, hk]
    simp only [Option.bind_some]
    unfold dp_violation_j8 dp_violation_j14
    rw [ih]
    have e1 : (iAndNot .i64 (k : Int) S != 0) = !has (k : Int) S := rfl
    have e2 : (iAndNot .i64 S (f k) != 0) = !has S (f k) := rfl
    have e3 : iAndNot .i64 (iAnd .i64 (f k) S) (k : Int) = vY f S k := rfl
    rw [e1, e2, e3, show violGo f S (x :: r) k = bif vAt f S (k : Int) then some (k : Int) else violGo f S r (k + 1) from rfl]
    unfold vAt
    cases has (k : Int) S <;> cases has S (f k) <;> cases (vY f S k != 0) <;> rfl
theorem viol_val {f : Int → Int} {g : Int → Option Int} {S : Int} (h0 : 0 ≤ S) (h1 : S < 256) (h : ∀ x : Int, 0 ≤ x → x < 256 → g x = some (f x)) : dp_violation g S = some (vDep f S (viol f S)) := by
  unfold dp_violation
  have e : IntKind.wrap .i64 (S + 1) = S + 1 := wrap_id (by omega) (by omega)
  have hl : lenOk (List.range (Int.toNat (S + 1))) = true := lenOk_of (by simp; omega)
  rw [e, hl]
  simp only [chk, cond_true]
  exact violGo_val _ 0 0 0 (fun j hj => h j (by omega) (by simp at hj; omega))
theorem rviolGo_val {l : List rf1Dep} (hl : lenOk l = true) {S : Int} : ∀ (r : List Nat) (k : Nat) (v w : Int), k + r.length ≤ 256 →
    rf1_Violation_l1 l S rf1_Violation_j4 r k v w = some (vRef (cl (l.map toDep)) S (violGo (cl (l.map toDep)) S r k))
  | [], k, v, w, _ => rfl
  | x :: r, k, v, w, h => by
    simp only [List.length_cons] at h
    have hw : wf64 (k : Int) := by unfold wf64; omega
    have ih := rviolGo_val hl (S := S) r (k + 1) v w (by omega)
    rw [rf1_Violation_l1.eq_2, rClosure_val hl hw]
    simp only [Option.bind_some]
    unfold rf1_Violation_j12
    rw [ih]
    have e1 : (iAndNot .i64 (k : Int) S == 0) = has (k : Int) S := rfl
    have e2 : (iAndNot .i64 S (cl (l.map toDep) k) != 0) = !has S (cl (l.map toDep) k) := rfl
    have e3 : iAndNot .i64 (iAnd .i64 (cl (l.map toDep) k) S) (k : Int) = vY (cl (l.map toDep)) S k := rfl
    rw [e1, e2, e3, show violGo (cl (l.map toDep)) S (x :: r) k = bif vAt (cl (l.map toDep)) S (k : Int) then some (k : Int) else violGo (cl (l.map toDep)) S r (k + 1) from rfl]
    unfold vAt
    cases has (k : Int) S <;> cases has S (cl (l.map toDep) k) <;> cases (vY (cl (l.map toDep)) S k != 0) <;> rfl
theorem rViol_val {l : List rf1Dep} (hl : lenOk l = true) {S : Int} (h0 : 0 ≤ S) (h1 : S < 256) : rf1_Violation l S = some (vRef (cl (l.map toDep)) S (viol (cl (l.map toDep)) S)) := by
  unfold rf1_Violation
  have e : IntKind.wrap .i64 (S + 1) = S + 1 := wrap_id (by omega) (by omega)
  have hr : lenOk (List.range (Int.toNat (S + 1))) = true := lenOk_of (by simp; omega)
  rw [e, hr]
  simp only [chk, cond_true]
  exact rviolGo_val hl _ 0 0 0 (by simp; omega)
theorem violGo_some {f : Int → Int} {S x : Int} : ∀ (r : List Nat) (k : Nat), violGo f S r k = some x → vAt f S x = true ∧ (k : Int) ≤ x ∧ x < ((k + r.length : Nat) : Int)
  | [], k, h => by cases h
  | y :: r, k, h => by
    unfold violGo at h
    cases hv : vAt f S (k : Int) with
    | true => rw [hv] at h; simp only [cond_true, Option.some.injEq] at h; subst h; exact ⟨hv, by omega, by simp; omega⟩
    | false =>
      rw [hv] at h
      simp only [cond_false] at h
      obtain ⟨a, b, c⟩ := violGo_some r (k + 1) h
      exact ⟨a, by omega, by simp at c ⊢; omega⟩
def pcOf (x : Int) : Nat := (List.range 8).countP fun i => (V x).getLsbD i
theorem countLt {p q : Nat → Bool} (hpq : ∀ i, p i = true → q i = true) : ∀ (l : List Nat), (∃ i, i ∈ l ∧ q i = true ∧ p i = false) → l.countP p < l.countP q
  | [], h => by obtain ⟨i, hi, _⟩ := h; cases hi
  | x :: r, h => by
    have hle : r.countP p ≤ r.countP q := List.countP_mono_left (fun i _ => hpq i)
    obtain ⟨i, hi, h1, h2⟩ := h
    rw [List.countP_cons, List.countP_cons]
    rcases List.mem_cons.1 hi with rfl | hr
    · rw [h1, h2]; simp; omega
    · have := countLt hpq r ⟨i, hr, h1, h2⟩
      cases hp : p x with
      | false => simp; omega
      | true => rw [hpq x hp]; simp; omega
theorem bit_lt8 {S : Int} (h0 : 0 ≤ S) (h1 : S < 256) {i : Nat} (h : (V S).getLsbD i = true) : i < 8 := by
  have hb : Bits S ((2 ^ 8 - 1 : Nat) : Int) := (sub_full (by omega) (by unfold wf64; omega)).2 ⟨h0, by simpa using h1⟩
  have := hb i h
  have e : V ((2 ^ 8 - 1 : Nat) : Int) = BitVec.ofNat 64 (2 ^ 8 - 1) := by decide +kernel
  rw [e, BitVec.getLsbD_ofNat] at this
  simp only [Bool.and_eq_true, decide_eq_true_eq, Nat.testBit_two_pow_sub_one] at this
  exact this.2
theorem pc_lt {a b : Int} (hb0 : 0 ≤ b) (hb1 : b < 256) (h : Bits a b) (h2 : ∃ i, (V b).getLsbD i = true ∧ (V a).getLsbD i = false) : pcOf a < pcOf b := by
  obtain ⟨i, h3, h4⟩ := h2
  exact countLt h _ ⟨i, List.mem_range.2 (bit_lt8 hb0 hb1 h3), h3, h4⟩
theorem pc_le (a : Int) : pcOf a ≤ 8 := by
  have := List.countP_le_length (p := fun i => (V a).getLsbD i) (l := List.range 8)
  simpa [pcOf] using this
theorem range_of_bits {a b : Int} (ha : wf64 a) (hb0 : 0 ≤ b) (hb1 : b < 256) (h : Bits a b) : 0 ≤ a ∧ a < 256 := by
  have hb : Bits b ((2 ^ 8 - 1 : Nat) : Int) := (sub_full (by omega) (by unfold wf64; omega)).2 ⟨hb0, by simpa using hb1⟩
  have := (sub_full (n := 8) (by omega) ha).1 (h.trans hb)
  exact ⟨this.1, by simpa using this.2⟩
def Adds (f : Int → Int) : Prop := ∀ x, 0 ≤ x → x < 256 → wf64 (f x) ∧ Bits x (f x)
def leftS (f : Int → Int) (S x : Int) : Int := iOr .i64 x (vY f S x)
def rightS (f : Int → Int) (S x : Int) : Int := iAndNot .i64 S (vY f S x)
theorem not_bits {a b : Int} (h : ¬ Bits a b) : ∃ i, (V a).getLsbD i = true ∧ (V b).getLsbD i = false := by
  refine Classical.byContradiction fun hn => h fun i hi => ?_
  cases hb : (V b).getLsbD i with
  | true => rfl
  | false => exact absurd ⟨i, hi, hb⟩ hn
theorem vY_bit {f : Int → Int} {S x : Int} (i : Nat) : (V (vY f S x)).getLsbD i = ((V (f x)).getLsbD i && (V S).getLsbD i && !(V x).getLsbD i) := by
  unfold vY
  rw [V_andNot, V_and]
  by_cases hi : i < 64
  · simp [hi]
  · simp [BitVec.getLsbD_of_ge _ i (by omega : 64 ≤ i)]
theorem split_spec {f : Int → Int} (hf : Adds f) {S x : Int} (h0 : 0 ≤ S) (h1 : S < 256) (h : viol f S = some x) :
    (0 ≤ leftS f S x ∧ leftS f S x < 256 ∧ pcOf (leftS f S x) < pcOf S) ∧ (0 ≤ rightS f S x ∧ rightS f S x < 256 ∧ pcOf (rightS f S x) < pcOf S) := by
  obtain ⟨hv, hx0, hx1⟩ := violGo_some _ _ h
  simp only [List.length_range] at hx1
  have hx2 : x < 256 := by omega
  unfold vAt at hv
  simp only [Bool.and_eq_true, Bool.not_eq_true'] at hv
  obtain ⟨a1, a2, a3⟩ := hv
  have hxS := has_iff.1 a1
  have hSf : ¬ Bits S (f x) := fun hb => by rw [has_iff.2 hb] at a2; cases a2
  obtain ⟨wf, hxf⟩ := hf x (by omega) hx2
  have hyS : Bits (vY f S x) S := fun i hi => by rw [vY_bit] at hi; simp only [Bool.and_eq_true] at hi; exact hi.1.2
  have hyf : Bits (vY f S x) (f x) := fun i hi => by rw [vY_bit] at hi; simp only [Bool.and_eq_true] at hi; exact hi.1.1
  have hA : Bits (leftS f S x) S := or_sub hxS hyS
  have hAf : Bits (leftS f S x) (f x) := or_sub hxf hyf
  have hBb : ∀ i, (V (rightS f S x)).getLsbD i = ((V S).getLsbD i && !(V (vY f S x)).getLsbD i) := by
    intro i
    unfold rightS
    rw [V_andNot]
    by_cases hi : i < 64
    · simp [hi]
    · simp [BitVec.getLsbD_of_ge _ i (by omega : 64 ≤ i)]
  have hB : Bits (rightS f S x) S := fun i hi => by rw [hBb] at hi; simp only [Bool.and_eq_true] at hi; exact hi.1
  obtain ⟨b0, b1⟩ := range_of_bits (wf_or _ _) h0 h1 hA
  obtain ⟨c0, c1⟩ := range_of_bits (wf_andNot _ _) h0 h1 hB
  refine ⟨⟨b0, b1, pc_lt h0 h1 hA ?_⟩, c0, c1, pc_lt h0 h1 hB ?_⟩
  · obtain ⟨i, p, q⟩ := not_bits hSf
    refine ⟨i, p, ?_⟩
    cases hh : (V (leftS f S x)).getLsbD i with
    | false => rfl
    | true => rw [hAf i hh] at q; cases q
  · have hy0 : vY f S x ≠ 0 := by intro e; rw [e] at a3; simp at a3
    have : ¬ Bits (vY f S x) 0 := fun hb => hy0 (Bits.antisymm (wf_andNot _ _) (by unfold wf64; omega) hb (fun i hi => by have : V 0 = 0#64 := rfl; rw [this] at hi; simp at hi))
    obtain ⟨i, p, q⟩ := not_bits this
    refine ⟨i, hyS i p, ?_⟩
    rw [hBb, p]; simp
def decG (f : Int → Int) : Nat → Int → List Int
  | 0, S => [S]
  | k + 1, S => (viol f S).elim [S] fun x => decG f k (leftS f S x) ++ decG f k (rightS f S x)
theorem decG_any {f : Int → Int} (hf : Adds f) : ∀ (k m : Nat) (S : Int), 0 ≤ S → S < 256 → pcOf S ≤ k → pcOf S ≤ m → decG f k S = decG f m S := by
  have none0 : ∀ S, 0 ≤ S → S < 256 → pcOf S = 0 → viol f S = none := by
    intro S h0 h1 hp
    cases hv : viol f S with
    | none => rfl
    | some x => have := (split_spec hf h0 h1 hv).1.2.2; omega
  intro k
  induction k with
  | zero =>
    intro m S h0 h1 hk hm
    cases m with
    | zero => rfl
    | succ m => simp only [decG, none0 S h0 h1 (by omega), Option.elim]
  | succ k ih =>
    intro m S h0 h1 hk hm
    cases m with
    | zero => simp only [decG, none0 S h0 h1 (by omega), Option.elim]
    | succ m =>
      simp only [decG]
      cases hv : viol f S with
      | none => rfl
      | some x =>
        obtain ⟨⟨a0, a1, a2⟩, b0, b1, b2⟩ := split_spec hf h0 h1 hv
        simp only [Option.elim]
        rw [ih m _ a0 a1 (by omega) (by omega), ih m _ b0 b1 (by omega) (by omega)]
def decF (f : Int → Int) (S : Int) : List Int := decG f 9 S
theorem decF_none {f : Int → Int} {S : Int} (h : viol f S = none) : decF f S = [S] := by
  unfold decF; simp only [decG, h, Option.elim]
theorem decF_some {f : Int → Int} (hf : Adds f) {S x : Int} (h0 : 0 ≤ S) (h1 : S < 256) (h : viol f S = some x) : decF f S = decF f (leftS f S x) ++ decF f (rightS f S x) := by
  obtain ⟨⟨a0, a1, a2⟩, b0, b1, b2⟩ := split_spec hf h0 h1 h
  have := pc_le S
  unfold decF
  rw [show decG f 9 S = decG f 8 (leftS f S x) ++ decG f 8 (rightS f S x) by simp only [decG, h, Option.elim]]
  rw [decG_any hf 8 9 _ a0 a1 (by omega) (by omega), decG_any hf 8 9 _ b0 b1 (by omega) (by omega)]
def wOf (S : Int) : Nat := 2 ^ (pcOf S + 1) - 1
def wAll : List Int → Nat
  | [] => 0
  | x :: r => wOf x + wAll r
theorem wOf_pos (S : Int) : 1 ≤ wOf S := by
  have : 2 ^ 1 ≤ 2 ^ (pcOf S + 1) := Nat.pow_le_pow_right (by decide) (by omega)
  unfold wOf; omega
theorem wOf_le (S : Int) : wOf S ≤ 511 := by
  have := pc_le S
  have : 2 ^ (pcOf S + 1) ≤ 2 ^ 9 := Nat.pow_le_pow_right (by decide) (by omega)
  unfold wOf; omega
theorem wAll_append : ∀ (a b : List Int), wAll (a ++ b) = wAll a + wAll b
  | [], b => by simp [wAll]
  | x :: a, b => by simp only [List.cons_append, wAll, wAll_append a b]; omega
theorem wAll_len : ∀ (a : List Int), a.length ≤ wAll a
  | [] => Nat.zero_le _
  | x :: a => by
    have := wOf_pos x
    have := wAll_len a
    simp only [List.length_cons, wAll]; omega
theorem w_split {a b S : Int} (ha : pcOf a < pcOf S) (hb : pcOf b < pcOf S) : wOf a + wOf b + 1 ≤ wOf S := by
  have e1 : 2 ^ (pcOf a + 1) ≤ 2 ^ (pcOf S) := Nat.pow_le_pow_right (by decide) (by omega)
  have e2 : 2 ^ (pcOf b + 1) ≤ 2 ^ (pcOf S) := Nat.pow_le_pow_right (by decide) (by omega)
  have e3 : 2 ^ (pcOf S + 1) = 2 ^ (pcOf S) * 2 := Nat.pow_succ 2 _
  have e4 : 2 ^ 1 ≤ 2 ^ (pcOf a + 1) := Nat.pow_le_pow_right (by decide) (by omega)
  have e5 : 2 ^ 1 ≤ 2 ^ (pcOf b + 1) := Nat.pow_le_pow_right (by decide) (by omega)
  unfold wOf; omega
def okAll (l : List Int) : Prop := ∀ S, S ∈ l → 0 ≤ S ∧ S < 256
theorem at_mid {pre t : List Int} {S : Int} : (pre ++ S :: t)[pre.length]? = some S := by simp
theorem Decompose_go {fuel : Nat} (hfu : bigFuel ≤ fuel) {ds : List dpDep} (hl : lenOk ds = true) (hf : Adds (cl ds)) (K : List Int → Option (List Int × Int)) : ∀ (m : Nat) (pre suf : List Int), okAll suf → wAll suf < m → pre.length + wAll suf ≤ 1000 →
    dp_Decompose_l1 fuel ds K m (pre ++ suf) (pre.length : Int) = K (pre ++ suf.flatMap (decF (cl ds)))
  | 0, pre, suf, _, h, _ => absurd h (Nat.not_lt_zero _)
  | m + 1, pre, [], hok, hm, hlen => by
    rw [dp_Decompose_l1.eq_2]
    have : decide ((pre.length : Int) < (((pre ++ ([] : List Int)).length : Nat) : Int)) = false := decide_eq_false (by simp)
    simp only [this, cond_false, List.flatMap_nil]
  | m + 1, pre, S :: t, hok, hm, hlen => by
    obtain ⟨h0, h1⟩ := hok S (by simp)
    have hok' : okAll t := fun x hx => hok x (by simp [hx])
    simp only [wAll] at hm hlen
    have hwS := wOf_pos S
    have htl := wAll_len t
    have hL : (pre ++ S :: t).length = pre.length + t.length + 1 := by simp; omega
    have d1 : decide ((pre.length : Int) < (((pre ++ S :: t).length : Nat) : Int)) = true := decide_eq_true (by rw [hL]; omega)
    have d2 : decide ((0 : Int) ≤ (pre.length : Int) ∧ (pre.length : Int) < (((pre ++ S :: t).length : Nat) : Int)) = true := decide_eq_true (by rw [hL]; omega)
    have hat : (pre ++ S :: t)[0 + Int.toNat (pre.length : Int)]? = some S := by rw [Int.toNat_natCast, Nat.zero_add]; exact at_mid
    have hw : IntKind.wrap .i64 ((pre.length : Int) + 1) = (pre.length : Int) + 1 := wrap_id (by omega) (by omega)
    rw [dp_Decompose_l1.eq_2, d1, d2, hat, hw]
    simp only [chk, cond_true, Option.bind_some]
    rw [viol_val (f := cl ds) h0 h1 (fun x hx0 hx1 => cl_eq hl (by unfold wf64; omega) hfu)]
    simp only [Option.bind_some]
    rw [List.flatMap_cons]
    cases hv : viol (cl ds) S with
    | none =>
      simp only [vDep, Bool.not_false, cond_true]
      rw [decF_none hv]
      have ih := Decompose_go hfu hl hf K m (pre ++ [S]) t hok' (by omega) (by simp; omega)
      simp only [List.length_append, List.length_singleton, List.append_assoc, List.singleton_append, List.cons_append, List.nil_append] at ih
      simp only [List.cons_append, List.nil_append]
      exact_mod_cast ih
    | some x =>
      obtain ⟨⟨a0, a1, a2⟩, b0, b1, b2⟩ := split_spec hf h0 h1 hv
      have hws := w_split a2 b2
      simp only [vDep, Bool.not_true, cond_false]
      have hrep : sl_Replace_int (pre ++ S :: t) (pre ++ S :: t).length (pre.length : Int) ((pre.length : Int) + 1) [iOr .i64 x (vY (cl ds) S x), iAndNot .i64 S (vY (cl ds) S x)] = some (pre ++ (leftS (cl ds) S x :: rightS (cl ds) S x :: t)) := by
        unfold sl_Replace_int
        have d3 : decide ((pre ++ S :: t).length = (pre ++ S :: t).length ∧ 0 ≤ (pre.length : Int) ∧ (pre.length : Int).toNat < (pre ++ S :: t).length ∧ (pre.length : Int) + 1 = (pre.length : Int) + 1 ∧ ((pre ++ S :: t).length + 1) * 8 ≤ 140737488355328) = true :=
          decide_eq_true (by rw [hL, Int.toNat_natCast]; omega)
        simp only [d3, chk, cond_true, Int.toNat_natCast]
        have e1 : (pre ++ S :: t).take pre.length = pre := by simp
        have e2 : (pre ++ S :: t).drop (pre.length + 1) = t := by
          rw [← List.drop_drop]; simp
        rw [e1, e2]
        have d4 : (pre.length + (t.length + 1) + 1) * 8 ≤ 140737488355328 := by omega
        simp [leftS, rightS, d4]
      rw [hrep]
      simp only [Option.bind_some]
      rw [decF_some hf h0 h1 hv]
      have ih := Decompose_go hfu hl hf K m pre (leftS (cl ds) S x :: rightS (cl ds) S x :: t) (by
        intro y hy
        simp only [List.mem_cons] at hy
        rcases hy with rfl | rfl | hy
        · exact ⟨a0, a1⟩
        · exact ⟨b0, b1⟩
        · exact hok' y hy) (by simp only [wAll]; omega) (by simp only [wAll]; omega)
      rw [ih]
      simp only [List.flatMap_cons, List.append_assoc]
theorem flat_leaves {f : Int → Int} : ∀ {l : List Int}, (∀ S, S ∈ l → viol f S = none) → l.flatMap (decF f) = l
  | [], _ => rfl
  | x :: l, h => by
    rw [List.flatMap_cons, decF_none (h x (by simp)), flat_leaves (fun S hS => h S (by simp [hS]))]; rfl
theorem flat_two {g : Int → List Int} {pre t : List Int} {a b : Int} : ([] : List Int) ++ (pre ++ a :: b :: t).flatMap g = pre.flatMap g ++ (g a ++ g b ++ t.flatMap g) := by
  rw [List.nil_append, List.flatMap_append, List.flatMap_cons, List.flatMap_cons, List.append_assoc]
theorem cap8 {l : List Int} (h : l.length ≤ 2000) : capOk 8 l.length = true := by
  simp only [capOk, Bool.and_eq_true]
  exact ⟨Nat.ble_eq_true_of_le (by omega), Nat.ble_eq_true_of_le (by omega)⟩
def mulW : Nat → Nat
  | 0 => 0
  | n + 1 => mulW n + 1001
theorem mulW_lt {a : Nat} : ∀ {b : Nat}, a < b → mulW a + 1001 ≤ mulW b
  | 0, h => absurd h (Nat.not_lt_zero a)
  | b + 1, h => by
    simp only [mulW]
    by_cases e : a = b
    · rw [e]; exact Nat.le_refl _
    · have := mulW_lt (a := a) (b := b) (by omega)
      omega
theorem mulW_eq : ∀ (n : Nat), mulW n = n * 1001
  | 0 => rfl
  | n + 1 => by simp only [mulW, mulW_eq n]; omega
theorem rDecompose_go {l : List rf1Dep} (hl : lenOk l = true) (hf : Adds (cl (l.map toDep))) (K : List Int → Option (List Int)) : ∀ (m : Nat) (pre suf : List Int), okAll pre → okAll suf → (∀ S, S ∈ pre → viol (cl (l.map toDep)) S = none) → wAll (pre ++ suf) ≤ 1000 → mulW (wAll (pre ++ suf)) + suf.length < m →
    rf1_Decompose_l1 l K m (pre ++ suf) (pre.length : Int) = K (pre ++ suf.flatMap (decF (cl (l.map toDep)))) := by
  intro m
  induction m with
  | zero => intro pre suf _ _ _ _ h; omega
  | succ m IH =>
  intro pre suf
  cases suf with
  | nil =>
    intro _ hok _ hlen hm
    rw [rf1_Decompose_l1.eq_2]
    have : decide ((pre.length : Int) < (((pre ++ ([] : List Int)).length : Nat) : Int)) = false := decide_eq_false (by simp)
    simp only [this, cond_false, List.flatMap_nil]
  | cons S t =>
    intro hpo hok hpl hlen hm
    obtain ⟨h0, h1⟩ := hok S (by simp)
    have hok' : okAll t := fun x hx => hok x (by simp [hx])
    have hpt := wAll_len (pre ++ S :: t)
    have hL : (pre ++ S :: t).length = pre.length + t.length + 1 := by simp; omega
    simp only [wAll_append, wAll] at hm hlen hpt
    have d1 : decide ((pre.length : Int) < (((pre ++ S :: t).length : Nat) : Int)) = true := decide_eq_true (by rw [hL]; omega)
    have hat : idx (pre ++ S :: t) (pre.length : Int) = some S := by
      unfold idx
      rw [if_pos (by omega), Int.toNat_natCast]; exact at_mid
    have hw : IntKind.wrap .i64 ((pre.length : Int) + 1) = (pre.length : Int) + 1 := wrap_id (by omega) (by omega)
    rw [rf1_Decompose_l1.eq_2, d1, hat, hw]
    simp only [cond_true, Option.bind_some]
    rw [rViol_val hl h0 h1]
    simp only [Option.bind_some]
    rw [List.flatMap_cons]
    cases hv : viol (cl (l.map toDep)) S with
    | none =>
      simp only [vRef, show ((5 : Int) != 0) = true from rfl, cond_true]
      rw [decF_none hv]
      have ih := IH (pre ++ [S]) t (by
          intro y hy
          rcases List.mem_append.1 hy with h | h
          · exact hpo y h
          · rw [List.mem_singleton.1 h]; exact ⟨h0, h1⟩) hok' (by
          intro y hy
          rcases List.mem_append.1 hy with h | h
          · exact hpl y h
          · rw [List.mem_singleton.1 h]; exact hv) (by simp only [wAll_append, wAll]; omega) (by rw [show wAll (pre ++ [S] ++ t) = wAll pre + (wOf S + wAll t) by simp only [wAll_append, wAll]; omega]; simp only [List.length_cons] at hm; omega)
      simp only [List.length_append, List.length_singleton, List.append_assoc, List.singleton_append, List.cons_append, List.nil_append] at ih
      simp only [List.cons_append, List.nil_append]
      exact_mod_cast ih
    | some x =>
      obtain ⟨⟨a0, a1, a2⟩, b0, b1, b2⟩ := split_spec hf h0 h1 hv
      have hws := w_split a2 b2
      simp only [vRef, show ((0 : Int) != 0) = false from rfl, cond_false]
      have s1 : sub (pre ++ S :: t) 0 (pre.length : Int) = some pre := by
        unfold sub
        rw [if_pos ⟨Int.le_refl 0, Int.natCast_nonneg _, by rw [hL]; omega⟩]
        simp
      have s2 : sub (pre ++ S :: t) ((pre.length : Int) + 1) (((pre ++ S :: t).length : Nat) : Int) = some t := by
        unfold sub
        rw [if_pos ⟨by omega, by rw [hL]; omega, Int.le_refl _⟩, Int.toNat_natCast, List.take_length]
        have : ((pre.length : Int) + 1).toNat = pre.length + 1 := by omega
        rw [this, ← List.drop_drop]; simp
      rw [s1, s2]
      simp only [Option.bind_some]
      rw [cap8 (by simp; omega), cap8 (by simp; omega), cap8 (by simp; omega)]
      simp only [chk, cond_true]
      rw [decF_some hf h0 h1 hv]
      have e : ([] : List Int) ++ pre ++ [iOr .i64 x (vY (cl (l.map toDep)) S x), iAndNot .i64 S (vY (cl (l.map toDep)) S x)] ++ t = [] ++ (pre ++ leftS (cl (l.map toDep)) S x :: rightS (cl (l.map toDep)) S x :: t) := by simp [leftS, rightS]
      rw [e]
      have hl2 := wAll_len (pre ++ leftS (cl (l.map toDep)) S x :: rightS (cl (l.map toDep)) S x :: t)
      simp only [wAll_append, wAll] at hl2
      have ih := IH [] (pre ++ leftS (cl (l.map toDep)) S x :: rightS (cl (l.map toDep)) S x :: t) (fun y hy => by cases hy) (by
        intro y hy
        rcases List.mem_append.1 hy with h | h
        · exact hpo y h
        · simp only [List.mem_cons] at h
          rcases h with rfl | rfl | h
          · exact ⟨a0, a1⟩
          · exact ⟨b0, b1⟩
          · exact hok' y h) (fun y hy => by cases hy) (by simp only [List.nil_append, wAll_append, wAll]; omega) (by
        have hlt : wAll ([] ++ (pre ++ leftS (cl (l.map toDep)) S x :: rightS (cl (l.map toDep)) S x :: t)) < wAll pre + (wOf S + wAll t) := by simp only [List.nil_append, wAll_append, wAll]; omega
        have := mulW_lt hlt
        have h3 : (pre ++ leftS (cl (l.map toDep)) S x :: rightS (cl (l.map toDep)) S x :: t).length ≤ 1000 := by omega
        omega)
      simp only [List.length_nil] at ih
      rw [show ((0 : Nat) : Int) = 0 from rfl] at ih
      rw [ih, flat_two, flat_leaves hpl]
theorem dequal_l1 {a : List Int} (K : Option Bool) : ∀ (r pre : List Int), pre ++ r = a → sl_Equal_int_l1 a K r pre.length = K
  | [], pre, _ => rfl
  | x :: r, pre, h => by
    rw [sl_Equal_int_l1.eq_2]
    have hi : idx a (pre.length : Int) = some x := by
      unfold idx
      rw [if_pos (by omega), Int.toNat_natCast, ← h]
      simp
    simp only [hi, Option.bind_some, bne_self_eq_false, cond_false]
    have := dequal_l1 K r (pre ++ [x]) (by simpa using h)
    simpa using this
theorem dequal_refl {a : List Int} (h : lenOk a = true) : sl_Equal_int a a = some true := by
  unfold sl_Equal_int
  simp only [bne_self_eq_false, cond_false, h, chk, cond_true]
  exact dequal_l1 _ a [] rfl
theorem decG_len {f : Int → Int} (hf : Adds f) : ∀ (k : Nat) (S : Int), (decG f k S).length ≤ 2 ^ k
  | 0, S => by simp [decG]
  | k + 1, S => by
    simp only [decG]
    have e : 2 ^ (k + 1) = 2 ^ k * 2 := Nat.pow_succ 2 k
    have hp : 1 ≤ 2 ^ k := Nat.one_le_two_pow
    cases viol f S with
    | none => simp only [Option.elim, List.length_singleton]; omega
    | some x =>
      have i1 := decG_len hf k (leftS f S x)
      have i2 := decG_len hf k (rightS f S x)
      simp only [Option.elim, List.length_append]; omega
theorem cl_adds {ds : List dpDep} (hl : lenOk ds = true) : Adds (cl ds) := fun x h0 h1 => by
  have := cl_spec hl (x := x) (by unfold wf64; omega)
  exact ⟨this.wf, this.sup⟩
theorem full_lt {n : Int} (h1 : 1 ≤ n) (h2 : n ≤ 8) : 0 ≤ full n ∧ full n < 256 := by
  have := pow_le h1 h2
  unfold full; omega
theorem Decompose_val {n : Int} {ds : List dpDep} (hl : lenOk ds = true) {fuel : Nat} (hf : bigFuel ≤ fuel) : dp_Decompose fuel n ds = some (bif okArgs n ds then (decF (cl ds) (full n), 0) else ([], 2)) := by
  unfold dp_Decompose
  rw [valid_eq hl]
  cases ho : okArgs n ds with
  | false => rfl
  | true =>
    obtain ⟨h1, h2, _⟩ := ok_parts ho
    simp only [Option.bind_some, Bool.not_true, cond_false, dp_closure, cond_true]
    rw [full_eq h1 h2]
    have hn : decide (0 ≤ n) = true := decide_eq_true (by omega)
    simp only [hn, chk, cond_true]
    obtain ⟨f0, f1⟩ := full_lt h1 h2
    have hw := wOf_le (full n)
    have := Decompose_go hf hl (cl_adds hl) dp_Decompose_j12 fuel [] [full n] (by intro y hy; rw [List.mem_singleton.1 hy]; exact ⟨f0, f1⟩) (by simp only [wAll]; unfold bigFuel at hf; omega) (by simp only [wAll, List.length_nil]; omega)
    simp only [List.nil_append, List.length_nil, List.flatMap_cons, List.flatMap_nil, List.append_nil] at this
    rw [show ((0 : Nat) : Int) = 0 from rfl] at this
    rw [this]; rfl
theorem rDecompose_val {n : Int} (h1 : 1 ≤ n) (h2 : n ≤ 8) {l : List rf1Dep} (hl : lenOk l = true) {fuel : Nat} (hf : bigFuel ≤ fuel) : rf1_Decompose fuel n l = some (decF (cl (l.map toDep)) (full n)) := by
  unfold rf1_Decompose
  rw [full_eq h1 h2]
  have hn : decide (0 ≤ n) = true := decide_eq_true (by omega)
  simp only [hn, chk, cond_true]
  obtain ⟨f0, f1⟩ := full_lt h1 h2
  have hw := wOf_le (full n)
  have hlm : lenOk (l.map toDep) = true := by unfold lenOk at hl ⊢; rw [List.length_map]; exact hl
  have := rDecompose_go hl (cl_adds hlm) rf1_Decompose_j6 fuel [] [full n] (fun y hy => by cases hy) (by intro y hy; rw [List.mem_singleton.1 hy]; exact ⟨f0, f1⟩) (fun y hy => by cases hy) (by simp only [wAll, List.nil_append]; omega) (by rw [mulW_eq]; simp only [wAll, List.nil_append, List.length_singleton]; unfold bigFuel at hf; omega)
  simp only [List.nil_append, List.length_nil, List.flatMap_cons, List.flatMap_nil, List.append_nil] at this
  rw [show ((0 : Nat) : Int) = 0 from rfl] at this
  rw [this]; rfl
theorem Violation_val {n S : Int} {ds : List dpDep} (hl : lenOk ds = true) {fuel : Nat} (hf : bigFuel ≤ fuel) :
    dp_Violation fuel n ds S = some (bif okArgs n ds && isSet n S then (bif (vDep (cl ds) S (viol (cl ds) S)).2 then ((vDep (cl ds) S (viol (cl ds) S)).1, 0) else (⟨0, 0⟩, 5)) else (⟨0, 0⟩, 2)) := by
  unfold dp_Violation dp_Violation_j6
  rw [valid_eq hl]
  cases ho : okArgs n ds with
  | false => rfl
  | true =>
    obtain ⟨h1, h2, _⟩ := ok_parts ho
    simp only [Option.bind_some, Bool.not_true, cond_false]
    rw [sets_eq (by omega) (by rfl)]
    simp only [List.all_cons, List.all_nil, Bool.and_true, Option.bind_some, Bool.true_and]
    cases hs : isSet n S with
    | false => rfl
    | true =>
      have hr := (isSet_range h1 h2).1 hs
      have hp := pow_le h1 h2
      simp only [Bool.not_true, cond_false, dp_closure, Option.bind_some, cond_true]
      rw [viol_val (f := cl ds) hr.1 (by omega) (fun x hx0 hx1 => cl_eq hl (by unfold wf64; omega) hf)]
      simp only [Option.bind_some]
      cases (vDep (cl ds) S (viol (cl ds) S)).2 <;> rfl
theorem dependDecomposes_true {n : Int} {l : List rf1Dep} {set : Int} (hl : lenOk l = true) {fuel : Nat} (hf : bigFuel ≤ fuel) :
    lw1_DependDecomposes fuel n l set = some true := by
  obtain ⟨ds, hds⟩ : ∃ ds, (l.take 14).map toDep = ds := ⟨_, rfl⟩
  have hlen : lenOk ds = true := hds ▸ lenOk_take
  unfold lw1_DependDecomposes
  rw [deps_eq hl, hds]
  simp only [Option.bind_some]
  rw [Violation_val hlen hf, Decompose_val hlen hf, rValid_val hl, hds, awake_eq hf]
  cases ho : okArgs n ds with
  | false => simp [lw1_DependDecomposes_j14]
  | true =>
    obtain ⟨h1, h2, _⟩ := ok_parts ho
    have ho' := ho
    rw [← hds] at ho'
    unfold okArgs at ho'
    simp only [Bool.and_eq_true, decide_eq_true_eq] at ho'
    obtain ⟨⟨_, h12⟩, _⟩ := ho'
    simp only [List.length_map, List.length_take] at h12
    have hrl : l.map toDep = ds := by rw [← hds, List.take_of_length_le (by omega)]
    simp only [Option.bind_some, Bool.not_true, cond_false, Bool.true_and, cond_true]
    rw [rDecompose_val h1 h2 hl hf, hrl]
    simp only [Option.bind_some]
    rw [dequal_refl (lenOk_of (by
      have := decG_len (cl_adds hlen) 9 (full n)
      unfold decF; omega))]
    simp only [Option.bind_some, Bool.not_true, cond_false]
    unfold lw1_DependDecomposes_j18
    simp only [bne_self_eq_false, cond_false]
    rw [rSet_val (by omega), awake_eq hf]
    cases hs : isSet n set with
    | false => simp [lw1_DependDecomposes_j26]
    | true =>
      have hr := (isSet_range h1 h2).1 hs
      have hp := pow_le h1 h2
      simp only [Option.bind_some, Bool.not_true, cond_false, cond_true]
      rw [rViol_val hl hr.1 (by omega), hrl]
      cases hv : viol (cl ds) set with
      | none => simp [vDep, vRef, lw1_dep, lw1_DependDecomposes_j31]
      | some x => simp [vDep, vRef, lw1_dep, lw1_DependDecomposes_j31]
end Go.AM
