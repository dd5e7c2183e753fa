/-
  PLAIN FACTS AND THE LAW (gathered by shake.py). No statement of the seat is proved here.
-/
import Derived.Test.YtombfedoinhafaaAWord
import Derived.Test.YtombfedoinhafaaK169
set_option linter.unusedVariables false
set_option linter.unusedSimpArgs false
set_option maxRecDepth 100000
namespace Go.AM
open Go.Proofs
theorem indexFunc_dep (g : dpDep → Option Bool) (p : dpDep → Bool) (a : List dpDep) (hl : lenOk a = true) (hg : ∀ x, x ∈ a → g x = some (p x)) :
    ∃ r : Int, sl_IndexFunc_dpDep a g = some r ∧ (decide (r ≥ 0)) = a.any p := by
  unfold sl_IndexFunc_dpDep
  rw [hl]
  simp only [chk, cond_true]
  have : ∀ (l : List dpDep) (k : Nat), (∀ x, x ∈ l → g x = some (p x)) → ∃ r : Int, sl_IndexFunc_dpDep_l1 g (sl_IndexFunc_dpDep_j4) l k = some r ∧ (decide (r ≥ 0)) = l.any p := by
    intro l
    induction l with
    | nil => intro k _; exact ⟨-1, rfl, rfl⟩
    | cons x l ih =>
      intro k h
      rw [sl_IndexFunc_dpDep_l1.eq_2, h x (by simp)]
      simp only [Option.bind_some, List.any_cons]
      cases p x with
      | true => exact ⟨k, rfl, by simp⟩
      | false => simpa using ih (k + 1) (fun x hx => h x (by simp [hx]))
  exact this a 0 hg
theorem containsFunc_dep (g : dpDep → Option Bool) (p : dpDep → Bool) (a : List dpDep) (hl : lenOk a = true) (hg : ∀ x, x ∈ a → g x = some (p x)) :
    sl_ContainsFunc_dpDep a g = some (a.any p) := by
  obtain ⟨r, h1, h2⟩ := indexFunc_dep g p a hl hg
  unfold sl_ContainsFunc_dpDep
  rw [h1, ← h2]; rfl
theorem indexFunc_int (g : Int → Option Bool) (p : Int → Bool) (a : List Int) (hl : lenOk a = true) (hg : ∀ x, x ∈ a → g x = some (p x)) :
    ∃ r : Int, sl_IndexFunc_int a g = some r ∧ (decide (r ≥ 0)) = a.any p := by
  unfold sl_IndexFunc_int
  rw [hl]
  simp only [chk, cond_true]
  have : ∀ (l : List Int) (k : Nat), (∀ x, x ∈ l → g x = some (p x)) → ∃ r : Int, sl_IndexFunc_int_l1 g (sl_IndexFunc_int_j4) l k = some r ∧ (decide (r ≥ 0)) = l.any p := by
    intro l
    induction l with
    | nil => intro k _; exact ⟨-1, rfl, rfl⟩
    | cons x l ih =>
      intro k h
      rw [sl_IndexFunc_int_l1.eq_2, h x (by simp)]
      simp only [Option.bind_some, List.any_cons]
      cases p x with
      | true => exact ⟨k, rfl, by simp⟩
      | false => simpa using ih (k + 1) (fun x hx => h x (by simp [hx]))
  exact this a 0 hg
theorem containsFunc_int (g : Int → Option Bool) (p : Int → Bool) (a : List Int) (hl : lenOk a = true) (hg : ∀ x, x ∈ a → g x = some (p x)) :
    sl_ContainsFunc_int a g = some (a.any p) := by
  obtain ⟨r, h1, h2⟩ := indexFunc_int g p a hl hg
  unfold sl_ContainsFunc_int
  rw [h1, ← h2]; rfl
def isSet (n x : Int) : Bool := decide (0 ≤ x) && decide (x < iShl .i64 1 n)
theorem lenOk_of {α : Type} {l : List α} (h : l.length ≤ 9223372036854775807) : lenOk l = true := by
  exact Nat.ble_eq_true_of_le h
theorem sets_eq {n : Int} {l : List Int} (hn : 0 ≤ n) (hl : lenOk l = true) : dp_sets n l = some (l.all (isSet n)) := by
  unfold dp_sets
  rw [containsFunc_int _ (fun x => !isSet n x) l hl]
  · simp only [Option.bind_some]
    congr 1
    induction l with
    | nil => rfl
    | cons x l ih => 
      have hl' : lenOk l = true := lenOk_of (by have := Nat.le_of_ble_eq_true hl; simp at this; omega)
      simp only [List.any_cons, List.all_cons, Bool.not_or, Bool.not_not, ih hl']
  · intro x _
    unfold dp_sets_1 dp_sets_1_j4 isSet
    have : decide (0 ≤ n) = true := by simpa using hn
    simp only [this, chk, cond_true]
    by_cases h : x < 0
    · have h0 : ¬ 0 ≤ x := by omega
      simp [h, h0]
    · have h0 : 0 ≤ x := by omega
      simp [h, h0]
      by_cases h2 : iShl .i64 1 n ≤ x
      · have : ¬ x < iShl .i64 1 n := by omega
        simp [h2, this]
      · have : x < iShl .i64 1 n := by omega
        simp [h2, this]
def okArgs (n : Int) (ds : List dpDep) : Bool := decide (1 ≤ n) && decide (n ≤ 8) && decide (ds.length ≤ 12) && ds.all fun d => isSet n d.f_From && isSet n d.f_To
theorem valid_eq {n : Int} {ds : List dpDep} (hl : lenOk ds = true) : dp_valid n ds = some (okArgs n ds) := by
  unfold dp_valid dp_valid_j5 okArgs
  by_cases h1 : n < 1
  · have : ¬ 1 ≤ n := by omega
    simp [h1, this]
  · by_cases h2 : n > 8
    · have : ¬ n ≤ 8 := by omega
      simp [h1, h2, this]
    · have h3 : 1 ≤ n := by omega
      have h4 : n ≤ 8 := by omega
      by_cases h5 : ds.length ≤ 12
      · have h6 : ¬ (ds.length : Int) > 12 := by omega
        simp only [h1, h2, h3, h4, h5, h6, decide_true, decide_false, cond_false, cond_true, Bool.true_and]
        rw [containsFunc_dep _ (fun d => !(isSet n d.f_From && isSet n d.f_To)) ds hl]
        · simp only [Option.bind_some]
          congr 1
          clear hl h5 h6
          induction ds with
          | nil => rfl
          | cons x l ih => simp only [List.any_cons, List.all_cons, Bool.not_or, Bool.not_not, ih]
        · intro d _
          unfold dp_valid_1
          rw [sets_eq (by omega) (by rfl)]
          simp
      · have h6 : (ds.length : Int) > 12 := by omega
        simp [h1, h2, h3, h4, h5, h6]
def Shut (ds : List dpDep) (c : Int) : Prop := ∀ d, d ∈ ds → Bits d.f_From c → Bits d.f_To c
def pass : List dpDep → Int → Bool → Int × Bool
  | [], v, ch => (v, ch)
  | d :: r, v, ch => bif (iAndNot .i64 d.f_From v == 0) && (iAndNot .i64 d.f_To v != 0) then pass r (iOr .i64 v d.f_To) true else pass r v ch
theorem l2_eq (N : Int → Bool → Option Int) : ∀ (l : List dpDep) (k : Nat) (v : Int) (ch : Bool), dp_closure_1_l2 N l k v ch = N (pass l v ch).1 (pass l v ch).2
  | [], k, v, ch => rfl
  | d :: l, k, v, ch => by
    rw [dp_closure_1_l2.eq_2]
    unfold pass dp_closure_1_j16 dp_closure_1_j14
    cases h1 : (iAndNot .i64 d.f_From v == 0)
    · simp only [cond_false, Bool.false_and]; exact l2_eq N l _ _ _
    · cases h2 : (iAndNot .i64 d.f_To v != 0)
      · simp only [cond_true, cond_false, Bool.true_and]; exact l2_eq N l _ _ _
      · simp only [cond_true, Bool.true_and]; exact l2_eq N l _ _ _
theorem pass_spec : ∀ (l : List dpDep) (v : Int) (ch : Bool), wf64 v →
    wf64 (pass l v ch).1 ∧ Bits v (pass l v ch).1 ∧ (∀ c, Shut l c → Bits v c → Bits (pass l v ch).1 c) ∧
    ((pass l v ch).2 = false → ch = false ∧ (pass l v ch).1 = v ∧ Shut l v) ∧ ((pass l v ch).2 = true → ch = true ∨ (pass l v ch).1 ≠ v)
  | [], v, ch, hv => ⟨hv, Bits.refl v, fun c _ h => h, fun h => ⟨h, rfl, fun d hd => by cases hd⟩, fun h => .inl h⟩
  | d :: l, v, ch, hv => by
    unfold pass
    cases hc : (iAndNot .i64 d.f_From v == 0) && (iAndNot .i64 d.f_To v != 0) with
    | false =>
      simp only [cond_false]
      obtain ⟨h1, h2, h3, h4, h5⟩ := pass_spec l v ch hv
      refine ⟨h1, h2, fun c hcl => h3 c (fun e he => hcl e (by simp [he])), fun h => ?_, h5⟩
      obtain ⟨k1, k2, k3⟩ := h4 h
      refine ⟨k1, k2, fun e he hs => ?_⟩
      rcases List.mem_cons.1 he with rfl | he
      · rw [andNot_zero.2 hs] at hc
        simp only [Bool.true_and] at hc
        by_cases hh : Bits e.f_To v
        · exact hh
        · rw [andNot_ne.2 hh] at hc; cases hc
      · exact k3 e he hs
    | true =>
      simp only [cond_true]
      simp only [Bool.and_eq_true] at hc
      have hf := andNot_zero.1 hc.1
      have ht := andNot_ne.1 hc.2
      obtain ⟨h1, h2, h3, h4, h5⟩ := pass_spec l (iOr .i64 v d.f_To) true (wf_or _ _)
      refine ⟨h1, (sub_or_left _ _).trans h2, fun c hcl hs => h3 c (fun e he => hcl e (by simp [he])) (or_sub hs (hcl d (by simp) (hf.trans hs))), fun h => ?_, fun _ => .inr fun e => ?_⟩
      · exact absurd (h4 h).1 (by decide)
      · apply ht
        rw [← e]
        exact (sub_or_right v d.f_To).trans h2
structure IsClosure (ds : List dpDep) (x r : Int) : Prop where
  wf : wf64 r
  sup : Bits x r
  closed : Shut ds r
  least : ∀ c, Shut ds c → Bits x c → Bits r c
theorem IsClosure.unique {ds : List dpDep} {x r s : Int} (h : IsClosure ds x r) (k : IsClosure ds x s) : r = s :=
  Bits.antisymm h.wf k.wf (h.least s k.closed k.sup) (k.least r h.closed h.sup)
theorem l1_spec {ds : List dpDep} (hl : lenOk ds = true) (x : Int) : ∀ (m : Nat) (v : Int), wf64 v → Bits x v → (∀ c, Shut ds c → Bits x c → Bits v c) → 18446744073709551616 - (V v).toNat < m →
    ∃ r, dp_closure_1_l1 ds (dp_closure_1_j4) m v true = some r ∧ IsClosure ds x r
  | 0, v, _, _, _, h => by omega
  | m + 1, v, hv, hx, hleast, hm => by
    rw [dp_closure_1_l1.eq_2]
    simp only [cond_true, hl, chk]
    rw [l2_eq]
    obtain ⟨h1, h2, h3, h4, h5⟩ := pass_spec ds v false hv
    cases hp : (pass ds v false).2 with
    | false =>
      obtain ⟨_, k2, k3⟩ := h4 hp
      rw [k2]
      cases m with
      | zero =>
        have := (V v).isLt
        omega
      | succ m =>
        rw [dp_closure_1_l1.eq_2]
        exact ⟨v, rfl, hv, hx, k3, hleast⟩
    | true =>
      rcases h5 hp with h | h
      · cases h
      · have := toNat_lt_of_sub hv h1 h2 (Ne.symm h)
        have hlt := (V (pass ds v false).1).isLt
        exact l1_spec hl x m _ h1 (hx.trans h2) (fun c hc hs => h3 c hc (hleast c hc hs)) (by omega)
def bigFuel : Nat := 36893488147419103232
theorem closure_spec {ds : List dpDep} (hl : lenOk ds = true) {x : Int} (hx : wf64 x) {fuel : Nat} (hf : bigFuel ≤ fuel) : ∃ r, dp_closure_1 fuel x ds = some r ∧ IsClosure ds x r := by
  unfold dp_closure_1
  exact l1_spec hl x fuel x hx (Bits.refl x) (fun c _ h => h) (by unfold bigFuel at hf; omega)
theorem Closure_eq {n : Int} {ds : List dpDep} {x : Int} (hl : lenOk ds = true) (hx : wf64 x) {fuel : Nat} (hf : bigFuel ≤ fuel) :
    ((okArgs n ds && isSet n x) = false ∧ dp_Closure fuel n ds x = some (0, 2)) ∨ (okArgs n ds = true ∧ isSet n x = true ∧ ∃ r, IsClosure ds x r ∧ dp_Closure fuel n ds x = some (r, 0)) := by
  obtain ⟨r, h1, h2⟩ := closure_spec hl hx hf
  unfold dp_Closure dp_Closure_j6 dp_closure
  rw [valid_eq hl]
  cases ho : okArgs n ds with
  | false => left; simp
  | true =>
    have hn : 0 ≤ n := by
      simp only [okArgs, Bool.and_eq_true, decide_eq_true_eq] at ho; omega
    simp only [Option.bind_some, Bool.not_true, cond_false]
    rw [sets_eq hn (by rfl)]
    cases hs : isSet n x with
    | false => left; simp [hs]
    | true =>
      right
      refine ⟨by first | rfl | trivial, by first | rfl | trivial, r, h2, ?_⟩
      simp [hs, h1]
theorem iShl_one {n : Int} (h1 : 1 ≤ n) (h2 : n ≤ 8) : iShl .i64 1 n = ((2 ^ n.toNat : Nat) : Int) := by
  obtain ⟨m, rfl⟩ := Int.eq_ofNat_of_zero_le (show 0 ≤ n by omega)
  have h3 : 1 ≤ m := by omega
  have h4 : m ≤ 8 := by omega
  have : m = 1 ∨ m = 2 ∨ m = 3 ∨ m = 4 ∨ m = 5 ∨ m = 6 ∨ m = 7 ∨ m = 8 := by omega
  rcases this with rfl | rfl | rfl | rfl | rfl | rfl | rfl | rfl <;> decide +kernel
def full (n : Int) : Int := ((2 ^ n.toNat - 1 : Nat) : Int)
theorem isSet_iff {n x : Int} (h1 : 1 ≤ n) (h2 : n ≤ 8) (hx : wf64 x) : isSet n x = true ↔ Bits x (full n) := by
  unfold full
  rw [sub_full (by omega) hx]
  unfold isSet
  rw [iShl_one h1 h2]
  simp
theorem ok_parts {n : Int} {ds : List dpDep} (h : okArgs n ds = true) : 1 ≤ n ∧ n ≤ 8 ∧ ∀ d, d ∈ ds → isSet n d.f_From = true ∧ isSet n d.f_To = true := by
  simp only [okArgs, Bool.and_eq_true, decide_eq_true_eq, List.all_eq_true] at h
  exact ⟨h.1.1.1, h.1.1.2, fun d hd => h.2 d hd⟩
theorem closure_isSet {n x r : Int} {ds : List dpDep} (ho : okArgs n ds = true) (hwf : ∀ d, d ∈ ds → wf64 d.f_To) (hx : wf64 x) (hs : isSet n x = true) (h : IsClosure ds x r) : isSet n r = true := by
  obtain ⟨h1, h2, h3⟩ := ok_parts ho
  rw [isSet_iff h1 h2 h.wf]
  exact h.least _ (fun d hd _ => (isSet_iff h1 h2 (hwf d hd)).1 (h3 d hd).2) ((isSet_iff h1 h2 hx).1 hs)
def toDep (d : rf1Dep) : dpDep := ⟨d.f_From, d.f_To⟩
theorem deps_eq {l : List rf1Dep} (hl : lenOk l = true) : lw1_deps l = some ((l.take 14).map toDep) := by
  unfold lw1_deps
  rw [hl]
  simp only [chk, cond_true]
  have : ∀ (r : List rf1Dep) (k : Nat) (acc : List dpDep), acc.length = k → k ≤ 14 → lw1_deps_l1 lw1_deps_j4 r k acc = some (acc ++ (r.take (14 - k)).map toDep) := by
    intro r
    induction r with
    | nil => intro k acc _ _; rw [lw1_deps_l1.eq_1]; simp [lw1_deps_j4]
    | cons x r ih =>
      intro k acc ha hk
      rw [lw1_deps_l1.eq_2]
      by_cases h : (k : Int) > 13
      · have : k = 14 := by omega
        subst this
        simp [lw1_deps_j4]
      · have hk2 : k + 1 ≤ 14 := by omega
        have hcap : capOk 16 (acc ++ [(dpDep.mk x.f_From x.f_To)]).length = true := by
          rw [List.length_append, ha]
          simp only [capOk, Bool.and_eq_true]
          exact ⟨Nat.ble_eq_true_of_le (by simp; omega), Nat.ble_eq_true_of_le (by simp; omega)⟩
        simp only [h, decide_false, cond_false, hcap, chk, cond_true]
        rw [ih (k + 1) _ (by simp [ha]) hk2]
        have : 14 - k = (14 - (k + 1)) + 1 := by omega
        rw [this, List.take_succ_cons]
        simp [toDep]
  simpa using this l 0 [] rfl (by omega)
theorem awake_eq {fuel : Nat} (hf : bigFuel ≤ fuel) : lw1_awake fuel = some true := by
  unfold lw1_awake lw1_awake_j4
  have hc := Closure_eq (n := 3) (ds := [(dpDep.mk 1 2), (dpDep.mk 2 4)]) (x := 1) (by rfl) (by unfold wf64; omega) hf
  have ho : okArgs 3 [(dpDep.mk 1 2), (dpDep.mk 2 4)] = true := by decide +kernel
  have hs : isSet 3 1 = true := by decide +kernel
  rcases hc with ⟨h, _⟩ | ⟨_, _, r, h1, h2⟩
  · rw [ho, hs] at h; cases h
  · have : r = 7 := h1.unique (s := 7) ⟨by unfold wf64; omega, by rw [← sub_iff]; decide +kernel, fun d hd _ => by
        simp at hd; rcases hd with rfl | rfl <;> (rw [← sub_iff]; decide +kernel), fun c hc h1 => by
        have k1 := hc (dpDep.mk 1 2) (by simp) h1
        have k2 := hc (dpDep.mk 2 4) (by simp) k1
        have : (7 : Int) = iOr .i64 (iOr .i64 1 2) 4 := by decide +kernel
        rw [this]
        exact or_sub (or_sub h1 k1) k2⟩
    subst this
    rw [h2]; rfl
theorem lenOk_take {l : List rf1Dep} : lenOk ((l.take 14).map toDep) = true := lenOk_of (by simp; omega)
def has (y r : Int) : Bool := iAndNot .i64 y r == 0
theorem has_iff {y r : Int} : has y r = true ↔ Bits y r := andNot_zero
def cl (ds : List dpDep) (x : Int) : Int := (dp_closure_1 bigFuel x ds).getD 0
theorem cl_spec {ds : List dpDep} (hl : lenOk ds = true) {x : Int} (hx : wf64 x) : IsClosure ds x (cl ds x) := by
  obtain ⟨r, h1, h2⟩ := closure_spec hl hx (Nat.le_refl bigFuel)
  unfold cl; rw [h1]; exact h2
theorem cl_eq {ds : List dpDep} (hl : lenOk ds = true) {x : Int} (hx : wf64 x) {fuel : Nat} (hf : bigFuel ≤ fuel) : dp_closure_1 fuel x ds = some (cl ds x) := by
  obtain ⟨r, h1, h2⟩ := closure_spec hl hx hf
  rw [h1, h2.unique (cl_spec hl hx)]
theorem full_eq {n : Int} (h1 : 1 ≤ n) (h2 : n ≤ 8) : IntKind.wrap .i64 (iShl .i64 1 n - 1) = full n := by
  obtain ⟨m, rfl⟩ := Int.eq_ofNat_of_zero_le (show 0 ≤ n by omega)
  have : m = 1 ∨ m = 2 ∨ m = 3 ∨ m = 4 ∨ m = 5 ∨ m = 6 ∨ m = 7 ∨ m = 8 := by omega
  rcases this with rfl | rfl | rfl | rfl | rfl | rfl | rfl | rfl <;> decide +kernel
theorem pow_le {n : Int} (h1 : 1 ≤ n) (h2 : n ≤ 8) : 2 ^ n.toNat ≤ 256 := by
  have : n.toNat ≤ 8 := by omega
  calc 2 ^ n.toNat ≤ 2 ^ 8 := Nat.pow_le_pow_right (by decide) this
    _ = 256 := rfl
theorem isSet_range {n x : Int} (h1 : 1 ≤ n) (h2 : n ≤ 8) : isSet n x = true ↔ 0 ≤ x ∧ x < ((2 ^ n.toNat : Nat) : Int) := by
  unfold isSet; rw [iShl_one h1 h2]; simp
theorem le_of_bits {a b : Int} (ha : 0 ≤ a) (ha2 : a < 256) (hb : 0 ≤ b) (hb2 : b < 256) (h : Bits a b) : a ≤ b := by
  by_cases e : a = b
  · omega
  · have := toNat_lt_of_sub (a := a) (b := b) (by unfold wf64; omega) (by unfold wf64; omega) h e
    have e1 : ∀ c : Int, 0 ≤ c → c < 256 → ((V c).toNat : Int) = c := by
      intro c h0 h1
      have := V_toInt (a := c) (by unfold wf64; omega)
      rw [BitVec.toInt_eq_toNat_cond] at this
      split at this <;> omega
    have := e1 a ha ha2
    have := e1 b hb hb2
    omega
def keysGo (ds : List dpDep) (f : Int) : List Nat → Nat → List Int → List Int
  | [], _, acc => acc
  | _ :: r, k, acc => keysGo ds f r (k + 1) (bif (cl ds (k : Int) == f) && !(acc.any fun y => has y (k : Int)) then acc ++ [(k : Int)] else acc)
def keysOf (n : Int) (ds : List dpDep) : List Int := keysGo ds (full n) (List.range (2 ^ n.toNat)) 0 []
theorem keys_go {ds : List dpDep} (hl : lenOk ds = true) {n : Int} (h1 : 1 ≤ n) (h2 : n ≤ 8) {fuel : Nat} (hf : bigFuel ≤ fuel) : ∀ (r : List Nat) (k : Nat) (acc : List Int), acc.length ≤ k → k + r.length ≤ 256 →
    dp_Keys_l1 fuel n ds dp_Keys_j11 r k acc = some (keysGo ds (full n) r k acc, 0)
  | [], k, acc, _, _ => rfl
  | x :: r, k, acc, ha, hk => by
    simp only [List.length_cons] at hk
    have hk' : ((k : Nat) : Int) < 256 := by omega
    rw [dp_Keys_l1.eq_2, cl_eq hl (by unfold wf64; omega) hf, full_eq h1 h2]
    have hn : decide (0 ≤ n) = true := by simpa using (show 0 ≤ n by omega)
    simp only [Option.bind_some, hn, chk, cond_true]
    unfold keysGo dp_Keys_j17 dp_Keys_j15
    have hlen : lenOk acc = true := lenOk_of (by omega)
    cases hc : (cl ds (k : Int) == full n) with
    | false =>
      simp only [cond_false, Bool.false_and]
      exact keys_go hl h1 h2 hf r (k + 1) acc (by omega) (by omega)
    | true =>
      simp only [cond_true, Bool.true_and]
      rw [containsFunc_int (fun y0 => dp_Keys_1 y0 (k : Int)) (fun y => has y (k : Int)) acc hlen (fun y _ => rfl)]
      simp only [Option.bind_some]
      cases hany : acc.any fun y => has y (k : Int) with
      | true =>
        simp only [Bool.not_true, cond_false]
        exact keys_go hl h1 h2 hf r (k + 1) acc (by omega) (by omega)
      | false =>
        have hcap : capOk 8 (acc ++ [(k : Int)]).length = true := by
          simp only [capOk, Bool.and_eq_true, List.length_append, List.length_singleton]
          exact ⟨Nat.ble_eq_true_of_le (by omega), Nat.ble_eq_true_of_le (by omega)⟩
        simp only [Bool.not_false, cond_true, hcap, chk]
        exact keys_go hl h1 h2 hf r (k + 1) _ (by simp; omega) (by omega)
theorem Keys_val {n : Int} {ds : List dpDep} (hl : lenOk ds = true) {fuel : Nat} (hf : bigFuel ≤ fuel) :
    dp_Keys fuel n ds = some (bif okArgs n ds then (keysOf n ds, 0) else ([], 2)) := by
  unfold dp_Keys dp_closure
  rw [valid_eq hl]
  cases ho : okArgs n ds with
  | false => rfl
  | true =>
    obtain ⟨h1, h2, _⟩ := ok_parts ho
    have hn : decide (0 ≤ n) = true := by simpa using (show 0 ≤ n by omega)
    have hp := pow_le h1 h2
    have hr : lenOk (List.range (2 ^ n.toNat)) = true := lenOk_of (by simp; omega)
    simp only [Option.bind_some, Bool.not_true, cond_false, hn, chk, cond_true]
    rw [iShl_one h1 h2, Int.toNat_natCast, hr]
    simp only [cond_true]
    exact keys_go hl h1 h2 hf _ _ _ (by simp) (by simp; omega)
structure KeysTo (ds : List dpDep) (f : Int) (k : Nat) (acc : List Int) : Prop where
  rise : acc.Pairwise (· < ·)
  below : ∀ y, y ∈ acc → 0 ≤ y ∧ y < (k : Int) ∧ cl ds y = f
  apart : acc.Pairwise fun y z => has y z = false
  all : ∀ x : Nat, x < k → cl ds (x : Int) = f → ∃ y, y ∈ acc ∧ has y (x : Int) = true
theorem keysGo_to {ds : List dpDep} {f : Int} : ∀ (r : List Nat) (k : Nat) (acc : List Int), KeysTo ds f k acc → KeysTo ds f (k + r.length) (keysGo ds f r k acc)
  | [], k, acc, h => h
  | x :: r, k, acc, h => by
    have e : k + (x :: r).length = (k + 1) + r.length := by simp; omega
    rw [e]
    refine keysGo_to r (k + 1) _ ?_
    cases hc : (cl ds (k : Int) == f) && !(acc.any fun y => has y (k : Int)) with
    | true =>
      simp only [cond_true]
      simp only [Bool.and_eq_true, beq_iff_eq, Bool.not_eq_true', List.any_eq_false] at hc
      refine ⟨?_, ?_, ?_, ?_⟩
      · rw [List.pairwise_append]
        exact ⟨h.rise, List.pairwise_singleton _ _, fun a ha b hb => by simp at hb; subst hb; exact (h.below a ha).2.1⟩
      · intro y hy
        rcases List.mem_append.1 hy with hy | hy
        · obtain ⟨a, b, c⟩ := h.below y hy
          exact ⟨a, by omega, c⟩
        · simp at hy; subst hy
          exact ⟨by omega, by omega, hc.1⟩
      · rw [List.pairwise_append]
        exact ⟨h.apart, List.pairwise_singleton _ _, fun a ha b hb => by simp at hb; subst hb; simpa using hc.2 a ha⟩
      · intro x hx hf
        by_cases hxk : x = k
        · subst hxk
          exact ⟨_, List.mem_append_right _ (List.mem_singleton.2 rfl), has_iff.2 (Bits.refl _)⟩
        · obtain ⟨y, h1, h2⟩ := h.all x (by omega) hf
          exact ⟨y, List.mem_append_left _ h1, h2⟩
    | false =>
      simp only [cond_false]
      refine ⟨h.rise, fun y hy => ?_, h.apart, fun x hx hf => ?_⟩
      · obtain ⟨a, b, c⟩ := h.below y hy
        exact ⟨a, by omega, c⟩
      · by_cases hxk : x = k
        · subst hxk
          rw [hf] at hc
          simp only [beq_self_eq_true, Bool.true_and, Bool.not_eq_false'] at hc
          obtain ⟨y, hy, h2⟩ := List.any_eq_true.1 hc
          exact ⟨y, hy, h2⟩
        · exact h.all x (by omega) hf
theorem keysOf_to (n : Int) (ds : List dpDep) : KeysTo ds (full n) (2 ^ n.toNat) (keysOf n ds) := by
  have := keysGo_to (ds := ds) (f := full n) (List.range (2 ^ n.toNat)) 0 [] ⟨.nil, fun y h => by simp at h, .nil, fun x h => by omega⟩
  simpa [keysOf] using this
theorem rSet_val {n x : Int} (hn : 0 ≤ n) : rf1_Set n x = some (isSet n x) := by
  unfold rf1_Set rf1_Set_j4 isSet
  have h0 : decide (0 ≤ n) = true := by simpa using hn
  by_cases h : 0 ≤ x
  · have h1 : x ≥ 0 := h
    simp [h, h1, h0, chk]
  · have h1 : ¬ x ≥ 0 := h
    simp [h, h1]
theorem rPair_val {n : Int} {d : rf1Dep} (hn : 0 ≤ n) : rf1_Pair n d = some (isSet n d.f_From && isSet n d.f_To) := by
  unfold rf1_Pair rf1_Pair_j4
  rw [rSet_val hn]
  cases h : isSet n d.f_From with
  | true => simp [h, rSet_val hn]
  | false => simp [h]
theorem rValid_val {n : Int} {l : List rf1Dep} (hl : lenOk l = true) : rf1_Valid n l = some (okArgs n ((l.take 14).map toDep)) := by
  unfold rf1_Valid rf1_Valid_j5 okArgs
  by_cases h1 : n < 1
  · have : ¬ 1 ≤ n := by omega
    simp [h1, this]
  · by_cases h2 : n > 8
    · have : ¬ n ≤ 8 := by omega
      simp [h1, h2, this]
    · have h3 : 1 ≤ n := by omega
      have h4 : n ≤ 8 := by omega
      by_cases h5 : l.length ≤ 12
      · have h6 : ¬ (l.length : Int) > 12 := by omega
        have ht : l.take 14 = l := List.take_of_length_le (by omega)
        have h7 : (l.map toDep).length ≤ 12 := by simpa using h5
        rw [ht]
        simp only [h1, h2, h3, h4, h6, h7, decide_true, decide_false, cond_false, cond_true, Bool.true_and, hl, chk]
        have key : ∀ (r : List rf1Dep) (k : Nat), rf1_Valid_l1 n rf1_Valid_j8 r k = some ((r.map toDep).all fun d => isSet n d.f_From && isSet n d.f_To) := by
          intro r
          induction r with
          | nil => intro k; rfl
          | cons x r ih =>
            intro k
            rw [rf1_Valid_l1.eq_2, rPair_val (by omega)]
            simp only [Option.bind_some, List.map_cons, List.all_cons, toDep]
            cases hx : isSet n x.f_From && isSet n x.f_To with
            | true => simp only [Bool.not_true, cond_false, Bool.true_and]; exact ih _
            | false => simp
        exact key l 0
      · have h6 : (l.length : Int) > 12 := by omega
        have h7 : ¬ ((l.take 14).map toDep).length ≤ 12 := by simp; omega
        simp only [h1, h2, h3, h4, h6, h7, decide_true, decide_false, cond_false, cond_true, Bool.true_and, Bool.false_and]
def passR : List rf1Dep → Int → Int
  | [], v => v
  | d :: r, v => passR r (bif iAndNot .i64 d.f_From v == 0 then iOr .i64 v d.f_To else v)
theorem passR_l2 (K : Int → Option Int) : ∀ (l : List rf1Dep) (k : Nat) (v : Int), rf1_Closure_l2 K l k v = K (passR l v)
  | [], k, v => rfl
  | d :: l, k, v => by
    rw [rf1_Closure_l2.eq_2]
    unfold passR rf1_Closure_j10
    cases (iAndNot .i64 d.f_From v == 0)
    · simp only [cond_false]; exact passR_l2 K l _ _
    · simp only [cond_true]; exact passR_l2 K l _ _
theorem passR_spec : ∀ (l : List rf1Dep) (v : Int), wf64 v → wf64 (passR l v) ∧ Bits v (passR l v) ∧ (∀ c, Shut (l.map toDep) c → Bits v c → Bits (passR l v) c) ∧ (∀ d, d ∈ l → Bits d.f_From v → Bits d.f_To (passR l v))
  | [], v, hv => ⟨hv, Bits.refl v, fun c _ h => h, fun d hd => by cases hd⟩
  | d :: l, v, hv => by
    unfold passR
    cases hc : (iAndNot .i64 d.f_From v == 0) with
    | false =>
      simp only [cond_false]
      obtain ⟨h1, h2, h3, h4⟩ := passR_spec l v hv
      refine ⟨h1, h2, fun c hs => h3 c (fun e he => hs e (by simp at he ⊢; exact .inr he)), fun e he hf => ?_⟩
      rcases List.mem_cons.1 he with rfl | he
      · rw [andNot_zero.2 hf] at hc; cases hc
      · exact h4 e he hf
    | true =>
      simp only [cond_true]
      have hf := andNot_zero.1 hc
      obtain ⟨h1, h2, h3, h4⟩ := passR_spec l (iOr .i64 v d.f_To) (wf_or _ _)
      refine ⟨h1, (sub_or_left _ _).trans h2, fun c hs hv => h3 c (fun e he => hs e (by simp at he ⊢; exact .inr he)) (or_sub hv (hs (toDep d) (by simp) (hf.trans hv))), fun e he hfe => ?_⟩
      rcases List.mem_cons.1 he with rfl | he
      · exact (sub_or_right _ _).trans h2
      · exact h4 e he (hfe.trans (sub_or_left _ _))
theorem passR_sub : ∀ (l : List rf1Dep) (v w : Int), Bits v w → (∀ d, d ∈ l → Bits d.f_To (passR l v) → Bits d.f_To w) → wf64 v → Bits (passR l v) w
  | [], v, w, h, _, _ => h
  | d :: l, v, w, h, hd, hv => by
    unfold passR at hd ⊢
    cases hc : (iAndNot .i64 d.f_From v == 0) with
    | false =>
      rw [hc] at hd
      simp only [cond_false] at hd ⊢
      exact passR_sub l v w h (fun e he => hd e (by simp [he])) hv
    | true =>
      rw [hc] at hd
      simp only [cond_true] at hd ⊢
      obtain ⟨_, h2, _⟩ := passR_spec l (iOr .i64 v d.f_To) (wf_or _ _)
      exact passR_sub l _ w (or_sub h (hd d (by simp) ((sub_or_right _ _).trans h2))) (fun e he => hd e (by simp [he])) (wf_or _ _)
def cnt (l : List rf1Dep) (v : Int) : Nat := l.countP fun d => has d.f_To v
theorem cnt_more {v w : Int} (hmono : ∀ d : rf1Dep, has d.f_To v = true → has d.f_To w = true) : ∀ (l : List rf1Dep), (∃ d, d ∈ l ∧ has d.f_To w = true ∧ has d.f_To v = false) → cnt l v < cnt l w
  | [], h => by obtain ⟨d, hd, _⟩ := h; cases hd
  | e :: l, h => by
    obtain ⟨d, hd, ha, hb⟩ := h
    have hle : cnt l v ≤ cnt l w := List.countP_mono_left (fun x _ hx => hmono x hx)
    unfold cnt at hle ⊢
    rw [List.countP_cons, List.countP_cons]
    rcases List.mem_cons.1 hd with rfl | hd
    · rw [ha, hb]; simp; omega
    · have := cnt_more hmono l ⟨d, hd, ha, hb⟩
      unfold cnt at this
      cases h1 : has e.f_To v with
      | true => rw [hmono e h1]; simp; omega
      | false =>
        cases h2 : has e.f_To w with
        | true => simp; omega
        | false => simpa using this
theorem cnt_lt {l : List rf1Dep} {v : Int} (hv : wf64 v) (h : passR l v ≠ v) : cnt l v < cnt l (passR l v) := by
  obtain ⟨h1, h2, _, _⟩ := passR_spec l v hv
  have hex : ∃ d, d ∈ l ∧ has d.f_To (passR l v) = true ∧ has d.f_To v = false := by
    apply Classical.byContradiction
    intro hn
    apply h
    refine (Bits.antisymm hv h1 h2 (passR_sub l v v (Bits.refl v) (fun d hd ht => ?_) hv)).symm
    apply Classical.byContradiction
    intro hnt
    refine hn ⟨d, hd, has_iff.2 ht, ?_⟩
    cases hh : has d.f_To v with
    | false => rfl
    | true => exact absurd (has_iff.1 hh) hnt
  exact cnt_more (fun d hd => has_iff.2 ((has_iff.1 hd).trans h2)) l hex
def passes (l : List rf1Dep) : Nat → Int → Int
  | 0, v => v
  | m + 1, v => passes l m (passR l v)
theorem passes_l1 {l : List rf1Dep} (hl : lenOk l = true) (K : Int → Option Int) : ∀ (r : List rf1Dep) (k : Nat) (v : Int), rf1_Closure_l1 l K r k v = K (passes l r.length v)
  | [], k, v => rfl
  | x :: r, k, v => by
    rw [rf1_Closure_l1.eq_2]
    simp only [hl, chk, cond_true]
    rw [passR_l2]
    unfold rf1_Closure_j7
    exact passes_l1 hl K r (k + 1) _
theorem passes_fix {l : List rf1Dep} {v : Int} (h : passR l v = v) : ∀ m, passes l m v = v
  | 0 => rfl
  | m + 1 => by unfold passes; rw [h]; exact passes_fix h m
theorem passes_spec {l : List rf1Dep} {x : Int} : ∀ (m : Nat) (v : Int), wf64 v → Bits x v → (∀ c, Shut (l.map toDep) c → Bits x c → Bits v c) → l.length ≤ m + cnt l v →
    IsClosure (l.map toDep) x (passes l m v)
  | 0, v, hv, hx, hle, hm => by
    refine ⟨hv, hx, fun d hd _ => ?_, hle⟩
    obtain ⟨e, he, rfl⟩ := List.mem_map.1 hd
    have : cnt l v = l.length := Nat.le_antisymm (List.countP_le_length) (by omega)
    unfold cnt at this
    rw [List.countP_eq_length] at this
    exact has_iff.1 (this e he)
  | m + 1, v, hv, hx, hle, hm => by
    unfold passes
    obtain ⟨h1, h2, h3, h4⟩ := passR_spec l v hv
    by_cases h : passR l v = v
    · rw [h, passes_fix h]
      refine ⟨hv, hx, fun d hd hf => ?_, hle⟩
      obtain ⟨e, he, rfl⟩ := List.mem_map.1 hd
      have := h4 e he hf
      rwa [h] at this
    · have := cnt_lt hv h
      exact passes_spec m _ h1 (hx.trans h2) (fun c hs hc => h3 c hs (hle c hs hc)) (by omega)
theorem rClosure_val {l : List rf1Dep} (hl : lenOk l = true) {x : Int} (hx : wf64 x) : rf1_Closure l x = some (cl (l.map toDep) x) := by
  unfold rf1_Closure
  rw [hl]
  simp only [chk, cond_true]
  rw [passes_l1 hl]
  unfold rf1_Closure_j4
  have hl' : lenOk (l.map toDep) = true := by unfold lenOk at hl ⊢; simpa using hl
  rw [(passes_spec (l := l) (x := x) l.length x hx (Bits.refl x) (fun c _ h => h) (by omega)).unique (cl_spec hl' hx)]
theorem setWf {n x : Int} (h1 : 1 ≤ n) (h2 : n ≤ 8) (h : isSet n x = true) : wf64 x := by
  have := (isSet_range h1 h2).1 h
  have hp := pow_le h1 h2
  unfold wf64
  omega
structure Closer (n : Int) (f : Int → Int) : Prop where
  set : ∀ x, isSet n x = true → isSet n (f x) = true
  sup : ∀ x, isSet n x = true → Bits x (f x)
  mono : ∀ x y, isSet n x = true → isSet n y = true → Bits x y → Bits (f x) (f y)
  idem : ∀ x, isSet n x = true → f (f x) = f x
def wants (acc : List dpDep) (x : Int) : Bool := acc.any fun d => has d.f_From x && !has d.f_To x
def critGo (f : Int → Int) : List Int → List dpDep → List dpDep
  | [], acc => acc
  | x :: r, acc => critGo f r (bif (f x != x) && !wants acc x then acc ++ [⟨x, f x⟩] else acc)
theorem wants_false {acc : List dpDep} {x : Int} : wants acc x = false ↔ ∀ d, d ∈ acc → Bits d.f_From x → Bits d.f_To x := by
  unfold wants
  rw [List.any_eq_false]
  constructor
  · intro h d hd hb
    have := h d hd
    rw [has_iff.2 hb] at this
    simp only [Bool.true_and, Bool.not_eq_true, Bool.not_eq_false'] at this
    exact has_iff.1 this
  · intro h d hd
    cases hf : has d.f_From x with
    | false => simp
    | true => rw [has_iff.2 (h d hd (has_iff.1 hf))]; simp
structure Good (n : Int) (O : List Int) : Prop where
  all : ∀ x, x ∈ O ↔ isSet n x = true
  rise : O.Pairwise fun a b => ¬ Bits b a
structure Found (f : Int → Int) (pre : List Int) (acc : List dpDep) : Prop where
  from' : (acc.map fun d => d.f_From).Sublist pre
  to : ∀ d, d ∈ acc → d.f_To = f d.f_From
  iff : ∀ x, x ∈ pre → ((⟨x, f x⟩ : dpDep) ∈ acc ↔ f x ≠ x ∧ ∀ d, d ∈ acc → Bits d.f_From x → d.f_From ≠ x → Bits d.f_To x)
theorem Found.mem {f : Int → Int} {pre : List Int} {acc : List dpDep} (h : Found f pre acc) {d : dpDep} (hd : d ∈ acc) : d.f_From ∈ pre :=
  h.from'.subset (List.mem_map_of_mem (f := fun d : dpDep => d.f_From) hd)
theorem critGo_found {n : Int} {f : Int → Int} {O : List Int} (hO : Good n O) : ∀ (r pre : List Int) (acc : List dpDep), pre ++ r = O → Found f pre acc → Found f O (critGo f r acc)
  | [], pre, acc, h, hf => by simp at h; subst h; exact hf
  | x :: r, pre, acc, h, hf => by
    unfold critGo
    refine critGo_found hO r (pre ++ [x]) _ (by simpa using h) ?_
    have hr := hO.rise
    rw [← h, List.pairwise_append] at hr
    have hx : ∀ y, y ∈ pre → ¬ Bits x y := fun y hy => hr.2.2 y hy x (by simp)
    have hxp : x ∉ pre := fun h => hx x h (Bits.refl x)
    cases hc : (f x != x) && !wants acc x with
    | true =>
      simp only [cond_true]
      simp only [Bool.and_eq_true, Bool.not_eq_true', bne_iff_ne, ne_eq] at hc
      obtain ⟨c1, c2⟩ := hc
      refine ⟨?_, ?_, ?_⟩
      · simp only [List.map_append, List.map_cons, List.map_nil]
        exact hf.from'.append (List.Sublist.refl _)
      · intro d hd
        rcases List.mem_append.1 hd with hd | hd
        · exact hf.to d hd
        · simp at hd; subst hd; rfl
      · intro y hy
        rcases List.mem_append.1 hy with hy | hy
        · have hyx : y ≠ x := fun e => hxp (e ▸ hy)
          rw [List.mem_append, List.mem_singleton]
          constructor
          · rintro (h | h)
            · obtain ⟨a, b⟩ := (hf.iff y hy).1 h
              refine ⟨a, fun d hd hb hne => ?_⟩
              rcases List.mem_append.1 hd with hd | hd
              · exact b d hd hb hne
              · simp at hd; subst hd; exact absurd hb (hx y hy)
            · exact absurd (congrArg dpDep.f_From h) hyx
          · rintro ⟨a, b⟩
            exact .inl ((hf.iff y hy).2 ⟨a, fun d hd => b d (List.mem_append_left _ hd)⟩)
        · simp at hy; subst hy
          refine ⟨fun _ => ⟨c1, fun d hd hb hne => ?_⟩, fun _ => by simp⟩
          rcases List.mem_append.1 hd with hd | hd
          · exact wants_false.1 c2 d hd hb
          · simp at hd; subst hd; exact absurd rfl hne
    | false =>
      simp only [cond_false]
      refine ⟨hf.from'.trans (List.sublist_append_left _ _), hf.to, fun y hy => ?_⟩
      rcases List.mem_append.1 hy with hy | hy
      · exact hf.iff y hy
      · simp at hy; subst hy
        constructor
        · intro h; exact absurd (hf.mem h) hxp
        · rintro ⟨a, b⟩
          have : wants acc y = false := wants_false.2 fun d hd hb => b d hd hb (fun e => hxp (e ▸ hf.mem hd))
          rw [this] at hc
          simp at hc
          exact absurd hc a
theorem critGo_spec {n : Int} {f : Int → Int} {O : List Int} (hO : Good n O) : Found f O (critGo f O []) :=
  critGo_found hO O [] [] rfl ⟨by simp, fun d h => absurd h List.not_mem_nil, fun x h => absurd h List.not_mem_nil⟩
theorem dep_eq {f : Int → Int} {d : dpDep} (h : d.f_To = f d.f_From) : d = ⟨d.f_From, f d.f_From⟩ := by
  obtain ⟨a, b⟩ := d; simp at h ⊢; exact h
theorem found_same {n : Int} (h1 : 1 ≤ n) (h2 : n ≤ 8) {f : Int → Int} {O P : List Int} (hO : Good n O) (hP : Good n P) {a b : List dpDep} (ha : Found f O a) (hb : Found f P b) : ∀ d, d ∈ a ↔ d ∈ b := by
  have key : ∀ (k : Nat) (x : Int), x.toNat = k → isSet n x = true → ((⟨x, f x⟩ : dpDep) ∈ a ↔ (⟨x, f x⟩ : dpDep) ∈ b) := by
    intro k
    induction k using Nat.strongRecOn with
    | ind k ih =>
      intro x hk hs
      rw [ha.iff x ((hO.all x).2 hs), hb.iff x ((hP.all x).2 hs)]
      have small : ∀ y, isSet n y = true → Bits y x → y ≠ x → y.toNat < k := by
        intro y hy hyx hne
        have r1 := (isSet_range h1 h2).1 hy
        have r2 := (isSet_range h1 h2).1 hs
        have hp := pow_le h1 h2
        have := le_of_bits (a := y) (b := x) r1.1 (by omega) r2.1 (by omega) hyx
        omega
      constructor
      · rintro ⟨c, e⟩
        refine ⟨c, fun d hd hbx hne => ?_⟩
        have hds : isSet n d.f_From = true := (hP.all _).1 (hb.mem hd)
        have : d ∈ a := by
          have ee := dep_eq (hb.to d hd)
          rw [ee] at hd ⊢
          exact (ih _ (small _ hds hbx hne) d.f_From rfl hds).2 hd
        exact e d this hbx hne
      · rintro ⟨c, e⟩
        refine ⟨c, fun d hd hbx hne => ?_⟩
        have hds : isSet n d.f_From = true := (hO.all _).1 (ha.mem hd)
        have : d ∈ b := by
          have ee := dep_eq (ha.to d hd)
          rw [ee] at hd ⊢
          exact (ih _ (small _ hds hbx hne) d.f_From rfl hds).1 hd
        exact e d this hbx hne
  intro d
  constructor
  · intro hd
    have hds : isSet n d.f_From = true := (hO.all _).1 (ha.mem hd)
    have ee := dep_eq (ha.to d hd)
    rw [ee] at hd ⊢
    exact (key _ d.f_From rfl hds).1 hd
  · intro hd
    have hds : isSet n d.f_From = true := (hP.all _).1 (hb.mem hd)
    have ee := dep_eq (hb.to d hd)
    rw [ee] at hd ⊢
    exact (key _ d.f_From rfl hds).2 hd
theorem rise_eq : ∀ {a b : List dpDep}, a.Pairwise (fun x y => x.f_From < y.f_From) → b.Pairwise (fun x y => x.f_From < y.f_From) → (∀ d, d ∈ a ↔ d ∈ b) → a = b
  | [], [], _, _, _ => rfl
  | [], y :: b, _, _, h => absurd ((h y).2 (by simp)) List.not_mem_nil
  | x :: a, [], _, _, h => absurd ((h x).1 (by simp)) List.not_mem_nil
  | x :: a, y :: b, ha, hb, h => by
    rw [List.pairwise_cons] at ha hb
    have hxy : x = y := by
      rcases List.mem_cons.1 ((h x).1 (by simp)) with e | hx
      · exact e
      · rcases List.mem_cons.1 ((h y).2 (by simp)) with e | hy
        · exact e.symm
        · have := ha.1 y hy
          have := hb.1 x hx
          omega
    subst hxy
    congr 1
    refine rise_eq ha.2 hb.2 fun d => ?_
    constructor
    · intro hd
      rcases List.mem_cons.1 ((h d).1 (by simp [hd])) with e | hd'
      · subst e; exact absurd (ha.1 d hd) (by omega)
      · exact hd'
    · intro hd
      rcases List.mem_cons.1 ((h d).2 (by simp [hd])) with e | hd'
      · subst e; exact absurd (hb.1 d hd) (by omega)
      · exact hd'
theorem length_le_of_pick {α β : Type} [DecidableEq β] (g : α → β) : ∀ (a : List α) (l : List β), a.Nodup → (∀ x, x ∈ a → g x ∈ l) → (∀ x y, x ∈ a → y ∈ a → g x = g y → x = y) → a.length ≤ l.length
  | [], l, _, _, _ => Nat.zero_le _
  | x :: a, l, hn, hm, hi => by
    rw [List.nodup_cons] at hn
    have h1 := hm x (by simp)
    have := length_le_of_pick g a (l.erase (g x)) hn.2 (fun y hy => by
      have hne : g y ≠ g x := fun e => hn.1 (hi y x (by simp [hy]) (by simp) e ▸ hy)
      exact (List.mem_erase_of_ne hne).2 (hm y (by simp [hy]))) (fun y z hy hz => hi y z (by simp [hy]) (by simp [hz]))
    have h3 := List.length_erase_of_mem h1
    have h4 : 0 < l.length := List.length_pos_of_mem h1
    simp only [List.length_cons]
    omega
theorem andBits {a b c : Int} : Bits c (iAnd .i64 a b) ↔ Bits c a ∧ Bits c b := by
  constructor
  · intro h
    refine ⟨fun i hi => ?_, fun i hi => ?_⟩
    · have := h i hi; rw [V_and] at this; simp at this; exact this.1
    · have := h i hi; rw [V_and] at this; simp at this; exact this.2
  · rintro ⟨h, k⟩ i hi
    rw [V_and]
    simp [h i hi, k i hi]
theorem found_least {n : Int} (h1 : 1 ≤ n) (h2 : n ≤ 8) {f : Int → Int} (hf : Closer n f) {O : List Int} (hO : Good n O) {a : List dpDep} (ha : Found f O a) {ds : List dpDep}
    (hd : ∀ d, d ∈ ds → isSet n d.f_From = true ∧ isSet n d.f_To = true) (hc : ∀ x, isSet n x = true → IsClosure ds x (f x)) : a.length ≤ ds.length := by
  have hset : ∀ d, d ∈ a → isSet n d.f_From = true := fun d hd => (hO.all _).1 (ha.mem hd)
  have hopen : ∀ x, isSet n x = true → f x ≠ x → ∃ d, d ∈ ds ∧ Bits d.f_From x ∧ ¬ Bits d.f_To x := by
    intro x hx hne
    rcases Classical.em (Shut ds x) with h | h
    · have := (hc x hx).least x h (Bits.refl x)
      exact absurd (Bits.antisymm (setWf h1 h2 (hf.set x hx)) (setWf h1 h2 hx) this (hf.sup x hx)) hne
    · unfold Shut at h
      rcases Classical.em (∃ d, d ∈ ds ∧ Bits d.f_From x ∧ ¬ Bits d.f_To x) with k | k
      · exact k
      · refine absurd (fun d hd hb => ?_) h
        rcases Classical.em (Bits d.f_To x) with q | q
        · exact q
        · exact absurd ⟨d, hd, hb, q⟩ k
  have hne : ∀ d, d ∈ a → f d.f_From ≠ d.f_From := fun d hd => by
    have := (ha.iff d.f_From (ha.mem hd)).1 (by rw [← dep_eq (ha.to d hd)]; exact hd)
    exact this.1
  have hpick : ∀ d : dpDep, ∃ e : dpDep, d ∈ a → e ∈ ds ∧ Bits e.f_From d.f_From ∧ ¬ Bits e.f_To d.f_From := by
    intro d
    rcases Classical.em (d ∈ a) with h | h
    · obtain ⟨e, he⟩ := hopen d.f_From (hset d h) (hne d h)
      exact ⟨e, fun _ => he⟩
    · exact ⟨d, fun k => absurd k h⟩
  obtain ⟨g, hg⟩ := Classical.axiomOfChoice hpick
  have hnod : O.Nodup := hO.rise.imp fun {u v} h (e : u = v) => h (by rw [e]; exact Bits.refl _)
  have hand : a.Nodup := by
    have : (a.map fun d => d.f_From).Nodup := ha.from'.nodup hnod
    unfold List.Nodup at this ⊢
    rw [List.pairwise_map] at this
    exact this.imp fun {u v} h (e : u = v) => h (by rw [e])
  haveI : DecidableEq dpDep := fun _ _ => Classical.propDecidable _
  refine length_le_of_pick g a ds hand (fun x hx => (hg x hx).1) fun x y hx hy e => ?_
  obtain ⟨x1, x2, x3⟩ := hg x hx
  obtain ⟨y1, y2, y3⟩ := hg y hy
  rw [← e] at y1 y2 y3
  have wx := setWf h1 h2 (hset x hx)
  have wy := setWf h1 h2 (hset y hy)
  have wr : wf64 (iAnd .i64 x.f_From y.f_From) := wf_and _ _
  have r1 : Bits (iAnd .i64 x.f_From y.f_From) x.f_From := (andBits.1 (Bits.refl _)).1
  have r2 : Bits (iAnd .i64 x.f_From y.f_From) y.f_From := (andBits.1 (Bits.refl _)).2
  have sr : isSet n (iAnd .i64 x.f_From y.f_From) = true := (isSet_iff h1 h2 wr).2 (r1.trans ((isSet_iff h1 h2 wx).1 (hset x hx)))
  have hl : Bits (g x).f_From (iAnd .i64 x.f_From y.f_From) := andBits.2 ⟨x2, y2⟩
  have hfr : f (iAnd .i64 x.f_From y.f_From) ≠ iAnd .i64 x.f_From y.f_From := by
    intro k
    have := (hc _ sr).closed (g x) x1 (by rw [k]; exact hl)
    rw [k] at this
    exact x3 (this.trans r1)
  -- what was found for the whole sets leaves their common part alone, as long as it is smaller
  have hmemx : (⟨x.f_From, f x.f_From⟩ : dpDep) ∈ a := by rw [← dep_eq (ha.to x hx)]; exact hx
  have hmemy : (⟨y.f_From, f y.f_From⟩ : dpDep) ∈ a := by rw [← dep_eq (ha.to y hy)]; exact hy
  have ix := ((ha.iff x.f_From (ha.mem hx)).1 hmemx).2
  have iy := ((ha.iff y.f_From (ha.mem hy)).1 hmemy).2
  have hbx : Bits (g x).f_To (f (iAnd .i64 x.f_From y.f_From)) := (hc _ sr).closed (g x) x1 (hl.trans (hf.sup _ sr))
  have main : ∀ w, w ∈ a → (¬ Bits (g x).f_To w.f_From) → Bits (iAnd .i64 x.f_From y.f_From) w.f_From → (⟨iAnd .i64 x.f_From y.f_From, f (iAnd .i64 x.f_From y.f_From)⟩ : dpDep) ∈ a → iAnd .i64 x.f_From y.f_From = w.f_From := by
    intro w hw hn hb hm
    rcases Classical.em (iAnd .i64 x.f_From y.f_From = w.f_From) with q | q
    · exact q
    · have hmw : (⟨w.f_From, f w.f_From⟩ : dpDep) ∈ a := by rw [← dep_eq (ha.to w hw)]; exact hw
      have := ((ha.iff w.f_From (ha.mem hw)).1 hmw).2 _ hm hb q
      exact absurd (hbx.trans this) hn
  rcases Classical.em ((⟨iAnd .i64 x.f_From y.f_From, f (iAnd .i64 x.f_From y.f_From)⟩ : dpDep) ∈ a) with hm | hm
  · have e1 := main x hx x3 r1 hm
    have e2 := main y hy y3 r2 hm
    have e3 : x.f_From = y.f_From := e1.symm.trans e2
    rw [dep_eq (ha.to x hx), dep_eq (ha.to y hy), e3]
  · exfalso
    apply hm
    refine (ha.iff _ ((hO.all _).2 sr)).2 ⟨hfr, fun d hd hb hne' => ?_⟩
    refine andBits.2 ⟨?_, ?_⟩
    · rcases Classical.em (d.f_From = x.f_From) with q | q
      · -- then the common part is x itself
        exfalso
        have : iAnd .i64 x.f_From y.f_From = x.f_From := Bits.antisymm wr wx r1 (q ▸ hb)
        exact hne' (q.trans this.symm)
      · exact ix d hd (hb.trans r1) q
    · rcases Classical.em (d.f_From = y.f_From) with q | q
      · exfalso
        have : iAnd .i64 x.f_From y.f_From = y.f_From := Bits.antisymm wr wy r2 (q ▸ hb)
        exact hne' (q.trans this.symm)
      · exact iy d hd (hb.trans r2) q
theorem wrap64 {i : Int} (h1 : -9223372036854775808 ≤ i) (h2 : i ≤ 9223372036854775807) : IntKind.wrap .i64 i = i := wrap_id h1 (by omega)
theorem get_at {α : Type} {L q : List α} {x : α} {i : Nat} (h : i = L.length) : (L ++ x :: q)[i]? = some x := by
  subst h; simp
theorem upd_at {α : Type} {L q : List α} {x y : α} {i : Nat} (h : i = L.length) : upd (L ++ x :: q) i y = some (L ++ y :: q) := by
  subst h
  unfold upd
  rw [if_pos (by simp)]
  congr 1
  simp
structure Ord' (α : Type) (lt : α → α → Bool) : Prop where
  asym : ∀ x y, lt x y = true → lt y x = false
  trans : ∀ x y z, lt y x = false → lt z y = false → lt z x = false
def Sorted {α : Type} (lt : α → α → Bool) (l : List α) : Prop := l.Pairwise fun a b => lt b a = false
def Cmp {α : Type} (g : α → α → Option Int) (lt : α → α → Bool) (A : α → Prop) : Prop :=
  ∀ x y, A x → A y → ∃ w, g x y = some w ∧ decide (w < 0) = lt x y
theorem ins_l2 {g : dpDep → dpDep → Option Int} {lt : dpDep → dpDep → Bool} {A : dpDep → Prop} (hg : Cmp g lt A) {n : Nat} (hn : n ≤ 4611686018427387904) (L : List dpDep) (K : List dpDep → Option (List dpDep)) {x : dpDep} (hx : A x) :
    ∀ (k : Nat) (p q : List dpDep) (m : Nat), p.length = k → k < m → (L ++ (p ++ x :: q)).length = n → (∀ y, y ∈ p → A y) →
    ∃ p1 p2, p = p1 ++ p2 ∧ (∀ y, y ∈ p2 → lt x y = true) ∧ (p1 = [] ∨ ∃ p0 y, p1 = p0 ++ [y] ∧ lt x y = false) ∧
      sl_insertionSortCmpFunc_dpDep_l2 n (L.length : Int) g K m (L ++ (p ++ x :: q)) ((L.length + p.length : Nat) : Int) = K (L ++ (p1 ++ x :: (p2 ++ q)))
  | 0, p, q, m, hk, hm, hlen, hA => by
    obtain rfl := List.length_eq_zero_iff.1 hk
    obtain ⟨m', rfl⟩ : ∃ m', m = m' + 1 := ⟨m - 1, by omega⟩
    refine ⟨[], [], rfl, fun y h => absurd h List.not_mem_nil, .inl rfl, ?_⟩
    rw [sl_insertionSortCmpFunc_dpDep_l2.eq_2]
    have h0 : decide ((((L.length + ([] : List dpDep).length : Nat) : Int)) > (L.length : Int)) = false := by simp
    rw [h0]
    rfl
  | k + 1, p, q, m, hk, hm, hlen, hA => by
    obtain ⟨m', rfl⟩ : ∃ m', m = m' + 1 := ⟨m - 1, by omega⟩
    obtain ⟨p', y, rfl⟩ : ∃ p' y, p = p' ++ [y] := by
      rcases List.eq_nil_or_concat p with rfl | ⟨a, b, h⟩
      · simp at hk
      · exact ⟨a, b, by simpa using h⟩
    have hk' : p'.length = k := by simpa using hk
    have hlen' : L.length + (k + 1 + (q.length + 1)) = n := by simp at hlen; omega
    have hy : A y := hA y (by simp)
    rw [sl_insertionSortCmpFunc_dpDep_l2.eq_2]
    have e0 : ((L.length + (p' ++ [y]).length : Nat) : Int) = ((L.length + k + 1 : Nat) : Int) := by simp [hk']; omega
    rw [e0]
    have h0 : decide (((L.length + k + 1 : Nat) : Int) > (L.length : Int)) = true := decide_eq_true (by omega)
    have h1 : IntKind.wrap .i64 (((L.length + k + 1 : Nat) : Int) - 1) = ((L.length + k : Nat) : Int) := by rw [wrap64 (by omega) (by omega)]; omega
    have h2 : decide ((0 : Int) ≤ ((L.length + k + 1 : Nat) : Int) ∧ ((L.length + k + 1 : Nat) : Int) < ((n : Nat) : Int)) = true := decide_eq_true (by omega)
    have h3 : decide ((0 : Int) ≤ ((L.length + k : Nat) : Int) ∧ ((L.length + k : Nat) : Int) < ((n : Nat) : Int)) = true := decide_eq_true (by omega)
    have g1 : (L ++ (p' ++ [y] ++ x :: q))[0 + Int.toNat ((L.length + k + 1 : Nat) : Int)]? = some x := by
      have : L ++ (p' ++ [y] ++ x :: q) = (L ++ (p' ++ [y])) ++ x :: q := by simp
      rw [this]; exact get_at (by simp; omega)
    have g2 : (L ++ (p' ++ [y] ++ x :: q))[0 + Int.toNat ((L.length + k : Nat) : Int)]? = some y := by
      have : L ++ (p' ++ [y] ++ x :: q) = (L ++ p') ++ y :: x :: q := by simp
      rw [this]; exact get_at (by simp; omega)
    obtain ⟨w, hw, hd⟩ := hg x y hx hy
    have hcond : ∀ (X Y : Option (List dpDep)), (bif true then X else Y) = X := fun _ _ => rfl
    rw [h1]
    simp only [h0, h2, h3, g1, g2, hw, hd, chk, cond_true, Option.bind_some]
    unfold sl_insertionSortCmpFunc_dpDep_j16
    cases hlt : lt x y with
    | false =>
      simp only [cond_false]
      exact ⟨p' ++ [y], [], by simp, fun y h => absurd h List.not_mem_nil, .inr ⟨p', y, rfl, hlt⟩, by simp⟩
    | true =>
      rw [h1]
      have u1 : upd (L ++ (p' ++ [y] ++ x :: q)) (0 + Int.toNat ((L.length + k + 1 : Nat) : Int)) y = some (L ++ (p' ++ y :: y :: q)) := by
        have : L ++ (p' ++ [y] ++ x :: q) = (L ++ (p' ++ [y])) ++ x :: q := by simp
        rw [this, upd_at (by simp; omega)]; simp
      have u2 : upd (L ++ (p' ++ y :: y :: q)) (0 + Int.toNat ((L.length + k : Nat) : Int)) x = some (L ++ (p' ++ x :: (y :: q))) := by
        have : L ++ (p' ++ y :: y :: q) = (L ++ p') ++ y :: (y :: q) := by simp
        rw [this, upd_at (by simp; omega)]; simp
      simp only [h2, h3, g1, g2, u1, u2, chk, cond_true, Option.bind_some]
      obtain ⟨p1, p2, e, a, b, c⟩ := ins_l2 hg hn L K hx k p' (y :: q) m' hk' (by omega) (by simp; omega) (fun z hz => hA z (by simp [hz]))
      refine ⟨p1, p2 ++ [y], by rw [e]; simp, fun z hz => ?_, b, ?_⟩
      · rcases List.mem_append.1 hz with hz | hz
        · exact a z hz
        · simp at hz; subst hz; exact hlt
      · rw [hk'] at c
        rw [c]
        simp
theorem ins_sorted {lt : dpDep → dpDep → Bool} (ho : Ord' dpDep lt) {p1 p2 : List dpDep} {x : dpDep} (hs : Sorted lt (p1 ++ p2)) (h2 : ∀ y, y ∈ p2 → lt x y = true) (h1 : p1 = [] ∨ ∃ p0 y, p1 = p0 ++ [y] ∧ lt x y = false) : Sorted lt (p1 ++ x :: p2) := by
  unfold Sorted at *
  rw [List.pairwise_append] at hs ⊢
  obtain ⟨a, b, c⟩ := hs
  refine ⟨a, List.pairwise_cons.2 ⟨fun y hy => ho.asym _ _ (h2 y hy), b⟩, fun z hz y hy => ?_⟩
  rcases List.mem_cons.1 hy with rfl | hy
  · rcases h1 with rfl | ⟨p0, w, rfl, hw⟩
    · exact absurd hz List.not_mem_nil
    · rcases List.mem_append.1 hz with hz | hz
      · rw [List.pairwise_append] at a
        exact ho.trans _ _ _ (a.2.2 z hz w (by simp)) hw
      · simp at hz; subst hz; exact hw
  · exact c z hz y hy
theorem ins_l1 {g : dpDep → dpDep → Option Int} {lt : dpDep → dpDep → Bool} {A : dpDep → Prop} (hg : Cmp g lt A) (ho : Ord' dpDep lt) {n : Nat} (hn : n ≤ 4611686018427387904) {fuel : Nat} (hf : n < fuel) (L Q : List dpDep) :
    ∀ (r s : List dpDep) (m : Nat), r.length < m → (L ++ (s ++ (r ++ Q))).length = n → Sorted lt s → (∀ y, y ∈ s ++ r → A y) →
    ∃ s', s'.Perm (s ++ r) ∧ Sorted lt s' ∧
      sl_insertionSortCmpFunc_dpDep_l1 fuel n (L.length : Int) ((L.length + s.length + r.length : Nat) : Int) g m (L ++ (s ++ (r ++ Q))) ((L.length + s.length : Nat) : Int) = some (L ++ (s' ++ Q))
  | [], s, m, hm, hlen, hs, hA => by
    obtain ⟨m', rfl⟩ : ∃ m', m = m' + 1 := ⟨m - 1, by omega⟩
    refine ⟨s, by simp, hs, ?_⟩
    rw [sl_insertionSortCmpFunc_dpDep_l1.eq_2]
    have h0 : decide (((L.length + s.length : Nat) : Int) < ((L.length + s.length + ([] : List dpDep).length : Nat) : Int)) = false := by simp
    rw [h0]
    simp
  | x :: r, s, m, hm, hlen, hs, hA => by
    obtain ⟨m', rfl⟩ : ∃ m', m = m' + 1 := ⟨m - 1, by omega⟩
    simp only [List.length_cons] at hm
    have hlen' : L.length + (s.length + (r.length + 1 + Q.length)) = n := by simp at hlen; omega
    rw [sl_insertionSortCmpFunc_dpDep_l1.eq_2]
    have h0 : decide (((L.length + s.length : Nat) : Int) < ((L.length + s.length + (x :: r).length : Nat) : Int)) = true := decide_eq_true (by simp; omega)
    rw [h0]
    simp only [cond_true]
    have el : L ++ (s ++ (x :: r ++ Q)) = L ++ (s ++ x :: (r ++ Q)) := by simp
    rw [el]
    obtain ⟨p1, p2, e, a, b, c⟩ := ins_l2 hg hn L (sl_insertionSortCmpFunc_dpDep_j11 ((L.length + s.length : Nat) : Int) (sl_insertionSortCmpFunc_dpDep_l1 fuel n (L.length : Int) ((L.length + s.length + (x :: r).length : Nat) : Int) g m')) (hA x (by simp)) s.length s (r ++ Q) fuel rfl (by omega) (by simp; omega) (fun y hy => hA y (by simp [hy]))
    rw [c]
    unfold sl_insertionSortCmpFunc_dpDep_j11
    have w1 : IntKind.wrap .i64 (((L.length + s.length : Nat) : Int) + 1) = ((L.length + (p1 ++ x :: p2).length : Nat) : Int) := by
      rw [wrap64 (by omega) (by omega), e]; simp; omega
    have w2 : ((L.length + s.length + (x :: r).length : Nat) : Int) = ((L.length + (p1 ++ x :: p2).length + r.length : Nat) : Int) := by
      rw [e]; simp; omega
    have w3 : L ++ (p1 ++ x :: (p2 ++ (r ++ Q))) = L ++ ((p1 ++ x :: p2) ++ (r ++ Q)) := by simp
    rw [w1, w2, w3]
    obtain ⟨s', i1, i2, i3⟩ := ins_l1 hg ho hn hf L Q r (p1 ++ x :: p2) m' (by omega) (by have := congrArg List.length e; simp at this; simp; omega) (ins_sorted ho (e ▸ hs) a b) (fun y hy => hA y (by
      simp only [List.mem_append, List.mem_cons, e] at hy ⊢
      rcases hy with (h | h | h) | h <;> simp [h]))
    refine ⟨s', i1.trans ?_, i2, i3⟩
    have : (p1 ++ x :: p2 ++ r).Perm (p1 ++ p2 ++ x :: r) := by
      simp only [List.append_assoc, List.cons_append]
      refine List.Perm.append_left p1 ?_
      exact (List.perm_middle (l₁ := p2) (l₂ := r) (a := x)).symm
    rw [e]; exact this
theorem insertion_sorts {g : dpDep → dpDep → Option Int} {lt : dpDep → dpDep → Bool} {A : dpDep → Prop} (hg : Cmp g lt A) (ho : Ord' dpDep lt) {n : Nat} (hn : n ≤ 4611686018427387904) {fuel : Nat} (hf : n < fuel) (L M Q : List dpDep)
    (hlen : (L ++ (M ++ Q)).length = n) (hA : ∀ y, y ∈ M → A y) :
    ∃ M', M'.Perm M ∧ Sorted lt M' ∧ sl_insertionSortCmpFunc_dpDep fuel (L ++ (M ++ Q)) n (L.length : Int) ((L.length + M.length : Nat) : Int) g = some (L ++ (M' ++ Q)) := by
  unfold sl_insertionSortCmpFunc_dpDep
  have hl : L.length + (M.length + Q.length) = n := by simpa using hlen
  cases M with
  | nil =>
    refine ⟨[], .nil, .nil, ?_⟩
    obtain ⟨m', rfl⟩ : ∃ m', fuel = m' + 1 := ⟨fuel - 1, by omega⟩
    rw [sl_insertionSortCmpFunc_dpDep_l1.eq_2, wrap64 (by omega) (by omega)]
    have h0 : decide ((L.length : Int) + 1 < ((L.length + ([] : List dpDep).length : Nat) : Int)) = false := decide_eq_false (by simp; omega)
    rw [h0]; rfl
  | cons x r =>
    simp only [List.length_cons] at hl
    obtain ⟨s', i1, i2, i3⟩ := ins_l1 hg ho hn hf L Q r [x] fuel (by omega) (by simp; omega) (List.pairwise_singleton _ _) (fun y hy => hA y (by simpa using hy))
    refine ⟨s', by simpa using i1, i2, ?_⟩
    have w1 : IntKind.wrap .i64 ((L.length : Int) + 1) = ((L.length + [x].length : Nat) : Int) := by
      rw [wrap64 (by omega) (by omega)]; simp
    have w2 : ((L.length + (x :: r).length : Nat) : Int) = ((L.length + [x].length + r.length : Nat) : Int) := by simp; omega
    rw [w1, w2]
    have w3 : L ++ (x :: r ++ Q) = L ++ ([x] ++ (r ++ Q)) := by simp
    rw [w3]
    exact i3
def popOf (x : Nat) : Nat := (List.range 9).foldl (fun a i => if x.testBit i then a + 1 else a) 0
def popSorted (n : Nat) : List Int := ((List.range 9).flatMap fun k => (List.range (2 ^ n)).filter fun x => popOf x == k).map fun (x : Nat) => (x : Int)
def allSets (n : Nat) : List Int := (List.range (2 ^ n)).map fun (x : Nat) => (x : Int)
def cmp1 : Int → Int → Option Int := fun y0 y1 => dp_critical_1 y0 y1
theorem stab1 : sl_SortStableFunc_int bigFuel (allSets 1) (2 ^ 1) cmp1 = some (popSorted 1) := by kernel_rfl
theorem stab2 : sl_SortStableFunc_int bigFuel (allSets 2) (2 ^ 2) cmp1 = some (popSorted 2) := by kernel_rfl
theorem stab3 : sl_SortStableFunc_int bigFuel (allSets 3) (2 ^ 3) cmp1 = some (popSorted 3) := by kernel_rfl
theorem stab4 : sl_SortStableFunc_int bigFuel (allSets 4) (2 ^ 4) cmp1 = some (popSorted 4) := by kernel_rfl
theorem stab5 : sl_SortStableFunc_int bigFuel (allSets 5) (2 ^ 5) cmp1 = some (popSorted 5) := by kernel_rfl
theorem stab6 : sl_SortStableFunc_int bigFuel (allSets 6) (2 ^ 6) cmp1 = some (popSorted 6) := by kernel_rfl
theorem stab7 : sl_SortStableFunc_int bigFuel (allSets 7) (2 ^ 7) cmp1 = some (popSorted 7) := by kernel_rfl
def stS1 : List Int := ([0, 1, 2, 4, 8, 16, 3, 5, 6, 9, 10, 12, 17, 18, 7, 11, 13, 14, 19, 15, 32, 20, 24, 33, 34, 36, 21, 22, 25, 26, 28, 35, 37, 38, 23, 27, 29, 30, 39, 31, 40, 48, 41, 42, 44, 49, 50, 52, 56, 43, 45, 46, 51, 53, 54, 57, 58, 47, 55, 59, 64, 65, 66, 68, 72, 67, 69, 70, 73, 74, 76, 60, 71, 75, 77, 78, 61, 62, 79, 63, 80, 96, 81, 82, 84, 88, 97, 98, 83, 85, 86, 89, 90, 92, 99, 87, 91, 93, 94, 95, 100, 104, 112, 101, 102, 105, 106, 108, 113, 114, 116, 103, 107, 109, 110, 115, 117, 118, 111, 119, 128, 129, 130, 132, 136, 131, 133, 134, 137, 138, 120, 135, 139, 121, 122, 124, 123, 125, 126, 127, 144, 140, 145, 146, 148, 152, 141, 142, 147, 149, 150, 153, 154, 156, 143, 151, 155, 157, 158, 159, 160, 161, 162, 164, 168, 176, 163, 165, 166, 169, 170, 172, 177, 178, 167, 171, 173, 174, 179, 175, 192, 193, 194, 196, 180, 184, 195, 197, 198, 181, 182, 185, 186, 188, 199, 183, 187, 189, 190, 191, 200, 208, 201, 202, 204, 209, 210, 212, 216, 203, 205, 206, 211, 213, 214, 217, 218, 207, 215, 219, 224, 225, 226, 228, 232, 220, 227, 229, 230, 233, 234, 236, 221, 222, 231, 235, 237, 238, 223, 239, 240, 241, 242, 243, 244, 245, 246, 247, 248, 249, 250, 251, 252, 253, 254, 255] : List Nat).map fun (x : Nat) => (x : Int)
def stS2 : List Int := ([0, 1, 2, 4, 8, 16, 3, 5, 6, 9, 10, 12, 17, 18, 7, 11, 13, 14, 19, 15, 32, 20, 24, 33, 34, 36, 21, 22, 25, 26, 28, 35, 37, 38, 23, 27, 29, 30, 39, 31, 40, 48, 41, 42, 44, 49, 50, 52, 56, 43, 45, 46, 51, 53, 54, 57, 58, 47, 55, 59, 64, 65, 66, 68, 72, 67, 69, 70, 73, 74, 76, 60, 71, 75, 77, 78, 61, 62, 79, 63, 80, 96, 81, 82, 84, 88, 97, 98, 83, 85, 86, 89, 90, 92, 99, 87, 91, 93, 94, 95, 100, 104, 112, 101, 102, 105, 106, 108, 113, 114, 116, 103, 107, 109, 110, 115, 117, 118, 111, 119, 128, 129, 130, 132, 136, 131, 133, 134, 137, 138, 120, 135, 139, 121, 122, 124, 123, 125, 126, 127, 144, 140, 145, 146, 148, 152, 141, 142, 147, 149, 150, 153, 154, 156, 143, 151, 155, 157, 158, 159, 160, 161, 162, 164, 168, 176, 163, 165, 166, 169, 170, 172, 177, 178, 167, 171, 173, 174, 179, 175, 192, 193, 194, 196, 180, 184, 195, 197, 198, 181, 182, 185, 186, 188, 199, 183, 187, 189, 190, 191, 200, 208, 201, 202, 204, 209, 210, 212, 216, 203, 205, 206, 211, 213, 214, 217, 218, 207, 215, 219, 224, 225, 226, 228, 232, 220, 227, 229, 230, 233, 234, 236, 221, 222, 231, 235, 237, 238, 223, 239, 240, 241, 242, 244, 248, 243, 245, 246, 249, 250, 252, 247, 251, 253, 254, 255] : List Nat).map fun (x : Nat) => (x : Int)
def stS3 : List Int := ([0, 1, 2, 4, 8, 16, 32, 3, 5, 6, 9, 10, 12, 17, 18, 20, 24, 33, 34, 36, 7, 11, 13, 14, 19, 21, 22, 25, 26, 28, 35, 37, 38, 15, 23, 27, 29, 30, 39, 31, 64, 40, 48, 65, 66, 68, 72, 41, 42, 44, 49, 50, 52, 56, 67, 69, 70, 73, 74, 76, 43, 45, 46, 51, 53, 54, 57, 58, 60, 71, 75, 77, 78, 47, 55, 59, 61, 62, 79, 63, 80, 96, 81, 82, 84, 88, 97, 98, 100, 104, 112, 83, 85, 86, 89, 90, 92, 99, 101, 102, 105, 106, 108, 113, 114, 116, 87, 91, 93, 94, 103, 107, 109, 110, 115, 117, 118, 95, 111, 119, 128, 129, 130, 132, 136, 144, 131, 133, 134, 137, 138, 140, 145, 146, 148, 152, 120, 135, 139, 141, 142, 147, 149, 150, 153, 154, 156, 121, 122, 124, 143, 151, 155, 157, 158, 123, 125, 126, 159, 127, 160, 192, 161, 162, 164, 168, 176, 193, 194, 196, 163, 165, 166, 169, 170, 172, 177, 178, 180, 184, 195, 197, 198, 167, 171, 173, 174, 179, 181, 182, 185, 186, 188, 199, 175, 183, 187, 189, 190, 191, 200, 208, 224, 201, 202, 204, 209, 210, 212, 216, 225, 226, 228, 232, 203, 205, 206, 211, 213, 214, 217, 218, 220, 227, 229, 230, 233, 234, 236, 207, 215, 219, 221, 222, 231, 235, 237, 238, 223, 239, 240, 241, 242, 244, 248, 243, 245, 246, 249, 250, 252, 247, 251, 253, 254, 255] : List Nat).map fun (x : Nat) => (x : Int)
def stS4 : List Int := ([0, 1, 2, 4, 8, 16, 32, 64, 3, 5, 6, 9, 10, 12, 17, 18, 20, 24, 33, 34, 36, 40, 48, 65, 66, 68, 72, 7, 11, 13, 14, 19, 21, 22, 25, 26, 28, 35, 37, 38, 41, 42, 44, 49, 50, 52, 56, 67, 69, 70, 73, 74, 76, 15, 23, 27, 29, 30, 39, 43, 45, 46, 51, 53, 54, 57, 58, 60, 71, 75, 77, 78, 31, 47, 55, 59, 61, 62, 79, 63, 128, 80, 96, 129, 130, 132, 136, 144, 81, 82, 84, 88, 97, 98, 100, 104, 112, 131, 133, 134, 137, 138, 140, 145, 146, 148, 152, 83, 85, 86, 89, 90, 92, 99, 101, 102, 105, 106, 108, 113, 114, 116, 120, 135, 139, 141, 142, 147, 149, 150, 153, 154, 156, 87, 91, 93, 94, 103, 107, 109, 110, 115, 117, 118, 121, 122, 124, 143, 151, 155, 157, 158, 95, 111, 119, 123, 125, 126, 159, 127, 160, 192, 161, 162, 164, 168, 176, 193, 194, 196, 200, 208, 224, 163, 165, 166, 169, 170, 172, 177, 178, 180, 184, 195, 197, 198, 201, 202, 204, 209, 210, 212, 216, 225, 226, 228, 232, 167, 171, 173, 174, 179, 181, 182, 185, 186, 188, 199, 203, 205, 206, 211, 213, 214, 217, 218, 220, 227, 229, 230, 233, 234, 236, 175, 183, 187, 189, 190, 207, 215, 219, 221, 222, 231, 235, 237, 238, 191, 223, 239, 240, 241, 242, 244, 248, 243, 245, 246, 249, 250, 252, 247, 251, 253, 254, 255] : List Nat).map fun (x : Nat) => (x : Int)
def stS5 : List Int := ([0, 1, 2, 4, 8, 16, 32, 64, 128, 3, 5, 6, 9, 10, 12, 17, 18, 20, 24, 33, 34, 36, 40, 48, 65, 66, 68, 72, 80, 96, 129, 130, 132, 136, 144, 7, 11, 13, 14, 19, 21, 22, 25, 26, 28, 35, 37, 38, 41, 42, 44, 49, 50, 52, 56, 67, 69, 70, 73, 74, 76, 81, 82, 84, 88, 97, 98, 100, 104, 112, 131, 133, 134, 137, 138, 140, 145, 146, 148, 152, 15, 23, 27, 29, 30, 39, 43, 45, 46, 51, 53, 54, 57, 58, 60, 71, 75, 77, 78, 83, 85, 86, 89, 90, 92, 99, 101, 102, 105, 106, 108, 113, 114, 116, 120, 135, 139, 141, 142, 147, 149, 150, 153, 154, 156, 31, 47, 55, 59, 61, 62, 79, 87, 91, 93, 94, 103, 107, 109, 110, 115, 117, 118, 121, 122, 124, 143, 151, 155, 157, 158, 63, 95, 111, 119, 123, 125, 126, 159, 127, 160, 192, 161, 162, 164, 168, 176, 193, 194, 196, 200, 208, 224, 163, 165, 166, 169, 170, 172, 177, 178, 180, 184, 195, 197, 198, 201, 202, 204, 209, 210, 212, 216, 225, 226, 228, 232, 167, 171, 173, 174, 179, 181, 182, 185, 186, 188, 199, 203, 205, 206, 211, 213, 214, 217, 218, 220, 227, 229, 230, 233, 234, 236, 175, 183, 187, 189, 190, 207, 215, 219, 221, 222, 231, 235, 237, 238, 191, 223, 239, 240, 241, 242, 244, 248, 243, 245, 246, 249, 250, 252, 247, 251, 253, 254, 255] : List Nat).map fun (x : Nat) => (x : Int)
def stS6 : List Int := ([0, 1, 2, 4, 8, 16, 32, 64, 128, 3, 5, 6, 9, 10, 12, 17, 18, 20, 24, 33, 34, 36, 40, 48, 65, 66, 68, 72, 80, 96, 129, 130, 132, 136, 144, 7, 11, 13, 14, 19, 21, 22, 25, 26, 28, 35, 37, 38, 41, 42, 44, 49, 50, 52, 56, 67, 69, 70, 73, 74, 76, 81, 82, 84, 88, 97, 98, 100, 104, 112, 131, 133, 134, 137, 138, 140, 145, 146, 148, 152, 15, 23, 27, 29, 30, 39, 43, 45, 46, 51, 53, 54, 57, 58, 60, 71, 75, 77, 78, 83, 85, 86, 89, 90, 92, 99, 101, 102, 105, 106, 108, 113, 114, 116, 120, 135, 139, 141, 142, 147, 149, 150, 153, 154, 156, 31, 47, 55, 59, 61, 62, 79, 87, 91, 93, 94, 103, 107, 109, 110, 115, 117, 118, 121, 122, 124, 143, 151, 155, 157, 158, 63, 95, 111, 119, 123, 125, 126, 159, 127, 160, 192, 161, 162, 164, 168, 176, 193, 194, 196, 200, 208, 224, 163, 165, 166, 169, 170, 172, 177, 178, 180, 184, 195, 197, 198, 201, 202, 204, 209, 210, 212, 216, 225, 226, 228, 232, 240, 167, 171, 173, 174, 179, 181, 182, 185, 186, 188, 199, 203, 205, 206, 211, 213, 214, 217, 218, 220, 227, 229, 230, 233, 234, 236, 241, 242, 244, 248, 175, 183, 187, 189, 190, 207, 215, 219, 221, 222, 231, 235, 237, 238, 243, 245, 246, 249, 250, 252, 191, 223, 239, 247, 251, 253, 254, 255] : List Nat).map fun (x : Nat) => (x : Int)
theorem st1 : ∀ K, sl_stableCmpFunc_int_l1 bigFuel 256 256 cmp1 K bigFuel (allSets 8) 0 20 = K stS1 240 := fun K => by kernel_rfl
theorem st2 : sl_insertionSortCmpFunc_int bigFuel stS1 256 240 256 cmp1 = some stS2 := by kernel_rfl
theorem st3 : ∀ K, sl_stableCmpFunc_int_l3 bigFuel 256 256 cmp1 20 K bigFuel stS2 0 40 = K stS3 240 := fun K => by kernel_rfl
theorem st4 : ∀ K, sl_stableCmpFunc_int_l3 bigFuel 256 256 cmp1 40 K bigFuel stS3 0 80 = K stS4 240 := fun K => by kernel_rfl
theorem st5 : ∀ K, sl_stableCmpFunc_int_l3 bigFuel 256 256 cmp1 80 K bigFuel stS4 0 160 = K stS5 160 := fun K => by kernel_rfl
theorem st6 : sl_symMergeCmpFunc_int bigFuel stS5 256 160 240 256 cmp1 = some stS6 := by kernel_rfl
theorem st7 : ∀ K, sl_stableCmpFunc_int_l3 bigFuel 256 256 cmp1 160 K bigFuel stS6 0 320 = K stS6 0 := fun K => by kernel_rfl
theorem st8 : sl_symMergeCmpFunc_int bigFuel stS6 256 0 160 256 cmp1 = some (popSorted 8) := by kernel_rfl
theorem st9 (m : Nat) : sl_stableCmpFunc_int_l2 bigFuel 256 256 cmp1 (m + 5) stS2 20 = some (popSorted 8) := by
  have w (i : Int) (h : -9223372036854775808 ≤ i) (h2 : i < 9223372036854775808) : IntKind.wrap .i64 i = i := wrap_id h h2
  rw [sl_stableCmpFunc_int_l2.eq_2, w (2 * 20) (by decide) (by decide)]
  rw [show decide ((20 : Int) < 256) = true from rfl, cond_true, show (2 * 20 : Int) = 40 from rfl, st3]
  unfold sl_stableCmpFunc_int_j25 sl_stableCmpFunc_int_j36
  rw [w (240 + 20) (by decide) (by decide), show decide ((240 + 20 : Int) < 256) = false from rfl, cond_false, w (20 * 2) (by decide) (by decide)]
  rw [show (20 * 2 : Int) = 40 from rfl, sl_stableCmpFunc_int_l2.eq_2, w (2 * 40) (by decide) (by decide)]
  rw [show decide ((40 : Int) < 256) = true from rfl, cond_true, show (2 * 40 : Int) = 80 from rfl, st4]
  unfold sl_stableCmpFunc_int_j25 sl_stableCmpFunc_int_j36
  rw [w (240 + 40) (by decide) (by decide), show decide ((240 + 40 : Int) < 256) = false from rfl, cond_false, w (40 * 2) (by decide) (by decide)]
  rw [show (40 * 2 : Int) = 80 from rfl, sl_stableCmpFunc_int_l2.eq_2, w (2 * 80) (by decide) (by decide)]
  rw [show decide ((80 : Int) < 256) = true from rfl, cond_true, show (2 * 80 : Int) = 160 from rfl, st5]
  unfold sl_stableCmpFunc_int_j25 sl_stableCmpFunc_int_j36
  rw [w (160 + 80) (by decide) (by decide), show decide ((160 + 80 : Int) < 256) = true from rfl, cond_true, show (160 + 80 : Int) = 240 from rfl, st6]
  rw [Option.bind_some, w (80 * 2) (by decide) (by decide)]
  rw [show (80 * 2 : Int) = 160 from rfl, sl_stableCmpFunc_int_l2.eq_2, w (2 * 160) (by decide) (by decide)]
  rw [show decide ((160 : Int) < 256) = true from rfl, cond_true, show (2 * 160 : Int) = 320 from rfl, st7]
  unfold sl_stableCmpFunc_int_j25 sl_stableCmpFunc_int_j36
  rw [w (0 + 160) (by decide) (by decide), show decide ((0 + 160 : Int) < 256) = true from rfl, cond_true, show (0 + 160 : Int) = 160 from rfl, st8]
  rw [Option.bind_some, w (160 * 2) (by decide) (by decide)]
  rw [show (160 * 2 : Int) = 320 from rfl, sl_stableCmpFunc_int_l2.eq_2, show decide ((320 : Int) < 256) = false from rfl, cond_false]
theorem stab8 : sl_SortStableFunc_int bigFuel (allSets 8) (2 ^ 8) cmp1 = some (popSorted 8) := by
  unfold sl_SortStableFunc_int sl_stableCmpFunc_int
  rw [show ((2 ^ 8 : Nat) : Int) = 256 from rfl, show (2 ^ 8 : Nat) = 256 from rfl, st1]
  unfold sl_stableCmpFunc_int_j7
  rw [st2, Option.bind_some]
  have h := st9 (bigFuel - 5)
  rw [show bigFuel - 5 + 5 = bigFuel from rfl] at h
  rw [h]
  rfl
theorem stab_all {n : Nat} (h1 : 1 ≤ n) (h2 : n ≤ 8) : sl_SortStableFunc_int bigFuel (allSets n) (2 ^ n) cmp1 = some (popSorted n) := by
  have : n = 1 ∨ n = 2 ∨ n = 3 ∨ n = 4 ∨ n = 5 ∨ n = 6 ∨ n = 7 ∨ n = 8 := by omega
  rcases this with rfl | rfl | rfl | rfl | rfl | rfl | rfl | rfl
  · exact stab1
  · exact stab2
  · exact stab3
  · exact stab4
  · exact stab5
  · exact stab6
  · exact stab7
  · exact stab8
theorem allSets_mem {n : Nat} {x : Int} : x ∈ allSets n ↔ 0 ≤ x ∧ x < ((2 ^ n : Nat) : Int) := by
  unfold allSets
  rw [List.mem_map]
  constructor
  · rintro ⟨k, hk, rfl⟩
    have := List.mem_range.1 hk
    exact ⟨by omega, by exact_mod_cast this⟩
  · rintro ⟨a, b⟩
    exact ⟨x.toNat, List.mem_range.2 (by omega), by omega⟩
theorem allSets_rise {n : Nat} : (allSets n).Pairwise (· < ·) := by
  unfold allSets
  rw [List.pairwise_map]
  exact (List.pairwise_lt_range).imp fun h => by exact_mod_cast h
theorem allSets_good {n : Int} (h1 : 1 ≤ n) (h2 : n ≤ 8) : Good n (allSets n.toNat) := by
  have hp := pow_le h1 h2
  refine ⟨fun x => by rw [allSets_mem, isSet_range h1 h2], ?_⟩
  have hm : ∀ x, x ∈ allSets n.toNat → 0 ≤ x ∧ x < ((2 ^ n.toNat : Nat) : Int) := fun x hx => allSets_mem.1 hx
  refine List.Pairwise.imp_of_mem (fun {a b} ha hb hlt hbit => ?_) (allSets_rise (n := n.toNat))
  have r1 := hm a ha
  have r2 := hm b hb
  have := le_of_bits r2.1 (by omega) r1.1 (by omega) hbit
  omega
def apart : List Int → Bool
  | [] => true
  | x :: r => r.all (fun y => !has y x) && apart r
theorem apart_pair : ∀ {l : List Int}, apart l = true → l.Pairwise fun a b => ¬ Bits b a
  | [], _ => .nil
  | x :: r, h => by
    unfold apart at h
    rw [Bool.and_eq_true, List.all_eq_true] at h
    refine List.pairwise_cons.2 ⟨fun y hy hb => ?_, apart_pair h.2⟩
    have := h.1 y hy
    rw [has_iff.2 hb] at this
    cases this
def popIn (n : Nat) : Bool := (List.range (2 ^ n)).all fun k => decide (popOf k < 9)
theorem pop_mem {n : Nat} (h : popIn n = true) {x : Int} : x ∈ popSorted n ↔ 0 ≤ x ∧ x < ((2 ^ n : Nat) : Int) := by
  unfold popSorted
  rw [List.mem_map]
  unfold popIn at h
  rw [List.all_eq_true] at h
  constructor
  · rintro ⟨k, hk, rfl⟩
    rw [List.mem_flatMap] at hk
    obtain ⟨a, _, hk⟩ := hk
    have := List.mem_range.1 (List.mem_filter.1 hk).1
    exact ⟨by omega, by exact_mod_cast this⟩
  · rintro ⟨a, b⟩
    have hk : x.toNat ∈ List.range (2 ^ n) := List.mem_range.2 (by omega)
    refine ⟨x.toNat, List.mem_flatMap.2 ⟨popOf x.toNat, List.mem_range.2 (by simpa using h _ hk), List.mem_filter.2 ⟨hk, by simp⟩⟩, by omega⟩
theorem pop_check {n : Nat} (h1 : 1 ≤ n) (h2 : n ≤ 8) : popIn n = true ∧ apart (popSorted n) = true ∧ (popSorted n).length = 2 ^ n := by
  have : n = 1 ∨ n = 2 ∨ n = 3 ∨ n = 4 ∨ n = 5 ∨ n = 6 ∨ n = 7 ∨ n = 8 := by omega
  rcases this with rfl | rfl | rfl | rfl | rfl | rfl | rfl | rfl
  · exact ⟨by kernel_rfl, by kernel_rfl, by kernel_rfl⟩
  · exact ⟨by kernel_rfl, by kernel_rfl, by kernel_rfl⟩
  · exact ⟨by kernel_rfl, by kernel_rfl, by kernel_rfl⟩
  · exact ⟨by kernel_rfl, by kernel_rfl, by kernel_rfl⟩
  · exact ⟨by kernel_rfl, by kernel_rfl, by kernel_rfl⟩
  · exact ⟨by kernel_rfl, by kernel_rfl, by kernel_rfl⟩
  · exact ⟨by kernel_rfl, by kernel_rfl, by kernel_rfl⟩
  · exact ⟨by kernel_rfl, by kernel_rfl, by kernel_rfl⟩
theorem pop_good {n : Int} (h1 : 1 ≤ n) (h2 : n ≤ 8) : Good n (popSorted n.toNat) := by
  obtain ⟨a, b, _⟩ := pop_check (n := n.toNat) (by omega) (by omega)
  exact ⟨fun x => by rw [pop_mem a, isSet_range h1 h2], apart_pair b⟩
theorem crit_l1 {n : Nat} (hn : n ≤ 8) (K : List Int → Nat → Option (List dpDep)) : ∀ (r : List Nat) (k : Nat) (v : List Int), v = (List.range k).map (fun (x : Nat) => (x : Int)) → k + r.length = 2 ^ n →
    dp_critical_l1 K r k v v.length = K (allSets n) (2 ^ n)
  | [], k, v, hv, hk => by
    simp only [List.length_nil, Nat.add_zero] at hk
    subst hk
    rw [dp_critical_l1.eq_1, hv]
    simp [allSets]
  | x :: r, k, v, hv, hk => by
    have hp : 2 ^ n ≤ 2 ^ 8 := Nat.pow_le_pow_right (by omega) hn
    simp only [List.length_cons] at hk
    have hl : v.length = k := by rw [hv]; simp
    rw [dp_critical_l1.eq_2]
    have hcap : capOk 8 (v.length + [(k : Int)].length) = true := by
      simp only [capOk, Bool.and_eq_true, hl, List.length_singleton]
      exact ⟨Nat.ble_eq_true_of_le (by omega), Nat.ble_eq_true_of_le (by omega)⟩
    rw [hcap, snap_full]
    simp only [chk, cond_true]
    refine crit_l1 hn K r (k + 1) _ ?_ (by omega)
    rw [hv, List.range_succ]
    simp
theorem crit_2 {d : dpDep} {x : Int} : dp_critical_2 d x = some (has d.f_From x && !has d.f_To x) := by
  unfold dp_critical_2 dp_critical_2_j4
  have q1 : (iAndNot .i64 d.f_From x == 0) = has d.f_From x := rfl
  have q2 : (iAndNot .i64 d.f_To x != 0) = !has d.f_To x := rfl
  rw [q1, q2]
  cases has d.f_From x <;> rfl
theorem crit_l2 {f : Int → Int} {g : Int → Option Int} {W : List Int} (hg : ∀ x, x ∈ W → g x = some (f x)) (hW : W.length ≤ 256) (K : List dpDep → Nat → Option (List dpDep)) :
    ∀ (rest : List Int) (r : List Nat) (pre : List Int) (acc : List dpDep), pre ++ rest = W → r.length = rest.length → acc.length ≤ pre.length →
    dp_critical_l2 g W.length W K r pre.length acc acc.length = K (critGo f rest acc) (critGo f rest acc).length
  | [], r, pre, acc, h, hr, ha => by
    obtain rfl := List.length_eq_zero_iff.1 (by simpa using hr)
    rfl
  | x :: rest, r, pre, acc, h, hr, ha => by
    cases r with
    | nil => simp at hr
    | cons y r =>
      simp only [List.length_cons] at hr
      have hlen : pre.length + (rest.length + 1) = W.length := by rw [← h]; simp
      rw [dp_critical_l2.eq_2]
      have h2 : decide ((0 : Int) ≤ (pre.length : Int) ∧ (pre.length : Int) < ((W.length : Nat) : Int)) = true := decide_eq_true (by omega)
      have g1 : W[0 + Int.toNat (pre.length : Int)]? = some x := by rw [← h]; exact get_at (by simp)
      have hgx : g x = some (f x) := hg x (by rw [← h]; simp)
      have hcf : sl_ContainsFunc_dpDep (snap 0 acc.length acc) (fun y0 => dp_critical_2 y0 x) = some (wants acc x) := by
        rw [snap_full]
        exact containsFunc_dep _ _ acc (lenOk_of (by omega)) (fun d _ => crit_2)
      simp only [h2, g1, hgx, hcf, chk, cond_true, Option.bind_some]
      unfold dp_critical_j26 dp_critical_j22
      rw [snap_full, hgx]
      unfold critGo
      have ih1 := crit_l2 hg hW K rest r (pre ++ [x]) acc (by simpa using h) (by omega) (by simp; omega)
      have ih2 := crit_l2 hg hW K rest r (pre ++ [x]) (acc ++ [⟨x, f x⟩]) (by simpa using h) (by omega) (by simp; omega)
      simp only [List.length_append, List.length_singleton] at ih1 ih2
      have hcap : capOk 16 (acc.length + [(⟨x, f x⟩ : dpDep)].length) = true := by
        simp only [capOk, Bool.and_eq_true, List.length_singleton]
        exact ⟨Nat.ble_eq_true_of_le (by omega), Nat.ble_eq_true_of_le (by omega)⟩
      cases hne : (f x != x) with
      | false => simp only [cond_false, Bool.false_and]; exact ih1
      | true =>
        simp only [cond_true, Bool.true_and]
        cases hw : wants acc x with
        | true => simp only [Bool.not_true, cond_false]; exact ih1
        | false =>
          simp only [Bool.not_false, cond_true, Option.bind_some, chk]
          rw [hcap]
          simp only [cond_true, List.length_append, List.length_singleton]
          exact ih2
def ltFrom (x y : dpDep) : Bool := decide (x.f_From < y.f_From)
theorem ltFrom_ord : Ord' dpDep ltFrom := by
  refine ⟨fun x y h => ?_, fun x y z h k => ?_⟩
  · unfold ltFrom at *
    simp only [decide_eq_true_eq, decide_eq_false_iff_not] at *
    omega
  · unfold ltFrom at *
    simp only [decide_eq_false_iff_not] at *
    omega
def smallFrom (d : dpDep) : Prop := 0 ≤ d.f_From ∧ d.f_From < 256
theorem cmp_from : Cmp (fun y0 y1 => dp_critical_3 y0 y1) ltFrom smallFrom := by
  intro x y hx hy
  refine ⟨_, rfl, ?_⟩
  unfold ltFrom smallFrom at *
  rw [wrap64 (by omega) (by omega)]
  congr 1
  simp only [eq_iff_iff]
  omega
theorem len_small {k : Nat} (h : k ≤ 12) : ∃ w, mb_Len (IntKind.wrap .u64 ((k : Nat) : Int)) = some w := by
  have : k = 0 ∨ k = 1 ∨ k = 2 ∨ k = 3 ∨ k = 4 ∨ k = 5 ∨ k = 6 ∨ k = 7 ∨ k = 8 ∨ k = 9 ∨ k = 10 ∨ k = 11 ∨ k = 12 := by omega
  rcases this with rfl | rfl | rfl | rfl | rfl | rfl | rfl | rfl | rfl | rfl | rfl | rfl | rfl
  · exact ⟨0, by kernel_rfl⟩
  · exact ⟨1, by kernel_rfl⟩
  · exact ⟨2, by kernel_rfl⟩
  · exact ⟨2, by kernel_rfl⟩
  · exact ⟨3, by kernel_rfl⟩
  · exact ⟨3, by kernel_rfl⟩
  · exact ⟨3, by kernel_rfl⟩
  · exact ⟨3, by kernel_rfl⟩
  · exact ⟨4, by kernel_rfl⟩
  · exact ⟨4, by kernel_rfl⟩
  · exact ⟨4, by kernel_rfl⟩
  · exact ⟨4, by kernel_rfl⟩
  · exact ⟨4, by kernel_rfl⟩
theorem sort_small {g : dpDep → dpDep → Option Int} {lt : dpDep → dpDep → Bool} {A : dpDep → Prop} (hg : Cmp g lt A) (ho : Ord' dpDep lt) {M : List dpDep} (hM : M.length ≤ 12) (hA : ∀ y, y ∈ M → A y) :
    ∃ M', M'.Perm M ∧ Sorted lt M' ∧ sl_SortFunc_dpDep bigFuel M M.length g = some M' := by
  obtain ⟨w, hw⟩ := len_small hM
  obtain ⟨M', i1, i2, i3⟩ := insertion_sorts (fuel := bigFuel - 1) hg ho (n := M.length) (by omega) (by unfold bigFuel; omega) [] M [] (by simp) hA
  refine ⟨M', i1, i2, ?_⟩
  unfold sl_SortFunc_dpDep
  rw [hw, show bigFuel = (bigFuel - 1) + 1 from rfl]
  simp only [Option.bind_some]
  rw [sl_pdqsortCmpFunc_dpDep.eq_2]
  obtain ⟨m, hm⟩ : ∃ m, bigFuel - 1 + 1 - 1 = m := ⟨_, rfl⟩
  have e : ∀ fu, sl_pdqsortCmpFunc_dpDep_l1 (bigFuel - 1) M.length g fu (bigFuel - 1) M 0 (M.length : Int) w true true = sl_pdqsortCmpFunc_dpDep_l1 (bigFuel - 1) M.length g fu ((bigFuel - 2) + 1) M 0 (M.length : Int) w true true := fun fu => rfl
  rw [e, sl_pdqsortCmpFunc_dpDep_l1.eq_2]
  have h0 : decide (IntKind.wrap .i64 ((M.length : Int) - 0) ≤ 12) = true := by
    rw [wrap64 (by omega) (by omega)]
    exact decide_eq_true (by omega)
  rw [h0]
  simp only [List.length_nil, List.nil_append, List.append_nil, Nat.zero_add] at i3
  simp only [cond_true]
  rw [show (((0 : Nat) : Int)) = 0 from rfl] at i3
  rw [i3]
  rfl
theorem critical_val {n : Int} (h1 : 1 ≤ n) (h2 : n ≤ 8) {f : Int → Int} {g : Int → Option Int} (hg : ∀ x, isSet n x = true → g x = some (f x)) (hsm : (critGo f (popSorted n.toNat) []).length ≤ 12) :
    dp_critical bigFuel n g = some (critGo f (allSets n.toNat) []) := by
  have hp := pow_le h1 h2
  have hn : decide (0 ≤ n) = true := decide_eq_true (by omega)
  have hr : lenOk (List.range (2 ^ n.toNat)) = true := lenOk_of (by simp; omega)
  have gO := pop_good h1 h2
  have gA := allSets_good h1 h2
  obtain ⟨_, _, hpl⟩ := pop_check (n := n.toNat) (by omega) (by omega)
  unfold dp_critical
  rw [iShl_one h1 h2, Int.toNat_natCast]
  simp only [hn, hr, chk, cond_true]
  rw [crit_l1 (n := n.toNat) (by omega) _ _ 0 [] rfl (by simp)]
  unfold dp_critical_j5
  have hst := stab_all (n := n.toNat) (by omega) (by omega)
  unfold cmp1 at hst
  rw [hst, Int.toNat_natCast]
  simp only [Option.bind_some, hr, chk, cond_true]
  have := crit_l2 (f := f) (g := g) (W := popSorted n.toNat) (fun x hx => hg x ((gO.all x).1 hx)) (by rw [hpl]; exact hp) (dp_critical_j18 bigFuel) (popSorted n.toNat) (List.range (2 ^ n.toNat)) [] [] rfl (by simp [hpl]) (Nat.le_refl _)
  rw [hpl] at this
  simp only [List.length_nil] at this ⊢
  rw [this]
  unfold dp_critical_j18
  have fO := critGo_spec (f := f) gO
  have fA := critGo_spec (f := f) gA
  obtain ⟨S, i1, i2, i3⟩ := sort_small cmp_from ltFrom_ord hsm (fun d hd => by
    have := (isSet_range h1 h2).1 ((gO.all _).1 (fO.mem hd))
    exact ⟨this.1, by omega⟩)
  rw [i3]
  have hSl : (critGo f (popSorted n.toNat) []).length = S.length := i1.length_eq.symm
  simp only [Option.bind_some]
  rw [hSl, snap_full]
  congr 1
  have hnod : (popSorted n.toNat).Nodup := gO.rise.imp fun {u v} h (e : u = v) => h (by rw [e]; exact Bits.refl _)
  have hfn : ((critGo f (popSorted n.toNat) []).map fun d => d.f_From).Nodup := fO.from'.nodup hnod
  have hSn : (S.map fun d => d.f_From).Nodup := ((i1.map fun d => d.f_From).nodup_iff).2 hfn
  refine rise_eq ?_ ?_ (fun d => (i1.mem_iff).trans (found_same h1 h2 gO gA fO fA d))
  · unfold List.Nodup at hSn
    rw [List.pairwise_map] at hSn
    unfold Sorted at i2
    refine (hSn.and i2).imp fun {u v} h => ?_
    obtain ⟨p, q⟩ := h
    unfold ltFrom at q
    have := decide_eq_false_iff_not.1 q
    omega
  · have := (allSets_rise (n := n.toNat)).sublist fA.from'
    rw [List.pairwise_map] at this
    exact this
def ofDep (d : dpDep) : rf1Dep := ⟨d.f_From, d.f_To⟩
theorem own_val {l : List dpDep} (hl : l.length ≤ 256) : lw1_own l = some (l.map ofDep) := by
  unfold lw1_own
  rw [lenOk_of (show l.length ≤ 9223372036854775807 by omega)]
  simp only [chk, cond_true]
  have : ∀ (r : List dpDep) (k : Nat) (acc : List rf1Dep), acc.length + r.length ≤ 256 → lw1_own_l1 lw1_own_j4 r k acc = some (acc ++ r.map ofDep) := by
    intro r
    induction r with
    | nil => intro k acc _; rw [lw1_own_l1.eq_1]; simp [lw1_own_j4]
    | cons x r ih =>
      intro k acc ha
      simp only [List.length_cons] at ha
      rw [lw1_own_l1.eq_2]
      have hcap : ∀ z, capOk 16 (acc ++ [z]).length = true := by
        intro z
        simp only [capOk, Bool.and_eq_true, List.length_append, List.length_singleton]
        exact ⟨Nat.ble_eq_true_of_le (by omega), Nat.ble_eq_true_of_le (by omega)⟩
      simp only [hcap, chk, cond_true]
      rw [ih (k + 1) _ (by simp; omega)]
      simp [ofDep]
  simpa using this l 0 [] (by simpa using hl)
theorem rcrit_l2 {k1 : Nat} (K : Bool → Option (List rf1Dep)) : ∀ (r : List dpDep) (k : Nat) (v : Bool),
    rf1_critical_l2 k1 K (r.map ofDep) k v = K (v && !wants r (k1 : Int))
  | [], k, v => by simp [rf1_critical_l2.eq_1, wants]
  | d :: r, k, v => by
    rw [List.map_cons, rf1_critical_l2.eq_2]
    have q1 : (iAndNot .i64 (ofDep d).f_From (k1 : Int) == 0) = has d.f_From (k1 : Int) := rfl
    have q2 : (iAndNot .i64 (ofDep d).f_To (k1 : Int) != 0) = !has d.f_To (k1 : Int) := rfl
    rw [q1, q2]
    unfold rf1_critical_j18 rf1_critical_j16
    have i1 := rcrit_l2 (k1 := k1) K r (k + 1) v
    have i2 := rcrit_l2 (k1 := k1) K r (k + 1) false
    have hw : wants (d :: r) (k1 : Int) = ((has d.f_From (k1 : Int) && !has d.f_To (k1 : Int)) || wants r (k1 : Int)) := rfl
    rw [hw]
    cases has d.f_From (k1 : Int) <;> cases has d.f_To (k1 : Int) <;> simp [i1, i2]
theorem idx_natC {l : List Int} {k : Nat} {x : Int} (h : l[k]? = some x) : idx l (k : Int) = some x := by
  unfold idx
  rw [if_pos (by omega), Int.toNat_natCast]
  exact h
theorem rcrit_l1 {f : Int → Int} {C : List Int} : ∀ (r : List Nat) (k : Nat) (acc : List dpDep), (∀ j, j < k + r.length → C[j]? = some (f (j : Int))) → acc.length ≤ k → k + r.length ≤ 256 →
    rf1_critical_l1 C rf1_critical_j5 r k (acc.map ofDep) = some ((critGo f ((List.range' k r.length).map fun (x : Nat) => (x : Int)) acc).map ofDep)
  | [], k, acc, hC, ha, hk => rfl
  | x :: r, k, acc, hC, ha, hk => by
    simp only [List.length_cons] at hk hC
    have hi := idx_natC (hC k (by omega))
    rw [rf1_critical_l1.eq_2, hi]
    have hl : lenOk (acc.map ofDep) = true := lenOk_of (by simp; omega)
    simp only [Option.bind_some, hl, chk, cond_true]
    rw [rcrit_l2]
    unfold rf1_critical_j13 rf1_critical_j9
    rw [hi]
    rw [List.length_cons, List.range'_succ, List.map_cons]
    unfold critGo
    cases hc : ((f (k : Int) != (k : Int)) && !wants acc (k : Int)) with
    | false =>
      simp only [cond_false]
      exact rcrit_l1 r (k + 1) acc (fun j hj => hC j (by omega)) (by omega) (by omega)
    | true =>
      have hcap : ∀ z, capOk 16 ((acc.map ofDep) ++ [z]).length = true := by
        intro z
        simp only [capOk, Bool.and_eq_true, List.length_append, List.length_singleton, List.length_map]
        exact ⟨Nat.ble_eq_true_of_le (by omega), Nat.ble_eq_true_of_le (by omega)⟩
      simp only [cond_true, Option.bind_some, hcap, chk]
      have := rcrit_l1 (f := f) r (k + 1) (acc ++ [⟨(k : Int), f (k : Int)⟩]) (fun j hj => hC j (by omega)) (by simp; omega) (by omega)
      rw [List.map_append] at this
      exact this
theorem rcritical_val {n : Int} (h1 : 1 ≤ n) (h2 : n ≤ 8) {f : Int → Int} {C : List Int} (hC : ∀ j : Nat, j < 2 ^ n.toNat → C[j]? = some (f (j : Int))) :
    rf1_critical n C = some ((critGo f (allSets n.toNat) []).map ofDep) := by
  have hp := pow_le h1 h2
  have hn : decide (0 ≤ n) = true := decide_eq_true (by omega)
  have hr : lenOk (List.range (2 ^ n.toNat)) = true := lenOk_of (by simp; omega)
  unfold rf1_critical
  rw [iShl_one h1 h2, Int.toNat_natCast]
  simp only [hn, hr, chk, cond_true]
  have := rcrit_l1 (f := f) (C := C) (List.range (2 ^ n.toNat)) 0 [] (by simpa using hC) (Nat.le_refl _) (by simpa using hp)
  rw [List.length_range, ← List.range_eq_range'] at this
  exact this
theorem rCritical_l1 {n : Int} {l : List rf1Dep} (hl : lenOk l = true) : ∀ (r : List Nat) (k : Nat) (v : List Int), v = (List.range k).map (fun (x : Nat) => cl (l.map toDep) (x : Int)) → k + r.length ≤ 256 →
    rf1_Critical_l1 l (rf1_Critical_j5 n) r k v = rf1_Critical_j5 n ((List.range (k + r.length)).map fun (x : Nat) => cl (l.map toDep) (x : Int))
  | [], k, v, hv, hk => by rw [rf1_Critical_l1.eq_1, hv]; simp
  | x :: r, k, v, hv, hk => by
    simp only [List.length_cons] at hk
    rw [rf1_Critical_l1.eq_2, rClosure_val hl (show wf64 (k : Int) by unfold wf64; omega)]
    have hcap : ∀ z, capOk 8 (v ++ [z]).length = true := by
      intro z
      rw [hv]
      simp only [capOk, Bool.and_eq_true, List.length_append, List.length_singleton, List.length_map, List.length_range]
      exact ⟨Nat.ble_eq_true_of_le (by omega), Nat.ble_eq_true_of_le (by omega)⟩
    simp only [Option.bind_some, hcap, chk, cond_true]
    rw [rCritical_l1 hl r (k + 1) _ (by rw [hv, List.range_succ]; simp) (by omega)]
    congr 3
    simp only [List.length_cons]
    omega
theorem rCritical_val {n : Int} (h1 : 1 ≤ n) (h2 : n ≤ 8) {l : List rf1Dep} (hl : lenOk l = true) : rf1_Critical n l = some ((critGo (cl (l.map toDep)) (allSets n.toNat) []).map ofDep) := by
  have hp := pow_le h1 h2
  have hn : decide (0 ≤ n) = true := decide_eq_true (by omega)
  have hr : lenOk (List.range (2 ^ n.toNat)) = true := lenOk_of (by simp; omega)
  unfold rf1_Critical
  rw [iShl_one h1 h2, Int.toNat_natCast]
  simp only [hn, hr, chk, cond_true]
  rw [rCritical_l1 hl _ 0 [] rfl (by simpa using hp)]
  unfold rf1_Critical_j5
  rw [rcritical_val (f := cl (l.map toDep)) h1 h2 (fun j hj => by simp [hj])]
  rfl
theorem cl_closer {n : Int} {ds : List dpDep} (hl : lenOk ds = true) (ho : okArgs n ds = true) : Closer n (cl ds) := by
  obtain ⟨h1, h2, h3⟩ := ok_parts ho
  have hT : ∀ d, d ∈ ds → wf64 d.f_To := fun d hd => setWf h1 h2 (h3 d hd).2
  refine ⟨fun x hx => ?_, fun x hx => ?_, fun x y hx hy hb => ?_, fun x hx => ?_⟩
  · exact closure_isSet ho hT (setWf h1 h2 hx) hx (cl_spec hl (setWf h1 h2 hx))
  · exact (cl_spec hl (setWf h1 h2 hx)).sup
  · have cy := cl_spec hl (setWf h1 h2 hy)
    exact (cl_spec hl (setWf h1 h2 hx)).least _ cy.closed (hb.trans cy.sup)
  · have cx := cl_spec hl (setWf h1 h2 hx)
    have cc := cl_spec hl cx.wf
    exact Bits.antisymm cc.wf cx.wf (cc.least _ cx.closed (Bits.refl _)) cc.sup
theorem critical_few {n : Int} {ds : List dpDep} (hl : lenOk ds = true) (ho : okArgs n ds = true) : (critGo (cl ds) (popSorted n.toNat) []).length ≤ ds.length := by
  obtain ⟨h1, h2, h3⟩ := ok_parts ho
  exact found_least h1 h2 (cl_closer hl ho) (pop_good h1 h2) (critGo_spec (pop_good h1 h2)) h3 (fun x hx => cl_spec hl (setWf h1 h2 hx))
theorem Critical_val {n : Int} {ds : List dpDep} (hl : lenOk ds = true) : dp_Critical bigFuel n ds = some (bif okArgs n ds then (critGo (cl ds) (allSets n.toNat) [], 0) else ([], 2)) := by
  unfold dp_Critical dp_closure
  rw [valid_eq hl]
  cases ho : okArgs n ds with
  | false => rfl
  | true =>
    obtain ⟨h1, h2, h3⟩ := ok_parts ho
    have h12 : ds.length ≤ 12 := by
      simp only [okArgs, Bool.and_eq_true, decide_eq_true_eq] at ho
      exact ho.1.2
    simp only [Option.bind_some, Bool.not_true, cond_false, cond_true]
    rw [critical_val (f := cl ds) h1 h2 (fun x hx => cl_eq hl (setWf h1 h2 hx) (Nat.le_refl _)) (Nat.le_trans (critical_few hl ho) h12)]
    rfl
theorem critical_len {n : Int} {ds : List dpDep} (hl : lenOk ds = true) (ho : okArgs n ds = true) : (critGo (cl ds) (allSets n.toNat) []).length ≤ ds.length := by
  obtain ⟨h1, h2, h3⟩ := ok_parts ho
  exact found_least h1 h2 (cl_closer hl ho) (allSets_good h1 h2) (critGo_spec (allSets_good h1 h2)) h3 (fun x hx => cl_spec hl (setWf h1 h2 hx))
theorem equal_dep_l1 {a : List rf1Dep} (K : Option Bool) : ∀ (r pre : List rf1Dep), pre ++ r = a → sl_Equal_rf1Dep_l1 a K r pre.length = K
  | [], pre, _ => rfl
  | x :: r, pre, h => by
    rw [sl_Equal_rf1Dep_l1.eq_2]
    have hi : idx a (pre.length : Int) = some x := by
      unfold idx
      rw [if_pos (by omega), Int.toNat_natCast, ← h]
      simp
    simp only [hi, Option.bind_some, beq_self_eq_true, Bool.and_self, Bool.not_true, cond_false]
    have := equal_dep_l1 K r (pre ++ [x]) (by simpa using h)
    simpa using this
theorem equal_dep_refl {a : List rf1Dep} (h : lenOk a = true) : sl_Equal_rf1Dep a a = some true := by
  unfold sl_Equal_rf1Dep
  simp only [bne_self_eq_false, cond_false, h, chk, cond_true]
  exact equal_dep_l1 _ a [] rfl
theorem keq_l1 {a : List Int} (K : Option Bool) : ∀ (r pre : List Int), pre ++ r = a → sl_Equal_int_l1 a K r pre.length = K
  | [], pre, _ => rfl
  | x :: r, pre, h => by
    rw [sl_Equal_int_l1.eq_2]
    have hi : idx a (pre.length : Int) = some x := by
      unfold idx
      rw [if_pos (by omega), Int.toNat_natCast, ← h]
      simp
    simp only [hi, Option.bind_some, bne_self_eq_false, cond_false]
    have := keq_l1 K r (pre ++ [x]) (by simpa using h)
    simpa using this
theorem keq_refl {a : List Int} (h : lenOk a = true) : sl_Equal_int a a = some true := by
  unfold sl_Equal_int
  simp only [bne_self_eq_false, cond_false, h, chk, cond_true]
  exact keq_l1 _ a [] rfl
def kbit (x : Int) (k : Nat) : Bool := (V x).getLsbD k
theorem kbit_eq {x : Int} (h0 : 0 ≤ x) (h1 : x < 256) {k : Nat} (hk : k < 8) : (iAnd .i64 (iShr .i64 x (k : Int)) 1 == 1) = kbit x k := by
  obtain ⟨m, rfl⟩ : ∃ m : Nat, x = (m : Int) := ⟨x.toNat, by omega⟩
  have hm : m < 256 := by omega
  have : ∀ m : Fin 256, ∀ k : Fin 8, (iAnd .i64 (iShr .i64 ((m.1 : Nat) : Int) ((k.1 : Nat) : Int)) 1 == 1) = kbit ((m.1 : Nat) : Int) k.1 := by decide +kernel
  exact this ⟨m, hm⟩ ⟨k, hk⟩
def less (x : Int) (k : Nat) : Int := iAndNot .i64 x (iShl .i64 1 (k : Int))
theorem less_bits {x : Int} {k : Nat} (hk : k < 8) {i : Nat} : (V (less x k)).getLsbD i = ((V x).getLsbD i && !(decide (i = k))) := by
  have hs : ∀ k : Fin 8, V (iShl .i64 1 ((k.1 : Nat) : Int)) = BitVec.twoPow 64 k.1 := by decide +kernel
  unfold less
  rw [V_andNot, hs ⟨k, hk⟩]
  simp only [BitVec.getLsbD_and, BitVec.getLsbD_not, BitVec.getLsbD_twoPow]
  by_cases h : i < 64
  · by_cases hik : k = i
    · subst hik; simp [h]
    · have : ¬ i = k := fun e => hik e.symm
      simp [h, hik, this]
  · have : (V x).getLsbD i = false := BitVec.getLsbD_of_ge _ _ (by omega)
    simp [this]
theorem less_sub {x : Int} {k : Nat} (hk : k < 8) : Bits (less x k) x := by
  intro i hi
  rw [less_bits hk] at hi
  simp at hi
  exact hi.1
theorem rkeys_l2 {n : Int} (h1 : 1 ≤ n) (h2 : n ≤ 8) {l : List rf1Dep} (hl : lenOk l = true) {x : Nat} (hx : x < 256) (K : Bool → Option (List Int)) : ∀ (r : List Nat) (k : Nat) (v : Bool), k + r.length = n.toNat →
    rf1_Keys_l2 n x l K r k v = K (v && (List.range' k r.length).all fun a => !(kbit (x : Int) a && cl (l.map toDep) (less (x : Int) a) == full n))
  | [], k, v, hk => by simp [rf1_Keys_l2.eq_1]
  | y :: r, k, v, hk => by
    simp only [List.length_cons] at hk
    have hn : decide (0 ≤ n) = true := decide_eq_true (by omega)
    have e1 : decide (0 ≤ (k : Int)) = true := decide_eq_true (by omega)
    rw [rf1_Keys_l2.eq_2, kbit_eq (by omega) (by omega) (by omega)]
    have hw : wf64 (iAndNot .i64 (x : Int) (iShl .i64 1 (k : Int))) := wf_andNot _ _
    rw [rClosure_val hl hw, full_eq h1 h2]
    have i1 := fun v => rkeys_l2 h1 h2 hl hx K r (k + 1) v (by omega)
    unfold rf1_Keys_j19 rf1_Keys_j17
    rw [List.length_cons, List.range'_succ, List.all_cons]
    simp only [e1, hn, chk, cond_true, Option.bind_some]
    change (bif kbit (x : Int) k then (bif (cl (l.map toDep) (less (x : Int) k) == full n) then rf1_Keys_l2 n x l K r (k + 1) false else rf1_Keys_l2 n x l K r (k + 1) v) else (bif false then rf1_Keys_l2 n x l K r (k + 1) false else rf1_Keys_l2 n x l K r (k + 1) v)) = _
    rw [i1 false, i1 v]
    cases kbit (x : Int) k <;> cases (cl (l.map toDep) (less (x : Int) k) == full n) <;> simp
def rkey (n : Int) (ds : List dpDep) (x : Int) : Bool := (cl ds x == full n) && (List.range' 0 n.toNat).all fun a => !(kbit x a && cl ds (less x a) == full n)
theorem rkeys_l1 {n : Int} (h1 : 1 ≤ n) (h2 : n ≤ 8) {l : List rf1Dep} (hl : lenOk l = true) : ∀ (r : List Nat) (k : Nat) (v : List Int), v.length ≤ k → k + r.length ≤ 256 →
    rf1_Keys_l1 n l rf1_Keys_j5 r k v = some (v ++ ((List.range' k r.length).map fun (x : Nat) => (x : Int)).filter (rkey n (l.map toDep)))
  | [], k, v, hv, hk => by rw [rf1_Keys_l1.eq_1]; simp [rf1_Keys_j5]
  | y :: r, k, v, hv, hk => by
    simp only [List.length_cons] at hk
    have hn : decide (0 ≤ n) = true := decide_eq_true (by omega)
    have hr : lenOk (List.range n.toNat) = true := lenOk_of (by simp; omega)
    rw [rf1_Keys_l1.eq_2, rClosure_val hl (show wf64 (k : Int) by unfold wf64; omega)]
    simp only [Option.bind_some, hn, hr, chk, cond_true]
    rw [full_eq h1 h2, rkeys_l2 h1 h2 hl (by omega) _ _ _ _ (by simp)]
    unfold rf1_Keys_j14 rf1_Keys_j9
    rw [List.length_range, List.length_cons, List.range'_succ, List.map_cons, List.filter_cons]
    have e : ((cl (l.map toDep) (k : Int) == full n) && (List.range' 0 n.toNat).all fun a => !(kbit (k : Int) a && cl (l.map toDep) (less (k : Int) a) == full n)) = rkey n (l.map toDep) (k : Int) := rfl
    rw [e]
    cases rkey n (l.map toDep) (k : Int) with
    | false =>
      simp only [cond_false, Bool.false_eq_true, if_false]
      exact rkeys_l1 h1 h2 hl r (k + 1) v (by omega) (by omega)
    | true =>
      have hcap : ∀ z, capOk 8 (v ++ [z]).length = true := by
        intro z
        simp only [capOk, Bool.and_eq_true, List.length_append, List.length_singleton]
        exact ⟨Nat.ble_eq_true_of_le (by omega), Nat.ble_eq_true_of_le (by omega)⟩
      simp only [cond_true, hcap, chk, if_true]
      rw [rkeys_l1 h1 h2 hl r (k + 1) _ (by simp; omega) (by omega)]
      simp
theorem int_rise_eq : ∀ {a b : List Int}, a.Pairwise (· < ·) → b.Pairwise (· < ·) → (∀ d, d ∈ a ↔ d ∈ b) → a = b
  | [], [], _, _, _ => rfl
  | [], y :: b, _, _, h => absurd ((h y).2 (by simp)) List.not_mem_nil
  | x :: a, [], _, _, h => absurd ((h x).1 (by simp)) List.not_mem_nil
  | x :: a, y :: b, ha, hb, h => by
    rw [List.pairwise_cons] at ha hb
    have hxy : x = y := by
      rcases List.mem_cons.1 ((h x).1 (by simp)) with e | hx
      · exact e
      · rcases List.mem_cons.1 ((h y).2 (by simp)) with e | hy
        · exact e.symm
        · have := ha.1 y hy
          have := hb.1 x hx
          omega
    subst hxy
    congr 1
    refine int_rise_eq ha.2 hb.2 fun d => ?_
    constructor
    · intro hd
      rcases List.mem_cons.1 ((h d).1 (by simp [hd])) with e | hd'
      · subst e; exact absurd (ha.1 d hd) (by omega)
      · exact hd'
    · intro hd
      rcases List.mem_cons.1 ((h d).2 (by simp [hd])) with e | hd'
      · subst e; exact absurd (hb.1 d hd) (by omega)
      · exact hd'
theorem pair_mem {R : Int → Int → Prop} : ∀ {l : List Int}, l.Pairwise R → ∀ x y, x ∈ l → y ∈ l → x = y ∨ R x y ∨ R y x
  | [], _, x, y, h, _ => absurd h List.not_mem_nil
  | z :: l, hp, x, y, hx, hy => by
    rw [List.pairwise_cons] at hp
    rcases List.mem_cons.1 hx with ex | kx <;> rcases List.mem_cons.1 hy with ey | ky
    · exact .inl (ex.trans ey.symm)
    · exact .inr (.inl (ex ▸ hp.1 y ky))
    · exact .inr (.inr (ey ▸ hp.1 x kx))
    · exact pair_mem hp.2 x y kx ky
theorem keys_same {n : Int} {ds : List dpDep} (hl : lenOk ds = true) (ho : okArgs n ds = true) : keysOf n ds = (allSets n.toNat).filter (rkey n ds) := by
  obtain ⟨h1, h2, h3⟩ := ok_parts ho
  have hp := pow_le h1 h2
  have kt := keysOf_to n ds
  have cc := cl_closer hl ho
  refine int_rise_eq kt.rise ((allSets_rise (n := n.toNat)).filter _) fun x => ?_
  rw [List.mem_filter, allSets_mem]
  have hfull : ∀ y, isSet n y = true → Bits (full n) (cl ds y) → cl ds y = full n := fun y hy hb => by
    have hs := cc.set y hy
    have hw := setWf h1 h2 hs
    have hwf : wf64 (full n) := by unfold full wf64; omega
    exact Bits.antisymm hw hwf ((isSet_iff h1 h2 hw).1 hs) hb
  have pairs : ∀ x y, x ∈ keysOf n ds → y ∈ keysOf n ds → Bits y x → y = x := by
    intro x y hx hy hb
    have rx := kt.below x hx
    have ry := kt.below y hy
    have hle := le_of_bits ry.1 (by omega) rx.1 (by omega) hb
    rcases pair_mem (kt.rise.and kt.apart) y x hy hx with e | ⟨_, e⟩ | ⟨e, _⟩
    · exact e
    · rw [has_iff.2 hb] at e; cases e
    · omega
  constructor
  · intro hx
    obtain ⟨a, b, c⟩ := kt.below x hx
    refine ⟨⟨a, b⟩, ?_⟩
    have hxs : isSet n x = true := (isSet_range h1 h2).2 ⟨a, b⟩
    unfold rkey
    rw [c]
    simp only [beq_self_eq_true, Bool.true_and]
    rw [List.all_eq_true]
    intro k hk
    have hk8 : k < n.toNat := by
      have := List.mem_range'_1.1 hk
      omega
    cases hb : kbit x k with
    | false => rfl
    | true =>
      cases hc : (cl ds (less x k) == full n) with
      | false => rfl
      | true =>
        exfalso
        have hwl : wf64 (less x k) := wf_andNot _ _
        have hls : isSet n (less x k) = true := (isSet_iff h1 h2 hwl).2 ((less_sub (by omega)).trans ((isSet_iff h1 h2 (setWf h1 h2 hxs)).1 hxs))
        have hlr := (isSet_range h1 h2).1 hls
        obtain ⟨m, hm⟩ : ∃ m : Nat, less x k = (m : Int) := ⟨(less x k).toNat, by omega⟩
        obtain ⟨y, hy, hyb⟩ := kt.all m (by omega) (by rw [← hm]; exact beq_iff_eq.1 hc)
        rw [← hm] at hyb
        have hyl := has_iff.1 hyb
        have e := pairs x y hx hy (hyl.trans (less_sub (by omega)))
        subst e
        have := hyl k hb
        rw [less_bits (by omega)] at this
        simp at this
  · rintro ⟨⟨a, b⟩, hk⟩
    unfold rkey at hk
    rw [Bool.and_eq_true, List.all_eq_true] at hk
    obtain ⟨c, hk⟩ := hk
    have c := beq_iff_eq.1 c
    have hxs : isSet n x = true := (isSet_range h1 h2).2 ⟨a, b⟩
    obtain ⟨m, hm⟩ : ∃ m : Nat, x = (m : Int) := ⟨x.toNat, by omega⟩
    obtain ⟨y, hy, hyb⟩ := kt.all m (by omega) (by rw [← hm]; exact c)
    rw [← hm] at hyb
    have hyx := has_iff.1 hyb
    have ry := kt.below y hy
    have hys : isSet n y = true := (isSet_range h1 h2).2 ⟨ry.1, ry.2.1⟩
    have hxy : Bits x y := by
      intro i hi
      cases hyi : (V y).getLsbD i with
      | true => rfl
      | false =>
        exfalso
        have hin : i < n.toNat := by
          have := (isSet_iff h1 h2 (setWf h1 h2 hxs)).1 hxs i hi
          unfold full at this
          have hV : V ((2 ^ n.toNat - 1 : Nat) : Int) = BitVec.ofNat 64 (2 ^ n.toNat - 1) := by unfold V; exact BitVec.ofInt_natCast _ _
          rw [hV, BitVec.getLsbD_ofNat] at this
          simp only [Bool.and_eq_true, Nat.testBit_two_pow_sub_one, decide_eq_true_eq] at this
          exact this.2
        have h8 : i < 8 := by omega
        have := hk i (List.mem_range'_1.2 ⟨by omega, by omega⟩)
        have hb : kbit x i = true := hi
        rw [hb] at this
        simp only [Bool.true_and, Bool.not_eq_true', beq_eq_false_iff_ne, ne_eq] at this
        apply this
        have hwl : wf64 (less x i) := wf_andNot _ _
        have hls : isSet n (less x i) = true := (isSet_iff h1 h2 hwl).2 ((less_sub h8).trans ((isSet_iff h1 h2 (setWf h1 h2 hxs)).1 hxs))
        have hyl : Bits y (less x i) := by
          intro j hj
          rw [less_bits h8, hyx j hj]
          by_cases e : j = i
          · subst e; rw [hyi] at hj; cases hj
          · simp [e]
        refine hfull _ hls ?_
        rw [← ry.2.2]
        exact cc.mono _ _ hys hls hyl
    have e : y = x := Bits.antisymm (setWf h1 h2 hys) (setWf h1 h2 hxs) hyx hxy
    exact e ▸ hy
theorem rKeys_val {n : Int} (h1 : 1 ≤ n) (h2 : n ≤ 8) {l : List rf1Dep} (hl : lenOk l = true) : rf1_Keys n l = some ((allSets n.toNat).filter (rkey n (l.map toDep))) := by
  have hp := pow_le h1 h2
  have hn : decide (0 ≤ n) = true := decide_eq_true (by omega)
  have hr : lenOk (List.range (2 ^ n.toNat)) = true := lenOk_of (by simp; omega)
  unfold rf1_Keys
  rw [iShl_one h1 h2, Int.toNat_natCast]
  simp only [hn, hr, chk, cond_true]
  rw [rkeys_l1 h1 h2 hl _ 0 [] (Nat.le_refl _) (by simpa using hp)]
  rw [List.length_range, ← List.range_eq_range']
  rfl
theorem dependKeys_true {n : Int} {l : List rf1Dep} (hl : lenOk l = true) : lw1_DependKeys bigFuel n l = some true := by
  have hf : bigFuel ≤ bigFuel := Nat.le_refl _
  obtain ⟨ds, hds⟩ : ∃ ds, (l.take 14).map toDep = ds := ⟨_, rfl⟩
  have hlen : lenOk ds = true := hds ▸ lenOk_take
  unfold lw1_DependKeys
  rw [deps_eq hl, hds]
  simp only [Option.bind_some]
  rw [Keys_val hlen hf, Critical_val hlen, rValid_val hl, hds]
  cases ho : okArgs n ds with
  | false => simp only [cond_false, Option.bind_some, Bool.not_false, cond_true, awake_eq hf, lw1_DependKeys_j13]; rfl
  | true =>
    obtain ⟨h1, h2, _⟩ := ok_parts ho
    have hp := pow_le h1 h2
    have hl12 : l.length ≤ 12 := by
      simp only [okArgs, Bool.and_eq_true, decide_eq_true_eq] at ho
      have := ho.1.2
      rw [← hds] at this
      simp at this
      omega
    have hrl : l.map toDep = ds := by rw [← hds, List.take_of_length_le (by omega)]
    have hd12 : ds.length ≤ 12 := by rw [← hrl]; simpa using hl12
    have hcl := critical_len hlen ho
    simp only [cond_true, Option.bind_some, Bool.not_true, cond_false]
    rw [rKeys_val h1 h2 hl, hrl, ← keys_same hlen ho]
    have hkl : (keysOf n ds).length ≤ 256 := by
      rw [keys_same hlen ho]
      refine Nat.le_trans (List.length_filter_le _ _) ?_
      simpa [allSets] using hp
    simp only [Option.bind_some]
    rw [keq_refl (lenOk_of (by omega)), own_val (by omega), rCritical_val h1 h2 hl, hrl]
    simp only [Option.bind_some, cond_true]
    rw [equal_dep_refl (lenOk_of (by simp; omega))]
    simp [awake_eq hf, lw1_DependKeys_j16]
end Go.AM
