/-
  PLAIN FACTS AND THE LAW (gathered by shake.py). No statement of the seat is proved here.
-/
import Derived.Test.YtombfedoinhafaaAWord
import Derived.Test.YtombfedoinhafaaK159
set_option linter.unusedVariables false
set_option linter.unusedSimpArgs false
set_option maxRecDepth 100000
namespace Go.AM
open Go.Proofs
theorem indexFunc_dep (g : dpDep → Option Bool) (p : dpDep → Bool) (a : List dpDep) (hl : lenOk a = true) (hg : ∀ x, x ∈ a → g x = some (p x)) :
    ∃ r : Int, sl_IndexFunc_dpDep a g = some r ∧ (decide (r ≥ 0)) = a.any p := by
  unfold sl_IndexFunc_dpDep
  rw [hl]
  simp only [chk, cond_true]
  have : ∀ (l : List dpDep) (k : Nat), (∀ x, x ∈ l → g x = some (p x)) → ∃ r : Int, sl_IndexFunc_dpDep_l1 g (sl_IndexFunc_dpDep_j4) l k = some r ∧ (decide (r ≥ 0)) = l.any p := by
    intro l
    induction l with
    | nil => intro k _; exact ⟨-1, rfl, rfl⟩
    | cons x l ih =>
      intro k h
      rw [sl_IndexFunc_dpDep_l1.eq_2, h x (by simp)]
      simp only [Option.bind_some, List.any_cons]
      cases p x with
      | true => exact ⟨k, rfl, by simp⟩
      | false => simpa using ih (k + 1) (fun x hx => h x (by simp [hx]))
  exact this a 0 hg
theorem containsFunc_dep (g : dpDep → Option Bool) (p : dpDep → Bool) (a : List dpDep) (hl : lenOk a = true) (hg : ∀ x, x ∈ a → g x = some (p x)) :
    sl_ContainsFunc_dpDep a g = some (a.any p) := by
  obtain ⟨r, h1, h2⟩ := indexFunc_dep g p a hl hg
  unfold sl_ContainsFunc_dpDep
  rw [h1, ← h2]; rfl
theorem indexFunc_int (g : Int → Option Bool) (p : Int → Bool) (a : List Int) (hl : lenOk a = true) (hg : ∀ x, x ∈ a → g x = some (p x)) :
    ∃ r : Int, sl_IndexFunc_int a g = some r ∧ (decide (r ≥ 0)) = a.any p := by
  unfold sl_IndexFunc_int
  rw [hl]
  simp only [chk, cond_true]
  have : ∀ (l : List Int) (k : Nat), (∀ x, x ∈ l → g x = some (p x)) → ∃ r : Int, sl_IndexFunc_int_l1 g (sl_IndexFunc_int_j4) l k = some r ∧ (decide (r ≥ 0)) = l.any p := by
    intro l
    induction l with
    | nil => intro k _; exact ⟨-1, rfl, rfl⟩
    | cons x l ih =>
      intro k h
      rw [sl_IndexFunc_int_l1.eq_2, h x (by simp)]
      simp only [Option.bind_some, List.any_cons]
      cases p x with
      | true => exact ⟨k, rfl, by simp⟩
      | false => simpa using ih (k + 1) (fun x hx => h x (by simp [hx]))
  exact this a 0 hg
theorem containsFunc_int (g : Int → Option Bool) (p : Int → Bool) (a : List Int) (hl : lenOk a = true) (hg : ∀ x, x ∈ a → g x = some (p x)) :
    sl_ContainsFunc_int a g = some (a.any p) := by
  obtain ⟨r, h1, h2⟩ := indexFunc_int g p a hl hg
  unfold sl_ContainsFunc_int
  rw [h1, ← h2]; rfl
def isSet (n x : Int) : Bool := decide (0 ≤ x) && decide (x < iShl .i64 1 n)
theorem lenOk_of {α : Type} {l : List α} (h : l.length ≤ 9223372036854775807) : lenOk l = true := by
  exact Nat.ble_eq_true_of_le h
theorem sets_eq {n : Int} {l : List Int} (hn : 0 ≤ n) (hl : lenOk l = true) : dp_sets n l = some (l.all (isSet n)) := by
  unfold dp_sets
  rw [containsFunc_int _ (fun x => !isSet n x) l hl]
  · simp only [Option.bind_some]
    congr 1
    induction l with
    | nil => rfl
    | cons x l ih => 
      have hl' : lenOk l = true := lenOk_of (by have := Nat.le_of_ble_eq_true hl; simp at this; omega)
      simp only [List.any_cons, List.all_cons, Bool.not_or, Bool.not_not, ih hl']
  · intro x _
    unfold dp_sets_1 dp_sets_1_j4 isSet
    have : decide (0 ≤ n) = true := by simpa using hn
    simp only [this, chk, cond_true]
    by_cases h : x < 0
    · have h0 : ¬ 0 ≤ x := by omega
      simp [h, h0]
    · have h0 : 0 ≤ x := by omega
      simp [h, h0]
      by_cases h2 : iShl .i64 1 n ≤ x
      · have : ¬ x < iShl .i64 1 n := by omega
        simp [h2, this]
      · have : x < iShl .i64 1 n := by omega
        simp [h2, this]
def okArgs (n : Int) (ds : List dpDep) : Bool := decide (1 ≤ n) && decide (n ≤ 8) && decide (ds.length ≤ 12) && ds.all fun d => isSet n d.f_From && isSet n d.f_To
theorem valid_eq {n : Int} {ds : List dpDep} (hl : lenOk ds = true) : dp_valid n ds = some (okArgs n ds) := by
  unfold dp_valid dp_valid_j5 okArgs
  by_cases h1 : n < 1
  · have : ¬ 1 ≤ n := by omega
    simp [h1, this]
  · by_cases h2 : n > 8
    · have : ¬ n ≤ 8 := by omega
      simp [h1, h2, this]
    · have h3 : 1 ≤ n := by omega
      have h4 : n ≤ 8 := by omega
      by_cases h5 : ds.length ≤ 12
      · have h6 : ¬ (ds.length : Int) > 12 := by omega
        simp only [h1, h2, h3, h4, h5, h6, decide_true, decide_false, cond_false, cond_true, Bool.true_and]
        rw [containsFunc_dep _ (fun d => !(isSet n d.f_From && isSet n d.f_To)) ds hl]
        · simp only [Option.bind_some]
          congr 1
          clear hl h5 h6
          induction ds with
          | nil => rfl
          | cons x l ih => simp only [List.any_cons, List.all_cons, Bool.not_or, Bool.not_not, ih]
        · intro d _
          unfold dp_valid_1
          rw [sets_eq (by omega) (by rfl)]
          simp
      · have h6 : (ds.length : Int) > 12 := by omega
        simp [h1, h2, h3, h4, h5, h6]
def Shut (ds : List dpDep) (c : Int) : Prop := ∀ d, d ∈ ds → Bits d.f_From c → Bits d.f_To c
def pass : List dpDep → Int → Bool → Int × Bool
  | [], v, ch => (v, ch)
  | d :: r, v, ch => bif (iAndNot .i64 d.f_From v == 0) && (iAndNot .i64 d.f_To v != 0) then pass r (iOr .i64 v d.f_To) true else pass r v ch
theorem l2_eq (N : Int → Bool → Option Int) : ∀ (l : List dpDep) (k : Nat) (v : Int) (ch : Bool), dp_closure_1_l2 N l k v ch = N (pass l v ch).1 (pass l v ch).2
  | [], k, v, ch => rfl
  | d :: l, k, v, ch => by
    rw [dp_closure_1_l2.eq_2]
    unfold pass dp_closure_1_j16 dp_closure_1_j14
    cases h1 : (iAndNot .i64 d.f_From v == 0)
    · simp only [cond_false, Bool.false_and]; exact l2_eq N l _ _ _
    · cases h2 : (iAndNot .i64 d.f_To v != 0)
      · simp only [cond_true, cond_false, Bool.true_and]; exact l2_eq N l _ _ _
      · simp only [cond_true, Bool.true_and]; exact l2_eq N l _ _ _
theorem pass_spec : ∀ (l : List dpDep) (v : Int) (ch : Bool), wf64 v →
    wf64 (pass l v ch).1 ∧ Bits v (pass l v ch).1 ∧ (∀ c, Shut l c → Bits v c → Bits (pass l v ch).1 c) ∧
    ((pass l v ch).2 = false → ch = false ∧ (pass l v ch).1 = v ∧ Shut l v) ∧ ((pass l v ch).2 = true → ch = true ∨ (pass l v ch).1 ≠ v)
  | [], v, ch, hv => ⟨hv, Bits.refl v, fun c _ h => h, fun h => ⟨h, rfl, fun d hd => by cases hd⟩, fun h => .inl h⟩
  | d :: l, v, ch, hv => by
    unfold pass
    cases hc : (iAndNot .i64 d.f_From v == 0) && (iAndNot .i64 d.f_To v != 0) with
    | false =>
      simp only [cond_false]
      obtain ⟨h1, h2, h3, h4, h5⟩ := pass_spec l v ch hv
      refine ⟨h1, h2, fun c hcl => h3 c (fun e he => hcl e (by simp [he])), fun h => ?_, h5⟩
      obtain ⟨k1, k2, k3⟩ := h4 h
      refine ⟨k1, k2, fun e he hs => ?_⟩
      rcases List.mem_cons.1 he with rfl | he
      · rw [andNot_zero.2 hs] at hc
        simp only [Bool.true_and] at hc
        by_cases hh : Bits e.f_To v
        · exact hh
        · rw [andNot_ne.2 hh] at hc; cases hc
      · exact k3 e he hs
    | true =>
      simp only [cond_true]
      simp only [Bool.and_eq_true] at hc
      have hf := andNot_zero.1 hc.1
      have ht := andNot_ne.1 hc.2
      obtain ⟨h1, h2, h3, h4, h5⟩ := pass_spec l (iOr .i64 v d.f_To) true (wf_or _ _)
      refine ⟨h1, (sub_or_left _ _).trans h2, fun c hcl hs => h3 c (fun e he => hcl e (by simp [he])) (or_sub hs (hcl d (by simp) (hf.trans hs))), fun h => ?_, fun _ => .inr fun e => ?_⟩
      · exact absurd (h4 h).1 (by decide)
      · apply ht
        rw [← e]
        exact (sub_or_right v d.f_To).trans h2
structure IsClosure (ds : List dpDep) (x r : Int) : Prop where
  wf : wf64 r
  sup : Bits x r
  closed : Shut ds r
  least : ∀ c, Shut ds c → Bits x c → Bits r c
theorem IsClosure.unique {ds : List dpDep} {x r s : Int} (h : IsClosure ds x r) (k : IsClosure ds x s) : r = s :=
  Bits.antisymm h.wf k.wf (h.least s k.closed k.sup) (k.least r h.closed h.sup)
theorem l1_spec {ds : List dpDep} (hl : lenOk ds = true) (x : Int) : ∀ (m : Nat) (v : Int), wf64 v → Bits x v → (∀ c, Shut ds c → Bits x c → Bits v c) → 18446744073709551616 - (V v).toNat < m →
    ∃ r, dp_closure_1_l1 ds (dp_closure_1_j4) m v true = some r ∧ IsClosure ds x r
  | 0, v, _, _, _, h => by omega
  | m + 1, v, hv, hx, hleast, hm => by
    rw [dp_closure_1_l1.eq_2]
    simp only [cond_true, hl, chk]
    rw [l2_eq]
    obtain ⟨h1, h2, h3, h4, h5⟩ := pass_spec ds v false hv
    cases hp : (pass ds v false).2 with
    | false =>
      obtain ⟨_, k2, k3⟩ := h4 hp
      rw [k2]
      cases m with
      | zero =>
        have := (V v).isLt
        omega
      | succ m =>
        rw [dp_closure_1_l1.eq_2]
        exact ⟨v, rfl, hv, hx, k3, hleast⟩
    | true =>
      rcases h5 hp with h | h
      · cases h
      · have := toNat_lt_of_sub hv h1 h2 (Ne.symm h)
        have hlt := (V (pass ds v false).1).isLt
        exact l1_spec hl x m _ h1 (hx.trans h2) (fun c hc hs => h3 c hc (hleast c hc hs)) (by omega)
def bigFuel : Nat := 36893488147419103232
theorem closure_spec {ds : List dpDep} (hl : lenOk ds = true) {x : Int} (hx : wf64 x) {fuel : Nat} (hf : bigFuel ≤ fuel) : ∃ r, dp_closure_1 fuel x ds = some r ∧ IsClosure ds x r := by
  unfold dp_closure_1
  exact l1_spec hl x fuel x hx (Bits.refl x) (fun c _ h => h) (by unfold bigFuel at hf; omega)
theorem Closure_eq {n : Int} {ds : List dpDep} {x : Int} (hl : lenOk ds = true) (hx : wf64 x) {fuel : Nat} (hf : bigFuel ≤ fuel) :
    ((okArgs n ds && isSet n x) = false ∧ dp_Closure fuel n ds x = some (0, 2)) ∨ (okArgs n ds = true ∧ isSet n x = true ∧ ∃ r, IsClosure ds x r ∧ dp_Closure fuel n ds x = some (r, 0)) := by
  obtain ⟨r, h1, h2⟩ := closure_spec hl hx hf
  unfold dp_Closure dp_Closure_j6 dp_closure
  rw [valid_eq hl]
  cases ho : okArgs n ds with
  | false => left; simp
  | true =>
    have hn : 0 ≤ n := by
      simp only [okArgs, Bool.and_eq_true, decide_eq_true_eq] at ho; omega
    simp only [Option.bind_some, Bool.not_true, cond_false]
    rw [sets_eq hn (by rfl)]
    cases hs : isSet n x with
    | false => left; simp [hs]
    | true =>
      right
      refine ⟨by first | rfl | trivial, by first | rfl | trivial, r, h2, ?_⟩
      simp [hs, h1]
theorem iShl_one {n : Int} (h1 : 1 ≤ n) (h2 : n ≤ 8) : iShl .i64 1 n = ((2 ^ n.toNat : Nat) : Int) := by
  obtain ⟨m, rfl⟩ := Int.eq_ofNat_of_zero_le (show 0 ≤ n by omega)
  have h3 : 1 ≤ m := by omega
  have h4 : m ≤ 8 := by omega
  have : m = 1 ∨ m = 2 ∨ m = 3 ∨ m = 4 ∨ m = 5 ∨ m = 6 ∨ m = 7 ∨ m = 8 := by omega
  rcases this with rfl | rfl | rfl | rfl | rfl | rfl | rfl | rfl <;> decide +kernel
def full (n : Int) : Int := ((2 ^ n.toNat - 1 : Nat) : Int)
theorem isSet_iff {n x : Int} (h1 : 1 ≤ n) (h2 : n ≤ 8) (hx : wf64 x) : isSet n x = true ↔ Bits x (full n) := by
  unfold full
  rw [sub_full (by omega) hx]
  unfold isSet
  rw [iShl_one h1 h2]
  simp
theorem ok_parts {n : Int} {ds : List dpDep} (h : okArgs n ds = true) : 1 ≤ n ∧ n ≤ 8 ∧ ∀ d, d ∈ ds → isSet n d.f_From = true ∧ isSet n d.f_To = true := by
  simp only [okArgs, Bool.and_eq_true, decide_eq_true_eq, List.all_eq_true] at h
  exact ⟨h.1.1.1, h.1.1.2, fun d hd => h.2 d hd⟩
theorem closure_isSet {n x r : Int} {ds : List dpDep} (ho : okArgs n ds = true) (hwf : ∀ d, d ∈ ds → wf64 d.f_To) (hx : wf64 x) (hs : isSet n x = true) (h : IsClosure ds x r) : isSet n r = true := by
  obtain ⟨h1, h2, h3⟩ := ok_parts ho
  rw [isSet_iff h1 h2 h.wf]
  exact h.least _ (fun d hd _ => (isSet_iff h1 h2 (hwf d hd)).1 (h3 d hd).2) ((isSet_iff h1 h2 hx).1 hs)
def toDep (d : rf1Dep) : dpDep := ⟨d.f_From, d.f_To⟩
theorem deps_eq {l : List rf1Dep} (hl : lenOk l = true) : lw1_deps l = some ((l.take 14).map toDep) := by
  unfold lw1_deps
  rw [hl]
  simp only [chk, cond_true]
  have : ∀ (r : List rf1Dep) (k : Nat) (acc : List dpDep), acc.length = k → k ≤ 14 → lw1_deps_l1 lw1_deps_j4 r k acc = some (acc ++ (r.take (14 - k)).map toDep) := by
    intro r
    induction r with
    | nil => intro k acc _ _; rw [lw1_deps_l1.eq_1]; simp [lw1_deps_j4]
    | cons x r ih =>
      intro k acc ha hk
      rw [lw1_deps_l1.eq_2]
      by_cases h : (k : Int) > 13
      · have : k = 14 := by omega
        subst this
        simp [lw1_deps_j4]
      · have hk2 : k + 1 ≤ 14 := by omega
        have hcap : capOk 16 (acc ++ [(dpDep.mk x.f_From x.f_To)]).length = true := by
          rw [List.length_append, ha]
          simp only [capOk, Bool.and_eq_true]
          exact ⟨Nat.ble_eq_true_of_le (by simp; omega), Nat.ble_eq_true_of_le (by simp; omega)⟩
        simp only [h, decide_false, cond_false, hcap, chk, cond_true]
        rw [ih (k + 1) _ (by simp [ha]) hk2]
        have : 14 - k = (14 - (k + 1)) + 1 := by omega
        rw [this, List.take_succ_cons]
        simp [toDep]
  simpa using this l 0 [] rfl (by omega)
theorem awake_eq {fuel : Nat} (hf : bigFuel ≤ fuel) : lw1_awake fuel = some true := by
  unfold lw1_awake lw1_awake_j4
  have hc := Closure_eq (n := 3) (ds := [(dpDep.mk 1 2), (dpDep.mk 2 4)]) (x := 1) (by rfl) (by unfold wf64; omega) hf
  have ho : okArgs 3 [(dpDep.mk 1 2), (dpDep.mk 2 4)] = true := by decide +kernel
  have hs : isSet 3 1 = true := by decide +kernel
  rcases hc with ⟨h, _⟩ | ⟨_, _, r, h1, h2⟩
  · rw [ho, hs] at h; cases h
  · have : r = 7 := h1.unique (s := 7) ⟨by unfold wf64; omega, by rw [← sub_iff]; decide +kernel, fun d hd _ => by
        simp at hd; rcases hd with rfl | rfl <;> (rw [← sub_iff]; decide +kernel), fun c hc h1 => by
        have k1 := hc (dpDep.mk 1 2) (by simp) h1
        have k2 := hc (dpDep.mk 2 4) (by simp) k1
        have : (7 : Int) = iOr .i64 (iOr .i64 1 2) 4 := by decide +kernel
        rw [this]
        exact or_sub (or_sub h1 k1) k2⟩
    subst this
    rw [h2]; rfl
theorem lenOk_take {l : List rf1Dep} : lenOk ((l.take 14).map toDep) = true := lenOk_of (by simp; omega)
def has (y r : Int) : Bool := iAndNot .i64 y r == 0
theorem has_iff {y r : Int} : has y r = true ↔ Bits y r := andNot_zero
def cl (ds : List dpDep) (x : Int) : Int := (dp_closure_1 bigFuel x ds).getD 0
theorem cl_spec {ds : List dpDep} (hl : lenOk ds = true) {x : Int} (hx : wf64 x) : IsClosure ds x (cl ds x) := by
  obtain ⟨r, h1, h2⟩ := closure_spec hl hx (Nat.le_refl bigFuel)
  unfold cl; rw [h1]; exact h2
theorem cl_eq {ds : List dpDep} (hl : lenOk ds = true) {x : Int} (hx : wf64 x) {fuel : Nat} (hf : bigFuel ≤ fuel) : dp_closure_1 fuel x ds = some (cl ds x) := by
  obtain ⟨r, h1, h2⟩ := closure_spec hl hx hf
  rw [h1, h2.unique (cl_spec hl hx)]
theorem Closure_val {n : Int} {ds : List dpDep} {x : Int} (hl : lenOk ds = true) (hx : wf64 x) {fuel : Nat} (hf : bigFuel ≤ fuel) :
    dp_Closure fuel n ds x = some (bif okArgs n ds && isSet n x then (cl ds x, 0) else (0, 2)) := by
  rcases Closure_eq (n := n) hl hx hf with ⟨h, e⟩ | ⟨h1, h2, r, h3, e⟩
  · rw [e, h]; rfl
  · rw [e, h1, h2, h3.unique (cl_spec hl hx)]; rfl
theorem pow_le {n : Int} (h1 : 1 ≤ n) (h2 : n ≤ 8) : 2 ^ n.toNat ≤ 256 := by
  have : n.toNat ≤ 8 := by omega
  calc 2 ^ n.toNat ≤ 2 ^ 8 := Nat.pow_le_pow_right (by decide) this
    _ = 256 := rfl
theorem isSet_range {n x : Int} (h1 : 1 ≤ n) (h2 : n ≤ 8) : isSet n x = true ↔ 0 ≤ x ∧ x < ((2 ^ n.toNat : Nat) : Int) := by
  unfold isSet; rw [iShl_one h1 h2]; simp
theorem le_of_bits {a b : Int} (ha : 0 ≤ a) (ha2 : a < 256) (hb : 0 ≤ b) (hb2 : b < 256) (h : Bits a b) : a ≤ b := by
  by_cases e : a = b
  · omega
  · have := toNat_lt_of_sub (a := a) (b := b) (by unfold wf64; omega) (by unfold wf64; omega) h e
    have e1 : ∀ c : Int, 0 ≤ c → c < 256 → ((V c).toNat : Int) = c := by
      intro c h0 h1
      have := V_toInt (a := c) (by unfold wf64; omega)
      rw [BitVec.toInt_eq_toNat_cond] at this
      split at this <;> omega
    have := e1 a ha ha2
    have := e1 b hb hb2
    omega
theorem setWf {n x : Int} (h1 : 1 ≤ n) (h2 : n ≤ 8) (h : isSet n x = true) : wf64 x := by
  have := (isSet_range h1 h2).1 h
  have hp := pow_le h1 h2
  unfold wf64
  omega
structure Closer (n : Int) (f : Int → Int) : Prop where
  set : ∀ x, isSet n x = true → isSet n (f x) = true
  sup : ∀ x, isSet n x = true → Bits x (f x)
  mono : ∀ x y, isSet n x = true → isSet n y = true → Bits x y → Bits (f x) (f y)
  idem : ∀ x, isSet n x = true → f (f x) = f x
def wants (acc : List dpDep) (x : Int) : Bool := acc.any fun d => has d.f_From x && !has d.f_To x
def critGo (f : Int → Int) : List Int → List dpDep → List dpDep
  | [], acc => acc
  | x :: r, acc => critGo f r (bif (f x != x) && !wants acc x then acc ++ [⟨x, f x⟩] else acc)
theorem wants_false {acc : List dpDep} {x : Int} : wants acc x = false ↔ ∀ d, d ∈ acc → Bits d.f_From x → Bits d.f_To x := by
  unfold wants
  rw [List.any_eq_false]
  constructor
  · intro h d hd hb
    have := h d hd
    rw [has_iff.2 hb] at this
    simp only [Bool.true_and, Bool.not_eq_true, Bool.not_eq_false'] at this
    exact has_iff.1 this
  · intro h d hd
    cases hf : has d.f_From x with
    | false => simp
    | true => rw [has_iff.2 (h d hd (has_iff.1 hf))]; simp
structure Good (n : Int) (O : List Int) : Prop where
  all : ∀ x, x ∈ O ↔ isSet n x = true
  rise : O.Pairwise fun a b => ¬ Bits b a
structure Found (f : Int → Int) (pre : List Int) (acc : List dpDep) : Prop where
  from' : (acc.map fun d => d.f_From).Sublist pre
  to : ∀ d, d ∈ acc → d.f_To = f d.f_From
  iff : ∀ x, x ∈ pre → ((⟨x, f x⟩ : dpDep) ∈ acc ↔ f x ≠ x ∧ ∀ d, d ∈ acc → Bits d.f_From x → d.f_From ≠ x → Bits d.f_To x)
theorem Found.mem {f : Int → Int} {pre : List Int} {acc : List dpDep} (h : Found f pre acc) {d : dpDep} (hd : d ∈ acc) : d.f_From ∈ pre :=
  h.from'.subset (List.mem_map_of_mem (f := fun d : dpDep => d.f_From) hd)
theorem critGo_found {n : Int} {f : Int → Int} {O : List Int} (hO : Good n O) : ∀ (r pre : List Int) (acc : List dpDep), pre ++ r = O → Found f pre acc → Found f O (critGo f r acc)
  | [], pre, acc, h, hf => by simp at h; subst h; exact hf
  | x :: r, pre, acc, h, hf => by
    unfold critGo
    refine critGo_found hO r (pre ++ [x]) _ (by simpa using h) ?_
    have hr := hO.rise
    rw [← h, List.pairwise_append] at hr
    have hx : ∀ y, y ∈ pre → ¬ Bits x y := fun y hy => hr.2.2 y hy x (by simp)
    have hxp : x ∉ pre := fun h => hx x h (Bits.refl x)
    cases hc : (f x != x) && !wants acc x with
    | true =>
      simp only [cond_true]
      simp only [Bool.and_eq_true, Bool.not_eq_true', bne_iff_ne, ne_eq] at hc
      obtain ⟨c1, c2⟩ := hc
      refine ⟨?_, ?_, ?_⟩
      · simp only [List.map_append, List.map_cons, List.map_nil]
        exact hf.from'.append (List.Sublist.refl _)
      · intro d hd
        rcases List.mem_append.1 hd with hd | hd
        · exact hf.to d hd
        · simp at hd; subst hd; rfl
      · intro y hy
        rcases List.mem_append.1 hy with hy | hy
        · have hyx : y ≠ x := fun e => hxp (e ▸ hy)
          rw [List.mem_append, List.mem_singleton]
          constructor
          · rintro (h | h)
            · obtain ⟨a, b⟩ := (hf.iff y hy).1 h
              refine ⟨a, fun d hd hb hne => ?_⟩
              rcases List.mem_append.1 hd with hd | hd
              · exact b d hd hb hne
              · simp at hd; subst hd; exact absurd hb (hx y hy)
            · exact absurd (congrArg dpDep.f_From h) hyx
          · rintro ⟨a, b⟩
            exact .inl ((hf.iff y hy).2 ⟨a, fun d hd => b d (List.mem_append_left _ hd)⟩)
        · simp at hy; subst hy
          refine ⟨fun _ => ⟨c1, fun d hd hb hne => ?_⟩, fun _ => by simp⟩
          rcases List.mem_append.1 hd with hd | hd
          · exact wants_false.1 c2 d hd hb
          · simp at hd; subst hd; exact absurd rfl hne
    | false =>
      simp only [cond_false]
      refine ⟨hf.from'.trans (List.sublist_append_left _ _), hf.to, fun y hy => ?_⟩
      rcases List.mem_append.1 hy with hy | hy
      · exact hf.iff y hy
      · simp at hy; subst hy
        constructor
        · intro h; exact absurd (hf.mem h) hxp
        · rintro ⟨a, b⟩
          have : wants acc y = false := wants_false.2 fun d hd hb => b d hd hb (fun e => hxp (e ▸ hf.mem hd))
          rw [this] at hc
          simp at hc
          exact absurd hc a
theorem critGo_spec {n : Int} {f : Int → Int} {O : List Int} (hO : Good n O) : Found f O (critGo f O []) :=
  critGo_found hO O [] [] rfl ⟨by simp, fun d h => absurd h List.not_mem_nil, fun x h => absurd h List.not_mem_nil⟩
theorem dep_eq {f : Int → Int} {d : dpDep} (h : d.f_To = f d.f_From) : d = ⟨d.f_From, f d.f_From⟩ := by
  obtain ⟨a, b⟩ := d; simp at h ⊢; exact h
theorem found_same {n : Int} (h1 : 1 ≤ n) (h2 : n ≤ 8) {f : Int → Int} {O P : List Int} (hO : Good n O) (hP : Good n P) {a b : List dpDep} (ha : Found f O a) (hb : Found f P b) : ∀ d, d ∈ a ↔ d ∈ b := by
  have key : ∀ (k : Nat) (x : Int), x.toNat = k → isSet n x = true → ((⟨x, f x⟩ : dpDep) ∈ a ↔ (⟨x, f x⟩ : dpDep) ∈ b) := by
    intro k
    induction k using Nat.strongRecOn with
    | ind k ih =>
      intro x hk hs
      rw [ha.iff x ((hO.all x).2 hs), hb.iff x ((hP.all x).2 hs)]
      have small : ∀ y, isSet n y = true → Bits y x → y ≠ x → y.toNat < k := by
        intro y hy hyx hne
        have r1 := (isSet_range h1 h2).1 hy
        have r2 := (isSet_range h1 h2).1 hs
        have hp := pow_le h1 h2
        have := le_of_bits (a := y) (b := x) r1.1 (by omega) r2.1 (by omega) hyx
        omega
      constructor
      · rintro ⟨c, e⟩
        refine ⟨c, fun d hd hbx hne => ?_⟩
        have hds : isSet n d.f_From = true := (hP.all _).1 (hb.mem hd)
        have : d ∈ a := by
          have ee := dep_eq (hb.to d hd)
          rw [ee] at hd ⊢
          exact (ih _ (small _ hds hbx hne) d.f_From rfl hds).2 hd
        exact e d this hbx hne
      · rintro ⟨c, e⟩
        refine ⟨c, fun d hd hbx hne => ?_⟩
        have hds : isSet n d.f_From = true := (hO.all _).1 (ha.mem hd)
        have : d ∈ b := by
          have ee := dep_eq (ha.to d hd)
          rw [ee] at hd ⊢
          exact (ih _ (small _ hds hbx hne) d.f_From rfl hds).1 hd
        exact e d this hbx hne
  intro d
  constructor
  · intro hd
    have hds : isSet n d.f_From = true := (hO.all _).1 (ha.mem hd)
    have ee := dep_eq (ha.to d hd)
    rw [ee] at hd ⊢
    exact (key _ d.f_From rfl hds).1 hd
  · intro hd
    have hds : isSet n d.f_From = true := (hP.all _).1 (hb.mem hd)
    have ee := dep_eq (hb.to d hd)
    rw [ee] at hd ⊢
    exact (key _ d.f_From rfl hds).2 hd
theorem rise_eq : ∀ {a b : List dpDep}, a.Pairwise (fun x y => x.f_From < y.f_From) → b.Pairwise (fun x y => x.f_From < y.f_From) → (∀ d, d ∈ a ↔ d ∈ b) → a = b
  | [], [], _, _, _ => rfl
  | [], y :: b, _, _, h => absurd ((h y).2 (by simp)) List.not_mem_nil
  | x :: a, [], _, _, h => absurd ((h x).1 (by simp)) List.not_mem_nil
  | x :: a, y :: b, ha, hb, h => by
    rw [List.pairwise_cons] at ha hb
    have hxy : x = y := by
      rcases List.mem_cons.1 ((h x).1 (by simp)) with e | hx
      · exact e
      · rcases List.mem_cons.1 ((h y).2 (by simp)) with e | hy
        · exact e.symm
        · have := ha.1 y hy
          have := hb.1 x hx
          omega
    subst hxy
    congr 1
    refine rise_eq ha.2 hb.2 fun d => ?_
    constructor
    · intro hd
      rcases List.mem_cons.1 ((h d).1 (by simp [hd])) with e | hd'
      · subst e; exact absurd (ha.1 d hd) (by omega)
      · exact hd'
    · intro hd
      rcases List.mem_cons.1 ((h d).2 (by simp [hd])) with e | hd'
      · subst e; exact absurd (hb.1 d hd) (by omega)
      · exact hd'
theorem found_closed {n : Int} (h1 : 1 ≤ n) (h2 : n ≤ 8) {f : Int → Int} (hf : Closer n f) {O : List Int} (hO : Good n O) {a : List dpDep} (ha : Found f O a) {z : Int} (hz : isSet n z = true) (hs : Shut a z) : f z = z := by
  by_cases h : f z = z
  · exact h
  · have : (⟨z, f z⟩ : dpDep) ∈ a := (ha.iff z ((hO.all z).2 hz)).2 ⟨h, fun d hd hb _ => hs d hd hb⟩
    exact Bits.antisymm (setWf h1 h2 (hf.set z hz)) (setWf h1 h2 hz) (hs _ this (Bits.refl z)) (hf.sup z hz)
theorem found_cl {n : Int} (h1 : 1 ≤ n) (h2 : n ≤ 8) {f : Int → Int} (hf : Closer n f) {O : List Int} (hO : Good n O) {a : List dpDep} (ha : Found f O a) {x r : Int} (hx : isSet n x = true) (hr : IsClosure a x r) : r = f x := by
  have wx := setWf h1 h2 hx
  have hset : ∀ d, d ∈ a → isSet n d.f_From = true ∧ isSet n d.f_To = true := fun d hd => by
    have := (hO.all _).1 (ha.mem hd)
    exact ⟨this, by rw [ha.to d hd]; exact hf.set _ this⟩
  have wf := setWf h1 h2 (hf.set x hx)
  have s1 : Shut a (f x) := by
    intro d hd hb
    have hd' := hset d hd
    have := hf.mono _ _ hd'.1 (hf.set x hx) hb
    rw [hf.idem x hx] at this
    rw [ha.to d hd]
    exact this
  have b1 : Bits r (f x) := hr.least _ s1 (hf.sup x hx)
  have sr : isSet n r = true := (isSet_iff h1 h2 hr.wf).2 (b1.trans ((isSet_iff h1 h2 wf).1 (hf.set x hx)))
  have e := found_closed h1 h2 hf hO ha sr hr.closed
  refine Bits.antisymm hr.wf wf b1 ?_
  have := hf.mono _ _ hx sr hr.sup
  rw [e] at this
  exact this
theorem length_le_of_pick {α β : Type} [DecidableEq β] (g : α → β) : ∀ (a : List α) (l : List β), a.Nodup → (∀ x, x ∈ a → g x ∈ l) → (∀ x y, x ∈ a → y ∈ a → g x = g y → x = y) → a.length ≤ l.length
  | [], l, _, _, _ => Nat.zero_le _
  | x :: a, l, hn, hm, hi => by
    rw [List.nodup_cons] at hn
    have h1 := hm x (by simp)
    have := length_le_of_pick g a (l.erase (g x)) hn.2 (fun y hy => by
      have hne : g y ≠ g x := fun e => hn.1 (hi y x (by simp [hy]) (by simp) e ▸ hy)
      exact (List.mem_erase_of_ne hne).2 (hm y (by simp [hy]))) (fun y z hy hz => hi y z (by simp [hy]) (by simp [hz]))
    have h3 := List.length_erase_of_mem h1
    have h4 : 0 < l.length := List.length_pos_of_mem h1
    simp only [List.length_cons]
    omega
theorem andBits {a b c : Int} : Bits c (iAnd .i64 a b) ↔ Bits c a ∧ Bits c b := by
  constructor
  · intro h
    refine ⟨fun i hi => ?_, fun i hi => ?_⟩
    · have := h i hi; rw [V_and] at this; simp at this; exact this.1
    · have := h i hi; rw [V_and] at this; simp at this; exact this.2
  · rintro ⟨h, k⟩ i hi
    rw [V_and]
    simp [h i hi, k i hi]
theorem found_least {n : Int} (h1 : 1 ≤ n) (h2 : n ≤ 8) {f : Int → Int} (hf : Closer n f) {O : List Int} (hO : Good n O) {a : List dpDep} (ha : Found f O a) {ds : List dpDep}
    (hd : ∀ d, d ∈ ds → isSet n d.f_From = true ∧ isSet n d.f_To = true) (hc : ∀ x, isSet n x = true → IsClosure ds x (f x)) : a.length ≤ ds.length := by
  have hset : ∀ d, d ∈ a → isSet n d.f_From = true := fun d hd => (hO.all _).1 (ha.mem hd)
  have hopen : ∀ x, isSet n x = true → f x ≠ x → ∃ d, d ∈ ds ∧ Bits d.f_From x ∧ ¬ Bits d.f_To x := by
    intro x hx hne
    rcases Classical.em (Shut ds x) with h | h
    · have := (hc x hx).least x h (Bits.refl x)
      exact absurd (Bits.antisymm (setWf h1 h2 (hf.set x hx)) (setWf h1 h2 hx) this (hf.sup x hx)) hne
    · unfold Shut at h
      rcases Classical.em (∃ d, d ∈ ds ∧ Bits d.f_From x ∧ ¬ Bits d.f_To x) with k | k
      · exact k
      · refine absurd (fun d hd hb => ?_) h
        rcases Classical.em (Bits d.f_To x) with q | q
        · exact q
        · exact absurd ⟨d, hd, hb, q⟩ k
  have hne : ∀ d, d ∈ a → f d.f_From ≠ d.f_From := fun d hd => by
    have := (ha.iff d.f_From (ha.mem hd)).1 (by rw [← dep_eq (ha.to d hd)]; exact hd)
    exact this.1
  have hpick : ∀ d : dpDep, ∃ e : dpDep, d ∈ a → e ∈ ds ∧ Bits e.f_From d.f_From ∧ ¬ Bits e.f_To d.f_From := by
    intro d
    rcases Classical.em (d ∈ a) with h | h
    · obtain ⟨e, he⟩ := hopen d.f_From (hset d h) (hne d h)
      exact ⟨e, fun _ => he⟩
    · exact ⟨d, fun k => absurd k h⟩
  obtain ⟨g, hg⟩ := Classical.axiomOfChoice hpick
  have hnod : O.Nodup := hO.rise.imp fun {u v} h (e : u = v) => h (by rw [e]; exact Bits.refl _)
  have hand : a.Nodup := by
    have : (a.map fun d => d.f_From).Nodup := ha.from'.nodup hnod
    unfold List.Nodup at this ⊢
    rw [List.pairwise_map] at this
    exact this.imp fun {u v} h (e : u = v) => h (by rw [e])
  haveI : DecidableEq dpDep := fun _ _ => Classical.propDecidable _
  refine length_le_of_pick g a ds hand (fun x hx => (hg x hx).1) fun x y hx hy e => ?_
  obtain ⟨x1, x2, x3⟩ := hg x hx
  obtain ⟨y1, y2, y3⟩ := hg y hy
  rw [← e] at y1 y2 y3
  have wx := setWf h1 h2 (hset x hx)
  have wy := setWf h1 h2 (hset y hy)
  have wr : wf64 (iAnd .i64 x.f_From y.f_From) := wf_and _ _
  have r1 : Bits (iAnd .i64 x.f_From y.f_From) x.f_From := (andBits.1 (Bits.refl _)).1
  have r2 : Bits (iAnd .i64 x.f_From y.f_From) y.f_From := (andBits.1 (Bits.refl _)).2
  have sr : isSet n (iAnd .i64 x.f_From y.f_From) = true := (isSet_iff h1 h2 wr).2 (r1.trans ((isSet_iff h1 h2 wx).1 (hset x hx)))
  have hl : Bits (g x).f_From (iAnd .i64 x.f_From y.f_From) := andBits.2 ⟨x2, y2⟩
  have hfr : f (iAnd .i64 x.f_From y.f_From) ≠ iAnd .i64 x.f_From y.f_From := by
    intro k
    have := (hc _ sr).closed (g x) x1 (by rw [k]; exact hl)
    rw [k] at this
    exact x3 (this.trans r1)
  -- what was found for the whole sets leaves their common part alone, as long as it is smaller
  have hmemx : (⟨x.f_From, f x.f_From⟩ : dpDep) ∈ a := by rw [← dep_eq (ha.to x hx)]; exact hx
  have hmemy : (⟨y.f_From, f y.f_From⟩ : dpDep) ∈ a := by rw [← dep_eq (ha.to y hy)]; exact hy
  have ix := ((ha.iff x.f_From (ha.mem hx)).1 hmemx).2
  have iy := ((ha.iff y.f_From (ha.mem hy)).1 hmemy).2
  have hbx : Bits (g x).f_To (f (iAnd .i64 x.f_From y.f_From)) := (hc _ sr).closed (g x) x1 (hl.trans (hf.sup _ sr))
  have main : ∀ w, w ∈ a → (¬ Bits (g x).f_To w.f_From) → Bits (iAnd .i64 x.f_From y.f_From) w.f_From → (⟨iAnd .i64 x.f_From y.f_From, f (iAnd .i64 x.f_From y.f_From)⟩ : dpDep) ∈ a → iAnd .i64 x.f_From y.f_From = w.f_From := by
    intro w hw hn hb hm
    rcases Classical.em (iAnd .i64 x.f_From y.f_From = w.f_From) with q | q
    · exact q
    · have hmw : (⟨w.f_From, f w.f_From⟩ : dpDep) ∈ a := by rw [← dep_eq (ha.to w hw)]; exact hw
      have := ((ha.iff w.f_From (ha.mem hw)).1 hmw).2 _ hm hb q
      exact absurd (hbx.trans this) hn
  rcases Classical.em ((⟨iAnd .i64 x.f_From y.f_From, f (iAnd .i64 x.f_From y.f_From)⟩ : dpDep) ∈ a) with hm | hm
  · have e1 := main x hx x3 r1 hm
    have e2 := main y hy y3 r2 hm
    have e3 : x.f_From = y.f_From := e1.symm.trans e2
    rw [dep_eq (ha.to x hx), dep_eq (ha.to y hy), e3]
  · exfalso
    apply hm
    refine (ha.iff _ ((hO.all _).2 sr)).2 ⟨hfr, fun d hd hb hne' => ?_⟩
    refine andBits.2 ⟨?_, ?_⟩
    · rcases Classical.em (d.f_From = x.f_From) with q | q
      · -- then the common part is x itself
        exfalso
        have : iAnd .i64 x.f_From y.f_From = x.f_From := Bits.antisymm wr wx r1 (q ▸ hb)
        exact hne' (q.trans this.symm)
      · exact ix d hd (hb.trans r1) q
    · rcases Classical.em (d.f_From = y.f_From) with q | q
      · exfalso
        have : iAnd .i64 x.f_From y.f_From = y.f_From := Bits.antisymm wr wy r2 (q ▸ hb)
        exact hne' (q.trans this.symm)
      · exact iy d hd (hb.trans r2) q
theorem wrap64 {i : Int} (h1 : -9223372036854775808 ≤ i) (h2 : i ≤ 9223372036854775807) : IntKind.wrap .i64 i = i := wrap_id h1 (by omega)
theorem get_at {α : Type} {L q : List α} {x : α} {i : Nat} (h : i = L.length) : (L ++ x :: q)[i]? = some x := by
  subst h; simp
theorem upd_at {α : Type} {L q : List α} {x y : α} {i : Nat} (h : i = L.length) : upd (L ++ x :: q) i y = some (L ++ y :: q) := by
  subst h
  unfold upd
  rw [if_pos (by simp)]
  congr 1
  simp
structure Ord' (α : Type) (lt : α → α → Bool) : Prop where
  asym : ∀ x y, lt x y = true → lt y x = false
  trans : ∀ x y z, lt y x = false → lt z y = false → lt z x = false
def Sorted {α : Type} (lt : α → α → Bool) (l : List α) : Prop := l.Pairwise fun a b => lt b a = false
def Cmp {α : Type} (g : α → α → Option Int) (lt : α → α → Bool) (A : α → Prop) : Prop :=
  ∀ x y, A x → A y → ∃ w, g x y = some w ∧ decide (w < 0) = lt x y
theorem ins_l2 {g : dpDep → dpDep → Option Int} {lt : dpDep → dpDep → Bool} {A : dpDep → Prop} (hg : Cmp g lt A) {n : Nat} (hn : n ≤ 4611686018427387904) (L : List dpDep) (K : List dpDep → Option (List dpDep)) {x : dpDep} (hx : A x) :
    ∀ (k : Nat) (p q : List dpDep) (m : Nat), p.length = k → k < m → (L ++ (p ++ x :: q)).length = n → (∀ y, y ∈ p → A y) →
    ∃ p1 p2, p = p1 ++ p2 ∧ (∀ y, y ∈ p2 → lt x y = true) ∧ (p1 = [] ∨ ∃ p0 y, p1 = p0 ++ [y] ∧ lt x y = false) ∧
      sl_insertionSortCmpFunc_dpDep_l2 n (L.length : Int) g K m (L ++ (p ++ x :: q)) ((L.length + p.length : Nat) : Int) = K (L ++ (p1 ++ x :: (p2 ++ q)))
  | 0, p, q, m, hk, hm, hlen, hA => by
    obtain rfl := List.length_eq_zero_iff.1 hk
    obtain ⟨m', rfl⟩ : ∃ m', m = m' + 1 := ⟨m - 1, by omega⟩
    refine ⟨[], [], rfl, fun y h => absurd h List.not_mem_nil, .inl rfl, ?_⟩
    rw [sl_insertionSortCmpFunc_dpDep_l2.eq_2]
    have h0 : decide ((((L.length + ([] : List dpDep).length : Nat) : Int)) > (L.length : Int)) = false := by simp
    rw [h0]
    rfl
  | k + 1, p, q, m, hk, hm, hlen, hA => by
    obtain ⟨m', rfl⟩ : ∃ m', m = m' + 1 := ⟨m - 1, by omega⟩
    obtain ⟨p', y, rfl⟩ : ∃ p' y, p = p' ++ [y] := by
      rcases List.eq_nil_or_concat p with rfl | ⟨a, b, h⟩
      · simp at hk
      · exact ⟨a, b, by simpa using h⟩
    have hk' : p'.length = k := by simpa using hk
    have hlen' : L.length + (k + 1 + (q.length + 1)) = n := by simp at hlen; omega
    have hy : A y := hA y (by simp)
    rw [sl_insertionSortCmpFunc_dpDep_l2.eq_2]
    have e0 : ((L.length + (p' ++ [y]).length : Nat) : Int) = ((L.length + k + 1 : Nat) : Int) := by simp [hk']; omega
    rw [e0]
    have h0 : decide (((L.length + k + 1 : Nat) : Int) > (L.length : Int)) = true := decide_eq_true (by omega)
    have h1 : IntKind.wrap .i64 (((L.length + k + 1 : Nat) : Int) - 1) = ((L.length + k : Nat) : Int) := by rw [wrap64 (by omega) (by omega)]; omega
    have h2 : decide ((0 : Int) ≤ ((L.length + k + 1 : Nat) : Int) ∧ ((L.length + k + 1 : Nat) : Int) < ((n : Nat) : Int)) = true := decide_eq_true (by omega)
    have h3 : decide ((0 : Int) ≤ ((L.length + k : Nat) : Int) ∧ ((L.length + k : Nat) : Int) < ((n : Nat) : Int)) = true := decide_eq_true (by omega)
    have g1 : (L ++ (p' ++ [y] ++ x :: q))[0 + Int.toNat ((L.length + k + 1 : Nat) : Int)]? = some x := by
      have : L ++ (p' ++ [y] ++ x :: q) = (L ++ (p' ++ [y])) ++ x :: q := by simp
      rw [this]; exact get_at (by simp; omega)
    have g2 : (L ++ (p' ++ [y] ++ x :: q))[0 + Int.toNat ((L.length + k : Nat) : Int)]? = some y := by
      have : L ++ (p' ++ [y] ++ x :: q) = (L ++ p') ++ y :: x :: q := by simp
      rw [this]; exact get_at (by simp; omega)
    obtain ⟨w, hw, hd⟩ := hg x y hx hy
    have hcond : ∀ (X Y : Option (List dpDep)), (bif true then X else Y) = X := fun _ _ => rfl
    rw [h1]
    simp only [h0, h2, h3, g1, g2, hw, hd, chk, cond_true, Option.bind_some]
    unfold sl_insertionSortCmpFunc_dpDep_j16
    cases hlt : lt x y with
    | false =>
      simp only [cond_false]
      exact ⟨p' ++ [y], [], by simp, fun y h => absurd h List.not_mem_nil, .inr ⟨p', y, rfl, hlt⟩, by simp⟩
    | true =>
      rw [h1]
      have u1 : upd (L ++ (p' ++ [y] ++ x :: q)) (0 + Int.toNat ((L.length + k + 1 : Nat) : Int)) y = some (L ++ (p' ++ y :: y :: q)) := by
        have : L ++ (p' ++ [y] ++ x :: q) = (L ++ (p' ++ [y])) ++ x :: q := by simp
        rw [this, upd_at (by simp; omega)]; simp
      have u2 : upd (L ++ (p' ++ y :: y :: q)) (0 + Int.toNat ((L.length + k : Nat) : Int)) x = some (L ++ (p' ++ x :: (y :: q))) := by
        have : L ++ (p' ++ y :: y :: q) = (L ++ p') ++ y :: (y :: q) := by simp
        rw [this, upd_at (by simp; omega)]; simp
      simp only [h2, h3, g1, g2, u1, u2, chk, cond_true, Option.bind_some]
      obtain ⟨p1, p2, e, a, b, c⟩ := ins_l2 hg hn L K hx k p' (y :: q) m' hk' (by omega) (by simp; omega) (fun z hz => hA z (by simp [hz]))
      refine ⟨p1, p2 ++ [y], by rw [e]; simp, fun z hz => ?_, b, ?_⟩
      · rcases List.mem_append.1 hz with hz | hz
        · exact a z hz
        · simp at hz; subst hz; exact hlt
      · rw [hk'] at c
        rw [c]
        simp
theorem ins_sorted {lt : dpDep → dpDep → Bool} (ho : Ord' dpDep lt) {p1 p2 : List dpDep} {x : dpDep} (hs : Sorted lt (p1 ++ p2)) (h2 : ∀ y, y ∈ p2 → lt x y = true) (h1 : p1 = [] ∨ ∃ p0 y, p1 = p0 ++ [y] ∧ lt x y = false) : Sorted lt (p1 ++ x :: p2) := by
  unfold Sorted at *
  rw [List.pairwise_append] at hs ⊢
  obtain ⟨a, b, c⟩ := hs
  refine ⟨a, List.pairwise_cons.2 ⟨fun y hy => ho.asym _ _ (h2 y hy), b⟩, fun z hz y hy => ?_⟩
  rcases List.mem_cons.1 hy with rfl | hy
  · rcases h1 with rfl | ⟨p0, w, rfl, hw⟩
    · exact absurd hz List.not_mem_nil
    · rcases List.mem_append.1 hz with hz | hz
      · rw [List.pairwise_append] at a
        exact ho.trans _ _ _ (a.2.2 z hz w (by simp)) hw
      · simp at hz; subst hz; exact hw
  · exact c z hz y hy
theorem ins_l1 {g : dpDep → dpDep → Option Int} {lt : dpDep → dpDep → Bool} {A : dpDep → Prop} (hg : Cmp g lt A) (ho : Ord' dpDep lt) {n : Nat} (hn : n ≤ 4611686018427387904) {fuel : Nat} (hf : n < fuel) (L Q : List dpDep) :
    ∀ (r s : List dpDep) (m : Nat), r.length < m → (L ++ (s ++ (r ++ Q))).length = n → Sorted lt s → (∀ y, y ∈ s ++ r → A y) →
    ∃ s', s'.Perm (s ++ r) ∧ Sorted lt s' ∧
      sl_insertionSortCmpFunc_dpDep_l1 fuel n (L.length : Int) ((L.length + s.length + r.length : Nat) : Int) g m (L ++ (s ++ (r ++ Q))) ((L.length + s.length : Nat) : Int) = some (L ++ (s' ++ Q))
  | [], s, m, hm, hlen, hs, hA => by
    obtain ⟨m', rfl⟩ : ∃ m', m = m' + 1 := ⟨m - 1, by omega⟩
    refine ⟨s, by simp, hs, ?_⟩
    rw [sl_insertionSortCmpFunc_dpDep_l1.eq_2]
    have h0 : decide (((L.length + s.length : Nat) : Int) < ((L.length + s.length + ([] : List dpDep).length : Nat) : Int)) = false := by simp
    rw [h0]
    simp
  | x :: r, s, m, hm, hlen, hs, hA => by
    obtain ⟨m', rfl⟩ : ∃ m', m = m' + 1 := ⟨m - 1, by omega⟩
    simp only [List.length_cons] at hm
    have hlen' : L.length + (s.length + (r.length + 1 + Q.length)) = n := by simp at hlen; omega
    rw [sl_insertionSortCmpFunc_dpDep_l1.eq_2]
    have h0 : decide (((L.length + s.length : Nat) : Int) < ((L.length + s.length + (x :: r).length : Nat) : Int)) = true := decide_eq_true (by simp; omega)
    rw [h0]
    simp only [cond_true]
    have el : L ++ (s ++ (x :: r ++ Q)) = L ++ (s ++ x :: (r ++ Q)) := by simp
    rw [el]
    obtain ⟨p1, p2, e, a, b, c⟩ := ins_l2 hg hn L (sl_insertionSortCmpFunc_dpDep_j11 ((L.length + s.length : Nat) : Int) (sl_insertionSortCmpFunc_dpDep_l1 fuel n (L.length : Int) ((L.length + s.length + (x :: r).length : Nat) : Int) g m')) (hA x (by simp)) s.length s (r ++ Q) fuel rfl (by omega) (by simp; omega) (fun y hy => hA y (by simp [hy]))
    rw [c]
    unfold sl_insertionSortCmpFunc_dpDep_j11
    have w1 : IntKind.wrap .i64 (((L.length + s.length : Nat) : Int) + 1) = ((L.length + (p1 ++ x :: p2).length : Nat) : Int) := by
      rw [wrap64 (by omega) (by omega), e]; simp; omega
    have w2 : ((L.length + s.length + (x :: r).length : Nat) : Int) = ((L.length + (p1 ++ x :: p2).length + r.length : Nat) : Int) := by
      rw [e]; simp; omega
    have w3 : L ++ (p1 ++ x :: (p2 ++ (r ++ Q))) = L ++ ((p1 ++ x :: p2) ++ (r ++ Q)) := by simp
    rw [w1, w2, w3]
    obtain ⟨s', i1, i2, i3⟩ := ins_l1 hg ho hn hf L Q r (p1 ++ x :: p2) m' (by omega) (by have := congrArg List.length e; simp at this; simp; omega) (ins_sorted ho (e ▸ hs) a b) (fun y hy => hA y (by
      simp only [List.mem_append, List.mem_cons, e] at hy ⊢
      rcases hy with (h | h | h) | h <;> simp [h]))
    refine ⟨s', i1.trans ?_, i2, i3⟩
    have : (p1 ++ x :: p2 ++ r).Perm (p1 ++ p2 ++ x :: r) := by
      simp only [List.append_assoc, List.cons_append]
      refine List.Perm.append_left p1 ?_
      exact (List.perm_middle (l₁ := p2) (l₂ := r) (a := x)).symm
    rw [e]; exact this
theorem insertion_sorts {g : dpDep → dpDep → Option Int} {lt : dpDep → dpDep → Bool} {A : dpDep → Prop} (hg : Cmp g lt A) (ho : Ord' dpDep lt) {n : Nat} (hn : n ≤ 4611686018427387904) {fuel : Nat} (hf : n < fuel) (L M Q : List dpDep)
    (hlen : (L ++ (M ++ Q)).length = n) (hA : ∀ y, y ∈ M → A y) :
    ∃ M', M'.Perm M ∧ Sorted lt M' ∧ sl_insertionSortCmpFunc_dpDep fuel (L ++ (M ++ Q)) n (L.length : Int) ((L.length + M.length : Nat) : Int) g = some (L ++ (M' ++ Q)) := by
  unfold sl_insertionSortCmpFunc_dpDep
  have hl : L.length + (M.length + Q.length) = n := by simpa using hlen
  cases M with
  | nil =>
    refine ⟨[], .nil, .nil, ?_⟩
    obtain ⟨m', rfl⟩ : ∃ m', fuel = m' + 1 := ⟨fuel - 1, by omega⟩
    rw [sl_insertionSortCmpFunc_dpDep_l1.eq_2, wrap64 (by omega) (by omega)]
    have h0 : decide ((L.length : Int) + 1 < ((L.length + ([] : List dpDep).length : Nat) : Int)) = false := decide_eq_false (by simp; omega)
    rw [h0]; rfl
  | cons x r =>
    simp only [List.length_cons] at hl
    obtain ⟨s', i1, i2, i3⟩ := ins_l1 hg ho hn hf L Q r [x] fuel (by omega) (by simp; omega) (List.pairwise_singleton _ _) (fun y hy => hA y (by simpa using hy))
    refine ⟨s', by simpa using i1, i2, ?_⟩
    have w1 : IntKind.wrap .i64 ((L.length : Int) + 1) = ((L.length + [x].length : Nat) : Int) := by
      rw [wrap64 (by omega) (by omega)]; simp
    have w2 : ((L.length + (x :: r).length : Nat) : Int) = ((L.length + [x].length + r.length : Nat) : Int) := by simp; omega
    rw [w1, w2]
    have w3 : L ++ (x :: r ++ Q) = L ++ ([x] ++ (r ++ Q)) := by simp
    rw [w3]
    exact i3
def popOf (x : Nat) : Nat := (List.range 9).foldl (fun a i => if x.testBit i then a + 1 else a) 0
def popSorted (n : Nat) : List Int := ((List.range 9).flatMap fun k => (List.range (2 ^ n)).filter fun x => popOf x == k).map fun (x : Nat) => (x : Int)
def allSets (n : Nat) : List Int := (List.range (2 ^ n)).map fun (x : Nat) => (x : Int)
def cmp1 : Int → Int → Option Int := fun y0 y1 => dp_critical_1 y0 y1
theorem stab1 : sl_SortStableFunc_int bigFuel (allSets 1) (2 ^ 1) cmp1 = some (popSorted 1) := by kernel_rfl
theorem stab2 : sl_SortStableFunc_int bigFuel (allSets 2) (2 ^ 2) cmp1 = some (popSorted 2) := by kernel_rfl
theorem stab3 : sl_SortStableFunc_int bigFuel (allSets 3) (2 ^ 3) cmp1 = some (popSorted 3) := by kernel_rfl
theorem stab4 : sl_SortStableFunc_int bigFuel (allSets 4) (2 ^ 4) cmp1 = some (popSorted 4) := by kernel_rfl
theorem stab5 : sl_SortStableFunc_int bigFuel (allSets 5) (2 ^ 5) cmp1 = some (popSorted 5) := by kernel_rfl
theorem stab6 : sl_SortStableFunc_int bigFuel (allSets 6) (2 ^ 6) cmp1 = some (popSorted 6) := by kernel_rfl
theorem stab7 : sl_SortStableFunc_int bigFuel (allSets 7) (2 ^ 7) cmp1 = some (popSorted 7) := by kernel_rfl
def stS1 : List Int := ([0, 1, 2, 4, 8, 16, 3, 5, 6, 9, 10, 12, 17, 18, 7, 11, 13, 14, 19, 15, 32, 20, 24, 33, 34, 36, 21, 22, 25, 26, 28, 35, 37, 38, 23, 27, 29, 30, 39, 31, 40, 48, 41, 42, 44, 49, 50, 52, 56, 43, 45, 46, 51, 53, 54, 57, 58, 47, 55, 59, 64, 65, 66, 68, 72, 67, 69, 70, 73, 74, 76, 60, 71, 75, 77, 78, 61, 62, 79, 63, 80, 96, 81, 82, 84, 88, 97, 98, 83, 85, 86, 89, 90, 92, 99, 87, 91, 93, 94, 95, 100, 104, 112, 101, 102, 105, 106, 108, 113, 114, 116, 103, 107, 109, 110, 115, 117, 118, 111, 119, 128, 129, 130, 132, 136, 131, 133, 134, 137, 138, 120, 135, 139, 121, 122, 124, 123, 125, 126, 127, 144, 140, 145, 146, 148, 152, 141, 142, 147, 149, 150, 153, 154, 156, 143, 151, 155, 157, 158, 159, 160, 161, 162, 164, 168, 176, 163, 165, 166, 169, 170, 172, 177, 178, 167, 171, 173, 174, 179, 175, 192, 193, 194, 196, 180, 184, 195, 197, 198, 181, 182, 185, 186, 188, 199, 183, 187, 189, 190, 191, 200, 208, 201, 202, 204, 209, 210, 212, 216, 203, 205, 206, 211, 213, 214, 217, 218, 207, 215, 219, 224, 225, 226, 228, 232, 220, 227, 229, 230, 233, 234, 236, 221, 222, 231, 235, 237, 238, 223, 239, 240, 241, 242, 243, 244, 245, 246, 247, 248, 249, 250, 251, 252, 253, 254, 255] : List Nat).map fun (x : Nat) => (x : Int)
def stS2 : List Int := ([0, 1, 2, 4, 8, 16, 3, 5, 6, 9, 10, 12, 17, 18, 7, 11, 13, 14, 19, 15, 32, 20, 24, 33, 34, 36, 21, 22, 25, 26, 28, 35, 37, 38, 23, 27, 29, 30, 39, 31, 40, 48, 41, 42, 44, 49, 50, 52, 56, 43, 45, 46, 51, 53, 54, 57, 58, 47, 55, 59, 64, 65, 66, 68, 72, 67, 69, 70, 73, 74, 76, 60, 71, 75, 77, 78, 61, 62, 79, 63, 80, 96, 81, 82, 84, 88, 97, 98, 83, 85, 86, 89, 90, 92, 99, 87, 91, 93, 94, 95, 100, 104, 112, 101, 102, 105, 106, 108, 113, 114, 116, 103, 107, 109, 110, 115, 117, 118, 111, 119, 128, 129, 130, 132, 136, 131, 133, 134, 137, 138, 120, 135, 139, 121, 122, 124, 123, 125, 126, 127, 144, 140, 145, 146, 148, 152, 141, 142, 147, 149, 150, 153, 154, 156, 143, 151, 155, 157, 158, 159, 160, 161, 162, 164, 168, 176, 163, 165, 166, 169, 170, 172, 177, 178, 167, 171, 173, 174, 179, 175, 192, 193, 194, 196, 180, 184, 195, 197, 198, 181, 182, 185, 186, 188, 199, 183, 187, 189, 190, 191, 200, 208, 201, 202, 204, 209, 210, 212, 216, 203, 205, 206, 211, 213, 214, 217, 218, 207, 215, 219, 224, 225, 226, 228, 232, 220, 227, 229, 230, 233, 234, 236, 221, 222, 231, 235, 237, 238, 223, 239, 240, 241, 242, 244, 248, 243, 245, 246, 249, 250, 252, 247, 251, 253, 254, 255] : List Nat).map fun (x : Nat) => (x : Int)
def stS3 : List Int := ([0, 1, 2, 4, 8, 16, 32, 3, 5, 6, 9, 10, 12, 17, 18, 20, 24, 33, 34, 36, 7, 11, 13, 14, 19, 21, 22, 25, 26, 28, 35, 37, 38, 15, 23, 27, 29, 30, 39, 31, 64, 40, 48, 65, 66, 68, 72, 41, 42, 44, 49, 50, 52, 56, 67, 69, 70, 73, 74, 76, 43, 45, 46, 51, 53, 54, 57, 58, 60, 71, 75, 77, 78, 47, 55, 59, 61, 62, 79, 63, 80, 96, 81, 82, 84, 88, 97, 98, 100, 104, 112, 83, 85, 86, 89, 90, 92, 99, 101, 102, 105, 106, 108, 113, 114, 116, 87, 91, 93, 94, 103, 107, 109, 110, 115, 117, 118, 95, 111, 119, 128, 129, 130, 132, 136, 144, 131, 133, 134, 137, 138, 140, 145, 146, 148, 152, 120, 135, 139, 141, 142, 147, 149, 150, 153, 154, 156, 121, 122, 124, 143, 151, 155, 157, 158, 123, 125, 126, 159, 127, 160, 192, 161, 162, 164, 168, 176, 193, 194, 196, 163, 165, 166, 169, 170, 172, 177, 178, 180, 184, 195, 197, 198, 167, 171, 173, 174, 179, 181, 182, 185, 186, 188, 199, 175, 183, 187, 189, 190, 191, 200, 208, 224, 201, 202, 204, 209, 210, 212, 216, 225, 226, 228, 232, 203, 205, 206, 211, 213, 214, 217, 218, 220, 227, 229, 230, 233, 234, 236, 207, 215, 219, 221, 222, 231, 235, 237, 238, 223, 239, 240, 241, 242, 244, 248, 243, 245, 246, 249, 250, 252, 247, 251, 253, 254, 255] : List Nat).map fun (x : Nat) => (x : Int)
def stS4 : List Int := ([0, 1, 2, 4, 8, 16, 32, 64, 3, 5, 6, 9, 10, 12, 17, 18, 20, 24, 33, 34, 36, 40, 48, 65, 66, 68, 72, 7, 11, 13, 14, 19, 21, 22, 25, 26, 28, 35, 37, 38, 41, 42, 44, 49, 50, 52, 56, 67, 69, 70, 73, 74, 76, 15, 23, 27, 29, 30, 39, 43, 45, 46, 51, 53, 54, 57, 58, 60, 71, 75, 77, 78, 31, 47, 55, 59, 61, 62, 79, 63, 128, 80, 96, 129, 130, 132, 136, 144, 81, 82, 84, 88, 97, 98, 100, 104, 112, 131, 133, 134, 137, 138, 140, 145, 146, 148, 152, 83, 85, 86, 89, 90, 92, 99, 101, 102, 105, 106, 108, 113, 114, 116, 120, 135, 139, 141, 142, 147, 149, 150, 153, 154, 156, 87, 91, 93, 94, 103, 107, 109, 110, 115, 117, 118, 121, 122, 124, 143, 151, 155, 157, 158, 95, 111, 119, 123, 125, 126, 159, 127, 160, 192, 161, 162, 164, 168, 176, 193, 194, 196, 200, 208, 224, 163, 165, 166, 169, 170, 172, 177, 178, 180, 184, 195, 197, 198, 201, 202, 204, 209, 210, 212, 216, 225, 226, 228, 232, 167, 171, 173, 174, 179, 181, 182, 185, 186, 188, 199, 203, 205, 206, 211, 213, 214, 217, 218, 220, 227, 229, 230, 233, 234, 236, 175, 183, 187, 189, 190, 207, 215, 219, 221, 222, 231, 235, 237, 238, 191, 223, 239, 240, 241, 242, 244, 248, 243, 245, 246, 249, 250, 252, 247, 251, 253, 254, 255] : List Nat).map fun (x : Nat) => (x : Int)
def stS5 : List Int := ([0, 1, 2, 4, 8, 16, 32, 64, 128, 3, 5, 6, 9, 10, 12, 17, 18, 20, 24, 33, 34, 36, 40, 48, 65, 66, 68, 72, 80, 96, 129, 130, 132, 136, 144, 7, 11, 13, 14, 19, 21, 22, 25, 26, 28, 35, 37, 38, 41, 42, 44, 49, 50, 52, 56, 67, 69, 70, 73, 74, 76, 81, 82, 84, 88, 97, 98, 100, 104, 112, 131, 133, 134, 137, 138, 140, 145, 146, 148, 152, 15, 23, 27, 29, 30, 39, 43, 45, 46, 51, 53, 54, 57, 58, 60, 71, 75, 77, 78, 83, 85, 86, 89, 90, 92, 99, 101, 102, 105, 106, 108, 113, 114, 116, 120, 135, 139, 141, 142, 147, 149, 150, 153, 154, 156, 31, 47, 55, 59, 61, 62, 79, 87, 91, 93, 94, 103, 107, 109, 110, 115, 117, 118, 121, 122, 124, 143, 151, 155, 157, 158, 63, 95, 111, 119, 123, 125, 126, 159, 127, 160, 192, 161, 162, 164, 168, 176, 193, 194, 196, 200, 208, 224, 163, 165, 166, 169, 170, 172, 177, 178, 180, 184, 195, 197, 198, 201, 202, 204, 209, 210, 212, 216, 225, 226, 228, 232, 167, 171, 173, 174, 179, 181, 182, 185, 186, 188, 199, 203, 205, 206, 211, 213, 214, 217, 218, 220, 227, 229, 230, 233, 234, 236, 175, 183, 187, 189, 190, 207, 215, 219, 221, 222, 231, 235, 237, 238, 191, 223, 239, 240, 241, 242, 244, 248, 243, 245, 246, 249, 250, 252, 247, 251, 253, 254, 255] : List Nat).map fun (x : Nat) => (x : Int)
def stS6 : List Int := ([0, 1, 2, 4, 8, 16, 32, 64, 128, 3, 5, 6, 9, 10, 12, 17, 18, 20, 24, 33, 34, 36, 40, 48, 65, 66, 68, 72, 80, 96, 129, 130, 132, 136, 144, 7, 11, 13, 14, 19, 21, 22, 25, 26, 28, 35, 37, 38, 41, 42, 44, 49, 50, 52, 56, 67, 69, 70, 73, 74, 76, 81, 82, 84, 88, 97, 98, 100, 104, 112, 131, 133, 134, 137, 138, 140, 145, 146, 148, 152, 15, 23, 27, 29, 30, 39, 43, 45, 46, 51, 53, 54, 57, 58, 60, 71, 75, 77, 78, 83, 85, 86, 89, 90, 92, 99, 101, 102, 105, 106, 108, 113, 114, 116, 120, 135, 139, 141, 142, 147, 149, 150, 153, 154, 156, 31, 47, 55, 59, 61, 62, 79, 87, 91, 93, 94, 103, 107, 109, 110, 115, 117, 118, 121, 122, 124, 143, 151, 155, 157, 158, 63, 95, 111, 119, 123, 125, 126, 159, 127, 160, 192, 161, 162, 164, 168, 176, 193, 194, 196, 200, 208, 224, 163, 165, 166, 169, 170, 172, 177, 178, 180, 184, 195, 197, 198, 201, 202, 204, 209, 210, 212, 216, 225, 226, 228, 232, 240, 167, 171, 173, 174, 179, 181, 182, 185, 186, 188, 199, 203, 205, 206, 211, 213, 214, 217, 218, 220, 227, 229, 230, 233, 234, 236, 241, 242, 244, 248, 175, 183, 187, 189, 190, 207, 215, 219, 221, 222, 231, 235, 237, 238, 243, 245, 246, 249, 250, 252, 191, 223, 239, 247, 251, 253, 254, 255] : List Nat).map fun (x : Nat) => (x : Int)
theorem st1 : ∀ K, sl_stableCmpFunc_int_l1 bigFuel 256 256 cmp1 K bigFuel (allSets 8) 0 20 = K stS1 240 := fun K => by kernel_rfl
theorem st2 : sl_insertionSortCmpFunc_int bigFuel stS1 256 240 256 cmp1 = some stS2 := by kernel_rfl
theorem st3 : ∀ K, sl_stableCmpFunc_int_l3 bigFuel 256 256 cmp1 20 K bigFuel stS2 0 40 = K stS3 240 := fun K => by kernel_rfl
theorem st4 : ∀ K, sl_stableCmpFunc_int_l3 bigFuel 256 256 cmp1 40 K bigFuel stS3 0 80 = K stS4 240 := fun K => by kernel_rfl
theorem st5 : ∀ K, sl_stableCmpFunc_int_l3 bigFuel 256 256 cmp1 80 K bigFuel stS4 0 160 = K stS5 160 := fun K => by kernel_rfl
theorem st6 : sl_symMergeCmpFunc_int bigFuel stS5 256 160 240 256 cmp1 = some stS6 := by kernel_rfl
theorem st7 : ∀ K, sl_stableCmpFunc_int_l3 bigFuel 256 256 cmp1 160 K bigFuel stS6 0 320 = K stS6 0 := fun K => by kernel_rfl
theorem st8 : sl_symMergeCmpFunc_int bigFuel stS6 256 0 160 256 cmp1 = some (popSorted 8) := by kernel_rfl
theorem st9 (m : Nat) : sl_stableCmpFunc_int_l2 bigFuel 256 256 cmp1 (m + 5) stS2 20 = some (popSorted 8) := by
  have w (i : Int) (h : -9223372036854775808 ≤ i) (h2 : i < 9223372036854775808) : IntKind.wrap .i64 i = i := wrap_id h h2
  rw [sl_stableCmpFunc_int_l2.eq_2, w (2 * 20) (by decide) (by decide)]
  rw [show decide ((20 : Int) < 256) = true from rfl, cond_true, show (2 * 20 : Int) = 40 from rfl, st3]
  unfold sl_stableCmpFunc_int_j25 sl_stableCmpFunc_int_j36
  rw [w (240 + 20) (by decide) (by decide), show decide ((240 + 20 : Int) < 256) = false from rfl, cond_false, w (20 * 2) (by decide) (by decide)]
  rw [show (20 * 2 : Int) = 40 from rfl, sl_stableCmpFunc_int_l2.eq_2, w (2 * 40) (by decide) (by decide)]
  rw [show decide ((40 : Int) < 256) = true from rfl, cond_true, show (2 * 40 : Int) = 80 from rfl, st4]
  unfold sl_stableCmpFunc_int_j25 sl_stableCmpFunc_int_j36
  rw [w (240 + 40) (by decide) (by decide), show decide ((240 + 40 : Int) < 256) = false from rfl, cond_false, w (40 * 2) (by decide) (by decide)]
  rw [show (40 * 2 : Int) = 80 from rfl, sl_stableCmpFunc_int_l2.eq_2, w (2 * 80) (by decide) (by decide)]
  rw [show decide ((80 : Int) < 256) = true from rfl, cond_true, show (2 * 80 : Int) = 160 from rfl, st5]
  unfold sl_stableCmpFunc_int_j25 sl_stableCmpFunc_int_j36
  rw [w (160 + 80) (by decide) (by decide), show decide ((160 + 80 : Int) < 256) = true from rfl, cond_true, show (160 + 80 : Int) = 240 from rfl, st6]
  rw [Option.bind_some, w (80 * 2) (by decide) (by decide)]
  rw [show (80 * 2 : Int) = 160 from rfl, sl_stableCmpFunc_int_l2.eq_2, w (2 * 160) (by decide) (by decide)]
  rw [show decide ((160 : Int) < 256) = true from rfl, cond_true, show (2 * 160 : Int) = 320 from rfl, st7]
  unfold sl_stableCmpFunc_int_j25 sl_stableCmpFunc_int_j36
  rw [w (0 + 160) (by decide) (by decide), show decide ((0 + 160 : Int) < 256) = true from rfl, cond_true, show (0 + 160 : Int) = 160 from rfl, st8]
  rw [Option.bind_some, w (160 * 2) (by decide) (by decide)]
  rw [show (160 * 2 : Int) = 320 from rfl, sl_stableCmpFunc_int_l2.eq_2, show decide ((320 : Int) < 256) = false from rfl, cond_false]
theorem stab8 : sl_SortStableFunc_int bigFuel (allSets 8) (2 ^ 8) cmp1 = some (popSorted 8) := by
  unfold sl_SortStableFunc_int sl_stableCmpFunc_int
  rw [show ((2 ^ 8 : Nat) : Int) = 256 from rfl, show (2 ^ 8 : Nat) = 256 from rfl, st1]
  unfold sl_stableCmpFunc_int_j7
  rw [st2, Option.bind_some]
  have h := st9 (bigFuel - 5)
  rw [show bigFuel - 5 + 5 = bigFuel from rfl] at h
  rw [h]
  rfl
theorem stab_all {n : Nat} (h1 : 1 ≤ n) (h2 : n ≤ 8) : sl_SortStableFunc_int bigFuel (allSets n) (2 ^ n) cmp1 = some (popSorted n) := by
  have : n = 1 ∨ n = 2 ∨ n = 3 ∨ n = 4 ∨ n = 5 ∨ n = 6 ∨ n = 7 ∨ n = 8 := by omega
  rcases this with rfl | rfl | rfl | rfl | rfl | rfl | rfl | rfl
  · exact stab1
  · exact stab2
  · exact stab3
  · exact stab4
  · exact stab5
  · exact stab6
  · exact stab7
  · exact stab8
theorem allSets_mem {n : Nat} {x : Int} : x ∈ allSets n ↔ 0 ≤ x ∧ x < ((2 ^ n : Nat) : Int) := by
  unfold allSets
  rw [List.mem_map]
  constructor
  · rintro ⟨k, hk, rfl⟩
    have := List.mem_range.1 hk
    exact ⟨by omega, by exact_mod_cast this⟩
  · rintro ⟨a, b⟩
    exact ⟨x.toNat, List.mem_range.2 (by omega), by omega⟩
theorem allSets_rise {n : Nat} : (allSets n).Pairwise (· < ·) := by
  unfold allSets
  rw [List.pairwise_map]
  exact (List.pairwise_lt_range).imp fun h => by exact_mod_cast h
theorem allSets_good {n : Int} (h1 : 1 ≤ n) (h2 : n ≤ 8) : Good n (allSets n.toNat) := by
  have hp := pow_le h1 h2
  refine ⟨fun x => by rw [allSets_mem, isSet_range h1 h2], ?_⟩
  have hm : ∀ x, x ∈ allSets n.toNat → 0 ≤ x ∧ x < ((2 ^ n.toNat : Nat) : Int) := fun x hx => allSets_mem.1 hx
  refine List.Pairwise.imp_of_mem (fun {a b} ha hb hlt hbit => ?_) (allSets_rise (n := n.toNat))
  have r1 := hm a ha
  have r2 := hm b hb
  have := le_of_bits r2.1 (by omega) r1.1 (by omega) hbit
  omega
def apart : List Int → Bool
  | [] => true
  | x :: r => r.all (fun y => !has y x) && apart r
theorem apart_pair : ∀ {l : List Int}, apart l = true → l.Pairwise fun a b => ¬ Bits b a
  | [], _ => .nil
  | x :: r, h => by
    unfold apart at h
    rw [Bool.and_eq_true, List.all_eq_true] at h
    refine List.pairwise_cons.2 ⟨fun y hy hb => ?_, apart_pair h.2⟩
    have := h.1 y hy
    rw [has_iff.2 hb] at this
    cases this
def popIn (n : Nat) : Bool := (List.range (2 ^ n)).all fun k => decide (popOf k < 9)
theorem pop_mem {n : Nat} (h : popIn n = true) {x : Int} : x ∈ popSorted n ↔ 0 ≤ x ∧ x < ((2 ^ n : Nat) : Int) := by
  unfold popSorted
  rw [List.mem_map]
  unfold popIn at h
  rw [List.all_eq_true] at h
  constructor
  · rintro ⟨k, hk, rfl⟩
    rw [List.mem_flatMap] at hk
    obtain ⟨a, _, hk⟩ := hk
    have := List.mem_range.1 (List.mem_filter.1 hk).1
    exact ⟨by omega, by exact_mod_cast this⟩
  · rintro ⟨a, b⟩
    have hk : x.toNat ∈ List.range (2 ^ n) := List.mem_range.2 (by omega)
    refine ⟨x.toNat, List.mem_flatMap.2 ⟨popOf x.toNat, List.mem_range.2 (by simpa using h _ hk), List.mem_filter.2 ⟨hk, by simp⟩⟩, by omega⟩
theorem pop_check {n : Nat} (h1 : 1 ≤ n) (h2 : n ≤ 8) : popIn n = true ∧ apart (popSorted n) = true ∧ (popSorted n).length = 2 ^ n := by
  have : n = 1 ∨ n = 2 ∨ n = 3 ∨ n = 4 ∨ n = 5 ∨ n = 6 ∨ n = 7 ∨ n = 8 := by omega
  rcases this with rfl | rfl | rfl | rfl | rfl | rfl | rfl | rfl
  · exact ⟨by kernel_rfl, by kernel_rfl, by kernel_rfl⟩
  · exact ⟨by kernel_rfl, by kernel_rfl, by kernel_rfl⟩
  · exact ⟨by kernel_rfl, by kernel_rfl, by kernel_rfl⟩
  · exact ⟨by kernel_rfl, by kernel_rfl, by kernel_rfl⟩
  · exact ⟨by kernel_rfl, by kernel_rfl, by kernel_rfl⟩
  · exact ⟨by kernel_rfl, by kernel_rfl, by kernel_rfl⟩
  · exact ⟨by kernel_rfl, by kernel_rfl, by kernel_rfl⟩
  · exact ⟨by kernel_rfl, by kernel_rfl, by kernel_rfl⟩
theorem pop_good {n : Int} (h1 : 1 ≤ n) (h2 : n ≤ 8) : Good n (popSorted n.toNat) := by
  obtain ⟨a, b, _⟩ := pop_check (n := n.toNat) (by omega) (by omega)
  exact ⟨fun x => by rw [pop_mem a, isSet_range h1 h2], apart_pair b⟩
theorem crit_l1 {n : Nat} (hn : n ≤ 8) (K : List Int → Nat → Option (List dpDep)) : ∀ (r : List Nat) (k : Nat) (v : List Int), v = (List.range k).map (fun (x : Nat) => (x : Int)) → k + r.length = 2 ^ n →
    dp_critical_l1 K r k v v.length = K (allSets n) (2 ^ n)
  | [], k, v, hv, hk => by
    simp only [List.length_nil, Nat.add_zero] at hk
    subst hk
    rw [dp_critical_l1.eq_1, hv]
    simp [allSets]
  | x :: r, k, v, hv, hk => by
    have hp : 2 ^ n ≤ 2 ^ 8 := Nat.pow_le_pow_right (by omega) hn
    simp only [List.length_cons] at hk
    have hl : v.length = k := by rw [hv]; simp
    rw [dp_critical_l1.eq_2]
    have hcap : capOk 8 (v.length + [(k : Int)].length) = true := by
      simp only [capOk, Bool.and_eq_true, hl, List.length_singleton]
      exact ⟨Nat.ble_eq_true_of_le (by omega), Nat.ble_eq_true_of_le (by omega)⟩
    rw [hcap, snap_full]
    simp only [chk, cond_true]
    refine crit_l1 hn K r (k + 1) _ ?_ (by omega)
    rw [hv, List.range_succ]
    simp
theorem crit_2 {d : dpDep} {x : Int} : dp_critical_2 d x = some (has d.f_From x && !has d.f_To x) := by
  unfold dp_critical_2 dp_critical_2_j4
  have q1 : (iAndNot .i64 d.f_From x == 0) = has d.f_From x := rfl
  have q2 : (iAndNot .i64 d.f_To x != 0) = !has d.f_To x := rfl
  rw [q1, q2]
  cases has d.f_From x <;> rfl
theorem crit_l2 {f : Int → Int} {g : Int → Option Int} {W : List Int} (hg : ∀ x, x ∈ W → g x = some (f x)) (hW : W.length ≤ 256) (K : List dpDep → Nat → Option (List dpDep)) :
    ∀ (rest : List Int) (r : List Nat) (pre : List Int) (acc : List dpDep), pre ++ rest = W → r.length = rest.length → acc.length ≤ pre.length →
    dp_critical_l2 g W.length W K r pre.length acc acc.length = K (critGo f rest acc) (critGo f rest acc).length
  | [], r, pre, acc, h, hr, ha => by
    obtain rfl := List.length_eq_zero_iff.1 (by simpa using hr)
    rfl
  | x :: rest, r, pre, acc, h, hr, ha => by
    cases r with
    | nil => simp at hr
    | cons y r =>
      simp only [List.length_cons] at hr
      have hlen : pre.length + (rest.length + 1) = W.length := by rw [← h]; simp
      rw [dp_critical_l2.eq_2]
      have h2 : decide ((0 : Int) ≤ (pre.length : Int) ∧ (pre.length : Int) < ((W.length : Nat) : Int)) = true := decide_eq_true (by omega)
      have g1 : W[0 + Int.toNat (pre.length : Int)]? = some x := by rw [← h]; exact get_at (by simp)
      have hgx : g x = some (f x) := hg x (by rw [← h]; simp)
      have hcf : sl_ContainsFunc_dpDep (snap 0 acc.length acc) (fun y0 => dp_critical_2 y0 x) = some (wants acc x) := by
        rw [snap_full]
        exact containsFunc_dep _ _ acc (lenOk_of (by omega)) (fun d _ => crit_2)
      simp only [h2, g1, hgx, hcf, chk, cond_true, Option.bind_some]
      unfold dp_critical_j26 dp_critical_j22
      rw [snap_full, hgx]
      unfold critGo
      have ih1 := crit_l2 hg hW K rest r (pre ++ [x]) acc (by simpa using h) (by omega) (by simp; omega)
      have ih2 := crit_l2 hg hW K rest r (pre ++ [x]) (acc ++ [⟨x, f x⟩]) (by simpa using h) (by omega) (by simp; omega)
      simp only [List.length_append, List.length_singleton] at ih1 ih2
      have hcap : capOk 16 (acc.length + [(⟨x, f x⟩ : dpDep)].length) = true := by
        simp only [capOk, Bool.and_eq_true, List.length_singleton]
        exact ⟨Nat.ble_eq_true_of_le (by omega), Nat.ble_eq_true_of_le (by omega)⟩
      cases hne : (f x != x) with
      | false => simp only [cond_false, Bool.false_and]; exact ih1
      | true =>
        simp only [cond_true, Bool.true_and]
        cases hw : wants acc x with
        | true => simp only [Bool.not_true, cond_false]; exact ih1
        | false =>
          simp only [Bool.not_false, cond_true, Option.bind_some, chk]
          rw [hcap]
          simp only [cond_true, List.length_append, List.length_singleton]
          exact ih2
def ltFrom (x y : dpDep) : Bool := decide (x.f_From < y.f_From)
theorem ltFrom_ord : Ord' dpDep ltFrom := by
  refine ⟨fun x y h => ?_, fun x y z h k => ?_⟩
  · unfold ltFrom at *
    simp only [decide_eq_true_eq, decide_eq_false_iff_not] at *
    omega
  · unfold ltFrom at *
    simp only [decide_eq_false_iff_not] at *
    omega
def smallFrom (d : dpDep) : Prop := 0 ≤ d.f_From ∧ d.f_From < 256
theorem cmp_from : Cmp (fun y0 y1 => dp_critical_3 y0 y1) ltFrom smallFrom := by
  intro x y hx hy
  refine ⟨_, rfl, ?_⟩
  unfold ltFrom smallFrom at *
  rw [wrap64 (by omega) (by omega)]
  congr 1
  simp only [eq_iff_iff]
  omega
theorem len_small {k : Nat} (h : k ≤ 12) : ∃ w, mb_Len (IntKind.wrap .u64 ((k : Nat) : Int)) = some w := by
  have : k = 0 ∨ k = 1 ∨ k = 2 ∨ k = 3 ∨ k = 4 ∨ k = 5 ∨ k = 6 ∨ k = 7 ∨ k = 8 ∨ k = 9 ∨ k = 10 ∨ k = 11 ∨ k = 12 := by omega
  rcases this with rfl | rfl | rfl | rfl | rfl | rfl | rfl | rfl | rfl | rfl | rfl | rfl | rfl
  · exact ⟨0, by kernel_rfl⟩
  · exact ⟨1, by kernel_rfl⟩
  · exact ⟨2, by kernel_rfl⟩
  · exact ⟨2, by kernel_rfl⟩
  · exact ⟨3, by kernel_rfl⟩
  · exact ⟨3, by kernel_rfl⟩
  · exact ⟨3, by kernel_rfl⟩
  · exact ⟨3, by kernel_rfl⟩
  · exact ⟨4, by kernel_rfl⟩
  · exact ⟨4, by kernel_rfl⟩
  · exact ⟨4, by kernel_rfl⟩
  · exact ⟨4, by kernel_rfl⟩
  · exact ⟨4, by kernel_rfl⟩
theorem sort_small {g : dpDep → dpDep → Option Int} {lt : dpDep → dpDep → Bool} {A : dpDep → Prop} (hg : Cmp g lt A) (ho : Ord' dpDep lt) {M : List dpDep} (hM : M.length ≤ 12) (hA : ∀ y, y ∈ M → A y) :
    ∃ M', M'.Perm M ∧ Sorted lt M' ∧ sl_SortFunc_dpDep bigFuel M M.length g = some M' := by
  obtain ⟨w, hw⟩ := len_small hM
  obtain ⟨M', i1, i2, i3⟩ := insertion_sorts (fuel := bigFuel - 1) hg ho (n := M.length) (by omega) (by unfold bigFuel; omega) [] M [] (by simp) hA
  refine ⟨M', i1, i2, ?_⟩
  unfold sl_SortFunc_dpDep
  rw [hw, show bigFuel = (bigFuel - 1) + 1 from rfl]
  simp only [Option.bind_some]
  rw [sl_pdqsortCmpFunc_dpDep.eq_2]
  obtain ⟨m, hm⟩ : ∃ m, bigFuel - 1 + 1 - 1 = m := ⟨_, rfl⟩
  have e : ∀ fu, sl_pdqsortCmpFunc_dpDep_l1 (bigFuel - 1) M.length g fu (bigFuel - 1) M 0 (M.length : Int) w true true = sl_pdqsortCmpFunc_dpDep_l1 (bigFuel - 1) M.length g fu ((bigFuel - 2) + 1) M 0 (M.length : Int) w true true := fun fu => rfl
  rw [e, sl_pdqsortCmpFunc_dpDep_l1.eq_2]
  have h0 : decide (IntKind.wrap .i64 ((M.length : Int) - 0) ≤ 12) = true := by
    rw [wrap64 (by omega) (by omega)]
    exact decide_eq_true (by omega)
  rw [h0]
  simp only [List.length_nil, List.nil_append, List.append_nil, Nat.zero_add] at i3
  simp only [cond_true]
  rw [show (((0 : Nat) : Int)) = 0 from rfl] at i3
  rw [i3]
  rfl
theorem critical_val {n : Int} (h1 : 1 ≤ n) (h2 : n ≤ 8) {f : Int → Int} {g : Int → Option Int} (hg : ∀ x, isSet n x = true → g x = some (f x)) (hsm : (critGo f (popSorted n.toNat) []).length ≤ 12) :
    dp_critical bigFuel n g = some (critGo f (allSets n.toNat) []) := by
  have hp := pow_le h1 h2
  have hn : decide (0 ≤ n) = true := decide_eq_true (by omega)
  have hr : lenOk (List.range (2 ^ n.toNat)) = true := lenOk_of (by simp; omega)
  have gO := pop_good h1 h2
  have gA := allSets_good h1 h2
  obtain ⟨_, _, hpl⟩ := pop_check (n := n.toNat) (by omega) (by omega)
  unfold dp_critical
  rw [iShl_one h1 h2, Int.toNat_natCast]
  simp only [hn, hr, chk, cond_true]
  rw [crit_l1 (n := n.toNat) (by omega) _ _ 0 [] rfl (by simp)]
  unfold dp_critical_j5
  have hst := stab_all (n := n.toNat) (by omega) (by omega)
  unfold cmp1 at hst
  rw [hst, Int.toNat_natCast]
  simp only [Option.bind_some, hr, chk, cond_true]
  have := crit_l2 (f := f) (g := g) (W := popSorted n.toNat) (fun x hx => hg x ((gO.all x).1 hx)) (by rw [hpl]; exact hp) (dp_critical_j18 bigFuel) (popSorted n.toNat) (List.range (2 ^ n.toNat)) [] [] rfl (by simp [hpl]) (Nat.le_refl _)
  rw [hpl] at this
  simp only [List.length_nil] at this ⊢
  rw [this]
  unfold dp_critical_j18
  have fO := critGo_spec (f := f) gO
  have fA := critGo_spec (f := f) gA
  obtain ⟨S, i1, i2, i3⟩ := sort_small cmp_from ltFrom_ord hsm (fun d hd => by
    have := (isSet_range h1 h2).1 ((gO.all _).1 (fO.mem hd))
    exact ⟨this.1, by omega⟩)
  rw [i3]
  have hSl : (critGo f (popSorted n.toNat) []).length = S.length := i1.length_eq.symm
  simp only [Option.bind_some]
  rw [hSl, snap_full]
  congr 1
  have hnod : (popSorted n.toNat).Nodup := gO.rise.imp fun {u v} h (e : u = v) => h (by rw [e]; exact Bits.refl _)
  have hfn : ((critGo f (popSorted n.toNat) []).map fun d => d.f_From).Nodup := fO.from'.nodup hnod
  have hSn : (S.map fun d => d.f_From).Nodup := ((i1.map fun d => d.f_From).nodup_iff).2 hfn
  refine rise_eq ?_ ?_ (fun d => (i1.mem_iff).trans (found_same h1 h2 gO gA fO fA d))
  · unfold List.Nodup at hSn
    rw [List.pairwise_map] at hSn
    unfold Sorted at i2
    refine (hSn.and i2).imp fun {u v} h => ?_
    obtain ⟨p, q⟩ := h
    unfold ltFrom at q
    have := decide_eq_false_iff_not.1 q
    omega
  · have := (allSets_rise (n := n.toNat)).sublist fA.from'
    rw [List.pairwise_map] at this
    exact this
theorem cl_closer {n : Int} {ds : List dpDep} (hl : lenOk ds = true) (ho : okArgs n ds = true) : Closer n (cl ds) := by
  obtain ⟨h1, h2, h3⟩ := ok_parts ho
  have hT : ∀ d, d ∈ ds → wf64 d.f_To := fun d hd => setWf h1 h2 (h3 d hd).2
  refine ⟨fun x hx => ?_, fun x hx => ?_, fun x y hx hy hb => ?_, fun x hx => ?_⟩
  · exact closure_isSet ho hT (setWf h1 h2 hx) hx (cl_spec hl (setWf h1 h2 hx))
  · exact (cl_spec hl (setWf h1 h2 hx)).sup
  · have cy := cl_spec hl (setWf h1 h2 hy)
    exact (cl_spec hl (setWf h1 h2 hx)).least _ cy.closed (hb.trans cy.sup)
  · have cx := cl_spec hl (setWf h1 h2 hx)
    have cc := cl_spec hl cx.wf
    exact Bits.antisymm cc.wf cx.wf (cc.least _ cx.closed (Bits.refl _)) cc.sup
theorem critical_few {n : Int} {ds : List dpDep} (hl : lenOk ds = true) (ho : okArgs n ds = true) : (critGo (cl ds) (popSorted n.toNat) []).length ≤ ds.length := by
  obtain ⟨h1, h2, h3⟩ := ok_parts ho
  exact found_least h1 h2 (cl_closer hl ho) (pop_good h1 h2) (critGo_spec (pop_good h1 h2)) h3 (fun x hx => cl_spec hl (setWf h1 h2 hx))
theorem Critical_val {n : Int} {ds : List dpDep} (hl : lenOk ds = true) : dp_Critical bigFuel n ds = some (bif okArgs n ds then (critGo (cl ds) (allSets n.toNat) [], 0) else ([], 2)) := by
  unfold dp_Critical dp_closure
  rw [valid_eq hl]
  cases ho : okArgs n ds with
  | false => rfl
  | true =>
    obtain ⟨h1, h2, h3⟩ := ok_parts ho
    have h12 : ds.length ≤ 12 := by
      simp only [okArgs, Bool.and_eq_true, decide_eq_true_eq] at ho
      exact ho.1.2
    simp only [Option.bind_some, Bool.not_true, cond_false, cond_true]
    rw [critical_val (f := cl ds) h1 h2 (fun x hx => cl_eq hl (setWf h1 h2 hx) (Nat.le_refl _)) (Nat.le_trans (critical_few hl ho) h12)]
    rfl
theorem critical_len {n : Int} {ds : List dpDep} (hl : lenOk ds = true) (ho : okArgs n ds = true) : (critGo (cl ds) (allSets n.toNat) []).length ≤ ds.length := by
  obtain ⟨h1, h2, h3⟩ := ok_parts ho
  exact found_least h1 h2 (cl_closer hl ho) (allSets_good h1 h2) (critGo_spec (allSets_good h1 h2)) h3 (fun x hx => cl_spec hl (setWf h1 h2 hx))
theorem alike_l1 {n : Int} (h1 : 1 ≤ n) (h2 : n ≤ 8) {a b : List dpDep} (la : lenOk a = true) (lb : lenOk b = true) (oa : okArgs n a = true) (ob : okArgs n b = true) : ∀ (r : List Nat) (k : Nat), k + r.length ≤ 2 ^ n.toNat →
    lw1_alike_l1 bigFuel n a b lw1_alike_j5 r k = some ((List.range' k r.length).all (fun j => cl a (j : Int) == cl b (j : Int)), true)
  | [], k, hk => rfl
  | y :: r, k, hk => by
    simp only [List.length_cons] at hk
    have hp := pow_le h1 h2
    have hs : isSet n (k : Int) = true := (isSet_range h1 h2).2 ⟨by omega, by exact_mod_cast (show k < 2 ^ n.toNat by omega)⟩
    have hw : wf64 (k : Int) := by unfold wf64; omega
    rw [lw1_alike_l1.eq_2, Closure_val la hw (Nat.le_refl _), Closure_val lb hw (Nat.le_refl _), oa, ob, hs]
    simp only [Bool.and_self, cond_true, Option.bind_some, bne_self_eq_false, cond_false]
    unfold lw1_alike_j15
    rw [List.length_cons, List.range'_succ, List.all_cons]
    cases hc : (cl a (k : Int) == cl b (k : Int)) with
    | false =>
      have : (cl a (k : Int) != cl b (k : Int)) = true := by unfold bne; rw [hc]; rfl
      simp [this]
    | true =>
      have : (cl a (k : Int) != cl b (k : Int)) = false := by unfold bne; rw [hc]; rfl
      simp only [this, cond_false, Bool.true_and]
      exact alike_l1 h1 h2 la lb oa ob r (k + 1) (by omega)
theorem alike_val {n : Int} (h1 : 1 ≤ n) (h2 : n ≤ 8) {a b : List dpDep} (la : lenOk a = true) (lb : lenOk b = true) (ob : okArgs n b = true) :
    lw1_alike bigFuel n a b = some (bif okArgs n a then ((List.range (2 ^ n.toNat)).all (fun j => cl a (j : Int) == cl b (j : Int)), true) else (false, false)) := by
  have hp := pow_le h1 h2
  have hn : decide (0 ≤ n) = true := decide_eq_true (by omega)
  have hr : lenOk (List.range (2 ^ n.toNat)) = true := lenOk_of (by simp; omega)
  unfold lw1_alike
  rw [iShl_one h1 h2, Int.toNat_natCast]
  simp only [hn, hr, chk, cond_true]
  cases oa : okArgs n a with
  | true =>
    rw [alike_l1 h1 h2 la lb oa ob _ 0 (by simp), List.length_range, ← List.range_eq_range']
    rfl
  | false =>
    obtain ⟨m, hm⟩ : ∃ m, 2 ^ n.toNat = m + 1 := ⟨2 ^ n.toNat - 1, by have := Nat.two_pow_pos n.toNat; omega⟩
    rw [hm, List.range_succ_eq_map, lw1_alike_l1.eq_2]
    have hw : wf64 ((0 : Nat) : Int) := by unfold wf64; omega
    have hs : isSet n ((0 : Nat) : Int) = true := (isSet_range h1 h2).2 ⟨by omega, by exact_mod_cast Nat.two_pow_pos n.toNat⟩
    rw [Closure_val la hw (Nat.le_refl _), Closure_val lb hw (Nat.le_refl _), oa, ob, hs]
    rfl
theorem dependBase_true {n : Int} {l other : List rf1Dep} (hl : lenOk l = true) (hol : lenOk other = true) : lw1_DependBase bigFuel n l other = some true := by
  have hf : bigFuel ≤ bigFuel := Nat.le_refl _
  obtain ⟨ds, hds⟩ : ∃ ds, (l.take 14).map toDep = ds := ⟨_, rfl⟩
  obtain ⟨os, hos⟩ : ∃ os, (other.take 14).map toDep = os := ⟨_, rfl⟩
  have hlen : lenOk ds = true := hds ▸ lenOk_take
  have hlo : lenOk os = true := hos ▸ lenOk_take
  unfold lw1_DependBase
  rw [deps_eq hl, hds]
  simp only [Option.bind_some]
  rw [Critical_val hlen]
  cases ho : okArgs n ds with
  | false => simp only [cond_false, Option.bind_some, awake_eq hf, lw1_DependBase_j9, lw1_DependBase_j11]; rfl
  | true =>
    obtain ⟨h1, h2, h3⟩ := ok_parts ho
    have hd12 : ds.length ≤ 12 := by
      simp only [okArgs, Bool.and_eq_true, decide_eq_true_eq] at ho
      exact ho.1.2
    have hdl : ds.length ≤ l.length := by rw [← hds]; simp; omega
    have hoo : os.length ≤ other.length := by rw [← hos]; simp; omega
    have hcl := critical_len hlen ho
    have gA := allSets_good h1 h2
    have fA := critGo_spec (f := cl ds) gA
    have cc := cl_closer hlen ho
    obtain ⟨C, hC⟩ : ∃ C, critGo (cl ds) (allSets n.toNat) [] = C := ⟨_, rfl⟩
    rw [hC] at hcl fA ⊢
    have hCo : okArgs n C = true := by
      unfold okArgs
      simp only [Bool.and_eq_true, decide_eq_true_eq, List.all_eq_true]
      refine ⟨⟨⟨h1, h2⟩, by omega⟩, fun d hd => ?_⟩
      have := (gA.all _).1 (fA.mem hd)
      exact ⟨this, by rw [fA.to d hd]; exact cc.set _ this⟩
    have hCl : lenOk C = true := lenOk_of (by omega)
    have a1 : decide (n < 1) = false := decide_eq_false (by omega)
    have a2 : decide (n > 8) = false := decide_eq_false (by omega)
    have a3 : decide ((C.length : Int) ≤ 12) = true := decide_eq_true (by omega)
    have a4 : decide ((C.length : Int) > (l.length : Int)) = false := decide_eq_false (by omega)
    simp only [cond_true, Option.bind_some, bne_self_eq_false, cond_false, a1, a2, lw1_DependBase_j9, a3]
    rw [deps_eq hl, hds]
    simp only [Option.bind_some]
    rw [alike_val h1 h2 hCl hlen ho, hCo]
    have hall : (List.range (2 ^ n.toNat)).all (fun j => cl C (j : Int) == cl ds (j : Int)) = true := by
      rw [List.all_eq_true]
      intro j hj
      have hj' := List.mem_range.1 hj
      have hs : isSet n (j : Int) = true := (isSet_range h1 h2).2 ⟨by omega, by exact_mod_cast hj'⟩
      exact beq_iff_eq.2 (found_cl h1 h2 cc gA fA hs (cl_spec hCl (setWf h1 h2 hs)))
    rw [hall]
    simp only [cond_true, Option.bind_some, lw1_DependBase_j15, Bool.not_true, cond_false, a4, lw1_DependBase_j22]
    rw [deps_eq hol, hos, deps_eq hl, hds]
    simp only [Option.bind_some]
    rw [alike_val h1 h2 hlo hlen ho, awake_eq hf]
    cases oo : okArgs n os with
    | false => rfl
    | true =>
      cases hal : (List.range (2 ^ n.toNat)).all (fun j => cl os (j : Int) == cl ds (j : Int)) with
      | false => rfl
      | true =>
        rw [List.all_eq_true] at hal
        have hle : C.length ≤ os.length := by
          refine found_least h1 h2 cc gA fA (ok_parts oo).2.2 fun x hx => ?_
          have hx' := (isSet_range h1 h2).1 hx
          have := hal x.toNat (List.mem_range.2 (by omega))
          have e : ((x.toNat : Nat) : Int) = x := by omega
          rw [e] at this
          rw [← beq_iff_eq.1 this]
          exact cl_spec hlo (setWf h1 h2 hx)
        have a5 : decide ((C.length : Int) ≤ (other.length : Int)) = true := decide_eq_true (by omega)
        simp only [cond_true, Option.bind_some, Bool.not_true, cond_false, a5, lw1_DependBase_j29]
end Go.AM
