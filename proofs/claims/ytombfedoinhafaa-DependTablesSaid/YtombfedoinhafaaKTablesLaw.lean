/-
  PLAIN FACTS AND THE LAW (gathered by shake.py). No statement of the seat is proved here.
-/
import Derived.Test.YtombfedoinhafaaAWord
import Derived.Sort.AssemblyPlain
import Derived.Sort.LotD5
import Derived.Test.YtombfedoinhafaaK1810
set_option linter.unusedVariables false
set_option linter.unusedSimpArgs false
set_option maxRecDepth 100000
namespace Go.AM
open Go.Proofs
theorem indexFunc_dep (g : dpDep → Option Bool) (p : dpDep → Bool) (a : List dpDep) (hl : lenOk a = true) (hg : ∀ x, x ∈ a → g x = some (p x)) :
    ∃ r : Int, sl_IndexFunc_dpDep a g = some r ∧ (decide (r ≥ 0)) = a.any p := by
  unfold sl_IndexFunc_dpDep
  rw [hl]
  simp only [chk, cond_true]
  have : ∀ (l : List dpDep) (k : Nat), (∀ x, x ∈ l → g x = some (p x)) → ∃ r : Int, sl_IndexFunc_dpDep_l1 g (sl_IndexFunc_dpDep_j4) l k = some r ∧ (decide (r ≥ 0)) = l.any p := by
    intro l
    induction l with
    | nil => intro k _; exact ⟨-1, rfl, rfl⟩
    | cons x l ih =>
      intro k h
      rw [sl_IndexFunc_dpDep_l1.eq_2, h x (by simp)]
      simp only [Option.bind_some, List.any_cons]
      cases p x with
      | true => exact ⟨k, rfl, by simp⟩
      | false => simpa using ih (k + 1) (fun x hx => h x (by simp [hx]))
  exact this a 0 hg
theorem containsFunc_dep (g : dpDep → Option Bool) (p : dpDep → Bool) (a : List dpDep) (hl : lenOk a = true) (hg : ∀ x, x ∈ a → g x = some (p x)) :
    sl_ContainsFunc_dpDep a g = some (a.any p) := by
  obtain ⟨r, h1, h2⟩ := indexFunc_dep g p a hl hg
  unfold sl_ContainsFunc_dpDep
  rw [h1, ← h2]; rfl
theorem indexFunc_int (g : Int → Option Bool) (p : Int → Bool) (a : List Int) (hl : lenOk a = true) (hg : ∀ x, x ∈ a → g x = some (p x)) :
    ∃ r : Int, sl_IndexFunc_int a g = some r ∧ (decide (r ≥ 0)) = a.any p := by
  unfold sl_IndexFunc_int
  rw [hl]
  simp only [chk, cond_true]
  have : ∀ (l : List Int) (k : Nat), (∀ x, x ∈ l → g x = some (p x)) → ∃ r : Int, sl_IndexFunc_int_l1 g (sl_IndexFunc_int_j4) l k = some r ∧ (decide (r ≥ 0)) = l.any p := by
    intro l
    induction l with
    | nil => intro k _; exact ⟨-1, rfl, rfl⟩
    | cons x l ih =>
      intro k h
      rw [sl_IndexFunc_int_l1.eq_2, h x (by simp)]
      simp only [Option.bind_some, List.any_cons]
      cases p x with
      | true => exact ⟨k, rfl, by simp⟩
      | false => simpa using ih (k + 1) (fun x hx => h x (by simp [hx]))
  exact this a 0 hg
theorem containsFunc_int (g : Int → Option Bool) (p : Int → Bool) (a : List Int) (hl : lenOk a = true) (hg : ∀ x, x ∈ a → g x = some (p x)) :
    sl_ContainsFunc_int a g = some (a.any p) := by
  obtain ⟨r, h1, h2⟩ := indexFunc_int g p a hl hg
  unfold sl_ContainsFunc_int
  rw [h1, ← h2]; rfl
def isSet (n x : Int) : Bool := decide (0 ≤ x) && decide (x < iShl .i64 1 n)
theorem lenOk_of {α : Type} {l : List α} (h : l.length ≤ 9223372036854775807) : lenOk l = true := by
  exact Nat.ble_eq_true_of_le h
theorem sets_eq {n : Int} {l : List Int} (hn : 0 ≤ n) (hl : lenOk l = true) : dp_sets n l = some (l.all (isSet n)) := by
  unfold dp_sets
  rw [containsFunc_int _ (fun x => !isSet n x) l hl]
  · simp only [Option.bind_some]
    congr 1
    induction l with
    | nil => rfl
    | cons x l ih => 
      have hl' : lenOk l = true := lenOk_of (by have := Nat.le_of_ble_eq_true hl; simp at this; omega)
      simp only [List.any_cons, List.all_cons, Bool.not_or, Bool.not_not, ih hl']
  · intro x _
    unfold dp_sets_1 dp_sets_1_j4 isSet
    have : decide (0 ≤ n) = true := by simpa using hn
    simp only [this, chk, cond_true]
    by_cases h : x < 0
    · have h0 : ¬ 0 ≤ x := by omega
      simp [h, h0]
    · have h0 : 0 ≤ x := by omega
      simp [h, h0]
      by_cases h2 : iShl .i64 1 n ≤ x
      · have : ¬ x < iShl .i64 1 n := by omega
        simp [h2, this]
      · have : x < iShl .i64 1 n := by omega
        simp [h2, this]
def okArgs (n : Int) (ds : List dpDep) : Bool := decide (1 ≤ n) && decide (n ≤ 8) && decide (ds.length ≤ 12) && ds.all fun d => isSet n d.f_From && isSet n d.f_To
theorem valid_eq {n : Int} {ds : List dpDep} (hl : lenOk ds = true) : dp_valid n ds = some (okArgs n ds) := by
  unfold dp_valid dp_valid_j5 okArgs
  by_cases h1 : n < 1
  · have : ¬ 1 ≤ n := by omega
    simp [h1, this]
  · by_cases h2 : n > 8
    · have : ¬ n ≤ 8 := by omega
      simp [h1, h2, this]
    · have h3 : 1 ≤ n := by omega
      have h4 : n ≤ 8 := by omega
      by_cases h5 : ds.length ≤ 12
      · have h6 : ¬ (ds.length : Int) > 12 := by omega
        simp only [h1, h2, h3, h4, h5, h6, decide_true, decide_false, cond_false, cond_true, Bool.true_and]
        rw [containsFunc_dep _ (fun d => !(isSet n d.f_From && isSet n d.f_To)) ds hl]
        · simp only [Option.bind_some]
          congr 1
          clear hl h5 h6
          induction ds with
          | nil => rfl
          | cons x l ih => simp only [List.any_cons, List.all_cons, Bool.not_or, Bool.not_not, ih]
        · intro d _
          unfold dp_valid_1
          rw [sets_eq (by omega) (by rfl)]
          simp
      · have h6 : (ds.length : Int) > 12 := by omega
        simp [h1, h2, h3, h4, h5, h6]
def Shut (ds : List dpDep) (c : Int) : Prop := ∀ d, d ∈ ds → Bits d.f_From c → Bits d.f_To c
def pass : List dpDep → Int → Bool → Int × Bool
  | [], v, ch => (v, ch)
  | d :: r, v, ch => bif (iAndNot .i64 d.f_From v == 0) && (iAndNot .i64 d.f_To v != 0) then pass r (iOr .i64 v d.f_To) true else pass r v ch
theorem l2_eq (N : Int → Bool → Option Int) : ∀ (l : List dpDep) (k : Nat) (v : Int) (ch : Bool), dp_closure_1_l2 N l k v ch = N (pass l v ch).1 (pass l v ch).2
  | [], k, v, ch => rfl
  | d :: l, k, v, ch => by
    rw [dp_closure_1_l2.eq_2]
    unfold pass dp_closure_1_j16 dp_closure_1_j14
    cases h1 : (iAndNot .i64 d.f_From v == 0)
    · simp only [cond_false, Bool.false_and]; exact l2_eq N l _ _ _
    · cases h2 : (iAndNot .i64 d.f_To v != 0)
      · simp only [cond_true, cond_false, Bool.true_and]; exact l2_eq N l _ _ _
      · simp only [cond_true, Bool.true_and]; exact l2_eq N l _ _ _
theorem pass_spec : ∀ (l : List dpDep) (v : Int) (ch : Bool), wf64 v →
    wf64 (pass l v ch).1 ∧ Bits v (pass l v ch).1 ∧ (∀ c, Shut l c → Bits v c → Bits (pass l v ch).1 c) ∧
    ((pass l v ch).2 = false → ch = false ∧ (pass l v ch).1 = v ∧ Shut l v) ∧ ((pass l v ch).2 = true → ch = true ∨ (pass l v ch).1 ≠ v)
  | [], v, ch, hv => ⟨hv, Bits.refl v, fun c _ h => h, fun h => ⟨h, rfl, fun d hd => by cases hd⟩, fun h => .inl h⟩
  | d :: l, v, ch, hv => by
    unfold pass
    cases hc : (iAndNot .i64 d.f_From v == 0) && (iAndNot .i64 d.f_To v != 0) with
    | false =>
      simp only [cond_false]
      obtain ⟨h1, h2, h3, h4, h5⟩ := pass_spec l v ch hv
      refine ⟨h1, h2, fun c hcl => h3 c (fun e he => hcl e (by simp [he])), fun h => ?_, h5⟩
      obtain ⟨k1, k2, k3⟩ := h4 h
      refine ⟨k1, k2, fun e he hs => ?_⟩
      rcases List.mem_cons.1 he with rfl | he
      · rw [andNot_zero.2 hs] at hc
        simp only [Bool.true_and] at hc
        by_cases hh : Bits e.f_To v
        · exact hh
        · rw [andNot_ne.2 hh] at hc; cases hc
      · exact k3 e he hs
    | true =>
      simp only [cond_true]
      simp only [Bool.and_eq_true] at hc
      have hf := andNot_zero.1 hc.1
      have ht := andNot_ne.1 hc.2
      obtain ⟨h1, h2, h3, h4, h5⟩ := pass_spec l (iOr .i64 v d.f_To) true (wf_or _ _)
      refine ⟨h1, (sub_or_left _ _).trans h2, fun c hcl hs => h3 c (fun e he => hcl e (by simp [he])) (or_sub hs (hcl d (by simp) (hf.trans hs))), fun h => ?_, fun _ => .inr fun e => ?_⟩
      · exact absurd (h4 h).1 (by decide)
      · apply ht
        rw [← e]
        exact (sub_or_right v d.f_To).trans h2
structure IsClosure (ds : List dpDep) (x r : Int) : Prop where
  wf : wf64 r
  sup : Bits x r
  closed : Shut ds r
  least : ∀ c, Shut ds c → Bits x c → Bits r c
theorem IsClosure.unique {ds : List dpDep} {x r s : Int} (h : IsClosure ds x r) (k : IsClosure ds x s) : r = s :=
  Bits.antisymm h.wf k.wf (h.least s k.closed k.sup) (k.least r h.closed h.sup)
theorem l1_spec {ds : List dpDep} (hl : lenOk ds = true) (x : Int) : ∀ (m : Nat) (v : Int), wf64 v → Bits x v → (∀ c, Shut ds c → Bits x c → Bits v c) → 18446744073709551616 - (V v).toNat < m →
    ∃ r, dp_closure_1_l1 ds (dp_closure_1_j4) m v true = some r ∧ IsClosure ds x r
  | 0, v, _, _, _, h => by omega
  | m + 1, v, hv, hx, hleast, hm => by
    rw [dp_closure_1_l1.eq_2]
    simp only [cond_true, hl, chk]
    rw [l2_eq]
    obtain ⟨h1, h2, h3, h4, h5⟩ := pass_spec ds v false hv
    cases hp : (pass ds v false).2 with
    | false =>
      obtain ⟨_, k2, k3⟩ := h4 hp
      rw [k2]
      cases m with
      | zero =>
        have := (V v).isLt
        omega
      | succ m =>
        rw [dp_closure_1_l1.eq_2]
        exact ⟨v, rfl, hv, hx, k3, hleast⟩
    | true =>
      rcases h5 hp with h | h
      · cases h
      · have := toNat_lt_of_sub hv h1 h2 (Ne.symm h)
        have hlt := (V (pass ds v false).1).isLt
        exact l1_spec hl x m _ h1 (hx.trans h2) (fun c hc hs => h3 c hc (hleast c hc hs)) (by omega)
def bigFuel : Nat := 36893488147419103232
theorem closure_spec {ds : List dpDep} (hl : lenOk ds = true) {x : Int} (hx : wf64 x) {fuel : Nat} (hf : bigFuel ≤ fuel) : ∃ r, dp_closure_1 fuel x ds = some r ∧ IsClosure ds x r := by
  unfold dp_closure_1
  exact l1_spec hl x fuel x hx (Bits.refl x) (fun c _ h => h) (by unfold bigFuel at hf; omega)
theorem Closure_eq {n : Int} {ds : List dpDep} {x : Int} (hl : lenOk ds = true) (hx : wf64 x) {fuel : Nat} (hf : bigFuel ≤ fuel) :
    ((okArgs n ds && isSet n x) = false ∧ dp_Closure fuel n ds x = some (0, 2)) ∨ (okArgs n ds = true ∧ isSet n x = true ∧ ∃ r, IsClosure ds x r ∧ dp_Closure fuel n ds x = some (r, 0)) := by
  obtain ⟨r, h1, h2⟩ := closure_spec hl hx hf
  unfold dp_Closure dp_Closure_j6 dp_closure
  rw [valid_eq hl]
  cases ho : okArgs n ds with
  | false => left; simp
  | true =>
    have hn : 0 ≤ n := by
      simp only [okArgs, Bool.and_eq_true, decide_eq_true_eq] at ho; omega
    simp only [Option.bind_some, Bool.not_true, cond_false]
    rw [sets_eq hn (by rfl)]
    cases hs : isSet n x with
    | false => left; simp [hs]
    | true =>
      right
      refine ⟨by first | rfl | trivial, by first | rfl | trivial, r, h2, ?_⟩
      simp [hs, h1]
theorem iShl_one {n : Int} (h1 : 1 ≤ n) (h2 : n ≤ 8) : iShl .i64 1 n = ((2 ^ n.toNat : Nat) : Int) := by
  obtain ⟨m, rfl⟩ := Int.eq_ofNat_of_zero_le (show 0 ≤ n by omega)
  have h3 : 1 ≤ m := by omega
  have h4 : m ≤ 8 := by omega
  have : m = 1 ∨ m = 2 ∨ m = 3 ∨ m = 4 ∨ m = 5 ∨ m = 6 ∨ m = 7 ∨ m = 8 := by omega
  rcases this with rfl | rfl | rfl | rfl | rfl | rfl | rfl | rfl <;> decide +kernel
def full (n : Int) : Int := ((2 ^ n.toNat - 1 : Nat) : Int)
theorem isSet_iff {n x : Int} (h1 : 1 ≤ n) (h2 : n ≤ 8) (hx : wf64 x) : isSet n x = true ↔ Bits x (full n) := by
  unfold full
  rw [sub_full (by omega) hx]
  unfold isSet
  rw [iShl_one h1 h2]
  simp
def toDep (d : rf1Dep) : dpDep := ⟨d.f_From, d.f_To⟩
theorem awake_eq {fuel : Nat} (hf : bigFuel ≤ fuel) : lw1_awake fuel = some true := by
  unfold lw1_awake lw1_awake_j4
  have hc := Closure_eq (n := 3) (ds := [(dpDep.mk 1 2), (dpDep.mk 2 4)]) (x := 1) (by rfl) (by unfold wf64; omega) hf
  have ho : okArgs 3 [(dpDep.mk 1 2), (dpDep.mk 2 4)] = true := by decide +kernel
  have hs : isSet 3 1 = true := by decide +kernel
  rcases hc with ⟨h, _⟩ | ⟨_, _, r, h1, h2⟩
  · rw [ho, hs] at h; cases h
  · have : r = 7 := h1.unique (s := 7) ⟨by unfold wf64; omega, by rw [← sub_iff]; decide +kernel, fun d hd _ => by
        simp at hd; rcases hd with rfl | rfl <;> (rw [← sub_iff]; decide +kernel), fun c hc h1 => by
        have k1 := hc (dpDep.mk 1 2) (by simp) h1
        have k2 := hc (dpDep.mk 2 4) (by simp) k1
        have : (7 : Int) = iOr .i64 (iOr .i64 1 2) 4 := by decide +kernel
        rw [this]
        exact or_sub (or_sub h1 k1) k2⟩
    subst this
    rw [h2]; rfl
def has (y r : Int) : Bool := iAndNot .i64 y r == 0
theorem has_iff {y r : Int} : has y r = true ↔ Bits y r := andNot_zero
theorem full_eq {n : Int} (h1 : 1 ≤ n) (h2 : n ≤ 8) : IntKind.wrap .i64 (iShl .i64 1 n - 1) = full n := by
  obtain ⟨m, rfl⟩ := Int.eq_ofNat_of_zero_le (show 0 ≤ n by omega)
  have : m = 1 ∨ m = 2 ∨ m = 3 ∨ m = 4 ∨ m = 5 ∨ m = 6 ∨ m = 7 ∨ m = 8 := by omega
  rcases this with rfl | rfl | rfl | rfl | rfl | rfl | rfl | rfl <;> decide +kernel
theorem pow_le {n : Int} (h1 : 1 ≤ n) (h2 : n ≤ 8) : 2 ^ n.toNat ≤ 256 := by
  have : n.toNat ≤ 8 := by omega
  calc 2 ^ n.toNat ≤ 2 ^ 8 := Nat.pow_le_pow_right (by decide) this
    _ = 256 := rfl
theorem isSet_range {n x : Int} (h1 : 1 ≤ n) (h2 : n ≤ 8) : isSet n x = true ↔ 0 ≤ x ∧ x < ((2 ^ n.toNat : Nat) : Int) := by
  unfold isSet; rw [iShl_one h1 h2]; simp
theorem le_of_bits {a b : Int} (ha : 0 ≤ a) (ha2 : a < 256) (hb : 0 ≤ b) (hb2 : b < 256) (h : Bits a b) : a ≤ b := by
  by_cases e : a = b
  · omega
  · have := toNat_lt_of_sub (a := a) (b := b) (by unfold wf64; omega) (by unfold wf64; omega) h e
    have e1 : ∀ c : Int, 0 ≤ c → c < 256 → ((V c).toNat : Int) = c := by
      intro c h0 h1
      have := V_toInt (a := c) (by unfold wf64; omega)
      rw [BitVec.toInt_eq_toNat_cond] at this
      split at this <;> omega
    have := e1 a ha ha2
    have := e1 b hb hb2
    omega
theorem rSet_val {n x : Int} (hn : 0 ≤ n) : rf1_Set n x = some (isSet n x) := by
  unfold rf1_Set rf1_Set_j4 isSet
  have h0 : decide (0 ≤ n) = true := by simpa using hn
  by_cases h : 0 ≤ x
  · have h1 : x ≥ 0 := h
    simp [h, h1, h0, chk]
  · have h1 : ¬ x ≥ 0 := h
    simp [h, h1]
theorem rPair_val {n : Int} {d : rf1Dep} (hn : 0 ≤ n) : rf1_Pair n d = some (isSet n d.f_From && isSet n d.f_To) := by
  unfold rf1_Pair rf1_Pair_j4
  rw [rSet_val hn]
  cases h : isSet n d.f_From with
  | true => simp [h, rSet_val hn]
  | false => simp [h]
theorem toDep_from (d : rf1Dep) : (toDep d).f_From = d.f_From := rfl
theorem toDep_to (d : rf1Dep) : (toDep d).f_To = d.f_To := rfl
def bit (x : Int) (k : Nat) : Bool := (V x).getLsbD k
theorem setWf {n x : Int} (h1 : 1 ≤ n) (h2 : n ≤ 8) (h : isSet n x = true) : wf64 x := by
  have := (isSet_range h1 h2).1 h
  have hp := pow_le h1 h2
  unfold wf64
  omega
structure Closer (n : Int) (f : Int → Int) : Prop where
  set : ∀ x, isSet n x = true → isSet n (f x) = true
  sup : ∀ x, isSet n x = true → Bits x (f x)
  mono : ∀ x y, isSet n x = true → isSet n y = true → Bits x y → Bits (f x) (f y)
  idem : ∀ x, isSet n x = true → f (f x) = f x
def wants (acc : List dpDep) (x : Int) : Bool := acc.any fun d => has d.f_From x && !has d.f_To x
def critGo (f : Int → Int) : List Int → List dpDep → List dpDep
  | [], acc => acc
  | x :: r, acc => critGo f r (bif (f x != x) && !wants acc x then acc ++ [⟨x, f x⟩] else acc)
theorem wants_false {acc : List dpDep} {x : Int} : wants acc x = false ↔ ∀ d, d ∈ acc → Bits d.f_From x → Bits d.f_To x := by
  unfold wants
  rw [List.any_eq_false]
  constructor
  · intro h d hd hb
    have := h d hd
    rw [has_iff.2 hb] at this
    simp only [Bool.true_and, Bool.not_eq_true, Bool.not_eq_false'] at this
    exact has_iff.1 this
  · intro h d hd
    cases hf : has d.f_From x with
    | false => simp
    | true => rw [has_iff.2 (h d hd (has_iff.1 hf))]; simp
structure Good (n : Int) (O : List Int) : Prop where
  all : ∀ x, x ∈ O ↔ isSet n x = true
  rise : O.Pairwise fun a b => ¬ Bits b a
structure Found (f : Int → Int) (pre : List Int) (acc : List dpDep) : Prop where
  from' : (acc.map fun d => d.f_From).Sublist pre
  to : ∀ d, d ∈ acc → d.f_To = f d.f_From
  iff : ∀ x, x ∈ pre → ((⟨x, f x⟩ : dpDep) ∈ acc ↔ f x ≠ x ∧ ∀ d, d ∈ acc → Bits d.f_From x → d.f_From ≠ x → Bits d.f_To x)
theorem Found.mem {f : Int → Int} {pre : List Int} {acc : List dpDep} (h : Found f pre acc) {d : dpDep} (hd : d ∈ acc) : d.f_From ∈ pre :=
  h.from'.subset (List.mem_map_of_mem (f := fun d : dpDep => d.f_From) hd)
theorem critGo_found {n : Int} {f : Int → Int} {O : List Int} (hO : Good n O) : ∀ (r pre : List Int) (acc : List dpDep), pre ++ r = O → Found f pre acc → Found f O (critGo f r acc)
  | [], pre, acc, h, hf => by simp at h; subst h; exact hf
  | x :: r, pre, acc, h, hf => by
    unfold critGo
    refine critGo_found hO r (pre ++ [x]) _ (by simpa using h) ?_
    have hr := hO.rise
    rw [← h, List.pairwise_append] at hr
    have hx : ∀ y, y ∈ pre → ¬ Bits x y := fun y hy => hr.2.2 y hy x (by simp)
    have hxp : x ∉ pre := fun h => hx x h (Bits.refl x)
    cases hc : (f x != x) && !wants acc x with
    | true =>
      simp only [cond_true]
      simp only [Bool.and_eq_true, Bool.not_eq_true', bne_iff_ne, ne_eq] at hc
      obtain ⟨c1, c2⟩ := hc
      refine ⟨?_, ?_, ?_⟩
      · simp only [List.map_append, List.map_cons, List.map_nil]
        exact hf.from'.append (List.Sublist.refl _)
      · intro d hd
        rcases List.mem_append.1 hd with hd | hd
        · exact hf.to d hd
        · simp at hd; subst hd; rfl
      · intro y hy
        rcases List.mem_append.1 hy with hy | hy
        · have hyx : y ≠ x := fun e => hxp (e ▸ hy)
          rw [List.mem_append, List.mem_singleton]
          constructor
          · rintro (h | h)
            · obtain ⟨a, b⟩ := (hf.iff y hy).1 h
              refine ⟨a, fun d hd hb hne => ?_⟩
              rcases List.mem_append.1 hd with hd | hd
              · exact b d hd hb hne
              · simp at hd; subst hd; exact absurd hb (hx y hy)
            · exact absurd (congrArg dpDep.f_From h) hyx
          · rintro ⟨a, b⟩
            exact .inl ((hf.iff y hy).2 ⟨a, fun d hd => b d (List.mem_append_left _ hd)⟩)
        · simp at hy; subst hy
          refine ⟨fun _ => ⟨c1, fun d hd hb hne => ?_⟩, fun _ => by simp⟩
          rcases List.mem_append.1 hd with hd | hd
          · exact wants_false.1 c2 d hd hb
          · simp at hd; subst hd; exact absurd rfl hne
    | false =>
      simp only [cond_false]
      refine ⟨hf.from'.trans (List.sublist_append_left _ _), hf.to, fun y hy => ?_⟩
      rcases List.mem_append.1 hy with hy | hy
      · exact hf.iff y hy
      · simp at hy; subst hy
        constructor
        · intro h; exact absurd (hf.mem h) hxp
        · rintro ⟨a, b⟩
          have : wants acc y = false := wants_false.2 fun d hd hb => b d hd hb (fun e => hxp (e ▸ hf.mem hd))
          rw [this] at hc
          simp at hc
          exact absurd hc a
theorem critGo_spec {n : Int} {f : Int → Int} {O : List Int} (hO : Good n O) : Found f O (critGo f O []) :=
  critGo_found hO O [] [] rfl ⟨by simp, fun d h => absurd h List.not_mem_nil, fun x h => absurd h List.not_mem_nil⟩
theorem dep_eq {f : Int → Int} {d : dpDep} (h : d.f_To = f d.f_From) : d = ⟨d.f_From, f d.f_From⟩ := by
  obtain ⟨a, b⟩ := d; simp at h ⊢; exact h
theorem found_same {n : Int} (h1 : 1 ≤ n) (h2 : n ≤ 8) {f : Int → Int} {O P : List Int} (hO : Good n O) (hP : Good n P) {a b : List dpDep} (ha : Found f O a) (hb : Found f P b) : ∀ d, d ∈ a ↔ d ∈ b := by
  have key : ∀ (k : Nat) (x : Int), x.toNat = k → isSet n x = true → ((⟨x, f x⟩ : dpDep) ∈ a ↔ (⟨x, f x⟩ : dpDep) ∈ b) := by
    intro k
    induction k using Nat.strongRecOn with
    | ind k ih =>
      intro x hk hs
      rw [ha.iff x ((hO.all x).2 hs), hb.iff x ((hP.all x).2 hs)]
      have small : ∀ y, isSet n y = true → Bits y x → y ≠ x → y.toNat < k := by
        intro y hy hyx hne
        have r1 := (isSet_range h1 h2).1 hy
        have r2 := (isSet_range h1 h2).1 hs
        have hp := pow_le h1 h2
        have := le_of_bits (a := y) (b := x) r1.1 (by omega) r2.1 (by omega) hyx
        omega
      constructor
      · rintro ⟨c, e⟩
        refine ⟨c, fun d hd hbx hne => ?_⟩
        have hds : isSet n d.f_From = true := (hP.all _).1 (hb.mem hd)
        have : d ∈ a := by
          have ee := dep_eq (hb.to d hd)
          rw [ee] at hd ⊢
          exact (ih _ (small _ hds hbx hne) d.f_From rfl hds).2 hd
        exact e d this hbx hne
      · rintro ⟨c, e⟩
        refine ⟨c, fun d hd hbx hne => ?_⟩
        have hds : isSet n d.f_From = true := (hO.all _).1 (ha.mem hd)
        have : d ∈ b := by
          have ee := dep_eq (ha.to d hd)
          rw [ee] at hd ⊢
          exact (ih _ (small _ hds hbx hne) d.f_From rfl hds).1 hd
        exact e d this hbx hne
  intro d
  constructor
  · intro hd
    have hds : isSet n d.f_From = true := (hO.all _).1 (ha.mem hd)
    have ee := dep_eq (ha.to d hd)
    rw [ee] at hd ⊢
    exact (key _ d.f_From rfl hds).1 hd
  · intro hd
    have hds : isSet n d.f_From = true := (hP.all _).1 (hb.mem hd)
    have ee := dep_eq (hb.to d hd)
    rw [ee] at hd ⊢
    exact (key _ d.f_From rfl hds).2 hd
theorem rise_eq : ∀ {a b : List dpDep}, a.Pairwise (fun x y => x.f_From < y.f_From) → b.Pairwise (fun x y => x.f_From < y.f_From) → (∀ d, d ∈ a ↔ d ∈ b) → a = b
  | [], [], _, _, _ => rfl
  | [], y :: b, _, _, h => absurd ((h y).2 (by simp)) List.not_mem_nil
  | x :: a, [], _, _, h => absurd ((h x).1 (by simp)) List.not_mem_nil
  | x :: a, y :: b, ha, hb, h => by
    rw [List.pairwise_cons] at ha hb
    have hxy : x = y := by
      rcases List.mem_cons.1 ((h x).1 (by simp)) with e | hx
      · exact e
      · rcases List.mem_cons.1 ((h y).2 (by simp)) with e | hy
        · exact e.symm
        · have := ha.1 y hy
          have := hb.1 x hx
          omega
    subst hxy
    congr 1
    refine rise_eq ha.2 hb.2 fun d => ?_
    constructor
    · intro hd
      rcases List.mem_cons.1 ((h d).1 (by simp [hd])) with e | hd'
      · subst e; exact absurd (ha.1 d hd) (by omega)
      · exact hd'
    · intro hd
      rcases List.mem_cons.1 ((h d).2 (by simp [hd])) with e | hd'
      · subst e; exact absurd (hb.1 d hd) (by omega)
      · exact hd'
theorem andBits {a b c : Int} : Bits c (iAnd .i64 a b) ↔ Bits c a ∧ Bits c b := by
  constructor
  · intro h
    refine ⟨fun i hi => ?_, fun i hi => ?_⟩
    · have := h i hi; rw [V_and] at this; simp at this; exact this.1
    · have := h i hi; rw [V_and] at this; simp at this; exact this.2
  · rintro ⟨h, k⟩ i hi
    rw [V_and]
    simp [h i hi, k i hi]
theorem wrap64 {i : Int} (h1 : -9223372036854775808 ≤ i) (h2 : i ≤ 9223372036854775807) : IntKind.wrap .i64 i = i := wrap_id h1 (by omega)
theorem get_at {α : Type} {L q : List α} {x : α} {i : Nat} (h : i = L.length) : (L ++ x :: q)[i]? = some x := by
  subst h; simp
def Sorted {α : Type} (lt : α → α → Bool) (l : List α) : Prop := l.Pairwise fun a b => lt b a = false
def Cmp {α : Type} (g : α → α → Option Int) (lt : α → α → Bool) (A : α → Prop) : Prop :=
  ∀ x y, A x → A y → ∃ w, g x y = some w ∧ decide (w < 0) = lt x y
def popOf (x : Nat) : Nat := (List.range 9).foldl (fun a i => if x.testBit i then a + 1 else a) 0
def popSorted (n : Nat) : List Int := ((List.range 9).flatMap fun k => (List.range (2 ^ n)).filter fun x => popOf x == k).map fun (x : Nat) => (x : Int)
def allSets (n : Nat) : List Int := (List.range (2 ^ n)).map fun (x : Nat) => (x : Int)
def cmp1 : Int → Int → Option Int := fun y0 y1 => dp_critical_1 y0 y1
theorem stab1 : sl_SortStableFunc_int bigFuel (allSets 1) (2 ^ 1) cmp1 = some (popSorted 1) := by kernel_rfl
theorem stab2 : sl_SortStableFunc_int bigFuel (allSets 2) (2 ^ 2) cmp1 = some (popSorted 2) := by kernel_rfl
theorem stab3 : sl_SortStableFunc_int bigFuel (allSets 3) (2 ^ 3) cmp1 = some (popSorted 3) := by kernel_rfl
theorem stab4 : sl_SortStableFunc_int bigFuel (allSets 4) (2 ^ 4) cmp1 = some (popSorted 4) := by kernel_rfl
theorem stab5 : sl_SortStableFunc_int bigFuel (allSets 5) (2 ^ 5) cmp1 = some (popSorted 5) := by kernel_rfl
theorem stab6 : sl_SortStableFunc_int bigFuel (allSets 6) (2 ^ 6) cmp1 = some (popSorted 6) := by kernel_rfl
theorem stab7 : sl_SortStableFunc_int bigFuel (allSets 7) (2 ^ 7) cmp1 = some (popSorted 7) := by kernel_rfl
def stS1 : List Int := ([0, 1, 2, 4, 8, 16, 3, 5, 6, 9, 10, 12, 17, 18, 7, 11, 13, 14, 19, 15, 32, 20, 24, 33, 34, 36, 21, 22, 25, 26, 28, 35, 37, 38, 23, 27, 29, 30, 39, 31, 40, 48, 41, 42, 44, 49, 50, 52, 56, 43, 45, 46, 51, 53, 54, 57, 58, 47, 55, 59, 64, 65, 66, 68, 72, 67, 69, 70, 73, 74, 76, 60, 71, 75, 77, 78, 61, 62, 79, 63, 80, 96, 81, 82, 84, 88, 97, 98, 83, 85, 86, 89, 90, 92, 99, 87, 91, 93, 94, 95, 100, 104, 112, 101, 102, 105, 106, 108, 113, 114, 116, 103, 107, 109, 110, 115, 117, 118, 111, 119, 128, 129, 130, 132, 136, 131, 133, 134, 137, 138, 120, 135, 139, 121, 122, 124, 123, 125, 126, 127, 144, 140, 145, 146, 148, 152, 141, 142, 147, 149, 150, 153, 154, 156, 143, 151, 155, 157, 158, 159, 160, 161, 162, 164, 168, 176, 163, 165, 166, 169, 170, 172, 177, 178, 167, 171, 173, 174, 179, 175, 192, 193, 194, 196, 180, 184, 195, 197, 198, 181, 182, 185, 186, 188, 199, 183, 187, 189, 190, 191, 200, 208, 201, 202, 204, 209, 210, 212, 216, 203, 205, 206, 211, 213, 214, 217, 218, 207, 215, 219, 224, 225, 226, 228, 232, 220, 227, 229, 230, 233, 234, 236, 221, 222, 231, 235, 237, 238, 223, 239, 240, 241, 242, 243, 244, 245, 246, 247, 248, 249, 250, 251, 252, 253, 254, 255] : List Nat).map fun (x : Nat) => (x : Int)
def stS2 : List Int := ([0, 1, 2, 4, 8, 16, 3, 5, 6, 9, 10, 12, 17, 18, 7, 11, 13, 14, 19, 15, 32, 20, 24, 33, 34, 36, 21, 22, 25, 26, 28, 35, 37, 38, 23, 27, 29, 30, 39, 31, 40, 48, 41, 42, 44, 49, 50, 52, 56, 43, 45, 46, 51, 53, 54, 57, 58, 47, 55, 59, 64, 65, 66, 68, 72, 67, 69, 70, 73, 74, 76, 60, 71, 75, 77, 78, 61, 62, 79, 63, 80, 96, 81, 82, 84, 88, 97, 98, 83, 85, 86, 89, 90, 92, 99, 87, 91, 93, 94, 95, 100, 104, 112, 101, 102, 105, 106, 108, 113, 114, 116, 103, 107, 109, 110, 115, 117, 118, 111, 119, 128, 129, 130, 132, 136, 131, 133, 134, 137, 138, 120, 135, 139, 121, 122, 124, 123, 125, 126, 127, 144, 140, 145, 146, 148, 152, 141, 142, 147, 149, 150, 153, 154, 156, 143, 151, 155, 157, 158, 159, 160, 161, 162, 164, 168, 176, 163, 165, 166, 169, 170, 172, 177, 178, 167, 171, 173, 174, 179, 175, 192, 193, 194, 196, 180, 184, 195, 197, 198, 181, 182, 185, 186, 188, 199, 183, 187, 189, 190, 191, 200, 208, 201, 202, 204, 209, 210, 212, 216, 203, 205, 206, 211, 213, 214, 217, 218, 207, 215, 219, 224, 225, 226, 228, 232, 220, 227, 229, 230, 233, 234, 236, 221, 222, 231, 235, 237, 238, 223, 239, 240, 241, 242, 244, 248, 243, 245, 246, 249, 250, 252, 247, 251, 253, 254, 255] : List Nat).map fun (x : Nat) => (x : Int)
def stS3 : List Int := ([0, 1, 2, 4, 8, 16, 32, 3, 5, 6, 9, 10, 12, 17, 18, 20, 24, 33, 34, 36, 7, 11, 13, 14, 19, 21, 22, 25, 26, 28, 35, 37, 38, 15, 23, 27, 29, 30, 39, 31, 64, 40, 48, 65, 66, 68, 72, 41, 42, 44, 49, 50, 52, 56, 67, 69, 70, 73, 74, 76, 43, 45, 46, 51, 53, 54, 57, 58, 60, 71, 75, 77, 78, 47, 55, 59, 61, 62, 79, 63, 80, 96, 81, 82, 84, 88, 97, 98, 100, 104, 112, 83, 85, 86, 89, 90, 92, 99, 101, 102, 105, 106, 108, 113, 114, 116, 87, 91, 93, 94, 103, 107, 109, 110, 115, 117, 118, 95, 111, 119, 128, 129, 130, 132, 136, 144, 131, 133, 134, 137, 138, 140, 145, 146, 148, 152, 120, 135, 139, 141, 142, 147, 149, 150, 153, 154, 156, 121, 122, 124, 143, 151, 155, 157, 158, 123, 125, 126, 159, 127, 160, 192, 161, 162, 164, 168, 176, 193, 194, 196, 163, 165, 166, 169, 170, 172, 177, 178, 180, 184, 195, 197, 198, 167, 171, 173, 174, 179, 181, 182, 185, 186, 188, 199, 175, 183, 187, 189, 190, 191, 200, 208, 224, 201, 202, 204, 209, 210, 212, 216, 225, 226, 228, 232, 203, 205, 206, 211, 213, 214, 217, 218, 220, 227, 229, 230, 233, 234, 236, 207, 215, 219, 221, 222, 231, 235, 237, 238, 223, 239, 240, 241, 242, 244, 248, 243, 245, 246, 249, 250, 252, 247, 251, 253, 254, 255] : List Nat).map fun (x : Nat) => (x : Int)
def stS4 : List Int := ([0, 1, 2, 4, 8, 16, 32, 64, 3, 5, 6, 9, 10, 12, 17, 18, 20, 24, 33, 34, 36, 40, 48, 65, 66, 68, 72, 7, 11, 13, 14, 19, 21, 22, 25, 26, 28, 35, 37, 38, 41, 42, 44, 49, 50, 52, 56, 67, 69, 70, 73, 74, 76, 15, 23, 27, 29, 30, 39, 43, 45, 46, 51, 53, 54, 57, 58, 60, 71, 75, 77, 78, 31, 47, 55, 59, 61, 62, 79, 63, 128, 80, 96, 129, 130, 132, 136, 144, 81, 82, 84, 88, 97, 98, 100, 104, 112, 131, 133, 134, 137, 138, 140, 145, 146, 148, 152, 83, 85, 86, 89, 90, 92, 99, 101, 102, 105, 106, 108, 113, 114, 116, 120, 135, 139, 141, 142, 147, 149, 150, 153, 154, 156, 87, 91, 93, 94, 103, 107, 109, 110, 115, 117, 118, 121, 122, 124, 143, 151, 155, 157, 158, 95, 111, 119, 123, 125, 126, 159, 127, 160, 192, 161, 162, 164, 168, 176, 193, 194, 196, 200, 208, 224, 163, 165, 166, 169, 170, 172, 177, 178, 180, 184, 195, 197, 198, 201, 202, 204, 209, 210, 212, 216, 225, 226, 228, 232, 167, 171, 173, 174, 179, 181, 182, 185, 186, 188, 199, 203, 205, 206, 211, 213, 214, 217, 218, 220, 227, 229, 230, 233, 234, 236, 175, 183, 187, 189, 190, 207, 215, 219, 221, 222, 231, 235, 237, 238, 191, 223, 239, 240, 241, 242, 244, 248, 243, 245, 246, 249, 250, 252, 247, 251, 253, 254, 255] : List Nat).map fun (x : Nat) => (x : Int)
def stS5 : List Int := ([0, 1, 2, 4, 8, 16, 32, 64, 128, 3, 5, 6, 9, 10, 12, 17, 18, 20, 24, 33, 34, 36, 40, 48, 65, 66, 68, 72, 80, 96, 129, 130, 132, 136, 144, 7, 11, 13, 14, 19, 21, 22, 25, 26, 28, 35, 37, 38, 41, 42, 44, 49, 50, 52, 56, 67, 69, 70, 73, 74, 76, 81, 82, 84, 88, 97, 98, 100, 104, 112, 131, 133, 134, 137, 138, 140, 145, 146, 148, 152, 15, 23, 27, 29, 30, 39, 43, 45, 46, 51, 53, 54, 57, 58, 60, 71, 75, 77, 78, 83, 85, 86, 89, 90, 92, 99, 101, 102, 105, 106, 108, 113, 114, 116, 120, 135, 139, 141, 142, 147, 149, 150, 153, 154, 156, 31, 47, 55, 59, 61, 62, 79, 87, 91, 93, 94, 103, 107, 109, 110, 115, 117, 118, 121, 122, 124, 143, 151, 155, 157, 158, 63, 95, 111, 119, 123, 125, 126, 159, 127, 160, 192, 161, 162, 164, 168, 176, 193, 194, 196, 200, 208, 224, 163, 165, 166, 169, 170, 172, 177, 178, 180, 184, 195, 197, 198, 201, 202, 204, 209, 210, 212, 216, 225, 226, 228, 232, 167, 171, 173, 174, 179, 181, 182, 185, 186, 188, 199, 203, 205, 206, 211, 213, 214, 217, 218, 220, 227, 229, 230, 233, 234, 236, 175, 183, 187, 189, 190, 207, 215, 219, 221, 222, 231, 235, 237, 238, 191, 223, 239, 240, 241, 242, 244, 248, 243, 245, 246, 249, 250, 252, 247, 251, 253, 254, 255] : List Nat).map fun (x : Nat) => (x : Int)
def stS6 : List Int := ([0, 1, 2, 4, 8, 16, 32, 64, 128, 3, 5, 6, 9, 10, 12, 17, 18, 20, 24, 33, 34, 36, 40, 48, 65, 66, 68, 72, 80, 96, 129, 130, 132, 136, 144, 7, 11, 13, 14, 19, 21, 22, 25, 26, 28, 35, 37, 38, 41, 42, 44, 49, 50, 52, 56, 67, 69, 70, 73, 74, 76, 81, 82, 84, 88, 97, 98, 100, 104, 112, 131, 133, 134, 137, 138, 140, 145, 146, 148, 152, 15, 23, 27, 29, 30, 39, 43, 45, 46, 51, 53, 54, 57, 58, 60, 71, 75, 77, 78, 83, 85, 86, 89, 90, 92, 99, 101, 102, 105, 106, 108, 113, 114, 116, 120, 135, 139, 141, 142, 147, 149, 150, 153, 154, 156, 31, 47, 55, 59, 61, 62, 79, 87, 91, 93, 94, 103, 107, 109, 110, 115, 117, 118, 121, 122, 124, 143, 151, 155, 157, 158, 63, 95, 111, 119, 123, 125, 126, 159, 127, 160, 192, 161, 162, 164, 168, 176, 193, 194, 196, 200, 208, 224, 163, 165, 166, 169, 170, 172, 177, 178, 180, 184, 195, 197, 198, 201, 202, 204, 209, 210, 212, 216, 225, 226, 228, 232, 240, 167, 171, 173, 174, 179, 181, 182, 185, 186, 188, 199, 203, 205, 206, 211, 213, 214, 217, 218, 220, 227, 229, 230, 233, 234, 236, 241, 242, 244, 248, 175, 183, 187, 189, 190, 207, 215, 219, 221, 222, 231, 235, 237, 238, 243, 245, 246, 249, 250, 252, 191, 223, 239, 247, 251, 253, 254, 255] : List Nat).map fun (x : Nat) => (x : Int)
theorem st1 : ∀ K, sl_stableCmpFunc_int_l1 bigFuel 256 256 cmp1 K bigFuel (allSets 8) 0 20 = K stS1 240 := fun K => by kernel_rfl
theorem st2 : sl_insertionSortCmpFunc_int bigFuel stS1 256 240 256 cmp1 = some stS2 := by kernel_rfl
theorem st3 : ∀ K, sl_stableCmpFunc_int_l3 bigFuel 256 256 cmp1 20 K bigFuel stS2 0 40 = K stS3 240 := fun K => by kernel_rfl
theorem st4 : ∀ K, sl_stableCmpFunc_int_l3 bigFuel 256 256 cmp1 40 K bigFuel stS3 0 80 = K stS4 240 := fun K => by kernel_rfl
theorem st5 : ∀ K, sl_stableCmpFunc_int_l3 bigFuel 256 256 cmp1 80 K bigFuel stS4 0 160 = K stS5 160 := fun K => by kernel_rfl
theorem st6 : sl_symMergeCmpFunc_int bigFuel stS5 256 160 240 256 cmp1 = some stS6 := by kernel_rfl
theorem st7 : ∀ K, sl_stableCmpFunc_int_l3 bigFuel 256 256 cmp1 160 K bigFuel stS6 0 320 = K stS6 0 := fun K => by kernel_rfl
theorem st8 : sl_symMergeCmpFunc_int bigFuel stS6 256 0 160 256 cmp1 = some (popSorted 8) := by kernel_rfl
theorem st9 (m : Nat) : sl_stableCmpFunc_int_l2 bigFuel 256 256 cmp1 (m + 5) stS2 20 = some (popSorted 8) := by
  have w (i : Int) (h : -9223372036854775808 ≤ i) (h2 : i < 9223372036854775808) : IntKind.wrap .i64 i = i := wrap_id h h2
  rw [sl_stableCmpFunc_int_l2.eq_2, w (2 * 20) (by decide) (by decide)]
  rw [show decide ((20 : Int) < 256) = true from rfl, cond_true, show (2 * 20 : Int) = 40 from rfl, st3]
  unfold sl_stableCmpFunc_int_j25 sl_stableCmpFunc_int_j36
  rw [w (240 + 20) (by decide) (by decide), show decide ((240 + 20 : Int) < 256) = false from rfl, cond_false, w (20 * 2) (by decide) (by decide)]
  rw [show (20 * 2 : Int) = 40 from rfl, sl_stableCmpFunc_int_l2.eq_2, w (2 * 40) (by decide) (by decide)]
  rw [show decide ((40 : Int) < 256) = true from rfl, cond_true, show (2 * 40 : Int) = 80 from rfl, st4]
  unfold sl_stableCmpFunc_int_j25 sl_stableCmpFunc_int_j36
  rw [w (240 + 40) (by decide) (by decide), show decide ((240 + 40 : Int) < 256) = false from rfl, cond_false, w (40 * 2) (by decide) (by decide)]
  rw [show (40 * 2 : Int) = 80 from rfl, sl_stableCmpFunc_int_l2.eq_2, w (2 * 80) (by decide) (by decide)]
  rw [show decide ((80 : Int) < 256) = true from rfl, cond_true, show (2 * 80 : Int) = 160 from rfl, st5]
  unfold sl_stableCmpFunc_int_j25 sl_stableCmpFunc_int_j36
  rw [w (160 + 80) (by decide) (by decide), show decide ((160 + 80 : Int) < 256) = true from rfl, cond_true, show (160 + 80 : Int) = 240 from rfl, st6]
  rw [Option.bind_some, w (80 * 2) (by decide) (by decide)]
  rw [show (80 * 2 : Int) = 160 from rfl, sl_stableCmpFunc_int_l2.eq_2, w (2 * 160) (by decide) (by decide)]
  rw [show decide ((160 : Int) < 256) = true from rfl, cond_true, show (2 * 160 : Int) = 320 from rfl, st7]
  unfold sl_stableCmpFunc_int_j25 sl_stableCmpFunc_int_j36
  rw [w (0 + 160) (by decide) (by decide), show decide ((0 + 160 : Int) < 256) = true from rfl, cond_true, show (0 + 160 : Int) = 160 from rfl, st8]
  rw [Option.bind_some, w (160 * 2) (by decide) (by decide)]
  rw [show (160 * 2 : Int) = 320 from rfl, sl_stableCmpFunc_int_l2.eq_2, show decide ((320 : Int) < 256) = false from rfl, cond_false]
theorem stab8 : sl_SortStableFunc_int bigFuel (allSets 8) (2 ^ 8) cmp1 = some (popSorted 8) := by
  unfold sl_SortStableFunc_int sl_stableCmpFunc_int
  rw [show ((2 ^ 8 : Nat) : Int) = 256 from rfl, show (2 ^ 8 : Nat) = 256 from rfl, st1]
  unfold sl_stableCmpFunc_int_j7
  rw [st2, Option.bind_some]
  have h := st9 (bigFuel - 5)
  rw [show bigFuel - 5 + 5 = bigFuel from rfl] at h
  rw [h]
  rfl
theorem stab_all {n : Nat} (h1 : 1 ≤ n) (h2 : n ≤ 8) : sl_SortStableFunc_int bigFuel (allSets n) (2 ^ n) cmp1 = some (popSorted n) := by
  have : n = 1 ∨ n = 2 ∨ n = 3 ∨ n = 4 ∨ n = 5 ∨ n = 6 ∨ n = 7 ∨ n = 8 := by omega
  rcases this with rfl | rfl | rfl | rfl | rfl | rfl | rfl | rfl
  · exact stab1
  · exact stab2
  · exact stab3
  · exact stab4
  · exact stab5
  · exact stab6
  · exact stab7
  · exact stab8
theorem allSets_mem {n : Nat} {x : Int} : x ∈ allSets n ↔ 0 ≤ x ∧ x < ((2 ^ n : Nat) : Int) := by
  unfold allSets
  rw [List.mem_map]
  constructor
  · rintro ⟨k, hk, rfl⟩
    have := List.mem_range.1 hk
    exact ⟨by omega, by exact_mod_cast this⟩
  · rintro ⟨a, b⟩
    exact ⟨x.toNat, List.mem_range.2 (by omega), by omega⟩
theorem allSets_rise {n : Nat} : (allSets n).Pairwise (· < ·) := by
  unfold allSets
  rw [List.pairwise_map]
  exact (List.pairwise_lt_range).imp fun h => by exact_mod_cast h
theorem allSets_good {n : Int} (h1 : 1 ≤ n) (h2 : n ≤ 8) : Good n (allSets n.toNat) := by
  have hp := pow_le h1 h2
  refine ⟨fun x => by rw [allSets_mem, isSet_range h1 h2], ?_⟩
  have hm : ∀ x, x ∈ allSets n.toNat → 0 ≤ x ∧ x < ((2 ^ n.toNat : Nat) : Int) := fun x hx => allSets_mem.1 hx
  refine List.Pairwise.imp_of_mem (fun {a b} ha hb hlt hbit => ?_) (allSets_rise (n := n.toNat))
  have r1 := hm a ha
  have r2 := hm b hb
  have := le_of_bits r2.1 (by omega) r1.1 (by omega) hbit
  omega
def apart : List Int → Bool
  | [] => true
  | x :: r => r.all (fun y => !has y x) && apart r
theorem apart_pair : ∀ {l : List Int}, apart l = true → l.Pairwise fun a b => ¬ Bits b a
  | [], _ => .nil
  | x :: r, h => by
    unfold apart at h
    rw [Bool.and_eq_true, List.all_eq_true] at h
    refine List.pairwise_cons.2 ⟨fun y hy hb => ?_, apart_pair h.2⟩
    have := h.1 y hy
    rw [has_iff.2 hb] at this
    cases this
def popIn (n : Nat) : Bool := (List.range (2 ^ n)).all fun k => decide (popOf k < 9)
theorem pop_mem {n : Nat} (h : popIn n = true) {x : Int} : x ∈ popSorted n ↔ 0 ≤ x ∧ x < ((2 ^ n : Nat) : Int) := by
  unfold popSorted
  rw [List.mem_map]
  unfold popIn at h
  rw [List.all_eq_true] at h
  constructor
  · rintro ⟨k, hk, rfl⟩
    rw [List.mem_flatMap] at hk
    obtain ⟨a, _, hk⟩ := hk
    have := List.mem_range.1 (List.mem_filter.1 hk).1
    exact ⟨by omega, by exact_mod_cast this⟩
  · rintro ⟨a, b⟩
    have hk : x.toNat ∈ List.range (2 ^ n) := List.mem_range.2 (by omega)
    refine ⟨x.toNat, List.mem_flatMap.2 ⟨popOf x.toNat, List.mem_range.2 (by simpa using h _ hk), List.mem_filter.2 ⟨hk, by simp⟩⟩, by omega⟩
theorem pop_check {n : Nat} (h1 : 1 ≤ n) (h2 : n ≤ 8) : popIn n = true ∧ apart (popSorted n) = true ∧ (popSorted n).length = 2 ^ n := by
  have : n = 1 ∨ n = 2 ∨ n = 3 ∨ n = 4 ∨ n = 5 ∨ n = 6 ∨ n = 7 ∨ n = 8 := by omega
  rcases this with rfl | rfl | rfl | rfl | rfl | rfl | rfl | rfl
  · exact ⟨by kernel_rfl, by kernel_rfl, by kernel_rfl⟩
  · exact ⟨by kernel_rfl, by kernel_rfl, by kernel_rfl⟩
  · exact ⟨by kernel_rfl, by kernel_rfl, by kernel_rfl⟩
  · exact ⟨by kernel_rfl, by kernel_rfl, by kernel_rfl⟩
  · exact ⟨by kernel_rfl, by kernel_rfl, by kernel_rfl⟩
  · exact ⟨by kernel_rfl, by kernel_rfl, by kernel_rfl⟩
  · exact ⟨by kernel_rfl, by kernel_rfl, by kernel_rfl⟩
  · exact ⟨by kernel_rfl, by kernel_rfl, by kernel_rfl⟩
theorem pop_good {n : Int} (h1 : 1 ≤ n) (h2 : n ≤ 8) : Good n (popSorted n.toNat) := by
  obtain ⟨a, b, _⟩ := pop_check (n := n.toNat) (by omega) (by omega)
  exact ⟨fun x => by rw [pop_mem a, isSet_range h1 h2], apart_pair b⟩
theorem crit_l1 {n : Nat} (hn : n ≤ 8) (K : List Int → Nat → Option (List dpDep)) : ∀ (r : List Nat) (k : Nat) (v : List Int), v = (List.range k).map (fun (x : Nat) => (x : Int)) → k + r.length = 2 ^ n →
    dp_critical_l1 K r k v v.length = K (allSets n) (2 ^ n)
  | [], k, v, hv, hk => by
    simp only [List.length_nil, Nat.add_zero] at hk
    subst hk
    rw [dp_critical_l1.eq_1, hv]
    simp [allSets]
  | x :: r, k, v, hv, hk => by
    have hp : 2 ^ n ≤ 2 ^ 8 := Nat.pow_le_pow_right (by omega) hn
    simp only [List.length_cons] at hk
    have hl : v.length = k := by rw [hv]; simp
    rw [dp_critical_l1.eq_2]
    have hcap : capOk 8 (v.length + [(k : Int)].length) = true := by
      simp only [capOk, Bool.and_eq_true, hl, List.length_singleton]
      exact ⟨Nat.ble_eq_true_of_le (by omega), Nat.ble_eq_true_of_le (by omega)⟩
    rw [hcap, snap_full]
    simp only [chk, cond_true]
    refine crit_l1 hn K r (k + 1) _ ?_ (by omega)
    rw [hv, List.range_succ]
    simp
theorem crit_2 {d : dpDep} {x : Int} : dp_critical_2 d x = some (has d.f_From x && !has d.f_To x) := by
  unfold dp_critical_2 dp_critical_2_j4
  have q1 : (iAndNot .i64 d.f_From x == 0) = has d.f_From x := rfl
  have q2 : (iAndNot .i64 d.f_To x != 0) = !has d.f_To x := rfl
  rw [q1, q2]
  cases has d.f_From x <;> rfl
theorem crit_l2 {f : Int → Int} {g : Int → Option Int} {W : List Int} (hg : ∀ x, x ∈ W → g x = some (f x)) (hW : W.length ≤ 256) (K : List dpDep → Nat → Option (List dpDep)) :
    ∀ (rest : List Int) (r : List Nat) (pre : List Int) (acc : List dpDep), pre ++ rest = W → r.length = rest.length → acc.length ≤ pre.length →
    dp_critical_l2 g W.length W K r pre.length acc acc.length = K (critGo f rest acc) (critGo f rest acc).length
  | [], r, pre, acc, h, hr, ha => by
    obtain rfl := List.length_eq_zero_iff.1 (by simpa using hr)
    rfl
  | x :: rest, r, pre, acc, h, hr, ha => by
    cases r with
    | nil => simp at hr
    | cons y r =>
      simp only [List.length_cons] at hr
      have hlen : pre.length + (rest.length + 1) = W.length := by rw [← h]; simp
      rw [dp_critical_l2.eq_2]
      have h2 : decide ((0 : Int) ≤ (pre.length : Int) ∧ (pre.length : Int) < ((W.length : Nat) : Int)) = true := decide_eq_true (by omega)
      have g1 : W[0 + Int.toNat (pre.length : Int)]? = some x := by rw [← h]; exact get_at (by simp)
      have hgx : g x = some (f x) := hg x (by rw [← h]; simp)
      have hcf : sl_ContainsFunc_dpDep (snap 0 acc.length acc) (fun y0 => dp_critical_2 y0 x) = some (wants acc x) := by
        rw [snap_full]
        exact containsFunc_dep _ _ acc (lenOk_of (by omega)) (fun d _ => crit_2)
      simp only [h2, g1, hgx, hcf, chk, cond_true, Option.bind_some]
      unfold dp_critical_j26 dp_critical_j22
      rw [snap_full, hgx]
      unfold critGo
      have ih1 := crit_l2 hg hW K rest r (pre ++ [x]) acc (by simpa using h) (by omega) (by simp; omega)
      have ih2 := crit_l2 hg hW K rest r (pre ++ [x]) (acc ++ [⟨x, f x⟩]) (by simpa using h) (by omega) (by simp; omega)
      simp only [List.length_append, List.length_singleton] at ih1 ih2
      have hcap : capOk 16 (acc.length + [(⟨x, f x⟩ : dpDep)].length) = true := by
        simp only [capOk, Bool.and_eq_true, List.length_singleton]
        exact ⟨Nat.ble_eq_true_of_le (by omega), Nat.ble_eq_true_of_le (by omega)⟩
      cases hne : (f x != x) with
      | false => simp only [cond_false, Bool.false_and]; exact ih1
      | true =>
        simp only [cond_true, Bool.true_and]
        cases hw : wants acc x with
        | true => simp only [Bool.not_true, cond_false]; exact ih1
        | false =>
          simp only [Bool.not_false, cond_true, Option.bind_some, chk]
          rw [hcap]
          simp only [cond_true, List.length_append, List.length_singleton]
          exact ih2
def ltFrom (x y : dpDep) : Bool := decide (x.f_From < y.f_From)
def smallFrom (d : dpDep) : Prop := 0 ≤ d.f_From ∧ d.f_From < 256
theorem cmp_from : Cmp (fun y0 y1 => dp_critical_3 y0 y1) ltFrom smallFrom := by
  intro x y hx hy
  refine ⟨_, rfl, ?_⟩
  unfold ltFrom smallFrom at *
  rw [wrap64 (by omega) (by omega)]
  congr 1
  simp only [eq_iff_iff]
  omega
def ofDep (d : dpDep) : rf1Dep := ⟨d.f_From, d.f_To⟩
theorem own_val {l : List dpDep} (hl : l.length ≤ 256) : lw1_own l = some (l.map ofDep) := by
  unfold lw1_own
  rw [lenOk_of (show l.length ≤ 9223372036854775807 by omega)]
  simp only [chk, cond_true]
  have : ∀ (r : List dpDep) (k : Nat) (acc : List rf1Dep), acc.length + r.length ≤ 256 → lw1_own_l1 lw1_own_j4 r k acc = some (acc ++ r.map ofDep) := by
    intro r
    induction r with
    | nil => intro k acc _; rw [lw1_own_l1.eq_1]; simp [lw1_own_j4]
    | cons x r ih =>
      intro k acc ha
      simp only [List.length_cons] at ha
      rw [lw1_own_l1.eq_2]
      have hcap : ∀ z, capOk 16 (acc ++ [z]).length = true := by
        intro z
        simp only [capOk, Bool.and_eq_true, List.length_append, List.length_singleton]
        exact ⟨Nat.ble_eq_true_of_le (by omega), Nat.ble_eq_true_of_le (by omega)⟩
      simp only [hcap, chk, cond_true]
      rw [ih (k + 1) _ (by simp; omega)]
      simp [ofDep]
  simpa using this l 0 [] (by simpa using hl)
theorem rcrit_l2 {k1 : Nat} (K : Bool → Option (List rf1Dep)) : ∀ (r : List dpDep) (k : Nat) (v : Bool),
    rf1_critical_l2 k1 K (r.map ofDep) k v = K (v && !wants r (k1 : Int))
  | [], k, v => by simp [rf1_critical_l2.eq_1, wants]
  | d :: r, k, v => by
    rw [List.map_cons, rf1_critical_l2.eq_2]
    have q1 : (iAndNot .i64 (ofDep d).f_From (k1 : Int) == 0) = has d.f_From (k1 : Int) := rfl
    have q2 : (iAndNot .i64 (ofDep d).f_To (k1 : Int) != 0) = !has d.f_To (k1 : Int) := rfl
    rw [q1, q2]
    unfold rf1_critical_j18 rf1_critical_j16
    have i1 := rcrit_l2 (k1 := k1) K r (k + 1) v
    have i2 := rcrit_l2 (k1 := k1) K r (k + 1) false
    have hw : wants (d :: r) (k1 : Int) = ((has d.f_From (k1 : Int) && !has d.f_To (k1 : Int)) || wants r (k1 : Int)) := rfl
    rw [hw]
    cases has d.f_From (k1 : Int) <;> cases has d.f_To (k1 : Int) <;> simp [i1, i2]
theorem idx_natC {l : List Int} {k : Nat} {x : Int} (h : l[k]? = some x) : idx l (k : Int) = some x := by
  unfold idx
  rw [if_pos (by omega), Int.toNat_natCast]
  exact h
theorem rcrit_l1 {f : Int → Int} {C : List Int} : ∀ (r : List Nat) (k : Nat) (acc : List dpDep), (∀ j, j < k + r.length → C[j]? = some (f (j : Int))) → acc.length ≤ k → k + r.length ≤ 256 →
    rf1_critical_l1 C rf1_critical_j5 r k (acc.map ofDep) = some ((critGo f ((List.range' k r.length).map fun (x : Nat) => (x : Int)) acc).map ofDep)
  | [], k, acc, hC, ha, hk => rfl
  | x :: r, k, acc, hC, ha, hk => by
    simp only [List.length_cons] at hk hC
    have hi := idx_natC (hC k (by omega))
    rw [rf1_critical_l1.eq_2, hi]
    have hl : lenOk (acc.map ofDep) = true := lenOk_of (by simp; omega)
    simp only [Option.bind_some, hl, chk, cond_true]
    rw [rcrit_l2]
    unfold rf1_critical_j13 rf1_critical_j9
    rw [hi]
    rw [List.length_cons, List.range'_succ, List.map_cons]
    unfold critGo
    cases hc : ((f (k : Int) != (k : Int)) && !wants acc (k : Int)) with
    | false =>
      simp only [cond_false]
      exact rcrit_l1 r (k + 1) acc (fun j hj => hC j (by omega)) (by omega) (by omega)
    | true =>
      have hcap : ∀ z, capOk 16 ((acc.map ofDep) ++ [z]).length = true := by
        intro z
        simp only [capOk, Bool.and_eq_true, List.length_append, List.length_singleton, List.length_map]
        exact ⟨Nat.ble_eq_true_of_le (by omega), Nat.ble_eq_true_of_le (by omega)⟩
      simp only [cond_true, Option.bind_some, hcap, chk]
      have := rcrit_l1 (f := f) r (k + 1) (acc ++ [⟨(k : Int), f (k : Int)⟩]) (fun j hj => hC j (by omega)) (by simp; omega) (by omega)
      rw [List.map_append] at this
      exact this
theorem rcritical_val {n : Int} (h1 : 1 ≤ n) (h2 : n ≤ 8) {f : Int → Int} {C : List Int} (hC : ∀ j : Nat, j < 2 ^ n.toNat → C[j]? = some (f (j : Int))) :
    rf1_critical n C = some ((critGo f (allSets n.toNat) []).map ofDep) := by
  have hp := pow_le h1 h2
  have hn : decide (0 ≤ n) = true := decide_eq_true (by omega)
  have hr : lenOk (List.range (2 ^ n.toNat)) = true := lenOk_of (by simp; omega)
  unfold rf1_critical
  rw [iShl_one h1 h2, Int.toNat_natCast]
  simp only [hn, hr, chk, cond_true]
  have := rcrit_l1 (f := f) (C := C) (List.range (2 ^ n.toNat)) 0 [] (by simpa using hC) (Nat.le_refl _) (by simpa using hp)
  rw [List.length_range, ← List.range_eq_range'] at this
  exact this
theorem equal_dep_l1 {a : List rf1Dep} (K : Option Bool) : ∀ (r pre : List rf1Dep), pre ++ r = a → sl_Equal_rf1Dep_l1 a K r pre.length = K
  | [], pre, _ => rfl
  | x :: r, pre, h => by
    rw [sl_Equal_rf1Dep_l1.eq_2]
    have hi : idx a (pre.length : Int) = some x := by
      unfold idx
      rw [if_pos (by omega), Int.toNat_natCast, ← h]
      simp
    simp only [hi, Option.bind_some, beq_self_eq_true, Bool.and_self, Bool.not_true, cond_false]
    have := equal_dep_l1 K r (pre ++ [x]) (by simpa using h)
    simpa using this
theorem equal_dep_refl {a : List rf1Dep} (h : lenOk a = true) : sl_Equal_rf1Dep a a = some true := by
  unfold sl_Equal_rf1Dep
  simp only [bne_self_eq_false, cond_false, h, chk, cond_true]
  exact equal_dep_l1 _ a [] rfl
theorem shl_one {k : Nat} (hk : k < 8) (a : Nat) : bit (iShl .i64 1 (k : Int)) a = (a == k) := by
  have : k = 0 ∨ k = 1 ∨ k = 2 ∨ k = 3 ∨ k = 4 ∨ k = 5 ∨ k = 6 ∨ k = 7 := by omega
  have hV : V (iShl .i64 1 (k : Int)) = BitVec.ofNat 64 (2 ^ k) := by
    rcases this with rfl | rfl | rfl | rfl | rfl | rfl | rfl | rfl <;> decide +kernel
  unfold bit
  rw [hV, BitVec.getLsbD_ofNat, Nat.testBit_two_pow]
  by_cases h : a = k
  · subst h; simp; omega
  · have h' : ¬ k = a := fun e => h e.symm
    simp [h, h']
theorem bit_or (a b : Int) (i : Nat) : bit (iOr .i64 a b) i = (bit a i || bit b i) := by
  unfold bit; rw [V_or, BitVec.getLsbD_or]
theorem agree_l1 {y : List Int} : ∀ (r : List Int) (k : Nat) (v : Int), k + r.length = y.length → y.length ≤ 8 → wf64 v →
    ∃ w, dp_agree_l1 y dp_agree_j5 r k v = some w ∧ wf64 w ∧ ∀ a, bit w a = (bit v a || (decide (k ≤ a) && (match r[a - k]?, y[a]? with | some s, some t => s == t | _, _ => false)))
  | [], k, v, _, _, hv => ⟨v, rfl, hv, fun a => by simp⟩
  | x :: r, k, v, hk, hy, hv => by
    simp only [List.length_cons] at hk
    have hky : k < y.length := by omega
    have hidx : idx y (k : Int) = some (y[k]) := by
      unfold idx
      rw [if_pos (Int.natCast_nonneg k), Int.toNat_natCast]
      exact List.getElem?_eq_getElem hky
    rw [dp_agree_l1.eq_2, hidx]
    simp only [Option.bind_some]
    unfold dp_agree_j8
    have hk0 : decide (0 ≤ (k : Int)) = true := by simp
    have hstep : ∀ (v' : Int) (b : Bool), (∀ a, bit v' a = (bit v a || (b && a == k))) → (x == y[k]) = b → wf64 v' →
        ∃ w, dp_agree_l1 y dp_agree_j5 r (k + 1) v' = some w ∧ wf64 w ∧ ∀ a, bit w a = (bit v a || (decide (k ≤ a) && (match (x :: r)[a - k]?, y[a]? with | some s, some t => s == t | _, _ => false))) := by
      intro v' b hb he hv'
      obtain ⟨w, e1, e2, e3⟩ := agree_l1 r (k + 1) v' (by omega) hy hv'
      refine ⟨w, e1, e2, fun a => ?_⟩
      rw [e3 a, hb a]
      by_cases h : a = k
      · subst h
        have : ¬ a + 1 ≤ a := by omega
        simp [this, List.getElem?_eq_getElem hky, he]
      · have hak : (a == k) = false := by simpa using h
        by_cases h2 : k ≤ a
        · have h3 : k + 1 ≤ a := by omega
          have h4 : a - k = (a - (k + 1)) + 1 := by omega
          simp [hak, h2, h3, h4]
        · have h3 : ¬ k + 1 ≤ a := by omega
          simp [hak, h2, h3]
    cases he : (x == y[k]) with
    | true =>
      simp only [cond_true, hk0, chk]
      exact hstep _ true (fun a => by rw [bit_or, shl_one (by omega)]; simp) he (wf_or _ _)
    | false =>
      simp only [cond_false]
      exact hstep _ false (fun a => by simp) he hv
def agr (x y : List Int) : Int := (dp_agree x y).getD 0
theorem agree_val {x y : List Int} (h : x.length = y.length) (hy : y.length ≤ 8) : dp_agree x y = some (agr x y) ∧ wf64 (agr x y) ∧ ∀ a, bit (agr x y) a = (match x[a]?, y[a]? with | some s, some t => s == t | _, _ => false) := by
  obtain ⟨w, e1, e2, e3⟩ := agree_l1 (y := y) x 0 0 (by omega) hy (by unfold wf64; omega)
  have hl : lenOk x = true := lenOk_of (by omega)
  have e : dp_agree x y = some w := by
    unfold dp_agree
    rw [hl]
    simpa only [chk, cond_true] using e1
  have ea : agr x y = w := by unfold agr; rw [e]; rfl
  rw [ea]
  refine ⟨e, e2, fun a => ?_⟩
  rw [e3 a]
  have h0 : bit 0 a = false := by
    unfold bit
    have : V 0 = 0#64 := rfl
    rw [this]; simp
  simp [h0]
def tableOk (n : Int) (rows : List (List Int)) : Bool := decide (1 ≤ n) && (decide (n ≤ 8) && (decide (rows.length ≤ 60) && rows.all fun r => (r.length : Int) == n))
theorem containsFunc_rows (g : List Int → Option Bool) (p : List Int → Bool) (a : List (List Int)) (hl : lenOk a = true) (hg : ∀ x, x ∈ a → g x = some (p x)) : sl_ContainsFunc_Lint a g = some (a.any p) := by
  unfold sl_ContainsFunc_Lint sl_IndexFunc_Lint
  rw [hl]
  simp only [chk, cond_true]
  have : ∀ (l : List (List Int)) (k : Nat), (∀ x, x ∈ l → g x = some (p x)) → ∃ r : Int, sl_IndexFunc_Lint_l1 g (sl_IndexFunc_Lint_j4) l k = some r ∧ (decide (r ≥ 0)) = l.any p := by
    intro l
    induction l with
    | nil => intro k _; exact ⟨-1, rfl, rfl⟩
    | cons x l ih =>
      intro k h
      rw [sl_IndexFunc_Lint_l1.eq_2, h x (by simp)]
      simp only [Option.bind_some, List.any_cons]
      cases p x with
      | true => exact ⟨k, rfl, by simp⟩
      | false => simpa using ih (k + 1) (fun x hx => h x (by simp [hx]))
  obtain ⟨r, h1, h2⟩ := this a 0 hg
  rw [h1, ← h2]; rfl
theorem table_val {n : Int} {rows : List (List Int)} (hl : lenOk rows = true) : dp_table n rows = some (tableOk n rows) := by
  unfold dp_table dp_table_j4 tableOk
  by_cases h1 : 1 ≤ n
  · by_cases h2 : n ≤ 8
    · by_cases h3 : rows.length ≤ 60
      · have h3' : (rows.length : Int) ≤ 60 := by omega
        rw [containsFunc_rows (fun y0 => dp_table_1 y0 n) (fun r => (r.length : Int) != n) rows hl (fun x _ => rfl)]
        simp only [ge_iff_le, h1, h2, h3, h3', decide_true, cond_true, Bool.true_and, Option.bind_some]
        congr 1
        clear hl h3 h3'
        induction rows with
        | nil => rfl
        | cons x l ih => simp only [List.any_cons, List.all_cons, Bool.not_or, ih]; simp [bne]
      · have h3' : ¬ (rows.length : Int) ≤ 60 := by omega
        simp [h1, h2, h3, h3']
    · simp [h1, h2]
  · simp [h1]
def fine (d : dpDep) (x y : List Int) : Bool := !has d.f_From (agr x y) || has d.f_To (agr x y)
theorem holds_l2 {n : Nat} (hn : n ≤ 8) {d : dpDep} {x : List Int} (hx : x.length = n) (K : Option (Bool × Int)) : ∀ (r : List (List Int)) (k : Nat), (∀ y, y ∈ r → y.length = n) →
    dp_Holds_l2 x d K r k = bif r.all (fine d x) then K else some (false, 0)
  | [], k, _ => rfl
  | y :: r, k, h => by
    have hy := h y (by simp)
    obtain ⟨e1, _, _⟩ := agree_val (x := x) (y := y) (by omega) (by omega)
    rw [dp_Holds_l2.eq_2, e1]
    simp only [Option.bind_some, dp_Holds_j21, List.all_cons]
    have ih := holds_l2 hn (d := d) hx K r (k + 1) (fun z hz => h z (by simp [hz]))
    have q1 : (iAndNot .i64 d.f_From (agr x y) == 0) = has d.f_From (agr x y) := rfl
    have q2 : (iAndNot .i64 d.f_To (agr x y) != 0) = !has d.f_To (agr x y) := rfl
    rw [q1, q2, ih]
    unfold fine
    cases has d.f_From (agr x y) <;> cases has d.f_To (agr x y) <;> simp
def pairsFine (d : dpDep) : List (List Int) → List (List Int) → Bool
  | _, [] => true
  | pre, x :: r => pre.all (fine d x) && pairsFine d (pre ++ [x]) r
theorem holds_l1 {n : Nat} (hn : n ≤ 8) {d : dpDep} {rows : List (List Int)} (hl : lenOk rows = true) (hr : ∀ y, y ∈ rows → y.length = n) : ∀ (r pre : List (List Int)), pre ++ r = rows →
    dp_Holds_l1 rows d dp_Holds_j11 r pre.length = some (pairsFine d pre r, 0)
  | [], pre, _ => rfl
  | x :: r, pre, hp => by
    have hsub : sub rows 0 (pre.length : Int) = some pre := by
      unfold sub
      rw [if_pos ⟨Int.le_refl 0, Int.natCast_nonneg _, by rw [← hp]; simp; omega⟩, ← hp]
      simp
    have hlp : lenOk pre = true := by
      have := Nat.le_of_ble_eq_true hl
      rw [← hp] at this
      simp at this
      exact lenOk_of (by omega)
    rw [dp_Holds_l1.eq_2, hsub]
    simp only [Option.bind_some, hlp, chk, cond_true]
    rw [holds_l2 hn (hr x (by rw [← hp]; simp)) _ pre 0 (fun y hy => hr y (by rw [← hp]; simp [hy]))]
    unfold dp_Holds_j13
    have ih := holds_l1 hn (d := d) hl hr r (pre ++ [x]) (by simpa using hp)
    simp only [List.length_append, List.length_singleton] at ih
    rw [ih, show pairsFine d pre (x :: r) = (pre.all (fine d x) && pairsFine d (pre ++ [x]) r) from rfl]
    cases pre.all (fine d x) <;> simp
theorem Holds_val {n : Int} {rows : List (List Int)} {d : dpDep} (hl : lenOk rows = true) :
    dp_Holds n rows d = some (bif tableOk n rows && (isSet n d.f_From && isSet n d.f_To) then (pairsFine d [] rows, 0) else (false, 2)) := by
  unfold dp_Holds dp_Holds_j6
  rw [table_val hl]
  cases ht : tableOk n rows with
  | false => simp
  | true =>
    have ht' := ht
    simp only [tableOk, Bool.and_eq_true, decide_eq_true_eq, List.all_eq_true, beq_iff_eq] at ht'
    obtain ⟨h1, h2, _, h4⟩ := ht'
    simp only [Option.bind_some, Bool.not_true, cond_false]
    rw [sets_eq (by omega) (by rfl)]
    cases hs : isSet n d.f_From && isSet n d.f_To with
    | false => simp [hs]
    | true =>
      have := holds_l1 (n := n.toNat) (by omega) (d := d) hl (fun y hy => by have := h4 y hy; omega) rows [] rfl
      simp only [List.length_nil] at this
      simp [hs, hl, chk, this]
def fewRows (rows : List (List Int)) : List (List Int) := (rows.take 62).map (List.take 10)
theorem clone_val {x : List Int} : sl_Clone_int (x.take 10) = some (x.take 10) := by
  unfold sl_Clone_int
  have : capOk 8 (x.take 10).length = true := by
    simp only [capOk, Bool.and_eq_true]
    have := List.length_take_le 10 x
    exact ⟨Nat.ble_eq_true_of_le (by omega), Nat.ble_eq_true_of_le (by omega)⟩
  rw [this]; rfl
theorem sub_ten {x : List Int} : sub x 0 (if 10 < (x.length : Int) then 10 else (x.length : Int)) = some (x.take 10) := by
  unfold sub
  by_cases h : 10 < (x.length : Int)
  · rw [if_pos h, if_pos (by omega)]; rfl
  · rw [if_neg h, if_pos (by omega), Int.toNat_natCast]
    simp only [Int.toNat_zero, List.drop_zero, List.take_length]
    rw [List.take_of_length_le (by omega)]
theorem few_val {rows : List (List Int)} (hl : lenOk rows = true) : lw1_few rows = some (fewRows rows) := by
  unfold lw1_few fewRows
  rw [hl]
  simp only [chk, cond_true]
  have : ∀ (r : List (List Int)) (k : Nat) (acc : List (List Int)), acc.length = k → k ≤ 62 → lw1_few_l1 lw1_few_j4 r k acc = some (acc ++ (r.take (62 - k)).map (List.take 10)) := by
    intro r
    induction r with
    | nil => intro k acc _ _; rw [lw1_few_l1.eq_1]; simp [lw1_few_j4]
    | cons x r ih =>
      intro k acc ha hk
      rw [lw1_few_l1.eq_2]
      by_cases h : (k : Int) > 61
      · have : k = 62 := by omega
        subst this
        simp [lw1_few_j4]
      · have hk2 : k + 1 ≤ 62 := by omega
        have hcap : ∀ z, capOk 24 (acc ++ [z]).length = true := by
          intro z
          rw [List.length_append, ha]
          simp only [capOk, Bool.and_eq_true]
          exact ⟨Nat.ble_eq_true_of_le (by simp; omega), Nat.ble_eq_true_of_le (by simp; omega)⟩
        simp only [h, decide_false, cond_false, sub_ten, clone_val, Option.bind_some, hcap, chk, cond_true]
        rw [ih (k + 1) _ (by simp [ha]) hk2]
        have : 62 - k = (62 - (k + 1)) + 1 := by omega
        rw [this, List.take_succ_cons]
        simp
  simpa using this rows 0 [] rfl (by omega)
theorem few_table {n : Int} {rows : List (List Int)} (h : tableOk n rows = true) : fewRows rows = rows := by
  simp only [tableOk, Bool.and_eq_true, decide_eq_true_eq, List.all_eq_true, beq_iff_eq] at h
  obtain ⟨h1, h2, h3, h4⟩ := h
  unfold fewRows
  rw [List.take_of_length_le (by omega)]
  refine (List.map_congr_left fun x hx => ?_).trans (List.map_id rows)
  have := h4 x hx
  exact List.take_of_length_le (by omega)
theorem fewRows_lenOk {rows : List (List Int)} : lenOk (fewRows rows) = true := lenOk_of (by simp [fewRows]; omega)
theorem rTable_l1 {n : Int} (K : Option Bool) : ∀ (r : List (List Int)) (k : Nat), rf1_Table_l1 n K r k = bif r.all (fun x => (x.length : Int) == n) then K else some false
  | [], _ => rfl
  | x :: r, k => by
    rw [rf1_Table_l1.eq_2, rTable_l1 K r (k + 1)]
    simp only [List.all_cons, bne]
    cases ((x.length : Int) == n) <;> simp
theorem rTable_val {n : Int} {rows : List (List Int)} (hl : lenOk rows = true) : rf1_Table n rows = some (tableOk n rows) := by
  unfold rf1_Table
  rw [hl]
  simp only [chk, cond_true]
  rw [rTable_l1]
  unfold rf1_Table_j4 rf1_Table_j10 tableOk
  have h3 : decide ((rows.length : Int) ≤ 60) = decide (rows.length ≤ 60) := by
    by_cases h : rows.length ≤ 60
    · have h' : (rows.length : Int) ≤ 60 := by omega
      simp [h, h']
    · have h' : ¬ (rows.length : Int) ≤ 60 := by omega
      simp [h, h']
  rw [h3]
  by_cases h1 : 1 ≤ n <;> by_cases h2 : n ≤ 8 <;> simp [h1, h2, ge_iff_le] <;> cases (rows.all fun x => (x.length : Int) == n) <;> simp
theorem fine_iff {d : dpDep} {x y : List Int} : fine d x y = true ↔ (Bits d.f_From (agr x y) → Bits d.f_To (agr x y)) := by
  unfold fine
  rw [← has_iff, ← has_iff]
  cases has d.f_From (agr x y) <;> cases has d.f_To (agr x y) <;> simp
def kbit (x : Int) (k : Nat) : Bool := (V x).getLsbD k
theorem kbit_eq {x : Int} (h0 : 0 ≤ x) (h1 : x < 256) {k : Nat} (hk : k < 8) : (iAnd .i64 (iShr .i64 x (k : Int)) 1 == 1) = kbit x k := by
  obtain ⟨m, rfl⟩ : ∃ m : Nat, x = (m : Int) := ⟨x.toNat, by omega⟩
  have hm : m < 256 := by omega
  have : ∀ m : Fin 256, ∀ k : Fin 8, (iAnd .i64 (iShr .i64 ((m.1 : Nat) : Int) ((k.1 : Nat) : Int)) 1 == 1) = kbit ((m.1 : Nat) : Int) k.1 := by decide +kernel
  exact this ⟨m, hm⟩ ⟨k, hk⟩
open Go.Sort
instance instInhDp : Inhabited dpDep := ⟨⟨0, 0⟩⟩
theorem gl {d : Array dpDep} {i : Nat} (h : i < d.size) : d.toList[0 + Int.toNat ((i : Nat) : Int)]? = some d[i]! := by
  rw [Int.toNat_natCast, Nat.zero_add, getElem!_pos d i h]
  simp [h]
theorem bnd {i n : Nat} (h : i < n) : decide ((0 : Int) ≤ ((i : Nat) : Int) ∧ ((i : Nat) : Int) < ((n : Nat) : Int)) = true := decide_eq_true (by omega)
theorem upd1 {d : Array dpDep} {i : Nat} (h : i < d.size) {x : dpDep} : upd d.toList (0 + Int.toNat ((i : Nat) : Int)) x = some (d.setIfInBounds i x).toList := by
  rw [Int.toNat_natCast, Nat.zero_add]
  unfold upd
  rw [if_pos (by simpa using h)]
  simp
theorem upd2 {d : Array dpDep} {i j : Nat} (h : j < d.size) : upd (d.setIfInBounds i d[j]!).toList (0 + Int.toNat ((j : Nat) : Int)) d[i]! = some (swp d i j).toList := by
  rw [upd1 (by simpa using h)]
  rfl
def AllA (A : dpDep → Prop) (d : Array dpDep) : Prop := ∀ i, i < d.size → A d[i]!
theorem AllA.swp {A : dpDep → Prop} {d : Array dpDep} (h : AllA A d) {i j : Nat} (hi : i < d.size) (hj : j < d.size) : AllA A (swp d i j) := by
  intro k hk
  rw [size_swp] at hk
  by_cases e1 : k = j
  · subst e1; rw [swp_right d i k hj]; exact h i hi
  · by_cases e2 : k = i
    · subst e2; rw [swp_left d k j hi e1]; exact h j hj
    · rw [swp_other d i j k e2 e1]; exact h k hk
theorem AllA.perm {A : dpDep → Prop} {d d' : Array dpDep} (h : AllA A d) {a b : Nat} (hb : b ≤ d.size) (hp : PermIn a b d d') : AllA A d' := by
  intro k hk
  rw [hp.1] at hk
  by_cases e : k < a ∨ b ≤ k
  · rw [hp.2.1 k e]; exact h k hk
  · exact permIn_all d d' a b A hb hp (fun i h1 h2 => h i (by omega)) k (by omega) (by omega)
theorem wpl {i k : Nat} (h : i + k < 4611686018427387905) : IntKind.wrap .i64 (((i : Nat) : Int) + ((k : Nat) : Int)) = ((i + k : Nat) : Int) := by
  rw [wrap64 (by omega) (by omega)]; omega
theorem wp1 {i : Nat} (h : i < 4611686018427387905) : IntKind.wrap .i64 (((i : Nat) : Int) + 1) = ((i + 1 : Nat) : Int) := by
  rw [wrap64 (by omega) (by omega)]; omega
theorem wm1 {i : Nat} (h : i < 4611686018427387905) (h1 : 1 ≤ i) : IntKind.wrap .i64 (((i : Nat) : Int) - 1) = ((i - 1 : Nat) : Int) := by
  rw [wrap64 (by omega) (by omega)]; omega
theorem wmm {i k : Nat} (h : i < 4611686018427387905) (h1 : k ≤ i) : IntKind.wrap .i64 (((i : Nat) : Int) - ((k : Nat) : Int)) = ((i - k : Nat) : Int) := by
  rw [wrap64 (by omega) (by omega)]; omega
theorem w2 {i : Nat} (h : i < 4611686018427387904) : IntKind.wrap .i64 (2 * ((i : Nat) : Int)) = ((2 * i : Nat) : Int) := by
  rw [wrap64 (by omega) (by omega)]; omega
variable {g : dpDep → dpDep → Option Int} {lt : dpDep → dpDep → Bool} {A : dpDep → Prop}
theorem pins_l2 (hg : Cmp g lt A) {n a : Nat} (hn : n ≤ 1152921504606846976) (K : List dpDep → Option (List dpDep)) : ∀ (j m : Nat) (d : Array dpDep), j < m → j < n → d.size = n → AllA A d →
    sl_insertionSortCmpFunc_dpDep_l2 n (a : Int) g K m d.toList ((j : Nat) : Int) = K (insInner lt a j d).toList
  | 0, m, d, hm, hj, hs, hA => by
    obtain ⟨m', rfl⟩ : ∃ m', m = m' + 1 := ⟨m - 1, by omega⟩
    rw [sl_insertionSortCmpFunc_dpDep_l2.eq_2]
    have h0 : decide (((0 : Nat) : Int) > (a : Int)) = false := decide_eq_false (by omega)
    rw [h0]; rfl
  | j + 1, m, d, hm, hj, hs, hA => by
    obtain ⟨m', rfl⟩ : ∃ m', m = m' + 1 := ⟨m - 1, by omega⟩
    rw [sl_insertionSortCmpFunc_dpDep_l2.eq_2]
    unfold sl_insertionSortCmpFunc_dpDep_j16
    rw [insInner.eq_2]
    by_cases h0 : j + 1 > a
    · have h0' : decide (((j + 1 : Nat) : Int) > (a : Int)) = true := decide_eq_true (by omega)
      obtain ⟨w, hw, hd⟩ := hg d[j + 1]! d[j]! (hA _ (by omega)) (hA _ (by omega))
      have e1 := wm1 (i := j + 1) (by omega) (by omega)
      simp only [Nat.add_sub_cancel] at e1
      simp only [h0', e1, bnd (show j + 1 < n by omega), bnd (show j < n by omega), gl (d := d) (show j + 1 < d.size by omega), gl (d := d) (show j < d.size by omega), hw, hd, chk, cond_true, Option.bind_some]
      cases hl : lt d[j + 1]! d[j]! with
      | false => simp
      | true =>
        rw [upd1 (by omega)]
        simp only [cond_true, Option.bind_some]
        rw [upd2 (by omega)]
        simp only [Option.bind_some]
        rw [pins_l2 hg hn K j m' (swp d (j + 1) j) (by omega) (by omega) (by rw [size_swp]; exact hs) (hA.swp (by omega) (by omega))]
        simp [h0]
    · have h0' : decide (((j + 1 : Nat) : Int) > (a : Int)) = false := decide_eq_false (by omega)
      rw [h0']
      simp [h0]
theorem insInner_keep (a : Nat) : ∀ (j : Nat) (d : Array dpDep), j < d.size → AllA A d → (insInner lt a j d).size = d.size ∧ AllA A (insInner lt a j d)
  | 0, d, _, h => ⟨rfl, h⟩
  | j + 1, d, hj, h => by
    rw [insInner.eq_2]
    split
    · obtain ⟨x, y⟩ := insInner_keep a j (swp d (j + 1) j) (by rw [size_swp]; omega) (h.swp (by omega) (by omega))
      exact ⟨by rw [x, size_swp], y⟩
    · exact ⟨rfl, h⟩
theorem pins_l1 (hg : Cmp g lt A) {n a b fuel : Nat} (hn : n ≤ 1152921504606846976) (hb : b ≤ n) (hf : n < fuel) : ∀ (k i m : Nat) (d : Array dpDep), b - i = k → k < m → d.size = n → AllA A d →
    sl_insertionSortCmpFunc_dpDep_l1 fuel n (a : Int) (b : Int) g m d.toList ((i : Nat) : Int) = some (insOuter lt a b i d).toList := by
  intro k
  induction k with
  | zero =>
    intro i m d hk hm hs hA
    obtain ⟨m', rfl⟩ : ∃ m', m = m' + 1 := ⟨m - 1, by omega⟩
    rw [sl_insertionSortCmpFunc_dpDep_l1.eq_2, insOuter]
    have h0 : decide (((i : Nat) : Int) < (b : Int)) = false := decide_eq_false (by omega)
    rw [h0, if_neg (by omega)]; rfl
  | succ k ih =>
    intro i m d hk hm hs hA
    obtain ⟨m', rfl⟩ : ∃ m', m = m' + 1 := ⟨m - 1, by omega⟩
    rw [sl_insertionSortCmpFunc_dpDep_l1.eq_2, insOuter]
    have h0 : decide (((i : Nat) : Int) < (b : Int)) = true := decide_eq_true (by omega)
    rw [h0, if_pos (by omega)]
    simp only [cond_true]
    rw [pins_l2 hg hn _ i fuel d (by omega) (by omega) hs hA]
    unfold sl_insertionSortCmpFunc_dpDep_j11
    rw [wp1 (by omega)]
    obtain ⟨x, y⟩ := insInner_keep (lt := lt) a i d (by omega) hA
    exact ih (i + 1) m' _ (by omega) (by omega) (by rw [x]; exact hs) y
theorem pins (hg : Cmp g lt A) {n a b fuel : Nat} (hn : n ≤ 1152921504606846976) (hab : a ≤ b) (hb : b ≤ n) (hf : n < fuel) {d : Array dpDep} (hs : d.size = n) (hA : AllA A d) :
    sl_insertionSortCmpFunc_dpDep fuel d.toList n (a : Int) (b : Int) g = some (insertionSort lt d a b).toList := by
  unfold sl_insertionSortCmpFunc_dpDep insertionSort
  rw [wp1 (by omega)]
  exact pins_l1 hg hn hb hf _ _ _ d rfl (by omega) hs hA
theorem prev_l1 {n : Nat} (hn : n ≤ 1152921504606846976) : ∀ (k i j m : Nat) (d : Array dpDep), j - i ≤ k → k < m → i ≤ n → j < n → d.size = n →
    sl_reverseRangeCmpFunc_dpDep_l1 n m d.toList ((i : Nat) : Int) ((j : Nat) : Int) = some (reverseLoop i j d).toList := by
  intro k
  induction k with
  | zero =>
    intro i j m d hk hm hi hj hs
    obtain ⟨m', rfl⟩ : ∃ m', m = m' + 1 := ⟨m - 1, by omega⟩
    rw [sl_reverseRangeCmpFunc_dpDep_l1.eq_2, reverseLoop]
    have h0 : decide (((i : Nat) : Int) < ((j : Nat) : Int)) = false := decide_eq_false (by omega)
    rw [h0, if_neg (by omega)]; rfl
  | succ k ih =>
    intro i j m d hk hm hi hj hs
    obtain ⟨m', rfl⟩ : ∃ m', m = m' + 1 := ⟨m - 1, by omega⟩
    rw [sl_reverseRangeCmpFunc_dpDep_l1.eq_2, reverseLoop]
    by_cases hij : i < j
    · have h0 : decide (((i : Nat) : Int) < ((j : Nat) : Int)) = true := decide_eq_true (by omega)
      rw [if_pos hij]
      simp only [h0, bnd hj, bnd (show i < n by omega), gl (d := d) (show j < d.size by omega), gl (d := d) (show i < d.size by omega), chk, cond_true, Option.bind_some]
      rw [upd1 (by omega)]
      simp only [Option.bind_some]
      rw [upd2 (by omega)]
      simp only [Option.bind_some]
      rw [wp1 (by omega), wm1 (by omega) (by omega)]
      exact ih (i + 1) (j - 1) m' _ (by omega) (by omega) (by omega) (by omega) (by rw [size_swp]; exact hs)
    · have h0 : decide (((i : Nat) : Int) < ((j : Nat) : Int)) = false := decide_eq_false (by omega)
      rw [h0, if_neg hij]; rfl
theorem prev {n a b fuel : Nat} (hn : n ≤ 1152921504606846976) (hab : a < b) (hb : b ≤ n) (hf : n < fuel) {d : Array dpDep} (hs : d.size = n) :
    sl_reverseRangeCmpFunc_dpDep fuel d.toList n (a : Int) (b : Int) g = some (reverseRange d a b).toList := by
  unfold sl_reverseRangeCmpFunc_dpDep reverseRange
  rw [wm1 (by omega) (by omega)]
  exact prev_l1 hn _ _ _ _ d (Nat.le_refl _) (by omega) (by omega) (by omega) hs
theorem psift (hg : Cmp g lt A) {n hi first : Nat} (hn : n ≤ 1152921504606846976) (hF : first + hi ≤ n) : ∀ (k root m : Nat) (d : Array dpDep), hi - root ≤ k → k < m → root ≤ n → d.size = n → AllA A d →
    sl_siftDownCmpFunc_dpDep_l1 n (hi : Int) (first : Int) g m d.toList ((root : Nat) : Int) = some (siftDown lt hi first root d).toList := by
  intro k
  induction k with
  | zero =>
    intro root m d hk hm hr hs hA
    obtain ⟨m', rfl⟩ : ∃ m', m = m' + 1 := ⟨m - 1, by omega⟩
    rw [sl_siftDownCmpFunc_dpDep_l1.eq_2, siftDown, dif_pos (by omega), wrap64 (i := 2 * ((root : Nat) : Int)) (by omega) (by omega), wrap64 (by omega) (by omega)]
    have h0 : decide (2 * ((root : Nat) : Int) + 1 ≥ (hi : Int)) = true := decide_eq_true (by omega)
    rw [h0]; rfl
  | succ k ih =>
    intro root m d hk hm hr hs hA
    obtain ⟨m', rfl⟩ : ∃ m', m = m' + 1 := ⟨m - 1, by omega⟩
    rw [sl_siftDownCmpFunc_dpDep_l1.eq_2, siftDown]
    rw [wrap64 (i := 2 * ((root : Nat) : Int)) (by omega) (by omega), wrap64 (i := 2 * ((root : Nat) : Int) + 1) (by omega) (by omega)]
    by_cases hc : 2 * root + 1 ≥ hi
    · have h0 : decide (2 * ((root : Nat) : Int) + 1 ≥ (hi : Int)) = true := decide_eq_true (by omega)
      rw [h0, dif_pos hc]; rfl
    have h0 : decide (2 * ((root : Nat) : Int) + 1 ≥ (hi : Int)) = false := decide_eq_false (by omega)
    rw [h0, dif_neg hc]
    simp only [cond_false]
    have e1 : (2 * ((root : Nat) : Int) + 1) = ((2 * root + 1 : Nat) : Int) := by omega
    rw [e1, wp1 (i := 2 * root + 1) (by omega)]
    -- the step with the chosen child
    have step : ∀ c : Nat, c < hi → root < c → sl_siftDownCmpFunc_dpDep_j13 n (first : Int) g d.toList ((root : Nat) : Int) (sl_siftDownCmpFunc_dpDep_l1 n (hi : Int) (first : Int) g m') ((c : Nat) : Int)
        = some (if !lt d[first + root]! d[first + c]! then d else siftDown lt hi first c (swp d (first + root) (first + c))).toList := by
      intro c hc1 hc2
      unfold sl_siftDownCmpFunc_dpDep_j13
      rw [wpl (by omega), wpl (by omega)]
      obtain ⟨w, hw, hd⟩ := hg d[first + root]! d[first + c]! (hA _ (by omega)) (hA _ (by omega))
      simp only [bnd (show first + root < n by omega), bnd (show first + c < n by omega), gl (d := d) (show first + root < d.size by omega), gl (d := d) (show first + c < d.size by omega), hw, hd, chk, cond_true, Option.bind_some]
      cases hl : lt d[first + root]! d[first + c]! with
      | false => simp
      | true =>
        rw [upd1 (by omega)]
        simp only [Bool.not_true, cond_false, Option.bind_some]
        rw [upd2 (by omega)]
        simp only [Option.bind_some]
        rw [ih c m' _ (by omega) (by omega) (by omega) (by rw [size_swp]; exact hs) (hA.swp (by omega) (by omega))]
        simp
    by_cases hc2 : 2 * root + 1 + 1 < hi
    · have h1 : decide (((2 * root + 1 + 1 : Nat) : Int) < (hi : Int)) = true := decide_eq_true (by omega)
      rw [h1]
      simp only [cond_true]
      rw [wpl (i := first) (k := 2 * root + 1) (by omega), wp1 (i := first + (2 * root + 1)) (by omega)]
      obtain ⟨w, hw, hd⟩ := hg d[first + (2 * root + 1)]! d[first + (2 * root + 1) + 1]! (hA _ (by omega)) (hA _ (by omega))
      simp only [bnd (show first + (2 * root + 1) < n by omega), bnd (show first + (2 * root + 1) + 1 < n by omega), gl (d := d) (show first + (2 * root + 1) < d.size by omega), gl (d := d) (show first + (2 * root + 1) + 1 < d.size by omega), hw, hd, chk, cond_true, Option.bind_some]
      unfold sl_siftDownCmpFunc_dpDep_j14
      rw [wrap64 (i := 2 * ((root : Nat) : Int)) (by omega) (by omega), wrap64 (i := 2 * ((root : Nat) : Int) + 1) (by omega) (by omega), e1, wp1 (i := 2 * root + 1) (by omega)]
      cases hl : lt d[first + (2 * root + 1)]! d[first + (2 * root + 1) + 1]! with
      | false =>
        simp only [cond_false, Bool.and_false, Bool.false_eq_true, if_false]
        exact step (2 * root + 1) (by omega) (by omega)
      | true =>
        simp only [cond_true, hc2, decide_true, Bool.and_self, if_true]
        rw [step (2 * root + 1 + 1) (by omega) (by omega)]
        rw [dif_pos trivial]
    · have h1 : decide (((2 * root + 1 + 1 : Nat) : Int) < (hi : Int)) = false := decide_eq_false (by omega)
      rw [h1]
      unfold sl_siftDownCmpFunc_dpDep_j14
      rw [wrap64 (i := 2 * ((root : Nat) : Int)) (by omega) (by omega), wrap64 (i := 2 * ((root : Nat) : Int) + 1) (by omega) (by omega), e1]
      simp only [cond_false, hc2, decide_false, Bool.false_and, Bool.false_eq_true, if_false]
      exact step (2 * root + 1) (by omega) (by omega)
theorem sift_keep {hi first : Nat} : ∀ (k root : Nat) (d : Array dpDep), hi - root ≤ k → first + hi ≤ d.size → AllA A d → (siftDown lt hi first root d).size = d.size ∧ AllA A (siftDown lt hi first root d) := by
  intro k
  induction k with
  | zero => intro root d hk hs hA; rw [siftDown, dif_pos (by omega)]; exact ⟨rfl, hA⟩
  | succ k ih =>
    intro root d hk hs hA
    rw [siftDown]
    have go : ∀ c, c < hi → root < c → (siftDown lt hi first c (swp d (first + root) (first + c))).size = d.size ∧ AllA A (siftDown lt hi first c (swp d (first + root) (first + c))) := by
      intro c h1 h2
      obtain ⟨x, y⟩ := ih c (swp d (first + root) (first + c)) (by omega) (by rw [size_swp]; exact hs) (hA.swp (by omega) (by omega))
      exact ⟨by rw [x, size_swp], y⟩
    split
    · exact ⟨rfl, hA⟩
    · split
      · split
        · exact ⟨rfl, hA⟩
        · split
          · exact go _ (by omega) (by omega)
          · exact ⟨rfl, hA⟩
      · split
        · exact ⟨rfl, hA⟩
        · exact go _ (by omega) (by omega)
theorem tdivn {x k : Nat} : Int.tdiv ((x : Nat) : Int) ((k : Nat) : Int) = ((x / k : Nat) : Int) := rfl
theorem pheap_l2 (hg : Cmp g lt A) {n a fuel : Nat} (hn : n ≤ 1152921504606846976) (hf : n < fuel) : ∀ (k m : Nat) (d : Array dpDep), k < m → a + k ≤ n → d.size = n → AllA A d →
    sl_heapSortCmpFunc_dpDep_l2 fuel n (a : Int) g m d.toList (((k : Nat) : Int) - 1) = some (heapPop lt a k d).toList
  | 0, m, d, hm, hk, hs, hA => by
    obtain ⟨m', rfl⟩ : ∃ m', m = m' + 1 := ⟨m - 1, by omega⟩
    rw [sl_heapSortCmpFunc_dpDep_l2.eq_2]
    have h0 : decide (((0 : Nat) : Int) - 1 ≥ 0) = false := decide_eq_false (by omega)
    rw [h0]; rfl
  | k + 1, m, d, hm, hk, hs, hA => by
    obtain ⟨m', rfl⟩ : ∃ m', m = m' + 1 := ⟨m - 1, by omega⟩
    have e : (((k + 1 : Nat) : Int) - 1) = ((k : Nat) : Int) := by omega
    rw [sl_heapSortCmpFunc_dpDep_l2.eq_2, e]
    have h0 : decide (((k : Nat) : Int) ≥ 0) = true := decide_eq_true (by omega)
    rw [wpl (by omega)]
    simp only [h0, bnd (show a + k < n by omega), bnd (show a < n by omega), gl (d := d) (show a + k < d.size by omega), gl (d := d) (show a < d.size by omega), chk, cond_true, Option.bind_some]
    rw [upd1 (by omega)]
    simp only [Option.bind_some]
    rw [upd2 (by omega)]
    simp only [Option.bind_some]
    unfold sl_siftDownCmpFunc_dpDep
    have hA1 : AllA A (swp d a (a + k)) := hA.swp (by omega) (by omega)
    have hsz : (swp d a (a + k)).size = n := by rw [size_swp]; exact hs
    have := psift hg hn (hi := k) (first := a) (by omega) k 0 fuel (swp d a (a + k)) (by omega) (by omega) (by omega) hsz hA1
    rw [show (((0 : Nat)) : Int) = 0 from rfl] at this
    rw [this]
    simp only [Option.bind_some]
    obtain ⟨x, y⟩ := sift_keep (lt := lt) (hi := k) (first := a) k 0 (swp d a (a + k)) (by omega) (by omega) hA1
    rw [wrap64 (by omega) (by omega), pheap_l2 hg hn hf k m' _ (by omega) (by omega) (by rw [x]; exact hsz) y]
    rfl
theorem pheap_l1 (hg : Cmp g lt A) {n a b fuel : Nat} (hn : n ≤ 1152921504606846976) (hab : a ≤ b) (hb : b ≤ n) (hf : n < fuel) (R : Option (List dpDep)) (K : List dpDep → Option (List dpDep)) : ∀ (k m : Nat) (d : Array dpDep), k < m → k ≤ n → d.size = n → AllA A d →
    (∀ d', d' = heapBuild lt (b - a) a k d → d'.size = n → AllA A d' → K d'.toList = R) →
    sl_heapSortCmpFunc_dpDep_l1 fuel n (a : Int) (b : Int) g K m d.toList (((k : Nat) : Int) - 1) = R
  | 0, m, d, hm, hk, hs, hA, hR => by
    obtain ⟨m', rfl⟩ : ∃ m', m = m' + 1 := ⟨m - 1, by omega⟩
    rw [sl_heapSortCmpFunc_dpDep_l1.eq_2]
    have h0 : decide (((0 : Nat) : Int) - 1 ≥ 0) = false := decide_eq_false (by omega)
    rw [h0]
    exact hR d rfl hs hA
  | k + 1, m, d, hm, hk, hs, hA, hR => by
    obtain ⟨m', rfl⟩ : ∃ m', m = m' + 1 := ⟨m - 1, by omega⟩
    have e : (((k + 1 : Nat) : Int) - 1) = ((k : Nat) : Int) := by omega
    rw [sl_heapSortCmpFunc_dpDep_l1.eq_2, e]
    have h0 : decide (((k : Nat) : Int) ≥ 0) = true := decide_eq_true (by omega)
    rw [h0, wmm (by omega) hab]
    unfold sl_siftDownCmpFunc_dpDep
    simp only [cond_true]
    rw [psift hg hn (hi := b - a) (first := a) (by omega) (b - a) k fuel d (by omega) (by omega) (by omega) hs hA]
    simp only [Option.bind_some]
    obtain ⟨x, y⟩ := sift_keep (lt := lt) (hi := b - a) (first := a) (b - a) k d (by omega) (by omega) hA
    rw [wrap64 (by omega) (by omega)]
    exact pheap_l1 hg hn hab hb hf R K k m' _ (by omega) (by omega) (by rw [x]; exact hs) y (fun d' e1 e2 e3 => hR d' e1 e2 e3)
theorem pheap (hg : Cmp g lt A) {n a b fuel : Nat} (hn : n ≤ 1152921504606846976) (hab : a < b) (hb : b ≤ n) (hf : n < fuel) {d : Array dpDep} (hs : d.size = n) (hA : AllA A d) :
    sl_heapSortCmpFunc_dpDep fuel d.toList n (a : Int) (b : Int) g = some (heapSort lt d a b).toList := by
  unfold sl_heapSortCmpFunc_dpDep heapSort
  rw [wmm (by omega) (by omega), wm1 (by omega) (by omega), show (2 : Int) = ((2 : Nat) : Int) from rfl, tdivn, wrap64 (by omega) (by omega)]
  have e : (((b - a - 1) / 2 : Nat) : Int) = (((b - a - 1) / 2 + 1 : Nat) : Int) - 1 := by omega
  rw [e]
  refine pheap_l1 hg hn (by omega) hb hf _ _ _ _ d (by omega) (by omega) hs hA fun d' e1 e2 e3 => ?_
  unfold sl_heapSortCmpFunc_dpDep_j9
  rw [wmm (by omega) (by omega), wrap64 (by omega) (by omega), pheap_l2 hg hn hf (b - a) fuel d' (by omega) (by omega) e2 e3, e1]
theorem idx_l {d : Array dpDep} {i : Nat} (h : i < d.size) : idx d.toList ((i : Nat) : Int) = some d[i]! := by
  unfold idx
  rw [if_pos (by omega)]
  have := gl h
  rwa [Nat.zero_add] at this
def ord3 (r : Nat × Nat × Nat) : (Int × Int) × Int := (((r.1 : Int), (r.2.1 : Int)), (r.2.2 : Int))
theorem porder2 (hg : Cmp g lt A) {d : Array dpDep} (hA : AllA A d) {a b s : Nat} (ha : a < d.size) (hb : b < d.size) (hs : s < 1000) :
    sl_order2CmpFunc_dpDep d.toList (a : Int) (b : Int) (s : Int) g = some (ord3 (order2 lt d a b s)) := by
  unfold sl_order2CmpFunc_dpDep order2 ord3
  rw [idx_l hb, idx_l ha]
  obtain ⟨w, hw, hd⟩ := hg d[b]! d[a]! (hA b hb) (hA a ha)
  simp only [Option.bind_some, hw, hd]
  rw [wp1 (by omega)]
  cases lt d[b]! d[a]! <;> rfl
theorem order2_cnt {d : Array dpDep} {a b s : Nat} : (order2 lt d a b s).2.2 ≤ s + 1 := by
  unfold order2; split <;> simp
theorem pmedian (hg : Cmp g lt A) {d : Array dpDep} (hA : AllA A d) {a b c s : Nat} (ha : a < d.size) (hb : b < d.size) (hc : c < d.size) (hs : s < 900) :
    sl_medianCmpFunc_dpDep d.toList (a : Int) (b : Int) (c : Int) (s : Int) g = some (((median lt d a b c s).1 : Int), ((median lt d a b c s).2 : Int)) := by
  unfold sl_medianCmpFunc_dpDep median
  rw [porder2 hg hA ha hb (by omega)]
  have c1 := order2_cnt (lt := lt) (d := d) (a := a) (b := b) (s := s)
  have m1 := order2_mem lt d a b s
  obtain ⟨r1, hr1⟩ : ∃ r, order2 lt d a b s = r := ⟨_, rfl⟩
  rw [hr1] at c1 m1 ⊢
  simp only [Option.bind_some, ord3]
  have l1 : r1.1 < d.size ∧ r1.2.1 < d.size := by rcases m1 with ⟨x, y⟩ | ⟨x, y⟩ <;> rw [x, y] <;> exact ⟨by assumption, by assumption⟩
  rw [porder2 hg hA l1.2 hc (by omega)]
  have c2 := order2_cnt (lt := lt) (d := d) (a := r1.2.1) (b := c) (s := r1.2.2)
  have m2 := order2_mem lt d r1.2.1 c r1.2.2
  obtain ⟨r2, hr2⟩ : ∃ r, order2 lt d r1.2.1 c r1.2.2 = r := ⟨_, rfl⟩
  rw [hr2] at c2 m2 ⊢
  simp only [Option.bind_some, ord3]
  have l2 : r2.1 < d.size := by rcases m2 with ⟨x, y⟩ | ⟨x, y⟩ <;> rw [x]; exact l1.2; exact hc
  rw [porder2 hg hA l1.1 l2 (by omega)]
  rfl
theorem median_cnt {d : Array dpDep} {a b c s : Nat} : (median lt d a b c s).2 ≤ s + 3 := by
  unfold median
  have c1 := order2_cnt (lt := lt) (d := d) (a := a) (b := b) (s := s)
  have c2 := order2_cnt (lt := lt) (d := d) (a := (order2 lt d a b s).2.1) (b := c) (s := (order2 lt d a b s).2.2)
  have c3 := order2_cnt (lt := lt) (d := d) (a := (order2 lt d a b s).1) (b := (order2 lt d (order2 lt d a b s).2.1 c (order2 lt d a b s).2.2).1) (s := (order2 lt d (order2 lt d a b s).2.1 c (order2 lt d a b s).2.2).2.2)
  simp only
  omega
theorem padj (hg : Cmp g lt A) {d : Array dpDep} (hA : AllA A d) {a s : Nat} (h1 : 1 ≤ a) (ha : a + 1 < d.size) (hn : d.size ≤ 1152921504606846976) (hs : s < 900) :
    sl_medianAdjacentCmpFunc_dpDep d.toList (a : Int) (s : Int) g = some (((medianAdjacent lt d a s).1 : Int), ((medianAdjacent lt d a s).2 : Int)) := by
  unfold sl_medianAdjacentCmpFunc_dpDep medianAdjacent
  rw [wm1 (by omega) h1, wp1 (by omega), pmedian hg hA (by omega) (by omega) (by omega) hs]
  rfl
def hintN : Hint → Int
  | .unknown => 0
  | .increasing => 1
  | .decreasing => 2
theorem phint {s p : Nat} : sl_choosePivotCmpFunc_dpDep_j11 (s : Int) (p : Int) = some ((p : Int), hintN (if s = 0 then .increasing else if s = 12 then .decreasing else .unknown)) := by
  unfold sl_choosePivotCmpFunc_dpDep_j11
  by_cases h0 : s = 0
  · subst h0; rfl
  · have e0 : (((s : Nat) : Int) == 0) = false := by rw [beq_eq_false_iff_ne]; omega
    rw [e0, if_neg h0]
    by_cases h1 : s = 12
    · subst h1; rfl
    · have e1 : (((s : Nat) : Int) == 12) = false := by rw [beq_eq_false_iff_ne]; omega
      rw [e1, if_neg h1]; rfl
theorem ppivot (hg : Cmp g lt A) {n a b : Nat} (hn : n ≤ 1152921504606846976) (hab : a < b) (hb : b ≤ n) {d : Array dpDep} (hs : d.size = n) (hA : AllA A d) :
    sl_choosePivotCmpFunc_dpDep d.toList (a : Int) (b : Int) g = some (((choosePivot lt d a b).1 : Int), hintN (choosePivot lt d a b).2) := by
  unfold sl_choosePivotCmpFunc_dpDep choosePivot
  rw [wmm (by omega) (by omega), show (4 : Int) = ((4 : Nat) : Int) from rfl, tdivn, wrap64 (i := (((b - a) / 4 : Nat) : Int)) (by omega) (by omega)]
  have e1 : IntKind.wrap .i64 ((((b - a) / 4 : Nat) : Int) * 1) = (((b - a) / 4 * 1 : Nat) : Int) := by rw [wrap64 (by omega) (by omega)]; omega
  have e2 : IntKind.wrap .i64 ((((b - a) / 4 : Nat) : Int) * 2) = (((b - a) / 4 * 2 : Nat) : Int) := by rw [wrap64 (by omega) (by omega)]; omega
  have e3 : IntKind.wrap .i64 ((((b - a) / 4 : Nat) : Int) * 3) = (((b - a) / 4 * 3 : Nat) : Int) := by rw [wrap64 (by omega) (by omega)]; omega
  rw [e1, e2, e3, wpl (i := a) (k := (b - a) / 4 * 1) (by omega), wpl (i := a) (k := (b - a) / 4 * 2) (by omega), wpl (i := a) (k := (b - a) / 4 * 3) (by omega)]
  by_cases h8 : b - a ≥ 8
  · have d8 : decide (((b - a : Nat) : Int) ≥ 8) = true := decide_eq_true (by omega)
    rw [d8]
    simp only [if_pos h8, cond_true]
    by_cases h50 : b - a ≥ 50
    · have d50 : decide (((b - a : Nat) : Int) ≥ 50) = true := decide_eq_true (by omega)
      rw [d50]
      simp only [if_pos h50, cond_true]
      have p1 := padj hg hA (a := a + (b - a) / 4 * 1) (s := 0) (by omega) (by omega) (by omega) (by omega)
      rw [show (((0 : Nat)) : Int) = 0 from rfl] at p1
      rw [p1]
      have k1 := median_cnt (lt := lt) (d := d) (a := a + (b - a) / 4 * 1 - 1) (b := a + (b - a) / 4 * 1) (c := a + (b - a) / 4 * 1 + 1) (s := 0)
      have q1 := medianAdjacent_mem lt d (a + (b - a) / 4 * 1) 0
      change (medianAdjacent lt d (a + (b - a) / 4 * 1) 0).2 ≤ _ at k1
      obtain ⟨r1, hr1⟩ : ∃ r, medianAdjacent lt d (a + (b - a) / 4 * 1) 0 = r := ⟨_, rfl⟩
      rw [hr1] at k1 q1 ⊢
      simp only [Option.bind_some]
      rw [padj hg hA (a := a + (b - a) / 4 * 2) (s := r1.2) (by omega) (by omega) (by omega) (by omega)]
      have k2 := median_cnt (lt := lt) (d := d) (a := a + (b - a) / 4 * 2 - 1) (b := a + (b - a) / 4 * 2) (c := a + (b - a) / 4 * 2 + 1) (s := r1.2)
      have q2 := medianAdjacent_mem lt d (a + (b - a) / 4 * 2) r1.2
      change (medianAdjacent lt d (a + (b - a) / 4 * 2) r1.2).2 ≤ _ at k2
      obtain ⟨r2, hr2⟩ : ∃ r, medianAdjacent lt d (a + (b - a) / 4 * 2) r1.2 = r := ⟨_, rfl⟩
      rw [hr2] at k2 q2 ⊢
      simp only [Option.bind_some]
      rw [padj hg hA (a := a + (b - a) / 4 * 3) (s := r2.2) (by omega) (by omega) (by omega) (by omega)]
      have k3 := median_cnt (lt := lt) (d := d) (a := a + (b - a) / 4 * 3 - 1) (b := a + (b - a) / 4 * 3) (c := a + (b - a) / 4 * 3 + 1) (s := r2.2)
      have q3 := medianAdjacent_mem lt d (a + (b - a) / 4 * 3) r2.2
      change (medianAdjacent lt d (a + (b - a) / 4 * 3) r2.2).2 ≤ _ at k3
      obtain ⟨r3, hr3⟩ : ∃ r, medianAdjacent lt d (a + (b - a) / 4 * 3) r2.2 = r := ⟨_, rfl⟩
      rw [hr3] at k3 q3 ⊢
      simp only [Option.bind_some]
      unfold sl_choosePivotCmpFunc_dpDep_j13
      rw [pmedian hg hA (by omega) (by omega) (by omega) (by omega)]
      simp only [Option.bind_some]
      exact phint
    · have d50 : decide (((b - a : Nat) : Int) ≥ 50) = false := decide_eq_false (by omega)
      rw [d50]
      simp only [if_neg h50, cond_false]
      unfold sl_choosePivotCmpFunc_dpDep_j13
      have := pmedian hg hA (a := a + (b - a) / 4 * 1) (b := a + (b - a) / 4 * 2) (c := a + (b - a) / 4 * 3) (s := 0) (by omega) (by omega) (by omega) (by omega)
      rw [show (((0 : Nat)) : Int) = 0 from rfl] at this
      rw [this]
      simp only [Option.bind_some]
      exact phint
  · have d8 : decide (((b - a : Nat) : Int) ≥ 8) = false := decide_eq_false (by omega)
    rw [d8]
    simp only [if_neg h8, cond_false]
    exact phint (s := 0)
theorem pscan (hg : Cmp g lt A) {n b : Nat} (hn : n ≤ 1152921504606846976) (hb : b ≤ n) {d : Array dpDep} (hs : d.size = n) (hA : AllA A d) (K : Int → Option (Bool × List dpDep)) : ∀ (k i m : Nat), b - i = k → k < m → 1 ≤ i →
    sl_partialInsertionSortCmpFunc_dpDep_l2 n (b : Int) g d.toList K m ((i : Nat) : Int) = K ((scanSorted lt d b i : Nat) : Int) := by
  intro k
  induction k with
  | zero =>
    intro i m hk hm hi
    obtain ⟨m', rfl⟩ : ∃ m', m = m' + 1 := ⟨m - 1, by omega⟩
    rw [sl_partialInsertionSortCmpFunc_dpDep_l2.eq_2, scanSorted]
    have h0 : decide (((i : Nat) : Int) < (b : Int)) = false := decide_eq_false (by omega)
    have h1 : ¬ i < b := by omega
    rw [h0]
    simp only [h1, decide_false, Bool.false_and, Bool.false_eq_true, if_false, cond_false]
    rfl
  | succ k ih =>
    intro i m hk hm hi
    obtain ⟨m', rfl⟩ : ∃ m', m = m' + 1 := ⟨m - 1, by omega⟩
    rw [sl_partialInsertionSortCmpFunc_dpDep_l2.eq_2, scanSorted]
    have h0 : decide (((i : Nat) : Int) < (b : Int)) = true := decide_eq_true (by omega)
    have h1 : i < b := by omega
    obtain ⟨w, hw, hd⟩ := hg d[i]! d[i - 1]! (hA _ (by omega)) (hA _ (by omega))
    rw [wm1 (by omega) hi]
    simp only [h0, bnd (show i < n by omega), bnd (show i - 1 < n by omega), gl (d := d) (show i < d.size by omega), gl (d := d) (show i - 1 < d.size by omega), hw, hd, chk, cond_true, Option.bind_some]
    unfold sl_partialInsertionSortCmpFunc_dpDep_j19
    rw [wp1 (by omega)]
    cases hl : lt d[i]! d[i - 1]! with
    | true => simp
    | false =>
      simp only [Bool.not_false, cond_true, h1, decide_true, Bool.and_self, if_true]
      exact ih (i + 1) m' (by omega) (by omega) (by omega)
theorem pdown (hg : Cmp g lt A) {n : Nat} (hn : n ≤ 1152921504606846976) (K : List dpDep → Option (Bool × List dpDep)) : ∀ (j m : Nat) (d : Array dpDep), j < m → j < n → d.size = n → AllA A d →
    sl_partialInsertionSortCmpFunc_dpDep_l3 n g K m d.toList ((j : Nat) : Int) = K (shiftDown lt j d).toList
  | 0, m, d, hm, hj, hs, hA => by
    obtain ⟨m', rfl⟩ : ∃ m', m = m' + 1 := ⟨m - 1, by omega⟩
    rw [sl_partialInsertionSortCmpFunc_dpDep_l3.eq_2]
    have h0 : decide (((0 : Nat) : Int) ≥ 1) = false := decide_eq_false (by omega)
    rw [h0]; rfl
  | j + 1, m, d, hm, hj, hs, hA => by
    obtain ⟨m', rfl⟩ : ∃ m', m = m' + 1 := ⟨m - 1, by omega⟩
    rw [sl_partialInsertionSortCmpFunc_dpDep_l3.eq_2, shiftDown]
    have h0 : decide (((j + 1 : Nat) : Int) ≥ 1) = true := decide_eq_true (by omega)
    have e1 := wm1 (i := j + 1) (by omega) (by omega)
    simp only [Nat.add_sub_cancel] at e1
    obtain ⟨w, hw, hd⟩ := hg d[j + 1]! d[j]! (hA _ (by omega)) (hA _ (by omega))
    simp only [h0, e1, bnd (show j + 1 < n by omega), bnd (show j < n by omega), gl (d := d) (show j + 1 < d.size by omega), gl (d := d) (show j < d.size by omega), hw, hd, chk, cond_true, Option.bind_some]
    cases hl : lt d[j + 1]! d[j]! with
    | false => simp
    | true =>
      rw [upd1 (by omega)]
      simp only [Bool.not_true, cond_false, Option.bind_some]
      rw [upd2 (by omega)]
      simp only [Option.bind_some]
      rw [pdown hg hn K j m' (swp d (j + 1) j) (by omega) (by omega) (by rw [size_swp]; exact hs) (hA.swp (by omega) (by omega))]
      simp
theorem down_keep : ∀ (j : Nat) (d : Array dpDep), j < d.size → AllA A d → (shiftDown lt j d).size = d.size ∧ AllA A (shiftDown lt j d)
  | 0, d, _, h => ⟨rfl, h⟩
  | j + 1, d, hj, h => by
    rw [shiftDown]
    split
    · exact ⟨rfl, h⟩
    · obtain ⟨x, y⟩ := down_keep j (swp d (j + 1) j) (by rw [size_swp]; omega) (h.swp (by omega) (by omega))
      exact ⟨by rw [x, size_swp], y⟩
theorem pups (hg : Cmp g lt A) {n b : Nat} (hn : n ≤ 1152921504606846976) (hb : b ≤ n) (v26 : Int) (R : Option (Bool × List dpDep)) (K : List dpDep → Int → Option (Bool × List dpDep)) : ∀ (k j m : Nat) (d : Array dpDep), b - j = k → k < m → 1 ≤ j → d.size = n → AllA A d →
    (∀ d', d' = shiftUp lt b j d → d'.size = n → AllA A d' → K d'.toList v26 = R) →
    sl_partialInsertionSortCmpFunc_dpDep_l4 n (b : Int) g v26 K m d.toList ((j : Nat) : Int) = R := by
  intro k
  induction k with
  | zero =>
    intro j m d hk hm hj hs hA hR
    obtain ⟨m', rfl⟩ : ∃ m', m = m' + 1 := ⟨m - 1, by omega⟩
    rw [sl_partialInsertionSortCmpFunc_dpDep_l4.eq_2]
    have h0 : decide (((j : Nat) : Int) < (b : Int)) = false := decide_eq_false (by omega)
    rw [h0]
    exact hR d (by rw [shiftUp, if_neg (by omega)]) hs hA
  | succ k ih =>
    intro j m d hk hm hj hs hA hR
    obtain ⟨m', rfl⟩ : ∃ m', m = m' + 1 := ⟨m - 1, by omega⟩
    rw [sl_partialInsertionSortCmpFunc_dpDep_l4.eq_2]
    rw [shiftUp, if_pos (by omega)] at hR
    have h0 : decide (((j : Nat) : Int) < (b : Int)) = true := decide_eq_true (by omega)
    obtain ⟨w, hw, hd⟩ := hg d[j]! d[j - 1]! (hA _ (by omega)) (hA _ (by omega))
    rw [wm1 (by omega) hj]
    simp only [h0, bnd (show j < n by omega), bnd (show j - 1 < n by omega), gl (d := d) (show j < d.size by omega), gl (d := d) (show j - 1 < d.size by omega), hw, hd, chk, cond_true, Option.bind_some]
    cases hl : lt d[j]! d[j - 1]! with
    | false =>
      rw [hl] at hR
      simp only [Bool.not_false, cond_true]
      exact hR d (by simp) hs hA
    | true =>
      rw [hl] at hR
      rw [upd1 (by omega)]
      simp only [Bool.not_true, cond_false, Option.bind_some]
      rw [upd2 (by omega)]
      simp only [Option.bind_some]
      rw [wp1 (by omega)]
      exact ih (j + 1) m' _ (by omega) (by omega) (by omega) (by rw [size_swp]; exact hs) (hA.swp (by omega) (by omega)) (fun d' e => hR d' (by simpa using e))
theorem ppart_l1 (hg : Cmp g lt A) {n a b fuel : Nat} (hn : n ≤ 1152921504606846976) (hb : b ≤ n) (hf : n < fuel) : ∀ (s i m : Nat) (d : Array dpDep), s ≤ 5 → s < m → a < i → i ≤ b → d.size = n → AllA A d →
    sl_partialInsertionSortCmpFunc_dpDep_l1 fuel n (a : Int) (b : Int) g sl_partialInsertionSortCmpFunc_dpDep_j8 m d.toList ((i : Nat) : Int) (5 - ((s : Nat) : Int)) = some ((partialIns lt a b s i d).2, (partialIns lt a b s i d).1.toList)
  | 0, i, m, d, hs5, hm, hai, hib, hs, hA => by
    obtain ⟨m', rfl⟩ : ∃ m', m = m' + 1 := ⟨m - 1, by omega⟩
    rw [sl_partialInsertionSortCmpFunc_dpDep_l1.eq_2]
    rfl
  | s + 1, i, m, d, hs5, hm, hai, hib, hs, hA => by
    obtain ⟨m', rfl⟩ : ∃ m', m = m' + 1 := ⟨m - 1, by omega⟩
    rw [sl_partialInsertionSortCmpFunc_dpDep_l1.eq_2, partialIns_succ]
    have h0 : decide (5 - ((s + 1 : Nat) : Int) < 5) = true := decide_eq_true (by omega)
    rw [h0]
    simp only [cond_true]
    rw [pscan hg hn hb hs hA _ _ _ _ rfl (by omega) (by omega)]
    have hsc : i ≤ scanSorted lt d b i ∧ scanSorted lt d b i ≤ b := by
      have : ∀ (k i : Nat), b - i = k → i ≤ b → i ≤ scanSorted lt d b i ∧ scanSorted lt d b i ≤ b := by
        intro k
        induction k with
        | zero => intro i hk hi; rw [scanSorted]; simp only [show ¬ i < b by omega, decide_false, Bool.false_and, Bool.false_eq_true, if_false]; omega
        | succ k ih =>
          intro i hk hi
          rw [scanSorted]
          split
          · have := ih (i + 1) (by omega) (by omega); omega
          · omega
      exact this _ i rfl hib
    obtain ⟨i2, hi2⟩ : ∃ i2, scanSorted lt d b i = i2 := ⟨_, rfl⟩
    rw [hi2] at hsc ⊢
    unfold sl_partialInsertionSortCmpFunc_dpDep_j16
    by_cases hib2 : i2 = b
    · have : (((i2 : Nat) : Int) == (b : Int)) = true := by rw [beq_iff_eq]; omega
      rw [this, if_pos hib2]; rfl
    have e1 : (((i2 : Nat) : Int) == (b : Int)) = false := by rw [beq_eq_false_iff_ne]; omega
    rw [e1, if_neg hib2]
    simp only [cond_false]
    rw [wmm (by omega) (by omega)]
    by_cases h50 : b - a < 50
    · have : decide (((b - a : Nat) : Int) < 50) = true := decide_eq_true (by omega)
      rw [this, if_pos h50]; rfl
    have e2 : decide (((b - a : Nat) : Int) < 50) = false := decide_eq_false (by omega)
    rw [e2, if_neg h50, wm1 (by omega) (by omega)]
    simp only [cond_false, bnd (show i2 < n by omega), bnd (show i2 - 1 < n by omega), gl (d := d) (show i2 < d.size by omega), gl (d := d) (show i2 - 1 < d.size by omega), chk, cond_true, Option.bind_some]
    rw [upd1 (by omega)]
    simp only [Option.bind_some]
    rw [upd2 (by omega)]
    simp only [Option.bind_some]
    rw [wmm (by omega) (by omega)]
    obtain ⟨d1, hd1⟩ : ∃ d1, swp d i2 (i2 - 1) = d1 := ⟨_, rfl⟩
    have s1 : d1.size = n := by rw [← hd1, size_swp]; exact hs
    have A1 : AllA A d1 := hd1 ▸ hA.swp (by omega) (by omega)
    rw [hd1]
    obtain ⟨d2, hd2⟩ : ∃ d2, fixDown lt a i2 d1 = d2 := ⟨_, rfl⟩
    have k2 : d2.size = n ∧ AllA A d2 := by
      rw [← hd2]; unfold fixDown
      split
      · obtain ⟨x, y⟩ := down_keep (lt := lt) (i2 - 1) d1 (by omega) A1
        exact ⟨x.trans s1, y⟩
      · exact ⟨s1, A1⟩
    have main : sl_partialInsertionSortCmpFunc_dpDep_j44 fuel n (b : Int) g ((i2 : Nat) : Int) (sl_partialInsertionSortCmpFunc_dpDep_j15 (5 - ((s + 1 : Nat) : Int)) (sl_partialInsertionSortCmpFunc_dpDep_l1 fuel n (a : Int) (b : Int) g sl_partialInsertionSortCmpFunc_dpDep_j8 m')) d2.toList
        = some ((partialIns lt a b s i2 (fixUp lt b i2 d2)).2, (partialIns lt a b s i2 (fixUp lt b i2 d2)).1.toList) := by
      unfold sl_partialInsertionSortCmpFunc_dpDep_j44
      rw [wmm (by omega) (by omega)]
      have fin : ∀ d3 : Array dpDep, d3 = fixUp lt b i2 d2 → d3.size = n → AllA A d3 → sl_partialInsertionSortCmpFunc_dpDep_j15 (5 - ((s + 1 : Nat) : Int)) (sl_partialInsertionSortCmpFunc_dpDep_l1 fuel n (a : Int) (b : Int) g sl_partialInsertionSortCmpFunc_dpDep_j8 m') d3.toList ((i2 : Nat) : Int)
          = some ((partialIns lt a b s i2 (fixUp lt b i2 d2)).2, (partialIns lt a b s i2 (fixUp lt b i2 d2)).1.toList) := by
        intro d3 e3 s3 A3
        unfold sl_partialInsertionSortCmpFunc_dpDep_j15
        rw [wrap64 (by omega) (by omega), show 5 - ((s + 1 : Nat) : Int) + 1 = 5 - ((s : Nat) : Int) by omega, ← e3]
        exact ppart_l1 hg hn hb hf s i2 m' d3 (by omega) (by omega) (by omega) (by omega) s3 A3
      by_cases hbi : b - i2 ≥ 2
      · have : decide (((b - i2 : Nat) : Int) ≥ 2) = true := decide_eq_true (by omega)
        rw [this, wp1 (by omega)]
        simp only [cond_true]
        refine pups hg hn hb _ _ _ _ _ _ d2 rfl (by omega) (by omega) k2.1 k2.2 fun d' e1 e2 e3 => fin d' ?_ e2 e3
        unfold fixUp; rw [if_pos hbi]; exact e1
      · have : decide (((b - i2 : Nat) : Int) ≥ 2) = false := decide_eq_false (by omega)
        rw [this]
        simp only [cond_false]
        exact fin d2 (by unfold fixUp; rw [if_neg hbi]) k2.1 k2.2
    rw [hd2]
    by_cases hia : i2 - a ≥ 2
    · have : decide (((i2 - a : Nat) : Int) ≥ 2) = true := decide_eq_true (by omega)
      rw [this]
      simp only [cond_true]
      rw [pdown hg hn _ (i2 - 1) fuel d1 (by omega) (by omega) s1 A1]
      have e : shiftDown lt (i2 - 1) d1 = d2 := by rw [← hd2]; unfold fixDown; rw [if_pos hia]
      rw [e]
      exact main
    · have : decide (((i2 - a : Nat) : Int) ≥ 2) = false := decide_eq_false (by omega)
      rw [this]
      simp only [cond_false]
      have e : d1 = d2 := by rw [← hd2]; unfold fixDown; rw [if_neg hia]
      rw [e]
      exact main
theorem ppartial (hg : Cmp g lt A) {n a b fuel : Nat} (hn : n ≤ 1152921504606846976) (hab : a < b) (hb : b ≤ n) (hf : n + 10 < fuel) {d : Array dpDep} (hs : d.size = n) (hA : AllA A d) :
    sl_partialInsertionSortCmpFunc_dpDep fuel d.toList n (a : Int) (b : Int) g = some ((partialInsertionSort lt d a b).2, (partialInsertionSort lt d a b).1.toList) := by
  unfold sl_partialInsertionSortCmpFunc_dpDep partialInsertionSort
  rw [wp1 (by omega)]
  exact ppart_l1 hg hn hb (by omega) 5 (a + 1) fuel d (by omega) (by omega) (by omega) (by omega) hs hA
theorem pp_l1 (hg : Cmp g lt A) {n a b : Nat} (hn : n ≤ 1152921504606846976) (hb : b ≤ n) (hb1 : 1 ≤ b) (ha : a < n) {d : Array dpDep} (hs : d.size = n) (hA : AllA A d) (K : Int → Option ((Int × Bool) × List dpDep)) : ∀ (k i m : Nat), b - i = k → k < m →
    sl_partitionCmpFunc_dpDep_l1 n (a : Int) (b : Int) g d.toList K m ((i : Nat) : Int) = K ((scanUp (fun x => lt x d[a]!) d (b - 1) i : Nat) : Int) := by
  intro k
  induction k with
  | zero =>
    intro i m hk hm
    obtain ⟨m', rfl⟩ : ∃ m', m = m' + 1 := ⟨m - 1, by omega⟩
    rw [sl_partitionCmpFunc_dpDep_l1.eq_2, scanUp, wm1 (by omega) hb1]
    have h0 : decide (((i : Nat) : Int) ≤ ((b - 1 : Nat) : Int)) = false := decide_eq_false (by omega)
    rw [h0]
    simp only [show ¬ i ≤ b - 1 by omega, decide_false, Bool.false_and, Bool.false_eq_true, if_false, cond_false]
    rfl
  | succ k ih =>
    intro i m hk hm
    obtain ⟨m', rfl⟩ : ∃ m', m = m' + 1 := ⟨m - 1, by omega⟩
    rw [sl_partitionCmpFunc_dpDep_l1.eq_2, scanUp, wm1 (by omega) hb1]
    have h0 : decide (((i : Nat) : Int) ≤ ((b - 1 : Nat) : Int)) = true := decide_eq_true (by omega)
    obtain ⟨w, hw, hd⟩ := hg d[i]! d[a]! (hA _ (by omega)) (hA _ (by omega))
    simp only [h0, bnd (show i < n by omega), bnd ha, gl (d := d) (show i < d.size by omega), gl (d := d) (show a < d.size by omega), hw, hd, chk, cond_true, Option.bind_some]
    unfold sl_partitionCmpFunc_dpDep_j23
    rw [wp1 (by omega)]
    cases hl : lt d[i]! d[a]! with
    | false => simp
    | true =>
      simp only [cond_true, show i ≤ b - 1 by omega, decide_true, Bool.and_self, if_true]
      exact ih (i + 1) m' (by omega) (by omega)
theorem pp_l4 (hg : Cmp g lt A) {n a j : Nat} (hn : n ≤ 1152921504606846976) (hj : j < n) (ha : a < n) {d : Array dpDep} (hs : d.size = n) (hA : AllA A d) (K : Int → Option ((Int × Bool) × List dpDep)) : ∀ (k i m : Nat), j + 1 - i = k → k < m →
    sl_partitionCmpFunc_dpDep_l4 n (a : Int) g d.toList ((j : Nat) : Int) K m ((i : Nat) : Int) = K ((scanUp (fun x => lt x d[a]!) d j i : Nat) : Int) := by
  intro k
  induction k with
  | zero =>
    intro i m hk hm
    obtain ⟨m', rfl⟩ : ∃ m', m = m' + 1 := ⟨m - 1, by omega⟩
    rw [sl_partitionCmpFunc_dpDep_l4.eq_2, scanUp]
    have h0 : decide (((i : Nat) : Int) ≤ ((j : Nat) : Int)) = false := decide_eq_false (by omega)
    rw [h0]
    simp only [show ¬ i ≤ j by omega, decide_false, Bool.false_and, Bool.false_eq_true, if_false, cond_false]
    rfl
  | succ k ih =>
    intro i m hk hm
    obtain ⟨m', rfl⟩ : ∃ m', m = m' + 1 := ⟨m - 1, by omega⟩
    rw [sl_partitionCmpFunc_dpDep_l4.eq_2, scanUp]
    have h0 : decide (((i : Nat) : Int) ≤ ((j : Nat) : Int)) = true := decide_eq_true (by omega)
    obtain ⟨w, hw, hd⟩ := hg d[i]! d[a]! (hA _ (by omega)) (hA _ (by omega))
    simp only [h0, bnd (show i < n by omega), bnd ha, gl (d := d) (show i < d.size by omega), gl (d := d) (show a < d.size by omega), hw, hd, chk, cond_true, Option.bind_some]
    unfold sl_partitionCmpFunc_dpDep_j76
    rw [wp1 (by omega)]
    cases hl : lt d[i]! d[a]! with
    | false => simp
    | true =>
      simp only [cond_true, show i ≤ j by omega, decide_true, Bool.and_self, if_true]
      exact ih (i + 1) m' (by omega) (by omega)
theorem pp_l2 (hg : Cmp g lt A) {n a i : Nat} (hn : n ≤ 1152921504606846976) (hi : 1 ≤ i) (ha : a < n) {d : Array dpDep} (hs : d.size = n) (hA : AllA A d) (K : Int → Option ((Int × Bool) × List dpDep)) : ∀ (j m : Nat), j < n → j < m →
    sl_partitionCmpFunc_dpDep_l2 n (a : Int) g d.toList ((i : Nat) : Int) K m ((j : Nat) : Int) = K ((scanDown (fun x => !lt x d[a]!) d i j : Nat) : Int)
  | 0, m, hj, hm => by
    obtain ⟨m', rfl⟩ : ∃ m', m = m' + 1 := ⟨m - 1, by omega⟩
    rw [sl_partitionCmpFunc_dpDep_l2.eq_2, scanDown]
    have h0 : decide (((i : Nat) : Int) ≤ ((0 : Nat) : Int)) = false := decide_eq_false (by omega)
    rw [h0]; rfl
  | j + 1, m, hj, hm => by
    obtain ⟨m', rfl⟩ : ∃ m', m = m' + 1 := ⟨m - 1, by omega⟩
    rw [sl_partitionCmpFunc_dpDep_l2.eq_2, scanDown]
    by_cases hij : i ≤ j + 1
    · have h0 : decide (((i : Nat) : Int) ≤ ((j + 1 : Nat) : Int)) = true := decide_eq_true (by omega)
      obtain ⟨w, hw, hd⟩ := hg d[j + 1]! d[a]! (hA _ (by omega)) (hA _ (by omega))
      simp only [h0, bnd hj, bnd ha, gl (d := d) (show j + 1 < d.size by omega), gl (d := d) (show a < d.size by omega), hw, hd, chk, cond_true, Option.bind_some]
      unfold sl_partitionCmpFunc_dpDep_j34
      have e1 := wm1 (i := j + 1) (by omega) (by omega)
      simp only [Nat.add_sub_cancel] at e1
      rw [e1]
      cases hl : lt d[j + 1]! d[a]! with
      | true => simp
      | false =>
        simp only [Bool.not_false, cond_true, hij, decide_true, Bool.and_self, if_true]
        exact pp_l2 hg hn hi ha hs hA K j m' (by omega) (by omega)
    · have h0 : decide (((i : Nat) : Int) ≤ ((j + 1 : Nat) : Int)) = false := decide_eq_false (by omega)
      rw [h0]
      simp only [hij, decide_false, Bool.false_and, Bool.false_eq_true, if_false, cond_false]
      rfl
theorem pp_l5 (hg : Cmp g lt A) {n a i : Nat} (hn : n ≤ 1152921504606846976) (hi : 1 ≤ i) (ha : a < n) {d : Array dpDep} (hs : d.size = n) (hA : AllA A d) (K : Int → Option ((Int × Bool) × List dpDep)) : ∀ (j m : Nat), j < n → j < m →
    sl_partitionCmpFunc_dpDep_l5 n (a : Int) g d.toList ((i : Nat) : Int) K m ((j : Nat) : Int) = K ((scanDown (fun x => !lt x d[a]!) d i j : Nat) : Int)
  | 0, m, hj, hm => by
    obtain ⟨m', rfl⟩ : ∃ m', m = m' + 1 := ⟨m - 1, by omega⟩
    rw [sl_partitionCmpFunc_dpDep_l5.eq_2, scanDown]
    have h0 : decide (((i : Nat) : Int) ≤ ((0 : Nat) : Int)) = false := decide_eq_false (by omega)
    rw [h0]; rfl
  | j + 1, m, hj, hm => by
    obtain ⟨m', rfl⟩ : ∃ m', m = m' + 1 := ⟨m - 1, by omega⟩
    rw [sl_partitionCmpFunc_dpDep_l5.eq_2, scanDown]
    by_cases hij : i ≤ j + 1
    · have h0 : decide (((i : Nat) : Int) ≤ ((j + 1 : Nat) : Int)) = true := decide_eq_true (by omega)
      obtain ⟨w, hw, hd⟩ := hg d[j + 1]! d[a]! (hA _ (by omega)) (hA _ (by omega))
      simp only [h0, bnd hj, bnd ha, gl (d := d) (show j + 1 < d.size by omega), gl (d := d) (show a < d.size by omega), hw, hd, chk, cond_true, Option.bind_some]
      unfold sl_partitionCmpFunc_dpDep_j87
      have e1 := wm1 (i := j + 1) (by omega) (by omega)
      simp only [Nat.add_sub_cancel] at e1
      rw [e1]
      cases hl : lt d[j + 1]! d[a]! with
      | true => simp
      | false =>
        simp only [Bool.not_false, cond_true, hij, decide_true, Bool.and_self, if_true]
        exact pp_l5 hg hn hi ha hs hA K j m' (by omega) (by omega)
    · have h0 : decide (((i : Nat) : Int) ≤ ((j + 1 : Nat) : Int)) = false := decide_eq_false (by omega)
      rw [h0]
      simp only [hij, decide_false, Bool.false_and, Bool.false_eq_true, if_false, cond_false]
      rfl
theorem pswp {n i j : Nat} {d : Array dpDep} (hs : d.size = n) (hi : i < n) (hj : j < n) {β : Type} (N : List dpDep → Option β) :
    (chk (decide ((0 : Int) ≤ ((j : Nat) : Int) ∧ ((j : Nat) : Int) < ((n : Nat) : Int))) ((d.toList[0 + Int.toNat ((j : Nat) : Int)]?).bind fun e => (chk (decide ((0 : Int) ≤ ((i : Nat) : Int) ∧ ((i : Nat) : Int) < ((n : Nat) : Int))) ((d.toList[0 + Int.toNat ((i : Nat) : Int)]?).bind fun e' =>
      (chk (decide ((0 : Int) ≤ ((i : Nat) : Int) ∧ ((i : Nat) : Int) < ((n : Nat) : Int))) ((upd d.toList (0 + Int.toNat ((i : Nat) : Int)) e).bind fun u => (chk (decide ((0 : Int) ≤ ((j : Nat) : Int) ∧ ((j : Nat) : Int) < ((n : Nat) : Int))) ((upd u (0 + Int.toNat ((j : Nat) : Int)) e').bind fun u' => N u'))))))))
    = N (swp d i j).toList := by
  simp only [bnd hi, bnd hj, gl (d := d) (show i < d.size by omega), gl (d := d) (show j < d.size by omega), chk, cond_true, Option.bind_some]
  rw [upd1 (by omega)]
  simp only [Option.bind_some]
  rw [upd2 (by omega)]
  rfl
theorem pp_l3 (hg : Cmp g lt A) {n a fuel : Nat} (hn : n ≤ 1152921504606846976) (ha : a < n) (hf : n + 10 < fuel) : ∀ (k i j m : Nat) (d : Array dpDep), j + 1 - i ≤ k → k < m → a < i → i ≤ j + 1 → j < n → d.size = n → AllA A d →
    (partLoop lt a i j d).1 < n ∧ sl_partitionCmpFunc_dpDep_l3 fuel n (a : Int) g (sl_partitionCmpFunc_dpDep_j69 n (a : Int)) m d.toList ((i : Nat) : Int) ((j : Nat) : Int)
      = some ((((partLoop lt a i j d).1 : Int), false), (swp (partLoop lt a i j d).2 (partLoop lt a i j d).1 a).toList) := by
  intro k
  induction k with
  | zero =>
    intro i j m d hk hm hi hij hj hs hA
    obtain ⟨m', rfl⟩ : ∃ m', m = m' + 1 := ⟨m - 1, by omega⟩
    rw [sl_partitionCmpFunc_dpDep_l3.eq_2, pp_l4 hg hn hj ha hs hA _ _ _ _ rfl (by omega), partLoop_eq]
    unfold sl_partitionCmpFunc_dpDep_j73
    have u1 := scanUp_ge (fun x => lt x d[a]!) d j i
    obtain ⟨i2, hi2⟩ : ∃ i2, scanUp (fun x => lt x d[a]!) d j i = i2 := ⟨_, rfl⟩
    rw [hi2] at u1 ⊢
    rw [pp_l5 hg hn (by omega) ha hs hA _ _ _ hj (by omega)]
    have u2 := scanDown_le (fun x => !lt x d[a]!) d i2 j
    obtain ⟨j2, hj2⟩ : ∃ j2, scanDown (fun x => !lt x d[a]!) d i2 j = j2 := ⟨_, rfl⟩
    rw [hj2] at u2 ⊢
    have hgt : i2 > j2 := by omega
    rw [if_pos hgt]
    refine ⟨by simp only; omega, ?_⟩
    unfold sl_partitionCmpFunc_dpDep_j84
    have h0 : decide (((i2 : Nat) : Int) > ((j2 : Nat) : Int)) = true := decide_eq_true (by omega)
    rw [h0]
    simp only [cond_true]
    unfold sl_partitionCmpFunc_dpDep_j69
    exact pswp hs (by omega) ha (fun u => some ((((j2 : Nat) : Int), false), u))
  | succ k ih =>
    intro i j m d hk hm hi hij hj hs hA
    obtain ⟨m', rfl⟩ : ∃ m', m = m' + 1 := ⟨m - 1, by omega⟩
    rw [sl_partitionCmpFunc_dpDep_l3.eq_2, pp_l4 hg hn hj ha hs hA _ _ _ _ rfl (by omega), partLoop_eq]
    unfold sl_partitionCmpFunc_dpDep_j73
    have u1 := scanUp_ge (fun x => lt x d[a]!) d j i
    obtain ⟨i2, hi2⟩ : ∃ i2, scanUp (fun x => lt x d[a]!) d j i = i2 := ⟨_, rfl⟩
    rw [hi2] at u1 ⊢
    rw [pp_l5 hg hn (by omega) ha hs hA _ _ _ hj (by omega)]
    have u2 := scanDown_spec (fun x => !lt x d[a]!) d i2 j
    have u3 := scanUp_spec (fun x => lt x d[a]!) d j _ i rfl
    rw [hi2] at u3
    obtain ⟨j2, hj2⟩ : ∃ j2, scanDown (fun x => !lt x d[a]!) d i2 j = j2 := ⟨_, rfl⟩
    rw [hj2] at u2 ⊢
    by_cases hgt : i2 > j2
    · rw [if_pos hgt]
      refine ⟨by simp only; omega, ?_⟩
      unfold sl_partitionCmpFunc_dpDep_j84
      have h0 : decide (((i2 : Nat) : Int) > ((j2 : Nat) : Int)) = true := decide_eq_true (by omega)
      rw [h0]
      simp only [cond_true]
      unfold sl_partitionCmpFunc_dpDep_j69
      exact pswp hs (by omega) ha (fun u => some ((((j2 : Nat) : Int), false), u))
    · rw [if_neg hgt]
      have hne : i2 ≠ j2 := by
        intro e
        have a1 := u3.2.2.2 (by omega)
        have a2 := u2.2.2.2 (by omega) (by omega)
        rw [← e] at a2
        simp only [Bool.not_eq_false'] at a2
        rw [a1] at a2; cases a2
      obtain ⟨b1, b2⟩ := ih (i2 + 1) (j2 - 1) m' (swp d i2 j2) (by omega) (by omega) (by omega) (by omega) (by omega) (by rw [size_swp]; exact hs) (hA.swp (by omega) (by omega))
      refine ⟨b1, ?_⟩
      unfold sl_partitionCmpFunc_dpDep_j84
      have h0 : decide (((i2 : Nat) : Int) > ((j2 : Nat) : Int)) = false := decide_eq_false (by omega)
      rw [h0]
      simp only [cond_false]
      rw [pswp hs (by omega) (by omega), wp1 (by omega), wm1 (by omega) (by omega)]
      exact b2
theorem ppartition (hg : Cmp g lt A) {n a b p fuel : Nat} (hn : n ≤ 1152921504606846976) (hab : a + 1 < b) (hb : b ≤ n) (hp : p < n) (hf : n + 20 < fuel) {d : Array dpDep} (hs : d.size = n) (hA : AllA A d) :
    sl_partitionCmpFunc_dpDep fuel d.toList n (a : Int) (b : Int) (p : Int) g = some ((((partition lt d a b p).1 : Int), (partition lt d a b p).2.1), (partition lt d a b p).2.2.toList) := by
  unfold sl_partitionCmpFunc_dpDep
  rw [pswp hs (show a < n by omega) hp, wp1 (by omega)]
  obtain ⟨e, he⟩ : ∃ e, swp d a p = e := ⟨_, rfl⟩
  have es : e.size = n := by rw [← he, size_swp]; exact hs
  have eA : AllA A e := he ▸ hA.swp (by omega) (by omega)
  rw [he, pp_l1 hg hn hb (by omega) (by omega) es eA _ _ _ _ rfl (by omega)]
  unfold partition
  simp only []
  rw [he]
  have u3 := scanUp_spec (fun x => lt x e[a]!) e (b - 1) _ (a + 1) rfl
  obtain ⟨i2, hi2⟩ : ∃ i2, scanUp (fun x => lt x e[a]!) e (b - 1) (a + 1) = i2 := ⟨_, rfl⟩
  rw [hi2] at u3 ⊢
  unfold sl_partitionCmpFunc_dpDep_j20
  rw [wm1 (by omega) (by omega), pp_l2 hg hn (by omega) (by omega) es eA _ _ _ (by omega) (by omega)]
  have u2 := scanDown_spec (fun x => !lt x e[a]!) e i2 (b - 1)
  obtain ⟨j2, hj2⟩ : ∃ j2, scanDown (fun x => !lt x e[a]!) e i2 (b - 1) = j2 := ⟨_, rfl⟩
  rw [hj2] at u2 ⊢
  unfold sl_partitionCmpFunc_dpDep_j31
  by_cases hgt : i2 > j2
  · have h0 : decide (((i2 : Nat) : Int) > ((j2 : Nat) : Int)) = true := decide_eq_true (by omega)
    rw [h0, if_pos hgt]
    simp only [cond_true]
    exact pswp es (by omega) (by omega) (fun u => some ((((j2 : Nat) : Int), true), u))
  · have h0 : decide (((i2 : Nat) : Int) > ((j2 : Nat) : Int)) = false := decide_eq_false (by omega)
    rw [h0, if_neg hgt]
    simp only [cond_false]
    have hne : i2 ≠ j2 := by
      intro e'
      have a1 := u3.2.2.2 (by omega)
      have a2 := u2.2.2.2 (by omega) (by omega)
      rw [← e'] at a2
      simp only [Bool.not_eq_false'] at a2
      rw [a1] at a2; cases a2
    rw [pswp es (by omega) (by omega), wp1 (by omega), wm1 (by omega) (by omega)]
    exact (pp_l3 hg hn (by omega) (by omega) n (i2 + 1) (j2 - 1) fuel (swp e i2 j2) (by omega) (by omega) (by omega) (by omega) (by omega) (by rw [size_swp]; exact es) (eA.swp (by omega) (by omega))).2
theorem pe_l2 (hg : Cmp g lt A) {n a j : Nat} (hn : n ≤ 1152921504606846976) (hj : j < n) (ha : a < n) {d : Array dpDep} (hs : d.size = n) (hA : AllA A d) (K : Int → Option (Int × List dpDep)) : ∀ (k i m : Nat), j + 1 - i = k → k < m →
    sl_partitionEqualCmpFunc_dpDep_l2 n (a : Int) g d.toList ((j : Nat) : Int) K m ((i : Nat) : Int) = K ((scanUp (fun x => !lt d[a]! x) d j i : Nat) : Int) := by
  intro k
  induction k with
  | zero =>
    intro i m hk hm
    obtain ⟨m', rfl⟩ : ∃ m', m = m' + 1 := ⟨m - 1, by omega⟩
    rw [sl_partitionEqualCmpFunc_dpDep_l2.eq_2, scanUp]
    have h0 : decide (((i : Nat) : Int) ≤ ((j : Nat) : Int)) = false := decide_eq_false (by omega)
    rw [h0]
    simp only [show ¬ i ≤ j by omega, decide_false, Bool.false_and, Bool.false_eq_true, if_false, cond_false]
    rfl
  | succ k ih =>
    intro i m hk hm
    obtain ⟨m', rfl⟩ : ∃ m', m = m' + 1 := ⟨m - 1, by omega⟩
    rw [sl_partitionEqualCmpFunc_dpDep_l2.eq_2, scanUp]
    have h0 : decide (((i : Nat) : Int) ≤ ((j : Nat) : Int)) = true := decide_eq_true (by omega)
    obtain ⟨w, hw, hd⟩ := hg d[a]! d[i]! (hA _ (by omega)) (hA _ (by omega))
    simp only [h0, bnd (show i < n by omega), bnd ha, gl (d := d) (show i < d.size by omega), gl (d := d) (show a < d.size by omega), hw, hd, chk, cond_true, Option.bind_some]
    unfold sl_partitionEqualCmpFunc_dpDep_j27
    rw [wp1 (by omega)]
    cases hl : lt d[a]! d[i]! with
    | true => simp
    | false =>
      simp only [Bool.not_false, cond_true, show i ≤ j by omega, decide_true, Bool.and_self, if_true]
      exact ih (i + 1) m' (by omega) (by omega)
theorem pe_l3 (hg : Cmp g lt A) {n a i : Nat} (hn : n ≤ 1152921504606846976) (hi : 1 ≤ i) (ha : a < n) {d : Array dpDep} (hs : d.size = n) (hA : AllA A d) (K : Int → Option (Int × List dpDep)) : ∀ (j m : Nat), j < n → j < m →
    sl_partitionEqualCmpFunc_dpDep_l3 n (a : Int) g d.toList ((i : Nat) : Int) K m ((j : Nat) : Int) = K ((scanDown (fun x => lt d[a]! x) d i j : Nat) : Int)
  | 0, m, hj, hm => by
    obtain ⟨m', rfl⟩ : ∃ m', m = m' + 1 := ⟨m - 1, by omega⟩
    rw [sl_partitionEqualCmpFunc_dpDep_l3.eq_2, scanDown]
    have h0 : decide (((i : Nat) : Int) ≤ ((0 : Nat) : Int)) = false := decide_eq_false (by omega)
    rw [h0]; rfl
  | j + 1, m, hj, hm => by
    obtain ⟨m', rfl⟩ : ∃ m', m = m' + 1 := ⟨m - 1, by omega⟩
    rw [sl_partitionEqualCmpFunc_dpDep_l3.eq_2, scanDown]
    by_cases hij : i ≤ j + 1
    · have h0 : decide (((i : Nat) : Int) ≤ ((j + 1 : Nat) : Int)) = true := decide_eq_true (by omega)
      obtain ⟨w, hw, hd⟩ := hg d[a]! d[j + 1]! (hA _ (by omega)) (hA _ (by omega))
      simp only [h0, bnd hj, bnd ha, gl (d := d) (show j + 1 < d.size by omega), gl (d := d) (show a < d.size by omega), hw, hd, chk, cond_true, Option.bind_some]
      unfold sl_partitionEqualCmpFunc_dpDep_j38
      have e1 := wm1 (i := j + 1) (by omega) (by omega)
      simp only [Nat.add_sub_cancel] at e1
      rw [e1]
      cases hl : lt d[a]! d[j + 1]! with
      | false => simp
      | true =>
        simp only [cond_true, hij, decide_true, Bool.and_self, if_true]
        exact pe_l3 hg hn hi ha hs hA K j m' (by omega) (by omega)
    · have h0 : decide (((i : Nat) : Int) ≤ ((j + 1 : Nat) : Int)) = false := decide_eq_false (by omega)
      rw [h0]
      simp only [hij, decide_false, Bool.false_and, Bool.false_eq_true, if_false, cond_false]
      rfl
theorem pe_l1 (hg : Cmp g lt A) {n a fuel : Nat} (hn : n ≤ 1152921504606846976) (ha : a < n) (hf : n + 10 < fuel) : ∀ (k i j m : Nat) (d : Array dpDep), j + 1 - i ≤ k → k < m → a < i → i ≤ j + 1 → j < n → d.size = n → AllA A d →
    sl_partitionEqualCmpFunc_dpDep_l1 fuel n (a : Int) g sl_partitionEqualCmpFunc_dpDep_j20 m d.toList ((i : Nat) : Int) ((j : Nat) : Int)
      = some (((partEqLoop lt a i j d).1 : Int), (partEqLoop lt a i j d).2.toList) := by
  intro k
  induction k with
  | zero =>
    intro i j m d hk hm hi hij hj hs hA
    obtain ⟨m', rfl⟩ : ∃ m', m = m' + 1 := ⟨m - 1, by omega⟩
    rw [sl_partitionEqualCmpFunc_dpDep_l1.eq_2, pe_l2 hg hn hj ha hs hA _ _ _ _ rfl (by omega), partEqLoop_eq]
    unfold sl_partitionEqualCmpFunc_dpDep_j24
    have u1 := scanUp_ge (fun x => !lt d[a]! x) d j i
    obtain ⟨i2, hi2⟩ : ∃ i2, scanUp (fun x => !lt d[a]! x) d j i = i2 := ⟨_, rfl⟩
    rw [hi2] at u1 ⊢
    rw [pe_l3 hg hn (by omega) ha hs hA _ _ _ hj (by omega)]
    have u2 := scanDown_le (fun x => lt d[a]! x) d i2 j
    obtain ⟨j2, hj2⟩ : ∃ j2, scanDown (fun x => lt d[a]! x) d i2 j = j2 := ⟨_, rfl⟩
    rw [hj2] at u2 ⊢
    have hgt : i2 > j2 := by omega
    rw [if_pos hgt]
    unfold sl_partitionEqualCmpFunc_dpDep_j35
    have h0 : decide (((i2 : Nat) : Int) > ((j2 : Nat) : Int)) = true := decide_eq_true (by omega)
    rw [h0]
    rfl
  | succ k ih =>
    intro i j m d hk hm hi hij hj hs hA
    obtain ⟨m', rfl⟩ : ∃ m', m = m' + 1 := ⟨m - 1, by omega⟩
    rw [sl_partitionEqualCmpFunc_dpDep_l1.eq_2, pe_l2 hg hn hj ha hs hA _ _ _ _ rfl (by omega), partEqLoop_eq]
    unfold sl_partitionEqualCmpFunc_dpDep_j24
    have u1 := scanUp_ge (fun x => !lt d[a]! x) d j i
    have u3 := scanUp_spec (fun x => !lt d[a]! x) d j _ i rfl
    obtain ⟨i2, hi2⟩ : ∃ i2, scanUp (fun x => !lt d[a]! x) d j i = i2 := ⟨_, rfl⟩
    rw [hi2] at u1 u3 ⊢
    rw [pe_l3 hg hn (by omega) ha hs hA _ _ _ hj (by omega)]
    have u2 := scanDown_spec (fun x => lt d[a]! x) d i2 j
    obtain ⟨j2, hj2⟩ : ∃ j2, scanDown (fun x => lt d[a]! x) d i2 j = j2 := ⟨_, rfl⟩
    rw [hj2] at u2 ⊢
    unfold sl_partitionEqualCmpFunc_dpDep_j35
    by_cases hgt : i2 > j2
    · have h0 : decide (((i2 : Nat) : Int) > ((j2 : Nat) : Int)) = true := decide_eq_true (by omega)
      rw [h0, if_pos hgt]
      rfl
    · have h0 : decide (((i2 : Nat) : Int) > ((j2 : Nat) : Int)) = false := decide_eq_false (by omega)
      rw [h0, if_neg hgt]
      simp only [cond_false]
      have hne : i2 ≠ j2 := by
        intro e
        have a1 := u3.2.2.2 (by omega)
        have a2 := u2.2.2.2 (by omega) (by omega)
        rw [← e] at a2
        simp only [Bool.not_eq_false'] at a1
        rw [a1] at a2; cases a2
      rw [pswp hs (by omega) (by omega), wp1 (by omega), wm1 (by omega) (by omega)]
      exact ih (i2 + 1) (j2 - 1) m' (swp d i2 j2) (by omega) (by omega) (by omega) (by omega) (by omega) (by rw [size_swp]; exact hs) (hA.swp (by omega) (by omega))
theorem ppartEq (hg : Cmp g lt A) {n a b p fuel : Nat} (hn : n ≤ 1152921504606846976) (hab : a + 1 < b) (hb : b ≤ n) (hp : p < n) (hf : n + 20 < fuel) {d : Array dpDep} (hs : d.size = n) (hA : AllA A d) :
    sl_partitionEqualCmpFunc_dpDep fuel d.toList n (a : Int) (b : Int) (p : Int) g = some (((partitionEqual lt d a b p).1 : Int), (partitionEqual lt d a b p).2.toList) := by
  unfold sl_partitionEqualCmpFunc_dpDep partitionEqual
  rw [pswp hs (show a < n by omega) hp, wp1 (by omega), wm1 (by omega) (by omega)]
  exact pe_l1 hg hn (by omega) (by omega) n (a + 1) (b - 1) fuel (swp d a p) (by omega) (by omega) (by omega) (by omega) (by omega) (by rw [size_swp]; exact hs) (hA.swp (by omega) (by omega))
theorem and_bound {a c : Int} (h0 : 0 ≤ c) (h1 : c < 4611686018427387904) : 0 ≤ iAnd .u64 a c ∧ iAnd .u64 a c ≤ c := by
  unfold iAnd
  have h2 : (BitVec.ofInt (IntKind.bits .u64) c).toNat = c.toNat := by
    show (BitVec.ofInt 64 c).toNat = c.toNat
    rw [BitVec.toNat_ofInt]
    omega
  have h3 : (BitVec.ofInt (IntKind.bits .u64) a &&& BitVec.ofInt (IntKind.bits .u64) c).toNat ≤ c.toNat := by
    rw [BitVec.toNat_and, h2]
    exact Nat.and_le_right
  have h4 : IntKind.wrap .u64 (((BitVec.ofInt (IntKind.bits .u64) a &&& BitVec.ofInt (IntKind.bits .u64) c).toNat : Nat) : Int) = (((BitVec.ofInt (IntKind.bits .u64) a &&& BitVec.ofInt (IntKind.bits .u64) c).toNat : Nat) : Int) := by
    simp only [IntKind.wrap, IntKind.signed, IntKind.bits] at h3 ⊢
    simp only [Bool.false_and, Bool.false_eq_true, if_false]
    omega
  rw [h4]
  omega
theorem npot {k : Nat} (h1 : 1 ≤ k) (h2 : k ≤ 1000) : ∃ M : Int, sl_nextPowerOfTwo ((k : Nat) : Int) = some M ∧ 1 ≤ M ∧ M ≤ 2 * k := by
  have : ∀ k : Fin 1001, (match sl_nextPowerOfTwo ((k.1 : Nat) : Int) with | some M => decide (k.1 = 0) || (decide (1 ≤ M) && decide (M ≤ 2 * k.1)) | none => false) = true := by decide +kernel
  have := this ⟨k, by omega⟩
  cases hm : sl_nextPowerOfTwo ((k : Nat) : Int) with
  | none => rw [hm] at this; cases this
  | some M =>
    rw [hm] at this
    simp only [Bool.or_eq_true, Bool.and_eq_true, decide_eq_true_eq] at this
    exact ⟨M, rfl, by omega, by omega⟩
theorem pbreak_l1 {n a b : Nat} (hn : n ≤ 1000) (hab : a + 8 ≤ b) (hb : b ≤ n) {M : Int} (hM1 : 1 ≤ M) (hM2 : M ≤ 2 * ((b - a : Nat) : Int)) : ∀ (k i m : Nat) (v : Int) (d : Array dpDep), a + (b - a) / 4 * 2 + 2 - i = k → k < m → a ≤ i → d.size = n →
    ∃ d', sl_breakPatternsCmpFunc_dpDep_l1 n (a : Int) (b : Int) M m d.toList v ((i : Nat) : Int) = some d'.toList ∧ PermIn a b d d' := by
  have hd : IntKind.wrap .i64 (IntKind.wrap .i64 ((a : Int) + IntKind.wrap .i64 (IntKind.wrap .i64 ((IntKind.wrap .i64 ((b : Int) - (a : Int))).tdiv 4) * 2)) + 1) = ((a + (b - a) / 4 * 2 + 1 : Nat) : Int) := by
    rw [wmm (by omega) (by omega), show (4 : Int) = ((4 : Nat) : Int) from rfl, tdivn, wrap64 (i := (((b - a) / 4 : Nat) : Int)) (by omega) (by omega)]
    have e2 : IntKind.wrap .i64 ((((b - a) / 4 : Nat) : Int) * 2) = (((b - a) / 4 * 2 : Nat) : Int) := by rw [wrap64 (by omega) (by omega)]; omega
    rw [e2, wpl (by omega), wp1 (by omega)]
  intro k
  induction k with
  | zero =>
    intro i m v d hk hm hi hs
    obtain ⟨m', rfl⟩ : ∃ m', m = m' + 1 := ⟨m - 1, by omega⟩
    refine ⟨d, ?_, permIn_refl d a b⟩
    rw [sl_breakPatternsCmpFunc_dpDep_l1.eq_2, hd]
    have h0 : decide (((i : Nat) : Int) ≤ ((a + (b - a) / 4 * 2 + 1 : Nat) : Int)) = false := decide_eq_false (by omega)
    rw [h0]; rfl
  | succ k ih =>
    intro i m v d hk hm hi hs
    obtain ⟨m', rfl⟩ : ∃ m', m = m' + 1 := ⟨m - 1, by omega⟩
    rw [sl_breakPatternsCmpFunc_dpDep_l1.eq_2, hd]
    have h0 : decide (((i : Nat) : Int) ≤ ((a + (b - a) / 4 * 2 + 1 : Nat) : Int)) = true := decide_eq_true (by omega)
    rw [h0]
    simp only [cond_true]
    obtain ⟨w, hw⟩ : ∃ w, sl_xorshift_Next v = some w := ⟨_, rfl⟩
    rw [hw]
    simp only [Option.bind_some]
    have hMw : IntKind.wrap .u64 (M - 1) = M - 1 := by
      simp only [IntKind.wrap, IntKind.signed, IntKind.bits]
      simp only [Bool.false_and, Bool.false_eq_true, if_false]
      omega
    rw [hMw, wmm (by omega) (by omega)]
    obtain ⟨x1, x2⟩ := and_bound (a := w.1) (c := M - 1) (by omega) (by omega)
    obtain ⟨X, hX⟩ : ∃ X, iAnd .u64 w.1 (M - 1) = X := ⟨_, rfl⟩
    rw [hX] at x1 x2 ⊢
    rw [wrap64 (i := X) (by omega) (by omega)]
    have step : ∀ o : Nat, o < b - a → ∃ d', sl_breakPatternsCmpFunc_dpDep_j20 n (a : Int) d.toList ((i : Nat) : Int) w (sl_breakPatternsCmpFunc_dpDep_l1 n (a : Int) (b : Int) M m') ((o : Nat) : Int) = some d'.toList ∧ PermIn a b d d' := by
      intro o ho
      unfold sl_breakPatternsCmpFunc_dpDep_j20
      rw [wpl (by omega), pswp hs (show i < n by omega) (show a + o < n by omega), wp1 (by omega)]
      obtain ⟨d', e1, e2⟩ := ih (i + 1) m' w.2 (swp d i (a + o)) (by omega) (by omega) (by omega) (by rw [size_swp]; exact hs)
      exact ⟨d', e1, permIn_trans _ _ _ a b (swp_permIn d a b i (a + o) (by omega) (by omega) (by omega) (by omega) (by omega)) e2⟩
    by_cases hge : X ≥ ((b - a : Nat) : Int)
    · have : decide (X ≥ ((b - a : Nat) : Int)) = true := decide_eq_true hge
      rw [this, wrap64 (by omega) (by omega)]
      simp only [cond_true]
      have e : X - ((b - a : Nat) : Int) = (((X - ((b - a : Nat) : Int)).toNat : Nat) : Int) := by omega
      rw [e]
      exact step _ (by omega)
    · have : decide (X ≥ ((b - a : Nat) : Int)) = false := decide_eq_false hge
      rw [this]
      simp only [cond_false]
      have e : X = ((X.toNat : Nat) : Int) := by omega
      rw [e]
      exact step _ (by omega)
theorem pbreak {n a b fuel : Nat} (hn : n ≤ 1000) (hab : a + 8 ≤ b) (hb : b ≤ n) (hf : n + 10 < fuel) {d : Array dpDep} (hs : d.size = n) :
    ∃ d', sl_breakPatternsCmpFunc_dpDep fuel d.toList n (a : Int) (b : Int) g = some d'.toList ∧ PermIn a b d d' := by
  unfold sl_breakPatternsCmpFunc_dpDep
  rw [wmm (by omega) (by omega)]
  have h0 : decide (((b - a : Nat) : Int) ≥ 8) = true := decide_eq_true (by omega)
  rw [h0]
  obtain ⟨M, hM, m1, m2⟩ := npot (k := b - a) (by omega) (by omega)
  simp only [cond_true, hM, Option.bind_some]
  rw [show (4 : Int) = ((4 : Nat) : Int) from rfl, tdivn, wrap64 (i := (((b - a) / 4 : Nat) : Int)) (by omega) (by omega)]
  have e2 : IntKind.wrap .i64 ((((b - a) / 4 : Nat) : Int) * 2) = (((b - a) / 4 * 2 : Nat) : Int) := by rw [wrap64 (by omega) (by omega)]; omega
  rw [e2, wpl (by omega), wm1 (by omega) (by omega)]
  exact pbreak_l1 hn hab hb m1 m2 3 _ fuel _ d (by omega) (by omega) (by omega) hs
theorem snap_l {d : Array dpDep} {n : Nat} (hs : d.size = n) : snap 0 n d.toList = d.toList := by
  subst hs
  unfold snap
  rw [List.drop_zero, ← Array.length_toList, List.take_length]
theorem ppdq (hg : Cmp g lt A) (hS : SWO lt) {n : Nat} (hn : n ≤ 1000) : ∀ (k a b limit F m : Nat) (wb wp : Bool) (d : Array dpDep), limit ≤ 1000 → b - a ≤ k → a ≤ b → b ≤ n → d.size = n → AllA A d → Below lt a b d → n + 30 + k < F → k < m →
    ∃ d', sl_pdqsortCmpFunc_dpDep_l1 F n g (sl_pdqsortCmpFunc_dpDep F) m d.toList (a : Int) (b : Int) (limit : Int) wb wp = some d'.toList ∧ PermIn a b d d' ∧ SortedIn lt a b d' := by
  intro k
  induction k with
  | zero =>
    intro a b limit F m wb wp d hlim hk hab hb hs hA hB hF hm
    obtain ⟨m', rfl⟩ : ∃ m', m = m' + 1 := ⟨m - 1, by omega⟩
    rw [sl_pdqsortCmpFunc_dpDep_l1.eq_2, wmm (by omega) (by omega)]
    have h0 : decide (((b - a : Nat) : Int) ≤ 12) = true := decide_eq_true (by omega)
    rw [h0, cond_true, pins hg (by omega) hab hb (by omega) hs hA]
    exact ⟨_, rfl, insertionSort_holds hS d a b hab (by omega)⟩
  | succ k ih =>
    intro a b limit F m wb wp d hlim hk hab hb hs hA hB hF hm
    obtain ⟨m', rfl⟩ : ∃ m', m = m' + 1 := ⟨m - 1, by omega⟩
    obtain ⟨F', rfl⟩ : ∃ F', F = F' + 1 := ⟨F - 1, by omega⟩
    rw [sl_pdqsortCmpFunc_dpDep_l1.eq_2, wmm (by omega) (by omega)]
    by_cases h12 : b - a ≤ 12
    · have h0 : decide (((b - a : Nat) : Int) ≤ 12) = true := decide_eq_true (by omega)
      rw [h0, cond_true, pins hg (by omega) hab hb (by omega) hs hA]
      exact ⟨_, rfl, insertionSort_holds hS d a b hab (by omega)⟩
    have h0 : decide (((b - a : Nat) : Int) ≤ 12) = false := decide_eq_false (by omega)
    rw [h0]
    simp only [cond_false]
    by_cases hl : limit = 0
    · have h1 : (((limit : Nat) : Int) == 0) = true := by rw [beq_iff_eq]; omega
      rw [h1, cond_true, pheap hg (by omega) (by omega) hb (by omega) hs hA]
      exact ⟨_, rfl, heapSort_holds hS d a b hab (by omega)⟩
    have h1 : (((limit : Nat) : Int) == 0) = false := by rw [beq_eq_false_iff_ne]; omega
    rw [h1]
    simp only [cond_false]
    -- the call on a part, from any state
    have call : ∀ (a' b' limit' : Nat) (e : Array dpDep), limit' ≤ 1000 → b' - a' ≤ k → a' ≤ b' → b' ≤ n → e.size = n → AllA A e → Below lt a' b' e →
        ∃ d', sl_pdqsortCmpFunc_dpDep (F' + 1) e.toList n (a' : Int) (b' : Int) (limit' : Int) g = some d'.toList ∧ PermIn a' b' e d' ∧ SortedIn lt a' b' d' := by
      intro a' b' limit' e e0 e1 e2 e3 e4 e5 e6
      rw [sl_pdqsortCmpFunc_dpDep.eq_2]
      exact ih a' b' limit' F' F' true true e e0 e1 e2 e3 e4 e5 e6 (by omega) (by omega)
    have again : ∀ (a' b' limit' : Nat) (wb' wp' : Bool) (e : Array dpDep), limit' ≤ 1000 → b' - a' ≤ k → a' ≤ b' → b' ≤ n → e.size = n → AllA A e → Below lt a' b' e →
        ∃ d', sl_pdqsortCmpFunc_dpDep_l1 (F' + 1) n g (sl_pdqsortCmpFunc_dpDep (F' + 1)) m' e.toList (a' : Int) (b' : Int) (limit' : Int) wb' wp' = some d'.toList ∧ PermIn a' b' e d' ∧ SortedIn lt a' b' d' := by
      intro a' b' limit' wb' wp' e e0 e1 e2 e3 e4 e5 e6
      exact ih a' b' limit' (F' + 1) m' wb' wp' e e0 e1 e2 e3 e4 e5 e6 (by omega) (by omega)
    -- from the array that the pivot is chosen for, to the end
    have round : ∀ (lim p : Nat) (d3 : Array dpDep) (x y : Bool), lim ≤ 1000 → d3.size = n → AllA A d3 → Below lt a b d3 → a ≤ p → p < b →
        ∃ d', sl_pdqsortCmpFunc_dpDep_j40 (F' + 1) n g (a : Int) (b : Int) ((lim : Nat) : Int) ((p : Nat) : Int) (sl_pdqsortCmpFunc_dpDep (F' + 1)) (sl_pdqsortCmpFunc_dpDep_l1 (F' + 1) n g (sl_pdqsortCmpFunc_dpDep (F' + 1)) m') d3.toList x y = some d'.toList ∧ PermIn a b d3 d' ∧ SortedIn lt a b d' := by
      intro lim p d3 x y hlm s3 A3 B3 hp1 hp2
      unfold sl_pdqsortCmpFunc_dpDep_j40
      have part : ∃ d', sl_pdqsortCmpFunc_dpDep_j51 (F' + 1) n g (a : Int) (b : Int) ((lim : Nat) : Int) ((p : Nat) : Int) d3.toList x y (sl_pdqsortCmpFunc_dpDep (F' + 1)) (sl_pdqsortCmpFunc_dpDep_l1 (F' + 1) n g (sl_pdqsortCmpFunc_dpDep (F' + 1)) m') false = some d'.toList ∧ PermIn a b d3 d' ∧ SortedIn lt a b d' := by
        unfold sl_pdqsortCmpFunc_dpDep_j51
        rw [ppartition hg (by omega) (by omega) hb (by omega) (by omega) s3 A3]
        obtain ⟨mid, ap, d4, hx⟩ : ∃ mid ap d4, partition lt d3 a b p = (mid, ap, d4) := ⟨_, _, _, rfl⟩
        obtain ⟨g1, g2, hs4, hBa, hBr, hleft, hright⟩ := round_part hS (partition_holds lt) hp1 hp2 (by omega) B3 hx
        have hP4 := (partition_holds lt hS d3 a b p hp1 hp2 (by omega)).2.2.1
        rw [hx] at hP4 ⊢
        have A4 : AllA A d4 := A3.perm (by omega) hP4
        simp only [cond_false, Option.bind_some]
        rw [wmm (i := mid) (k := a) (by omega) (by omega), wmm (i := b) (k := mid) (by omega) (by omega)]
        by_cases hc : mid - a < b - mid
        · have h2 : decide (((mid - a : Nat) : Int) < ((b - mid : Nat) : Int)) = true := decide_eq_true (by omega)
          rw [h2]
          simp only [cond_true]
          obtain ⟨L, l0, l1, l2⟩ := call a mid lim d4 hlm (by omega) g1 (by omega) (by omega) A4 hBa
          rw [l0]
          simp only [Option.bind_some]
          obtain ⟨hBL, hfin⟩ := hleft L l1 l2
          rw [wp1 (by omega)]
          have AL : AllA A L := A4.perm (by omega) l1
          obtain ⟨R, r0, r1, r2⟩ := again (mid + 1) b lim (decide (((mid - a : Nat) : Int) ≥ IntKind.wrap .i64 ((IntKind.wrap .i64 ((b : Int) - (a : Int))).tdiv 8))) ap L hlm (by omega) (by omega) hb (by rw [l1.1]; omega) AL hBL
          exact ⟨R, r0, hfin R r1 r2⟩
        · have h2 : decide (((mid - a : Nat) : Int) < ((b - mid : Nat) : Int)) = false := decide_eq_false (by omega)
          rw [h2]
          simp only [cond_false]
          rw [wp1 (by omega)]
          obtain ⟨L, l0, l1, l2⟩ := call (mid + 1) b lim d4 hlm (by omega) (by omega) hb (by omega) A4 hBr
          rw [l0]
          simp only [Option.bind_some]
          obtain ⟨hBL, hfin⟩ := hright L l1 l2
          have AL : AllA A L := A4.perm (by omega) l1
          obtain ⟨R, r0, r1, r2⟩ := again a mid lim (decide (((b - mid : Nat) : Int) ≥ IntKind.wrap .i64 ((IntKind.wrap .i64 ((b : Int) - (a : Int))).tdiv 8))) ap L hlm (by omega) g1 (by omega) (by rw [l1.1]; omega) AL hBL
          exact ⟨R, r0, hfin R r1 r2⟩
      by_cases ha0 : a > 0
      · have h2 : decide (((a : Nat) : Int) > 0) = true := decide_eq_true (by omega)
        obtain ⟨w, hw, hd⟩ := hg d3[a - 1]! d3[p]! (A3 _ (by omega)) (A3 _ (by omega))
        rw [wm1 (by omega) (by omega)]
        simp only [h2, bnd (show a - 1 < n by omega), bnd (show p < n by omega), gl (d := d3) (show a - 1 < d3.size by omega), gl (d := d3) (show p < d3.size by omega), hw, hd, chk, cond_true, Option.bind_some]
        cases hc : lt d3[a - 1]! d3[p]! with
        | true => exact part
        | false =>
          unfold sl_pdqsortCmpFunc_dpDep_j51
          rw [ppartEq hg (by omega) (by omega) hb (by omega) (by omega) s3 A3]
          obtain ⟨mid, d4, hx⟩ : ∃ mid d4, partitionEqual lt d3 a b p = (mid, d4) := ⟨_, _, rfl⟩
          obtain ⟨g1, g2, hs4, hB4, hfin⟩ := round_eq hS (partitionEqual_holds lt) ha0 hp1 hp2 (by omega) B3 hc hx
          have hP4 := (partitionEqual_holds lt hS d3 a b p hp1 hp2 (by omega) (by
            intro i hi hi'
            rcases B3 with h | h
            · omega
            · exact hS.ntrans _ _ _ (h i hi hi') hc)).2.2.1
          rw [hx] at hP4 ⊢
          have A4 : AllA A d4 := A3.perm (by omega) hP4
          simp only [Bool.not_false, cond_true, Option.bind_some]
          obtain ⟨R, r0, r1, r2⟩ := again mid b lim x y d4 hlm (by omega) g2 hb (by omega) A4 hB4
          exact ⟨R, r0, hfin R r1 r2⟩
      · have h2 : decide (((a : Nat) : Int) > 0) = false := decide_eq_false (by omega)
        rw [h2]
        exact part
    have perhaps : ∀ (lim p : Nat) (d2 : Array dpDep) (x y z : Bool), lim ≤ 1000 → d2.size = n → AllA A d2 → Below lt a b d2 → a ≤ p → p < b →
        ∃ d', sl_pdqsortCmpFunc_dpDep_j41 (F' + 1) n g (a : Int) (b : Int) d2.toList (sl_pdqsortCmpFunc_dpDep_j40 (F' + 1) n g (a : Int) (b : Int) ((lim : Nat) : Int) ((p : Nat) : Int) (sl_pdqsortCmpFunc_dpDep (F' + 1)) (sl_pdqsortCmpFunc_dpDep_l1 (F' + 1) n g (sl_pdqsortCmpFunc_dpDep (F' + 1)) m')) x y z = some d'.toList ∧ PermIn a b d2 d' ∧ SortedIn lt a b d' := by
      intro lim p d2 x y z hlm s2 A2 B2 hp1 hp2
      unfold sl_pdqsortCmpFunc_dpDep_j41
      cases z with
      | false => exact round lim p d2 x y hlm s2 A2 B2 hp1 hp2
      | true =>
        simp only [cond_true]
        rw [ppartial hg (by omega) (by omega) hb (by omega) s2 A2]
        obtain ⟨q1, q2⟩ := partialInsertionSort_holds hS d2 a b (by omega) (by omega) B2
        simp only [Option.bind_some]
        cases hq : (partialInsertionSort lt d2 a b).2 with
        | true => exact ⟨_, rfl, q1, q2 hq⟩
        | false =>
          simp only [cond_false]
          obtain ⟨R, r0, r1, r2⟩ := round lim p (partialInsertionSort lt d2 a b).1 x y hlm (by rw [q1.1]; exact s2) (A2.perm (by omega) q1) (B2.perm (by omega) q1) hp1 hp2
          exact ⟨R, r0, permIn_trans _ _ _ a b q1 r1, r2⟩
    have hinted : ∀ (lim p : Nat) (d2 : Array dpDep) (h : Int), lim ≤ 1000 → d2.size = n → AllA A d2 → Below lt a b d2 → a ≤ p → p < b →
        ∃ d', sl_pdqsortCmpFunc_dpDep_j32 (F' + 1) n g (a : Int) (b : Int) wb wp ((lim : Nat) : Int) (sl_pdqsortCmpFunc_dpDep (F' + 1)) (sl_pdqsortCmpFunc_dpDep_l1 (F' + 1) n g (sl_pdqsortCmpFunc_dpDep (F' + 1)) m') d2.toList ((p : Nat) : Int) h = some d'.toList ∧ PermIn a b d2 d' ∧ SortedIn lt a b d' := by
      intro lim p d2 h hlm s2 A2 B2 hp1 hp2
      unfold sl_pdqsortCmpFunc_dpDep_j32
      cases wb with
      | false => exact perhaps lim p d2 false wp false hlm s2 A2 B2 hp1 hp2
      | true =>
        cases wp with
        | false => exact perhaps lim p d2 true false false hlm s2 A2 B2 hp1 hp2
        | true => exact perhaps lim p d2 true true (h == 1) hlm s2 A2 B2 hp1 hp2
    have chosen : ∀ (lim : Nat) (d1 : Array dpDep), lim ≤ 1000 → d1.size = n → AllA A d1 → Below lt a b d1 →
        ∃ d', sl_pdqsortCmpFunc_dpDep_j24 (F' + 1) n g (a : Int) (b : Int) wb wp (sl_pdqsortCmpFunc_dpDep (F' + 1)) (sl_pdqsortCmpFunc_dpDep_l1 (F' + 1) n g (sl_pdqsortCmpFunc_dpDep (F' + 1)) m') d1.toList ((lim : Nat) : Int) = some d'.toList ∧ PermIn a b d1 d' ∧ SortedIn lt a b d' := by
      intro lim d1 hlm s1 A1 B1
      unfold sl_pdqsortCmpFunc_dpDep_j24
      rw [snap_l s1, ppivot hg (by omega) (by omega) hb s1 A1]
      obtain ⟨c1, c2⟩ := choosePivot_holds lt d1 a b (by omega)
      obtain ⟨c, hc⟩ : ∃ c, choosePivot lt d1 a b = c := ⟨_, rfl⟩
      rw [hc] at c1 c2 ⊢
      simp only [Option.bind_some]
      cases hh : (hintN c.2 == 2) with
      | false => exact hinted lim c.1 d1 _ hlm s1 A1 B1 c1 c2
      | true =>
        simp only [cond_true]
        rw [prev (by omega) (by omega) hb (by omega) s1]
        simp only [Option.bind_some]
        rw [wm1 (by omega) (by omega), wmm (by omega) (by omega), wmm (by omega) (by omega)]
        have q := reverseRange_holds d1 a b hab (by omega)
        obtain ⟨R, r0, r1, r2⟩ := hinted lim ((b - 1) - (c.1 - a)) (reverseRange d1 a b) 1 hlm (by rw [q.1]; exact s1) (A1.perm (by omega) q) (B1.perm (by omega) q) (by omega) (by omega)
        exact ⟨R, r0, permIn_trans _ _ _ a b q r1, r2⟩
    cases hwb : wb with
    | true =>
      simp only [Bool.not_true, cond_false]
      have := chosen limit d hlim hs hA hB
      rw [hwb] at this
      exact this
    | false =>
      simp only [Bool.not_false, cond_true]
      obtain ⟨d1, e1, q⟩ := pbreak (g := g) (a := a) (b := b) (fuel := F' + 1) hn (by omega) hb (by omega) hs
      rw [e1]
      simp only [Option.bind_some]
      rw [wm1 (by omega) (by omega)]
      obtain ⟨R, r0, r1, r2⟩ := chosen (limit - 1) d1 (by omega) (by rw [q.1]; exact hs) (hA.perm (by omega) q) (hB.perm (by omega) q)
      rw [hwb] at r0
      exact ⟨R, r0, permIn_trans _ _ _ a b q r1, r2⟩
theorem plen {k : Nat} (h2 : k ≤ 1000) : ∃ M : Nat, mb_Len (IntKind.wrap .u64 ((k : Nat) : Int)) = some (M : Int) ∧ M ≤ 1000 := by
  have : ∀ k : Fin 1001, (match mb_Len (IntKind.wrap .u64 ((k.1 : Nat) : Int)) with | some M => decide (0 ≤ M) && decide (M ≤ 1000) | none => false) = true := by decide +kernel
  have := this ⟨k, by omega⟩
  cases hm : mb_Len (IntKind.wrap .u64 ((k : Nat) : Int)) with
  | none => rw [hm] at this; cases this
  | some M =>
    rw [hm] at this
    simp only [Bool.and_eq_true, decide_eq_true_eq] at this
    exact ⟨M.toNat, by congr 1; omega, by omega⟩
theorem sort_val (hg : Cmp g lt A) (hS : SWO lt) {l : List dpDep} (hl : l.length ≤ 1000) (hA : ∀ x, x ∈ l → A x) :
    ∃ l', l'.Perm l ∧ Sorted lt l' ∧ sl_SortFunc_dpDep bigFuel l l.length g = some l' := by
  have hA' : AllA A l.toArray := by
    intro i hi
    rw [getElem!_pos l.toArray i hi]
    exact hA _ (by simp)
  obtain ⟨M, hM, hMb⟩ := plen hl
  unfold sl_SortFunc_dpDep
  rw [hM]
  simp only [Option.bind_some]
  obtain ⟨B, hB⟩ : ∃ B, bigFuel = B + 1 := ⟨bigFuel - 1, rfl⟩
  rw [hB, sl_pdqsortCmpFunc_dpDep.eq_2]
  have hBb : 36893488147419103231 ≤ B := by unfold bigFuel at hB; omega
  obtain ⟨d', e1, e2, e3⟩ := ppdq hg hS (n := l.length) hl l.length 0 l.length M B B true true l.toArray hMb (by omega) (by omega) (Nat.le_refl _) (by simp) hA' (Or.inl rfl) (by omega) (by omega)
  have e1' : sl_pdqsortCmpFunc_dpDep_l1 B l.length g (sl_pdqsortCmpFunc_dpDep B) B l 0 ((l.length : Nat) : Int) (M : Int) true true = some d'.toList := e1
  rw [e1']
  refine ⟨d'.toList, ?_, ?_, rfl⟩
  · have p := e2.2.2
    have s := e2.1
    simp only [List.size_toArray] at s
    have x1 : (d'.extract 0 l.length).toList = d'.toList := by rw [← s]; simp
    have x2 : (l.toArray.extract 0 l.length).toList = l := by simp
    rw [x1, x2] at p
    exact p
  · have s := e2.1
    simp only [List.size_toArray] at s
    unfold Sorted
    rw [List.pairwise_iff_getElem]
    intro i j hi hj hij
    have := e3 i j (by omega) hij (by simpa [s] using hj)
    rw [getElem!_pos d' i (by simpa using hi), getElem!_pos d' j (by simpa using hj)] at this
    simpa using this
theorem ltFrom_swo : Go.Sort.SWO ltFrom := by
  refine ⟨fun x => ?_, fun x y z h k => ?_, fun x y z h k => ?_⟩
  · unfold ltFrom; simp
  · unfold ltFrom at *; simp only [decide_eq_true_eq] at *; omega
  · unfold ltFrom at *; simp only [decide_eq_false_iff_not] at *; omega
theorem critical_valG {n : Int} (h1 : 1 ≤ n) (h2 : n ≤ 8) {f : Int → Int} {g : Int → Option Int} (hg : ∀ x, isSet n x = true → g x = some (f x)) :
    dp_critical bigFuel n g = some (critGo f (allSets n.toNat) []) := by
  have hp := pow_le h1 h2
  have hn : decide (0 ≤ n) = true := decide_eq_true (by omega)
  have hr : lenOk (List.range (2 ^ n.toNat)) = true := lenOk_of (by simp; omega)
  have gO := pop_good h1 h2
  have gA := allSets_good h1 h2
  obtain ⟨_, _, hpl⟩ := pop_check (n := n.toNat) (by omega) (by omega)
  unfold dp_critical
  rw [iShl_one h1 h2, Int.toNat_natCast]
  simp only [hn, hr, chk, cond_true]
  rw [crit_l1 (n := n.toNat) (by omega) _ _ 0 [] rfl (by simp)]
  unfold dp_critical_j5
  have hst := stab_all (n := n.toNat) (by omega) (by omega)
  unfold cmp1 at hst
  rw [hst, Int.toNat_natCast]
  simp only [Option.bind_some, hr, chk, cond_true]
  have := crit_l2 (f := f) (g := g) (W := popSorted n.toNat) (fun x hx => hg x ((gO.all x).1 hx)) (by rw [hpl]; exact hp) (dp_critical_j18 bigFuel) (popSorted n.toNat) (List.range (2 ^ n.toNat)) [] [] rfl (by simp [hpl]) (Nat.le_refl _)
  rw [hpl] at this
  simp only [List.length_nil] at this ⊢
  rw [this]
  unfold dp_critical_j18
  have fO := critGo_spec (f := f) gO
  have fA := critGo_spec (f := f) gA
  have hlen : (critGo f (popSorted n.toNat) []).length ≤ 1000 := by
    have := fO.from'.length_le
    rw [List.length_map, hpl] at this
    omega
  obtain ⟨S, i1, i2, i3⟩ := sort_val cmp_from ltFrom_swo hlen (fun d hd => by
    have := (isSet_range h1 h2).1 ((gO.all _).1 (fO.mem hd))
    exact ⟨this.1, by omega⟩)
  rw [i3]
  have hSl : (critGo f (popSorted n.toNat) []).length = S.length := i1.length_eq.symm
  simp only [Option.bind_some]
  rw [hSl, snap_full]
  congr 1
  have hnod : (popSorted n.toNat).Nodup := gO.rise.imp fun {u v} h (e : u = v) => h (by rw [e]; exact Bits.refl _)
  have hfn : ((critGo f (popSorted n.toNat) []).map fun d => d.f_From).Nodup := fO.from'.nodup hnod
  have hSn : (S.map fun d => d.f_From).Nodup := ((i1.map fun d => d.f_From).nodup_iff).2 hfn
  refine rise_eq ?_ ?_ (fun d => (i1.mem_iff).trans (found_same h1 h2 gO gA fO fA d))
  · unfold List.Nodup at hSn
    rw [List.pairwise_map] at hSn
    unfold Sorted at i2
    refine (hSn.and i2).imp fun {u v} h => ?_
    obtain ⟨p, q⟩ := h
    unfold ltFrom at q
    have := decide_eq_false_iff_not.1 q
    omega
  · have := (allSets_rise (n := n.toNat)).sublist fA.from'
    rw [List.pairwise_map] at this
    exact this
def pairsGo : List (List Int) → List (List Int) → List Int → List Int
  | _, [], acc => acc
  | pre, x :: r, acc => pairsGo (pre ++ [x]) r (acc ++ pre.map (agr x))
theorem mine_l2 {n : Nat} (hn : n ≤ 8) {x : List Int} (hx : x.length = n) (K : List Int → Option (List dpDep × Int)) : ∀ (r : List (List Int)) (k : Nat) (acc : List Int), (∀ y, y ∈ r → y.length = n) → acc.length + r.length ≤ 100000 →
    dp_Mine_l2 x K r k acc = K (acc ++ r.map (agr x))
  | [], k, acc, _, _ => by rw [dp_Mine_l2.eq_1]; simp
  | y :: r, k, acc, h, hl => by
    simp only [List.length_cons] at hl
    have hy := h y (by simp)
    obtain ⟨e1, _, _⟩ := agree_val (x := x) (y := y) (by omega) (by omega)
    have hcap : ∀ z, capOk 8 (acc ++ [z]).length = true := by
      intro z
      simp only [capOk, Bool.and_eq_true, List.length_append, List.length_singleton]
      exact ⟨Nat.ble_eq_true_of_le (by omega), Nat.ble_eq_true_of_le (by omega)⟩
    rw [dp_Mine_l2.eq_2, e1]
    simp only [Option.bind_some, hcap, chk, cond_true]
    rw [mine_l2 hn hx K r (k + 1) _ (fun z hz => h z (by simp [hz])) (by simp; omega)]
    simp
theorem mine_l1 {n : Nat} (hn : n ≤ 8) {rows : List (List Int)} (hr : ∀ y, y ∈ rows → y.length = n) (h60 : rows.length ≤ 60) (K : List Int → Option (List dpDep × Int)) : ∀ (r pre : List (List Int)) (acc : List Int), pre ++ r = rows → acc.length ≤ 60 * pre.length →
    dp_Mine_l1 rows K r pre.length acc = K (pairsGo pre r acc)
  | [], pre, acc, _, _ => rfl
  | x :: r, pre, acc, hp, ha => by
    have hpl : pre.length + (r.length + 1) = rows.length := by rw [← hp]; simp
    have hsub : sub rows 0 (pre.length : Int) = some pre := by
      unfold sub
      rw [if_pos ⟨Int.le_refl 0, Int.natCast_nonneg _, by omega⟩, ← hp]
      simp
    have hl : lenOk pre = true := lenOk_of (by omega)
    rw [dp_Mine_l1.eq_2, hsub]
    simp only [Option.bind_some, hl, chk, cond_true]
    rw [mine_l2 hn (hr x (by rw [← hp]; simp)) _ pre 0 acc (fun y hy => hr y (by rw [← hp]; simp [hy])) (by omega)]
    unfold dp_Mine_j12
    have ih := mine_l1 hn hr h60 K r (pre ++ [x]) (acc ++ pre.map (agr x)) (by simpa using hp) (by simp; omega)
    simp only [List.length_append, List.length_singleton] at ih
    rw [ih]
    rfl
def fM (n : Int) (P : List Int) (x : Int) : Int := P.foldl (fun out s => bif has x s then iAnd .i64 out s else out) (full n)
theorem mine1_val {n : Int} (h1 : 1 ≤ n) (h2 : n ≤ 8) {P : List Int} (hP : lenOk P = true) {x : Int} : dp_Mine_1 x n P = some (fM n P x) := by
  have hn : decide (0 ≤ n) = true := decide_eq_true (by omega)
  unfold dp_Mine_1 fM
  rw [full_eq h1 h2]
  simp only [hn, hP, chk, cond_true]
  have : ∀ (r : List Int) (k : Nat) (v : Int), dp_Mine_1_l1 x dp_Mine_1_j7 r k v = some (r.foldl (fun out s => bif has x s then iAnd .i64 out s else out) v) := by
    intro r
    induction r with
    | nil => intro k v; rfl
    | cons s r ih =>
      intro k v
      rw [dp_Mine_1_l1.eq_2, List.foldl_cons]
      have q : (iAndNot .i64 x s == 0) = has x s := rfl
      rw [q]
      unfold dp_Mine_1_j10
      cases has x s with
      | true => simp only [cond_true]; exact ih (k + 1) _
      | false => simp only [cond_false]; exact ih (k + 1) _
  exact this P 0 _
theorem fM_bits {x z : Int} : ∀ (P : List Int) (v : Int), Bits z (P.foldl (fun out s => bif has x s then iAnd .i64 out s else out) v) ↔ Bits z v ∧ ∀ s, s ∈ P → Bits x s → Bits z s
  | [], v => by simp
  | s :: P, v => by
    rw [List.foldl_cons, fM_bits P]
    cases hh : has x s with
    | true =>
      simp only [cond_true]
      rw [andBits]
      constructor
      · rintro ⟨⟨a, b⟩, c⟩
        refine ⟨a, fun t ht hx => ?_⟩
        rcases List.mem_cons.1 ht with rfl | ht
        · exact b
        · exact c t ht hx
      · rintro ⟨a, c⟩
        exact ⟨⟨a, c s (by simp) (has_iff.1 hh)⟩, fun t ht => c t (by simp [ht])⟩
    | false =>
      simp only [cond_false]
      constructor
      · rintro ⟨a, c⟩
        refine ⟨a, fun t ht hx => ?_⟩
        rcases List.mem_cons.1 ht with rfl | ht
        · rw [has_iff.2 hx] at hh; cases hh
        · exact c t ht hx
      · rintro ⟨a, c⟩
        exact ⟨a, fun t ht => c t (by simp [ht])⟩
theorem fM_wf {x : Int} : ∀ (P : List Int) (v : Int), wf64 v → wf64 (P.foldl (fun out s => bif has x s then iAnd .i64 out s else out) v)
  | [], v, h => h
  | s :: P, v, h => by
    rw [List.foldl_cons]
    refine fM_wf P _ ?_
    cases has x s with
    | true => exact wf_and _ _
    | false => exact h
theorem full_wf {n : Int} (h1 : 1 ≤ n) (h2 : n ≤ 8) : wf64 (full n) := by
  have := pow_le h1 h2
  unfold full wf64; omega
theorem fM_iff {n : Int} {P : List Int} {x z : Int} : Bits z (fM n P x) ↔ Bits z (full n) ∧ ∀ s, s ∈ P → Bits x s → Bits z s := fM_bits P _
theorem fM_closer {n : Int} (h1 : 1 ≤ n) (h2 : n ≤ 8) (P : List Int) : Closer n (fM n P) := by
  have hw : ∀ x, wf64 (fM n P x) := fun x => fM_wf P _ (full_wf h1 h2)
  have hsup : ∀ x, isSet n x = true → Bits x (fM n P x) := fun x hx => fM_iff.2 ⟨(isSet_iff h1 h2 (setWf h1 h2 hx)).1 hx, fun s _ h => h⟩
  refine ⟨fun x hx => (isSet_iff h1 h2 (hw x)).2 (fM_iff.1 (Bits.refl (fM n P x))).1, hsup, fun x y hx hy hb => ?_, fun x hx => ?_⟩
  · obtain ⟨a, b⟩ := fM_iff.1 (Bits.refl (fM n P x))
    exact fM_iff.2 ⟨a, fun s hs hy => b s hs (hb.trans hy)⟩
  · obtain ⟨a, b⟩ := fM_iff.1 (Bits.refl (fM n P x))
    obtain ⟨a', b'⟩ := fM_iff.1 (Bits.refl (fM n P (fM n P x)))
    have hs : isSet n (fM n P x) = true := (isSet_iff h1 h2 (hw x)).2 a
    exact Bits.antisymm (hw _) (hw _) (fM_iff.2 ⟨a', fun s hs' hx' => b' s hs' (b s hs' hx')⟩) (hsup _ hs)
theorem pairs_len : ∀ (r pre : List (List Int)) (acc : List Int), acc.length ≤ 60 * pre.length → pre.length + r.length ≤ 60 → (pairsGo pre r acc).length ≤ 3600
  | [], pre, acc, h, hk => by simp at hk; show acc.length ≤ 3600; omega
  | x :: r, pre, acc, h, hk => by
    simp only [List.length_cons] at hk
    exact pairs_len r (pre ++ [x]) _ (by simp; omega) (by simp; omega)
theorem Mine_val {n : Int} {rows : List (List Int)} (hl : lenOk rows = true) : dp_Mine bigFuel n rows = some (bif tableOk n rows then (critGo (fM n (pairsGo [] rows [])) (allSets n.toNat) [], 0) else ([], 2)) := by
  unfold dp_Mine
  rw [table_val hl]
  cases ht : tableOk n rows with
  | false => rfl
  | true =>
    simp only [tableOk, Bool.and_eq_true, decide_eq_true_eq, List.all_eq_true, beq_iff_eq] at ht
    obtain ⟨h1, h2, h3, h4⟩ := ht
    simp only [Option.bind_some, Bool.not_true, cond_false, hl, chk, cond_true]
    have := mine_l1 (n := n.toNat) (by omega) (rows := rows) (fun y hy => by have := h4 y hy; omega) h3 (dp_Mine_j9 bigFuel n) rows [] [] rfl (by simp)
    simp only [List.length_nil] at this
    rw [this]
    unfold dp_Mine_j9
    have hP : lenOk (pairsGo [] rows []) = true := lenOk_of (by have := pairs_len rows [] [] (by simp) (by simpa using h3); omega)
    rw [critical_valG (f := fM n (pairsGo [] rows [])) h1 h2 (fun x hx => mine1_val h1 h2 hP)]
    rfl
theorem pairs_acc : ∀ (r pre : List (List Int)) (acc : List Int) (s : Int), s ∈ pairsGo pre r acc ↔ s ∈ acc ∨ s ∈ pairsGo pre r []
  | [], pre, acc, s => by simp [pairsGo]
  | x :: r, pre, acc, s => by
    unfold pairsGo
    rw [pairs_acc r _ (acc ++ pre.map (agr x)), pairs_acc r _ ([] ++ pre.map (agr x))]
    simp only [List.mem_append, List.nil_append]
    constructor
    · rintro ((h | h) | h)
      · exact .inl h
      · exact .inr (.inl h)
      · exact .inr (.inr h)
    · rintro (h | h | h)
      · exact .inl (.inl h)
      · exact .inl (.inr h)
      · exact .inr h
theorem pairs_fine {d : dpDep} : ∀ (r pre : List (List Int)), pairsFine d pre r = true ↔ ∀ s, s ∈ pairsGo pre r [] → Bits d.f_From s → Bits d.f_To s
  | [], pre => by simp [pairsFine, pairsGo]
  | x :: r, pre => by
    rw [show pairsFine d pre (x :: r) = (pre.all (fine d x) && pairsFine d (pre ++ [x]) r) from rfl, Bool.and_eq_true, pairs_fine r, List.all_eq_true]
    rw [show pairsGo pre (x :: r) [] = pairsGo (pre ++ [x]) r ([] ++ pre.map (agr x)) from rfl]
    constructor
    · rintro ⟨a, b⟩ s hs
      rcases (pairs_acc _ _ _ _).1 hs with hs | hs
      · simp only [List.nil_append, List.mem_map] at hs
        obtain ⟨y, hy, rfl⟩ := hs
        exact fine_iff.1 (a y hy)
      · exact b s hs
    · intro h
      refine ⟨fun y hy => fine_iff.2 (h _ ((pairs_acc _ _ _ _).2 (.inl (by simp only [List.nil_append]; exact List.mem_map_of_mem hy)))), fun s hs => h s ((pairs_acc _ _ _ _).2 (.inr hs))⟩
def sameAt (x y : List Int) (a : Nat) : Bool := match x[a]?, y[a]? with | some s, some t => s == t | _, _ => false
theorem ragree_l1 {n : Nat} (hn : n ≤ 8) {x y : List Int} (hx : x.length = n) (hy : y.length = n) {set : Int} (h0 : 0 ≤ set) (h1 : set < 256) : ∀ (r pre : List Int), pre ++ r = x →
    rf1_agree_l1 y set rf1_agree_j5 r pre.length = some ((List.range' pre.length r.length).all fun a => !kbit set a || sameAt x y a)
  | [], pre, h => rfl
  | e :: r, pre, h => by
    have hlen : pre.length + (r.length + 1) = x.length := by rw [← h]; simp
    have k8 : pre.length < 8 := by omega
    rw [rf1_agree_l1.eq_2, kbit_eq h0 h1 k8]
    have e1 : decide (0 ≤ (pre.length : Int)) = true := decide_eq_true (by omega)
    have hyl : pre.length < y.length := by omega
    have hi : idx y (pre.length : Int) = some y[pre.length] := by
      unfold idx
      rw [if_pos (by omega), Int.toNat_natCast]
      exact List.getElem?_eq_getElem hyl
    have hxi : x[pre.length]? = some e := by rw [← h]; simp
    have hs : sameAt x y pre.length = (e == y[pre.length]) := by
      unfold sameAt
      rw [hxi, List.getElem?_eq_getElem hyl]
    have ih := ragree_l1 hn hx hy h0 h1 r (pre ++ [e]) (by simpa using h)
    simp only [List.length_append, List.length_singleton] at ih
    rw [List.length_cons, List.range'_succ, List.all_cons, hs]
    simp only [e1, hi, chk, cond_true, Option.bind_some]
    unfold rf1_agree_j9
    rw [ih]
    cases kbit set pre.length with
    | false => simp
    | true => cases hb : (e == y[pre.length]) <;> simp [bne, hb]
theorem ragree_val {n : Int} (h1 : 1 ≤ n) (h2 : n ≤ 8) {x y : List Int} (hx : x.length = n.toNat) (hy : y.length = n.toNat) {set : Int} (hs : isSet n set = true) : rf1_agree x y set = some (has set (agr x y)) := by
  have hr := (isSet_range h1 h2).1 hs
  have hp := pow_le h1 h2
  unfold rf1_agree
  rw [lenOk_of (show x.length ≤ 9223372036854775807 by omega)]
  simp only [chk, cond_true]
  have := ragree_l1 (n := n.toNat) (by omega) hx hy hr.1 (by omega) x [] rfl
  simp only [List.length_nil] at this
  rw [this]
  congr 1
  obtain ⟨_, _, hb⟩ := agree_val (x := x) (y := y) (by omega) (by omega)
  rw [Bool.eq_iff_iff, List.all_eq_true, has_iff]
  constructor
  · intro h i hi
    have hin : i < n.toNat := by
      have := (isSet_iff h1 h2 (setWf h1 h2 hs)).1 hs i hi
      unfold full at this
      have hV : V ((2 ^ n.toNat - 1 : Nat) : Int) = BitVec.ofNat 64 (2 ^ n.toNat - 1) := by unfold V; exact BitVec.ofInt_natCast _ _
      rw [hV, BitVec.getLsbD_ofNat] at this
      simp only [Bool.and_eq_true, Nat.testBit_two_pow_sub_one, decide_eq_true_eq] at this
      exact this.2
    have := h i (List.mem_range'_1.2 ⟨by omega, by omega⟩)
    have hk : kbit set i = true := hi
    rw [hk] at this
    simp only [Bool.not_true, Bool.false_or] at this
    have e := hb i
    unfold bit at e
    rw [e]
    exact this
  · intro h i hi
    cases hk : kbit set i with
    | false => rfl
    | true =>
      have := h i hk
      have e := hb i
      unfold bit at e
      rw [e] at this
      simp only [Bool.not_true, Bool.false_or]
      exact this
theorem rholds_l2 {n : Int} (h1 : 1 ≤ n) (h2 : n ≤ 8) {d : rf1Dep} (sF : isSet n d.f_From = true) (sT : isSet n d.f_To = true) {x : List Int} (hx : x.length = n.toNat) (K : Option Bool) : ∀ (r : List (List Int)) (k : Nat), (∀ y, y ∈ r → y.length = n.toNat) →
    rf1_Holds_l2 x d K r k = bif r.all (fine (toDep d) x) then K else some false
  | [], k, _ => rfl
  | y :: r, k, h => by
    have hy := h y (by simp)
    rw [rf1_Holds_l2.eq_2, ragree_val h1 h2 hx hy sF, ragree_val h1 h2 hx hy sT, List.all_cons]
    simp only [Option.bind_some]
    unfold rf1_Holds_j11
    rw [rholds_l2 h1 h2 sF sT hx K r (k + 1) (fun z hz => h z (by simp [hz]))]
    unfold fine
    rw [toDep_from, toDep_to]
    cases has d.f_From (agr x y) <;> cases has d.f_To (agr x y) <;> simp
def allFine (d : dpDep) (rows : List (List Int)) : Bool := rows.all fun x => rows.all (fine d x)
theorem rHolds_val {n : Int} (h1 : 1 ≤ n) (h2 : n ≤ 8) {d : rf1Dep} (sF : isSet n d.f_From = true) (sT : isSet n d.f_To = true) {rows : List (List Int)} (hl : lenOk rows = true) (hr : ∀ y, y ∈ rows → y.length = n.toNat) :
    rf1_Holds rows d = some (allFine (toDep d) rows) := by
  unfold rf1_Holds allFine
  rw [hl]
  simp only [chk, cond_true]
  have : ∀ (r : List (List Int)) (k : Nat), (∀ y, y ∈ r → y.length = n.toNat) → rf1_Holds_l1 rows d rf1_Holds_j4 r k = some (r.all fun x => rows.all (fine (toDep d) x)) := by
    intro r
    induction r with
    | nil => intro k _; rfl
    | cons x r ih =>
      intro k h
      rw [rf1_Holds_l1.eq_2, hl]
      simp only [chk, cond_true]
      rw [rholds_l2 h1 h2 sF sT (h x (by simp)) _ rows 0 hr]
      unfold rf1_Holds_j6
      rw [ih (k + 1) (fun y hy => h y (by simp [hy])), List.all_cons]
      cases rows.all (fine (toDep d) x) <;> simp
  exact this rows 0 hr
theorem agr_comm {x y : List Int} (h : x.length = y.length) (hy : y.length ≤ 8) : agr x y = agr y x := by
  obtain ⟨_, w1, b1⟩ := agree_val (x := x) (y := y) h hy
  obtain ⟨_, w2, b2⟩ := agree_val (x := y) (y := x) h.symm (by omega)
  have : ∀ a, bit (agr x y) a = bit (agr y x) a := by
    intro a
    rw [b1, b2]
    cases x[a]? <;> cases y[a]? <;> simp [Bool.beq_comm, BEq.comm]
  exact Bits.antisymm w1 w2 (fun a h => by have := this a; unfold bit at this; rw [← this]; exact h) (fun a h => by have := this a; unfold bit at this; rw [this]; exact h)
theorem fine_self {n : Int} (h1 : 1 ≤ n) (h2 : n ≤ 8) {d : dpDep} (sT : isSet n d.f_To = true) {x : List Int} (hx : x.length = n.toNat) : fine d x x = true := by
  rw [fine_iff]
  intro _ i hi
  obtain ⟨_, _, b⟩ := agree_val (x := x) (y := x) rfl (by omega)
  have hin : i < n.toNat := by
    have := (isSet_iff h1 h2 (setWf h1 h2 sT)).1 sT i hi
    unfold full at this
    have hV : V ((2 ^ n.toNat - 1 : Nat) : Int) = BitVec.ofNat 64 (2 ^ n.toNat - 1) := by unfold V; exact BitVec.ofInt_natCast _ _
    rw [hV, BitVec.getLsbD_ofNat] at this
    simp only [Bool.and_eq_true, Nat.testBit_two_pow_sub_one, decide_eq_true_eq] at this
    exact this.2
  have e := b i
  unfold bit at e
  rw [e, List.getElem?_eq_getElem (show i < x.length by omega)]
  simp
theorem pairs_all {n : Int} (h1 : 1 ≤ n) (h2 : n ≤ 8) {d : dpDep} (sT : isSet n d.f_To = true) : ∀ (r pre : List (List Int)), (∀ y, y ∈ pre ++ r → y.length = n.toNat) → (∀ x, x ∈ pre → ∀ y, y ∈ pre → fine d x y = true) →
    (pairsFine d pre r = true ↔ ∀ x, x ∈ pre ++ r → ∀ y, y ∈ pre ++ r → fine d x y = true)
  | [], pre, hr, hp => by
    simp only [List.append_nil]
    exact ⟨fun _ => hp, fun _ => rfl⟩
  | x :: r, pre, hr, hp => by
    rw [show pairsFine d pre (x :: r) = (pre.all (fine d x) && pairsFine d (pre ++ [x]) r) from rfl, Bool.and_eq_true, List.all_eq_true]
    have sym : ∀ y z, y ∈ pre ++ x :: r → z ∈ pre ++ x :: r → fine d y z = true → fine d z y = true := by
      intro y z hy hz h
      have ly := hr y hy
      have lz := hr z hz
      rw [fine_iff] at h ⊢
      rw [agr_comm (by omega) (by omega)]
      exact h
    have step : (∀ y, y ∈ pre → fine d x y = true) → ∀ a, a ∈ pre ++ [x] → ∀ b, b ∈ pre ++ [x] → fine d a b = true := by
      intro h a ha b hb
      rcases List.mem_append.1 ha with ja | ja <;> rcases List.mem_append.1 hb with jb | jb
      · exact hp a ja b jb
      · have e : b = x := by simpa using jb
        rw [e]
        exact sym x a (by simp) (by simp [ja]) (h a ja)
      · have e : a = x := by simpa using ja
        rw [e]
        exact h b jb
      · have e : a = x := by simpa using ja
        have e' : b = x := by simpa using jb
        rw [e, e']
        exact fine_self h1 h2 sT (hr _ (by simp))
    constructor
    · rintro ⟨a, b⟩
      have := (pairs_all h1 h2 sT r (pre ++ [x]) (by simpa using hr) (step a)).1 b
      simpa using this
    · intro h
      have a : ∀ y, y ∈ pre → fine d x y = true := fun y hy => h x (by simp) y (by simp [hy])
      exact ⟨a, (pairs_all h1 h2 sT r (pre ++ [x]) (by simpa using hr) (step a)).2 (by simpa using h)⟩
theorem allFine_pairs {n : Int} (h1 : 1 ≤ n) (h2 : n ≤ 8) {d : dpDep} (sT : isSet n d.f_To = true) {rows : List (List Int)} (hr : ∀ y, y ∈ rows → y.length = n.toNat) : allFine d rows = pairsFine d [] rows := by
  rw [Bool.eq_iff_iff, pairs_all h1 h2 sT rows [] (by simpa using hr) (fun x h => absurd h List.not_mem_nil)]
  unfold allFine
  simp only [List.all_eq_true, List.nil_append]
theorem one_set {n : Int} (h1 : 1 ≤ n) (h2 : n ≤ 8) {a : Nat} (ha : a < n.toNat) : isSet n (iShl .i64 1 (a : Int)) = true := by
  have hw : wf64 (iShl .i64 1 (a : Int)) := by unfold iShl; exact wf_wrap64 _
  refine (isSet_iff h1 h2 hw).2 fun i hi => ?_
  have := shl_one (k := a) (by omega) i
  unfold bit at this
  rw [this, beq_iff_eq] at hi
  subst hi
  unfold full
  have hV : V ((2 ^ n.toNat - 1 : Nat) : Int) = BitVec.ofNat 64 (2 ^ n.toNat - 1) := by unfold V; exact BitVec.ofInt_natCast _ _
  rw [hV, BitVec.getLsbD_ofNat]
  simp only [Bool.and_eq_true, Nat.testBit_two_pow_sub_one, decide_eq_true_eq]
  omega
theorem rmine_l2 {n : Int} (h1 : 1 ≤ n) (h2 : n ≤ 8) {rows : List (List Int)} (hl : lenOk rows = true) (hr : ∀ y, y ∈ rows → y.length = n.toNat) {k1 : Nat} (hk1 : isSet n (k1 : Int) = true) (K : Int → Option (List rf1Dep)) : ∀ (r : List Nat) (k : Nat) (v : Int), k + r.length = n.toNat → wf64 v →
    ∃ w, rf1_Mine_l2 k1 rows K r k v = K w ∧ wf64 w ∧ ∀ i, bit w i = (bit v i || (decide (k ≤ i) && (decide (i < n.toNat) && pairsFine ⟨(k1 : Int), iShl .i64 1 (i : Int)⟩ [] rows)))
  | [], k, v, hk, hv => by
    simp only [List.length_nil, Nat.add_zero] at hk
    refine ⟨v, rfl, hv, fun i => ?_⟩
    have : (decide (k ≤ i) && decide (i < n.toNat)) = false := by
      rw [← Bool.decide_and]; exact decide_eq_false (by omega)
    rw [← Bool.and_assoc, this]
    simp
  | y :: r, k, v, hk, hv => by
    simp only [List.length_cons] at hk
    have sT := one_set h1 h2 (a := k) (by omega)
    have e1 : decide (0 ≤ (k : Int)) = true := decide_eq_true (by omega)
    rw [rf1_Mine_l2.eq_2, rHolds_val h1 h2 (d := ⟨(k1 : Int), iShl .i64 1 (k : Int)⟩) hk1 sT hl hr]
    simp only [e1, chk, cond_true, Option.bind_some]
    rw [show toDep ⟨(k1 : Int), iShl .i64 1 (k : Int)⟩ = (⟨(k1 : Int), iShl .i64 1 (k : Int)⟩ : dpDep) from rfl, allFine_pairs h1 h2 sT hr]
    unfold rf1_Mine_j15
    cases hf : pairsFine ⟨(k1 : Int), iShl .i64 1 (k : Int)⟩ [] rows with
    | true =>
      simp only [cond_true]
      obtain ⟨w, a, b, c⟩ := rmine_l2 h1 h2 hl hr hk1 K r (k + 1) (iOr .i64 v (iShl .i64 1 (k : Int))) (by omega) (wf_or _ _)
      refine ⟨w, a, b, fun i => ?_⟩
      rw [c i, bit_or, shl_one (by omega)]
      by_cases hik : i = k
      · subst hik
        have : decide (i < n.toNat) = true := decide_eq_true (by omega)
        rw [hf, this]; simp
      · have h3 : (i == k) = false := beq_eq_false_iff_ne.2 hik
        have h4 : decide (k + 1 ≤ i) = decide (k ≤ i) := by congr 1; simp only [eq_iff_iff]; omega
        rw [h3, h4]; simp
    | false =>
      simp only [cond_false]
      obtain ⟨w, a, b, c⟩ := rmine_l2 h1 h2 hl hr hk1 K r (k + 1) v (by omega) hv
      refine ⟨w, a, b, fun i => ?_⟩
      rw [c i]
      by_cases hik : i = k
      · subst hik
        simp [hf]
      · have h4 : decide (k + 1 ≤ i) = decide (k ≤ i) := by congr 1; simp only [eq_iff_iff]; omega
        rw [h4]
theorem rmine_row {n : Int} (h1 : 1 ≤ n) (h2 : n ≤ 8) {rows : List (List Int)} (hl : lenOk rows = true) (hr : ∀ y, y ∈ rows → y.length = n.toNat) {k1 : Nat} (hk1 : isSet n (k1 : Int) = true) (K : Int → Option (List rf1Dep)) :
    rf1_Mine_l2 k1 rows K (List.range n.toNat) 0 0 = K (fM n (pairsGo [] rows []) (k1 : Int)) := by
  obtain ⟨w, a, b, c⟩ := rmine_l2 h1 h2 hl hr hk1 K (List.range n.toNat) 0 0 (by simp) (by unfold wf64; omega)
  rw [a]
  congr 1
  have cc := fM_closer h1 h2 (pairsGo [] rows [])
  have hz : ∀ i, bit 0 i = false := by
    intro i
    unfold bit
    have : V 0 = 0#64 := rfl
    rw [this]; simp
  have hone : ∀ (i : Nat) (s : Int), i < 8 → (Bits (iShl .i64 1 (i : Int)) s ↔ bit s i = true) := by
    intro i s hi
    constructor
    · intro h
      have := h i (by have := shl_one (k := i) hi i; unfold bit at this; rw [this]; simp)
      exact this
    · intro h j hj
      have := shl_one (k := i) hi j
      unfold bit at this
      rw [this, beq_iff_eq] at hj
      subst hj; exact h
  have key : ∀ i, bit w i = true ↔ i < n.toNat ∧ ∀ s, s ∈ pairsGo [] rows [] → Bits (k1 : Int) s → bit s i = true := by
    intro i
    rw [c i, hz i]
    simp only [Bool.false_or, Nat.zero_le, decide_true, Bool.true_and, Bool.and_eq_true, decide_eq_true_eq]
    constructor
    · rintro ⟨p, q⟩
      refine ⟨p, fun s hs hb => ?_⟩
      exact (hone i s (by omega)).1 (pairs_fine rows [] |>.1 q s hs hb)
    · rintro ⟨p, q⟩
      exact ⟨p, (pairs_fine rows []).2 fun s hs hb => (hone i s (by omega)).2 (q s hs hb)⟩
  have hfb : ∀ i, bit (full n) i = true ↔ i < n.toNat := by
    intro i
    unfold bit full
    have hV : V ((2 ^ n.toNat - 1 : Nat) : Int) = BitVec.ofNat 64 (2 ^ n.toNat - 1) := by unfold V; exact BitVec.ofInt_natCast _ _
    rw [hV, BitVec.getLsbD_ofNat]
    simp only [Bool.and_eq_true, Nat.testBit_two_pow_sub_one, decide_eq_true_eq]
    omega
  refine Bits.antisymm b (setWf h1 h2 (cc.set _ hk1)) ?_ ?_
  · refine fM_iff.2 ⟨fun i hi => ?_, fun s hs hb i hi => ?_⟩
    · exact (hfb i).2 ((key i).1 hi).1
    · exact ((key i).1 hi).2 s hs hb
  · intro i hi
    refine (key i).2 ⟨?_, fun s hs hb => ?_⟩
    · exact (hfb i).1 ((fM_iff.1 (Bits.refl (fM n (pairsGo [] rows []) (k1 : Int)))).1 i hi)
    · exact (fM_iff.1 (Bits.refl (fM n (pairsGo [] rows []) (k1 : Int)))).2 s hs hb i hi
theorem rmine_l1 {n : Int} (h1 : 1 ≤ n) (h2 : n ≤ 8) {rows : List (List Int)} (hl : lenOk rows = true) (hr : ∀ y, y ∈ rows → y.length = n.toNat) : ∀ (r : List Nat) (k : Nat) (v : List Int), v = (List.range k).map (fun (x : Nat) => fM n (pairsGo [] rows []) (x : Int)) → k + r.length ≤ 2 ^ n.toNat →
    rf1_Mine_l1 n rows (rf1_Mine_j5 n) r k v = rf1_Mine_j5 n ((List.range (k + r.length)).map fun (x : Nat) => fM n (pairsGo [] rows []) (x : Int))
  | [], k, v, hv, hk => by rw [rf1_Mine_l1.eq_1, hv]; simp
  | x :: r, k, v, hv, hk => by
    simp only [List.length_cons] at hk
    have hp := pow_le h1 h2
    have hs : isSet n (k : Int) = true := (isSet_range h1 h2).2 ⟨by omega, by exact_mod_cast (show k < 2 ^ n.toNat by omega)⟩
    rw [rf1_Mine_l1.eq_2, lenOk_of (show (List.range n.toNat).length ≤ 9223372036854775807 by simp; omega)]
    simp only [chk, cond_true]
    rw [rmine_row h1 h2 hl hr hs]
    unfold rf1_Mine_j12
    have hcap : ∀ z, capOk 8 (v ++ [z]).length = true := by
      intro z
      rw [hv]
      simp only [capOk, Bool.and_eq_true, List.length_append, List.length_singleton, List.length_map, List.length_range]
      exact ⟨Nat.ble_eq_true_of_le (by omega), Nat.ble_eq_true_of_le (by omega)⟩
    simp only [hcap, chk, cond_true]
    rw [rmine_l1 h1 h2 hl hr r (k + 1) _ (by rw [hv, List.range_succ]; simp) (by omega)]
    congr 3
    simp only [List.length_cons]
    omega
theorem rMine_val {n : Int} (h1 : 1 ≤ n) (h2 : n ≤ 8) {rows : List (List Int)} (hl : lenOk rows = true) (hr : ∀ y, y ∈ rows → y.length = n.toNat) : rf1_Mine n rows = some ((critGo (fM n (pairsGo [] rows [])) (allSets n.toNat) []).map ofDep) := by
  have hp := pow_le h1 h2
  have hn : decide (0 ≤ n) = true := decide_eq_true (by omega)
  have hrr : lenOk (List.range (2 ^ n.toNat)) = true := lenOk_of (by simp; omega)
  unfold rf1_Mine
  rw [iShl_one h1 h2, Int.toNat_natCast]
  simp only [hn, hrr, chk, cond_true]
  rw [rmine_l1 h1 h2 hl hr _ 0 [] rfl (by simp)]
  unfold rf1_Mine_j5
  rw [rcritical_val (f := fM n (pairsGo [] rows [])) h1 h2 (fun j hj => by simp [hj])]
  rfl
theorem dependTables_true {n : Int} {rows : List (List Int)} {d : rf1Dep} (hr : lenOk rows = true) : lw1_DependTables bigFuel n rows d = some true := by
  have hf : bigFuel ≤ bigFuel := Nat.le_refl _
  unfold lw1_DependTables
  rw [few_val hr]
  simp only [Option.bind_some, lw1_dep]
  rw [Holds_val fewRows_lenOk, Mine_val fewRows_lenOk, rTable_val hr, awake_eq hf]
  cases ht : tableOk n rows with
  | false =>
    have : tableOk n (fewRows rows) = false := by
      cases h : tableOk n (fewRows rows) with
      | false => rfl
      | true =>
        exfalso
        -- a table of the copied rows is the table
        simp only [tableOk, Bool.and_eq_true, decide_eq_true_eq, List.all_eq_true, beq_iff_eq] at h
        obtain ⟨h1, h2, h3, h4⟩ := h
        have hlen : rows.length ≤ 60 := by
          unfold fewRows at h3
          simp only [List.length_map, List.length_take] at h3
          omega
        have : tableOk n rows = true := by
          simp only [tableOk, Bool.and_eq_true, decide_eq_true_eq, List.all_eq_true, beq_iff_eq]
          refine ⟨h1, h2, hlen, fun x hx => ?_⟩
          have hm : x.take 10 ∈ fewRows rows := by
            unfold fewRows
            rw [List.take_of_length_le (by omega)]
            exact List.mem_map_of_mem hx
          have := h4 _ hm
          rw [List.length_take] at this
          omega
        rw [this] at ht; cases ht
    rw [this]
    simp only [Bool.false_and, cond_false, Option.bind_some, Bool.not_false, cond_true, lw1_DependTables_j15]
    rfl
  | true =>
    have hfew := few_table ht
    rw [hfew, ht]
    have ht' := ht
    simp only [tableOk, Bool.and_eq_true, decide_eq_true_eq, List.all_eq_true, beq_iff_eq] at ht'
    obtain ⟨h1, h2, h3, h4⟩ := ht'
    have hrl : ∀ y, y ∈ rows → y.length = n.toNat := fun y hy => by have := h4 y hy; omega
    have hp := pow_le h1 h2
    have fA := critGo_spec (f := fM n (pairsGo [] rows [])) (allSets_good h1 h2)
    have hcl : (critGo (fM n (pairsGo [] rows [])) (allSets n.toNat) []).length ≤ 256 := by
      have := fA.from'.length_le
      rw [List.length_map] at this
      have e : (allSets n.toNat).length = 2 ^ n.toNat := by simp [allSets]
      omega
    simp only [Bool.true_and, cond_true, Option.bind_some, Bool.not_true, cond_false]
    rw [own_val hcl, rMine_val h1 h2 hr hrl]
    simp only [Option.bind_some]
    rw [equal_dep_refl (lenOk_of (by simp; omega))]
    simp only [Option.bind_some, Bool.not_true, cond_false, bne_self_eq_false]
    unfold lw1_DependTables_j19
    rw [rPair_val (by omega), awake_eq hf]
    cases hs : isSet n d.f_From && isSet n d.f_To with
    | false =>
      simp only [Option.bind_some, cond_false, Bool.not_false, cond_true, lw1_DependTables_j28]
      rfl
    | true =>
      have hs' := hs
      rw [Bool.and_eq_true] at hs'
      obtain ⟨sF, sT⟩ := hs'
      simp only [Option.bind_some, cond_false, Bool.not_true, cond_true]
      rw [rHolds_val h1 h2 sF sT hr hrl, allFine_pairs h1 h2 (d := toDep d) sT hrl]
      have : pairsFine (toDep d) [] rows = pairsFine ⟨d.f_From, d.f_To⟩ [] rows := rfl
      rw [this]
      simp [lw1_DependTables_j31]
end Go.AM
