/-
  CHAPTER 1, PLAIN: sets, closures, the dependencies that a law passes on. No statement of the seat is proved here.
-/
import Derived.Test.YtombfedoinhafaaALaw1
set_option linter.unusedVariables false
namespace Go.AM

/-! ### the arguments -/
theorem iShl_one {n : Int} (h1 : 1 ≤ n) (h2 : n ≤ 8) : iShl .i64 1 n = ((2 ^ n.toNat : Nat) : Int) := by
  obtain ⟨m, rfl⟩ := Int.eq_ofNat_of_zero_le (show 0 ≤ n by omega)
  have h3 : 1 ≤ m := by omega
  have h4 : m ≤ 8 := by omega
  have : m = 1 ∨ m = 2 ∨ m = 3 ∨ m = 4 ∨ m = 5 ∨ m = 6 ∨ m = 7 ∨ m = 8 := by omega
  rcases this with rfl | rfl | rfl | rfl | rfl | rfl | rfl | rfl <;> decide +kernel

/-- the attributes of a set are among all -/
def full (n : Int) : Int := ((2 ^ n.toNat - 1 : Nat) : Int)

theorem isSet_iff {n x : Int} (h1 : 1 ≤ n) (h2 : n ≤ 8) (hx : wf64 x) : isSet n x = true ↔ Bits x (full n) := by
  unfold full
  rw [sub_full (by omega) hx]
  unfold isSet
  rw [iShl_one h1 h2]
  simp

theorem ok_parts {n : Int} {ds : List dpDep} (h : okArgs n ds = true) : 1 ≤ n ∧ n ≤ 8 ∧ ∀ d, d ∈ ds → isSet n d.f_From = true ∧ isSet n d.f_To = true := by
  simp only [okArgs, Bool.and_eq_true, decide_eq_true_eq, List.all_eq_true] at h
  exact ⟨h.1.1.1, h.1.1.2, fun d hd => h.2 d hd⟩

/-- a closure is a set, if the dependencies are ones of sets -/
theorem closure_isSet {n x r : Int} {ds : List dpDep} (ho : okArgs n ds = true) (hwf : ∀ d, d ∈ ds → wf64 d.f_To) (hx : wf64 x) (hs : isSet n x = true) (h : IsClosure ds x r) : isSet n r = true := by
  obtain ⟨h1, h2, h3⟩ := ok_parts ho
  rw [isSet_iff h1 h2 h.wf]
  exact h.least _ (fun d hd _ => (isSet_iff h1 h2 (hwf d hd)).1 (h3 d hd).2) ((isSet_iff h1 h2 hx).1 hs)

theorem or_isSet {n x y : Int} (h1 : 1 ≤ n) (h2 : n ≤ 8) (hx : wf64 x) (hy : wf64 y) (h : isSet n x = true) (k : isSet n y = true) : isSet n (iOr .i64 x y) = true := by
  rw [isSet_iff h1 h2 (wf_or _ _)]
  exact or_sub ((isSet_iff h1 h2 hx).1 h) ((isSet_iff h1 h2 hy).1 k)

/-! ### the given dependencies, cut to 14 -/
def toDep (d : rf1Dep) : dpDep := ⟨d.f_From, d.f_To⟩

theorem deps_eq {l : List rf1Dep} (hl : lenOk l = true) : lw1_deps l = some ((l.take 14).map toDep) := by
  unfold lw1_deps
  rw [hl]
  simp only [chk, cond_true]
  have : ∀ (r : List rf1Dep) (k : Nat) (acc : List dpDep), acc.length = k → k ≤ 14 → lw1_deps_l1 lw1_deps_j4 r k acc = some (acc ++ (r.take (14 - k)).map toDep) := by
    intro r
    induction r with
    | nil => intro k acc _ _; rw [lw1_deps_l1.eq_1]; simp [lw1_deps_j4]
    | cons x r ih =>
      intro k acc ha hk
      rw [lw1_deps_l1.eq_2]
      by_cases h : (k : Int) > 13
      · have : k = 14 := by omega
        subst this
        simp [lw1_deps_j4]
      · have hk2 : k + 1 ≤ 14 := by omega
        have hcap : capOk 16 (acc ++ [(dpDep.mk x.f_From x.f_To)]).length = true := by
          rw [List.length_append, ha]
          simp only [capOk, Bool.and_eq_true]
          exact ⟨Nat.ble_eq_true_of_le (by simp; omega), Nat.ble_eq_true_of_le (by simp; omega)⟩
        simp only [h, decide_false, cond_false, hcap, chk, cond_true]
        rw [ih (k + 1) _ (by simp [ha]) hk2]
        have : 14 - k = (14 - (k + 1)) + 1 := by omega
        rw [this, List.take_succ_cons]
        simp [toDep]
  simpa using this l 0 [] rfl (by omega)

theorem awake_eq {fuel : Nat} (hf : bigFuel ≤ fuel) : lw1_awake fuel = some true := by
  unfold lw1_awake lw1_awake_j4
  have hc := Closure_eq (n := 3) (ds := [(dpDep.mk 1 2), (dpDep.mk 2 4)]) (x := 1) (by rfl) (by unfold wf64; omega) hf
  have ho : okArgs 3 [(dpDep.mk 1 2), (dpDep.mk 2 4)] = true := by decide +kernel
  have hs : isSet 3 1 = true := by decide +kernel
  rcases hc with ⟨h, _⟩ | ⟨_, _, r, h1, h2⟩
  · rw [ho, hs] at h; cases h
  · have : r = 7 := h1.unique (s := 7) ⟨by unfold wf64; omega, by rw [← sub_iff]; decide +kernel, fun d hd _ => by
        simp at hd; rcases hd with rfl | rfl <;> (rw [← sub_iff]; decide +kernel), fun c hc h1 => by
        have k1 := hc (dpDep.mk 1 2) (by simp) h1
        have k2 := hc (dpDep.mk 2 4) (by simp) k1
        have : (7 : Int) = iOr .i64 (iOr .i64 1 2) 4 := by decide +kernel
        rw [this]
        exact or_sub (or_sub h1 k1) k2⟩
    subst this
    rw [h2]; rfl

theorem lenOk_take {l : List rf1Dep} : lenOk ((l.take 14).map toDep) = true := lenOk_of (by simp; omega)

theorem wf_take {l : List rf1Dep} (hd : ∀ d, d ∈ l → wf64 d.f_From ∧ wf64 d.f_To) : ∀ d, d ∈ (l.take 14).map toDep → wf64 d.f_From ∧ wf64 d.f_To := by
  intro d h
  obtain ⟨e, he, rfl⟩ := List.mem_map.1 h
  exact hd e (List.mem_of_mem_take he)

end Go.AM
