/-
  DependClosed: for every readable input the law returns true.
-/
import Derived.Test.YtombfedoinhafaaALaw1
import Derived.Test.YtombfedoinhafaaAClose
import Derived.Test.YtombfedoinhafaaRows
import Derived.ProofKit
import Derived.OpenShut
set_option linter.unusedVariables false
namespace Go.AM
open Go.Proofs Go.Proofs.Ytombfedoinhafaa Go.ChangeShapes Go.WideShapes Go.ChangeAt Go.RowKit

/-! ### the arguments -/
theorem iShl_one {n : Int} (h1 : 1 ≤ n) (h2 : n ≤ 8) : iShl .i64 1 n = ((2 ^ n.toNat : Nat) : Int) := by
  obtain ⟨m, rfl⟩ := Int.eq_ofNat_of_zero_le (show 0 ≤ n by omega)
  have h3 : 1 ≤ m := by omega
  have h4 : m ≤ 8 := by omega
  have : m = 1 ∨ m = 2 ∨ m = 3 ∨ m = 4 ∨ m = 5 ∨ m = 6 ∨ m = 7 ∨ m = 8 := by omega
  rcases this with rfl | rfl | rfl | rfl | rfl | rfl | rfl | rfl <;> decide +kernel

/-- the attributes of a set are among all -/
def full (n : Int) : Int := ((2 ^ n.toNat - 1 : Nat) : Int)

theorem isSet_iff {n x : Int} (h1 : 1 ≤ n) (h2 : n ≤ 8) (hx : wf64 x) : isSet n x = true ↔ Bits x (full n) := by
  unfold full
  rw [sub_full (by omega) hx]
  unfold isSet
  rw [iShl_one h1 h2]
  simp

theorem ok_parts {n : Int} {ds : List T_depend_Dep} (h : okArgs n ds = true) : 1 ≤ n ∧ n ≤ 8 ∧ ∀ d, d ∈ ds → isSet n d.f_From = true ∧ isSet n d.f_To = true := by
  simp only [okArgs, Bool.and_eq_true, decide_eq_true_eq, List.all_eq_true] at h
  exact ⟨h.1.1.1, h.1.1.2, fun d hd => h.2 d hd⟩

/-- a closure is a set, if the dependencies are ones of sets -/
theorem closure_isSet {n x r : Int} {ds : List T_depend_Dep} (ho : okArgs n ds = true) (hwf : ∀ d, d ∈ ds → wf64 d.f_To) (hx : wf64 x) (hs : isSet n x = true) (h : IsClosure ds x r) : isSet n r = true := by
  obtain ⟨h1, h2, h3⟩ := ok_parts ho
  rw [isSet_iff h1 h2 h.wf]
  exact h.least _ (fun d hd _ => (isSet_iff h1 h2 (hwf d hd)).1 (h3 d hd).2) ((isSet_iff h1 h2 hx).1 hs)

theorem or_isSet {n x y : Int} (h1 : 1 ≤ n) (h2 : n ≤ 8) (hx : wf64 x) (hy : wf64 y) (h : isSet n x = true) (k : isSet n y = true) : isSet n (iOr .i64 x y) = true := by
  rw [isSet_iff h1 h2 (wf_or _ _)]
  exact or_sub ((isSet_iff h1 h2 hx).1 h) ((isSet_iff h1 h2 hy).1 k)

/-! ### the given dependencies, cut to 14 -/
def toDep (d : T_cubebref01_Dep) : T_depend_Dep := ⟨d.f_From, d.f_To⟩

theorem deps_eq {l : List T_cubebref01_Dep} (hl : lenOk l = true) : g_cubeblaw01_deps l = some ((l.take 14).map toDep) := by
  unfold g_cubeblaw01_deps
  rw [hl]
  simp only [chk, cond_true]
  have : ∀ (r : List T_cubebref01_Dep) (k : Nat) (acc : List T_depend_Dep), acc.length = k → k ≤ 14 → g_cubeblaw01_deps_l1 g_cubeblaw01_deps_j4 r k acc = some (acc ++ (r.take (14 - k)).map toDep) := by
    intro r
    induction r with
    | nil => intro k acc _ _; rw [g_cubeblaw01_deps_l1.eq_1]; simp [g_cubeblaw01_deps_j4]
    | cons x r ih =>
      intro k acc ha hk
      rw [g_cubeblaw01_deps_l1.eq_2]
      by_cases h : (k : Int) > 13
      · have : k = 14 := by omega
        subst this
        simp [g_cubeblaw01_deps_j4]
      · have hk2 : k + 1 ≤ 14 := by omega
        have hcap : capOk 16 (acc ++ [(T_depend_Dep.mk x.f_From x.f_To)]).length = true := by
          rw [List.length_append, ha]
          simp only [capOk, Bool.and_eq_true]
          exact ⟨Nat.ble_eq_true_of_le (by simp; omega), Nat.ble_eq_true_of_le (by simp; omega)⟩
        simp only [h, decide_false, cond_false, hcap, chk, cond_true]
        rw [ih (k + 1) _ (by simp [ha]) hk2]
        have : 14 - k = (14 - (k + 1)) + 1 := by omega
        rw [this, List.take_succ_cons]
        simp [toDep]
  simpa using this l 0 [] rfl (by omega)

theorem awake_eq {fuel : Nat} (hf : bigFuel ≤ fuel) : g_cubeblaw01_awake fuel = some true := by
  unfold g_cubeblaw01_awake g_cubeblaw01_awake_j4
  have hc := Closure_eq (n := 3) (ds := [(T_depend_Dep.mk 1 2), (T_depend_Dep.mk 2 4)]) (x := 1) (by rfl) (by unfold wf64; omega) hf
  have ho : okArgs 3 [(T_depend_Dep.mk 1 2), (T_depend_Dep.mk 2 4)] = true := by decide +kernel
  have hs : isSet 3 1 = true := by decide +kernel
  rcases hc with ⟨h, _⟩ | ⟨_, _, r, h1, h2⟩
  · rw [ho, hs] at h; cases h
  · have : r = 7 := h1.unique (s := 7) ⟨by unfold wf64; omega, by rw [← sub_iff]; decide +kernel, fun d hd _ => by
        simp at hd; rcases hd with rfl | rfl <;> (rw [← sub_iff]; decide +kernel), fun c hc h1 => by
        have k1 := hc (T_depend_Dep.mk 1 2) (by simp) h1
        have k2 := hc (T_depend_Dep.mk 2 4) (by simp) k1
        have : (7 : Int) = iOr .i64 (iOr .i64 1 2) 4 := by decide +kernel
        rw [this]
        exact or_sub (or_sub h1 k1) k2⟩
    subst this
    rw [h2]; rfl

/-! ### the law -/
theorem dependClosed_true {n x y : Int} {l : List T_cubebref01_Dep} (hl : lenOk l = true) (hd : ∀ d, d ∈ l → wf64 d.f_From ∧ wf64 d.f_To) (hx : wf64 x) (hy : wf64 y) {fuel : Nat} (hf : bigFuel ≤ fuel) :
    g_cubeblaw01_DependClosed fuel n l x y = some true := by
  obtain ⟨ds, hds⟩ : ∃ ds, ds = (l.take 14).map toDep := ⟨_, rfl⟩
  have hlen : lenOk ds = true := lenOk_of (by rw [hds]; simp; omega)
  have hwf : ∀ d, d ∈ ds → wf64 d.f_To := by
    intro d h
    rw [hds] at h
    obtain ⟨e, he, rfl⟩ := List.mem_map.1 h
    exact (hd e (List.mem_of_mem_take he)).2
  unfold g_cubeblaw01_DependClosed
  rw [deps_eq hl, ← hds]
  simp only [Option.bind_some]
  rcases Closure_eq (n := n) hlen hx hf with ⟨h1, e1⟩ | ⟨o1, s1, a, c1, e1⟩
  · rw [e1]
    rcases Closure_eq (n := n) hlen hy hf with ⟨h2, e2⟩ | ⟨o2, s2, b, c2, e2⟩
    all_goals
      rw [e2]
      simp [g_cubeblaw01_DependClosed_j13, awake_eq hf, g_cubeblaw01_DependClosed_j15]
  · rcases Closure_eq (n := n) hlen hy hf with ⟨h2, e2⟩ | ⟨o2, s2, b, c2, e2⟩
    · rw [e1, e2]
      simp [g_cubeblaw01_DependClosed_j13, awake_eq hf, g_cubeblaw01_DependClosed_j15]
    · obtain ⟨p1, p2, _⟩ := ok_parts o1
      have sa := closure_isSet o1 hwf hx s1 c1
      rcases Closure_eq (n := n) hlen c1.wf hf with ⟨h3, e3⟩ | ⟨_, _, c, c3, e3⟩
      · rw [o1, sa] at h3; cases h3
      rcases Closure_eq (n := n) hlen (wf_or x y) hf with ⟨h4, e4⟩ | ⟨_, _, d, c4, e4⟩
      · rw [o1, or_isSet p1 p2 hx hy s1 s2] at h4; cases h4
      have hca : c = a := c3.unique ⟨c1.wf, Bits.refl a, c1.closed, fun c _ h => h⟩
      subst hca
      have g1 : (iAndNot .i64 x c == 0) = true := andNot_zero.2 c1.sup
      have g2 : (iAndNot .i64 (iOr .i64 c b) d == 0) = true := andNot_zero.2 (or_sub (c1.least d c4.closed ((sub_or_left x y).trans c4.sup)) (c2.least d c4.closed ((sub_or_right x y).trans c4.sup)))
      rw [e1, e2]
      unfold g_cubeblaw01_DependClosed_j13
      rw [deps_eq hl, ← hds]
      simp only [Option.bind_some, e3, e4, g1, g2, awake_eq hf, g_cubeblaw01_DependClosed_j25]
      simp

/-! ### what can be read -/
theorem readsDep : Reads Try.prog 40 e_T_cubebref01_Dep (fun d => wf64 d.f_From ∧ wf64 d.f_To) :=
  reads_struct (P := Try.prog) (size := 2) (fs := #[Field.mk "From" 3 0 false "" "" 0, Field.mk "To" 3 1 false "" "" 8]) (fun b : Int × Int × Unit => (⟨b.1, b.2.1⟩ : T_cubebref01_Dep)) (by kernel_rfl) (by kernel_rfl)
    (fieldsR_cons (f := AV.int .i64) (ok := fun n => (Lit.int .i64 n).wf = true) (n := 1) (off' := 1) rfl (by kernel_rfl) rfl (reads_int (k := .i64) (by kernel_rfl)) (fieldsR_cons (f := AV.int .i64) (ok := fun n => (Lit.int .i64 n).wf = true) (n := 1) (off' := 2) rfl (by kernel_rfl) rfl (reads_int (k := .i64) (by kernel_rfl)) (fieldsR_nil rfl)))
    (fun b => rfl) (fun b h => ⟨wf_of_lit h.1, wf_of_lit h.2.1⟩)

theorem readsDeps : Reads Try.prog 22 (encL 40 2 e_T_cubebref01_Dep) (fun l => l.length ≤ maxLen ∧ ∀ d, d ∈ l → wf64 d.f_From ∧ wf64 d.f_To) :=
  reads_slice (by kernel_rfl) (by kernel_rfl) (by decide) readsDep (fun _ => rfl) (fun _ => rfl)

theorem readsInt : Reads Try.prog 3 (AV.int .i64) wf64 := fun H enc w fuel cs x h =>
  let ⟨a, h1, h2⟩ := reads_int (P := Try.prog) (t := 3) (k := .i64) (by kernel_rfl) H enc w fuel cs x h
  ⟨a, wf_of_lit h1, h2⟩

theorem lenOk_max {α : Type} {l : List α} (h : l.length ≤ maxLen) : lenOk l = true := lenOk_of (by unfold maxLen at h; omega)

theorem own : ownKnob Try.prog.godebug = none := by kernel_rfl
theorem mixed : Try.prog.follows .mixedOrders = true := by kernel_rfl
theorem laid : laidOutB Try.prog = true := by kernel_rfl

set_option maxRecDepth 100000 in
theorem dependClosed_contract (H : Type) (enc : TypeId × Value → H) (W : World) (base : Nat) (args : Array Value) (ds gs : List (DataW H)) (before : List MemPlace)
    (hval : ∀ (j : Nat) t v, Try.f3.params[j]? = some t → args[j]? = some v → Value.okWide Try.prog W .any base t v)
    (hW : DataW.Whole enc Try.prog Try.f3.params.toList Rows.dependClosedSpec.vars false W args.toList ds gs before) :
    Calls Try.prog 3 args W fun e W' => ∃ v, e = .returned v ∧ Rows.dependClosedSpec.post enc Try.prog Try.f3 false true false false W args v W' := by
  refine law_contract (tb := 4) mixed laid (by kernel_rfl) rfl (fun t ht => ?_) rfl (fun ds hds => ?_) (fun W vs ds ps hone hA => ?_) W base args ds gs before hval hW
  · rw [Try.params3] at ht
    simp at ht
    rcases ht with rfl | rfl | rfl | rfl <;> exact ⟨by kernel_rfl, of_decide_eq_true (by kernel_rfl)⟩
  · match ds, hds with
    | [_, _, _, _], _ => rfl
  · rw [Try.params3] at hA hone
    obtain ⟨v0, s0, d0, t0, p0, q0, rfl, rfl, rfl, h0, r0⟩ := trodAll_cons hA
    obtain ⟨v1, s1, d1, t1, p1, q1, rfl, rfl, rfl, h1, r1⟩ := trodAll_cons r0
    obtain ⟨v2, s2, d2, t2, p2, q2, rfl, rfl, rfl, h2, r2⟩ := trodAll_cons r1
    obtain ⟨v3, s3, d3, t3, p3, q3, rfl, rfl, rfl, h3, r3⟩ := trodAll_cons r2
    obtain ⟨rfl, rfl, rfl⟩ := trodAll_nil r3
    obtain ⟨n, k0, g0⟩ := readsInt.arg h0 rfl (hone 0 _ _ rfl rfl (by kernel_rfl))
    obtain ⟨l, k1, g1⟩ := readsDeps.arg h1 rfl (hone 1 _ _ rfl rfl (by kernel_rfl))
    obtain ⟨x, k2, g2⟩ := readsInt.arg h2 rfl (hone 2 _ _ rfl rfl (by kernel_rfl))
    obtain ⟨y, k3, g3⟩ := readsInt.arg h3 rfl (hone 3 _ _ rfl rfl (by kernel_rfl))
    exact ⟨_, .cons g0 (.cons g1 (.cons g2 (.cons g3 .nil))), run_g_cubeblaw01_DependClosed bigFuel n l x y true (dependClosed_true (lenOk_max k1.1) k1.2 k2 k3 (Nat.le_refl _))⟩

set_option maxRecDepth 100000 in
theorem dependClosed_lifted (os : Os) (started : os.Started) (H : Type) (enc : TypeId × Value → H) :
    ReturnsInHanded {} Try.checked os 3 .any (Rows.dependClosedSpec.pre6 enc Try.prog Try.f3 Rows.dependClosedRow.domain false) (Rows.dependClosedSpec.post enc Try.prog Try.f3 false true false false) := by
  refine returnsInHanded_of_change (C := Try.checked) own started (by kernel_rfl) Try.func3
    (ChangeSpec.witness6 (enc := enc) (C := Try.checked) false ⟨#[], #[.int .i64 0, .slice none 0 0, .int .i64 0, .int .i64 0], []⟩ 8 (by kernel_rfl) (by kernel_rfl) (by kernel_rfl) (by kernel_rfl)) ?_
  intro W base args ds gs before hval hW _ _
  exact dependClosed_contract H enc W base args ds gs before hval hW

theorem dependClosed_holds : Rows.DependClosedSaid :=
  OpenClaim.holds_of_wide 3 Try.f3 rfl rfl rfl rfl rfl rfl rfl ⟨rfl, rfl, rfl, rfl, rfl⟩ rfl rfl rfl rfl rfl (by kernel_rfl) Try.func3 (by kernel_rfl)
    (of_decide_eq_true (by kernel_rfl)) (by unfold Func.isWrapper; first | (rw [if_pos (by decide +kernel)]; kernel_rfl) | (rw [if_neg (by decide +kernel)]; exact ⟨rfl, rfl⟩))
    (fun os started H enc _ => dependClosed_lifted os started H enc)
#print axioms dependClosed_holds

end Go.AM

namespace Go.Proofs.Ytombfedoinhafaa
theorem dependClosed_proved : Rows.DependClosedSaid := Go.AM.dependClosed_holds
end Go.Proofs.Ytombfedoinhafaa
