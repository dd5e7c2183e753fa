/-
  DependKeys: for every readable input the law returns true, and its arguments read as before.
-/
import Derived.Test.YtombfedoinhafaaKKeysLaw
import Derived.Test.YtombfedoinhafaaABase
set_option linter.unusedVariables false
namespace Go.AM
open Go.Proofs Go.Proofs.Ytombfedoinhafaa Go.ChangeShapes Go.WideShapes Go.ChangeAt Go.RowKit

set_option maxRecDepth 100000 in
theorem dependKeys_contract (H : Type) (enc : TypeId × Value → H) (W : World) (base : Nat) (args : Array Value) (ds gs : List (DataW H)) (before : List MemPlace)
    (hval : ∀ (j : Nat) t v, Try.f16.params[j]? = some t → args[j]? = some v → Value.okWide Try.prog W .any base t v)
    (hW : DataW.Whole enc Try.prog Try.f16.params.toList Rows.dependKeysSpec.vars false W args.toList ds gs before) :
    Calls Try.prog 16 args W fun e W' => ∃ v, e = .returned v ∧ Rows.dependKeysSpec.post enc Try.prog Try.f16 false true false false W args v W' := by
  refine law_contract (tb := 4) mixed laid (by kernel_rfl) rfl (fun t ht => ?_) rfl (fun ds hds => ?_) (fun W vs ds ps hone hrow hA => ?_) W base args ds gs before hval hW
  · rw [Try.params16] at ht
    simp at ht
    rcases ht with rfl | rfl <;> exact ⟨by kernel_rfl, of_decide_eq_true (by kernel_rfl)⟩
  · match ds, hds with
    | [_, _], _ => rfl
  · rw [Try.params16] at hA hone hrow
    obtain ⟨v0, s0, d0, t0, p0, q0, rfl, rfl, rfl, h0, r0⟩ := trodAll_cons hA
    obtain ⟨v1, s1, d1, t1, p1, q1, rfl, rfl, rfl, h1, r1⟩ := trodAll_cons r0
    obtain ⟨rfl, rfl, rfl⟩ := trodAll_nil r1
    obtain ⟨n, k0, g0⟩ := readsInt.arg h0 rfl (hone 0 _ _ rfl rfl (by kernel_rfl))
    obtain ⟨l, k1, g1⟩ := readsDeps.arg h1 rfl (hone 1 _ _ rfl rfl (by kernel_rfl))
    exact ⟨_, .cons g0 (.cons g1 .nil), run_lw1_DependKeys bigFuel n l true (dependKeys_true (lenOk_max k1.1))⟩

set_option maxRecDepth 100000 in
theorem dependKeys_lifted (os : Os) (started : os.Started) (H : Type) (enc : TypeId × Value → H) :
    ReturnsInHanded {} Try.checked os 16 .any (Rows.dependKeysSpec.pre6 enc Try.prog Try.f16 Rows.dependKeysRow.domain false) (Rows.dependKeysSpec.post enc Try.prog Try.f16 false true false false) := by
  refine returnsInHanded_of_change (C := Try.checked) own started (by kernel_rfl) Try.func16
    (ChangeSpec.witness6 (enc := enc) (C := Try.checked) false ⟨#[], #[.int .i64 0, .slice none 0 0], []⟩ 8 (by kernel_rfl) (by kernel_rfl) (by kernel_rfl) (by kernel_rfl)) ?_
  intro W base args ds gs before hval hW _ _
  exact dependKeys_contract H enc W base args ds gs before hval hW
end Go.AM

namespace Go.Proofs.Ytombfedoinhafaa
open Go.AM Go.ChangeShapes Go.WideShapes Go.ChangeAt Go.RowKit
theorem dependKeys_proved : Rows.DependKeysSaid :=
  OpenClaim.holds_of_wide 16 Try.f16 rfl rfl rfl rfl rfl rfl rfl ⟨rfl, rfl, rfl, rfl, rfl⟩ rfl rfl rfl rfl rfl (by kernel_rfl) Try.func16 (by kernel_rfl)
    (of_decide_eq_true (by kernel_rfl)) (by unfold Func.isWrapper; first | (rw [if_pos (by decide +kernel)]; kernel_rfl) | (rw [if_neg (by decide +kernel)]; exact ⟨rfl, rfl⟩))
    (fun os started H enc _ => dependKeys_lifted os started H enc)
#print axioms dependKeys_proved
end Go.Proofs.Ytombfedoinhafaa
