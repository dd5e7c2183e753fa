import Derived.Test.YtombfedoinhafaaKTablesLaw
import Derived.Test.YtombfedoinhafaaABase
set_option linter.unusedVariables false
namespace Go.AM
open Go.Proofs Go.Proofs.Ytombfedoinhafaa Go.ChangeShapes Go.WideShapes Go.ChangeAt Go.RowKit
set_option maxRecDepth 100000 in
theorem dependTables_contract (H : Type) (enc : TypeId × Value → H) (W : World) (base : Nat) (args : Array Value) (ds gs : List (DataW H)) (before : List MemPlace)
    (hval : ∀ (j : Nat) t v, Try.f18.params[j]? = some t → args[j]? = some v → Value.okWide Try.prog W .any base t v)
    (hW : DataW.Whole enc Try.prog Try.f18.params.toList Rows.dependTablesSpec.vars false W args.toList ds gs before) :
    Calls Try.prog 18 args W fun e W' => ∃ v, e = .returned v ∧ Rows.dependTablesSpec.post enc Try.prog Try.f18 false true false false W args v W' := by
  refine law_contract (tb := 4) mixed laid (by kernel_rfl) rfl (fun t ht => ?_) rfl (fun ds hds => ?_) (fun W vs ds ps hone hrow hA => ?_) W base args ds gs before hval hW
  · rw [Try.params18] at ht
    simp at ht
    rcases ht with rfl | rfl | rfl <;> exact ⟨by kernel_rfl, of_decide_eq_true (by kernel_rfl)⟩
  · match ds, hds with
    | [_, _, _], _ => rfl
  · rw [Try.params18] at hA hone hrow
    obtain ⟨v0, s0, d0, t0, p0, q0, rfl, rfl, rfl, h0, r0⟩ := trodAll_cons hA
    obtain ⟨v1, s1, d1, t1, p1, q1, rfl, rfl, rfl, h1, r1⟩ := trodAll_cons r0
    obtain ⟨v2, s2, d2, t2, p2, q2, rfl, rfl, rfl, h2, r2⟩ := trodAll_cons r1
    obtain ⟨rfl, rfl, rfl⟩ := trodAll_nil r2
    obtain ⟨n, k0, g0⟩ := readsInt.arg h0 rfl (hone 0 _ _ rfl rfl (by kernel_rfl))
    obtain ⟨rows, k1, g1⟩ := readsRows.arg h1 rfl (hone 1 _ _ rfl rfl (by kernel_rfl))
    obtain ⟨d, k2, g2⟩ := readsDep.argS h2 (fun _ => rfl) (hrow 2 _ _ rfl rfl (by kernel_rfl))
    exact ⟨_, .cons g0 (.cons g1 (.cons g2 .nil)), run_lw1_DependTables bigFuel n rows d true (dependTables_true (lenOk_max k1.1))⟩
set_option maxRecDepth 100000 in
theorem dependTables_lifted (os : Os) (started : os.Started) (H : Type) (enc : TypeId × Value → H) :
    ReturnsInHanded {} Try.checked os 18 .any (Rows.dependTablesSpec.pre6 enc Try.prog Try.f18 Rows.dependTablesRow.domain false) (Rows.dependTablesSpec.post enc Try.prog Try.f18 false true false false) := by
  refine returnsInHanded_of_change (C := Try.checked) own started (by kernel_rfl) Try.func18
    (ChangeSpec.witness6 (enc := enc) (C := Try.checked) false ⟨#[], #[.int .i64 0, .slice none 0 0, .agg #[.int .i64 0, .int .i64 0]], []⟩ 8 (by kernel_rfl) (by kernel_rfl) (by kernel_rfl) (by kernel_rfl)) ?_
  intro W base args ds gs before hval hW _ _
  exact dependTables_contract H enc W base args ds gs before hval hW
end Go.AM
namespace Go.Proofs.Ytombfedoinhafaa
open Go.AM Go.ChangeShapes Go.WideShapes Go.ChangeAt Go.RowKit
theorem dependTables_proved : Rows.DependTablesSaid :=
  OpenClaim.holds_of_wide 18 Try.f18 rfl rfl rfl rfl rfl rfl rfl ⟨rfl, rfl, rfl, rfl, rfl⟩ rfl rfl rfl rfl rfl (by kernel_rfl) Try.func18 (by kernel_rfl)
    (of_decide_eq_true (by kernel_rfl)) (by unfold Func.isWrapper; first | (rw [if_pos (by decide +kernel)]; kernel_rfl) | (rw [if_neg (by decide +kernel)]; exact ⟨rfl, rfl⟩))
    (fun os started H enc _ => dependTables_lifted os started H enc)
#print axioms dependTables_proved
end Go.Proofs.Ytombfedoinhafaa
