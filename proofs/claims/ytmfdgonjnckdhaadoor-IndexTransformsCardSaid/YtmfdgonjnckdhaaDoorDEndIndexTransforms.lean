/- s -/
import Derived.Test.YtmfdgonjnckdhaaDoorDR1
import Derived.Test.YtmfdgonjnckdhaaDoorDIndexTransformsLaw
import Derived.Test.YtmfdgonjnckdhaaDoorDBase
import Derived.Test.YtmfdgonjnckdhaaDoorTie
import Derived.Test.YtmfdgonjnckdhaaDoorCards
set_option linter.unusedVariables false
namespace Go.AM
open Go.Proofs Go.Proofs.YtmfdgonjnckdhaaDoor Go.ChangeShapes Go.WideShapes Go.ChangeAt Go.RowKit
set_option maxRecDepth 100000 in
theorem indexTransforms_contract (H : Type) (enc : TypeId × Value → H) (W : World) (hgl : GlobW W) (base : Nat) (args : Array Value) (ds gs : List (DataW H)) (before : List MemPlace)
  (hval : ∀ (j : Nat) t v, Tryd.f3.params[j]? = some t → args[j]? = some v → Value.okWide Tryd.prog W .any base t v)
  (hW : DataW.Whole enc Tryd.prog Tryd.f3.params.toList Rows.indexTransformsSpec.vars false W args.toList ds gs before) :
  Calls Tryd.prog 3 args W fun e W' => ∃ v, e = .returned v ∧ Rows.indexTransformsSpec.post enc Tryd.prog Tryd.f3 false true false false W args v W' := by
 refine law_contract (tb := 4) mixed laid (by kernel_rfl) rfl (fun t ht => ?_) rfl (fun ds hds => ?_) (fun W vs ds ps hone hrow hA => ?_) W hgl base args ds gs before hval hW
 ·rw [Tryd.params3] at ht
  simp at ht
  rcases ht with rfl | rfl <;> exact ⟨by kernel_rfl, of_decide_eq_true (by kernel_rfl)⟩
 ·match ds, hds with
  | [_, _], _ => rfl
 ·rw [Tryd.params3] at hA hone hrow
  obtain ⟨v0, s0, d0, t0, p0, q0, rfl, rfl, rfl, h0, r0⟩ := trodAll_cons hA
  obtain ⟨v1, s1, d1, t1, p1, q1, rfl, rfl, rfl, h1, r1⟩ := trodAll_cons r0
  obtain ⟨rfl, rfl, rfl⟩ := trodAll_nil r1
  obtain ⟨t, k0, g0⟩ := readsStr.arg h0 rfl (hone 0 _ _ rfl rfl (by kernel_rfl))
  obtain ⟨s, k1, g1⟩ := readsStr.arg h1 rfl (hone 1 _ _ rfl rfl (by kernel_rfl))
  exact ⟨_, .cons g0 (.cons g1 .nil), run_lw4_IndexTransforms bigFuel t s true (transforms_true t s)⟩
set_option maxRecDepth 100000 in
theorem indexTransforms_lifted (os : Os) (started : os.Started) (H : Type) (enc : TypeId × Value → H) :
  ReturnsInHanded {} Tryd.checked os 3 .any (fun w args => (Rows.indexTransformsSpec.pre enc Tryd.prog Tryd.f3 [] false w args ∧ laidMetH Tryd.prog laidRows w) ∧ sizedMet enc Tryd.prog Tryd.f3 (OpenSpec.ofChange Rows.indexTransformsSpec) false w args) (Rows.indexTransformsSpec.post enc Tryd.prog Tryd.f3 false true false false) := by
 refine handed_laid (C := Tryd.checked) (X := fun w _ => laidMetH Tryd.prog laidRows w) own started (by kernel_rfl) Tryd.func3
  (ChangeSpec.witness_shaped (enc := enc) (C := Tryd.checked) (os := os) (X := fun w _ => laidMetH Tryd.prog laidRows w) false (World.laidAll Tryd.prog os laidRows) #[.string ByteArray.empty, .string ByteArray.empty] 8 (World.laidAll_os _ _ _)
   (World.shaped_of_ZipB (by kernel_rfl) (by kernel_rfl)) (by kernel_rfl) (by kernel_rfl) (by kernel_rfl)
   (by rw [MakeChecks.laidMetH_plain _ _ _ (by kernel_rfl)]; exact laidMet_laidAll _ (by kernel_rfl) (by kernel_rfl))) ?_
 intro W base args ds gs before hval hW hsh
 exact indexTransforms_contract H enc W (globW_shaped hsh) base args ds gs before hval hW
end Go.AM
namespace Go.Proofs.YtmfdgonjnckdhaaDoor
open Go.AM Go.ChangeShapes Go.WideShapes Go.ChangeAt Go.RowKit
theorem indexTransforms_row : Rows.IndexTransformsSaid :=
 OpenClaim.holds_of_wide 3 Tryd.f3 rfl rfl rfl rfl rfl rfl rfl ⟨rfl, rfl, rfl, rfl, rfl⟩ rfl rfl rfl rfl rfl (by kernel_rfl) Tryd.func3 (by kernel_rfl)
  (of_decide_eq_true (by kernel_rfl)) (by unfold Func.isWrapper; first | (rw [if_pos (by decide +kernel)]; kernel_rfl) | (rw [if_neg (by decide +kernel)]; exact ⟨rfl, rfl⟩))
  (fun os started H enc _ => indexTransforms_lifted os started H enc)
theorem indexTransformsCard_proved : Rows.IndexTransformsCardSaid :=
 Claim7.holds_tied_plain_at .later [] [.data, .pinned] true (true, "57f5a138b75765002f2da81363b4473e3b184d17bdc659e08f302f5d454119cb") false indexTransforms_row (fun _ h => by cases h) (by kernel_rfl) (fun _ h => by cases h) indexTransforms_row_tie rfl ⟨rfl, rfl⟩ (by kernel_rfl) rfl
  (fun f fn hf hfn => by
   obtain rfl : f = 3 := Option.some.inj ((show Tryd.prog.funcNamed Rows.indexTransformsRow.func = some 3 by kernel_rfl).symm.trans hf) |>.symm
   obtain rfl : fn = Tryd.f3 := (Option.some.inj (Tryd.func3.symm.trans hfn)).symm
   exact ⟨by kernel_rfl, fun j t ht => by
    have hall : (Tryd.f3.params.toList.all fun u => !Tryd.prog.wantsStandIn u) = true := by kernel_rfl
    have hm : t ∈ Tryd.f3.params.toList := Array.mem_toList_iff.2 (Array.mem_of_getElem? ht)
    exact (show Tryd.prog.wantsStandIn t = false by simpa using List.all_eq_true.1 hall t hm)⟩)
  (by kernel_rfl)
#print axioms indexTransformsCard_proved
end Go.Proofs.YtmfdgonjnckdhaaDoor
