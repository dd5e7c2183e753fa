/- s -/
import Derived.Test.YtdghpfejmlpjhaaRQT
import Derived.Test.YtdghpfejmlpjhaaRL29
set_option linter.unusedVariables false
namespace Go.AM
open Go.Proofs Go.Proofs.Ytdghpfejmlpjhaa Go.ChangeShapes Go.WideShapes Go.ChangeAt Go.RowKit
set_option maxRecDepth 100000 in
theorem rulesNeeded_contract (H:Type) (enc:TypeId×Value→H) (W:World) (base:Nat) (args:Array Value) (ds gs:List (DataW H)) (before:List MemPlace)
  (hval:∀ (j:Nat) t v,Try.f12.params[j]? = some t→args[j]? = some v→Value.okWide Try.prog W .any base t v)
  (hW:DataW.Whole enc Try.prog Try.f12.params.toList Rows.rulesNeededSpec.vars false W args.toList ds gs before) :
  Calls Try.prog 12 args W fun e W'=>∃ v,e=.returned v∧Rows.rulesNeededSpec.post enc Try.prog Try.f12 false true false false W args v W':=by
 refine qbe (tb:=4) mixed laid (by kernel_rfl) rfl (fun t ht=>?_) rfl (fun ds hds=>?_) (fun W vs ds ps hone hrow hA=>?_) W (fun g hg=>by cases hg) base args ds gs before hval hW
 ·rw[Try.params12]at ht
  simp at ht
  rcases ht with rfl | rfl | rfl <;> exact⟨by kernel_rfl,of_decide_eq_true (by kernel_rfl)⟩
 ·match ds,hds with
  | [_,_,_],_=>rfl
 ·rw[Try.params12]at hA hone hrow;obtain⟨v0,s0,d0,t0,p0,q0,rfl,rfl,rfl,h0,r0⟩:=trodAll_cons hA;obtain⟨v1,s1,d1,t1,p1,q1,rfl,rfl,rfl,h1,r1⟩:=trodAll_cons r0;obtain⟨v2,s2,d2,t2,p2,q2,rfl,rfl,rfl,h2,r2⟩:=trodAll_cons r1;obtain⟨rfl,rfl,rfl⟩:=trodAll_nil r2;obtain⟨l,k0,g0⟩:=qda.arg h0 rfl (hone 0 _ _ rfl rfl (by kernel_rfl));obtain⟨facts,k1,g1⟩:=qdb.arg h1 rfl (hone 1 _ _ rfl rfl (by kernel_rfl));obtain⟨a,k2,g2⟩:=UD.arg h2 rfl (hone 2 _ _ rfl rfl (by kernel_rfl));exact⟨_,.cons g0 (.cons g1 (.cons g2 .nil)),VM bigFuel l facts a true (Nk big400 (qdk k0) (qdl k1))⟩
set_option maxRecDepth 100000 in
theorem rulesNeeded_lifted (os:Os) (started:os.Started) (H:Type) (enc:TypeId×Value→H) :
  ReturnsInHanded {} Try.checked os 12 .any (Rows.rulesNeededSpec.pre6 enc Try.prog Try.f12 Rows.rulesNeededRow.domain false) (Rows.rulesNeededSpec.post enc Try.prog Try.f12 false true false false):=by
 refine returnsInHanded_of_change (C:=Try.checked) own started (by kernel_rfl) Try.func12
  (ChangeSpec.witness6 (enc:=enc) (C:=Try.checked) false ⟨#[],#[.slice none 0 0,.slice none 0 0,.int .i64 0],[]⟩ 8 (by kernel_rfl) (by kernel_rfl) (by kernel_rfl) (by kernel_rfl)) ?_
 intro W base args ds gs before hval hW _ _;exact rulesNeeded_contract H enc W base args ds gs before hval hW
end Go.AM
namespace Go.Proofs.Ytdghpfejmlpjhaa
open Go.AM Go.ChangeShapes Go.WideShapes Go.ChangeAt Go.RowKit
theorem rulesNeeded_proved:Rows.RulesNeededSaid :=
 OpenClaim.holds_of_wide 12 Try.f12 rfl rfl rfl rfl rfl rfl rfl ⟨rfl,rfl,rfl,rfl,rfl⟩ rfl rfl rfl rfl rfl (by kernel_rfl) Try.func12 (by kernel_rfl)
  (of_decide_eq_true (by kernel_rfl)) (by unfold Func.isWrapper;first | (rw[if_pos (by decide +kernel)];kernel_rfl) | (rw[if_neg (by decide +kernel)];exact⟨rfl,rfl⟩))
  (fun os started H enc _=>rulesNeeded_lifted os started H enc)
#print axioms rulesNeeded_proved
end Go.Proofs.Ytdghpfejmlpjhaa
