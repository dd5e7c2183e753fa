/- s -/
import Derived.Test.YtdghpfejmlpjhaaRXT
import Derived.Test.YtdghpfejmlpjhaaRL26
set_option linter.unusedVariables false
namespace Go.AM
open Go.Proofs Go.Proofs.Ytdghpfejmlpjhaa Go.ChangeShapes Go.WideShapes Go.ChangeAt Go.RowKit
set_option maxRecDepth 100000 in
theorem rulesEnough_contract (H:Type) (enc:TypeId×Value→H) (W:World) (base:Nat) (args:Array Value) (ds gs:List (DataW H)) (before:List MemPlace)
  (hval:∀ (j:Nat) t v,Try.f10.params[j]? = some t→args[j]? = some v→Value.okWide Try.prog W .any base t v)
  (hW:DataW.Whole enc Try.prog Try.f10.params.toList Rows.rulesEnoughSpec.vars false W args.toList ds gs before) :
  Calls Try.prog 10 args W fun e W'=>∃ v,e=.returned v∧Rows.rulesEnoughSpec.post enc Try.prog Try.f10 false true false false W args v W':=by
 refine qcF (tb:=4) mixed laid (by kernel_rfl) rfl (fun t ht=>?_) rfl (fun ds hds=>?_) (fun W vs ds ps hone hrow hA=>?_) W (fun g hg=>by cases hg) base args ds gs before hval hW
 ·rw[Try.params10]at ht
  simp at ht
  rcases ht with rfl | rfl | rfl | rfl <;> exact⟨by kernel_rfl,of_decide_eq_true (by kernel_rfl)⟩
 ·match ds,hds with
  | [_,_,_,_],_=>rfl
 ·rw[Try.params10]at hA hone hrow;obtain⟨v0,s0,d0,t0,p0,q0,rfl,rfl,rfl,h0,r0⟩:=trodAll_cons hA;obtain⟨v1,s1,d1,t1,p1,q1,rfl,rfl,rfl,h1,r1⟩:=trodAll_cons r0;obtain⟨v2,s2,d2,t2,p2,q2,rfl,rfl,rfl,h2,r2⟩:=trodAll_cons r1;obtain⟨v3,s3,d3,t3,p3,q3,rfl,rfl,rfl,h3,r3⟩:=trodAll_cons r2;obtain⟨rfl,rfl,rfl⟩:=trodAll_nil r3;obtain⟨l,k0,g0⟩:=qeE.arg h0 rfl (hone 0 _ _ rfl rfl (by kernel_rfl));obtain⟨facts,k1,g1⟩:=qeF.arg h1 rfl (hone 1 _ _ rfl rfl (by kernel_rfl));obtain⟨f,k2,g2⟩:=qbn.argS h2 (fun _=>rfl) (hrow 2 _ _ rfl rfl (by kernel_rfl));obtain⟨s,k3,g3⟩:=NG.arg h3 rfl (hone 3 _ _ rfl rfl (by kernel_rfl));exact⟨_,.cons g0 (.cons g1 (.cons g2 (.cons g3 .nil))),UO bigFuel l facts f s true (Hw big400 (qeM k0) (qeN k1) (qgo k2) k3)⟩
set_option maxRecDepth 100000 in
theorem rulesEnough_lifted (os:Os) (started:os.Started) (H:Type) (enc:TypeId×Value→H) :
  ReturnsInHanded {} Try.checked os 10 .any (Rows.rulesEnoughSpec.pre6 enc Try.prog Try.f10 Rows.rulesEnoughRow.domain false) (Rows.rulesEnoughSpec.post enc Try.prog Try.f10 false true false false):=by
 refine returnsInHanded_of_change (C:=Try.checked) own started (by kernel_rfl) Try.func10
  (ChangeSpec.witness6 (enc:=enc) (C:=Try.checked) false ⟨#[],#[.slice none 0 0,.slice none 0 0,.agg #[.int .i64 0,.slice none 0 0],.int .i64 0],[]⟩ 8 (by kernel_rfl) (by kernel_rfl) (by kernel_rfl) (by kernel_rfl)) ?_
 intro W base args ds gs before hval hW _ _;exact rulesEnough_contract H enc W base args ds gs before hval hW
end Go.AM
namespace Go.Proofs.Ytdghpfejmlpjhaa
open Go.AM Go.ChangeShapes Go.WideShapes Go.ChangeAt Go.RowKit
theorem rulesEnough_proved:Rows.RulesEnoughSaid :=
 OpenClaim.holds_of_wide 10 Try.f10 rfl rfl rfl rfl rfl rfl rfl ⟨rfl,rfl,rfl,rfl,rfl⟩ rfl rfl rfl rfl rfl (by kernel_rfl) Try.func10 (by kernel_rfl)
  (of_decide_eq_true (by kernel_rfl)) (by unfold Func.isWrapper;first | (rw[if_pos (by decide +kernel)];kernel_rfl) | (rw[if_neg (by decide +kernel)];exact⟨rfl,rfl⟩))
  (fun os started H enc _=>rulesEnough_lifted os started H enc)
#print axioms rulesEnough_proved
end Go.Proofs.Ytdghpfejmlpjhaa
