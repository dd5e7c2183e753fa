import Derived.Test.YtdghpfejmlpjhaaRL50
set_option linter.all false
namespace Go.AM
open Go.Proofs Go.Proofs.Ytdghpfejmlpjhaa Go.ChangeShapes Go.WideShapes Go.ChangeAt Go.RowKit
set_option maxRecDepth 100000 in
theorem rulesShown_contract (H:Type) (enc:TypeId×Value->H) (W:World) (base:Nat) (args:LO) (ds gs:List (DataW H)) (before:List MemPlace)
  (hval:∀ (j:Nat) t v,Try.f16.params[j]? = some t->args[j]? = some v->Value.okWide Try.prog W .any base t v)
  (hW:DataW.Whole enc Try.prog Try.f16.params.toList Rows.rulesShownSpec.vars false W args.toList ds gs before) :
  Calls Try.prog 16 args W fun e W'=>∃ v,e=.returned v/\Rows.rulesShownSpec.post enc Try.prog Try.f16 false true false false W args v W':=by
 refine qfy (tb:=4) mixed laid kR rfl (fun t ht=>?_) rfl (fun ds hds=>?_) (fun W vs ds ps hone hrow hA=>?_) W (fun g hg=>by cases hg) base args ds gs before hval hW
 .rw[Try.params16]at ht;simp at ht
  rcases ht with rfl | rfl | rfl <;> exact⟨by kernel_rfl,of_decide_eq_true kR⟩
 .match ds,hds with
  | [_,_,_],_=>rfl
 rw[Try.params16]at hA hone hrow;obtain⟨v0,s0,d0,t0,p0,q0,rfl,rfl,rfl,h0,r0⟩:=trodAll_cons hA;obtain⟨v1,s1,d1,t1,p1,q1,rfl,rfl,rfl,h1,r1⟩:=trodAll_cons r0;obtain⟨v2,s2,d2,t2,p2,q2,rfl,rfl,rfl,h2,r2⟩:=trodAll_cons r1;obtain⟨rfl,rfl,rfl⟩:=trodAll_nil r2;obtain⟨l,k0,g0⟩:=qhJ.arg h0 rfl (hone 0 _ _ rfl rfl kR);obtain⟨facts,k1,g1⟩:=qhL.arg h1 rfl (hone 1 _ _ rfl rfl kR);obtain⟨p,k2,g2⟩:=qhK.argS h2 qgZ (hrow 2 _ _ rfl rfl kR);exact⟨_,.cons g0 (.cons g1 (.cons g2 .nil)),DS bigFuel l facts p true (qcj big400 (qhW k0) (qhX k1) k2)⟩
set_option maxRecDepth 100000 in
theorem rulesShown_lifted (os:Os) (started:os.Started) (H:Type) (enc:TypeId×Value->H) :
  ReturnsInHanded {} Try.checked os 16 .any (Rows.rulesShownSpec.pre6 enc Try.prog Try.f16 Rows.rulesShownRow.domain false) (Rows.rulesShownSpec.post enc Try.prog Try.f16 false true false false):=by
 refine returnsInHanded_of_change (C:=Try.checked) own started kR Try.func16
  (ChangeSpec.witness6 (enc:=enc) (C:=Try.checked) false ⟨#[],#[.slice none 0 0,.slice none 0 0,.agg #[.int .i64 0,.int .i64 0,.slice none 0 0,.slice none 0 0]],[]⟩ 8 kR kR kR kR) ?_
 intro W base args ds gs before hval hW _ _;exact rulesShown_contract H enc W base args ds gs before hval hW
end Go.AM
namespace Go.Proofs.Ytdghpfejmlpjhaa
open Go.AM Go.ChangeShapes Go.WideShapes Go.ChangeAt Go.RowKit
theorem rulesShown_proved:Rows.RulesShownSaid :=
 OpenClaim.holds_of_wide 16 Try.f16 rfl rfl rfl rfl rfl rfl rfl ⟨rfl,rfl,rfl,rfl,rfl⟩ rfl rfl rfl rfl rfl kR Try.func16 kR
  (of_decide_eq_true kR) (by unfold Func.isWrapper;first | (rw[if_pos (by decide +kernel)];kernel_rfl) | (rw[if_neg (by decide +kernel)];exact⟨rfl,rfl⟩))
  (fun os started H enc _=>rulesShown_lifted os started H enc)
#print axioms rulesShown_proved
end Go.Proofs.Ytdghpfejmlpjhaa
