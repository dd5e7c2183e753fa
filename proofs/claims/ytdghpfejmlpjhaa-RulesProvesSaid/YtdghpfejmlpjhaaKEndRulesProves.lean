import Derived.Test.YtdghpfejmlpjhaaRL49
set_option linter.all false
namespace Go.AM
open Go.Proofs Go.Proofs.Ytdghpfejmlpjhaa Go.ChangeShapes Go.WideShapes Go.ChangeAt Go.RowKit
set_option maxRecDepth 100000 in
theorem rulesProves_contract (H:Type) (enc:TypeId×Value->H) (W:World) (base:Nat) (args:LO) (ds gs:List (DataW H)) (before:List MemPlace)
  (hval:∀ (j:Nat) t v,Try.f13.params[j]? = some t->args[j]? = some v->Value.okWide Try.prog W .any base t v)
  (hW:DataW.Whole enc Try.prog Try.f13.params.toList Rows.rulesProvesSpec.vars false W args.toList ds gs before) :
  Calls Try.prog 13 args W fun e W'=>∃ v,e=.returned v/\Rows.rulesProvesSpec.post enc Try.prog Try.f13 false true false false W args v W':=by
 refine qfc (tb:=4) mixed laid kR rfl (fun t ht=>?_) rfl (fun ds hds=>?_) (fun W vs ds ps hone hrow hA=>?_) W (fun g hg=>by cases hg) base args ds gs before hval hW
 .rw[Try.params13]at ht;simp at ht
  rcases ht with rfl | rfl | rfl <;> exact⟨by kernel_rfl,of_decide_eq_true kR⟩
 .match ds,hds with
  | [_,_,_],_=>rfl
 rw[Try.params13]at hA hone hrow;obtain⟨v0,s0,d0,t0,p0,q0,rfl,rfl,rfl,h0,r0⟩:=trodAll_cons hA;obtain⟨v1,s1,d1,t1,p1,q1,rfl,rfl,rfl,h1,r1⟩:=trodAll_cons r0;obtain⟨v2,s2,d2,t2,p2,q2,rfl,rfl,rfl,h2,r2⟩:=trodAll_cons r1;obtain⟨rfl,rfl,rfl⟩:=trodAll_nil r2;obtain⟨l,k0,g0⟩:=qhk.arg h0 rfl (hone 0 _ _ rfl rfl kR);obtain⟨facts,k1,g1⟩:=qhl.arg h1 rfl (hone 1 _ _ rfl rfl kR);obtain⟨f,k2,g2⟩:=qdS.argS h2 (fun _=>rfl) (hrow 2 _ _ rfl rfl kR);exact⟨_,.cons g0 (.cons g1 (.cons g2 .nil)),Dh bigFuel l facts f true (qaS big400 (qhv k0) (qhw k1) (qjl k2))⟩
set_option maxRecDepth 100000 in
theorem rulesProves_lifted (os:Os) (started:os.Started) (H:Type) (enc:TypeId×Value->H) :
  ReturnsInHanded {} Try.checked os 13 .any (Rows.rulesProvesSpec.pre6 enc Try.prog Try.f13 Rows.rulesProvesRow.domain false) (Rows.rulesProvesSpec.post enc Try.prog Try.f13 false true false false):=by
 refine returnsInHanded_of_change (C:=Try.checked) own started kR Try.func13
  (ChangeSpec.witness6 (enc:=enc) (C:=Try.checked) false ⟨#[],#[.slice none 0 0,.slice none 0 0,.agg #[.int .i64 0,.slice none 0 0]],[]⟩ 8 kR kR kR kR) ?_
 intro W base args ds gs before hval hW _ _;exact rulesProves_contract H enc W base args ds gs before hval hW
end Go.AM
namespace Go.Proofs.Ytdghpfejmlpjhaa
open Go.AM Go.ChangeShapes Go.WideShapes Go.ChangeAt Go.RowKit
theorem rulesProves_proved:Rows.RulesProvesSaid :=
 OpenClaim.holds_of_wide 13 Try.f13 rfl rfl rfl rfl rfl rfl rfl ⟨rfl,rfl,rfl,rfl,rfl⟩ rfl rfl rfl rfl rfl kR Try.func13 kR
  (of_decide_eq_true kR) (by unfold Func.isWrapper;first | (rw[if_pos (by decide +kernel)];kernel_rfl) | (rw[if_neg (by decide +kernel)];exact⟨rfl,rfl⟩))
  (fun os started H enc _=>rulesProves_lifted os started H enc)
#print axioms rulesProves_proved
end Go.Proofs.Ytdghpfejmlpjhaa
