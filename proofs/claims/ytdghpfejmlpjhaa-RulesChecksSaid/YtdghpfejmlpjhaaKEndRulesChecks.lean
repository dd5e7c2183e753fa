import Derived.Test.YtdghpfejmlpjhaaRYT
import Derived.Test.YtdghpfejmlpjhaaRL35
set_option linter.all false
namespace Go.AM
open Go.Proofs Go.Proofs.Ytdghpfejmlpjhaa Go.ChangeShapes Go.WideShapes Go.ChangeAt Go.RowKit
set_option maxRecDepth 100000 in
theorem rulesChecks_contract (H:Type) (enc:TypeId×Value→H) (W:World) (base:Nat) (args:Array Value) (ds gs:List (DataW H)) (before:List MemPlace)
  (hval:∀ (j:Nat) t v,Try.f15.params[j]? = some t→args[j]? = some v→Value.okWide Try.prog W .any base t v)
  (hW:DataW.Whole enc Try.prog Try.f15.params.toList Rows.rulesChecksSpec.vars false W args.toList ds gs before) :
  Calls Try.prog 15 args W fun e W'=>∃ v,e=.returned v∧Rows.rulesChecksSpec.post enc Try.prog Try.f15 false true false false W args v W':=by
 refine qef (tb:=4) mixed laid (by kernel_rfl) rfl (fun t ht=>?_) rfl (fun ds hds=>?_) (fun W vs ds ps hone hrow hA=>?_) W (fun g hg=>by cases hg) base args ds gs before hval hW
 ·rw[Try.params15]at ht;simp at ht
  rcases ht with rfl | rfl | rfl<;>exact⟨by kernel_rfl,of_decide_eq_true (by kernel_rfl)⟩
 ·match ds,hds with
  | [_,_,_],_=>rfl
 ·rw[Try.params15]at hA hone hrow;obtain⟨v0,s0,d0,t0,p0,q0,rfl,rfl,rfl,h0,r0⟩:=trodAll_cons hA;obtain⟨v1,s1,d1,t1,p1,q1,rfl,rfl,rfl,h1,r1⟩:=trodAll_cons r0;obtain⟨v2,s2,d2,t2,p2,q2,rfl,rfl,rfl,h2,r2⟩:=trodAll_cons r1;obtain⟨rfl,rfl,rfl⟩:=trodAll_nil r2;obtain⟨l,k0,g0⟩:=qgj.arg h0 rfl (hone 0 _ _ rfl rfl (by kernel_rfl));obtain⟨facts,k1,g1⟩:=qgl.arg h1 rfl (hone 1 _ _ rfl rfl (by kernel_rfl));obtain⟨p,k2,g2⟩:=qgk.argS h2 qfz (hrow 2 _ _ rfl rfl (by kernel_rfl));exact⟨_,.cons g0 (.cons g1 (.cons g2 .nil)),Hg bigFuel l facts p true (qab big400 (qgs k0) (qgt k1) k2)⟩
set_option maxRecDepth 100000 in
theorem rulesChecks_lifted (os:Os) (started:os.Started) (H:Type) (enc:TypeId×Value→H) :
  ReturnsInHanded {} Try.checked os 15 .any (Rows.rulesChecksSpec.pre6 enc Try.prog Try.f15 Rows.rulesChecksRow.domain false) (Rows.rulesChecksSpec.post enc Try.prog Try.f15 false true false false):=by
 refine returnsInHanded_of_change (C:=Try.checked) own started (by kernel_rfl) Try.func15
  (ChangeSpec.witness6 (enc:=enc) (C:=Try.checked) false ⟨#[],#[.slice none 0 0,.slice none 0 0,.agg #[.int .i64 0,.int .i64 0,.slice none 0 0,.slice none 0 0]],[]⟩ 8 (by kernel_rfl) (by kernel_rfl) (by kernel_rfl) (by kernel_rfl)) ?_
 intro W base args ds gs before hval hW _ _;exact rulesChecks_contract H enc W base args ds gs before hval hW
end Go.AM
namespace Go.Proofs.Ytdghpfejmlpjhaa
open Go.AM Go.ChangeShapes Go.WideShapes Go.ChangeAt Go.RowKit
theorem rulesChecks_proved:Rows.RulesChecksSaid :=
 OpenClaim.holds_of_wide 15 Try.f15 rfl rfl rfl rfl rfl rfl rfl ⟨rfl,rfl,rfl,rfl,rfl⟩ rfl rfl rfl rfl rfl (by kernel_rfl) Try.func15 (by kernel_rfl)
  (of_decide_eq_true (by kernel_rfl)) (by unfold Func.isWrapper;first | (rw[if_pos (by decide +kernel)];kernel_rfl) | (rw[if_neg (by decide +kernel)];exact⟨rfl,rfl⟩))
  (fun os started H enc _=>rulesChecks_lifted os started H enc)
#print axioms rulesChecks_proved
end Go.Proofs.Ytdghpfejmlpjhaa
