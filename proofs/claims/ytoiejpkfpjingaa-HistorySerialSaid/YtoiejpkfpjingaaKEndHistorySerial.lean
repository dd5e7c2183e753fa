import Derived.Test.YtoiejpkfpjingaaHBase
set_option linter.all false
namespace Go.AM
open Go.Proofs Go.Proofs.Ytoiejpkfpjingaa Go.ChangeShapes Go.WideShapes Go.ChangeAt Go.RowKit
set_option maxRecDepth 100000 in
theorem historySerial_contract (H:Type) (enc:TypeId×Value→H) (W:World) (base:Nat) (args:Array Value) (ds gs:List (DataW H)) (before:List MemPlace)
  (hval:∀ (j:Nat) t v,Try.f13.params[j]? = some t→args[j]? = some v→Value.okWide Try.prog W .any base t v)
  (hW:DataW.Whole enc Try.prog Try.f13.params.toList Rows.historySerialSpec.vars false W args.toList ds gs before) :
  Calls Try.prog 13 args W fun e W'=>∃ v,e=.returned v∧Rows.historySerialSpec.post enc Try.prog Try.f13 false true false false W args v W':=by
 refine qcj (tb:=4) mixed laid (by kernel_rfl) rfl (fun t ht=>?_) rfl (fun ds hds=>?_) (fun W vs ds ps hone hrow hA=>?_) W (fun g hg=>by cases hg) base args ds gs before hval hW
 ·rw[Try.params13]at ht;simp at ht
  rcases ht with rfl | rfl <;> exact⟨by kernel_rfl,of_decide_eq_true (by kernel_rfl)⟩
 ·match ds,hds with
  | [_,_],_=>rfl
 ·rw[Try.params13]at hA hone hrow;obtain⟨v0,s0,d0,t0,p0,q0,rfl,rfl,rfl,h0,r0⟩:=trodAll_cons hA;obtain⟨v1,s1,d1,t1,p1,q1,rfl,rfl,rfl,h1,r1⟩:=trodAll_cons r0;obtain⟨rfl,rfl,rfl⟩:=trodAll_nil r1;obtain⟨h,k0,g0⟩:=qfE.arg h0 rfl (hone 0 _ _ rfl rfl (by kernel_rfl));obtain⟨p,k1,g1⟩:=qfD.arg h1 rfl (hone 1 _ _ rfl rfl (by kernel_rfl));exact⟨_,.cons g0 (.cons g1 .nil),VJ bigFuel h p true (US (qbj k0.1) (qbj k1.1))⟩
set_option maxRecDepth 100000 in
theorem historySerial_lifted (os:Os) (started:os.Started) (H:Type) (enc:TypeId×Value→H) :
  ReturnsInHanded {} Try.checked os 13 .any (Rows.historySerialSpec.pre6 enc Try.prog Try.f13 Rows.historySerialRow.domain false) (Rows.historySerialSpec.post enc Try.prog Try.f13 false true false false):=by
 refine returnsInHanded_of_change (C:=Try.checked) own started (by kernel_rfl) Try.func13
  (ChangeSpec.witness6 (enc:=enc) (C:=Try.checked) false ⟨#[],#[.slice none 0 0,.slice none 0 0],[]⟩ 8 (by kernel_rfl) (by kernel_rfl) (by kernel_rfl) (by kernel_rfl)) ?_
 intro W base args ds gs before hval hW _ _;exact historySerial_contract H enc W base args ds gs before hval hW
end Go.AM
namespace Go.Proofs.Ytoiejpkfpjingaa
open Go.AM Go.ChangeShapes Go.WideShapes Go.ChangeAt Go.RowKit
theorem historySerial_proved:Rows.HistorySerialSaid :=
 OpenClaim.holds_of_wide 13 Try.f13 rfl rfl rfl rfl rfl rfl rfl ⟨rfl,rfl,rfl,rfl,rfl⟩ rfl rfl rfl rfl rfl (by kernel_rfl) Try.func13 (by kernel_rfl)
  (of_decide_eq_true (by kernel_rfl)) (by unfold Func.isWrapper;first | (rw[if_pos (by decide +kernel)];kernel_rfl) | (rw[if_neg (by decide +kernel)];exact⟨rfl,rfl⟩))
  (fun os started H enc _=>historySerial_lifted os started H enc)
#print axioms historySerial_proved
end Go.Proofs.Ytoiejpkfpjingaa
