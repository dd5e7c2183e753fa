/- s -/
import Derived.Test.YtmfdgonjnckdhaaDoorAWp
import GoSem.Claim
namespace Go.AM
def V (a : Int) : BitVec 64 := BitVec.ofInt 64 a
def wf64 (a : Int) : Prop := -9223372036854775808 ≤ a ∧ a < 9223372036854775808
theorem wrap_eq (a : Int) : IntKind.wrap .i64 a = a.bmod (2 ^ 64) := by
 simp [IntKind.wrap, IntKind.signed, IntKind.bits, Int.bmod]
 omega
theorem wf_wrap64 (a : Int) : wf64 (IntKind.wrap .i64 a) := by
 rw [wrap_eq]; unfold wf64
 have h1 := Int.le_bmod (x := a) (m := 2 ^ 64) (by decide)
 have h2 := Int.bmod_lt (x := a) (m := 2 ^ 64) (by decide)
 omega
theorem V_wrap (a : Int) : V (IntKind.wrap .i64 a) = V a := by
 rw [wrap_eq]; unfold V
 apply BitVec.eq_of_toInt_eq
 simp [BitVec.toInt_ofInt]
theorem V_toInt {a : Int} (h : wf64 a) : (V a).toInt = a := by
 unfold V; rw [BitVec.toInt_ofInt]
 unfold wf64 at h
 rw [Int.bmod_eq_of_le] <;> omega
theorem V_inj {a b : Int} (ha : wf64 a) (hb : wf64 b) (h : V a = V b) : a = b := by
 rw [← V_toInt ha, ← V_toInt hb, h]
theorem V_toNat (x : BitVec 64) : V (x.toNat : Int) = x := by
 unfold V; simp
theorem V_or (a b : Int) : V (iOr .i64 a b) = V a ||| V b := by
 unfold iOr; rw [V_wrap]; exact V_toNat _
theorem V_and (a b : Int) : V (iAnd .i64 a b) = V a &&& V b := by
 unfold iAnd; rw [V_wrap]; exact V_toNat _
theorem V_xor (a b : Int) : V (iXor .i64 a b) = V a ^^^ V b := by
 unfold iXor; rw [V_wrap]; exact V_toNat _
theorem V_andNot (a b : Int) : V (iAndNot .i64 a b) = V a &&& ~~~ V b := by
 unfold iAndNot; rw [V_wrap]; exact V_toNat _
theorem wf_or (a b : Int) : wf64 (iOr .i64 a b) := wf_wrap64 _
theorem wf_and (a b : Int) : wf64 (iAnd .i64 a b) := wf_wrap64 _
theorem wf_xor (a b : Int) : wf64 (iXor .i64 a b) := wf_wrap64 _
theorem wf_andNot (a b : Int) : wf64 (iAndNot .i64 a b) := wf_wrap64 _
theorem wf_of_lit {a : Int} (h : (Lit.int .i64 a).wf = true) : wf64 a := by
 simp [Lit.wf, IntKind.min, IntKind.max, IntKind.signed, IntKind.bits] at h
 unfold wf64; omega
def Bits (a b : Int) : Prop := ∀ i : Nat, (V a).getLsbD i = true → (V b).getLsbD i = true
theorem Bits.refl (a : Int) : Bits a a := fun _ h => h
theorem Bits.trans {a b c : Int} (h : Bits a b) (k : Bits b c) : Bits a c := fun i x => k i (h i x)
theorem andNot_zero {a b : Int} : (iAndNot .i64 a b == 0) = true ↔ Bits a b := by
 rw [beq_iff_eq]
 constructor
 ·intro h i hi
  have : V (iAndNot .i64 a b) = 0 := by rw [h]; rfl
  rw [V_andNot] at this
  have h2 := congrArg (fun x => BitVec.getLsbD x i) this
  have hlt : i < 64 := BitVec.lt_of_getLsbD hi
  simp [hi, hlt] at h2
  exact h2
 ·intro h
  apply V_inj (wf_andNot _ _) (by unfold wf64; omega)
  rw [V_andNot]
  apply BitVec.eq_of_getLsbD_eq
  intro i hi
  have := h i
  simp [V, hi] at *
  exact this
theorem andNot_ne {a b : Int} : (iAndNot .i64 a b != 0) = true ↔ ¬ Bits a b := by
 rw [← andNot_zero]
 simp [bne]
theorem sub_or_left (a b : Int) : Bits a (iOr .i64 a b) := fun i h => by rw [V_or]; simp [h]
theorem sub_or_right (a b : Int) : Bits b (iOr .i64 a b) := fun i h => by rw [V_or]; simp [h]
theorem or_sub {a b c : Int} (h : Bits a c) (k : Bits b c) : Bits (iOr .i64 a b) c := fun i x => by
 rw [V_or] at x
 simp only [BitVec.getLsbD_or, Bool.or_eq_true] at x
 exact x.elim (h i) (k i)
theorem Bits.antisymm {a b : Int} (ha : wf64 a) (hb : wf64 b) (h : Bits a b) (k : Bits b a) : a = b := by
 apply V_inj ha hb
 apply BitVec.eq_of_getLsbD_eq
 intro i _
 have := h i; have := k i
 cases h1 : (V a).getLsbD i <;> cases h2 : (V b).getLsbD i <;> simp_all
theorem toNat_lt_of_sub {a b : Int} (ha : wf64 a) (hb : wf64 b) (h : Bits a b) (hne : a ≠ b) : (V a).toNat < (V b).toNat := by
 have e : V a ||| V b = V b := by
  apply BitVec.eq_of_getLsbD_eq
  intro i _
  have := h i
  cases h1 : (V a).getLsbD i <;> simp_all
 have h1 : (V a).toNat ≤ (V b).toNat := by
  rw [← e, BitVec.toNat_or]; exact Nat.left_le_or
 have h2 : (V a).toNat ≠ (V b).toNat := fun h => hne (V_inj ha hb (BitVec.eq_of_toNat_eq h))
 omega
theorem sub_full {a : Int} {n : Nat} (hn : n ≤ 62) (ha : wf64 a) : Bits a ((2 ^ n - 1 : Nat) : Int) ↔ 0 ≤ a ∧ a < ((2 ^ n : Nat) : Int) := by
 have hp : 2 ^ n ≤ 2 ^ 62 := Nat.pow_le_pow_right (by decide) hn
 have hp0 : 0 < 2 ^ n := Nat.two_pow_pos n
 have hV : V ((2 ^ n - 1 : Nat) : Int) = BitVec.ofNat 64 (2 ^ n - 1) := by
  unfold V; exact BitVec.ofInt_natCast _ _
 have hVn : (V ((2 ^ n - 1 : Nat) : Int)).toNat = 2 ^ n - 1 := by
  rw [hV, BitVec.toNat_ofNat]; apply Nat.mod_eq_of_lt; omega
 constructor
 ·intro h
  have h1 : (V a).toNat ≤ 2 ^ n - 1 := by
   have e : V a &&& V ((2 ^ n - 1 : Nat) : Int) = V a := by
    apply BitVec.eq_of_getLsbD_eq
    intro i _
    have := h i
    cases h1 : (V a).getLsbD i <;> simp_all
   rw [← e, BitVec.toNat_and, hVn]; exact Nat.and_le_right
  have h2 := V_toInt ha
  rw [BitVec.toInt_eq_toNat_cond] at h2
  split at h2 <;> omega
 ·rintro ⟨h0, h1⟩ i hi
  obtain ⟨m, rfl⟩ := Int.eq_ofNat_of_zero_le h0
  have hm : m < 2 ^ n := by exact_mod_cast h1
  have hVm : V (m : Int) = BitVec.ofNat 64 m := by unfold V; exact BitVec.ofInt_natCast _ _
  rw [hVm] at hi
  rw [hV]
  have hi64 : i < 64 := BitVec.lt_of_getLsbD hi
  rw [BitVec.getLsbD_ofNat] at hi ⊢
  simp only [hi64, decide_true, Bool.true_and] at hi ⊢
  rw [Nat.testBit_two_pow_sub_one]
  by_cases hin : i < n
  ·simpa using hin
  ·have : m < 2 ^ i := Nat.lt_of_lt_of_le hm (Nat.pow_le_pow_right (by decide) (by omega))
   rw [Nat.testBit_lt_two_pow this] at hi
   cases hi
theorem sub_iff {a b : Int} : iAndNot .i64 a b = 0 ↔ Bits a b := by rw [← andNot_zero, beq_iff_eq]
end Go.AM
