/- s -/
import Derived.Test.YtmfdgonjnckdhaaDoorDBits
set_option maxRecDepth 100000
set_option linter.unusedVariables false
set_option linter.unusedSimpArgs false
namespace Go.AM
open Go.RowKit Go.Proofs
theorem mixedW : Tryd.prog.follows .mixedOrders = true := by kernel_rfl
def wavP (fuel : Nat) (a1 : ByteArray) : Option (ByteArray × Int) := (ix_column a1).bind fun c => bif !c then some (ByteArray.mk #[], 2) else (ix_tree fuel a1).bind fun o => match o with
 | none => none
 | some T => (bitsW T).bind fun out => chk (decide (out.length ≤ 1000000000)) (some (ByteArray.mk out.toArray, 0))
theorem below_less {A B : Nat} {w w' : World} (h : Below B w w') (hA : A ≤ B) : Below A w w' := ⟨h.os, h.tape, h.output, h.size, fun k hk => h.block k (Nat.lt_of_lt_of_le hk hA)⟩
set_option maxHeartbeats 4000000 in
theorem wavelet14 {fuel : Nat} {a1 : ByteArray} {r : ByteArray × Int} (h : wavP fuel a1 = some r) : CallOk Tryd.prog 14 [.str a1] (.tup [.str r.1, .int .i64 r.2]) := by
 intro M w vs hG hC hl hR
 obtain ⟨v0, rfl⟩ : ∃ v0, vs = [v0] := by
  match vs, hl with
  | [v0], _ => exact ⟨v0, rfl⟩
 have r0 := hR 0 _ v0 rfl rfl
 cases r0
 unfold wavP at h
 obtain ⟨c, hc, h⟩ := bind_some h
 have H1 : CallOk Tryd.prog 22 [.str a1] (.bool c) := run_sound mixedW (run_ix_column a1 c hc)
 have mixed := mixedW
 have t3 := Tryd.underlying3; have a3 := Tryd.isAgg3; have z3 := Tryd.sizeOf3; have v3 := Tryd.zeroValue3
 have t4 := Tryd.underlying4; have a4 := Tryd.isAgg4
 have t9 := Tryd.underlying9; have a9 := Tryd.isAgg9; have z9 := Tryd.sizeOf9; have v9 := Tryd.zeroValue9
 have t44 := Tryd.underlying44; have a44 := Tryd.isAgg44; have z44 := Tryd.sizeOf44; have v44 := Tryd.zeroValue44; have u44 := run_underlying Tryd.underlying44
 have t45 := Tryd.underlying45; have a45 := Tryd.isAgg45
 have t42 := Tryd.underlying42; have a42 := Tryd.isAgg42
 cases c with
 | false =>
  cases h
  show Calls Tryd.prog 14 #[.string a1] w _
  go_enter Tryd.func14, Tryd.ntmps14
  go_wp2_with (go_at_call 22; refine (H1 M _ [.string a1] hG hC rfl hR).mono ?_; rintro e w1 ⟨v, M1, rfl, hb1, hs1, hC1, ho1, hr1, _⟩; obtain rfl := hr1.bool_inv)
  go_ret2
  refine ⟨_, M1, rfl, hb1, hs1, hC1, ho1, R.tup (vs := [_, _]) rfl fun j c u hc hu => ?_, trivial⟩
  match j, hc, hu with
  | 0, hc, hu => cases hc; cases hu; exact .str _
  | 1, hc, hu => cases hc; cases hu; exact .int _ _
 | true =>
  simp only [Bool.not_true, cond_false] at h
  obtain ⟨o, ho, h⟩ := bind_some h
  cases o with
  | none => cases h
  | some T =>
   obtain ⟨out, hout, h⟩ := bind_some h
   obtain ⟨hlen, h⟩ := chk_some h
   have hlen := of_decide_eq_true hlen
   cases h
   have H2 : CallOk Tryd.prog 30 [.str a1] (ep_ixwavelet (some T)) := run_sound mixedW (run_ix_tree fuel a1 _ ho)
   show Calls Tryd.prog 14 #[.string a1] w _
   go_enter Tryd.func14, Tryd.ntmps14
   go_wp2_with (go_at_call 22; refine (H1 M _ [.string a1] hG hC rfl hR).mono ?_; rintro e w1 ⟨v, M1, rfl, hb1, hs1, hC1, ho1, hr1, _⟩; obtain rfl := hr1.bool_inv)
   have hR1 : ∀ (j : Nat) c v, [AV.str a1][j]? = some c → [Value.string a1][j]? = some v → R M1 c v := fun j c v hc hv => (hR j c v hc hv).mono hs1
   go_wp2_with (go_at_call 30; refine (H2 M1 _ [.string a1] (hG.mono hs1) (cons_alloc hC1 _) rfl hR1).mono ?_)
   rintro e w2 ⟨v, M2, rfl, hb2, hs2, hC2, ho2, hr2, _⟩
   obtain ⟨tb, tf, rfl, R2⟩ : ∃ tb tf, v = .pointer (some ⟨tb, tf, none⟩) ∧ R M2 (.ptr (e_ixwavelet T)) (.pointer (some ⟨tb, tf, none⟩)) := by
    have hr3 : R M2 (.optr false (e_ixwavelet T)) v := hr2
    cases hr3 with
    | opts h => exact ⟨_, _, rfl, h⟩
   have hsz2 : w1.heap.size + 1 ≤ w2.heap.size := by have := hb2.size; simpa using this
   have hMB : ∀ b' o u, M2 b' o = some u → b' < w2.heap.size ∧ b' ≠ w1.heap.size := by
    intro b' o u hu
    refine ⟨mc_lt (hC2 _ _ _ hu), fun e => ?_⟩
    subst e
    rw [ho2 _ o (by simp), cons_none hC1 (Nat.le_refl _) o] at hu
    cases hu
   have hBW : BW w1.heap.size w2.heap.size (Lib.byteCells []) w2 := by
    refine .inl ⟨.slice none 0 0, ?_, ⟨rfl, .inl ⟨rfl, rfl⟩⟩, by simp [Value.ownBlock]⟩
    rw [hb2.block _ (by simp)]
    exact heap_alloc_new w1 _
   go_wp2_with (first
    | (go_at_call 31; refine (Tryd.bits M2 w2.heap.size w1.heap.size (by omega) hMB (SizeOf.sizeOf T + 1) T out (Nat.lt_succ_self _) hout tb tf [] _ R2 hC2 hBW (by simpa using hlen) (Nat.le_refl _)).mono ?_; rintro e w3 ⟨rfl, h3, b3⟩; rw [List.nil_append] at h3)
    | (go_at_call 32; refine (Tryd.Builder_String_any w1.heap.size w1.heap.size _ _ (h3.builder (by omega)) (by have := b3.size; omega)).mono ?_; rintro e w4 ⟨rfl, b4⟩))
   go_ret2
   have hW : w.heap.size ≤ w1.heap.size := hb1.size
   have hal : (w1.alloc (.cells #[.pointer none, .slice none 0 0] 44)).heap.size = w1.heap.size + 1 := by simp
   have B1 : Below w.heap.size w1 w2 := ⟨hb2.os, hb2.tape, hb2.output, by omega, fun k hk => by
    have hk1 : k < w1.heap.size := by omega
    rw [hb2.block k (by rw [hal]; omega)]
    exact heap_alloc_old w1 _ hk1⟩
   have B2 : Below w.heap.size w2 w3 := ⟨b3.os, b3.tape, b3.output, b3.size, fun k hk => b3.block k ⟨by omega, by omega⟩⟩
   have B3 : Below w.heap.size w3 w4 := below_less b4 hW
   have BB := ((hb1.trans B1).trans B2).trans B3
   refine ⟨_, M, rfl, BB, Sub.refl M, fun b' o u hu => ?_, fun _ _ _ => rfl, R.tup (vs := [_, _]) rfl fun j c u hc hu => ?_, trivial⟩
   ·have h := hC _ _ _ hu
    rw [mc_block (BB.block b' (mc_lt h))]
    exact h
   ·match j, hc, hu with
    | 0, hc, hu => cases hc; cases hu; exact .str _
    | 1, hc, hu => cases hc; cases hu; exact .int _ _
end Go.AM
