/- s -/
import Derived.Test.YtmfdgonjnckdhaaCB1
set_option maxRecDepth 100000
set_option linter.unusedVariables false
set_option linter.unusedSimpArgs false
namespace Go.AM
open Go.Proofs
def sl_Equal_int_j7 : Option Bool :=
 (some true)
def sl_Equal_int_l1 (a2 : (List Int)) (K7 : (Option Bool)) : List Int → Nat → Option Bool
 | [], k1 => K7
 | x1 :: r1, k1 => ((idx a2 (k1 : Int)).bind fun e12 => (bif (x1 != e12) then (some false) else (sl_Equal_int_l1 a2 K7 r1 (k1 + 1))))
def sl_Equal_int (a1 : (List Int)) (a2 : (List Int)) : Option Bool :=
 (bif ((a1.length : Int) != (a2.length : Int)) then (some false) else (chk (lenOk a1) (sl_Equal_int_l1 a2 (sl_Equal_int_j7) a1 0)))
theorem run_sl_Equal_int (a1 : (List Int)) (a2 : (List Int)) (r : Bool) (h : sl_Equal_int a1 a2 = some r) : Run Try.prog (.call 19 [l3 none a1, l3 none a2] (.bool r)) := by
 refine call_of_W Try.func19 rfl (by kernel_rfl) (env0 := [(0, l3 none a1), (1, l3 none a2)]) (by kernel_rfl) ?_
 unfold sl_Equal_int at h
 refine W.seq ?_
 refine W.regT [0, 1] [] [] [] (e2 := [(0, l3 none a1), (1, l3 none a2)]) (by kernel_rfl) (by kernel_rfl) (fun _ h => h) ?_
 refine W.seq ?_
 refine W.seq ?_
 refine W.region (by kernel_rfl) ?_
 refine WO.pureK 1 (some (I6 ((M6 a1).length : Int))) (v := I6 (a1.length : Int)) (by kernel_rfl) (by rw [List.length_map]) (e1 := [(0, l3 none a1), (1, l3 none a2), (6, l3 none a1), (7, I6 (a1.length : Int))]) (by kernel_rfl) ?_
 refine WO.pureK 1 (some (I6 ((M6 a2).length : Int))) (v := I6 (a2.length : Int)) (by kernel_rfl) (by rw [List.length_map]) (e1 := [(0, l3 none a1), (1, l3 none a2), (6, l3 none a1), (7, I6 (a1.length : Int)), (8, l3 none a2), (9, I6 (a2.length : Int))]) (by kernel_rfl) ?_
 refine WO.fin [0, 1, 10] [] [] [] (e2 := [(0, l3 none a1), (1, l3 none a2), (10, .bool ((a1.length : Int) != (a2.length : Int)))]) (by kernel_rfl) (fun _ h => h) ?_
 refine W.condB ((a1.length : Int) != (a2.length : Int)) (by kernel_rfl) (fun hb => ?_) (fun hb => ?_)
 ·replace h := cond_t hb h
  refine W.seq ?_
  refine W.regT [4] [] [] [] (e2 := [(4, .bool false)]) (by kernel_rfl) (by kernel_rfl) (fun _ h => h) ?_
  refine W.weak [4] [] [] [] (env' := [(4, .bool false)]) (by kernel_rfl) ?_
  have hr : aresults Try.prog Try.f19 [(4, .bool false)] = some (.bool false) := by kernel_rfl
  cases h
  exact W.ret hr
 replace h := cond_f hb h
 refine W.skip ?_
 refine W.weak [0, 1] [] [] [] (env' := [(0, l3 none a1), (1, l3 none a2)]) (by kernel_rfl) ?_
 refine W.seq ?_
 refine W.join (σ := Unit) (fun s => []) (fun s => (sl_Equal_int_j7) = some r) (fun s h => ?_) (fun hK7 => ?_)
 ·have h : (sl_Equal_int_j7) = some r := h
  unfold sl_Equal_int_j7 at h
  refine W.seq ?_
  refine W.regT [4] [] [] [] (e2 := [(4, .bool true)]) (by kernel_rfl) (by kernel_rfl) (fun _ h => h) ?_
  refine W.weak [4] [] [] [] (env' := [(4, .bool true)]) (by kernel_rfl) ?_
  have hr : aresults Try.prog Try.f19 [(4, .bool true)] = some (.bool true) := by kernel_rfl
  cases h
  exact W.ret hr
 refine W.seq ?_
 refine W.region (by kernel_rfl) ?_
 refine WO.pureK 1 (some (I6 ((M6 a1).length : Int))) (v := I6 (a1.length : Int)) (by kernel_rfl) (by rw [List.length_map]) (e1 := [(0, l3 none a1), (1, l3 none a2), (11, l3 none a1), (12, I6 (a1.length : Int))]) (by kernel_rfl) ?_
 refine WO.fin [0, 1, 12, 13] [] [] [] (e2 := [(0, l3 none a1), (1, l3 none a2), (12, I6 (a1.length : Int)), (13, .int .i64 0)]) (by kernel_rfl) (fun _ h => h) ?_
 refine W.block ?_
 obtain ⟨hl1, h⟩ := chk_some h
 refine W.weak [0, 1, 12, 13] [] [] [] (env' := [(0, l3 none a1), (1, l3 none a2), (12, I6 (a1.length : Int)), (13, I6 ((0 : Nat) : Int))]) (by kernel_rfl) ?_
 refine W.range (σ := Unit) a1 (fun k1 s => [(0, l3 none a1), (1, l3 none a2), (12, I6 (a1.length : Int)), (13, I6 (k1 : Int))]) (fun r0 k0 s => sl_Equal_int_l1 a2 (sl_Equal_int_j7) r0 k0 = some r) (fun s h => ?_) (fun x1 r1 k1 s hx1 hk1 h hN1 => ?_) () h
 ·have h : sl_Equal_int_l1 a2 (sl_Equal_int_j7) [] (a1).length = some r := h
  rw [sl_Equal_int_l1.eq_1] at h
  refine W.seq ?_
  refine W.region (by kernel_rfl) ?_
  refine WO.pureK 0 (some (.bool (decide (((a1).length : Int) < (a1.length : Int))))) (v := .bool false) (by kernel_rfl) (by rw [lt_false (l := a1)]) (e1 := [(0, l3 none a1), (1, l3 none a2), (12, I6 (a1.length : Int)), (13, I6 ((a1).length : Int)), (14, .bool false)]) (by kernel_rfl) ?_
  refine WO.fin ([0, 1, 12, 13, 14]) [] [] [] (e2 := [(0, l3 none a1), (1, l3 none a2), (12, I6 (a1.length : Int)), (13, I6 ((a1).length : Int)), (14, .bool false)]) (by kernel_rfl) (fun _ h => h) ?_
  refine W.seq ?_
  refine W.condB false (by kernel_rfl) (fun h => Bool.noConfusion h) (fun _ => ?_)
  refine W.exit ?_
  refine W.weak [] [] [] [] (env' := []) (by kernel_rfl) ?_
  exact hK7 () h
 ·have h : sl_Equal_int_l1 a2 (sl_Equal_int_j7) (x1 :: r1) k1 = some r := h
  rw [sl_Equal_int_l1.eq_2] at h
  refine W.seq ?_
  refine W.region (by kernel_rfl) ?_
  refine WO.pureK 0 (some (.bool (decide ((k1 : Int) < (a1.length : Int))))) (v := .bool true) (by kernel_rfl) (by rw [lt_true hk1]) (e1 := [(0, l3 none a1), (1, l3 none a2), (12, I6 (a1.length : Int)), (13, I6 (k1 : Int)), (14, .bool true)]) (by kernel_rfl) ?_
  refine WO.fin ([0, 1, 12, 13, 14]) [] [] [] (e2 := [(0, l3 none a1), (1, l3 none a2), (12, I6 (a1.length : Int)), (13, I6 (k1 : Int)), (14, .bool true)]) (by kernel_rfl) (fun _ h => h) ?_
  refine W.seq ?_
  refine W.condB true (by kernel_rfl) (fun _ => ?_) (fun h => Bool.noConfusion h)
  refine W.skip ?_
  refine W.weak [0, 1, 12, 13] [] [] [] (env' := [(0, l3 none a1), (1, l3 none a2), (12, I6 (a1.length : Int)), (13, I6 (k1 : Int))]) (by kernel_rfl) ?_
  refine W.seq ?_
  refine W.block ?_
  refine W.seq ?_
  refine W.regT [0, 1, 5, 12, 13] [] [] [] (e2 := [(0, l3 none a1), (1, l3 none a2), (5, I6 (k1 : Int)), (12, I6 (a1.length : Int)), (13, I6 (k1 : Int))]) (by kernel_rfl) (by kernel_rfl) (fun _ h => h) ?_
  refine W.seq ?_
  refine W.region (by kernel_rfl) ?_
  refine WO.pureK 2 (if (0 : Int) ≤ (k1 : Int) then ((M6 a1)[Int.toNat (k1 : Int)]?).map AV.ptr else none) (v := .ptr (I6 x1)) (by kernel_rfl) (idx_nat (f := (AV.int .i64)) hx1) (e1 := [(0, l3 none a1), (1, l3 none a2), (5, I6 (k1 : Int)), (12, I6 (a1.length : Int)), (13, I6 (k1 : Int)), (16, l3 none a1), (17, I6 (k1 : Int)), (18, .ptr (I6 x1))]) (by kernel_rfl) ?_
  obtain ⟨e12, he12, h⟩ := bind_some h
  refine WO.pureK 3 (if (0 : Int) ≤ (k1 : Int) then ((M6 a2)[Int.toNat (k1 : Int)]?).map AV.ptr else none) (v := .ptr (I6 e12)) (by kernel_rfl) (idx_av (f := (AV.int .i64)) he12) (e1 := [(0, l3 none a1), (1, l3 none a2), (5, I6 (k1 : Int)), (12, I6 (a1.length : Int)), (13, I6 (k1 : Int)), (16, l3 none a1), (17, I6 (k1 : Int)), (18, .ptr (I6 x1)), (19, I6 x1), (20, l3 none a2), (21, I6 (k1 : Int)), (22, .ptr (I6 e12))]) (by kernel_rfl) ?_
  refine WO.fin [0, 1, 12, 13, 24] [] [] [] (e2 := [(0, l3 none a1), (1, l3 none a2), (12, I6 (a1.length : Int)), (13, I6 (k1 : Int)), (24, .bool (x1 != e12))]) (by kernel_rfl) (fun _ h => h) ?_
  refine W.condB (x1 != e12) (by kernel_rfl) (fun hb => ?_) (fun hb => ?_)
  ·replace h := cond_t hb h
   refine W.seq ?_
   refine W.regT [4] [] [] [] (e2 := [(4, .bool false)]) (by kernel_rfl) (by kernel_rfl) (fun _ h => h) ?_
   refine W.weak [4] [] [] [] (env' := [(4, .bool false)]) (by kernel_rfl) ?_
   have hr : aresults Try.prog Try.f19 [(4, .bool false)] = some (.bool false) := by kernel_rfl
   cases h
   exact W.ret hr
  replace h := cond_f hb h
  refine W.skip ?_
  refine W.weak [0, 1, 12, 13] [] [] [] (env' := [(0, l3 none a1), (1, l3 none a2), (12, I6 (a1.length : Int)), (13, I6 (k1 : Int))]) (by kernel_rfl) ?_
  refine W.region (by kernel_rfl) ?_
  refine WO.pureK 0 (some (I6 (IntKind.wrap .i64 ((k1 : Int) + 1)))) (v := I6 ((k1 + 1 : Nat) : Int)) (by kernel_rfl) (by rw [wrap_succ hl1 hk1]) (e1 := [(0, l3 none a1), (1, l3 none a2), (12, I6 (a1.length : Int)), (13, I6 (k1 : Int)), (25, I6 ((k1 + 1 : Nat) : Int))]) (by kernel_rfl) ?_
  refine WO.fin [0, 1, 12, 13] [] [] [] (e2 := [(0, l3 none a1), (1, l3 none a2), (12, I6 (a1.length : Int)), (13, I6 ((k1 + 1 : Nat) : Int))]) (by kernel_rfl) (fun _ h => h) ?_
  exact hN1 () h
def lw4_awake_j4 (v6 : Bool) : Option Bool :=
 (some v6)
def lw4_awake : Option Bool :=
 ((ix_Sort (ByteArray.mk #[97, 98, 97, 98])).bind fun w3 => (bif (w3.2 == 0) then ((sl_Equal_int w3.1 [4, 2, 0, 3, 1]).bind fun w5 => ((lw4_awake_j4) w5)) else ((lw4_awake_j4) false)))
theorem run_lw4_awake  (r : Bool) (h : lw4_awake = some r) : Run Try.prog (.call 18 [] (.bool r)) := by
 refine call_of_W Try.func18 rfl (by kernel_rfl) (env0 := []) (by kernel_rfl) ?_
 unfold lw4_awake at h
 refine W.seq ?_
 refine W.regT [] [] [] [] (e2 := []) (by kernel_rfl) (by kernel_rfl) (fun _ h => h) ?_
 refine W.seq ?_
 refine W.region (by kernel_rfl) ?_
 obtain ⟨w3, hw3, h⟩ := bind_some h
 refine WO.callK 0 (F := 15) (l := [.str (ByteArray.mk #[97, 98, 97, 98])]) (C := []) (r := .tup [l3 none w3.1, I6 w3.2]) (by kernel_rfl) (by kernel_rfl) (run_ix_Sort (ByteArray.mk #[97, 98, 97, 98]) w3 hw3) (e1 := [(4, .tup [l3 none w3.1, I6 w3.2])]) (by kernel_rfl) ?_
 refine WO.fin [1, 2] [] [] [] (e2 := [(1, l3 none w3.1), (2, I6 w3.2)]) (by kernel_rfl) (fun _ h => h) ?_
 refine W.seq ?_
 refine W.join (σ := (Bool)) (fun s => [(0, .bool s)]) (fun s => (lw4_awake_j4) s = some r) (fun s h => ?_) (fun hK4 => ?_)
 ·obtain ⟨v6, rfl⟩ : ∃ x, x = s := ⟨s, rfl⟩
  have h : (lw4_awake_j4) v6 = some r := h
  unfold lw4_awake_j4 at h
  refine W.weak [0] [] [] [] (env' := [(0, .bool v6)]) (by kernel_rfl) ?_
  have hr : aresults Try.prog Try.f18 [(0, .bool v6)] = some (.bool v6) := by kernel_rfl
  cases h
  exact W.ret hr
 refine W.region (by kernel_rfl) ?_
 refine WO.boolK 3 (fun b => [(1, l3 none w3.1), (2, I6 w3.2), (7, I6 w3.2), (8, .bool b), (9, .bool b)]) (w3.2 == 0) (by kernel_rfl) (fun hb => ?_) (fun hb => ?_)
 ·replace h := cond_t hb h
  obtain ⟨w5, hw5, h⟩ := bind_some h
  refine WO.callK 2 (F := 19) (l := [l3 none w3.1, l3 none [4, 2, 0, 3, 1]]) (C := []) (r := .bool w5) (by kernel_rfl) (by kernel_rfl) (run_sl_Equal_int w3.1 [4, 2, 0, 3, 1] w5 hw5) (e1 := [(1, l3 none w3.1), (2, I6 w3.2), (7, I6 w3.2), (8, .bool true), (9, .bool true), (10, l3 none w3.1), (11, l3 (some 11) [4, 2, 0, 3, 1]), (12, .bool w5)]) (by kernel_rfl) ?_
  refine WO.fin [0] [] [] [] (e2 := [(0, .bool w5)]) (by kernel_rfl) (fun _ h => h) ?_
  exact hK4 w5 h
 replace h := cond_f hb h
 refine WO.fin [0] [] [] [] (e2 := [(0, .bool false)]) (by kernel_rfl) (fun _ h => h) ?_
 exact hK4 false h
def ix_Index_none_j3 (v5 : Bool) : Option Bool :=
 (some v5)
def ix_Index_none (a1 : (Option ixIndex)) : Option Bool :=
 (bif a1.isNone then ((ix_Index_none_j3) true) else (a1.bind fun q4 => ((ix_Index_none_j3) q4.f_w.isNone)))
theorem run_ix_Index_none (a1 : (Option ixIndex)) (r : Bool) (h : ix_Index_none a1 = some r) : Run Try.prog (.call 48 [ep e_ixIndex a1] (.bool r)) := by
 refine call_of_W Try.func48 rfl (by kernel_rfl) (env0 := [(0, ep e_ixIndex a1)]) (by kernel_rfl) ?_
 unfold ix_Index_none at h
 refine W.seq ?_
 refine W.regT [0] [] [] [] (e2 := [(0, ep e_ixIndex a1)]) (by kernel_rfl) (by kernel_rfl) (fun _ h => h) ?_
 refine W.seq ?_
 refine W.join (σ := (Bool)) (fun s => [(2, .bool s)]) (fun s => (ix_Index_none_j3) s = some r) (fun s h => ?_) (fun hK3 => ?_)
 ·obtain ⟨v5, rfl⟩ : ∃ x, x = s := ⟨s, rfl⟩
  have h : (ix_Index_none_j3) v5 = some r := h
  unfold ix_Index_none_j3 at h
  refine W.weak [2] [] [] [] (env' := [(2, .bool v5)]) (by kernel_rfl) ?_
  have hr : aresults Try.prog Try.f48 [(2, .bool v5)] = some (.bool v5) := by kernel_rfl
  cases h
  exact W.ret hr
 refine W.region (by kernel_rfl) ?_
 refine WO.boolK 3 (fun b => [(0, ep e_ixIndex a1), (3, ep e_ixIndex a1), (4, .bool b), (5, .bool b)]) a1.isNone (by kernel_rfl) (fun hb => ?_) (fun hb => ?_)
 ·replace h := cond_t hb h
  refine WO.fin [2] [] [] [] (e2 := [(2, .bool true)]) (by kernel_rfl) (fun _ h => h) ?_
  exact hK3 true h
 replace h := cond_f hb h
 obtain ⟨q4, hq4, h⟩ := bind_some h
 refine WO.pureK 1 (match a1.isNone with | false => some (AV.ptr ((epx e_ixIndex) a1)) | true => none) (v := .ptr (.agg [ep_ixwavelet q4.f_w, I6 q4.f_length, l3 none q4.f_starts, l3 none q4.f_places])) (by kernel_rfl) (nc_av (F := (epx e_ixIndex)) hq4) (e1 := [(0, ep e_ixIndex a1), (3, ep e_ixIndex a1), (4, .bool false), (5, .bool false), (6, ep e_ixIndex a1), (7, .ptr (.agg [ep_ixwavelet q4.f_w, I6 q4.f_length, l3 none q4.f_starts, l3 none q4.f_places]))]) (by kernel_rfl) ?_
 refine WO.fin [2] [] [] [] (e2 := [(2, .bool q4.f_w.isNone)]) (by kernel_rfl) (fun _ h => h) ?_
 exact hK3 q4.f_w.isNone h
def sl_Index_byte_j4 : Option Int :=
 (some (-1))
def sl_Index_byte_l1 (a2 : Int) (K4 : (Option Int)) : List Int → Nat → Option Int
 | [], k1 => K4
 | x1 :: r1, k1 => (bif (a2 == x1) then (some (k1 : Int)) else (sl_Index_byte_l1 a2 K4 r1 (k1 + 1)))
def sl_Index_byte (a1 : (List Int)) (a2 : Int) : Option Int :=
 (chk (lenOk a1) (sl_Index_byte_l1 a2 (sl_Index_byte_j4) a1 0))
theorem run_sl_Index_byte (a1 : (List Int)) (a2 : Int) (r : Int) (h : sl_Index_byte a1 a2 = some r) : Run Try.prog (.call 93 [l5 none a1, .int .u8 a2] (I6 r)) := by
 refine call_of_W Try.func93 rfl (by kernel_rfl) (env0 := [(0, l5 none a1), (1, .int .u8 a2)]) (by kernel_rfl) ?_
 unfold sl_Index_byte at h
 refine W.seq ?_
 refine W.regT [0, 1] [] [] [] (e2 := [(0, l5 none a1), (1, .int .u8 a2)]) (by kernel_rfl) (by kernel_rfl) (fun _ h => h) ?_
 refine W.seq ?_
 refine W.join (σ := Unit) (fun s => []) (fun s => (sl_Index_byte_j4) = some r) (fun s h => ?_) (fun hK4 => ?_)
 ·have h : (sl_Index_byte_j4) = some r := h
  unfold sl_Index_byte_j4 at h
  refine W.seq ?_
  refine W.regT [4] [] [] [] (e2 := [(4, I6 (-1))]) (by kernel_rfl) (by kernel_rfl) (fun _ h => h) ?_
  refine W.weak [4] [] [] [] (env' := [(4, I6 (-1))]) (by kernel_rfl) ?_
  have hr : aresults Try.prog Try.f93 [(4, I6 (-1))] = some (I6 (-1)) := by kernel_rfl
  cases h
  exact W.ret hr
 refine W.seq ?_
 refine W.region (by kernel_rfl) ?_
 refine WO.pureK 1 (some (I6 ((M8 a1).length : Int))) (v := I6 (a1.length : Int)) (by kernel_rfl) (by rw [List.length_map]) (e1 := [(0, l5 none a1), (1, .int .u8 a2), (6, l5 none a1), (7, I6 (a1.length : Int))]) (by kernel_rfl) ?_
 refine WO.fin [0, 1, 7, 8] [] [] [] (e2 := [(0, l5 none a1), (1, .int .u8 a2), (7, I6 (a1.length : Int)), (8, .int .i64 0)]) (by kernel_rfl) (fun _ h => h) ?_
 refine W.block ?_
 obtain ⟨hl1, h⟩ := chk_some h
 refine W.weak [0, 1, 7, 8] [] [] [] (env' := [(0, l5 none a1), (1, .int .u8 a2), (7, I6 (a1.length : Int)), (8, I6 ((0 : Nat) : Int))]) (by kernel_rfl) ?_
 refine W.range (σ := Unit) a1 (fun k1 s => [(0, l5 none a1), (1, .int .u8 a2), (7, I6 (a1.length : Int)), (8, I6 (k1 : Int))]) (fun r0 k0 s => sl_Index_byte_l1 a2 (sl_Index_byte_j4) r0 k0 = some r) (fun s h => ?_) (fun x1 r1 k1 s hx1 hk1 h hN1 => ?_) () h
 ·have h : sl_Index_byte_l1 a2 (sl_Index_byte_j4) [] (a1).length = some r := h
  rw [sl_Index_byte_l1.eq_1] at h
  refine W.seq ?_
  refine W.region (by kernel_rfl) ?_
  refine WO.pureK 0 (some (.bool (decide (((a1).length : Int) < (a1.length : Int))))) (v := .bool false) (by kernel_rfl) (by rw [lt_false (l := a1)]) (e1 := [(0, l5 none a1), (1, .int .u8 a2), (7, I6 (a1.length : Int)), (8, I6 ((a1).length : Int)), (9, .bool false)]) (by kernel_rfl) ?_
  refine WO.fin ([0, 1, 7, 8, 9]) [] [] [] (e2 := [(0, l5 none a1), (1, .int .u8 a2), (7, I6 (a1.length : Int)), (8, I6 ((a1).length : Int)), (9, .bool false)]) (by kernel_rfl) (fun _ h => h) ?_
  refine W.seq ?_
  refine W.condB false (by kernel_rfl) (fun h => Bool.noConfusion h) (fun _ => ?_)
  refine W.exit ?_
  refine W.weak [] [] [] [] (env' := []) (by kernel_rfl) ?_
  exact hK4 () h
 ·have h : sl_Index_byte_l1 a2 (sl_Index_byte_j4) (x1 :: r1) k1 = some r := h
  rw [sl_Index_byte_l1.eq_2] at h
  refine W.seq ?_
  refine W.region (by kernel_rfl) ?_
  refine WO.pureK 0 (some (.bool (decide ((k1 : Int) < (a1.length : Int))))) (v := .bool true) (by kernel_rfl) (by rw [lt_true hk1]) (e1 := [(0, l5 none a1), (1, .int .u8 a2), (7, I6 (a1.length : Int)), (8, I6 (k1 : Int)), (9, .bool true)]) (by kernel_rfl) ?_
  refine WO.fin ([0, 1, 7, 8, 9]) [] [] [] (e2 := [(0, l5 none a1), (1, .int .u8 a2), (7, I6 (a1.length : Int)), (8, I6 (k1 : Int)), (9, .bool true)]) (by kernel_rfl) (fun _ h => h) ?_
  refine W.seq ?_
  refine W.condB true (by kernel_rfl) (fun _ => ?_) (fun h => Bool.noConfusion h)
  refine W.skip ?_
  refine W.weak [0, 1, 7, 8] [] [] [] (env' := [(0, l5 none a1), (1, .int .u8 a2), (7, I6 (a1.length : Int)), (8, I6 (k1 : Int))]) (by kernel_rfl) ?_
  refine W.seq ?_
  refine W.block ?_
  refine W.seq ?_
  refine W.regT [0, 1, 5, 7, 8] [] [] [] (e2 := [(0, l5 none a1), (1, .int .u8 a2), (5, I6 (k1 : Int)), (7, I6 (a1.length : Int)), (8, I6 (k1 : Int))]) (by kernel_rfl) (by kernel_rfl) (fun _ h => h) ?_
  refine W.seq ?_
  refine W.region (by kernel_rfl) ?_
  refine WO.pureK 3 (if (0 : Int) ≤ (k1 : Int) then ((M8 a1)[Int.toNat (k1 : Int)]?).map AV.ptr else none) (v := .ptr (.int .u8 x1)) (by kernel_rfl) (idx_nat (f := (AV.int .u8)) hx1) (e1 := [(0, l5 none a1), (1, .int .u8 a2), (5, I6 (k1 : Int)), (7, I6 (a1.length : Int)), (8, I6 (k1 : Int)), (11, .int .u8 a2), (12, l5 none a1), (13, I6 (k1 : Int)), (14, .ptr (.int .u8 x1))]) (by kernel_rfl) ?_
  refine WO.fin [0, 1, 5, 7, 8, 16] [] [] [] (e2 := [(0, l5 none a1), (1, .int .u8 a2), (5, I6 (k1 : Int)), (7, I6 (a1.length : Int)), (8, I6 (k1 : Int)), (16, .bool (a2 == x1))]) (by kernel_rfl) (fun _ h => h) ?_
  refine W.condB (a2 == x1) (by kernel_rfl) (fun hb => ?_) (fun hb => ?_)
  ·replace h := cond_t hb h
   refine W.seq ?_
   refine W.regT [4] [] [] [] (e2 := [(4, I6 (k1 : Int))]) (by kernel_rfl) (by kernel_rfl) (fun _ h => h) ?_
   refine W.weak [4] [] [] [] (env' := [(4, I6 (k1 : Int))]) (by kernel_rfl) ?_
   have hr : aresults Try.prog Try.f93 [(4, I6 (k1 : Int))] = some (I6 (k1 : Int)) := by kernel_rfl
   cases h
   exact W.ret hr
  replace h := cond_f hb h
  refine W.skip ?_
  refine W.weak [0, 1, 7, 8] [] [] [] (env' := [(0, l5 none a1), (1, .int .u8 a2), (7, I6 (a1.length : Int)), (8, I6 (k1 : Int))]) (by kernel_rfl) ?_
  refine W.region (by kernel_rfl) ?_
  refine WO.pureK 0 (some (I6 (IntKind.wrap .i64 ((k1 : Int) + 1)))) (v := I6 ((k1 + 1 : Nat) : Int)) (by kernel_rfl) (by rw [wrap_succ hl1 hk1]) (e1 := [(0, l5 none a1), (1, .int .u8 a2), (7, I6 (a1.length : Int)), (8, I6 (k1 : Int)), (18, I6 ((k1 + 1 : Nat) : Int))]) (by kernel_rfl) ?_
  refine WO.fin [0, 1, 7, 8] [] [] [] (e2 := [(0, l5 none a1), (1, .int .u8 a2), (7, I6 (a1.length : Int)), (8, I6 ((k1 + 1 : Nat) : Int))]) (by kernel_rfl) (fun _ h => h) ?_
  exact hN1 () h
def sl_Contains_byte (a1 : (List Int)) (a2 : Int) : Option Bool :=
 ((sl_Index_byte a1 a2).bind fun w5 => (some (decide (w5 ≥ 0))))
theorem run_sl_Contains_byte (a1 : (List Int)) (a2 : Int) (r : Bool) (h : sl_Contains_byte a1 a2 = some r) : Run Try.prog (.call 77 [l5 none a1, .int .u8 a2] (.bool r)) := by
 refine call_of_W Try.func77 rfl (by kernel_rfl) (env0 := [(0, l5 none a1), (1, .int .u8 a2)]) (by kernel_rfl) ?_
 unfold sl_Contains_byte at h
 refine W.seq ?_
 refine W.regT [0, 1] [] [] [] (e2 := [(0, l5 none a1), (1, .int .u8 a2)]) (by kernel_rfl) (by kernel_rfl) (fun _ h => h) ?_
 refine W.seq ?_
 refine W.region (by kernel_rfl) ?_
 obtain ⟨w5, hw5, h⟩ := bind_some h
 refine WO.callK 2 (F := 93) (l := [l5 none a1, .int .u8 a2]) (C := []) (r := I6 w5) (by kernel_rfl) (by kernel_rfl) (run_sl_Index_byte a1 a2 w5 hw5) (e1 := [(0, l5 none a1), (1, .int .u8 a2), (5, l5 none a1), (6, .int .u8 a2), (7, I6 w5)]) (by kernel_rfl) ?_
 refine WO.fin [4] [] [] [] (e2 := [(4, .bool (decide (w5 ≥ 0)))]) (by kernel_rfl) (fun _ h => h) ?_
 refine W.weak [4] [] [] [] (env' := [(4, .bool (decide (w5 ≥ 0)))]) (by kernel_rfl) ?_
 have hr : aresults Try.prog Try.f77 [(4, .bool (decide (w5 ≥ 0)))] = some (.bool (decide (w5 ≥ 0))) := by kernel_rfl
 cases h
 exact W.ret hr
def ix_wavelet_rank_j14 (v60 : Int) : Option Int :=
 (some v60)
def ix_wavelet_rank_l1 (a2 : Int) (K14 : (Int → Option Int)) : Nat → (Option ixwavelet) → Int → Option Int
 | 0, _, _ => none
 | m1 + 1, v15, v16 => (v15.bind fun q19 => (ixwavelet.cs q19 (fun f20 f21 f22 f23 => (bif (!f22.isNone) then (v15.bind fun q25 => (ixwavelet.cs q25 (fun f26 f27 f28 f29 => (f29.bind fun q30 => (ixwavelet.cs q30 (fun f31 f32 f33 f34 => ((sl_Contains_byte f31 a2).bind fun w35 => (bif w35 then (v15.bind fun q37 => (ixwavelet.cs q37 (fun f38 f39 f40 f41 => ((idx f39 v16).bind fun e42 => (v15.bind fun q43 => (ixwavelet.cs q43 (fun f44 f45 f46 f47 => ((ix_wavelet_rank_l1 a2 K14 m1) f47 e42)))))))) else (v15.bind fun q49 => (ixwavelet.cs q49 (fun f50 f51 f52 f53 => ((idx f51 v16).bind fun e54 => (v15.bind fun q55 => (ixwavelet.cs q55 (fun f56 f57 f58 f59 => ((ix_wavelet_rank_l1 a2 K14 m1) f58 (IntKind.wrap .i64 (v16 - e54)))))))))))))))))) else (K14 v16)))))
def ix_wavelet_rank (fuel : Nat) (a1 : (Option ixwavelet)) (a2 : Int) (a3 : Int) : Option Int :=
 (a1.bind fun q7 => (ixwavelet.cs q7 (fun f8 f9 f10 f11 => ((sl_Contains_byte f8 a2).bind fun w12 => (bif (!w12) then (some 0) else (ix_wavelet_rank_l1 a2 (ix_wavelet_rank_j14) fuel a1 a3))))))
theorem run_ix_wavelet_rank (fuel : Nat) (a1 : (Option ixwavelet)) (a2 : Int) (a3 : Int) (r : Int) (h : ix_wavelet_rank fuel a1 a2 a3 = some r) : Run Try.prog (.call 51 [ep_ixwavelet a1, .int .u8 a2, I6 a3] (I6 r)) := by
 refine call_of_W Try.func51 rfl (by kernel_rfl) (env0 := [(0, ep_ixwavelet a1), (1, .int .u8 a2), (2, I6 a3)]) (by kernel_rfl) ?_
 unfold ix_wavelet_rank at h
 refine W.seq ?_
 refine W.regT [0, 1, 2] [] [] [] (e2 := [(0, ep_ixwavelet a1), (1, .int .u8 a2), (2, I6 a3)]) (by kernel_rfl) (by kernel_rfl) (fun _ h => h) ?_
 refine W.seq ?_
 refine W.seq ?_
 refine W.region (by kernel_rfl) ?_
 obtain ⟨q7, hq7, h⟩ := bind_some h
 obtain ⟨f8, f9, f10, f11⟩ := q7
 dsimp only [ixwavelet.cs] at h
 refine WO.pureK 1 (match a1.isNone with | false => some (AV.ptr (e_ixwaveletx a1)) | true => none) (v := .ptr (.agg [l5 none f8, l3 none f9, ep_ixwavelet f10, ep_ixwavelet f11])) (by kernel_rfl) (nc_av (F := e_ixwaveletx) hq7) (e1 := [(0, ep_ixwavelet a1), (1, .int .u8 a2), (2, I6 a3), (7, ep_ixwavelet a1), (8, .ptr (.agg [l5 none f8, l3 none f9, ep_ixwavelet f10, ep_ixwavelet f11]))]) (by kernel_rfl) ?_
 obtain ⟨w12, hw12, h⟩ := bind_some h
 refine WO.callK 3 (F := 77) (l := [l5 none f8, .int .u8 a2]) (C := []) (r := .bool w12) (by kernel_rfl) (by kernel_rfl) (run_sl_Contains_byte f8 a2 w12 hw12) (e1 := [(0, ep_ixwavelet a1), (1, .int .u8 a2), (2, I6 a3), (7, ep_ixwavelet a1), (8, .ptr (.agg [l5 none f8, l3 none f9, ep_ixwavelet f10, ep_ixwavelet f11])), (9, .ptr (l5 none f8)), (10, l5 none f8), (11, .int .u8 a2), (12, .bool w12)]) (by kernel_rfl) ?_
 refine WO.fin [0, 1, 2, 13] [] [] [] (e2 := [(0, ep_ixwavelet a1), (1, .int .u8 a2), (2, I6 a3), (13, .bool (!w12))]) (by kernel_rfl) (fun _ h => h) ?_
 refine W.condB (!w12) (by kernel_rfl) (fun hb => ?_) (fun hb => ?_)
 ·replace h := cond_t hb h
  refine W.seq ?_
  refine W.regT [6] [] [] [] (e2 := [(6, .int .i64 0)]) (by kernel_rfl) (by kernel_rfl) (fun _ h => h) ?_
  refine W.weak [6] [] [] [] (env' := [(6, .int .i64 0)]) (by kernel_rfl) ?_
  have hr : aresults Try.prog Try.f51 [(6, .int .i64 0)] = some (.int .i64 0) := by kernel_rfl
  cases h
  exact W.ret hr
 replace h := cond_f hb h
 refine W.skip ?_
 refine W.weak [0, 1, 2] [] [] [] (env' := [(0, ep_ixwavelet a1), (1, .int .u8 a2), (2, I6 a3)]) (by kernel_rfl) ?_
 refine W.seq ?_
 refine W.join (σ := (Int)) (fun s => [(2, I6 s)]) (fun s => (ix_wavelet_rank_j14) s = some r) (fun s h => ?_) (fun hK14 => ?_)
 ·obtain ⟨v60, rfl⟩ : ∃ x, x = s := ⟨s, rfl⟩
  have h : (ix_wavelet_rank_j14) v60 = some r := h
  unfold ix_wavelet_rank_j14 at h
  refine W.seq ?_
  refine W.regT [6] [] [] [] (e2 := [(6, I6 v60)]) (by kernel_rfl) (by kernel_rfl) (fun _ h => h) ?_
  refine W.weak [6] [] [] [] (env' := [(6, I6 v60)]) (by kernel_rfl) ?_
  have hr : aresults Try.prog Try.f51 [(6, I6 v60)] = some (I6 v60) := by kernel_rfl
  cases h
  exact W.ret hr
 refine W.block ?_
 refine W.weak [0, 1, 2] [] [] [] (env' := [(0, ep_ixwavelet a1), (1, .int .u8 a2), (2, I6 a3)]) (by kernel_rfl) ?_
 refine W.fuel (σ := ((Option ixwavelet) × Int)) (fun s => [(0, ep_ixwavelet s.1), (1, .int .u8 a2), (2, I6 s.2)]) (fun m0 s => ix_wavelet_rank_l1 a2 (ix_wavelet_rank_j14) m0 s.1 s.2 = some r) (fun s h => ?_) (fun m1 s h hN1 => ?_) fuel (a1, a3) h
 ·obtain ⟨v15, v16⟩ := s
  have h : ix_wavelet_rank_l1 a2 (ix_wavelet_rank_j14) 0 v15 v16 = some r := h
  rw [ix_wavelet_rank_l1.eq_1] at h
  cases h
 ·obtain ⟨v15, v16⟩ := s
  have h : ix_wavelet_rank_l1 a2 (ix_wavelet_rank_j14) (m1 + 1) v15 v16 = some r := h
  rw [ix_wavelet_rank_l1.eq_2] at h
  refine W.seq ?_
  refine W.seq ?_
  refine W.region (by kernel_rfl) ?_
  obtain ⟨q19, hq19, h⟩ := bind_some h
  obtain ⟨f20, f21, f22, f23⟩ := q19
  dsimp only [ixwavelet.cs] at h
  refine WO.pureK 1 (match v15.isNone with | false => some (AV.ptr (e_ixwaveletx v15)) | true => none) (v := .ptr (.agg [l5 none f20, l3 none f21, ep_ixwavelet f22, ep_ixwavelet f23])) (by kernel_rfl) (nc_av (F := e_ixwaveletx) hq19) (e1 := [(0, ep_ixwavelet v15), (1, .int .u8 a2), (2, I6 v16), (14, ep_ixwavelet v15), (15, .ptr (.agg [l5 none f20, l3 none f21, ep_ixwavelet f22, ep_ixwavelet f23]))]) (by kernel_rfl) ?_
  refine WO.fin [0, 1, 2, 18] [] [] [] (e2 := [(0, ep_ixwavelet v15), (1, .int .u8 a2), (2, I6 v16), (18, .bool (!f22.isNone))]) (by kernel_rfl) (fun _ h => h) ?_
  refine W.condB (!f22.isNone) (by kernel_rfl) (fun hb => ?_) (fun hb => ?_)
  ·replace h := cond_t hb h
   refine W.skip ?_
   refine W.weak [0, 1, 2] [] [] [] (env' := [(0, ep_ixwavelet v15), (1, .int .u8 a2), (2, I6 v16)]) (by kernel_rfl) ?_
   refine W.block ?_
   refine W.seq ?_
   refine W.region (by kernel_rfl) ?_
   obtain ⟨q25, hq25, h⟩ := bind_some h
   obtain ⟨f26, f27, f28, f29⟩ := q25
   dsimp only [ixwavelet.cs] at h
   refine WO.pureK 1 (match v15.isNone with | false => some (AV.ptr (e_ixwaveletx v15)) | true => none) (v := .ptr (.agg [l5 none f26, l3 none f27, ep_ixwavelet f28, ep_ixwavelet f29])) (by kernel_rfl) (nc_av (F := e_ixwaveletx) hq25) (e1 := [(0, ep_ixwavelet v15), (1, .int .u8 a2), (2, I6 v16), (19, ep_ixwavelet v15), (20, .ptr (.agg [l5 none f26, l3 none f27, ep_ixwavelet f28, ep_ixwavelet f29]))]) (by kernel_rfl) ?_
   obtain ⟨q30, hq30, h⟩ := bind_some h
   obtain ⟨f31, f32, f33, f34⟩ := q30
   dsimp only [ixwavelet.cs] at h
   refine WO.pureK 2 (match f29.isNone with | false => some (AV.ptr (e_ixwaveletx f29)) | true => none) (v := .ptr (.agg [l5 none f31, l3 none f32, ep_ixwavelet f33, ep_ixwavelet f34])) (by kernel_rfl) (nc_av (F := e_ixwaveletx) hq30) (e1 := [(0, ep_ixwavelet v15), (1, .int .u8 a2), (2, I6 v16), (19, ep_ixwavelet v15), (20, .ptr (.agg [l5 none f26, l3 none f27, ep_ixwavelet f28, ep_ixwavelet f29])), (21, .ptr (ep_ixwavelet f29)), (22, ep_ixwavelet f29), (23, .ptr (.agg [l5 none f31, l3 none f32, ep_ixwavelet f33, ep_ixwavelet f34]))]) (by kernel_rfl) ?_
   obtain ⟨w35, hw35, h⟩ := bind_some h
   refine WO.callK 3 (F := 77) (l := [l5 none f31, .int .u8 a2]) (C := []) (r := .bool w35) (by kernel_rfl) (by kernel_rfl) (run_sl_Contains_byte f31 a2 w35 hw35) (e1 := [(0, ep_ixwavelet v15), (1, .int .u8 a2), (2, I6 v16), (19, ep_ixwavelet v15), (20, .ptr (.agg [l5 none f26, l3 none f27, ep_ixwavelet f28, ep_ixwavelet f29])), (21, .ptr (ep_ixwavelet f29)), (22, ep_ixwavelet f29), (23, .ptr (.agg [l5 none f31, l3 none f32, ep_ixwavelet f33, ep_ixwavelet f34])), (24, .ptr (l5 none f31)), (25, l5 none f31), (26, .int .u8 a2), (27, .bool w35)]) (by kernel_rfl) ?_
   refine WO.fin [0, 1, 2, 27] [] [] [] (e2 := [(0, ep_ixwavelet v15), (1, .int .u8 a2), (2, I6 v16), (27, .bool w35)]) (by kernel_rfl) (fun _ h => h) ?_
   refine W.condB w35 (by kernel_rfl) (fun hb => ?_) (fun hb => ?_)
   ·replace h := cond_t hb h
    refine W.seq ?_
    refine W.region (by kernel_rfl) ?_
    obtain ⟨q37, hq37, h⟩ := bind_some h
    obtain ⟨f38, f39, f40, f41⟩ := q37
    dsimp only [ixwavelet.cs] at h
    refine WO.pureK 1 (match v15.isNone with | false => some (AV.ptr (e_ixwaveletx v15)) | true => none) (v := .ptr (.agg [l5 none f38, l3 none f39, ep_ixwavelet f40, ep_ixwavelet f41])) (by kernel_rfl) (nc_av (F := e_ixwaveletx) hq37) (e1 := [(0, ep_ixwavelet v15), (1, .int .u8 a2), (2, I6 v16), (27, .bool w35), (28, ep_ixwavelet v15), (29, .ptr (.agg [l5 none f38, l3 none f39, ep_ixwavelet f40, ep_ixwavelet f41]))]) (by kernel_rfl) ?_
    obtain ⟨e42, he42, h⟩ := bind_some h
    refine WO.pureK 3 (if (0 : Int) ≤ v16 then ((M6 f39)[Int.toNat v16]?).map AV.ptr else none) (v := .ptr (I6 e42)) (by kernel_rfl) (idx_av (f := (AV.int .i64)) he42) (e1 := [(0, ep_ixwavelet v15), (1, .int .u8 a2), (2, I6 v16), (27, .bool w35), (28, ep_ixwavelet v15), (29, .ptr (.agg [l5 none f38, l3 none f39, ep_ixwavelet f40, ep_ixwavelet f41])), (30, .ptr (l3 none f39)), (31, l3 none f39), (32, I6 v16), (33, .ptr (I6 e42))]) (by kernel_rfl) ?_
    refine WO.fin [0, 1, 2] [] [] [] (e2 := [(0, ep_ixwavelet v15), (1, .int .u8 a2), (2, I6 e42)]) (by kernel_rfl) (fun _ h => h) ?_
    refine W.region (by kernel_rfl) ?_
    obtain ⟨q43, hq43, h⟩ := bind_some h
    obtain ⟨f44, f45, f46, f47⟩ := q43
    dsimp only [ixwavelet.cs] at h
    refine WO.pureK 1 (match v15.isNone with | false => some (AV.ptr (e_ixwaveletx v15)) | true => none) (v := .ptr (.agg [l5 none f44, l3 none f45, ep_ixwavelet f46, ep_ixwavelet f47])) (by kernel_rfl) (nc_av (F := e_ixwaveletx) hq43) (e1 := [(0, ep_ixwavelet v15), (1, .int .u8 a2), (2, I6 e42), (35, ep_ixwavelet v15), (36, .ptr (.agg [l5 none f44, l3 none f45, ep_ixwavelet f46, ep_ixwavelet f47]))]) (by kernel_rfl) ?_
    refine WO.fin [0, 1, 2] [] [] [] (e2 := [(0, ep_ixwavelet f47), (1, .int .u8 a2), (2, I6 e42)]) (by kernel_rfl) (fun _ h => h) ?_
    exact hN1 (f47, e42) h
   replace h := cond_f hb h
   refine W.seq ?_
   refine W.region (by kernel_rfl) ?_
   obtain ⟨q49, hq49, h⟩ := bind_some h
   obtain ⟨f50, f51, f52, f53⟩ := q49
   dsimp only [ixwavelet.cs] at h
   refine WO.pureK 2 (match v15.isNone with | false => some (AV.ptr (e_ixwaveletx v15)) | true => none) (v := .ptr (.agg [l5 none f50, l3 none f51, ep_ixwavelet f52, ep_ixwavelet f53])) (by kernel_rfl) (nc_av (F := e_ixwaveletx) hq49) (e1 := [(0, ep_ixwavelet v15), (1, .int .u8 a2), (2, I6 v16), (27, .bool w35), (39, I6 v16), (40, ep_ixwavelet v15), (41, .ptr (.agg [l5 none f50, l3 none f51, ep_ixwavelet f52, ep_ixwavelet f53]))]) (by kernel_rfl) ?_
   obtain ⟨e54, he54, h⟩ := bind_some h
   refine WO.pureK 3 (if (0 : Int) ≤ v16 then ((M6 f51)[Int.toNat v16]?).map AV.ptr else none) (v := .ptr (I6 e54)) (by kernel_rfl) (idx_av (f := (AV.int .i64)) he54) (e1 := [(0, ep_ixwavelet v15), (1, .int .u8 a2), (2, I6 v16), (27, .bool w35), (39, I6 v16), (40, ep_ixwavelet v15), (41, .ptr (.agg [l5 none f50, l3 none f51, ep_ixwavelet f52, ep_ixwavelet f53])), (42, .ptr (l3 none f51)), (43, l3 none f51), (44, I6 v16), (45, .ptr (I6 e54))]) (by kernel_rfl) ?_
   refine WO.fin [0, 1, 2] [] [] [] (e2 := [(0, ep_ixwavelet v15), (1, .int .u8 a2), (2, I6 (W6 (v16 - e54)))]) (by kernel_rfl) (fun _ h => h) ?_
   refine W.region (by kernel_rfl) ?_
   obtain ⟨q55, hq55, h⟩ := bind_some h
   obtain ⟨f56, f57, f58, f59⟩ := q55
   dsimp only [ixwavelet.cs] at h
   refine WO.pureK 1 (match v15.isNone with | false => some (AV.ptr (e_ixwaveletx v15)) | true => none) (v := .ptr (.agg [l5 none f56, l3 none f57, ep_ixwavelet f58, ep_ixwavelet f59])) (by kernel_rfl) (nc_av (F := e_ixwaveletx) hq55) (e1 := [(0, ep_ixwavelet v15), (1, .int .u8 a2), (2, I6 (W6 (v16 - e54))), (48, ep_ixwavelet v15), (49, .ptr (.agg [l5 none f56, l3 none f57, ep_ixwavelet f58, ep_ixwavelet f59]))]) (by kernel_rfl) ?_
   refine WO.fin [0, 1, 2] [] [] [] (e2 := [(0, ep_ixwavelet f58), (1, .int .u8 a2), (2, I6 (W6 (v16 - e54)))]) (by kernel_rfl) (fun _ h => h) ?_
   exact hN1 (f58, (W6 (v16 - e54))) h
  replace h := cond_f hb h
  refine W.exit ?_
  refine W.weak [2] [] [] [] (env' := [(2, I6 v16)]) (by kernel_rfl) ?_
  exact hK14 v16 h
def ix_Index_before (fuel : Nat) (a1 : (Option ixIndex)) (a2 : Int) (a3 : Int) : Option Int :=
 (a1.bind fun q6 => ((idx q6.f_starts a2).bind fun e7 => (a1.bind fun q8 => ((ix_wavelet_rank fuel q8.f_w a2 a3).bind fun w9 => (some (IntKind.wrap .i64 (e7 + w9)))))))
theorem run_ix_Index_before (fuel : Nat) (a1 : (Option ixIndex)) (a2 : Int) (a3 : Int) (r : Int) (h : ix_Index_before fuel a1 a2 a3 = some r) : Run Try.prog (.call 54 [ep e_ixIndex a1, .int .u8 a2, I6 a3] (I6 r)) := by
 refine call_of_W Try.func54 rfl (by kernel_rfl) (env0 := [(0, ep e_ixIndex a1), (1, .int .u8 a2), (2, I6 a3)]) (by kernel_rfl) ?_
 unfold ix_Index_before at h
 refine W.seq ?_
 refine W.regT [0, 1, 2] [] [] [] (e2 := [(0, ep e_ixIndex a1), (1, .int .u8 a2), (2, I6 a3)]) (by kernel_rfl) (by kernel_rfl) (fun _ h => h) ?_
 refine W.seq ?_
 refine W.region (by kernel_rfl) ?_
 obtain ⟨q6, hq6, h⟩ := bind_some h
 refine WO.pureK 1 (match a1.isNone with | false => some (AV.ptr ((epx e_ixIndex) a1)) | true => none) (v := .ptr (.agg [ep_ixwavelet q6.f_w, I6 q6.f_length, l3 none q6.f_starts, l3 none q6.f_places])) (by kernel_rfl) (nc_av (F := (epx e_ixIndex)) hq6) (e1 := [(0, ep e_ixIndex a1), (1, .int .u8 a2), (2, I6 a3), (7, ep e_ixIndex a1), (8, .ptr (.agg [ep_ixwavelet q6.f_w, I6 q6.f_length, l3 none q6.f_starts, l3 none q6.f_places]))]) (by kernel_rfl) ?_
 obtain ⟨e7, he7, h⟩ := bind_some h
 refine WO.pureK 3 (if (0 : Int) ≤ a2 then ((M6 q6.f_starts)[Int.toNat a2]?).map AV.ptr else none) (v := .ptr (I6 e7)) (by kernel_rfl) (idx_av (f := (AV.int .i64)) he7) (e1 := [(0, ep e_ixIndex a1), (1, .int .u8 a2), (2, I6 a3), (7, ep e_ixIndex a1), (8, .ptr (.agg [ep_ixwavelet q6.f_w, I6 q6.f_length, l3 none q6.f_starts, l3 none q6.f_places])), (9, .ptr (l3 none q6.f_starts)), (10, l3 none q6.f_starts), (11, .int .u8 a2), (12, .ptr (I6 e7))]) (by kernel_rfl) ?_
 obtain ⟨q8, hq8, h⟩ := bind_some h
 refine WO.pureK 2 (match a1.isNone with | false => some (AV.ptr ((epx e_ixIndex) a1)) | true => none) (v := .ptr (.agg [ep_ixwavelet q8.f_w, I6 q8.f_length, l3 none q8.f_starts, l3 none q8.f_places])) (by kernel_rfl) (nc_av (F := (epx e_ixIndex)) hq8) (e1 := [(0, ep e_ixIndex a1), (1, .int .u8 a2), (2, I6 a3), (7, ep e_ixIndex a1), (8, .ptr (.agg [ep_ixwavelet q6.f_w, I6 q6.f_length, l3 none q6.f_starts, l3 none q6.f_places])), (9, .ptr (l3 none q6.f_starts)), (10, l3 none q6.f_starts), (11, .int .u8 a2), (12, .ptr (I6 e7)), (13, I6 e7), (14, ep e_ixIndex a1), (15, .ptr (.agg [ep_ixwavelet q8.f_w, I6 q8.f_length, l3 none q8.f_starts, l3 none q8.f_places]))]) (by kernel_rfl) ?_
 obtain ⟨w9, hw9, h⟩ := bind_some h
 refine WO.callK 4 (F := 51) (l := [ep_ixwavelet q8.f_w, .int .u8 a2, I6 a3]) (C := []) (r := I6 w9) (by kernel_rfl) (by kernel_rfl) (run_ix_wavelet_rank fuel q8.f_w a2 a3 w9 hw9) (e1 := [(0, ep e_ixIndex a1), (1, .int .u8 a2), (2, I6 a3), (7, ep e_ixIndex a1), (8, .ptr (.agg [ep_ixwavelet q6.f_w, I6 q6.f_length, l3 none q6.f_starts, l3 none q6.f_places])), (9, .ptr (l3 none q6.f_starts)), (10, l3 none q6.f_starts), (11, .int .u8 a2), (12, .ptr (I6 e7)), (13, I6 e7), (14, ep e_ixIndex a1), (15, .ptr (.agg [ep_ixwavelet q8.f_w, I6 q8.f_length, l3 none q8.f_starts, l3 none q8.f_places])), (16, .ptr (ep_ixwavelet q8.f_w)), (17, ep_ixwavelet q8.f_w), (18, .int .u8 a2), (19, I6 a3), (20, I6 w9)]) (by kernel_rfl) ?_
 refine WO.fin [6] [] [] [] (e2 := [(6, I6 (W6 (e7 + w9)))]) (by kernel_rfl) (fun _ h => h) ?_
 refine W.weak [6] [] [] [] (env' := [(6, I6 (W6 (e7 + w9)))]) (by kernel_rfl) ?_
 have hr : aresults Try.prog Try.f54 [(6, I6 (W6 (e7 + w9)))] = some (I6 (W6 (e7 + w9))) := by kernel_rfl
 cases h
 exact W.ret hr
def ix_Index_find_j6 (v18 : Int) (v19 : Int) : Option (Int × Int) :=
 (some (v18, (if v19 > v18 then v19 else v18)))
def ix_Index_find_l1 (fuel : Nat) (a1 : (Option ixIndex)) (a2 : ByteArray) (K6 : (Int → Int → Option (Int × Int))) : Nat → Int → Int → Int → Option (Int × Int)
 | 0, _, _, _ => none
 | m1 + 1, v8, v9, v10 => (bif (decide (v10 ≥ 0)) then ((sidx a2 v10).bind fun e14 => ((ix_Index_before fuel a1 e14 v8).bind fun w15 => ((sidx a2 v10).bind fun e16 => ((ix_Index_before fuel a1 e16 v9).bind fun w17 => ((ix_Index_find_l1 fuel a1 a2 K6 m1) w15 w17 (IntKind.wrap .i64 (v10 - 1))))))) else (K6 v8 v9))
def ix_Index_find (fuel : Nat) (a1 : (Option ixIndex)) (a2 : ByteArray) : Option (Int × Int) :=
 (a1.bind fun q5 => (ix_Index_find_l1 fuel a1 a2 (ix_Index_find_j6) fuel 0 (IntKind.wrap .i64 (q5.f_length + 1)) (IntKind.wrap .i64 ((a2.size : Int) - 1))))
theorem run_ix_Index_find (fuel : Nat) (a1 : (Option ixIndex)) (a2 : ByteArray) (r : (Int × Int)) (h : ix_Index_find fuel a1 a2 = some r) : Run Try.prog (.call 49 [ep e_ixIndex a1, .str a2] (.tup [I6 r.1, I6 r.2])) := by
 refine call_of_W Try.func49 rfl (by kernel_rfl) (env0 := [(0, ep e_ixIndex a1), (1, .str a2)]) (by kernel_rfl) ?_
 unfold ix_Index_find at h
 refine W.seq ?_
 refine W.regT [0, 1] [] [] [] (e2 := [(0, ep e_ixIndex a1), (1, .str a2)]) (by kernel_rfl) (by kernel_rfl) (fun _ h => h) ?_
 refine W.seq ?_
 refine W.region (by kernel_rfl) ?_
 obtain ⟨q5, hq5, h⟩ := bind_some h
 refine WO.pureK 1 (match a1.isNone with | false => some (AV.ptr ((epx e_ixIndex) a1)) | true => none) (v := .ptr (.agg [ep_ixwavelet q5.f_w, I6 q5.f_length, l3 none q5.f_starts, l3 none q5.f_places])) (by kernel_rfl) (nc_av (F := (epx e_ixIndex)) hq5) (e1 := [(0, ep e_ixIndex a1), (1, .str a2), (7, ep e_ixIndex a1), (8, .ptr (.agg [ep_ixwavelet q5.f_w, I6 q5.f_length, l3 none q5.f_starts, l3 none q5.f_places]))]) (by kernel_rfl) ?_
 refine WO.fin [0, 1, 4, 5] [] [] [] (e2 := [(0, ep e_ixIndex a1), (1, .str a2), (4, .int .i64 0), (5, I6 (W6 (q5.f_length + 1)))]) (by kernel_rfl) (fun _ h => h) ?_
 refine W.seq ?_
 refine W.join (σ := (Int × Int)) (fun s => [(4, I6 s.1), (5, I6 s.2)]) (fun s => (ix_Index_find_j6) s.1 s.2 = some r) (fun s h => ?_) (fun hK6 => ?_)
 ·obtain ⟨v18, v19⟩ := s
  have h : (ix_Index_find_j6) v18 v19 = some r := h
  unfold ix_Index_find_j6 at h
  refine W.seq ?_
  refine W.regT [4, 5] [] [] [] (e2 := [(4, I6 v18), (5, I6 (if v19 > v18 then v19 else v18))]) (by kernel_rfl) (by kernel_rfl) (fun _ h => h) ?_
  refine W.weak [4, 5] [] [] [] (env' := [(4, I6 v18), (5, I6 (if v19 > v18 then v19 else v18))]) (by kernel_rfl) ?_
  have hr : aresults Try.prog Try.f49 [(4, I6 v18), (5, I6 (if v19 > v18 then v19 else v18))] = some (.tup [I6 v18, I6 (if v19 > v18 then v19 else v18)]) := by kernel_rfl
  cases h
  exact W.ret hr
 refine W.seq ?_
 refine W.regT [0, 1, 4, 5, 6] [] [] [] (e2 := [(0, ep e_ixIndex a1), (1, .str a2), (4, .int .i64 0), (5, I6 (W6 (q5.f_length + 1))), (6, I6 (W6 ((a2.size : Int) - 1)))]) (by kernel_rfl) (by kernel_rfl) (fun _ h => h) ?_
 refine W.block ?_
 refine W.weak [0, 1, 4, 5, 6] [] [] [] (env' := [(0, ep e_ixIndex a1), (1, .str a2), (4, .int .i64 0), (5, I6 (W6 (q5.f_length + 1))), (6, I6 (W6 ((a2.size : Int) - 1)))]) (by kernel_rfl) ?_
 refine W.fuel (σ := (Int × Int × Int)) (fun s => [(0, ep e_ixIndex a1), (1, .str a2), (4, I6 s.1), (5, I6 s.2.1), (6, I6 s.2.2)]) (fun m0 s => ix_Index_find_l1 fuel a1 a2 (ix_Index_find_j6) m0 s.1 s.2.1 s.2.2 = some r) (fun s h => ?_) (fun m1 s h hN1 => ?_) fuel (0, (W6 (q5.f_length + 1)), (W6 ((a2.size : Int) - 1))) h
 ·obtain ⟨v8, v9, v10⟩ := s
  have h : ix_Index_find_l1 fuel a1 a2 (ix_Index_find_j6) 0 v8 v9 v10 = some r := h
  rw [ix_Index_find_l1.eq_1] at h
  cases h
 ·obtain ⟨v8, v9, v10⟩ := s
  have h : ix_Index_find_l1 fuel a1 a2 (ix_Index_find_j6) (m1 + 1) v8 v9 v10 = some r := h
  rw [ix_Index_find_l1.eq_2] at h
  refine W.seq ?_
  refine W.seq ?_
  refine W.regT [0, 1, 4, 5, 6, 16] [] [] [] (e2 := [(0, ep e_ixIndex a1), (1, .str a2), (4, I6 v8), (5, I6 v9), (6, I6 v10), (16, .bool (decide (v10 ≥ 0)))]) (by kernel_rfl) (by kernel_rfl) (fun _ h => h) ?_
  refine W.condB (decide (v10 ≥ 0)) (by kernel_rfl) (fun hb => ?_) (fun hb => ?_)
  ·replace h := cond_t hb h
   refine W.skip ?_
   refine W.weak [0, 1, 4, 5, 6] [] [] [] (env' := [(0, ep e_ixIndex a1), (1, .str a2), (4, I6 v8), (5, I6 v9), (6, I6 v10)]) (by kernel_rfl) ?_
   refine W.seq ?_
   refine W.block ?_
   refine W.region (by kernel_rfl) ?_
   obtain ⟨e14, he14, h⟩ := bind_some h
   refine WO.pureK 3 (if (0 : Int) ≤ v10 then (a2[Int.toNat v10]?).map fun b => AV.int .u8 b.toNat else none) (v := .int .u8 e14) (by kernel_rfl) (sidx_av he14) (e1 := [(0, ep e_ixIndex a1), (1, .str a2), (4, I6 v8), (5, I6 v9), (6, I6 v10), (19, ep e_ixIndex a1), (20, .str a2), (21, I6 v10), (22, .int .u8 e14)]) (by kernel_rfl) ?_
   obtain ⟨w15, hw15, h⟩ := bind_some h
   refine WO.callK 1 (F := 54) (l := [ep e_ixIndex a1, .int .u8 e14, I6 v8]) (C := []) (r := I6 w15) (by kernel_rfl) (by kernel_rfl) (run_ix_Index_before fuel a1 e14 v8 w15 hw15) (e1 := [(0, ep e_ixIndex a1), (1, .str a2), (4, I6 v8), (5, I6 v9), (6, I6 v10), (19, ep e_ixIndex a1), (20, .str a2), (21, I6 v10), (22, .int .u8 e14), (23, I6 v8), (24, I6 w15)]) (by kernel_rfl) ?_
   obtain ⟨e16, he16, h⟩ := bind_some h
   refine WO.pureK 3 (if (0 : Int) ≤ v10 then (a2[Int.toNat v10]?).map fun b => AV.int .u8 b.toNat else none) (v := .int .u8 e16) (by kernel_rfl) (sidx_av he16) (e1 := [(0, ep e_ixIndex a1), (1, .str a2), (4, I6 v8), (5, I6 v9), (6, I6 v10), (19, ep e_ixIndex a1), (20, .str a2), (21, I6 v10), (22, .int .u8 e14), (23, I6 v8), (24, I6 w15), (25, ep e_ixIndex a1), (26, .str a2), (27, I6 v10), (28, .int .u8 e16)]) (by kernel_rfl) ?_
   obtain ⟨w17, hw17, h⟩ := bind_some h
   refine WO.callK 1 (F := 54) (l := [ep e_ixIndex a1, .int .u8 e16, I6 v9]) (C := []) (r := I6 w17) (by kernel_rfl) (by kernel_rfl) (run_ix_Index_before fuel a1 e16 v9 w17 hw17) (e1 := [(0, ep e_ixIndex a1), (1, .str a2), (4, I6 v8), (5, I6 v9), (6, I6 v10), (19, ep e_ixIndex a1), (20, .str a2), (21, I6 v10), (22, .int .u8 e14), (23, I6 v8), (24, I6 w15), (25, ep e_ixIndex a1), (26, .str a2), (27, I6 v10), (28, .int .u8 e16), (29, I6 v9), (30, I6 w17)]) (by kernel_rfl) ?_
   refine WO.fin [0, 1, 4, 5, 6] [] [] [] (e2 := [(0, ep e_ixIndex a1), (1, .str a2), (4, I6 w15), (5, I6 w17), (6, I6 v10)]) (by kernel_rfl) (fun _ h => h) ?_
   refine W.regT [0, 1, 4, 5, 6] [] [] [] (e2 := [(0, ep e_ixIndex a1), (1, .str a2), (4, I6 w15), (5, I6 w17), (6, I6 (W6 (v10 - 1)))]) (by kernel_rfl) (by kernel_rfl) (fun _ h => h) ?_
   exact hN1 (w15, w17, (W6 (v10 - 1))) h
  replace h := cond_f hb h
  refine W.exit ?_
  refine W.weak [4, 5] [] [] [] (env' := [(4, I6 v8), (5, I6 v9)]) (by kernel_rfl) ?_
  exact hK6 (v8, v9) h
def ix_Index_Count (fuel : Nat) (a1 : (Option ixIndex)) (a2 : ByteArray) : Option (Int × Int) :=
 ((ix_Index_none a1).bind fun w6 => (bif w6 then (some (0, 1)) else ((ix_valid a2).bind fun w10 => (bif (!w10) then (some (0, 2)) else ((ix_Index_find fuel a1 a2).bind fun w13 => (some ((IntKind.wrap .i64 (w13.2 - w13.1)), 0)))))))
theorem run_ix_Index_Count (fuel : Nat) (a1 : (Option ixIndex)) (a2 : ByteArray) (r : (Int × Int)) (h : ix_Index_Count fuel a1 a2 = some r) : Run Try.prog (.call 32 [ep e_ixIndex a1, .str a2] (.tup [I6 r.1, I6 r.2])) := by
 refine call_of_W Try.func32 rfl (by kernel_rfl) (env0 := [(0, ep e_ixIndex a1), (1, .str a2)]) (by kernel_rfl) ?_
 unfold ix_Index_Count at h
 refine W.seq ?_
 refine W.regT [0, 1] [] [] [] (e2 := [(0, ep e_ixIndex a1), (1, .str a2)]) (by kernel_rfl) (by kernel_rfl) (fun _ h => h) ?_
 refine W.seq ?_
 refine W.seq ?_
 refine W.region (by kernel_rfl) ?_
 obtain ⟨w6, hw6, h⟩ := bind_some h
 refine WO.callK 1 (F := 48) (l := [ep e_ixIndex a1]) (C := []) (r := .bool w6) (by kernel_rfl) (by kernel_rfl) (run_ix_Index_none a1 w6 hw6) (e1 := [(0, ep e_ixIndex a1), (1, .str a2), (8, ep e_ixIndex a1), (9, .bool w6)]) (by kernel_rfl) ?_
 refine WO.fin [0, 1, 9] [] [] [] (e2 := [(0, ep e_ixIndex a1), (1, .str a2), (9, .bool w6)]) (by kernel_rfl) (fun _ h => h) ?_
 refine W.condB w6 (by kernel_rfl) (fun hb => ?_) (fun hb => ?_)
 ·replace h := cond_t hb h
  refine W.seq ?_
  refine W.regT [4, 5] [] [] [] (e2 := [(4, .int .i64 0), (5, .int .i64 1)]) (by kernel_rfl) (by kernel_rfl) (fun _ h => h) ?_
  refine W.weak [4, 5] [] [] [] (env' := [(4, .int .i64 0), (5, .int .i64 1)]) (by kernel_rfl) ?_
  have hr : aresults Try.prog Try.f32 [(4, .int .i64 0), (5, .int .i64 1)] = some (.tup [.int .i64 0, .int .i64 1]) := by kernel_rfl
  cases h
  exact W.ret hr
 replace h := cond_f hb h
 refine W.skip ?_
 refine W.weak [0, 1] [] [] [] (env' := [(0, ep e_ixIndex a1), (1, .str a2)]) (by kernel_rfl) ?_
 refine W.seq ?_
 refine W.seq ?_
 refine W.region (by kernel_rfl) ?_
 obtain ⟨w10, hw10, h⟩ := bind_some h
 refine WO.callK 1 (F := 40) (l := [.str a2]) (C := []) (r := .bool w10) (by kernel_rfl) (by kernel_rfl) (run_ix_valid a2 w10 hw10) (e1 := [(0, ep e_ixIndex a1), (1, .str a2), (10, .str a2), (11, .bool w10)]) (by kernel_rfl) ?_
 refine WO.fin [0, 1, 12] [] [] [] (e2 := [(0, ep e_ixIndex a1), (1, .str a2), (12, .bool (!w10))]) (by kernel_rfl) (fun _ h => h) ?_
 refine W.condB (!w10) (by kernel_rfl) (fun hb => ?_) (fun hb => ?_)
 ·replace h := cond_t hb h
  refine W.seq ?_
  refine W.regT [4, 5] [] [] [] (e2 := [(4, .int .i64 0), (5, .int .i64 2)]) (by kernel_rfl) (by kernel_rfl) (fun _ h => h) ?_
  refine W.weak [4, 5] [] [] [] (env' := [(4, .int .i64 0), (5, .int .i64 2)]) (by kernel_rfl) ?_
  have hr : aresults Try.prog Try.f32 [(4, .int .i64 0), (5, .int .i64 2)] = some (.tup [.int .i64 0, .int .i64 2]) := by kernel_rfl
  cases h
  exact W.ret hr
 replace h := cond_f hb h
 refine W.skip ?_
 refine W.weak [0, 1] [] [] [] (env' := [(0, ep e_ixIndex a1), (1, .str a2)]) (by kernel_rfl) ?_
 refine W.seq ?_
 refine W.region (by kernel_rfl) ?_
 obtain ⟨w13, hw13, h⟩ := bind_some h
 refine WO.callK 2 (F := 49) (l := [ep e_ixIndex a1, .str a2]) (C := []) (r := .tup [I6 w13.1, I6 w13.2]) (by kernel_rfl) (by kernel_rfl) (run_ix_Index_find fuel a1 a2 w13 hw13) (e1 := [(0, ep e_ixIndex a1), (1, .str a2), (14, ep e_ixIndex a1), (15, .str a2), (16, .tup [I6 w13.1, I6 w13.2])]) (by kernel_rfl) ?_
 refine WO.fin [6, 7] [] [] [] (e2 := [(6, I6 w13.1), (7, I6 w13.2)]) (by kernel_rfl) (fun _ h => h) ?_
 refine W.seq ?_
 refine W.regT [4, 5] [] [] [] (e2 := [(4, I6 (W6 (w13.2 - w13.1))), (5, .int .i64 0)]) (by kernel_rfl) (by kernel_rfl) (fun _ h => h) ?_
 refine W.weak [4, 5] [] [] [] (env' := [(4, I6 (W6 (w13.2 - w13.1))), (5, .int .i64 0)]) (by kernel_rfl) ?_
 have hr : aresults Try.prog Try.f32 [(4, I6 (W6 (w13.2 - w13.1))), (5, .int .i64 0)] = some (.tup [I6 (W6 (w13.2 - w13.1)), .int .i64 0]) := by kernel_rfl
 cases h
 exact W.ret hr
def sl_Clone_int_own (a1 : (List Int)) : Option (List Int) := chk (capOk 8 (0 + a1.length)) (some a1)
theorem run_sl_Clone_int_own (a1 : (List Int)) (r : (List Int)) (h : sl_Clone_int_own a1 = some r) : Run Try.prog (.callM 50 [l3 none a1] [] (.sb 1900000 3 1 0 r.length) [(1900000, .obj 3 1 (M6 r))]) := by
 refine callM_of_W Try.func50 rfl (by kernel_rfl) (env0 := [(0, l3 none a1)]) (by kernel_rfl) ?_
 unfold sl_Clone_int_own at h
 obtain ⟨hc, h⟩ := chk_some h
 cases h
 refine W.regS [0] [] [] [] (e2 := [(0, l3 none a1)]) (by kernel_rfl) (by kernel_rfl) ?_
 refine W.seqU (e0 := [(0, l3 none a1), (3, l3 none a1), (4, .ub (M6 a1).isEmpty)]) (e2 := [(2, .sb 1900000 3 1 0 a1.length), (1900000, .obj 3 1 (M6 a1))]) (ei := [(0, l3 none a1)]) (M6 a1).isEmpty ?_ (by kernel_rfl) (fun hp => ?_) ?_ ?_ ?_
 ·exact W.region (by kernel_rfl) (WO.end0 (e2 := [(0, l3 none a1), (3, l3 none a1), (4, .ub (M6 a1).isEmpty)]) (by kernel_rfl) ⟨rfl, rfl⟩)
 ·have hl : a1 = [] := by simpa using hp
  subst hl
  refine W.regS [2] [] [] [] (e2 := [(2, .nils)]) (by kernel_rfl) (by kernel_rfl) ?_
  refine W.mv [.nil 2 3 1 1900000] (env' := [(2, .sb 1900000 3 1 0 0), (1900000, .obj 3 1 [])]) (by kernel_rfl) ?_
  exact W.ret ⟨rfl, rfl⟩
 ·refine W.weak [0] [] [] [] (env' := [(0, l3 none a1)]) (by kernel_rfl) ?_
  exact W.skip ⟨rfl, rfl⟩
 ·refine W.seq ?_
  refine W.region (by kernel_rfl) ?_
  refine WO.rowK 0 (e1 := [(0, l3 none a1), (5, .sb 1000005 3 1 0 0), (1000005, .obj 3 1 [])]) (by kernel_rfl) ?_
  refine WO.appendOK 1 (d := 7) (e := 3) (s := 1) (bytes := 8) (m := 0) (n2 := a1.length) (xs := []) (ys := (M6 a1)) (zs := (M6 a1)) (env1 := [(0, l3 none a1), (5, .top), (6, l3 none a1)]) (by kernel_rfl) (by rw [List.length_map]; exact hc) rfl (List.length_map _) (e1 := [(0, l3 none a1), (5, .top), (6, l3 none a1), (7, .sb 1000007 3 1 0 a1.length), (1000007, .obj 3 1 (M6 a1))]) (by kernel_rfl) ?_
  refine WO.fin [2, 1000007] [] [] [] (e2 := [(2, .sb 1000007 3 1 0 a1.length), (1000007, .obj 3 1 (M6 a1))]) (by kernel_rfl) (fun _ h => h) ?_
  refine W.mv [.ren 1000007 1900000] (env' := [(2, .sb 1900000 3 1 0 a1.length), (1900000, .obj 3 1 (M6 a1))]) (by kernel_rfl) ?_
  exact W.ret ⟨rfl, rfl⟩
 ·exact ⟨by kernel_rfl, by kernel_rfl⟩
def sl_Sort_int (a1 : (List Int)) (n1 : Nat) : Option (List Int) := chk (decide (n1 = a1.length ∧ a1.length < 4611686018427387904)) (some (sortI a1))
theorem run_sl_Sort_int (a1 : (List Int)) (n1 : Nat) (r : (List Int)) (h : sl_Sort_int a1 n1 = some r) : Run Try.prog (.callM 31 [.sb 2000000 3 1 0 n1] [(2000000, .obj 3 1 (M6 a1))] (.tup []) [(2000000, .obj 3 1 (M6 r))]) := by
 unfold sl_Sort_int at h
 obtain ⟨hp, h⟩ := chk_some h
 cases h
 obtain ⟨h1, h3⟩ := of_decide_eq_true hp
 subst h1
 by_cases h2 : a1 = []
 ·subst h2
  have e : sortI [] = [] := by simp [sortI]
  rw [e]
  exact .extM sortNone31 (fun id x hx => by simp only [look] at hx; split at hx <;> cases hx; rfl)
 exact .extSort rfl h2 h3 knownSort31
def ix_Index_Locate (fuel : Nat) (a1 : (Option ixIndex)) (a2 : ByteArray) : Option ((List Int) × Int) :=
 ((ix_Index_none a1).bind fun w6 => (bif w6 then (some ((snap 0 (([] : (List Int)).length) ([] : (List Int))), 1)) else ((ix_valid a2).bind fun w10 => (bif (!w10) then (some ((snap 0 (([] : (List Int)).length) ([] : (List Int))), 2)) else ((ix_Index_find fuel a1 a2).bind fun w13 => (a1.bind fun q15 => ((sub q15.f_places w13.1 w13.2).bind fun e16 => ((sl_Clone_int_own e16).bind fun w17 => ((sl_Sort_int w17 ((w17).length)).bind fun w19 => (some ((snap 0 ((w17).length) w19), 0)))))))))))
theorem run_ix_Index_Locate (fuel : Nat) (a1 : (Option ixIndex)) (a2 : ByteArray) (r : ((List Int) × Int)) (h : ix_Index_Locate fuel a1 a2 = some r) : Run Try.prog (.call 33 [ep e_ixIndex a1, .str a2] (.tup [l3 none r.1, I6 r.2])) := by
 refine call_of_W Try.func33 rfl (by kernel_rfl) (env0 := [(0, ep e_ixIndex a1), (1, .str a2)]) (by kernel_rfl) ?_
 unfold ix_Index_Locate at h
 refine W.seq ?_
 refine W.region (by kernel_rfl) ?_
 refine WO.steps 1 (e1 := [(0, ep e_ixIndex a1), (1, .str a2), (4, .nils)]) (by kernel_rfl) ?_
 refine WO.mv [.nil 4 3 1 1200004] (env' := [(0, ep e_ixIndex a1), (1, .str a2), (4, .sb 1200004 3 1 0 (([] : (List Int)).length)), (1200004, .obj 3 1 (M6 ([] : (List Int))))]) (by kernel_rfl) ?_
 refine WO.fin [0, 1] [] [] [] (e2 := [(0, ep e_ixIndex a1), (1, .str a2)]) (by kernel_rfl) (fun _ h => h) ?_
 refine W.seq ?_
 refine W.seq ?_
 refine W.region (by kernel_rfl) ?_
 obtain ⟨w6, hw6, h⟩ := bind_some h
 refine WO.callK 1 (F := 48) (l := [ep e_ixIndex a1]) (C := []) (r := .bool w6) (by kernel_rfl) (by kernel_rfl) (run_ix_Index_none a1 w6 hw6) (e1 := [(0, ep e_ixIndex a1), (1, .str a2), (9, ep e_ixIndex a1), (10, .bool w6)]) (by kernel_rfl) ?_
 refine WO.fin [0, 1, 10] [] [] [] (e2 := [(0, ep e_ixIndex a1), (1, .str a2), (10, .bool w6)]) (by kernel_rfl) (fun _ h => h) ?_
 refine W.condB w6 (by kernel_rfl) (fun hb => ?_) (fun hb => ?_)
 ·replace h := cond_t hb h
  refine W.seq ?_
  refine W.region (by kernel_rfl) ?_
  refine WO.steps 1 (e1 := [(0, ep e_ixIndex a1), (1, .str a2), (4, .nils), (10, .bool w6)]) (by kernel_rfl) ?_
  refine WO.mv [.nil 4 3 1 1200004] (env' := [(0, ep e_ixIndex a1), (1, .str a2), (4, .sb 1200004 3 1 0 (([] : (List Int)).length)), (10, .bool w6), (1200004, .obj 3 1 (M6 ([] : (List Int))))]) (by kernel_rfl) ?_
  refine WO.fin [4, 5, 1200004] [] [] [] (e2 := [(4, .sb 1200004 3 1 0 (([] : (List Int)).length)), (5, .int .i64 1), (1200004, .obj 3 1 (M6 ([] : (List Int))))]) (by kernel_rfl) (fun _ h => h) ?_
  refine W.mv [.frz 1200004] (env' := [(4, l3 none (snap 0 (([] : (List Int)).length) ([] : (List Int)))), (5, .int .i64 1)]) ((by kernel_rfl : mvAll [(4, .sb 1200004 3 1 0 (([] : (List Int)).length)), (5, .int .i64 1), (1200004, .obj 3 1 (M6 ([] : (List Int))))] [.frz 1200004] = [(4, .lst 3 1 none (snapA 0 (([] : (List Int)).length) (M6 ([] : (List Int))))), (5, .int .i64 1)]).trans (by first | (simp only [snap_map, snap_full, snap_rep]; done) | (simp only [snap_map, snap_full, snap_rep]; kernel_rfl))) ?_
  refine W.weak [4, 5] [] [] [] (env' := [(4, l3 none (snap 0 (([] : (List Int)).length) ([] : (List Int)))), (5, .int .i64 1)]) (by kernel_rfl) ?_
  have hr : aresults Try.prog Try.f33 [(4, l3 none (snap 0 (([] : (List Int)).length) ([] : (List Int)))), (5, .int .i64 1)] = some (.tup [l3 none (snap 0 (([] : (List Int)).length) ([] : (List Int))), .int .i64 1]) := by kernel_rfl
  cases h
  exact W.ret hr
 replace h := cond_f hb h
 refine W.skip ?_
 refine W.weak [0, 1] [] [] [] (env' := [(0, ep e_ixIndex a1), (1, .str a2)]) (by kernel_rfl) ?_
 refine W.seq ?_
 refine W.seq ?_
 refine W.region (by kernel_rfl) ?_
 obtain ⟨w10, hw10, h⟩ := bind_some h
 refine WO.callK 1 (F := 40) (l := [.str a2]) (C := []) (r := .bool w10) (by kernel_rfl) (by kernel_rfl) (run_ix_valid a2 w10 hw10) (e1 := [(0, ep e_ixIndex a1), (1, .str a2), (11, .str a2), (12, .bool w10)]) (by kernel_rfl) ?_
 refine WO.fin [0, 1, 13] [] [] [] (e2 := [(0, ep e_ixIndex a1), (1, .str a2), (13, .bool (!w10))]) (by kernel_rfl) (fun _ h => h) ?_
 refine W.condB (!w10) (by kernel_rfl) (fun hb => ?_) (fun hb => ?_)
 ·replace h := cond_t hb h
  refine W.seq ?_
  refine W.region (by kernel_rfl) ?_
  refine WO.steps 1 (e1 := [(0, ep e_ixIndex a1), (1, .str a2), (4, .nils), (13, .bool (!w10))]) (by kernel_rfl) ?_
  refine WO.mv [.nil 4 3 1 1200004] (env' := [(0, ep e_ixIndex a1), (1, .str a2), (4, .sb 1200004 3 1 0 (([] : (List Int)).length)), (13, .bool (!w10)), (1200004, .obj 3 1 (M6 ([] : (List Int))))]) (by kernel_rfl) ?_
  refine WO.fin [4, 5, 1200004] [] [] [] (e2 := [(4, .sb 1200004 3 1 0 (([] : (List Int)).length)), (5, .int .i64 2), (1200004, .obj 3 1 (M6 ([] : (List Int))))]) (by kernel_rfl) (fun _ h => h) ?_
  refine W.mv [.frz 1200004] (env' := [(4, l3 none (snap 0 (([] : (List Int)).length) ([] : (List Int)))), (5, .int .i64 2)]) ((by kernel_rfl : mvAll [(4, .sb 1200004 3 1 0 (([] : (List Int)).length)), (5, .int .i64 2), (1200004, .obj 3 1 (M6 ([] : (List Int))))] [.frz 1200004] = [(4, .lst 3 1 none (snapA 0 (([] : (List Int)).length) (M6 ([] : (List Int))))), (5, .int .i64 2)]).trans (by first | (simp only [snap_map, snap_full, snap_rep]; done) | (simp only [snap_map, snap_full, snap_rep]; kernel_rfl))) ?_
  refine W.weak [4, 5] [] [] [] (env' := [(4, l3 none (snap 0 (([] : (List Int)).length) ([] : (List Int)))), (5, .int .i64 2)]) (by kernel_rfl) ?_
  have hr : aresults Try.prog Try.f33 [(4, l3 none (snap 0 (([] : (List Int)).length) ([] : (List Int)))), (5, .int .i64 2)] = some (.tup [l3 none (snap 0 (([] : (List Int)).length) ([] : (List Int))), .int .i64 2]) := by kernel_rfl
  cases h
  exact W.ret hr
 replace h := cond_f hb h
 refine W.skip ?_
 refine W.weak [0, 1] [] [] [] (env' := [(0, ep e_ixIndex a1), (1, .str a2)]) (by kernel_rfl) ?_
 refine W.seq ?_
 refine W.region (by kernel_rfl) ?_
 obtain ⟨w13, hw13, h⟩ := bind_some h
 refine WO.callK 2 (F := 49) (l := [ep e_ixIndex a1, .str a2]) (C := []) (r := .tup [I6 w13.1, I6 w13.2]) (by kernel_rfl) (by kernel_rfl) (run_ix_Index_find fuel a1 a2 w13 hw13) (e1 := [(0, ep e_ixIndex a1), (1, .str a2), (15, ep e_ixIndex a1), (16, .str a2), (17, .tup [I6 w13.1, I6 w13.2])]) (by kernel_rfl) ?_
 refine WO.fin [0, 6, 7] [] [] [] (e2 := [(0, ep e_ixIndex a1), (6, I6 w13.1), (7, I6 w13.2)]) (by kernel_rfl) (fun _ h => h) ?_
 refine W.seq ?_
 refine W.region (by kernel_rfl) ?_
 obtain ⟨q15, hq15, h⟩ := bind_some h
 refine WO.pureK 1 (match a1.isNone with | false => some (AV.ptr ((epx e_ixIndex) a1)) | true => none) (v := .ptr (.agg [ep_ixwavelet q15.f_w, I6 q15.f_length, l3 none q15.f_starts, l3 none q15.f_places])) (by kernel_rfl) (nc_av (F := (epx e_ixIndex)) hq15) (e1 := [(0, ep e_ixIndex a1), (6, I6 w13.1), (7, I6 w13.2), (20, ep e_ixIndex a1), (21, .ptr (.agg [ep_ixwavelet q15.f_w, I6 q15.f_length, l3 none q15.f_starts, l3 none q15.f_places]))]) (by kernel_rfl) ?_
 obtain ⟨e16, he16, h⟩ := bind_some h
 refine WO.pureK 4 (if (0 : Int) ≤ w13.1 ∧ w13.1 ≤ w13.2 ∧ w13.2 ≤ ((M6 q15.f_places).length : Int) then some (.lst 3 1 none (((M6 q15.f_places).take (Int.toNat w13.2)).drop (Int.toNat w13.1))) else none) (v := l3 none e16) (by kernel_rfl) (sub_av he16) (e1 := [(0, ep e_ixIndex a1), (6, I6 w13.1), (7, I6 w13.2), (20, ep e_ixIndex a1), (21, .ptr (.agg [ep_ixwavelet q15.f_w, I6 q15.f_length, l3 none q15.f_starts, l3 none q15.f_places])), (22, .ptr (l3 none q15.f_places)), (23, l3 none q15.f_places), (24, I6 w13.1), (25, I6 w13.2), (26, l3 none e16)]) (by kernel_rfl) ?_
 obtain ⟨w17, hw17, h⟩ := bind_some h
 refine WO.callMK 0 [] [(1000027, 1900000)] (F := 50) (args := [l3 none e16]) (hp := []) (hp2 := [(1900000, .obj 3 1 (M6 w17))]) (r := .sb 1900000 3 1 0 ((w17).length)) (by kernel_rfl) (run_sl_Clone_int_own e16 w17 hw17) (e1 := [(0, ep e_ixIndex a1), (6, I6 w13.1), (7, I6 w13.2), (20, ep e_ixIndex a1), (21, .ptr (.agg [ep_ixwavelet q15.f_w, I6 q15.f_length, l3 none q15.f_starts, l3 none q15.f_places])), (22, .ptr (l3 none q15.f_places)), (23, l3 none q15.f_places), (24, I6 w13.1), (25, I6 w13.2), (26, l3 none e16), (27, .sb 1000027 3 1 0 ((w17).length)), (1000027, .obj 3 1 (M6 w17))]) (by kernel_rfl) ?_
 refine WO.fin [8, 1000027] [] [] [] (e2 := [(8, .sb 1000027 3 1 0 ((w17).length)), (1000027, .obj 3 1 (M6 w17))]) (by kernel_rfl) (fun _ h => h) ?_
 refine W.seq ?_
 refine W.region (by kernel_rfl) ?_
 obtain ⟨w19, hw19, h⟩ := bind_some h
 refine WO.callMK 1 [(1000027, 2000000)] [] (F := 31) (args := [.sb 2000000 3 1 0 ((w17).length)]) (hp := [(2000000, .obj 3 1 (M6 w17))]) (hp2 := [(2000000, .obj 3 1 (M6 w19))]) (r := .tup []) (by kernel_rfl) (run_sl_Sort_int w17 ((w17).length) w19 hw19) (e1 := [(8, .sb 1000027 3 1 0 ((w17).length)), (28, .sb 1000027 3 1 0 ((w17).length)), (29, .tup []), (1000027, .obj 3 1 (M6 w19))]) (by kernel_rfl) ?_
 refine WO.fin [8, 1000027] [] [] [] (e2 := [(8, .sb 1000027 3 1 0 ((w17).length)), (1000027, .obj 3 1 (M6 w19))]) (by kernel_rfl) (fun _ h => h) ?_
 refine W.seq ?_
 refine W.regT [4, 5, 1000027] [] [] [] (e2 := [(4, .sb 1000027 3 1 0 ((w17).length)), (5, .int .i64 0), (1000027, .obj 3 1 (M6 w19))]) (by kernel_rfl) (by kernel_rfl) (fun _ h => h) ?_
 refine W.mv [.frz 1000027] (env' := [(4, l3 none (snap 0 ((w17).length) w19)), (5, .int .i64 0)]) ((by kernel_rfl : mvAll [(4, .sb 1000027 3 1 0 ((w17).length)), (5, .int .i64 0), (1000027, .obj 3 1 (M6 w19))] [.frz 1000027] = [(4, .lst 3 1 none (snapA 0 ((w17).length) (M6 w19))), (5, .int .i64 0)]).trans (by first | (simp only [snap_map, snap_full, snap_rep]; done) | (simp only [snap_map, snap_full, snap_rep]; kernel_rfl))) ?_
 refine W.weak [4, 5] [] [] [] (env' := [(4, l3 none (snap 0 ((w17).length) w19)), (5, .int .i64 0)]) (by kernel_rfl) ?_
 have hr : aresults Try.prog Try.f33 [(4, l3 none (snap 0 ((w17).length) w19)), (5, .int .i64 0)] = some (.tup [l3 none (snap 0 ((w17).length) w19), .int .i64 0]) := by kernel_rfl
 cases h
 exact W.ret hr
def lw4_IndexSteps_j12 (v15 : Bool) : Option Bool :=
 (some v15)
def lw4_IndexSteps_j26 (v28 : Bool) : Option Bool :=
 (some v28)
def lw4_IndexSteps_j45 (v48 : Bool) : Option Bool :=
 (some v48)
def lw4_IndexSteps_j30 (w17 : (Int × Int)) (w19 : ((List Int) × Int)) (v44 : (List Int)) : Option Bool :=
 (bif (w17.1 == (w19.1.length : Int)) then ((sl_Equal_int w19.1 v44).bind fun w46 => (bif w46 then ((lw4_awake).bind fun w47 => ((lw4_IndexSteps_j45) w47)) else ((lw4_IndexSteps_j45) false))) else ((lw4_IndexSteps_j45) false))
def lw4_IndexSteps_j33 (N1 : ((List Int) → Option Bool)) (v43 : (List Int)) : Option Bool :=
 (N1 v43)
def lw4_IndexSteps_j38 (x1 : Int) (v32 : (List Int)) (K33 : ((List Int) → Option Bool)) (v41 : Bool) : Option Bool :=
 (bif v41 then (chk (capOk 8 ((v32 ++ [(IntKind.wrap .i64 (x1 - 1))])).length) (K33 (v32 ++ [(IntKind.wrap .i64 (x1 - 1))]))) else (K33 v32))
def lw4_IndexSteps_l1 (w5 : ByteArray) (w6 : ByteArray) (K30 : ((List Int) → Option Bool)) : List Int → Nat → (List Int) → Option Bool
 | [], k1, v32 => (K30 v32)
 | x1 :: r1, k1, v32 => (bif (decide (x1 > (w5.size : Int))) then (some false) else (bif (decide (x1 > 0)) then ((sidx w5 (IntKind.wrap .i64 (x1 - 1))).bind fun e39 => ((sidx w6 0).bind fun e40 => ((lw4_IndexSteps_j38 x1 v32 (lw4_IndexSteps_j33 (lw4_IndexSteps_l1 w5 w6 K30 r1 (k1 + 1)))) (e39 == e40)))) else ((lw4_IndexSteps_j38 x1 v32 (lw4_IndexSteps_j33 (lw4_IndexSteps_l1 w5 w6 K30 r1 (k1 + 1)))) false)))
def lw4_IndexSteps_j24 (w5 : ByteArray) (w6 : ByteArray) (w17 : (Int × Int)) (w19 : ((List Int) × Int)) (w22 : ((List Int) × Int)) (v25 : Bool) : Option Bool :=
 (bif v25 then (bif (w17.2 == 2) then (bif (w19.2 == 2) then ((lw4_awake).bind fun w27 => ((lw4_IndexSteps_j26) w27)) else ((lw4_IndexSteps_j26) false)) else ((lw4_IndexSteps_j26) false)) else (chk (lenOk w22.1) (lw4_IndexSteps_l1 w5 w6 (lw4_IndexSteps_j30 w17 w19) w22.1 0 ([] : (List Int)))))
def lw4_IndexSteps_j10 (fuel : Nat) (w5 : ByteArray) (w6 : ByteArray) (w8 : ((Option ixIndex) × Int)) (v11 : Bool) : Option Bool :=
 (bif v11 then (bif (w8.2 == 0) then ((lw4_awake).bind fun w13 => ((lw4_IndexSteps_j12) w13)) else (bif (w8.2 == 2) then ((lw4_awake).bind fun w14 => ((lw4_IndexSteps_j12) w14)) else ((lw4_IndexSteps_j12) false))) else ((ix_Index_Count fuel w8.1 w6).bind fun w17 => ((ix_Index_Locate fuel w8.1 w6).bind fun w19 => ((ssub w6 1 (w6.size : Int)).bind fun e21 => ((ix_Index_Locate fuel w8.1 e21).bind fun w22 => (bif (w17.2 != 0) then ((lw4_IndexSteps_j24 w5 w6 w17 w19 w22) true) else (bif (w19.2 != 0) then ((lw4_IndexSteps_j24 w5 w6 w17 w19 w22) true) else ((lw4_IndexSteps_j24 w5 w6 w17 w19 w22) (w22.2 != 0)))))))))
def lw4_IndexSteps (fuel : Nat) (a1 : ByteArray) (a2 : ByteArray) : Option Bool :=
 ((lw4_few a1).bind fun w5 => ((lw4_few a2).bind fun w6 => ((ix_New fuel w5).bind fun w8 => (bif (w8.2 != 0) then ((lw4_IndexSteps_j10 fuel w5 w6 w8) true) else ((lw4_IndexSteps_j10 fuel w5 w6 w8) (w6.toList == (ByteArray.mk #[]).toList))))))
theorem run_lw4_IndexSteps (fuel : Nat) (a1 : ByteArray) (a2 : ByteArray) (r : Bool) (h : lw4_IndexSteps fuel a1 a2 = some r) : Run Try.prog (.call 9 [.str a1, .str a2] (.bool r)) := by
 refine call_of_W Try.func9 rfl (by kernel_rfl) (env0 := [(0, .str a1), (1, .str a2)]) (by kernel_rfl) ?_
 unfold lw4_IndexSteps at h
 refine W.seq ?_
 refine W.regT [0, 1] [] [] [] (e2 := [(0, .str a1), (1, .str a2)]) (by kernel_rfl) (by kernel_rfl) (fun _ h => h) ?_
 refine W.seq ?_
 refine W.region (by kernel_rfl) ?_
 obtain ⟨w5, hw5, h⟩ := bind_some h
 refine WO.callK 1 (F := 14) (l := [.str a1]) (C := []) (r := .str w5) (by kernel_rfl) (by kernel_rfl) (run_lw4_few a1 w5 hw5) (e1 := [(0, .str a1), (1, .str a2), (15, .str a1), (16, .str w5)]) (by kernel_rfl) ?_
 obtain ⟨w6, hw6, h⟩ := bind_some h
 refine WO.callK 1 (F := 14) (l := [.str a2]) (C := []) (r := .str w6) (by kernel_rfl) (by kernel_rfl) (run_lw4_few a2 w6 hw6) (e1 := [(0, .str a1), (1, .str a2), (15, .str a1), (16, .str w5), (17, .str a2), (18, .str w6)]) (by kernel_rfl) ?_
 refine WO.fin [0, 1] [] [] [] (e2 := [(0, .str w5), (1, .str w6)]) (by kernel_rfl) (fun _ h => h) ?_
 refine W.seq ?_
 refine W.region (by kernel_rfl) ?_
 obtain ⟨w8, hw8, h⟩ := bind_some h
 refine WO.callK 1 (F := 36) (l := [.str w5]) (C := []) (r := .tup [ep e_ixIndex w8.1, I6 w8.2]) (by kernel_rfl) (by kernel_rfl) (run_ix_New fuel w5 w8 hw8) (e1 := [(0, .str w5), (1, .str w6), (20, .str w5), (21, .tup [ep e_ixIndex w8.1, I6 w8.2])]) (by kernel_rfl) ?_
 refine WO.fin [0, 1, 5, 6] [] [] [] (e2 := [(0, .str w5), (1, .str w6), (5, ep e_ixIndex w8.1), (6, I6 w8.2)]) (by kernel_rfl) (fun _ h => h) ?_
 refine W.seq ?_
 refine W.seq ?_
 refine W.join (σ := (Bool)) (fun s => [(0, .str w5), (1, .str w6), (5, ep e_ixIndex w8.1), (6, I6 w8.2), (29, .bool s)]) (fun s => (lw4_IndexSteps_j10 fuel w5 w6 w8) s = some r) (fun s h => ?_) (fun hK10 => ?_)
 ·obtain ⟨v11, rfl⟩ : ∃ x, x = s := ⟨s, rfl⟩
  have h : (lw4_IndexSteps_j10 fuel w5 w6 w8) v11 = some r := h
  unfold lw4_IndexSteps_j10 at h
  refine W.condB v11 (by kernel_rfl) (fun hb => ?_) (fun hb => ?_)
  ·replace h := cond_t hb h
   refine W.seq ?_
   refine W.join (σ := (Bool)) (fun s => [(4, .bool s)]) (fun s => (lw4_IndexSteps_j12) s = some r) (fun s h => ?_) (fun hK12 => ?_)
   ·obtain ⟨v15, rfl⟩ : ∃ x, x = s := ⟨s, rfl⟩
    have h : (lw4_IndexSteps_j12) v15 = some r := h
    unfold lw4_IndexSteps_j12 at h
    refine W.weak [4] [] [] [] (env' := [(4, .bool v15)]) (by kernel_rfl) ?_
    have hr : aresults Try.prog Try.f9 [(4, .bool v15)] = some (.bool v15) := by kernel_rfl
    cases h
    exact W.ret hr
   refine W.region (by kernel_rfl) ?_
   refine WO.boolK 3 (fun b => [(0, .str w5), (1, .str w6), (5, ep e_ixIndex w8.1), (6, I6 w8.2), (29, .bool v11), (30, I6 w8.2), (31, .bool b), (32, .bool b)]) (w8.2 == 0) (by kernel_rfl) (fun hb => ?_) (fun hb => ?_)
   ·replace h := cond_t hb h
    obtain ⟨w13, hw13, h⟩ := bind_some h
    refine WO.callK 4 (F := 18) (l := []) (C := []) (r := .bool w13) (by kernel_rfl) (by kernel_rfl) (run_lw4_awake w13 hw13) (e1 := [(0, .str w5), (1, .str w6), (5, ep e_ixIndex w8.1), (6, I6 w8.2), (29, .bool v11), (30, I6 w8.2), (31, .bool true), (32, .bool true), (33, .und), (34, .und), (35, .bool true), (36, .bool true), (37, .bool w13)]) (by kernel_rfl) ?_
    refine WO.fin [4] [] [] [] (e2 := [(4, .bool w13)]) (by kernel_rfl) (fun _ h => h) ?_
    exact hK12 w13 h
   replace h := cond_f hb h
   refine WO.boolK 4 (fun b => [(0, .str w5), (1, .str w6), (5, ep e_ixIndex w8.1), (6, I6 w8.2), (29, .bool v11), (30, I6 w8.2), (31, .bool false), (32, .bool false), (33, I6 w8.2), (34, .bool b), (35, .bool b), (36, .bool b)]) (w8.2 == 2) (by kernel_rfl) (fun hb => ?_) (fun hb => ?_)
   ·replace h := cond_t hb h
    obtain ⟨w14, hw14, h⟩ := bind_some h
    refine WO.callK 0 (F := 18) (l := []) (C := []) (r := .bool w14) (by kernel_rfl) (by kernel_rfl) (run_lw4_awake w14 hw14) (e1 := [(0, .str w5), (1, .str w6), (5, ep e_ixIndex w8.1), (6, I6 w8.2), (29, .bool v11), (30, I6 w8.2), (31, .bool false), (32, .bool false), (33, I6 w8.2), (34, .bool true), (35, .bool true), (36, .bool true), (37, .bool w14)]) (by kernel_rfl) ?_
    refine WO.fin [4] [] [] [] (e2 := [(4, .bool w14)]) (by kernel_rfl) (fun _ h => h) ?_
    exact hK12 w14 h
   replace h := cond_f hb h
   refine WO.fin [4] [] [] [] (e2 := [(4, .bool false)]) (by kernel_rfl) (fun _ h => h) ?_
   exact hK12 false h
  replace h := cond_f hb h
  refine W.skip ?_
  refine W.weak [0, 1, 5] [] [] [] (env' := [(0, .str w5), (1, .str w6), (5, ep e_ixIndex w8.1)]) (by kernel_rfl) ?_
  refine W.seq ?_
  refine W.region (by kernel_rfl) ?_
  obtain ⟨w17, hw17, h⟩ := bind_some h
  refine WO.callK 2 (F := 32) (l := [ep e_ixIndex w8.1, .str w6]) (C := []) (r := .tup [I6 w17.1, I6 w17.2]) (by kernel_rfl) (by kernel_rfl) (run_ix_Index_Count fuel w8.1 w6 w17 hw17) (e1 := [(0, .str w5), (1, .str w6), (5, ep e_ixIndex w8.1), (40, ep e_ixIndex w8.1), (41, .str w6), (42, .tup [I6 w17.1, I6 w17.2])]) (by kernel_rfl) ?_
  refine WO.fin [0, 1, 5, 6, 7] [] [] [] (e2 := [(0, .str w5), (1, .str w6), (5, ep e_ixIndex w8.1), (6, I6 w17.2), (7, I6 w17.1)]) (by kernel_rfl) (fun _ h => h) ?_
  refine W.seq ?_
  refine W.region (by kernel_rfl) ?_
  obtain ⟨w19, hw19, h⟩ := bind_some h
  refine WO.callK 2 (F := 33) (l := [ep e_ixIndex w8.1, .str w6]) (C := []) (r := .tup [l3 none w19.1, I6 w19.2]) (by kernel_rfl) (by kernel_rfl) (run_ix_Index_Locate fuel w8.1 w6 w19 hw19) (e1 := [(0, .str w5), (1, .str w6), (5, ep e_ixIndex w8.1), (6, I6 w17.2), (7, I6 w17.1), (46, ep e_ixIndex w8.1), (47, .str w6), (48, .tup [l3 none w19.1, I6 w19.2])]) (by kernel_rfl) ?_
  refine WO.fin [0, 1, 5, 6, 7, 8, 9] [] [] [] (e2 := [(0, .str w5), (1, .str w6), (5, ep e_ixIndex w8.1), (6, I6 w17.2), (7, I6 w17.1), (8, l3 none w19.1), (9, I6 w19.2)]) (by kernel_rfl) (fun _ h => h) ?_
  refine W.seq ?_
  refine W.region (by kernel_rfl) ?_
  obtain ⟨e21, he21, h⟩ := bind_some h
  refine WO.pureK 2 (if (0 : Int) ≤ 1 ∧ 1 ≤ (w6.size : Int) ∧ (w6.size : Int) ≤ (w6.size : Int) then some (AV.str (w6.extract (Int.toNat 1) (Int.toNat (w6.size : Int)))) else none) (v := .str e21) (by kernel_rfl) (ssub_av he21) (e1 := [(0, .str w5), (1, .str w6), (5, ep e_ixIndex w8.1), (6, I6 w17.2), (7, I6 w17.1), (8, l3 none w19.1), (9, I6 w19.2), (52, ep e_ixIndex w8.1), (53, .str w6), (54, .str e21)]) (by kernel_rfl) ?_
  obtain ⟨w22, hw22, h⟩ := bind_some h
  refine WO.callK 0 (F := 33) (l := [ep e_ixIndex w8.1, .str e21]) (C := []) (r := .tup [l3 none w22.1, I6 w22.2]) (by kernel_rfl) (by kernel_rfl) (run_ix_Index_Locate fuel w8.1 e21 w22 hw22) (e1 := [(0, .str w5), (1, .str w6), (5, ep e_ixIndex w8.1), (6, I6 w17.2), (7, I6 w17.1), (8, l3 none w19.1), (9, I6 w19.2), (52, ep e_ixIndex w8.1), (53, .str w6), (54, .str e21), (55, .tup [l3 none w22.1, I6 w22.2])]) (by kernel_rfl) ?_
  refine WO.fin [0, 1, 6, 7, 8, 9, 10, 11] [] [] [] (e2 := [(0, .str w5), (1, .str w6), (6, I6 w17.2), (7, I6 w17.1), (8, l3 none w19.1), (9, I6 w19.2), (10, l3 none w22.1), (11, I6 w22.2)]) (by kernel_rfl) (fun _ h => h) ?_
  refine W.seq ?_
  refine W.seq ?_
  refine W.join (σ := (Bool)) (fun s => [(0, .str w5), (1, .str w6), (6, I6 w17.2), (7, I6 w17.1), (8, l3 none w19.1), (9, I6 w19.2), (10, l3 none w22.1), (67, .bool s)]) (fun s => (lw4_IndexSteps_j24 w5 w6 w17 w19 w22) s = some r) (fun s h => ?_) (fun hK24 => ?_)
  ·obtain ⟨v25, rfl⟩ : ∃ x, x = s := ⟨s, rfl⟩
   have h : (lw4_IndexSteps_j24 w5 w6 w17 w19 w22) v25 = some r := h
   unfold lw4_IndexSteps_j24 at h
   refine W.condB v25 (by kernel_rfl) (fun hb => ?_) (fun hb => ?_)
   ·replace h := cond_t hb h
    refine W.seq ?_
    refine W.join (σ := (Bool)) (fun s => [(4, .bool s)]) (fun s => (lw4_IndexSteps_j26) s = some r) (fun s h => ?_) (fun hK26 => ?_)
    ·obtain ⟨v28, rfl⟩ : ∃ x, x = s := ⟨s, rfl⟩
     have h : (lw4_IndexSteps_j26) v28 = some r := h
     unfold lw4_IndexSteps_j26 at h
     refine W.weak [4] [] [] [] (env' := [(4, .bool v28)]) (by kernel_rfl) ?_
     have hr : aresults Try.prog Try.f9 [(4, .bool v28)] = some (.bool v28) := by kernel_rfl
     cases h
     exact W.ret hr
    refine W.region (by kernel_rfl) ?_
    refine WO.boolK 3 (fun b => [(0, .str w5), (1, .str w6), (6, I6 w17.2), (7, I6 w17.1), (8, l3 none w19.1), (9, I6 w19.2), (10, l3 none w22.1), (67, .bool v25), (68, I6 w17.2), (69, .bool b), (70, .bool b)]) (w17.2 == 2) (by kernel_rfl) (fun hb => ?_) (fun hb => ?_)
    ·replace h := cond_t hb h
     refine WO.boolK 4 (fun b => [(0, .str w5), (1, .str w6), (6, I6 w17.2), (7, I6 w17.1), (8, l3 none w19.1), (9, I6 w19.2), (10, l3 none w22.1), (67, .bool v25), (68, I6 w17.2), (69, .bool true), (70, .bool true), (71, I6 w19.2), (72, .bool b), (73, .bool b), (74, .bool b)]) (w19.2 == 2) (by kernel_rfl) (fun hb => ?_) (fun hb => ?_)
     ·replace h := cond_t hb h
      obtain ⟨w27, hw27, h⟩ := bind_some h
      refine WO.callK 0 (F := 18) (l := []) (C := []) (r := .bool w27) (by kernel_rfl) (by kernel_rfl) (run_lw4_awake w27 hw27) (e1 := [(0, .str w5), (1, .str w6), (6, I6 w17.2), (7, I6 w17.1), (8, l3 none w19.1), (9, I6 w19.2), (10, l3 none w22.1), (67, .bool v25), (68, I6 w17.2), (69, .bool true), (70, .bool true), (71, I6 w19.2), (72, .bool true), (73, .bool true), (74, .bool true), (75, .bool w27)]) (by kernel_rfl) ?_
      refine WO.fin [4] [] [] [] (e2 := [(4, .bool w27)]) (by kernel_rfl) (fun _ h => h) ?_
      exact hK26 w27 h
     replace h := cond_f hb h
     refine WO.fin [4] [] [] [] (e2 := [(4, .bool false)]) (by kernel_rfl) (fun _ h => h) ?_
     exact hK26 false h
    replace h := cond_f hb h
    refine WO.fin [4] [] [] [] (e2 := [(4, .bool false)]) (by kernel_rfl) (fun _ h => h) ?_
    exact hK26 false h
   replace h := cond_f hb h
   refine W.skip ?_
   refine W.weak [0, 1, 7, 8, 10] [] [] [] (env' := [(0, .str w5), (1, .str w6), (7, I6 w17.1), (8, l3 none w19.1), (10, l3 none w22.1)]) (by kernel_rfl) ?_
   refine W.seq ?_
   refine W.regT [0, 1, 7, 8, 10, 12] [] [] [] (e2 := [(0, .str w5), (1, .str w6), (7, I6 w17.1), (8, l3 none w19.1), (10, l3 none w22.1), (12, .nils)]) (by kernel_rfl) (by kernel_rfl) (fun _ h => h) ?_
   refine W.seq ?_
   refine W.join (σ := ((List Int))) (fun s => [(7, I6 w17.1), (8, l3 none w19.1), (12, l3 (some 11200) s)]) (fun s => (lw4_IndexSteps_j30 w17 w19) s = some r) (fun s h => ?_) (fun hK30 => ?_)
   ·obtain ⟨v44, rfl⟩ : ∃ x, x = s := ⟨s, rfl⟩
    have h : (lw4_IndexSteps_j30 w17 w19) v44 = some r := h
    unfold lw4_IndexSteps_j30 at h
    refine W.seq ?_
    refine W.join (σ := (Bool)) (fun s => [(4, .bool s)]) (fun s => (lw4_IndexSteps_j45) s = some r) (fun s h => ?_) (fun hK45 => ?_)
    ·obtain ⟨v48, rfl⟩ : ∃ x, x = s := ⟨s, rfl⟩
     have h : (lw4_IndexSteps_j45) v48 = some r := h
     unfold lw4_IndexSteps_j45 at h
     refine W.weak [4] [] [] [] (env' := [(4, .bool v48)]) (by kernel_rfl) ?_
     have hr : aresults Try.prog Try.f9 [(4, .bool v48)] = some (.bool v48) := by kernel_rfl
     cases h
     exact W.ret hr
    refine W.region (by kernel_rfl) ?_
    refine WO.pureK 2 (some (I6 ((M6 w19.1).length : Int))) (v := I6 (w19.1.length : Int)) (by kernel_rfl) (by rw [List.length_map]) (e1 := [(7, I6 w17.1), (8, l3 none w19.1), (12, l3 (some 11200) v44), (104, I6 w17.1), (105, l3 none w19.1), (106, I6 (w19.1.length : Int))]) (by kernel_rfl) ?_
    refine WO.boolK 2 (fun b => [(7, I6 w17.1), (8, l3 none w19.1), (12, l3 (some 11200) v44), (104, I6 w17.1), (105, l3 none w19.1), (106, I6 (w19.1.length : Int)), (107, .bool b), (108, .bool b)]) (w17.1 == (w19.1.length : Int)) (by kernel_rfl) (fun hb => ?_) (fun hb => ?_)
    ·replace h := cond_t hb h
     obtain ⟨w46, hw46, h⟩ := bind_some h
     refine WO.callK 2 (F := 19) (l := [l3 none w19.1, l3 none v44]) (C := []) (r := .bool w46) (by kernel_rfl) (by kernel_rfl) (run_sl_Equal_int w19.1 v44 w46 hw46) (e1 := [(7, I6 w17.1), (8, l3 none w19.1), (12, l3 (some 11200) v44), (104, I6 w17.1), (105, l3 none w19.1), (106, I6 (w19.1.length : Int)), (107, .bool true), (108, .bool true), (109, l3 none w19.1), (110, l3 (some 11200) v44), (111, .bool w46)]) (by kernel_rfl) ?_
     refine WO.boolK 2 (fun b => [(7, I6 w17.1), (8, l3 none w19.1), (12, l3 (some 11200) v44), (104, I6 w17.1), (105, l3 none w19.1), (106, I6 (w19.1.length : Int)), (107, .bool true), (108, .bool true), (109, l3 none w19.1), (110, l3 (some 11200) v44), (111, .bool b), (112, .bool b), (113, .bool b)]) w46 (by kernel_rfl) (fun hb => ?_) (fun hb => ?_)
     ·replace h := cond_t hb h
      obtain ⟨w47, hw47, h⟩ := bind_some h
      refine WO.callK 0 (F := 18) (l := []) (C := []) (r := .bool w47) (by kernel_rfl) (by kernel_rfl) (run_lw4_awake w47 hw47) (e1 := [(7, I6 w17.1), (8, l3 none w19.1), (12, l3 (some 11200) v44), (104, I6 w17.1), (105, l3 none w19.1), (106, I6 (w19.1.length : Int)), (107, .bool true), (108, .bool true), (109, l3 none w19.1), (110, l3 (some 11200) v44), (111, .bool true), (112, .bool true), (113, .bool true), (114, .bool w47)]) (by kernel_rfl) ?_
      refine WO.fin [4] [] [] [] (e2 := [(4, .bool w47)]) (by kernel_rfl) (fun _ h => h) ?_
      exact hK45 w47 h
     replace h := cond_f hb h
     refine WO.fin [4] [] [] [] (e2 := [(4, .bool false)]) (by kernel_rfl) (fun _ h => h) ?_
     exact hK45 false h
    replace h := cond_f hb h
    refine WO.fin [4] [] [] [] (e2 := [(4, .bool false)]) (by kernel_rfl) (fun _ h => h) ?_
    exact hK45 false h
   refine W.seq ?_
   refine W.region (by kernel_rfl) ?_
   refine WO.pureK 1 (some (I6 ((M6 w22.1).length : Int))) (v := I6 (w22.1.length : Int)) (by kernel_rfl) (by rw [List.length_map]) (e1 := [(0, .str w5), (1, .str w6), (7, I6 w17.1), (8, l3 none w19.1), (10, l3 none w22.1), (12, .nils), (77, l3 none w22.1), (78, I6 (w22.1.length : Int))]) (by kernel_rfl) ?_
   refine WO.fin [0, 1, 7, 8, 12, 77, 78, 79] [] [] [] (e2 := [(0, .str w5), (1, .str w6), (7, I6 w17.1), (8, l3 none w19.1), (12, .nils), (77, l3 none w22.1), (78, I6 (w22.1.length : Int)), (79, .int .i64 0)]) (by kernel_rfl) (fun _ h => h) ?_
   refine W.block ?_
   obtain ⟨hl1, h⟩ := chk_some h
   refine W.weak [0, 1, 7, 8, 12, 77, 78, 79] [] [(12, 0, 3, 1, 11200)] [] (env' := [(0, .str w5), (1, .str w6), (7, I6 w17.1), (8, l3 none w19.1), (12, l3 (some 11200) ([] : (List Int))), (77, l3 none w22.1), (78, I6 (w22.1.length : Int)), (79, I6 ((0 : Nat) : Int))]) (by kernel_rfl) ?_
   refine W.range (σ := ((List Int))) w22.1 (fun k1 s => [(0, .str w5), (1, .str w6), (7, I6 w17.1), (8, l3 none w19.1), (12, l3 (some 11200) s), (77, l3 none w22.1), (78, I6 (w22.1.length : Int)), (79, I6 (k1 : Int))]) (fun r0 k0 s => lw4_IndexSteps_l1 w5 w6 (lw4_IndexSteps_j30 w17 w19) r0 k0 s = some r) (fun s h => ?_) (fun x1 r1 k1 s hx1 hk1 h hN1 => ?_) ([] : (List Int)) h
   ·obtain ⟨v32, rfl⟩ : ∃ x, x = s := ⟨s, rfl⟩
    have h : lw4_IndexSteps_l1 w5 w6 (lw4_IndexSteps_j30 w17 w19) [] (w22.1).length v32 = some r := h
    rw [lw4_IndexSteps_l1.eq_1] at h
    refine W.seq ?_
    refine W.region (by kernel_rfl) ?_
    refine WO.pureK 0 (some (.bool (decide (((w22.1).length : Int) < (w22.1.length : Int))))) (v := .bool false) (by kernel_rfl) (by rw [lt_false (l := w22.1)]) (e1 := [(0, .str w5), (1, .str w6), (7, I6 w17.1), (8, l3 none w19.1), (12, l3 (some 11200) v32), (77, l3 none w22.1), (78, I6 (w22.1.length : Int)), (79, I6 ((w22.1).length : Int)), (80, .bool false)]) (by kernel_rfl) ?_
    refine WO.fin ([0, 1, 7, 8, 12, 77, 78, 79, 80]) [] [] [] (e2 := [(0, .str w5), (1, .str w6), (7, I6 w17.1), (8, l3 none w19.1), (12, l3 (some 11200) v32), (77, l3 none w22.1), (78, I6 (w22.1.length : Int)), (79, I6 ((w22.1).length : Int)), (80, .bool false)]) (by kernel_rfl) (fun _ h => h) ?_
    refine W.seq ?_
    refine W.condB false (by kernel_rfl) (fun h => Bool.noConfusion h) (fun _ => ?_)
    refine W.exit ?_
    refine W.weak [7, 8, 12] [] [] [] (env' := [(7, I6 w17.1), (8, l3 none w19.1), (12, l3 (some 11200) v32)]) (by kernel_rfl) ?_
    exact hK30 v32 h
   ·obtain ⟨v32, rfl⟩ : ∃ x, x = s := ⟨s, rfl⟩
    have h : lw4_IndexSteps_l1 w5 w6 (lw4_IndexSteps_j30 w17 w19) (x1 :: r1) k1 v32 = some r := h
    rw [lw4_IndexSteps_l1.eq_2] at h
    refine W.seq ?_
    refine W.region (by kernel_rfl) ?_
    refine WO.pureK 0 (some (.bool (decide ((k1 : Int) < (w22.1.length : Int))))) (v := .bool true) (by kernel_rfl) (by rw [lt_true hk1]) (e1 := [(0, .str w5), (1, .str w6), (7, I6 w17.1), (8, l3 none w19.1), (12, l3 (some 11200) v32), (77, l3 none w22.1), (78, I6 (w22.1.length : Int)), (79, I6 (k1 : Int)), (80, .bool true)]) (by kernel_rfl) ?_
    refine WO.fin ([0, 1, 7, 8, 12, 77, 78, 79, 80]) [] [] [] (e2 := [(0, .str w5), (1, .str w6), (7, I6 w17.1), (8, l3 none w19.1), (12, l3 (some 11200) v32), (77, l3 none w22.1), (78, I6 (w22.1.length : Int)), (79, I6 (k1 : Int)), (80, .bool true)]) (by kernel_rfl) (fun _ h => h) ?_
    refine W.seq ?_
    refine W.condB true (by kernel_rfl) (fun _ => ?_) (fun h => Bool.noConfusion h)
    refine W.skip ?_
    refine W.weak [0, 1, 7, 8, 12, 77, 78, 79] [] [] [] (env' := [(0, .str w5), (1, .str w6), (7, I6 w17.1), (8, l3 none w19.1), (12, l3 (some 11200) v32), (77, l3 none w22.1), (78, I6 (w22.1.length : Int)), (79, I6 (k1 : Int))]) (by kernel_rfl) ?_
    refine W.seq ?_
    refine W.join (σ := ((List Int))) (fun s => [(0, .str w5), (1, .str w6), (7, I6 w17.1), (8, l3 none w19.1), (12, l3 (some 11200) s), (77, l3 none w22.1), (78, I6 (w22.1.length : Int)), (79, I6 (k1 : Int))]) (fun s => (lw4_IndexSteps_j33 (lw4_IndexSteps_l1 w5 w6 (lw4_IndexSteps_j30 w17 w19) r1 (k1 + 1))) s = some r) (fun s h => ?_) (fun hK33 => ?_)
    ·obtain ⟨v43, rfl⟩ : ∃ x, x = s := ⟨s, rfl⟩
     have h : (lw4_IndexSteps_j33 (lw4_IndexSteps_l1 w5 w6 (lw4_IndexSteps_j30 w17 w19) r1 (k1 + 1))) v43 = some r := h
     unfold lw4_IndexSteps_j33 at h
     refine W.region (by kernel_rfl) ?_
     refine WO.pureK 0 (some (I6 (IntKind.wrap .i64 ((k1 : Int) + 1)))) (v := I6 ((k1 + 1 : Nat) : Int)) (by kernel_rfl) (by rw [wrap_succ hl1 hk1]) (e1 := [(0, .str w5), (1, .str w6), (7, I6 w17.1), (8, l3 none w19.1), (12, l3 (some 11200) v43), (77, l3 none w22.1), (78, I6 (w22.1.length : Int)), (79, I6 (k1 : Int)), (103, I6 ((k1 + 1 : Nat) : Int))]) (by kernel_rfl) ?_
     refine WO.fin [0, 1, 7, 8, 12, 77, 78, 79] [] [] [] (e2 := [(0, .str w5), (1, .str w6), (7, I6 w17.1), (8, l3 none w19.1), (12, l3 (some 11200) v43), (77, l3 none w22.1), (78, I6 (w22.1.length : Int)), (79, I6 ((k1 + 1 : Nat) : Int))]) (by kernel_rfl) (fun _ h => h) ?_
     exact hN1 v43 h
    refine W.block ?_
    refine W.seq ?_
    refine W.region (by kernel_rfl) ?_
    refine WO.pureK 0 (if (0 : Int) ≤ (k1 : Int) then ((M6 w22.1)[Int.toNat (k1 : Int)]?).map AV.ptr else none) (v := .ptr (I6 x1)) (by kernel_rfl) (idx_nat (f := (AV.int .i64)) hx1) (e1 := [(0, .str w5), (1, .str w6), (7, I6 w17.1), (8, l3 none w19.1), (12, l3 (some 11200) v32), (77, l3 none w22.1), (78, I6 (w22.1.length : Int)), (79, I6 (k1 : Int)), (81, .ptr (I6 x1))]) (by kernel_rfl) ?_
    refine WO.fin [0, 1, 7, 8, 12, 14, 77, 78, 79] [] [] [] (e2 := [(0, .str w5), (1, .str w6), (7, I6 w17.1), (8, l3 none w19.1), (12, l3 (some 11200) v32), (14, I6 x1), (77, l3 none w22.1), (78, I6 (w22.1.length : Int)), (79, I6 (k1 : Int))]) (by kernel_rfl) (fun _ h => h) ?_
    refine W.seq ?_
    refine W.seq ?_
    refine W.regT [0, 1, 7, 8, 12, 14, 77, 78, 79, 86] [] [] [] (e2 := [(0, .str w5), (1, .str w6), (7, I6 w17.1), (8, l3 none w19.1), (12, l3 (some 11200) v32), (14, I6 x1), (77, l3 none w22.1), (78, I6 (w22.1.length : Int)), (79, I6 (k1 : Int)), (86, .bool (decide (x1 > (w5.size : Int))))]) (by kernel_rfl) (by kernel_rfl) (fun _ h => h) ?_
    refine W.condB (decide (x1 > (w5.size : Int))) (by kernel_rfl) (fun hb => ?_) (fun hb => ?_)
    ·replace h := cond_t hb h
     refine W.seq ?_
     refine W.regT [4] [] [] [] (e2 := [(4, .bool false)]) (by kernel_rfl) (by kernel_rfl) (fun _ h => h) ?_
     refine W.weak [4] [] [] [] (env' := [(4, .bool false)]) (by kernel_rfl) ?_
     have hr : aresults Try.prog Try.f9 [(4, .bool false)] = some (.bool false) := by kernel_rfl
     cases h
     exact W.ret hr
    replace h := cond_f hb h
    refine W.skip ?_
    refine W.weak [0, 1, 7, 8, 12, 14, 77, 78, 79] [] [] [] (env' := [(0, .str w5), (1, .str w6), (7, I6 w17.1), (8, l3 none w19.1), (12, l3 (some 11200) v32), (14, I6 x1), (77, l3 none w22.1), (78, I6 (w22.1.length : Int)), (79, I6 (k1 : Int))]) (by kernel_rfl) ?_
    refine W.seq ?_
    refine W.join (σ := (Bool)) (fun s => [(0, .str w5), (1, .str w6), (7, I6 w17.1), (8, l3 none w19.1), (12, l3 (some 11200) v32), (14, I6 x1), (77, l3 none w22.1), (78, I6 (w22.1.length : Int)), (79, I6 (k1 : Int)), (97, .bool s)]) (fun s => (lw4_IndexSteps_j38 x1 v32 (lw4_IndexSteps_j33 (lw4_IndexSteps_l1 w5 w6 (lw4_IndexSteps_j30 w17 w19) r1 (k1 + 1)))) s = some r) (fun s h => ?_) (fun hK38 => ?_)
    ·obtain ⟨v41, rfl⟩ : ∃ x, x = s := ⟨s, rfl⟩
     have h : (lw4_IndexSteps_j38 x1 v32 (lw4_IndexSteps_j33 (lw4_IndexSteps_l1 w5 w6 (lw4_IndexSteps_j30 w17 w19) r1 (k1 + 1)))) v41 = some r := h
     unfold lw4_IndexSteps_j38 at h
     refine W.condB v41 (by kernel_rfl) (fun hb => ?_) (fun hb => ?_)
     ·replace h := cond_t hb h
      refine W.region (by kernel_rfl) ?_
      obtain ⟨hc42, h⟩ := chk_some h
      refine WO.appendK 4 (d := 102) (e := 3) (s := 1) (bytes := 8) (xs := (M6 v32)) (ys := (M6 [(W6 (x1 - 1))])) (zs := (M6 (v32 ++ [(W6 (x1 - 1))]))) (env1 := [(0, .str w5), (1, .str w6), (7, I6 w17.1), (8, l3 none w19.1), (12, l3 none v32), (14, I6 x1), (77, l3 none w22.1), (78, I6 (w22.1.length : Int)), (79, I6 (k1 : Int)), (97, .bool v41), (98, l3 none v32), (99, I6 x1), (100, I6 (W6 (x1 - 1))), (101, l3 (some 101) [(W6 (x1 - 1))])]) (by kernel_rfl) (List.map_append.symm) (by rw [List.length_map]; exact hc42) (e1 := [(0, .str w5), (1, .str w6), (7, I6 w17.1), (8, l3 none w19.1), (12, l3 none v32), (14, I6 x1), (77, l3 none w22.1), (78, I6 (w22.1.length : Int)), (79, I6 (k1 : Int)), (97, .bool v41), (98, l3 none v32), (99, I6 x1), (100, I6 (W6 (x1 - 1))), (101, l3 (some 101) [(W6 (x1 - 1))]), (102, l3 (some 102) (v32 ++ [(W6 (x1 - 1))]))]) (by kernel_rfl) ?_
      refine WO.fin [0, 1, 7, 8, 12, 77, 78, 79] [] [] [(102, some 11200)] (e2 := [(0, .str w5), (1, .str w6), (7, I6 w17.1), (8, l3 none w19.1), (12, l3 (some 11200) (v32 ++ [(W6 (x1 - 1))])), (77, l3 none w22.1), (78, I6 (w22.1.length : Int)), (79, I6 (k1 : Int))]) (by kernel_rfl) (fun _ h => h) ?_
      exact hK33 (v32 ++ [(W6 (x1 - 1))]) h
     replace h := cond_f hb h
     refine W.skip ?_
     refine W.weak [0, 1, 7, 8, 12, 77, 78, 79] [] [] [] (env' := [(0, .str w5), (1, .str w6), (7, I6 w17.1), (8, l3 none w19.1), (12, l3 (some 11200) v32), (77, l3 none w22.1), (78, I6 (w22.1.length : Int)), (79, I6 (k1 : Int))]) (by kernel_rfl) ?_
     exact hK33 v32 h
    refine W.region (by kernel_rfl) ?_
    refine WO.boolK 3 (fun b => [(0, .str w5), (1, .str w6), (7, I6 w17.1), (8, l3 none w19.1), (12, l3 (some 11200) v32), (14, I6 x1), (77, l3 none w22.1), (78, I6 (w22.1.length : Int)), (79, I6 (k1 : Int)), (87, I6 x1), (88, .bool b), (89, .bool b)]) (decide (x1 > 0)) (by kernel_rfl) (fun hb => ?_) (fun hb => ?_)
    ·replace h := cond_t hb h
     obtain ⟨e39, he39, h⟩ := bind_some h
     refine WO.pureK 3 (if (0 : Int) ≤ (W6 (x1 - 1)) then (w5[Int.toNat (W6 (x1 - 1))]?).map fun b => AV.int .u8 b.toNat else none) (v := .int .u8 e39) (by kernel_rfl) (sidx_av he39) (e1 := [(0, .str w5), (1, .str w6), (7, I6 w17.1), (8, l3 none w19.1), (12, l3 (some 11200) v32), (14, I6 x1), (77, l3 none w22.1), (78, I6 (w22.1.length : Int)), (79, I6 (k1 : Int)), (87, I6 x1), (88, .bool true), (89, .bool true), (90, .str w5), (91, I6 x1), (92, I6 (W6 (x1 - 1))), (93, .int .u8 e39)]) (by kernel_rfl) ?_
     obtain ⟨e40, he40, h⟩ := bind_some h
     refine WO.pureK 1 (if (0 : Int) ≤ 0 then (w6[Int.toNat 0]?).map fun b => AV.int .u8 b.toNat else none) (v := .int .u8 e40) (by kernel_rfl) (sidx_av he40) (e1 := [(0, .str w5), (1, .str w6), (7, I6 w17.1), (8, l3 none w19.1), (12, l3 (some 11200) v32), (14, I6 x1), (77, l3 none w22.1), (78, I6 (w22.1.length : Int)), (79, I6 (k1 : Int)), (87, I6 x1), (88, .bool true), (89, .bool true), (90, .str w5), (91, I6 x1), (92, I6 (W6 (x1 - 1))), (93, .int .u8 e39), (94, .str w6), (95, .int .u8 e40)]) (by kernel_rfl) ?_
     refine WO.fin [0, 1, 7, 8, 12, 14, 77, 78, 79, 97] [] [] [] (e2 := [(0, .str w5), (1, .str w6), (7, I6 w17.1), (8, l3 none w19.1), (12, l3 (some 11200) v32), (14, I6 x1), (77, l3 none w22.1), (78, I6 (w22.1.length : Int)), (79, I6 (k1 : Int)), (97, .bool (e39 == e40))]) (by kernel_rfl) (fun _ h => h) ?_
     exact hK38 (e39 == e40) h
    replace h := cond_f hb h
    refine WO.fin [0, 1, 7, 8, 12, 14, 77, 78, 79, 97] [] [] [] (e2 := [(0, .str w5), (1, .str w6), (7, I6 w17.1), (8, l3 none w19.1), (12, l3 (some 11200) v32), (14, I6 x1), (77, l3 none w22.1), (78, I6 (w22.1.length : Int)), (79, I6 (k1 : Int)), (97, .bool false)]) (by kernel_rfl) (fun _ h => h) ?_
    exact hK38 false h
  refine W.region (by kernel_rfl) ?_
  refine WO.boolK 3 (fun b => [(0, .str w5), (1, .str w6), (6, I6 w17.2), (7, I6 w17.1), (8, l3 none w19.1), (9, I6 w19.2), (10, l3 none w22.1), (11, I6 w22.2), (58, I6 w17.2), (59, .bool b), (60, .bool b)]) (w17.2 != 0) (by kernel_rfl) (fun hb => ?_) (fun hb => ?_)
  ·replace h := cond_t hb h
   refine WO.fin [0, 1, 6, 7, 8, 9, 10, 67] [] [] [] (e2 := [(0, .str w5), (1, .str w6), (6, I6 w17.2), (7, I6 w17.1), (8, l3 none w19.1), (9, I6 w19.2), (10, l3 none w22.1), (67, .bool true)]) (by kernel_rfl) (fun _ h => h) ?_
   exact hK24 true h
  replace h := cond_f hb h
  refine WO.boolK 4 (fun b => [(0, .str w5), (1, .str w6), (6, I6 w17.2), (7, I6 w17.1), (8, l3 none w19.1), (9, I6 w19.2), (10, l3 none w22.1), (11, I6 w22.2), (58, I6 w17.2), (59, .bool false), (60, .bool false), (61, I6 w19.2), (62, .bool b), (63, .bool b), (64, .bool b)]) (w19.2 != 0) (by kernel_rfl) (fun hb => ?_) (fun hb => ?_)
  ·replace h := cond_t hb h
   refine WO.fin [0, 1, 6, 7, 8, 9, 10, 67] [] [] [] (e2 := [(0, .str w5), (1, .str w6), (6, I6 w17.2), (7, I6 w17.1), (8, l3 none w19.1), (9, I6 w19.2), (10, l3 none w22.1), (67, .bool true)]) (by kernel_rfl) (fun _ h => h) ?_
   exact hK24 true h
  replace h := cond_f hb h
  refine WO.fin [0, 1, 6, 7, 8, 9, 10, 67] [] [] [] (e2 := [(0, .str w5), (1, .str w6), (6, I6 w17.2), (7, I6 w17.1), (8, l3 none w19.1), (9, I6 w19.2), (10, l3 none w22.1), (67, .bool (w22.2 != 0))]) (by kernel_rfl) (fun _ h => h) ?_
  exact hK24 (w22.2 != 0) h
 refine W.region (by kernel_rfl) ?_
 refine WO.boolK 3 (fun b => [(0, .str w5), (1, .str w6), (5, ep e_ixIndex w8.1), (6, I6 w8.2), (24, I6 w8.2), (25, .bool b), (26, .bool b)]) (w8.2 != 0) (by kernel_rfl) (fun hb => ?_) (fun hb => ?_)
 ·replace h := cond_t hb h
  refine WO.fin [0, 1, 5, 6, 29] [] [] [] (e2 := [(0, .str w5), (1, .str w6), (5, ep e_ixIndex w8.1), (6, I6 w8.2), (29, .bool true)]) (by kernel_rfl) (fun _ h => h) ?_
  exact hK10 true h
 replace h := cond_f hb h
 refine WO.fin [0, 1, 5, 6, 29] [] [] [] (e2 := [(0, .str w5), (1, .str w6), (5, ep e_ixIndex w8.1), (6, I6 w8.2), (29, .bool (w6.toList == (ByteArray.mk #[]).toList))]) (by kernel_rfl) (fun _ h => h) ?_
 exact hK10 (w6.toList == (ByteArray.mk #[]).toList) h
end Go.AM
