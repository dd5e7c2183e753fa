/- s -/
import Derived.Test.YtmfdgonjnckdhaaCC1
set_option maxRecDepth 100000
set_option linter.unusedVariables false
set_option linter.unusedSimpArgs false
namespace Go.AM
open Go.Proofs
def ix_Sort (a1 : ByteArray) : Option ((List Int) × Int) :=
 ((ix_valid a1).bind fun w5 => (bif (!w5) then (some (([] : (List Int)), 2)) else ((ix_suffixes a1).bind fun w8 => (some (w8, 0)))))
theorem run_ix_Sort (a1 : ByteArray) (r : ((List Int) × Int)) (h : ix_Sort a1 = some r) : Run Try.prog (.call 15 [.str a1] (.tup [l3 none r.1, I6 r.2])) := by
 refine cW Try.func15 rfl (env0 := [(0, .str a1)]) ?_
 unfold ix_Sort at h
 refine W.seq ?_
 refine W.rt (e2 := [(0, .str a1)]) ?_
 refine W.seq ?_
 refine W.seq ?_
 refine W.rg ?_
 obtain ⟨w5, hw5, h⟩ := bind_some h
 refine WO.ck 1 (F := 40) (l := [.str a1]) (C := []) (r := .bool w5) (run_ix_valid a1 w5 hw5) (e1 := [(0, .str a1), (4, .str a1), (5, .bool w5)]) ?_
 refine WO.fn (e2 := [(0, .str a1), (6, .bool (!w5))]) ?_
 refine W.cb (!w5) (fun hb => ?_) (fun hb => ?_)
 ·replace h := cond_t hb h
  refine W.seq ?_
  refine W.rt (e2 := [(2, .nils), (3, .int .i64 2)]) ?_
  refine W.weak [2, 3] [] [(2, 0, 3, 1, 70002)] [] (env' := [(2, l3 (some 70002) ([] : (List Int))), (3, .int .i64 2)]) (by kernel_rfl) ?_
  have hr : aresults Try.prog Try.f15 [(2, l3 (some 70002) ([] : (List Int))), (3, .int .i64 2)] = some (.tup [l3 none ([] : (List Int)), .int .i64 2]) := by kernel_rfl
  cases h
  exact W.ret hr
 replace h := cond_f hb h
 refine W.skip ?_
 refine W.wk (env' := [(0, .str a1)]) ?_
 refine W.seq ?_
 refine W.rg ?_
 obtain ⟨w8, hw8, h⟩ := bind_some h
 refine WO.ck 1 (F := 41) (l := [.str a1]) (C := []) (r := l3 none w8) (run_ix_suffixes a1 w8 hw8) (e1 := [(0, .str a1), (7, .str a1), (8, l3 none w8)]) ?_
 refine WO.fn (e2 := [(2, l3 none w8), (3, .int .i64 0)]) ?_
 refine W.wk (env' := [(2, l3 none w8), (3, .int .i64 0)]) ?_
 have hr : aresults Try.prog Try.f15 [(2, l3 none w8), (3, .int .i64 0)] = some (.tup [l3 none w8, .int .i64 0]) := by kernel_rfl
 cases h
 exact W.ret hr
def sl_Equal_int_j7 : Option Bool :=
 (some true)
def sl_Equal_int_l1 (a2 : (List Int)) (K7 : (Option Bool)) : List Int → Nat → Option Bool
 | [], k1 => K7
 | x1 :: r1, k1 => ((idx a2 (k1 : Int)).bind fun e12 => (bif (x1 != e12) then (some false) else (sl_Equal_int_l1 a2 K7 r1 (k1 + 1))))
def sl_Equal_int (a1 : (List Int)) (a2 : (List Int)) : Option Bool :=
 (bif ((a1.length : Int) != (a2.length : Int)) then (some false) else (chk (lenOk a1) (sl_Equal_int_l1 a2 (sl_Equal_int_j7) a1 0)))
theorem run_sl_Equal_int (a1 : (List Int)) (a2 : (List Int)) (r : Bool) (h : sl_Equal_int a1 a2 = some r) : Run Try.prog (.call 19 [l3 none a1, l3 none a2] (.bool r)) := by
 refine cW Try.func19 rfl (env0 := [(0, l3 none a1), (1, l3 none a2)]) ?_
 unfold sl_Equal_int at h
 refine W.seq ?_
 let z0 := fun t => EN ((0, l3 none a1) :: (1, l3 none a2) :: t)
 refine W.rt (e2 := z0 []) ?_
 refine W.seq ?_
 refine W.seq ?_
 refine W.rg ?_
 let z1 := fun t => z0 ((6, l3 none a1) :: (7, I6 (a1.length : Int)) :: t)
 refine WO.pk 1 (some (I6 ((M6 a1).length : Int))) (v := I6 (a1.length : Int)) (by rw [List.length_map]) (e1 := z1 []) ?_
 refine WO.pk 1 (some (I6 ((M6 a2).length : Int))) (v := I6 (a2.length : Int)) (by rw [List.length_map]) (e1 := z1 [(8, l3 none a2), (9, I6 (a2.length : Int))]) ?_
 refine WO.fn (e2 := z0 [(10, .bool ((a1.length : Int) != (a2.length : Int)))]) ?_
 refine W.cb ((a1.length : Int) != (a2.length : Int)) (fun hb => ?_) (fun hb => ?_)
 ·replace h := cond_t hb h
  refine W.seq ?_
  refine W.rt (e2 := [(4, .bool false)]) ?_
  refine W.wk (env' := [(4, .bool false)]) ?_
  have hr : aresults Try.prog Try.f19 [(4, .bool false)] = some (.bool false) := by kernel_rfl
  cases h
  exact W.ret hr
 replace h := cond_f hb h
 refine W.skip ?_
 refine W.wk (env' := z0 []) ?_
 refine W.seq ?_
 refine W.join (σ := Unit) (fun s => []) (fun s => (sl_Equal_int_j7) = some r) (fun s h => ?_) (fun hK7 => ?_)
 ·have h : (sl_Equal_int_j7) = some r := h
  unfold sl_Equal_int_j7 at h
  refine W.seq ?_
  refine W.rt (e2 := [(4, .bool true)]) ?_
  refine W.wk (env' := [(4, .bool true)]) ?_
  have hr : aresults Try.prog Try.f19 [(4, .bool true)] = some (.bool true) := by kernel_rfl
  cases h
  exact W.ret hr
 refine W.seq ?_
 refine W.rg ?_
 refine WO.pk 1 (some (I6 ((M6 a1).length : Int))) (v := I6 (a1.length : Int)) (by rw [List.length_map]) (e1 := z0 [(11, l3 none a1), (12, I6 (a1.length : Int))]) ?_
 let z2 := fun t => z0 ((12, I6 (a1.length : Int)) :: t)
 refine WO.fn (e2 := z2 [(13, .int .i64 0)]) ?_
 refine W.block ?_
 obtain ⟨hl1, h⟩ := chk_some h
 refine W.wk (env' := z2 [(13, I6 ((0 : Nat) : Int))]) ?_
 refine W.range (σ := Unit) a1 (fun k1 s => z2 [(13, I6 (k1 : Int))]) (fun r0 k0 s => sl_Equal_int_l1 a2 (sl_Equal_int_j7) r0 k0 = some r) (fun s h => ?_) (fun x1 r1 k1 s hx1 hk1 h hN1 => ?_) () h
 ·have h : sl_Equal_int_l1 a2 (sl_Equal_int_j7) [] (a1).length = some r := h
  rw [sl_Equal_int_l1.eq_1] at h
  refine W.seq ?_
  refine W.rg ?_
  let z3 := fun t => z2 ((13, I6 ((a1).length : Int)) :: (14, .bool false) :: t)
  refine WO.pk 0 (some (.bool (decide (((a1).length : Int) < (a1.length : Int))))) (v := .bool false) (by rw [lt_false (l := a1)]) (e1 := z3 []) ?_
  refine WO.fn (e2 := z3 []) ?_
  refine W.seq ?_
  refine W.cb false (fun h => Bool.noConfusion h) (fun _ => ?_)
  refine W.exit ?_
  refine W.wk (env' := []) ?_
  exact hK7 () h
 ·have h : sl_Equal_int_l1 a2 (sl_Equal_int_j7) (x1 :: r1) k1 = some r := h
  rw [sl_Equal_int_l1.eq_2] at h
  refine W.seq ?_
  refine W.rg ?_
  let z4 := fun t => z2 ((13, I6 (k1 : Int)) :: t)
  refine WO.pk 0 (some (.bool (decide ((k1 : Int) < (a1.length : Int))))) (v := .bool true) (by rw [lt_true hk1]) (e1 := z4 [(14, .bool true)]) ?_
  refine WO.fn (e2 := z4 [(14, .bool true)]) ?_
  refine W.seq ?_
  refine W.cb true (fun _ => ?_) (fun h => Bool.noConfusion h)
  refine W.skip ?_
  refine W.wk (env' := z4 []) ?_
  refine W.seq ?_
  refine W.block ?_
  refine W.seq ?_
  let z5 := fun t => z0 ((5, I6 (k1 : Int)) :: (12, I6 (a1.length : Int)) :: (13, I6 (k1 : Int)) :: t)
  refine W.rt (e2 := z5 []) ?_
  refine W.seq ?_
  refine W.rg ?_
  let z6 := fun t => z5 ((16, l3 none a1) :: (17, I6 (k1 : Int)) :: (18, .ptr (I6 x1)) :: t)
  refine WO.pk 2 (if (0 : Int) ≤ (k1 : Int) then ((M6 a1)[Int.toNat (k1 : Int)]?).map AV.ptr else none) (v := .ptr (I6 x1)) (idx_nat (f := (AV.int .i64)) hx1) (e1 := z6 []) ?_
  obtain ⟨e12, he12, h⟩ := bind_some h
  refine WO.pk 3 (if (0 : Int) ≤ (k1 : Int) then ((M6 a2)[Int.toNat (k1 : Int)]?).map AV.ptr else none) (v := .ptr (I6 e12)) (idx_av (f := (AV.int .i64)) he12) (e1 := z6 [(19, I6 x1), (20, l3 none a2), (21, I6 (k1 : Int)), (22, .ptr (I6 e12))]) ?_
  refine WO.fn (e2 := z4 [(24, .bool (x1 != e12))]) ?_
  refine W.cb (x1 != e12) (fun hb => ?_) (fun hb => ?_)
  ·replace h := cond_t hb h
   refine W.seq ?_
   refine W.rt (e2 := [(4, .bool false)]) ?_
   refine W.wk (env' := [(4, .bool false)]) ?_
   have hr : aresults Try.prog Try.f19 [(4, .bool false)] = some (.bool false) := by kernel_rfl
   cases h
   exact W.ret hr
  replace h := cond_f hb h
  refine W.skip ?_
  refine W.wk (env' := z4 []) ?_
  refine W.rg ?_
  refine WO.pk 0 (some (I6 (IntKind.wrap .i64 ((k1 : Int) + 1)))) (v := I6 ((k1 + 1 : Nat) : Int)) (by rw [wrap_succ hl1 hk1]) (e1 := z4 [(25, I6 ((k1 + 1 : Nat) : Int))]) ?_
  refine WO.fn (e2 := z2 [(13, I6 ((k1 + 1 : Nat) : Int))]) ?_
  exact hN1 () h
def lw4_awake_j4 (v6 : Bool) : Option Bool :=
 (some v6)
def lw4_awake : Option Bool :=
 ((ix_Sort (ByteArray.mk #[97, 98, 97, 98])).bind fun w3 => (bif (w3.2 == 0) then ((sl_Equal_int w3.1 [4, 2, 0, 3, 1]).bind fun w5 => ((lw4_awake_j4) w5)) else ((lw4_awake_j4) false)))
theorem run_lw4_awake  (r : Bool) (h : lw4_awake = some r) : Run Try.prog (.call 18 [] (.bool r)) := by
 refine cW Try.func18 rfl (env0 := []) ?_
 unfold lw4_awake at h
 refine W.seq ?_
 refine W.rt (e2 := []) ?_
 refine W.seq ?_
 refine W.rg ?_
 obtain ⟨w3, hw3, h⟩ := bind_some h
 refine WO.ck 0 (F := 15) (l := [.str (ByteArray.mk #[97, 98, 97, 98])]) (C := []) (r := .tup [l3 none w3.1, I6 w3.2]) (run_ix_Sort (ByteArray.mk #[97, 98, 97, 98]) w3 hw3) (e1 := [(4, .tup [l3 none w3.1, I6 w3.2])]) ?_
 let z0 := fun t => EN ((1, l3 none w3.1) :: (2, I6 w3.2) :: t)
 refine WO.fn (e2 := z0 []) ?_
 refine W.seq ?_
 refine W.join (σ := (Bool)) (fun s => [(0, .bool s)]) (fun s => (lw4_awake_j4) s = some r) (fun s h => ?_) (fun hK4 => ?_)
 ·obtain ⟨v6, rfl⟩ : ∃ x, x = s := ⟨s, rfl⟩
  have h : (lw4_awake_j4) v6 = some r := h
  unfold lw4_awake_j4 at h
  refine W.wk (env' := [(0, .bool v6)]) ?_
  have hr : aresults Try.prog Try.f18 [(0, .bool v6)] = some (.bool v6) := by kernel_rfl
  cases h
  exact W.ret hr
 refine W.rg ?_
 refine WO.bk 3 (fun b => z0 [(7, I6 w3.2), (8, .bool b), (9, .bool b)]) (w3.2 == 0) (fun hb => ?_) (fun hb => ?_)
 ·replace h := cond_t hb h
  obtain ⟨w5, hw5, h⟩ := bind_some h
  refine WO.ck 2 (F := 19) (l := [l3 none w3.1, l3 none [4, 2, 0, 3, 1]]) (C := []) (r := .bool w5) (run_sl_Equal_int w3.1 [4, 2, 0, 3, 1] w5 hw5) (e1 := z0 [(7, I6 w3.2), (8, .bool true), (9, .bool true), (10, l3 none w3.1), (11, l3 (some 11) [4, 2, 0, 3, 1]), (12, .bool w5)]) ?_
  refine WO.fn (e2 := [(0, .bool w5)]) ?_
  exact hK4 w5 h
 replace h := cond_f hb h
 refine WO.fn (e2 := [(0, .bool false)]) ?_
 exact hK4 false h
def ix_Index_none_j3 (v5 : Bool) : Option Bool :=
 (some v5)
def ix_Index_none (a1 : (Option ixIndex)) : Option Bool :=
 (bif a1.isNone then ((ix_Index_none_j3) true) else (a1.bind fun q4 => ((ix_Index_none_j3) q4.f_w.isNone)))
theorem run_ix_Index_none (a1 : (Option ixIndex)) (r : Bool) (h : ix_Index_none a1 = some r) : Run Try.prog (.call 48 [ep e_ixIndex a1] (.bool r)) := by
 refine cW Try.func48 rfl (env0 := [(0, ep e_ixIndex a1)]) ?_
 unfold ix_Index_none at h
 refine W.seq ?_
 refine W.rt (e2 := [(0, ep e_ixIndex a1)]) ?_
 refine W.seq ?_
 refine W.join (σ := (Bool)) (fun s => [(2, .bool s)]) (fun s => (ix_Index_none_j3) s = some r) (fun s h => ?_) (fun hK3 => ?_)
 ·obtain ⟨v5, rfl⟩ : ∃ x, x = s := ⟨s, rfl⟩
  have h : (ix_Index_none_j3) v5 = some r := h
  unfold ix_Index_none_j3 at h
  refine W.wk (env' := [(2, .bool v5)]) ?_
  have hr : aresults Try.prog Try.f48 [(2, .bool v5)] = some (.bool v5) := by kernel_rfl
  cases h
  exact W.ret hr
 refine W.rg ?_
 refine WO.bk 3 (fun b => [(0, ep e_ixIndex a1), (3, ep e_ixIndex a1), (4, .bool b), (5, .bool b)]) a1.isNone (fun hb => ?_) (fun hb => ?_)
 ·replace h := cond_t hb h
  refine WO.fn (e2 := [(2, .bool true)]) ?_
  exact hK3 true h
 replace h := cond_f hb h
 obtain ⟨q4, hq4, h⟩ := bind_some h
 refine WO.pk 1 (match a1.isNone with | false => some (AV.ptr ((epx e_ixIndex) a1)) | true => none) (v := .ptr (.agg [ep_ixwavelet q4.f_w, I6 q4.f_length, l3 none q4.f_starts, l3 none q4.f_places])) (nc_av (F := (epx e_ixIndex)) hq4) (e1 := [(0, ep e_ixIndex a1), (3, ep e_ixIndex a1), (4, .bool false), (5, .bool false), (6, ep e_ixIndex a1), (7, .ptr (.agg [ep_ixwavelet q4.f_w, I6 q4.f_length, l3 none q4.f_starts, l3 none q4.f_places]))]) ?_
 refine WO.fn (e2 := [(2, .bool q4.f_w.isNone)]) ?_
 exact hK3 q4.f_w.isNone h
def sl_Index_byte_j4 : Option Int :=
 (some (-1))
def sl_Index_byte_l1 (a2 : Int) (K4 : (Option Int)) : List Int → Nat → Option Int
 | [], k1 => K4
 | x1 :: r1, k1 => (bif (a2 == x1) then (some (k1 : Int)) else (sl_Index_byte_l1 a2 K4 r1 (k1 + 1)))
def sl_Index_byte (a1 : (List Int)) (a2 : Int) : Option Int :=
 (chk (lenOk a1) (sl_Index_byte_l1 a2 (sl_Index_byte_j4) a1 0))
theorem run_sl_Index_byte (a1 : (List Int)) (a2 : Int) (r : Int) (h : sl_Index_byte a1 a2 = some r) : Run Try.prog (.call 93 [l5 none a1, .int .u8 a2] (I6 r)) := by
 refine cW Try.func93 rfl (env0 := [(0, l5 none a1), (1, .int .u8 a2)]) ?_
 unfold sl_Index_byte at h
 refine W.seq ?_
 let z0 := fun t => EN ((0, l5 none a1) :: (1, .int .u8 a2) :: t)
 refine W.rt (e2 := z0 []) ?_
 refine W.seq ?_
 refine W.join (σ := Unit) (fun s => []) (fun s => (sl_Index_byte_j4) = some r) (fun s h => ?_) (fun hK4 => ?_)
 ·have h : (sl_Index_byte_j4) = some r := h
  unfold sl_Index_byte_j4 at h
  refine W.seq ?_
  refine W.rt (e2 := [(4, I6 (-1))]) ?_
  refine W.wk (env' := [(4, I6 (-1))]) ?_
  have hr : aresults Try.prog Try.f93 [(4, I6 (-1))] = some (I6 (-1)) := by kernel_rfl
  cases h
  exact W.ret hr
 refine W.seq ?_
 refine W.rg ?_
 refine WO.pk 1 (some (I6 ((M8 a1).length : Int))) (v := I6 (a1.length : Int)) (by rw [List.length_map]) (e1 := z0 [(6, l5 none a1), (7, I6 (a1.length : Int))]) ?_
 let z1 := fun t => z0 ((7, I6 (a1.length : Int)) :: t)
 refine WO.fn (e2 := z1 [(8, .int .i64 0)]) ?_
 refine W.block ?_
 obtain ⟨hl1, h⟩ := chk_some h
 refine W.wk (env' := z1 [(8, I6 ((0 : Nat) : Int))]) ?_
 refine W.range (σ := Unit) a1 (fun k1 s => z1 [(8, I6 (k1 : Int))]) (fun r0 k0 s => sl_Index_byte_l1 a2 (sl_Index_byte_j4) r0 k0 = some r) (fun s h => ?_) (fun x1 r1 k1 s hx1 hk1 h hN1 => ?_) () h
 ·have h : sl_Index_byte_l1 a2 (sl_Index_byte_j4) [] (a1).length = some r := h
  rw [sl_Index_byte_l1.eq_1] at h
  refine W.seq ?_
  refine W.rg ?_
  let z2 := fun t => z1 ((8, I6 ((a1).length : Int)) :: (9, .bool false) :: t)
  refine WO.pk 0 (some (.bool (decide (((a1).length : Int) < (a1.length : Int))))) (v := .bool false) (by rw [lt_false (l := a1)]) (e1 := z2 []) ?_
  refine WO.fn (e2 := z2 []) ?_
  refine W.seq ?_
  refine W.cb false (fun h => Bool.noConfusion h) (fun _ => ?_)
  refine W.exit ?_
  refine W.wk (env' := []) ?_
  exact hK4 () h
 ·have h : sl_Index_byte_l1 a2 (sl_Index_byte_j4) (x1 :: r1) k1 = some r := h
  rw [sl_Index_byte_l1.eq_2] at h
  refine W.seq ?_
  refine W.rg ?_
  let z3 := fun t => z1 ((8, I6 (k1 : Int)) :: t)
  refine WO.pk 0 (some (.bool (decide ((k1 : Int) < (a1.length : Int))))) (v := .bool true) (by rw [lt_true hk1]) (e1 := z3 [(9, .bool true)]) ?_
  refine WO.fn (e2 := z3 [(9, .bool true)]) ?_
  refine W.seq ?_
  refine W.cb true (fun _ => ?_) (fun h => Bool.noConfusion h)
  refine W.skip ?_
  refine W.wk (env' := z3 []) ?_
  refine W.seq ?_
  refine W.block ?_
  refine W.seq ?_
  let z4 := fun t => z0 ((5, I6 (k1 : Int)) :: (7, I6 (a1.length : Int)) :: (8, I6 (k1 : Int)) :: t)
  refine W.rt (e2 := z4 []) ?_
  refine W.seq ?_
  refine W.rg ?_
  refine WO.pk 3 (if (0 : Int) ≤ (k1 : Int) then ((M8 a1)[Int.toNat (k1 : Int)]?).map AV.ptr else none) (v := .ptr (.int .u8 x1)) (idx_nat (f := (AV.int .u8)) hx1) (e1 := z4 [(11, .int .u8 a2), (12, l5 none a1), (13, I6 (k1 : Int)), (14, .ptr (.int .u8 x1))]) ?_
  refine WO.fn (e2 := z4 [(16, .bool (a2 == x1))]) ?_
  refine W.cb (a2 == x1) (fun hb => ?_) (fun hb => ?_)
  ·replace h := cond_t hb h
   refine W.seq ?_
   refine W.rt (e2 := [(4, I6 (k1 : Int))]) ?_
   refine W.wk (env' := [(4, I6 (k1 : Int))]) ?_
   have hr : aresults Try.prog Try.f93 [(4, I6 (k1 : Int))] = some (I6 (k1 : Int)) := by kernel_rfl
   cases h
   exact W.ret hr
  replace h := cond_f hb h
  refine W.skip ?_
  refine W.wk (env' := z3 []) ?_
  refine W.rg ?_
  refine WO.pk 0 (some (I6 (IntKind.wrap .i64 ((k1 : Int) + 1)))) (v := I6 ((k1 + 1 : Nat) : Int)) (by rw [wrap_succ hl1 hk1]) (e1 := z3 [(18, I6 ((k1 + 1 : Nat) : Int))]) ?_
  refine WO.fn (e2 := z1 [(8, I6 ((k1 + 1 : Nat) : Int))]) ?_
  exact hN1 () h
def sl_Contains_byte (a1 : (List Int)) (a2 : Int) : Option Bool :=
 ((sl_Index_byte a1 a2).bind fun w5 => (some (decide (w5 ≥ 0))))
theorem run_sl_Contains_byte (a1 : (List Int)) (a2 : Int) (r : Bool) (h : sl_Contains_byte a1 a2 = some r) : Run Try.prog (.call 77 [l5 none a1, .int .u8 a2] (.bool r)) := by
 refine cW Try.func77 rfl (env0 := [(0, l5 none a1), (1, .int .u8 a2)]) ?_
 unfold sl_Contains_byte at h
 refine W.seq ?_
 refine W.rt (e2 := [(0, l5 none a1), (1, .int .u8 a2)]) ?_
 refine W.seq ?_
 refine W.rg ?_
 obtain ⟨w5, hw5, h⟩ := bind_some h
 refine WO.ck 2 (F := 93) (l := [l5 none a1, .int .u8 a2]) (C := []) (r := I6 w5) (run_sl_Index_byte a1 a2 w5 hw5) (e1 := [(0, l5 none a1), (1, .int .u8 a2), (5, l5 none a1), (6, .int .u8 a2), (7, I6 w5)]) ?_
 refine WO.fn (e2 := [(4, .bool (decide (w5 ≥ 0)))]) ?_
 refine W.wk (env' := [(4, .bool (decide (w5 ≥ 0)))]) ?_
 have hr : aresults Try.prog Try.f77 [(4, .bool (decide (w5 ≥ 0)))] = some (.bool (decide (w5 ≥ 0))) := by kernel_rfl
 cases h
 exact W.ret hr
def ix_wavelet_rank_j14 (v60 : Int) : Option Int :=
 (some v60)
def ix_wavelet_rank_l1 (a2 : Int) (K14 : (Int → Option Int)) : Nat → (Option ixwavelet) → Int → Option Int
 | 0, _, _ => none
 | m1 + 1, v15, v16 => (v15.bind fun q19 => (ixwavelet.cs q19 (fun f20 f21 f22 f23 => (bif (!f22.isNone) then (v15.bind fun q25 => (ixwavelet.cs q25 (fun f26 f27 f28 f29 => (f29.bind fun q30 => (ixwavelet.cs q30 (fun f31 f32 f33 f34 => ((sl_Contains_byte f31 a2).bind fun w35 => (bif w35 then (v15.bind fun q37 => (ixwavelet.cs q37 (fun f38 f39 f40 f41 => ((idx f39 v16).bind fun e42 => (v15.bind fun q43 => (ixwavelet.cs q43 (fun f44 f45 f46 f47 => ((ix_wavelet_rank_l1 a2 K14 m1) f47 e42)))))))) else (v15.bind fun q49 => (ixwavelet.cs q49 (fun f50 f51 f52 f53 => ((idx f51 v16).bind fun e54 => (v15.bind fun q55 => (ixwavelet.cs q55 (fun f56 f57 f58 f59 => ((ix_wavelet_rank_l1 a2 K14 m1) f58 (IntKind.wrap .i64 (v16 - e54)))))))))))))))))) else (K14 v16)))))
def ix_wavelet_rank (fuel : Nat) (a1 : (Option ixwavelet)) (a2 : Int) (a3 : Int) : Option Int :=
 (a1.bind fun q7 => (ixwavelet.cs q7 (fun f8 f9 f10 f11 => ((sl_Contains_byte f8 a2).bind fun w12 => (bif (!w12) then (some 0) else (ix_wavelet_rank_l1 a2 (ix_wavelet_rank_j14) fuel a1 a3))))))
theorem run_ix_wavelet_rank (fuel : Nat) (a1 : (Option ixwavelet)) (a2 : Int) (a3 : Int) (r : Int) (h : ix_wavelet_rank fuel a1 a2 a3 = some r) : Run Try.prog (.call 51 [ep_ixwavelet a1, .int .u8 a2, I6 a3] (I6 r)) := by
 refine cW Try.func51 rfl (env0 := [(0, ep_ixwavelet a1), (1, .int .u8 a2), (2, I6 a3)]) ?_
 unfold ix_wavelet_rank at h
 refine W.seq ?_
 let z0 := fun t => EN ((0, ep_ixwavelet a1) :: (1, .int .u8 a2) :: (2, I6 a3) :: t)
 refine W.rt (e2 := z0 []) ?_
 refine W.seq ?_
 refine W.seq ?_
 refine W.rg ?_
 obtain ⟨q7, hq7, h⟩ := bind_some h
 obtain ⟨f8, f9, f10, f11⟩ := q7
 dsimp only [ixwavelet.cs] at h
 let z1 := fun t => z0 ((7, ep_ixwavelet a1) :: (8, .ptr (.agg [l5 none f8, l3 none f9, ep_ixwavelet f10, ep_ixwavelet f11])) :: t)
 refine WO.pk 1 (match a1.isNone with | false => some (AV.ptr (e_ixwaveletx a1)) | true => none) (v := .ptr (.agg [l5 none f8, l3 none f9, ep_ixwavelet f10, ep_ixwavelet f11])) (nc_av (F := e_ixwaveletx) hq7) (e1 := z1 []) ?_
 obtain ⟨w12, hw12, h⟩ := bind_some h
 refine WO.ck 3 (F := 77) (l := [l5 none f8, .int .u8 a2]) (C := []) (r := .bool w12) (run_sl_Contains_byte f8 a2 w12 hw12) (e1 := z1 [(9, .ptr (l5 none f8)), (10, l5 none f8), (11, .int .u8 a2), (12, .bool w12)]) ?_
 refine WO.fn (e2 := z0 [(13, .bool (!w12))]) ?_
 refine W.cb (!w12) (fun hb => ?_) (fun hb => ?_)
 ·replace h := cond_t hb h
  refine W.seq ?_
  refine W.rt (e2 := [(6, .int .i64 0)]) ?_
  refine W.wk (env' := [(6, .int .i64 0)]) ?_
  have hr : aresults Try.prog Try.f51 [(6, .int .i64 0)] = some (.int .i64 0) := by kernel_rfl
  cases h
  exact W.ret hr
 replace h := cond_f hb h
 refine W.skip ?_
 refine W.wk (env' := z0 []) ?_
 refine W.seq ?_
 refine W.join (σ := (Int)) (fun s => [(2, I6 s)]) (fun s => (ix_wavelet_rank_j14) s = some r) (fun s h => ?_) (fun hK14 => ?_)
 ·obtain ⟨v60, rfl⟩ : ∃ x, x = s := ⟨s, rfl⟩
  have h : (ix_wavelet_rank_j14) v60 = some r := h
  unfold ix_wavelet_rank_j14 at h
  refine W.seq ?_
  refine W.rt (e2 := [(6, I6 v60)]) ?_
  refine W.wk (env' := [(6, I6 v60)]) ?_
  have hr : aresults Try.prog Try.f51 [(6, I6 v60)] = some (I6 v60) := by kernel_rfl
  cases h
  exact W.ret hr
 refine W.block ?_
 refine W.wk (env' := z0 []) ?_
 refine W.fuel (σ := ((Option ixwavelet) × Int)) (fun s => [(0, ep_ixwavelet s.1), (1, .int .u8 a2), (2, I6 s.2)]) (fun m0 s => ix_wavelet_rank_l1 a2 (ix_wavelet_rank_j14) m0 s.1 s.2 = some r) (fun s h => ?_) (fun m1 s h hN1 => ?_) fuel (a1, a3) h
 ·obtain ⟨v15, v16⟩ := s
  have h : ix_wavelet_rank_l1 a2 (ix_wavelet_rank_j14) 0 v15 v16 = some r := h
  rw [ix_wavelet_rank_l1.eq_1] at h
  cases h
 ·obtain ⟨v15, v16⟩ := s
  have h : ix_wavelet_rank_l1 a2 (ix_wavelet_rank_j14) (m1 + 1) v15 v16 = some r := h
  rw [ix_wavelet_rank_l1.eq_2] at h
  refine W.seq ?_
  refine W.seq ?_
  refine W.rg ?_
  obtain ⟨q19, hq19, h⟩ := bind_some h
  obtain ⟨f20, f21, f22, f23⟩ := q19
  dsimp only [ixwavelet.cs] at h
  let z2 := fun t => EN ((0, ep_ixwavelet v15) :: (1, .int .u8 a2) :: t)
  let z3 := fun t => z2 ((2, I6 v16) :: t)
  refine WO.pk 1 (match v15.isNone with | false => some (AV.ptr (e_ixwaveletx v15)) | true => none) (v := .ptr (.agg [l5 none f20, l3 none f21, ep_ixwavelet f22, ep_ixwavelet f23])) (nc_av (F := e_ixwaveletx) hq19) (e1 := z3 [(14, ep_ixwavelet v15), (15, .ptr (.agg [l5 none f20, l3 none f21, ep_ixwavelet f22, ep_ixwavelet f23]))]) ?_
  refine WO.fn (e2 := z3 [(18, .bool (!f22.isNone))]) ?_
  refine W.cb (!f22.isNone) (fun hb => ?_) (fun hb => ?_)
  ·replace h := cond_t hb h
   refine W.skip ?_
   refine W.wk (env' := z3 []) ?_
   refine W.block ?_
   refine W.seq ?_
   refine W.rg ?_
   obtain ⟨q25, hq25, h⟩ := bind_some h
   obtain ⟨f26, f27, f28, f29⟩ := q25
   dsimp only [ixwavelet.cs] at h
   let z4 := fun t => z3 ((19, ep_ixwavelet v15) :: (20, .ptr (.agg [l5 none f26, l3 none f27, ep_ixwavelet f28, ep_ixwavelet f29])) :: t)
   refine WO.pk 1 (match v15.isNone with | false => some (AV.ptr (e_ixwaveletx v15)) | true => none) (v := .ptr (.agg [l5 none f26, l3 none f27, ep_ixwavelet f28, ep_ixwavelet f29])) (nc_av (F := e_ixwaveletx) hq25) (e1 := z4 []) ?_
   obtain ⟨q30, hq30, h⟩ := bind_some h
   obtain ⟨f31, f32, f33, f34⟩ := q30
   dsimp only [ixwavelet.cs] at h
   let z5 := fun t => z4 ((21, .ptr (ep_ixwavelet f29)) :: (22, ep_ixwavelet f29) :: (23, .ptr (.agg [l5 none f31, l3 none f32, ep_ixwavelet f33, ep_ixwavelet f34])) :: t)
   refine WO.pk 2 (match f29.isNone with | false => some (AV.ptr (e_ixwaveletx f29)) | true => none) (v := .ptr (.agg [l5 none f31, l3 none f32, ep_ixwavelet f33, ep_ixwavelet f34])) (nc_av (F := e_ixwaveletx) hq30) (e1 := z5 []) ?_
   obtain ⟨w35, hw35, h⟩ := bind_some h
   refine WO.ck 3 (F := 77) (l := [l5 none f31, .int .u8 a2]) (C := []) (r := .bool w35) (run_sl_Contains_byte f31 a2 w35 hw35) (e1 := z5 [(24, .ptr (l5 none f31)), (25, l5 none f31), (26, .int .u8 a2), (27, .bool w35)]) ?_
   let z6 := fun t => z3 ((27, .bool w35) :: t)
   refine WO.fn (e2 := z6 []) ?_
   refine W.cb w35 (fun hb => ?_) (fun hb => ?_)
   ·replace h := cond_t hb h
    refine W.seq ?_
    refine W.rg ?_
    obtain ⟨q37, hq37, h⟩ := bind_some h
    obtain ⟨f38, f39, f40, f41⟩ := q37
    dsimp only [ixwavelet.cs] at h
    let z7 := fun t => z6 ((28, ep_ixwavelet v15) :: (29, .ptr (.agg [l5 none f38, l3 none f39, ep_ixwavelet f40, ep_ixwavelet f41])) :: t)
    refine WO.pk 1 (match v15.isNone with | false => some (AV.ptr (e_ixwaveletx v15)) | true => none) (v := .ptr (.agg [l5 none f38, l3 none f39, ep_ixwavelet f40, ep_ixwavelet f41])) (nc_av (F := e_ixwaveletx) hq37) (e1 := z7 []) ?_
    obtain ⟨e42, he42, h⟩ := bind_some h
    refine WO.pk 3 (if (0 : Int) ≤ v16 then ((M6 f39)[Int.toNat v16]?).map AV.ptr else none) (v := .ptr (I6 e42)) (idx_av (f := (AV.int .i64)) he42) (e1 := z7 [(30, .ptr (l3 none f39)), (31, l3 none f39), (32, I6 v16), (33, .ptr (I6 e42))]) ?_
    refine WO.fn (e2 := z2 [(2, I6 e42)]) ?_
    refine W.rg ?_
    obtain ⟨q43, hq43, h⟩ := bind_some h
    obtain ⟨f44, f45, f46, f47⟩ := q43
    dsimp only [ixwavelet.cs] at h
    refine WO.pk 1 (match v15.isNone with | false => some (AV.ptr (e_ixwaveletx v15)) | true => none) (v := .ptr (.agg [l5 none f44, l3 none f45, ep_ixwavelet f46, ep_ixwavelet f47])) (nc_av (F := e_ixwaveletx) hq43) (e1 := z2 [(2, I6 e42), (35, ep_ixwavelet v15), (36, .ptr (.agg [l5 none f44, l3 none f45, ep_ixwavelet f46, ep_ixwavelet f47]))]) ?_
    refine WO.fn (e2 := [(0, ep_ixwavelet f47), (1, .int .u8 a2), (2, I6 e42)]) ?_
    exact hN1 (f47, e42) h
   replace h := cond_f hb h
   refine W.seq ?_
   refine W.rg ?_
   obtain ⟨q49, hq49, h⟩ := bind_some h
   obtain ⟨f50, f51, f52, f53⟩ := q49
   dsimp only [ixwavelet.cs] at h
   let z8 := fun t => z6 ((39, I6 v16) :: (40, ep_ixwavelet v15) :: (41, .ptr (.agg [l5 none f50, l3 none f51, ep_ixwavelet f52, ep_ixwavelet f53])) :: t)
   refine WO.pk 2 (match v15.isNone with | false => some (AV.ptr (e_ixwaveletx v15)) | true => none) (v := .ptr (.agg [l5 none f50, l3 none f51, ep_ixwavelet f52, ep_ixwavelet f53])) (nc_av (F := e_ixwaveletx) hq49) (e1 := z8 []) ?_
   obtain ⟨e54, he54, h⟩ := bind_some h
   refine WO.pk 3 (if (0 : Int) ≤ v16 then ((M6 f51)[Int.toNat v16]?).map AV.ptr else none) (v := .ptr (I6 e54)) (idx_av (f := (AV.int .i64)) he54) (e1 := z8 [(42, .ptr (l3 none f51)), (43, l3 none f51), (44, I6 v16), (45, .ptr (I6 e54))]) ?_
   refine WO.fn (e2 := z2 [(2, I6 (W6 (v16 - e54)))]) ?_
   refine W.rg ?_
   obtain ⟨q55, hq55, h⟩ := bind_some h
   obtain ⟨f56, f57, f58, f59⟩ := q55
   dsimp only [ixwavelet.cs] at h
   refine WO.pk 1 (match v15.isNone with | false => some (AV.ptr (e_ixwaveletx v15)) | true => none) (v := .ptr (.agg [l5 none f56, l3 none f57, ep_ixwavelet f58, ep_ixwavelet f59])) (nc_av (F := e_ixwaveletx) hq55) (e1 := z2 [(2, I6 (W6 (v16 - e54))), (48, ep_ixwavelet v15), (49, .ptr (.agg [l5 none f56, l3 none f57, ep_ixwavelet f58, ep_ixwavelet f59]))]) ?_
   refine WO.fn (e2 := [(0, ep_ixwavelet f58), (1, .int .u8 a2), (2, I6 (W6 (v16 - e54)))]) ?_
   exact hN1 (f58, (W6 (v16 - e54))) h
  replace h := cond_f hb h
  refine W.exit ?_
  refine W.wk (env' := [(2, I6 v16)]) ?_
  exact hK14 v16 h
def ix_Index_Rank_j10 (fuel : Nat) (a1 : (Option ixIndex)) (a2 : Int) (a3 : Int) (v12 : Bool) : Option (Int × Int) :=
 (bif v12 then (some (0, 2)) else (a1.bind fun q15 => ((ix_wavelet_rank fuel q15.f_w a2 a3).bind fun w16 => (some (w16, 0)))))
def ix_Index_Rank (fuel : Nat) (a1 : (Option ixIndex)) (a2 : Int) (a3 : Int) : Option (Int × Int) :=
 ((ix_Index_none a1).bind fun w7 => (bif w7 then (some (0, 1)) else (bif (decide (a3 < 0)) then ((ix_Index_Rank_j10 fuel a1 a2 a3) true) else (a1.bind fun q11 => ((ix_Index_Rank_j10 fuel a1 a2 a3) (decide (a3 > (IntKind.wrap .i64 (q11.f_length + 1)))))))))
theorem run_ix_Index_Rank (fuel : Nat) (a1 : (Option ixIndex)) (a2 : Int) (a3 : Int) (r : (Int × Int)) (h : ix_Index_Rank fuel a1 a2 a3 = some r) : Run Try.prog (.call 34 [ep e_ixIndex a1, .int .u8 a2, I6 a3] (.tup [I6 r.1, I6 r.2])) := by
 refine cW Try.func34 rfl (env0 := [(0, ep e_ixIndex a1), (1, .int .u8 a2), (2, I6 a3)]) ?_
 unfold ix_Index_Rank at h
 refine W.seq ?_
 let z0 := fun t => EN ((0, ep e_ixIndex a1) :: (1, .int .u8 a2) :: (2, I6 a3) :: t)
 refine W.rt (e2 := z0 []) ?_
 refine W.seq ?_
 refine W.seq ?_
 refine W.rg ?_
 obtain ⟨w7, hw7, h⟩ := bind_some h
 refine WO.ck 1 (F := 48) (l := [ep e_ixIndex a1]) (C := []) (r := .bool w7) (run_ix_Index_none a1 w7 hw7) (e1 := z0 [(8, ep e_ixIndex a1), (9, .bool w7)]) ?_
 refine WO.fn (e2 := z0 [(9, .bool w7)]) ?_
 refine W.cb w7 (fun hb => ?_) (fun hb => ?_)
 ·replace h := cond_t hb h
  refine W.seq ?_
  refine W.rt (e2 := [(6, .int .i64 0), (7, .int .i64 1)]) ?_
  refine W.wk (env' := [(6, .int .i64 0), (7, .int .i64 1)]) ?_
  have hr : aresults Try.prog Try.f34 [(6, .int .i64 0), (7, .int .i64 1)] = some (.tup [.int .i64 0, .int .i64 1]) := by kernel_rfl
  cases h
  exact W.ret hr
 replace h := cond_f hb h
 refine W.skip ?_
 refine W.wk (env' := z0 []) ?_
 refine W.seq ?_
 refine W.seq ?_
 refine W.join (σ := (Bool)) (fun s => z0 [(20, .bool s)]) (fun s => (ix_Index_Rank_j10 fuel a1 a2 a3) s = some r) (fun s h => ?_) (fun hK10 => ?_)
 ·obtain ⟨v12, rfl⟩ : ∃ x, x = s := ⟨s, rfl⟩
  have h : (ix_Index_Rank_j10 fuel a1 a2 a3) v12 = some r := h
  unfold ix_Index_Rank_j10 at h
  refine W.cb v12 (fun hb => ?_) (fun hb => ?_)
  ·replace h := cond_t hb h
   refine W.seq ?_
   refine W.rt (e2 := [(6, .int .i64 0), (7, .int .i64 2)]) ?_
   refine W.wk (env' := [(6, .int .i64 0), (7, .int .i64 2)]) ?_
   have hr : aresults Try.prog Try.f34 [(6, .int .i64 0), (7, .int .i64 2)] = some (.tup [.int .i64 0, .int .i64 2]) := by kernel_rfl
   cases h
   exact W.ret hr
  replace h := cond_f hb h
  refine W.skip ?_
  refine W.wk (env' := z0 []) ?_
  refine W.seq ?_
  refine W.rg ?_
  obtain ⟨q15, hq15, h⟩ := bind_some h
  let z1 := fun t => z0 ((21, ep e_ixIndex a1) :: (22, .ptr (.agg [ep_ixwavelet q15.f_w, I6 q15.f_length, l3 none q15.f_starts, l3 none q15.f_places])) :: t)
  refine WO.pk 1 (match a1.isNone with | false => some (AV.ptr ((epx e_ixIndex) a1)) | true => none) (v := .ptr (.agg [ep_ixwavelet q15.f_w, I6 q15.f_length, l3 none q15.f_starts, l3 none q15.f_places])) (nc_av (F := (epx e_ixIndex)) hq15) (e1 := z1 []) ?_
  obtain ⟨w16, hw16, h⟩ := bind_some h
  refine WO.ck 4 (F := 51) (l := [ep_ixwavelet q15.f_w, .int .u8 a2, I6 a3]) (C := []) (r := I6 w16) (run_ix_wavelet_rank fuel q15.f_w a2 a3 w16 hw16) (e1 := z1 [(23, .ptr (ep_ixwavelet q15.f_w)), (24, ep_ixwavelet q15.f_w), (25, .int .u8 a2), (26, I6 a3), (27, I6 w16)]) ?_
  refine WO.fn (e2 := [(6, I6 w16), (7, .int .i64 0)]) ?_
  refine W.wk (env' := [(6, I6 w16), (7, .int .i64 0)]) ?_
  have hr : aresults Try.prog Try.f34 [(6, I6 w16), (7, .int .i64 0)] = some (.tup [I6 w16, .int .i64 0]) := by kernel_rfl
  cases h
  exact W.ret hr
 refine W.rg ?_
 refine WO.bk 3 (fun b => z0 [(10, I6 a3), (11, .bool b), (12, .bool b)]) (decide (a3 < 0)) (fun hb => ?_) (fun hb => ?_)
 ·replace h := cond_t hb h
  refine WO.fn (e2 := z0 [(20, .bool true)]) ?_
  exact hK10 true h
 replace h := cond_f hb h
 obtain ⟨q11, hq11, h⟩ := bind_some h
 refine WO.pk 2 (match a1.isNone with | false => some (AV.ptr ((epx e_ixIndex) a1)) | true => none) (v := .ptr (.agg [ep_ixwavelet q11.f_w, I6 q11.f_length, l3 none q11.f_starts, l3 none q11.f_places])) (nc_av (F := (epx e_ixIndex)) hq11) (e1 := z0 [(10, I6 a3), (11, .bool false), (12, .bool false), (13, I6 a3), (14, ep e_ixIndex a1), (15, .ptr (.agg [ep_ixwavelet q11.f_w, I6 q11.f_length, l3 none q11.f_starts, l3 none q11.f_places]))]) ?_
 refine WO.fn (e2 := z0 [(20, .bool (decide (a3 > (W6 (q11.f_length + 1)))))]) ?_
 exact hK10 (decide (a3 > (W6 (q11.f_length + 1)))) h
def sl_Index_int_j4 : Option Int :=
 (some (-1))
def sl_Index_int_l1 (a2 : Int) (K4 : (Option Int)) : List Int → Nat → Option Int
 | [], k1 => K4
 | x1 :: r1, k1 => (bif (a2 == x1) then (some (k1 : Int)) else (sl_Index_int_l1 a2 K4 r1 (k1 + 1)))
def sl_Index_int (a1 : (List Int)) (a2 : Int) : Option Int :=
 (chk (lenOk a1) (sl_Index_int_l1 a2 (sl_Index_int_j4) a1 0))
theorem run_sl_Index_int (a1 : (List Int)) (a2 : Int) (r : Int) (h : sl_Index_int a1 a2 = some r) : Run Try.prog (.call 52 [l3 none a1, I6 a2] (I6 r)) := by
 refine cW Try.func52 rfl (env0 := [(0, l3 none a1), (1, I6 a2)]) ?_
 unfold sl_Index_int at h
 refine W.seq ?_
 let z0 := fun t => EN ((0, l3 none a1) :: (1, I6 a2) :: t)
 refine W.rt (e2 := z0 []) ?_
 refine W.seq ?_
 refine W.join (σ := Unit) (fun s => []) (fun s => (sl_Index_int_j4) = some r) (fun s h => ?_) (fun hK4 => ?_)
 ·have h : (sl_Index_int_j4) = some r := h
  unfold sl_Index_int_j4 at h
  refine W.seq ?_
  refine W.rt (e2 := [(4, I6 (-1))]) ?_
  refine W.wk (env' := [(4, I6 (-1))]) ?_
  have hr : aresults Try.prog Try.f52 [(4, I6 (-1))] = some (I6 (-1)) := by kernel_rfl
  cases h
  exact W.ret hr
 refine W.seq ?_
 refine W.rg ?_
 refine WO.pk 1 (some (I6 ((M6 a1).length : Int))) (v := I6 (a1.length : Int)) (by rw [List.length_map]) (e1 := z0 [(6, l3 none a1), (7, I6 (a1.length : Int))]) ?_
 let z1 := fun t => z0 ((7, I6 (a1.length : Int)) :: t)
 refine WO.fn (e2 := z1 [(8, .int .i64 0)]) ?_
 refine W.block ?_
 obtain ⟨hl1, h⟩ := chk_some h
 refine W.wk (env' := z1 [(8, I6 ((0 : Nat) : Int))]) ?_
 refine W.range (σ := Unit) a1 (fun k1 s => z1 [(8, I6 (k1 : Int))]) (fun r0 k0 s => sl_Index_int_l1 a2 (sl_Index_int_j4) r0 k0 = some r) (fun s h => ?_) (fun x1 r1 k1 s hx1 hk1 h hN1 => ?_) () h
 ·have h : sl_Index_int_l1 a2 (sl_Index_int_j4) [] (a1).length = some r := h
  rw [sl_Index_int_l1.eq_1] at h
  refine W.seq ?_
  refine W.rg ?_
  let z2 := fun t => z1 ((8, I6 ((a1).length : Int)) :: (9, .bool false) :: t)
  refine WO.pk 0 (some (.bool (decide (((a1).length : Int) < (a1.length : Int))))) (v := .bool false) (by rw [lt_false (l := a1)]) (e1 := z2 []) ?_
  refine WO.fn (e2 := z2 []) ?_
  refine W.seq ?_
  refine W.cb false (fun h => Bool.noConfusion h) (fun _ => ?_)
  refine W.exit ?_
  refine W.wk (env' := []) ?_
  exact hK4 () h
 ·have h : sl_Index_int_l1 a2 (sl_Index_int_j4) (x1 :: r1) k1 = some r := h
  rw [sl_Index_int_l1.eq_2] at h
  refine W.seq ?_
  refine W.rg ?_
  let z3 := fun t => z1 ((8, I6 (k1 : Int)) :: t)
  refine WO.pk 0 (some (.bool (decide ((k1 : Int) < (a1.length : Int))))) (v := .bool true) (by rw [lt_true hk1]) (e1 := z3 [(9, .bool true)]) ?_
  refine WO.fn (e2 := z3 [(9, .bool true)]) ?_
  refine W.seq ?_
  refine W.cb true (fun _ => ?_) (fun h => Bool.noConfusion h)
  refine W.skip ?_
  refine W.wk (env' := z3 []) ?_
  refine W.seq ?_
  refine W.block ?_
  refine W.seq ?_
  let z4 := fun t => z0 ((5, I6 (k1 : Int)) :: (7, I6 (a1.length : Int)) :: (8, I6 (k1 : Int)) :: t)
  refine W.rt (e2 := z4 []) ?_
  refine W.seq ?_
  refine W.rg ?_
  refine WO.pk 3 (if (0 : Int) ≤ (k1 : Int) then ((M6 a1)[Int.toNat (k1 : Int)]?).map AV.ptr else none) (v := .ptr (I6 x1)) (idx_nat (f := (AV.int .i64)) hx1) (e1 := z4 [(11, I6 a2), (12, l3 none a1), (13, I6 (k1 : Int)), (14, .ptr (I6 x1))]) ?_
  refine WO.fn (e2 := z4 [(16, .bool (a2 == x1))]) ?_
  refine W.cb (a2 == x1) (fun hb => ?_) (fun hb => ?_)
  ·replace h := cond_t hb h
   refine W.seq ?_
   refine W.rt (e2 := [(4, I6 (k1 : Int))]) ?_
   refine W.wk (env' := [(4, I6 (k1 : Int))]) ?_
   have hr : aresults Try.prog Try.f52 [(4, I6 (k1 : Int))] = some (I6 (k1 : Int)) := by kernel_rfl
   cases h
   exact W.ret hr
  replace h := cond_f hb h
  refine W.skip ?_
  refine W.wk (env' := z3 []) ?_
  refine W.rg ?_
  refine WO.pk 0 (some (I6 (IntKind.wrap .i64 ((k1 : Int) + 1)))) (v := I6 ((k1 + 1 : Nat) : Int)) (by rw [wrap_succ hl1 hk1]) (e1 := z3 [(18, I6 ((k1 + 1 : Nat) : Int))]) ?_
  refine WO.fn (e2 := z1 [(8, I6 ((k1 + 1 : Nat) : Int))]) ?_
  exact hN1 () h
def ix_wavelet_at_j4 (v51 : (Option ixwavelet)) : Option Int :=
 (v51.bind fun q53 => (ixwavelet.cs q53 (fun f54 f55 f56 f57 => ((idx f54 0).bind fun e58 => (some e58)))))
def ix_wavelet_at_l1 (K4 : ((Option ixwavelet) → Option Int)) : Nat → (Option ixwavelet) → Int → Option Int
 | 0, _, _ => none
 | m1 + 1, v5, v6 => (v5.bind fun q9 => (ixwavelet.cs q9 (fun f10 f11 f12 f13 => (bif (!f12.isNone) then (v5.bind fun q15 => (ixwavelet.cs q15 (fun f16 f17 f18 f19 => ((idx f17 (IntKind.wrap .i64 (v6 + 1))).bind fun e20 => (v5.bind fun q21 => (ixwavelet.cs q21 (fun f22 f23 f24 f25 => ((idx f23 v6).bind fun e26 => (bif (decide (e20 > e26)) then (v5.bind fun q28 => (ixwavelet.cs q28 (fun f29 f30 f31 f32 => ((idx f30 v6).bind fun e33 => (v5.bind fun q34 => (ixwavelet.cs q34 (fun f35 f36 f37 f38 => ((ix_wavelet_at_l1 K4 m1) f38 e33)))))))) else (v5.bind fun q40 => (ixwavelet.cs q40 (fun f41 f42 f43 f44 => ((idx f42 v6).bind fun e45 => (v5.bind fun q46 => (ixwavelet.cs q46 (fun f47 f48 f49 f50 => ((ix_wavelet_at_l1 K4 m1) f49 (IntKind.wrap .i64 (v6 - e45))))))))))))))))))) else (K4 v5)))))
def ix_wavelet_at (fuel : Nat) (a1 : (Option ixwavelet)) (a2 : Int) : Option Int :=
 (ix_wavelet_at_l1 (ix_wavelet_at_j4) fuel a1 a2)
theorem run_ix_wavelet_at (fuel : Nat) (a1 : (Option ixwavelet)) (a2 : Int) (r : Int) (h : ix_wavelet_at fuel a1 a2 = some r) : Run Try.prog (.call 53 [ep_ixwavelet a1, I6 a2] (.int .u8 r)) := by
 refine cW Try.func53 rfl (env0 := [(0, ep_ixwavelet a1), (1, I6 a2)]) ?_
 unfold ix_wavelet_at at h
 refine W.seq ?_
 refine W.rt (e2 := [(0, ep_ixwavelet a1), (1, I6 a2)]) ?_
 refine W.seq ?_
 refine W.join (σ := ((Option ixwavelet))) (fun s => [(0, ep_ixwavelet s)]) (fun s => (ix_wavelet_at_j4) s = some r) (fun s h => ?_) (fun hK4 => ?_)
 ·obtain ⟨v51, rfl⟩ : ∃ x, x = s := ⟨s, rfl⟩
  have h : (ix_wavelet_at_j4) v51 = some r := h
  unfold ix_wavelet_at_j4 at h
  refine W.seq ?_
  refine W.rg ?_
  obtain ⟨q53, hq53, h⟩ := bind_some h
  obtain ⟨f54, f55, f56, f57⟩ := q53
  dsimp only [ixwavelet.cs] at h
  let z0 := fun t => EN ((0, ep_ixwavelet v51) :: (50, ep_ixwavelet v51) :: (51, .ptr (.agg [l5 none f54, l3 none f55, ep_ixwavelet f56, ep_ixwavelet f57])) :: t)
  refine WO.pk 1 (match v51.isNone with | false => some (AV.ptr (e_ixwaveletx v51)) | true => none) (v := .ptr (.agg [l5 none f54, l3 none f55, ep_ixwavelet f56, ep_ixwavelet f57])) (nc_av (F := e_ixwaveletx) hq53) (e1 := z0 []) ?_
  obtain ⟨e58, he58, h⟩ := bind_some h
  refine WO.pk 2 (if (0 : Int) ≤ 0 then ((M8 f54)[Int.toNat 0]?).map AV.ptr else none) (v := .ptr (.int .u8 e58)) (idx_av (f := (AV.int .u8)) he58) (e1 := z0 [(52, .ptr (l5 none f54)), (53, l5 none f54), (54, .ptr (.int .u8 e58))]) ?_
  refine WO.fn (e2 := [(4, .int .u8 e58)]) ?_
  refine W.wk (env' := [(4, .int .u8 e58)]) ?_
  have hr : aresults Try.prog Try.f53 [(4, .int .u8 e58)] = some (.int .u8 e58) := by kernel_rfl
  cases h
  exact W.ret hr
 refine W.block ?_
 refine W.wk (env' := [(0, ep_ixwavelet a1), (1, I6 a2)]) ?_
 refine W.fuel (σ := ((Option ixwavelet) × Int)) (fun s => [(0, ep_ixwavelet s.1), (1, I6 s.2)]) (fun m0 s => ix_wavelet_at_l1 (ix_wavelet_at_j4) m0 s.1 s.2 = some r) (fun s h => ?_) (fun m1 s h hN1 => ?_) fuel (a1, a2) h
 ·obtain ⟨v5, v6⟩ := s
  have h : ix_wavelet_at_l1 (ix_wavelet_at_j4) 0 v5 v6 = some r := h
  rw [ix_wavelet_at_l1.eq_1] at h
  cases h
 ·obtain ⟨v5, v6⟩ := s
  have h : ix_wavelet_at_l1 (ix_wavelet_at_j4) (m1 + 1) v5 v6 = some r := h
  rw [ix_wavelet_at_l1.eq_2] at h
  refine W.seq ?_
  refine W.seq ?_
  refine W.rg ?_
  obtain ⟨q9, hq9, h⟩ := bind_some h
  obtain ⟨f10, f11, f12, f13⟩ := q9
  dsimp only [ixwavelet.cs] at h
  let z1 := fun t => EN ((0, ep_ixwavelet v5) :: (1, I6 v6) :: t)
  refine WO.pk 1 (match v5.isNone with | false => some (AV.ptr (e_ixwaveletx v5)) | true => none) (v := .ptr (.agg [l5 none f10, l3 none f11, ep_ixwavelet f12, ep_ixwavelet f13])) (nc_av (F := e_ixwaveletx) hq9) (e1 := z1 [(5, ep_ixwavelet v5), (6, .ptr (.agg [l5 none f10, l3 none f11, ep_ixwavelet f12, ep_ixwavelet f13]))]) ?_
  refine WO.fn (e2 := z1 [(9, .bool (!f12.isNone))]) ?_
  refine W.cb (!f12.isNone) (fun hb => ?_) (fun hb => ?_)
  ·replace h := cond_t hb h
   refine W.skip ?_
   refine W.wk (env' := z1 []) ?_
   refine W.block ?_
   refine W.seq ?_
   refine W.rg ?_
   obtain ⟨q15, hq15, h⟩ := bind_some h
   obtain ⟨f16, f17, f18, f19⟩ := q15
   dsimp only [ixwavelet.cs] at h
   let z2 := fun t => z1 ((10, ep_ixwavelet v5) :: (11, .ptr (.agg [l5 none f16, l3 none f17, ep_ixwavelet f18, ep_ixwavelet f19])) :: t)
   refine WO.pk 1 (match v5.isNone with | false => some (AV.ptr (e_ixwaveletx v5)) | true => none) (v := .ptr (.agg [l5 none f16, l3 none f17, ep_ixwavelet f18, ep_ixwavelet f19])) (nc_av (F := e_ixwaveletx) hq15) (e1 := z2 []) ?_
   obtain ⟨e20, he20, h⟩ := bind_some h
   let z3 := fun t => z2 ((12, .ptr (l3 none f17)) :: (13, l3 none f17) :: (14, I6 v6) :: (15, I6 (W6 (v6 + 1))) :: (16, .ptr (I6 e20)) :: t)
   refine WO.pk 4 (if (0 : Int) ≤ (W6 (v6 + 1)) then ((M6 f17)[Int.toNat (W6 (v6 + 1))]?).map AV.ptr else none) (v := .ptr (I6 e20)) (idx_av (f := (AV.int .i64)) he20) (e1 := z3 []) ?_
   obtain ⟨q21, hq21, h⟩ := bind_some h
   obtain ⟨f22, f23, f24, f25⟩ := q21
   dsimp only [ixwavelet.cs] at h
   let z4 := fun t => z3 ((17, I6 e20) :: (18, ep_ixwavelet v5) :: (19, .ptr (.agg [l5 none f22, l3 none f23, ep_ixwavelet f24, ep_ixwavelet f25])) :: t)
   refine WO.pk 2 (match v5.isNone with | false => some (AV.ptr (e_ixwaveletx v5)) | true => none) (v := .ptr (.agg [l5 none f22, l3 none f23, ep_ixwavelet f24, ep_ixwavelet f25])) (nc_av (F := e_ixwaveletx) hq21) (e1 := z4 []) ?_
   obtain ⟨e26, he26, h⟩ := bind_some h
   refine WO.pk 3 (if (0 : Int) ≤ v6 then ((M6 f23)[Int.toNat v6]?).map AV.ptr else none) (v := .ptr (I6 e26)) (idx_av (f := (AV.int .i64)) he26) (e1 := z4 [(20, .ptr (l3 none f23)), (21, l3 none f23), (22, I6 v6), (23, .ptr (I6 e26))]) ?_
   let z5 := fun t => z1 ((25, .bool (decide (e20 > e26))) :: t)
   refine WO.fn (e2 := z5 []) ?_
   refine W.cb (decide (e20 > e26)) (fun hb => ?_) (fun hb => ?_)
   ·replace h := cond_t hb h
    refine W.seq ?_
    refine W.rg ?_
    obtain ⟨q28, hq28, h⟩ := bind_some h
    obtain ⟨f29, f30, f31, f32⟩ := q28
    dsimp only [ixwavelet.cs] at h
    let z6 := fun t => z5 ((26, ep_ixwavelet v5) :: (27, .ptr (.agg [l5 none f29, l3 none f30, ep_ixwavelet f31, ep_ixwavelet f32])) :: t)
    refine WO.pk 1 (match v5.isNone with | false => some (AV.ptr (e_ixwaveletx v5)) | true => none) (v := .ptr (.agg [l5 none f29, l3 none f30, ep_ixwavelet f31, ep_ixwavelet f32])) (nc_av (F := e_ixwaveletx) hq28) (e1 := z6 []) ?_
    obtain ⟨e33, he33, h⟩ := bind_some h
    refine WO.pk 3 (if (0 : Int) ≤ v6 then ((M6 f30)[Int.toNat v6]?).map AV.ptr else none) (v := .ptr (I6 e33)) (idx_av (f := (AV.int .i64)) he33) (e1 := z6 [(28, .ptr (l3 none f30)), (29, l3 none f30), (30, I6 v6), (31, .ptr (I6 e33))]) ?_
    refine WO.fn (e2 := [(0, ep_ixwavelet v5), (1, I6 e33)]) ?_
    refine W.rg ?_
    obtain ⟨q34, hq34, h⟩ := bind_some h
    obtain ⟨f35, f36, f37, f38⟩ := q34
    dsimp only [ixwavelet.cs] at h
    refine WO.pk 1 (match v5.isNone with | false => some (AV.ptr (e_ixwaveletx v5)) | true => none) (v := .ptr (.agg [l5 none f35, l3 none f36, ep_ixwavelet f37, ep_ixwavelet f38])) (nc_av (F := e_ixwaveletx) hq34) (e1 := [(0, ep_ixwavelet v5), (1, I6 e33), (33, ep_ixwavelet v5), (34, .ptr (.agg [l5 none f35, l3 none f36, ep_ixwavelet f37, ep_ixwavelet f38]))]) ?_
    refine WO.fn (e2 := [(0, ep_ixwavelet f38), (1, I6 e33)]) ?_
    exact hN1 (f38, e33) h
   replace h := cond_f hb h
   refine W.seq ?_
   refine W.rg ?_
   obtain ⟨q40, hq40, h⟩ := bind_some h
   obtain ⟨f41, f42, f43, f44⟩ := q40
   dsimp only [ixwavelet.cs] at h
   let z7 := fun t => z5 ((37, I6 v6) :: (38, ep_ixwavelet v5) :: (39, .ptr (.agg [l5 none f41, l3 none f42, ep_ixwavelet f43, ep_ixwavelet f44])) :: t)
   refine WO.pk 2 (match v5.isNone with | false => some (AV.ptr (e_ixwaveletx v5)) | true => none) (v := .ptr (.agg [l5 none f41, l3 none f42, ep_ixwavelet f43, ep_ixwavelet f44])) (nc_av (F := e_ixwaveletx) hq40) (e1 := z7 []) ?_
   obtain ⟨e45, he45, h⟩ := bind_some h
   refine WO.pk 3 (if (0 : Int) ≤ v6 then ((M6 f42)[Int.toNat v6]?).map AV.ptr else none) (v := .ptr (I6 e45)) (idx_av (f := (AV.int .i64)) he45) (e1 := z7 [(40, .ptr (l3 none f42)), (41, l3 none f42), (42, I6 v6), (43, .ptr (I6 e45))]) ?_
   refine WO.fn (e2 := [(0, ep_ixwavelet v5), (1, I6 (W6 (v6 - e45)))]) ?_
   refine W.rg ?_
   obtain ⟨q46, hq46, h⟩ := bind_some h
   obtain ⟨f47, f48, f49, f50⟩ := q46
   dsimp only [ixwavelet.cs] at h
   refine WO.pk 1 (match v5.isNone with | false => some (AV.ptr (e_ixwaveletx v5)) | true => none) (v := .ptr (.agg [l5 none f47, l3 none f48, ep_ixwavelet f49, ep_ixwavelet f50])) (nc_av (F := e_ixwaveletx) hq46) (e1 := [(0, ep_ixwavelet v5), (1, I6 (W6 (v6 - e45))), (46, ep_ixwavelet v5), (47, .ptr (.agg [l5 none f47, l3 none f48, ep_ixwavelet f49, ep_ixwavelet f50]))]) ?_
   refine WO.fn (e2 := [(0, ep_ixwavelet f49), (1, I6 (W6 (v6 - e45)))]) ?_
   exact hN1 (f49, (W6 (v6 - e45))) h
  replace h := cond_f hb h
  refine W.exit ?_
  refine W.wk (env' := [(0, ep_ixwavelet v5)]) ?_
  exact hK4 v5 h
def ix_Index_before (fuel : Nat) (a1 : (Option ixIndex)) (a2 : Int) (a3 : Int) : Option Int :=
 (a1.bind fun q6 => ((idx q6.f_starts a2).bind fun e7 => (a1.bind fun q8 => ((ix_wavelet_rank fuel q8.f_w a2 a3).bind fun w9 => (some (IntKind.wrap .i64 (e7 + w9)))))))
theorem run_ix_Index_before (fuel : Nat) (a1 : (Option ixIndex)) (a2 : Int) (a3 : Int) (r : Int) (h : ix_Index_before fuel a1 a2 a3 = some r) : Run Try.prog (.call 54 [ep e_ixIndex a1, .int .u8 a2, I6 a3] (I6 r)) := by
 refine cW Try.func54 rfl (env0 := [(0, ep e_ixIndex a1), (1, .int .u8 a2), (2, I6 a3)]) ?_
 unfold ix_Index_before at h
 refine W.seq ?_
 let z0 := fun t => EN ((0, ep e_ixIndex a1) :: (1, .int .u8 a2) :: (2, I6 a3) :: t)
 refine W.rt (e2 := z0 []) ?_
 refine W.seq ?_
 refine W.rg ?_
 obtain ⟨q6, hq6, h⟩ := bind_some h
 let z1 := fun t => z0 ((7, ep e_ixIndex a1) :: (8, .ptr (.agg [ep_ixwavelet q6.f_w, I6 q6.f_length, l3 none q6.f_starts, l3 none q6.f_places])) :: t)
 refine WO.pk 1 (match a1.isNone with | false => some (AV.ptr ((epx e_ixIndex) a1)) | true => none) (v := .ptr (.agg [ep_ixwavelet q6.f_w, I6 q6.f_length, l3 none q6.f_starts, l3 none q6.f_places])) (nc_av (F := (epx e_ixIndex)) hq6) (e1 := z1 []) ?_
 obtain ⟨e7, he7, h⟩ := bind_some h
 let z2 := fun t => z1 ((9, .ptr (l3 none q6.f_starts)) :: (10, l3 none q6.f_starts) :: (11, .int .u8 a2) :: (12, .ptr (I6 e7)) :: t)
 refine WO.pk 3 (if (0 : Int) ≤ a2 then ((M6 q6.f_starts)[Int.toNat a2]?).map AV.ptr else none) (v := .ptr (I6 e7)) (idx_av (f := (AV.int .i64)) he7) (e1 := z2 []) ?_
 obtain ⟨q8, hq8, h⟩ := bind_some h
 let z3 := fun t => z2 ((13, I6 e7) :: (14, ep e_ixIndex a1) :: (15, .ptr (.agg [ep_ixwavelet q8.f_w, I6 q8.f_length, l3 none q8.f_starts, l3 none q8.f_places])) :: t)
 refine WO.pk 2 (match a1.isNone with | false => some (AV.ptr ((epx e_ixIndex) a1)) | true => none) (v := .ptr (.agg [ep_ixwavelet q8.f_w, I6 q8.f_length, l3 none q8.f_starts, l3 none q8.f_places])) (nc_av (F := (epx e_ixIndex)) hq8) (e1 := z3 []) ?_
 obtain ⟨w9, hw9, h⟩ := bind_some h
 refine WO.ck 4 (F := 51) (l := [ep_ixwavelet q8.f_w, .int .u8 a2, I6 a3]) (C := []) (r := I6 w9) (run_ix_wavelet_rank fuel q8.f_w a2 a3 w9 hw9) (e1 := z3 [(16, .ptr (ep_ixwavelet q8.f_w)), (17, ep_ixwavelet q8.f_w), (18, .int .u8 a2), (19, I6 a3), (20, I6 w9)]) ?_
 refine WO.fn (e2 := [(6, I6 (W6 (e7 + w9)))]) ?_
 refine W.wk (env' := [(6, I6 (W6 (e7 + w9)))]) ?_
 have hr : aresults Try.prog Try.f54 [(6, I6 (W6 (e7 + w9)))] = some (I6 (W6 (e7 + w9))) := by kernel_rfl
 cases h
 exact W.ret hr
def sl_Reverse_byte_l1 (n2 : Nat) : Nat → (List Int) → Int → Int → Option (List Int)
 | 0, _, _, _ => none
 | m1 + 1, v4, v5, v6 => (bif (decide (v5 < v6)) then (chk (decide ((0 : Int) ≤ v6 ∧ v6 < ((n2 : Nat) : Int))) ((v4[(0 + Int.toNat v6)]?).bind fun e11 => (chk (decide ((0 : Int) ≤ v5 ∧ v5 < ((n2 : Nat) : Int))) ((v4[(0 + Int.toNat v5)]?).bind fun e13 => (chk (decide ((0 : Int) ≤ v5 ∧ v5 < ((n2 : Nat) : Int))) ((upd v4 (0 + Int.toNat v5) e11).bind fun u15 => (chk (decide ((0 : Int) ≤ v6 ∧ v6 < ((n2 : Nat) : Int))) ((upd u15 (0 + Int.toNat v6) e13).bind fun u18 => ((sl_Reverse_byte_l1 n2 m1) u18 (IntKind.wrap .i64 (v5 + 1)) (IntKind.wrap .i64 (v6 - 1))))))))))) else (some v4))
def sl_Reverse_byte (fuel : Nat) (a1 : (List Int)) (n2 : Nat) : Option (List Int) :=
 (sl_Reverse_byte_l1 n2 fuel a1 0 (IntKind.wrap .i64 (((n2 : Nat) : Int) - 1)))
theorem run_sl_Reverse_byte (fuel : Nat) (a1 : (List Int)) (n2 : Nat) (r : (List Int)) (h : sl_Reverse_byte fuel a1 n2 = some r) : Run Try.prog (.callM 55 [S1 n2] [(2000000, .obj 5 1 (M8 a1))] (.tup []) [(2000000, .obj 5 1 (M8 r))]) := by
 refine cM Try.func55 rfl (env0 := [(0, S1 n2), (2000000, .obj 5 1 (M8 a1))]) ?_
 unfold sl_Reverse_byte at h
 refine W.seq ?_
 let z0 := fun t => EN ((0, S1 n2) :: t)
 let z1 := fun t => z0 ((2, .int .i64 0) :: (3, I6 (W6 (((n2 : Nat) : Int) - 1))) :: (2000000, .obj 5 1 (M8 a1)) :: t)
 refine W.rt (e2 := z1 []) ?_
 refine W.block ?_
 refine W.wk (env' := z1 []) ?_
 refine W.fuel (σ := ((List Int) × Int × Int)) (fun s => z0 [(2, I6 s.2.1), (3, I6 s.2.2), (2000000, .obj 5 1 (M8 s.1))]) (fun m0 s => sl_Reverse_byte_l1 n2 m0 s.1 s.2.1 s.2.2 = some r) (fun s h => ?_) (fun m1 s h hN1 => ?_) fuel (a1, 0, (W6 (((n2 : Nat) : Int) - 1))) h
 ·obtain ⟨v4, v5, v6⟩ := s
  have h : sl_Reverse_byte_l1 n2 0 v4 v5 v6 = some r := h
  rw [sl_Reverse_byte_l1.eq_1] at h
  cases h
 ·obtain ⟨v4, v5, v6⟩ := s
  have h : sl_Reverse_byte_l1 n2 (m1 + 1) v4 v5 v6 = some r := h
  rw [sl_Reverse_byte_l1.eq_2] at h
  refine W.seq ?_
  refine W.seq ?_
  let z2 := fun t => z0 ((2, I6 v5) :: (3, I6 v6) :: t)
  let z3 := fun t => z2 ((9, .bool (decide (v5 < v6))) :: (2000000, .obj 5 1 (M8 v4)) :: t)
  refine W.rt (e2 := z3 []) ?_
  refine W.cb (decide (v5 < v6)) (fun hb => ?_) (fun hb => ?_)
  ·replace h := cond_t hb h
   refine W.skip ?_
   refine W.wk (env' := z2 [(2000000, .obj 5 1 (M8 v4))]) ?_
   refine W.seq ?_
   refine W.block ?_
   refine W.rg ?_
   obtain ⟨hc10, h⟩ := chk_some h
   let z4 := fun t => z2 ((14, S1 n2) :: (15, I6 v5) :: (16, S1 n2) :: (17, I6 v6) :: (18, S1 n2) :: (19, I6 v6) :: (20, .pe 2000000 1 (0 + Int.toNat v6) 0) :: t)
   refine WO.pi 6 (v := .pe 2000000 1 (0 + Int.toNat v6) 0) hc10 (e1 := z4 [(2000000, .obj 5 1 (M8 v4))]) ?_
   obtain ⟨e11, he11, h⟩ := bind_some h
   let z5 := fun t => z4 ((21, .int .u8 e11) :: t)
   refine WO.pl 0 (v := .int .u8 e11) (AV.int .u8) 5 0 he11 (e1 := z5 [(2000000, .obj 5 1 (M8 v4))]) ?_
   obtain ⟨hc12, h⟩ := chk_some h
   let z6 := fun t => z5 ((22, S1 n2) :: (23, I6 v5) :: (24, .pe 2000000 1 (0 + Int.toNat v5) 0) :: t)
   refine WO.pi 2 (v := .pe 2000000 1 (0 + Int.toNat v5) 0) hc12 (e1 := z6 [(2000000, .obj 5 1 (M8 v4))]) ?_
   obtain ⟨e13, he13, h⟩ := bind_some h
   let z7 := fun t => z6 ((25, .int .u8 e13) :: t)
   refine WO.pl 0 (v := .int .u8 e13) (AV.int .u8) 5 0 he13 (e1 := z7 [(2000000, .obj 5 1 (M8 v4))]) ?_
   obtain ⟨hc14, h⟩ := chk_some h
   let z8 := fun t => z7 ((26, .pe 2000000 1 (0 + Int.toNat v5) 0) :: t)
   refine WO.pi 0 (v := .pe 2000000 1 (0 + Int.toNat v5) 0) hc14 (e1 := z8 [(2000000, .obj 5 1 (M8 v4))]) ?_
   obtain ⟨u15, hu15, h⟩ := bind_some h
   obtain ⟨y16, hyy16, hzy16⟩ := upd_some hu15
   refine WO.sk 0 (id := 2000000) (e := 5) (s := 1) (off := 0) (vs := [.int .u8 e11]) (AV.int .u8) hyy16 hzy16 (e1 := z8 [(2000000, .obj 5 1 (M8 u15))]) ?_
   obtain ⟨hc17, h⟩ := chk_some h
   let z9 := fun t => z8 ((27, .pe 2000000 1 (0 + Int.toNat v6) 0) :: t)
   refine WO.pi 0 (v := .pe 2000000 1 (0 + Int.toNat v6) 0) hc17 (e1 := z9 [(2000000, .obj 5 1 (M8 u15))]) ?_
   obtain ⟨u18, hu18, h⟩ := bind_some h
   obtain ⟨y19, hyy19, hzy19⟩ := upd_some hu18
   refine WO.sk 0 (id := 2000000) (e := 5) (s := 1) (off := 0) (vs := [.int .u8 e13]) (AV.int .u8) hyy19 hzy19 (e1 := z9 [(2000000, .obj 5 1 (M8 u18))]) ?_
   refine WO.fn (e2 := z2 [(2000000, .obj 5 1 (M8 u18))]) ?_
   refine W.rt (e2 := z0 [(2, I6 (W6 (v5 + 1))), (3, I6 (W6 (v6 - 1))), (2000000, .obj 5 1 (M8 u18))]) ?_
   exact hN1 (u18, (W6 (v5 + 1)), (W6 (v6 - 1))) h
  replace h := cond_f hb h
  have hr : PostM Try.prog Try.f55 (.tup []) [(2000000, .obj 5 1 (M8 v4))] .normal (z3 []) := ⟨by kernel_rfl, by kernel_rfl⟩
  cases h
  exact W.exit hr
def ix_Index_Extract_j18 (fuel : Nat) (v33 : (List Int)) (n34 : Nat) : Option (ByteArray × Int) :=
 ((sl_Reverse_byte fuel v33 n34).bind fun w36 => (some ((strOfI (snap 0 n34 w36)), 0)))
def ix_Index_Extract_l1 (fuel : Nat) (a1 : (Option ixIndex)) (a2 : Int) (K18 : ((List Int) → Nat → Option (ByteArray × Int))) : Nat → (List Int) → Int → Nat → Int → Option (ByteArray × Int)
 | 0, _, _, _, _ => none
 | m1 + 1, v20, v21, n22, v23 => (bif (decide (v23 > a2)) then (a1.bind fun q28 => ((ix_wavelet_at fuel q28.f_w v21).bind fun w29 => (chk (capOk 1 (n22 + ([w29]).length)) ((ix_Index_before fuel a1 w29 v21).bind fun w32 => ((ix_Index_Extract_l1 fuel a1 a2 K18 m1) ((snap 0 n22 v20) ++ [w29]) w32 ((((snap 0 n22 v20) ++ [w29])).length) (IntKind.wrap .i64 (v23 - 1))))))) else (K18 v20 n22))
def ix_Index_Extract_j10 (fuel : Nat) (a1 : (Option ixIndex)) (a2 : Int) (a3 : Int) (v12 : Bool) : Option (ByteArray × Int) :=
 (bif v12 then (some ((ByteArray.mk #[]), 2)) else (a1.bind fun q15 => ((sl_Index_int q15.f_places a3).bind fun w16 => (ix_Index_Extract_l1 fuel a1 a2 (ix_Index_Extract_j18 fuel) fuel ([] : (List Int)) w16 (([] : (List Int)).length) a3))))
def ix_Index_Extract (fuel : Nat) (a1 : (Option ixIndex)) (a2 : Int) (a3 : Int) : Option (ByteArray × Int) :=
 ((ix_Index_none a1).bind fun w7 => (bif w7 then (some ((ByteArray.mk #[]), 1)) else (bif (decide (a2 < 0)) then ((ix_Index_Extract_j10 fuel a1 a2 a3) true) else (bif (decide (a2 > a3)) then ((ix_Index_Extract_j10 fuel a1 a2 a3) true) else (a1.bind fun q11 => ((ix_Index_Extract_j10 fuel a1 a2 a3) (decide (a3 > q11.f_length))))))))
theorem run_ix_Index_Extract (fuel : Nat) (a1 : (Option ixIndex)) (a2 : Int) (a3 : Int) (r : (ByteArray × Int)) (h : ix_Index_Extract fuel a1 a2 a3 = some r) : Run Try.prog (.call 35 [ep e_ixIndex a1, I6 a2, I6 a3] (.tup [.str r.1, I6 r.2])) := by
 refine cW Try.func35 rfl (env0 := [(0, ep e_ixIndex a1), (1, I6 a2), (2, I6 a3)]) ?_
 unfold ix_Index_Extract at h
 refine W.seq ?_
 let z0 := fun t => EN ((0, ep e_ixIndex a1) :: (1, I6 a2) :: t)
 let z1 := fun t => z0 ((2, I6 a3) :: t)
 refine W.rt (e2 := z1 []) ?_
 refine W.seq ?_
 refine W.seq ?_
 refine W.rg ?_
 obtain ⟨w7, hw7, h⟩ := bind_some h
 refine WO.ck 1 (F := 48) (l := [ep e_ixIndex a1]) (C := []) (r := .bool w7) (run_ix_Index_none a1 w7 hw7) (e1 := z1 [(12, ep e_ixIndex a1), (13, .bool w7)]) ?_
 refine WO.fn (e2 := z1 [(13, .bool w7)]) ?_
 refine W.cb w7 (fun hb => ?_) (fun hb => ?_)
 ·replace h := cond_t hb h
  refine W.seq ?_
  let z2 := fun t => EN ((6, .str (ByteArray.mk #[])) :: (7, .int .i64 1) :: t)
  refine W.rt (e2 := z2 []) ?_
  refine W.wk (env' := z2 []) ?_
  have hr : aresults Try.prog Try.f35 [(6, .str (ByteArray.mk #[])), (7, .int .i64 1)] = some (.tup [.str (ByteArray.mk #[]), .int .i64 1]) := by kernel_rfl
  cases h
  exact W.ret hr
 replace h := cond_f hb h
 refine W.skip ?_
 refine W.wk (env' := z1 []) ?_
 refine W.seq ?_
 refine W.seq ?_
 refine W.join (σ := (Bool)) (fun s => z1 [(28, .bool s)]) (fun s => (ix_Index_Extract_j10 fuel a1 a2 a3) s = some r) (fun s h => ?_) (fun hK10 => ?_)
 ·obtain ⟨v12, rfl⟩ : ∃ x, x = s := ⟨s, rfl⟩
  have h : (ix_Index_Extract_j10 fuel a1 a2 a3) v12 = some r := h
  unfold ix_Index_Extract_j10 at h
  refine W.cb v12 (fun hb => ?_) (fun hb => ?_)
  ·replace h := cond_t hb h
   refine W.seq ?_
   refine W.rt (e2 := [(6, .str (ByteArray.mk #[])), (7, .int .i64 2)]) ?_
   refine W.wk (env' := [(6, .str (ByteArray.mk #[])), (7, .int .i64 2)]) ?_
   have hr : aresults Try.prog Try.f35 [(6, .str (ByteArray.mk #[])), (7, .int .i64 2)] = some (.tup [.str (ByteArray.mk #[]), .int .i64 2]) := by kernel_rfl
   cases h
   exact W.ret hr
  replace h := cond_f hb h
  refine W.skip ?_
  refine W.wk (env' := z1 []) ?_
  refine W.seq ?_
  refine W.rg ?_
  obtain ⟨q15, hq15, h⟩ := bind_some h
  let z3 := fun t => z1 ((29, ep e_ixIndex a1) :: (30, .ptr (.agg [ep_ixwavelet q15.f_w, I6 q15.f_length, l3 none q15.f_starts, l3 none q15.f_places])) :: t)
  refine WO.pk 1 (match a1.isNone with | false => some (AV.ptr ((epx e_ixIndex) a1)) | true => none) (v := .ptr (.agg [ep_ixwavelet q15.f_w, I6 q15.f_length, l3 none q15.f_starts, l3 none q15.f_places])) (nc_av (F := (epx e_ixIndex)) hq15) (e1 := z3 []) ?_
  obtain ⟨w16, hw16, h⟩ := bind_some h
  refine WO.ck 3 (F := 52) (l := [l3 none q15.f_places, I6 a3]) (C := []) (r := I6 w16) (run_sl_Index_int q15.f_places a3 w16 hw16) (e1 := z3 [(31, .ptr (l3 none q15.f_places)), (32, l3 none q15.f_places), (33, I6 a3), (34, I6 w16)]) ?_
  let z4 := fun t => z1 ((8, I6 w16) :: t)
  refine WO.fn (e2 := z4 []) ?_
  refine W.seq ?_
  refine W.rg ?_
  refine WO.steps 1 (e1 := z4 [(9, .nils)]) (by kernel_rfl) ?_
  let z5 := fun t => z4 ((9, .sb 1200009 5 1 0 (([] : (List Int)).length)) :: (1200009, .obj 5 1 (M8 ([] : (List Int)))) :: t)
  refine WO.mv [.nil 9 5 1 1200009] (env' := z5 []) (by kernel_rfl) ?_
  refine WO.fn (e2 := z5 []) ?_
  refine W.seq ?_
  refine W.join (σ := ((List Int) × Nat)) (fun s => [(9, .sb 1500009 5 1 0 s.2), (1500009, .obj 5 1 (M8 s.1))]) (fun s => (ix_Index_Extract_j18 fuel) s.1 s.2 = some r) (fun s h => ?_) (fun hK18 => ?_)
  ·obtain ⟨v33, n34⟩ := s
   have h : (ix_Index_Extract_j18 fuel) v33 n34 = some r := h
   unfold ix_Index_Extract_j18 at h
   refine W.seq ?_
   refine W.rg ?_
   obtain ⟨w36, hw36, h⟩ := bind_some h
   let z6 := fun t => EN ((9, .sb 1500009 5 1 0 n34) :: t)
   refine WO.cm 1 [(1500009, 2000000)] [] (F := 55) (args := [.sb 2000000 5 1 0 n34]) (hp := [(2000000, .obj 5 1 (M8 v33))]) (hp2 := [(2000000, .obj 5 1 (M8 w36))]) (r := .tup []) (run_sl_Reverse_byte fuel v33 n34 w36 hw36) (e1 := z6 [(55, .sb 1500009 5 1 0 n34), (56, .tup []), (1500009, .obj 5 1 (M8 w36))]) ?_
   refine WO.fn (e2 := z6 [(1500009, .obj 5 1 (M8 w36))]) ?_
   refine W.seq ?_
   refine W.rg ?_
   refine WO.steps 1 (e1 := z6 [(57, .sb 1500009 5 1 0 n34), (1500009, .obj 5 1 (M8 w36))]) (by kernel_rfl) ?_
   let z7 := fun t => EN ((9, l5 none (snap 0 n34 w36)) :: (57, l5 none (snap 0 n34 w36)) :: t)
   refine WO.mv [.frz 1500009] (env' := z7 []) ((by kernel_rfl : mvAll [(9, .sb 1500009 5 1 0 n34), (57, .sb 1500009 5 1 0 n34), (1500009, .obj 5 1 (M8 w36))] [.frz 1500009] = [(9, .lst 5 1 none (snapA 0 n34 (M8 w36))), (57, .lst 5 1 none (snapA 0 n34 (M8 w36)))]).trans (by first | (simp only [snap_map, snap_full, snap_rep]; done) | (simp only [snap_map, snap_full, snap_rep]; kernel_rfl))) ?_
   refine WO.pk 0 (match true, optAll ((M8 (snap 0 n34 w36)).map byteOf) with | true, some ns => some (AV.str ⟨(ns.map fun n => UInt8.ofNat n.toNat).toArray⟩) | _, _ => none) (v := .str (strOfI (snap 0 n34 w36))) (strOf_av (f := strOfI) (snap 0 n34 w36)) (e1 := z7 [(58, .str (strOfI (snap 0 n34 w36)))]) ?_
   let z8 := fun t => EN ((6, .str (strOfI (snap 0 n34 w36))) :: (7, .int .i64 0) :: t)
   refine WO.fn (e2 := z8 []) ?_
   refine W.wk (env' := z8 []) ?_
   have hr : aresults Try.prog Try.f35 [(6, .str (strOfI (snap 0 n34 w36))), (7, .int .i64 0)] = some (.tup [.str (strOfI (snap 0 n34 w36)), .int .i64 0]) := by kernel_rfl
   cases h
   exact W.ret hr
  refine W.seq ?_
  let z9 := fun t => z0 ((8, I6 w16) :: (9, .sb 1200009 5 1 0 (([] : (List Int)).length)) :: (10, I6 a3) :: (1200009, .obj 5 1 (M8 ([] : (List Int)))) :: t)
  refine W.rt (e2 := z9 []) ?_
  refine W.block ?_
  refine W.wk (env' := z9 []) ?_
  let z10 := fun t => z0 ((8, I6 w16) :: (9, .sb 1500009 5 1 0 (([] : (List Int)).length)) :: (10, I6 a3) :: (1500009, .obj 5 1 (M8 ([] : (List Int)))) :: t)
  refine W.mv [.ren 1200009 1500009] (env' := z10 []) (by kernel_rfl) ?_
  refine W.wk (env' := z10 []) ?_
  refine W.fuel (σ := ((List Int) × Int × Nat × Int)) (fun s => z0 [(8, I6 s.2.1), (9, .sb 1500009 5 1 0 s.2.2.1), (10, I6 s.2.2.2), (1500009, .obj 5 1 (M8 s.1))]) (fun m0 s => ix_Index_Extract_l1 fuel a1 a2 (ix_Index_Extract_j18 fuel) m0 s.1 s.2.1 s.2.2.1 s.2.2.2 = some r) (fun s h => ?_) (fun m1 s h hN1 => ?_) fuel (([] : (List Int)), w16, ([] : (List Int)).length, a3) h
  ·obtain ⟨v20, v21, n22, v23⟩ := s
   have h : ix_Index_Extract_l1 fuel a1 a2 (ix_Index_Extract_j18 fuel) 0 v20 v21 n22 v23 = some r := h
   rw [ix_Index_Extract_l1.eq_1] at h
   cases h
  ·obtain ⟨v20, v21, n22, v23⟩ := s
   have h : ix_Index_Extract_l1 fuel a1 a2 (ix_Index_Extract_j18 fuel) (m1 + 1) v20 v21 n22 v23 = some r := h
   rw [ix_Index_Extract_l1.eq_2] at h
   refine W.seq ?_
   refine W.seq ?_
   let z11 := fun t => z0 ((8, I6 v21) :: (9, .sb 1500009 5 1 0 n22) :: (10, I6 v23) :: t)
   refine W.rt (e2 := z11 [(38, .bool (decide (v23 > a2))), (1500009, .obj 5 1 (M8 v20))]) ?_
   refine W.cb (decide (v23 > a2)) (fun hb => ?_) (fun hb => ?_)
   ·replace h := cond_t hb h
    refine W.skip ?_
    refine W.wk (env' := z11 [(1500009, .obj 5 1 (M8 v20))]) ?_
    refine W.seq ?_
    refine W.block ?_
    refine W.seq ?_
    refine W.rg ?_
    obtain ⟨q28, hq28, h⟩ := bind_some h
    let z12 := fun t => z11 ((41, ep e_ixIndex a1) :: (42, .ptr (.agg [ep_ixwavelet q28.f_w, I6 q28.f_length, l3 none q28.f_starts, l3 none q28.f_places])) :: t)
    refine WO.pk 1 (match a1.isNone with | false => some (AV.ptr ((epx e_ixIndex) a1)) | true => none) (v := .ptr (.agg [ep_ixwavelet q28.f_w, I6 q28.f_length, l3 none q28.f_starts, l3 none q28.f_places])) (nc_av (F := (epx e_ixIndex)) hq28) (e1 := z12 [(1500009, .obj 5 1 (M8 v20))]) ?_
    obtain ⟨w29, hw29, h⟩ := bind_some h
    refine WO.ck 3 (F := 53) (l := [ep_ixwavelet q28.f_w, I6 v21]) (C := []) (r := .int .u8 w29) (run_ix_wavelet_at fuel q28.f_w v21 w29 hw29) (e1 := z12 [(43, .ptr (ep_ixwavelet q28.f_w)), (44, ep_ixwavelet q28.f_w), (45, I6 v21), (46, .int .u8 w29), (1500009, .obj 5 1 (M8 v20))]) ?_
    refine WO.fn (e2 := z11 [(11, .int .u8 w29), (1500009, .obj 5 1 (M8 v20))]) ?_
    refine W.seq ?_
    refine W.rg ?_
    obtain ⟨hc31, h⟩ := chk_some h
    refine WO.appendOK 3 (d := 50) (e := 5) (s := 1) (bytes := 1) (m := n22) (n2 := (((snap 0 n22 v20) ++ [w29])).length) (xs := (M8 v20)) (ys := (M8 [w29])) (zs := (M8 ((snap 0 n22 v20) ++ [w29]))) (env1 := [(0, ep e_ixIndex a1), (1, I6 a2), (8, I6 v21), (9, .top), (10, I6 v23), (11, .int .u8 w29), (47, .top), (48, .int .u8 w29), (49, l5 (some 49) [w29])]) (by kernel_rfl) (by first | exact hc31 | (simp only [snap_map, List.length_map]; exact hc31)) (by simp only [snap_map, snap_full, snap_rep, List.map_append]) (List.length_map _) (e1 := z0 [(8, I6 v21), (9, .top), (10, I6 v23), (11, .int .u8 w29), (47, .top), (48, .int .u8 w29), (49, l5 (some 49) [w29]), (50, .sb 1000050 5 1 0 ((((snap 0 n22 v20) ++ [w29])).length)), (1000050, .obj 5 1 (M8 ((snap 0 n22 v20) ++ [w29])))]) (by kernel_rfl) ?_
    let z13 := fun t => z0 ((8, I6 v21) :: (9, .sb 1000050 5 1 0 ((((snap 0 n22 v20) ++ [w29])).length)) :: (10, I6 v23) :: (11, .int .u8 w29) :: t)
    refine WO.fn (e2 := z13 [(1000050, .obj 5 1 (M8 ((snap 0 n22 v20) ++ [w29])))]) ?_
    refine W.rg ?_
    obtain ⟨w32, hw32, h⟩ := bind_some h
    refine WO.ck 3 (F := 54) (l := [ep e_ixIndex a1, .int .u8 w29, I6 v21]) (C := []) (r := I6 w32) (run_ix_Index_before fuel a1 w29 v21 w32 hw32) (e1 := z13 [(51, ep e_ixIndex a1), (52, .int .u8 w29), (53, I6 v21), (54, I6 w32), (1000050, .obj 5 1 (M8 ((snap 0 n22 v20) ++ [w29])))]) ?_
    let z14 := fun t => z0 ((8, I6 w32) :: (9, .sb 1000050 5 1 0 ((((snap 0 n22 v20) ++ [w29])).length)) :: t)
    refine WO.fn (e2 := z14 [(10, I6 v23), (1000050, .obj 5 1 (M8 ((snap 0 n22 v20) ++ [w29])))]) ?_
    refine W.rt (e2 := z14 [(10, I6 (W6 (v23 - 1))), (1000050, .obj 5 1 (M8 ((snap 0 n22 v20) ++ [w29])))]) ?_
    let z15 := fun t => z0 ((8, I6 w32) :: (9, .sb 1500009 5 1 0 ((((snap 0 n22 v20) ++ [w29])).length)) :: (10, I6 (W6 (v23 - 1))) :: (1500009, .obj 5 1 (M8 ((snap 0 n22 v20) ++ [w29]))) :: t)
    refine W.mv [.ren 1000050 1500009] (env' := z15 []) (by kernel_rfl) ?_
    refine W.wk (env' := z15 []) ?_
    exact hN1 (((snap 0 n22 v20) ++ [w29]), w32, (((snap 0 n22 v20) ++ [w29])).length, (W6 (v23 - 1))) h
   replace h := cond_f hb h
   refine W.exit ?_
   refine W.wk (env' := [(9, .sb 1500009 5 1 0 n22), (1500009, .obj 5 1 (M8 v20))]) ?_
   exact hK18 (v20, n22) h
 refine W.rg ?_
 refine WO.bk 3 (fun b => z1 [(14, I6 a2), (15, .bool b), (16, .bool b)]) (decide (a2 < 0)) (fun hb => ?_) (fun hb => ?_)
 ·replace h := cond_t hb h
  refine WO.fn (e2 := z1 [(28, .bool true)]) ?_
  exact hK10 true h
 replace h := cond_f hb h
 let z16 := fun t => z1 ((14, I6 a2) :: (15, .bool false) :: (16, .bool false) :: (17, I6 a2) :: (18, I6 a3) :: t)
 refine WO.bk 5 (fun b => z16 [(19, .bool b), (20, .bool b), (21, .bool b)]) (decide (a2 > a3)) (fun hb => ?_) (fun hb => ?_)
 ·replace h := cond_t hb h
  refine WO.fn (e2 := z1 [(28, .bool true)]) ?_
  exact hK10 true h
 replace h := cond_f hb h
 obtain ⟨q11, hq11, h⟩ := bind_some h
 refine WO.pk 2 (match a1.isNone with | false => some (AV.ptr ((epx e_ixIndex) a1)) | true => none) (v := .ptr (.agg [ep_ixwavelet q11.f_w, I6 q11.f_length, l3 none q11.f_starts, l3 none q11.f_places])) (nc_av (F := (epx e_ixIndex)) hq11) (e1 := z16 [(19, .bool false), (20, .bool false), (21, .bool false), (22, I6 a3), (23, ep e_ixIndex a1), (24, .ptr (.agg [ep_ixwavelet q11.f_w, I6 q11.f_length, l3 none q11.f_starts, l3 none q11.f_places]))]) ?_
 refine WO.fn (e2 := z1 [(28, .bool (decide (a3 > q11.f_length)))]) ?_
 exact hK10 (decide (a3 > q11.f_length)) h
def rf4_Sort_j4 (v24 : (List Int)) : Option (List Int) :=
 (some v24)
def rf4_Sort_j10 (k1 : Nat) (v6 : (List Int)) (N1 : ((List Int) → Option (List Int))) (v18 : Int) : Option (List Int) :=
 ((sub v6 0 v18).bind fun e19 => (chk (capOk 8 ((([] : (List Int)) ++ e19)).length) (chk (capOk 8 (((([] : (List Int)) ++ e19) ++ [(k1 : Int)])).length) ((sub v6 v18 (v6.length : Int)).bind fun e22 => (chk (capOk 8 ((((([] : (List Int)) ++ e19) ++ [(k1 : Int)]) ++ e22)).length) (N1 (((([] : (List Int)) ++ e19) ++ [(k1 : Int)]) ++ e22)))))))
def rf4_Sort_j13 (v11 : Int) (N2 : (Int → Option (List Int))) (K10 : (Int → Option (List Int))) (v17 : Bool) : Option (List Int) :=
 (bif v17 then (N2 (IntKind.wrap .i64 (v11 + 1))) else (K10 v11))
def rf4_Sort_l2 (a1 : ByteArray) (k1 : Nat) (v6 : (List Int)) (K10 : (Int → Option (List Int))) : Nat → Int → Option (List Int)
 | 0, _ => none
 | m2 + 1, v11 => (bif (decide (v11 < (v6.length : Int))) then ((idx v6 v11).bind fun e14 => ((ssub a1 e14 (a1.size : Int)).bind fun e15 => ((ssub a1 (k1 : Int) (a1.size : Int)).bind fun e16 => ((rf4_Sort_j13 v11 (rf4_Sort_l2 a1 k1 v6 K10 m2) K10) (Op.bytesLess e15.toList e16.toList))))) else ((rf4_Sort_j13 v11 (rf4_Sort_l2 a1 k1 v6 K10 m2) K10) false))
def rf4_Sort_l1 (fuel : Nat) (a1 : ByteArray) (K4 : ((List Int) → Option (List Int))) : List Nat → Nat → (List Int) → Option (List Int)
 | [], k1, v6 => (K4 v6)
 | x1 :: r1, k1, v6 => (rf4_Sort_l2 a1 k1 v6 (rf4_Sort_j10 k1 v6 (rf4_Sort_l1 fuel a1 K4 r1 (k1 + 1))) fuel 0)
def rf4_Sort (fuel : Nat) (a1 : ByteArray) : Option (List Int) :=
 (chk (lenOk (List.range (Int.toNat (IntKind.wrap .i64 ((a1.size : Int) + 1))))) (rf4_Sort_l1 fuel a1 (rf4_Sort_j4) (List.range (Int.toNat (IntKind.wrap .i64 ((a1.size : Int) + 1)))) 0 ([] : (List Int))))
theorem run_rf4_Sort (fuel : Nat) (a1 : ByteArray) (r : (List Int)) (h : rf4_Sort fuel a1 = some r) : Run Try.prog (.call 20 [.str a1] (l3 none r)) := by
 refine cW Try.func20 rfl (env0 := [(0, .str a1)]) ?_
 unfold rf4_Sort at h
 refine W.seq ?_
 let z0 := fun t => EN ((0, .str a1) :: t)
 refine W.rt (e2 := z0 []) ?_
 refine W.seq ?_
 refine W.rt (e2 := z0 [(3, .nils)]) ?_
 refine W.seq ?_
 refine W.join (σ := ((List Int))) (fun s => [(3, l3 none s)]) (fun s => (rf4_Sort_j4) s = some r) (fun s h => ?_) (fun hK4 => ?_)
 ·obtain ⟨v24, rfl⟩ : ∃ x, x = s := ⟨s, rfl⟩
  have h : (rf4_Sort_j4) v24 = some r := h
  unfold rf4_Sort_j4 at h
  refine W.seq ?_
  refine W.rt (e2 := [(2, l3 none v24)]) ?_
  refine W.wk (env' := [(2, l3 none v24)]) ?_
  have hr : aresults Try.prog Try.f20 [(2, l3 none v24)] = some (l3 none v24) := by kernel_rfl
  cases h
  exact W.ret hr
 refine W.seq ?_
 refine W.rt (e2 := z0 [(3, .nils), (8, I6 (W6 ((a1.size : Int) + 1))), (9, .int .i64 0)]) ?_
 refine W.block ?_
 obtain ⟨hl1, h⟩ := chk_some h
 refine W.weak [0, 3, 8, 9] [] [(3, 0, 3, 1, 60000)] [(60000, none)] (env' := z0 [(3, l3 none ([] : (List Int))), (8, I6 (W6 ((a1.size : Int) + 1))), (9, I6 ((0 : Nat) : Int))]) (by kernel_rfl) ?_
 refine W.range (σ := ((List Int))) (List.range (Int.toNat (W6 ((a1.size : Int) + 1)))) (fun k1 s => z0 [(3, l3 none s), (8, I6 (W6 ((a1.size : Int) + 1))), (9, I6 (k1 : Int))]) (fun r0 k0 s => rf4_Sort_l1 fuel a1 (rf4_Sort_j4) r0 k0 s = some r) (fun s h => ?_) (fun x1 r1 k1 s hx1 hk1 h hN1 => ?_) ([] : (List Int)) h
 ·obtain ⟨v6, rfl⟩ : ∃ x, x = s := ⟨s, rfl⟩
  have h : rf4_Sort_l1 fuel a1 (rf4_Sort_j4) [] ((List.range (Int.toNat (W6 ((a1.size : Int) + 1))))).length v6 = some r := h
  rw [rf4_Sort_l1.eq_1] at h
  refine W.seq ?_
  refine W.rg ?_
  let z1 := fun t => z0 ((3, l3 none v6) :: (8, I6 (W6 ((a1.size : Int) + 1))) :: (9, I6 (((List.range (Int.toNat (W6 ((a1.size : Int) + 1))))).length : Int)) :: (10, .bool false) :: t)
  refine WO.pk 0 (some (.bool (decide ((((List.range (Int.toNat (W6 ((a1.size : Int) + 1))))).length : Int) < (W6 ((a1.size : Int) + 1)))))) (v := .bool false) (by rw [ltr_false (n := (W6 ((a1.size : Int) + 1)))]) (e1 := z1 []) ?_
  refine WO.fn (e2 := z1 []) ?_
  refine W.seq ?_
  refine W.cb false (fun h => Bool.noConfusion h) (fun _ => ?_)
  refine W.exit ?_
  refine W.wk (env' := [(3, l3 none v6)]) ?_
  exact hK4 v6 h
 ·obtain ⟨v6, rfl⟩ : ∃ x, x = s := ⟨s, rfl⟩
  have h : rf4_Sort_l1 fuel a1 (rf4_Sort_j4) (x1 :: r1) k1 v6 = some r := h
  rw [rf4_Sort_l1.eq_2] at h
  refine W.seq ?_
  refine W.rg ?_
  let z2 := fun t => z0 ((3, l3 none v6) :: t)
  let z3 := fun t => z2 ((8, I6 (W6 ((a1.size : Int) + 1))) :: (9, I6 (k1 : Int)) :: t)
  refine WO.pk 0 (some (.bool (decide ((k1 : Int) < (W6 ((a1.size : Int) + 1)))))) (v := .bool true) (by rw [ltr_true hk1]) (e1 := z3 [(10, .bool true)]) ?_
  refine WO.fn (e2 := z3 [(10, .bool true)]) ?_
  refine W.seq ?_
  refine W.cb true (fun _ => ?_) (fun h => Bool.noConfusion h)
  refine W.skip ?_
  refine W.wk (env' := z3 []) ?_
  refine W.seq ?_
  refine W.block ?_
  refine W.seq ?_
  let z4 := fun t => z2 ((4, I6 (k1 : Int)) :: t)
  refine W.rt (e2 := z4 [(8, I6 (W6 ((a1.size : Int) + 1))), (9, I6 (k1 : Int))]) ?_
  refine W.seq ?_
  let z5 := fun t => z4 ((5, .int .i64 0) :: (8, I6 (W6 ((a1.size : Int) + 1))) :: (9, I6 (k1 : Int)) :: t)
  refine W.rt (e2 := z5 []) ?_
  refine W.seq ?_
  refine W.join (σ := (Int)) (fun s => z4 [(5, I6 s), (8, I6 (W6 ((a1.size : Int) + 1))), (9, I6 (k1 : Int))]) (fun s => (rf4_Sort_j10 k1 v6 (rf4_Sort_l1 fuel a1 (rf4_Sort_j4) r1 (k1 + 1))) s = some r) (fun s h => ?_) (fun hK10 => ?_)
  ·obtain ⟨v18, rfl⟩ : ∃ x, x = s := ⟨s, rfl⟩
   have h : (rf4_Sort_j10 k1 v6 (rf4_Sort_l1 fuel a1 (rf4_Sort_j4) r1 (k1 + 1))) v18 = some r := h
   unfold rf4_Sort_j10 at h
   refine W.regionB (by kernel_rfl) ?_
   obtain ⟨e19, he19, h⟩ := bind_some h
   let z6 := fun t => z4 ((5, I6 v18) :: (8, I6 (W6 ((a1.size : Int) + 1))) :: (9, I6 (k1 : Int)) :: t)
   refine WB.pureK 3 (if (0 : Int) ≤ 0 ∧ 0 ≤ v18 ∧ v18 ≤ ((M6 v6).length : Int) then some (.lst 3 1 none (((M6 v6).take (Int.toNat v18)).drop (Int.toNat 0))) else none) (v := l3 none e19) (by kernel_rfl) (sub_av he19) (e1 := z6 [(30, l3 (some 30) ([] : (List Int))), (31, l3 none v6), (32, I6 v18), (33, l3 none e19)]) (by kernel_rfl) ?_
   obtain ⟨hc20, h⟩ := chk_some h
   let z7 := fun t => z6 ((30, l3 none ([] : (List Int))) :: (31, l3 none v6) :: (32, I6 v18) :: (33, l3 none e19) :: t)
   refine WB.appendK 0 (by kernel_rfl) (d := 34) (e := 3) (s := 1) (bytes := 8) (xs := (M6 ([] : (List Int)))) (ys := (M6 e19)) (zs := (M6 (([] : (List Int)) ++ e19))) (env1 := [(0, .str a1), (3, l3 none v6), (4, I6 (k1 : Int)), (5, I6 v18), (8, I6 (W6 ((a1.size : Int) + 1))), (9, I6 (k1 : Int)), (30, l3 none ([] : (List Int))), (31, l3 none v6), (32, I6 v18), (33, l3 none e19)]) (by kernel_rfl) (List.map_append.symm) (by rw [List.length_map]; exact hc20) (e1 := z7 [(34, l3 (some 34) (([] : (List Int)) ++ e19))]) (by kernel_rfl) ?_
   obtain ⟨hc21, h⟩ := chk_some h
   let z8 := fun t => z7 ((34, l3 none (([] : (List Int)) ++ e19)) :: (35, I6 (k1 : Int)) :: (36, l3 (some 36) [(k1 : Int)]) :: t)
   let z9 := fun t => z8 ((37, l3 (some 37) ((([] : (List Int)) ++ e19) ++ [(k1 : Int)])) :: t)
   refine WB.appendK 2 (by kernel_rfl) (d := 37) (e := 3) (s := 1) (bytes := 8) (xs := (M6 (([] : (List Int)) ++ e19))) (ys := (M6 [(k1 : Int)])) (zs := (M6 ((([] : (List Int)) ++ e19) ++ [(k1 : Int)]))) (env1 := [(0, .str a1), (3, l3 none v6), (4, I6 (k1 : Int)), (5, I6 v18), (8, I6 (W6 ((a1.size : Int) + 1))), (9, I6 (k1 : Int)), (30, l3 none ([] : (List Int))), (31, l3 none v6), (32, I6 v18), (33, l3 none e19), (34, l3 none (([] : (List Int)) ++ e19)), (35, I6 (k1 : Int)), (36, l3 (some 36) [(k1 : Int)])]) (by kernel_rfl) (List.map_append.symm) (by rw [List.length_map]; exact hc21) (e1 := z9 []) (by kernel_rfl) ?_
   obtain ⟨e22, he22, h⟩ := bind_some h
   refine WB.pureK 2 (if (0 : Int) ≤ v18 ∧ v18 ≤ ((M6 v6).length : Int) ∧ ((M6 v6).length : Int) ≤ ((M6 v6).length : Int) then some (.lst 3 1 none (((M6 v6).take (Int.toNat ((M6 v6).length : Int))).drop (Int.toNat v18))) else none) (v := l3 none e22) (by kernel_rfl) (sub_av_len he22) (e1 := z9 [(38, l3 none v6), (39, I6 v18), (40, l3 none e22)]) (by kernel_rfl) ?_
   obtain ⟨hc23, h⟩ := chk_some h
   refine WB.appendK 0 (by kernel_rfl) (d := 41) (e := 3) (s := 1) (bytes := 8) (xs := (M6 ((([] : (List Int)) ++ e19) ++ [(k1 : Int)]))) (ys := (M6 e22)) (zs := (M6 (((([] : (List Int)) ++ e19) ++ [(k1 : Int)]) ++ e22))) (env1 := [(0, .str a1), (3, l3 none v6), (4, I6 (k1 : Int)), (5, I6 v18), (8, I6 (W6 ((a1.size : Int) + 1))), (9, I6 (k1 : Int)), (30, l3 none ([] : (List Int))), (31, l3 none v6), (32, I6 v18), (33, l3 none e19), (34, l3 none (([] : (List Int)) ++ e19)), (35, I6 (k1 : Int)), (36, l3 (some 36) [(k1 : Int)]), (37, l3 none ((([] : (List Int)) ++ e19) ++ [(k1 : Int)])), (38, l3 none v6), (39, I6 v18), (40, l3 none e22)]) (by kernel_rfl) (List.map_append.symm) (by rw [List.length_map]; exact hc23) (e1 := z8 [(37, l3 none ((([] : (List Int)) ++ e19) ++ [(k1 : Int)])), (38, l3 none v6), (39, I6 v18), (40, l3 none e22), (41, l3 (some 41) (((([] : (List Int)) ++ e19) ++ [(k1 : Int)]) ++ e22))]) (by kernel_rfl) ?_
   let z10 := fun t => z0 ((3, l3 none (((([] : (List Int)) ++ e19) ++ [(k1 : Int)]) ++ e22)) :: t)
   refine WB.fin [0, 3, 8, 9] [] [] [] (e2 := z10 [(8, I6 (W6 ((a1.size : Int) + 1))), (9, I6 (k1 : Int))]) (by kernel_rfl) (fun _ h => h) ?_
   refine W.rg ?_
   refine WO.pk 0 (some (I6 (IntKind.wrap .i64 ((k1 : Int) + 1)))) (v := I6 ((k1 + 1 : Nat) : Int)) (by rw [wrap_succ hl1 hk1]) (e1 := z10 [(8, I6 (IntKind.wrap .i64 ((a1.size : Int) + 1))), (9, I6 (k1 : Int)), (42, I6 ((k1 + 1 : Nat) : Int))]) ?_
   refine WO.fn (e2 := z10 [(8, I6 (W6 ((a1.size : Int) + 1))), (9, I6 ((k1 + 1 : Nat) : Int))]) ?_
   exact hN1 (((([] : (List Int)) ++ e19) ++ [(k1 : Int)]) ++ e22) h
  refine W.block ?_
  refine W.wk (env' := z5 []) ?_
  refine W.fuel (σ := (Int)) (fun s => z4 [(5, I6 s), (8, I6 (W6 ((a1.size : Int) + 1))), (9, I6 (k1 : Int))]) (fun m0 s => rf4_Sort_l2 a1 k1 v6 (rf4_Sort_j10 k1 v6 (rf4_Sort_l1 fuel a1 (rf4_Sort_j4) r1 (k1 + 1))) m0 s = some r) (fun s h => ?_) (fun m2 s h hN2 => ?_) fuel 0 h
  ·obtain ⟨v11, rfl⟩ : ∃ x, x = s := ⟨s, rfl⟩
   have h : rf4_Sort_l2 a1 k1 v6 (rf4_Sort_j10 k1 v6 (rf4_Sort_l1 fuel a1 (rf4_Sort_j4) r1 (k1 + 1))) 0 v11 = some r := h
   rw [rf4_Sort_l2.eq_1] at h
   cases h
  ·obtain ⟨v11, rfl⟩ : ∃ x, x = s := ⟨s, rfl⟩
   have h : rf4_Sort_l2 a1 k1 v6 (rf4_Sort_j10 k1 v6 (rf4_Sort_l1 fuel a1 (rf4_Sort_j4) r1 (k1 + 1))) (m2 + 1) v11 = some r := h
   rw [rf4_Sort_l2.eq_2] at h
   refine W.seq ?_
   refine W.seq ?_
   let z11 := fun t => z4 ((5, I6 v11) :: (8, I6 (W6 ((a1.size : Int) + 1))) :: (9, I6 (k1 : Int)) :: t)
   refine W.join (σ := (Bool)) (fun s => z11 [(27, .bool s)]) (fun s => (rf4_Sort_j13 v11 (rf4_Sort_l2 a1 k1 v6 (rf4_Sort_j10 k1 v6 (rf4_Sort_l1 fuel a1 (rf4_Sort_j4) r1 (k1 + 1))) m2) (rf4_Sort_j10 k1 v6 (rf4_Sort_l1 fuel a1 (rf4_Sort_j4) r1 (k1 + 1)))) s = some r) (fun s h => ?_) (fun hK13 => ?_)
   ·obtain ⟨v17, rfl⟩ : ∃ x, x = s := ⟨s, rfl⟩
    have h : (rf4_Sort_j13 v11 (rf4_Sort_l2 a1 k1 v6 (rf4_Sort_j10 k1 v6 (rf4_Sort_l1 fuel a1 (rf4_Sort_j4) r1 (k1 + 1))) m2) (rf4_Sort_j10 k1 v6 (rf4_Sort_l1 fuel a1 (rf4_Sort_j4) r1 (k1 + 1)))) v17 = some r := h
    unfold rf4_Sort_j13 at h
    refine W.cb v17 (fun hb => ?_) (fun hb => ?_)
    ·replace h := cond_t hb h
     refine W.skip ?_
     refine W.wk (env' := z11 []) ?_
     refine W.block ?_
     refine W.rt (e2 := z4 [(5, I6 (W6 (v11 + 1))), (8, I6 (W6 ((a1.size : Int) + 1))), (9, I6 (k1 : Int))]) ?_
     exact hN2 (W6 (v11 + 1)) h
    replace h := cond_f hb h
    refine W.exit ?_
    refine W.wk (env' := z11 []) ?_
    exact hK10 v11 h
   refine W.rg ?_
   let z12 := fun t => z11 ((12, I6 v11) :: (13, l3 none v6) :: (14, I6 (v6.length : Int)) :: t)
   refine WO.pk 2 (some (I6 ((M6 v6).length : Int))) (v := I6 (v6.length : Int)) (by rw [List.length_map]) (e1 := z12 []) ?_
   refine WO.bk 2 (fun b => z12 [(15, .bool b), (16, .bool b)]) (decide (v11 < (v6.length : Int))) (fun hb => ?_) (fun hb => ?_)
   ·replace h := cond_t hb h
    obtain ⟨e14, he14, h⟩ := bind_some h
    let z13 := fun t => z12 ((15, .bool true) :: (16, .bool true) :: (17, .str a1) :: (18, l3 none v6) :: (19, I6 v11) :: (20, .ptr (I6 e14)) :: t)
    refine WO.pk 3 (if (0 : Int) ≤ v11 then ((M6 v6)[Int.toNat v11]?).map AV.ptr else none) (v := .ptr (I6 e14)) (idx_av (f := (AV.int .i64)) he14) (e1 := z13 []) ?_
    obtain ⟨e15, he15, h⟩ := bind_some h
    refine WO.pk 1 (if (0 : Int) ≤ e14 ∧ e14 ≤ (a1.size : Int) ∧ (a1.size : Int) ≤ (a1.size : Int) then some (AV.str (a1.extract (Int.toNat e14) (Int.toNat (a1.size : Int)))) else none) (v := .str e15) (ssub_av he15) (e1 := z13 [(21, I6 e14), (22, .str e15)]) ?_
    obtain ⟨e16, he16, h⟩ := bind_some h
    refine WO.pk 2 (if (0 : Int) ≤ (k1 : Int) ∧ (k1 : Int) ≤ (a1.size : Int) ∧ (a1.size : Int) ≤ (a1.size : Int) then some (AV.str (a1.extract (Int.toNat (k1 : Int)) (Int.toNat (a1.size : Int)))) else none) (v := .str e16) (ssub_av he16) (e1 := z13 [(21, I6 e14), (22, .str e15), (23, .str a1), (24, I6 (k1 : Int)), (25, .str e16)]) ?_
    refine WO.fn (e2 := z11 [(27, .bool (Op.bytesLess e15.toList e16.toList))]) ?_
    exact hK13 (Op.bytesLess e15.toList e16.toList) h
   replace h := cond_f hb h
   refine WO.fn (e2 := z11 [(27, .bool false)]) ?_
   exact hK13 false h
end Go.AM
