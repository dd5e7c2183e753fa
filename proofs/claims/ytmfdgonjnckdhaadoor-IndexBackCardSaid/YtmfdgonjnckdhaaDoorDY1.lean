/- s -/
import Derived.Test.YtmfdgonjnckdhaaDoorDYT
set_option maxRecDepth 100000
set_option linter.unusedVariables false
set_option linter.unusedSimpArgs false
namespace Go.AM
open Go.Proofs
def lw4_few (a1 : ByteArray) : Option ByteArray :=
 ((ssub a1 0 (if 300 < (a1.size : Int) then 300 else (a1.size : Int))).bind fun e4 => (some e4))
theorem run_lw4_few (a1 : ByteArray) (r : ByteArray) (h : lw4_few a1 = some r) : Run Tryd.prog (.call 7 [.str a1] (.str r)) := by
 refine cW Tryd.func7 rfl (env0 := [(0, .str a1)]) ?_
 unfold lw4_few at h
 refine W.seq ?_
 refine W.rt (e2 := [(0, .str a1)]) ?_
 refine W.seq ?_
 refine W.rg ?_
 obtain ⟨e4, he4, h⟩ := bind_some h
 refine WO.pk 4 (if (0 : Int) ≤ 0 ∧ 0 ≤ (if 300 < (a1.size : Int) then 300 else (a1.size : Int)) ∧ (if 300 < (a1.size : Int) then 300 else (a1.size : Int)) ≤ (a1.size : Int) then some (AV.str (a1.extract (Int.toNat 0) (Int.toNat (if 300 < (a1.size : Int) then 300 else (a1.size : Int))))) else none) (v := .str e4) (ssub_av he4) (e1 := [(0, .str a1), (3, .str a1), (4, .str a1), (5, I6 (a1.size : Int)), (6, I6 (if 300 < (a1.size : Int) then 300 else (a1.size : Int))), (7, .str e4)]) ?_
 refine WO.fn (e2 := [(2, .str e4)]) ?_
 refine W.wk (env' := [(2, .str e4)]) ?_
 have hr : aresults Tryd.prog Tryd.f7 [(2, .str e4)] = some (.str e4) := by kernel_rfl
 cases h
 exact W.ret hr
def ix_Transform (a1 : ByteArray) : Option (ByteArray × Int) :=
 ((ix_valid a1).bind fun w5 => (bif (!w5) then (some ((ByteArray.mk #[]), 2)) else ((ix_suffixes a1).bind fun w8 => ((ix_transform a1 w8).bind fun w9 => (some (w9, 0))))))
theorem run_ix_Transform (a1 : ByteArray) (r : (ByteArray × Int)) (h : ix_Transform a1 = some r) : Run Tryd.prog (.call 8 [.str a1] (.tup [.str r.1, I6 r.2])) := by
 refine cW Tryd.func8 rfl (env0 := [(0, .str a1)]) ?_
 unfold ix_Transform at h
 refine W.seq ?_
 let z0 := fun t => EN ((0, .str a1) :: t)
 refine W.rt (e2 := z0 []) ?_
 refine W.seq ?_
 refine W.seq ?_
 refine W.rg ?_
 obtain ⟨w5, hw5, h⟩ := bind_some h
 refine WO.ck 1 (F := 19) (l := [.str a1]) (C := []) (r := .bool w5) (run_ix_valid a1 w5 hw5) (e1 := z0 [(4, .str a1), (5, .bool w5)]) ?_
 refine WO.fn (e2 := z0 [(6, .bool (!w5))]) ?_
 refine W.cb (!w5) (fun hb => ?_) (fun hb => ?_)
 ·replace h := cond_t hb h
  refine W.seq ?_
  let z1 := fun t => EN ((2, .str (ByteArray.mk #[])) :: (3, .int .i64 2) :: t)
  refine W.rt (e2 := z1 []) ?_
  refine W.wk (env' := z1 []) ?_
  have hr : aresults Tryd.prog Tryd.f8 [(2, .str (ByteArray.mk #[])), (3, .int .i64 2)] = some (.tup [.str (ByteArray.mk #[]), .int .i64 2]) := by kernel_rfl
  cases h
  exact W.ret hr
 replace h := cond_f hb h
 refine W.skip ?_
 refine W.wk (env' := z0 []) ?_
 refine W.seq ?_
 refine W.rg ?_
 obtain ⟨w8, hw8, h⟩ := bind_some h
 let z2 := fun t => z0 ((7, .str a1) :: (8, .str a1) :: (9, l3 none w8) :: t)
 refine WO.ck 2 (F := 21) (l := [.str a1]) (C := []) (r := l3 none w8) (run_ix_suffixes a1 w8 hw8) (e1 := z2 []) ?_
 obtain ⟨w9, hw9, h⟩ := bind_some h
 refine WO.ck 0 (F := 20) (l := [.str a1, l3 none w8]) (C := []) (r := .str w9) (run_ix_transform a1 w8 w9 hw9) (e1 := z2 [(10, .str w9)]) ?_
 refine WO.fn (e2 := [(2, .str w9), (3, .int .i64 0)]) ?_
 refine W.wk (env' := [(2, .str w9), (3, .int .i64 0)]) ?_
 have hr : aresults Tryd.prog Tryd.f8 [(2, .str w9), (3, .int .i64 0)] = some (.tup [.str w9, .int .i64 0]) := by kernel_rfl
 cases h
 exact W.ret hr
def ix_Sort (a1 : ByteArray) : Option ((List Int) × Int) :=
 ((ix_valid a1).bind fun w5 => (bif (!w5) then (some (([] : (List Int)), 2)) else ((ix_suffixes a1).bind fun w8 => (some (w8, 0)))))
theorem run_ix_Sort (a1 : ByteArray) (r : ((List Int) × Int)) (h : ix_Sort a1 = some r) : Run Tryd.prog (.call 27 [.str a1] (.tup [l3 none r.1, I6 r.2])) := by
 refine cW Tryd.func27 rfl (env0 := [(0, .str a1)]) ?_
 unfold ix_Sort at h
 refine W.seq ?_
 refine W.rt (e2 := [(0, .str a1)]) ?_
 refine W.seq ?_
 refine W.seq ?_
 refine W.rg ?_
 obtain ⟨w5, hw5, h⟩ := bind_some h
 refine WO.ck 1 (F := 19) (l := [.str a1]) (C := []) (r := .bool w5) (run_ix_valid a1 w5 hw5) (e1 := [(0, .str a1), (4, .str a1), (5, .bool w5)]) ?_
 refine WO.fn (e2 := [(0, .str a1), (6, .bool (!w5))]) ?_
 refine W.cb (!w5) (fun hb => ?_) (fun hb => ?_)
 ·replace h := cond_t hb h
  refine W.seq ?_
  refine W.rt (e2 := [(2, .nils), (3, .int .i64 2)]) ?_
  refine W.weak [2, 3] [] [(2, 0, 3, 1, 70002)] [] (env' := [(2, l3 (some 70002) ([] : (List Int))), (3, .int .i64 2)]) (by kernel_rfl) ?_
  have hr : aresults Tryd.prog Tryd.f27 [(2, l3 (some 70002) ([] : (List Int))), (3, .int .i64 2)] = some (.tup [l3 none ([] : (List Int)), .int .i64 2]) := by kernel_rfl
  cases h
  exact W.ret hr
 replace h := cond_f hb h
 refine W.skip ?_
 refine W.wk (env' := [(0, .str a1)]) ?_
 refine W.seq ?_
 refine W.rg ?_
 obtain ⟨w8, hw8, h⟩ := bind_some h
 refine WO.ck 1 (F := 21) (l := [.str a1]) (C := []) (r := l3 none w8) (run_ix_suffixes a1 w8 hw8) (e1 := [(0, .str a1), (7, .str a1), (8, l3 none w8)]) ?_
 refine WO.fn (e2 := [(2, l3 none w8), (3, .int .i64 0)]) ?_
 refine W.wk (env' := [(2, l3 none w8), (3, .int .i64 0)]) ?_
 have hr : aresults Tryd.prog Tryd.f27 [(2, l3 none w8), (3, .int .i64 0)] = some (.tup [l3 none w8, .int .i64 0]) := by kernel_rfl
 cases h
 exact W.ret hr
def sl_Equal_int_j7 : Option Bool :=
 (some true)
def sl_Equal_int_l1 (a2 : (List Int)) (K7 : (Option Bool)) : List Int → Nat → Option Bool
 | [], k1 => K7
 | x1 :: r1, k1 => ((idx a2 (k1 : Int)).bind fun e12 => (bif (x1 != e12) then (some false) else (sl_Equal_int_l1 a2 K7 r1 (k1 + 1))))
def sl_Equal_int (a1 : (List Int)) (a2 : (List Int)) : Option Bool :=
 (bif ((a1.length : Int) != (a2.length : Int)) then (some false) else (chk (lenOk a1) (sl_Equal_int_l1 a2 (sl_Equal_int_j7) a1 0)))
theorem run_sl_Equal_int (a1 : (List Int)) (a2 : (List Int)) (r : Bool) (h : sl_Equal_int a1 a2 = some r) : Run Tryd.prog (.call 28 [l3 none a1, l3 none a2] (.bool r)) := by
 refine cW Tryd.func28 rfl (env0 := [(0, l3 none a1), (1, l3 none a2)]) ?_
 unfold sl_Equal_int at h
 refine W.seq ?_
 let z0 := fun t => EN ((0, l3 none a1) :: (1, l3 none a2) :: t)
 refine W.rt (e2 := z0 []) ?_
 refine W.seq ?_
 refine W.seq ?_
 refine W.rg ?_
 let z1 := fun t => z0 ((6, l3 none a1) :: (7, I6 (a1.length : Int)) :: t)
 refine WO.pk 1 (some (I6 ((M6 a1).length : Int))) (v := I6 (a1.length : Int)) (by rw [List.length_map]) (e1 := z1 []) ?_
 refine WO.pk 1 (some (I6 ((M6 a2).length : Int))) (v := I6 (a2.length : Int)) (by rw [List.length_map]) (e1 := z1 [(8, l3 none a2), (9, I6 (a2.length : Int))]) ?_
 refine WO.fn (e2 := z0 [(10, .bool ((a1.length : Int) != (a2.length : Int)))]) ?_
 refine W.cb ((a1.length : Int) != (a2.length : Int)) (fun hb => ?_) (fun hb => ?_)
 ·replace h := cond_t hb h
  refine W.seq ?_
  refine W.rt (e2 := [(4, .bool false)]) ?_
  refine W.wk (env' := [(4, .bool false)]) ?_
  have hr : aresults Tryd.prog Tryd.f28 [(4, .bool false)] = some (.bool false) := by kernel_rfl
  cases h
  exact W.ret hr
 replace h := cond_f hb h
 refine W.skip ?_
 refine W.wk (env' := z0 []) ?_
 refine W.seq ?_
 refine W.join (σ := Unit) (fun s => []) (fun s => (sl_Equal_int_j7) = some r) (fun s h => ?_) (fun hK7 => ?_)
 ·have h : (sl_Equal_int_j7) = some r := h
  unfold sl_Equal_int_j7 at h
  refine W.seq ?_
  refine W.rt (e2 := [(4, .bool true)]) ?_
  refine W.wk (env' := [(4, .bool true)]) ?_
  have hr : aresults Tryd.prog Tryd.f28 [(4, .bool true)] = some (.bool true) := by kernel_rfl
  cases h
  exact W.ret hr
 refine W.seq ?_
 refine W.rg ?_
 refine WO.pk 1 (some (I6 ((M6 a1).length : Int))) (v := I6 (a1.length : Int)) (by rw [List.length_map]) (e1 := z0 [(11, l3 none a1), (12, I6 (a1.length : Int))]) ?_
 let z2 := fun t => z0 ((12, I6 (a1.length : Int)) :: t)
 refine WO.fn (e2 := z2 [(13, .int .i64 0)]) ?_
 refine W.block ?_
 obtain ⟨hl1, h⟩ := chk_some h
 refine W.wk (env' := z2 [(13, I6 ((0 : Nat) : Int))]) ?_
 refine W.range (σ := Unit) a1 (fun k1 s => z2 [(13, I6 (k1 : Int))]) (fun r0 k0 s => sl_Equal_int_l1 a2 (sl_Equal_int_j7) r0 k0 = some r) (fun s h => ?_) (fun x1 r1 k1 s hx1 hk1 h hN1 => ?_) () h
 ·have h : sl_Equal_int_l1 a2 (sl_Equal_int_j7) [] (a1).length = some r := h
  rw [sl_Equal_int_l1.eq_1] at h
  refine W.seq ?_
  refine W.rg ?_
  let z3 := fun t => z2 ((13, I6 ((a1).length : Int)) :: (14, .bool false) :: t)
  refine WO.pk 0 (some (.bool (decide (((a1).length : Int) < (a1.length : Int))))) (v := .bool false) (by rw [lt_false (l := a1)]) (e1 := z3 []) ?_
  refine WO.fn (e2 := z3 []) ?_
  refine W.seq ?_
  refine W.cb false (fun h => Bool.noConfusion h) (fun _ => ?_)
  refine W.exit ?_
  refine W.wk (env' := []) ?_
  exact hK7 () h
 ·have h : sl_Equal_int_l1 a2 (sl_Equal_int_j7) (x1 :: r1) k1 = some r := h
  rw [sl_Equal_int_l1.eq_2] at h
  refine W.seq ?_
  refine W.rg ?_
  let z4 := fun t => z2 ((13, I6 (k1 : Int)) :: t)
  refine WO.pk 0 (some (.bool (decide ((k1 : Int) < (a1.length : Int))))) (v := .bool true) (by rw [lt_true hk1]) (e1 := z4 [(14, .bool true)]) ?_
  refine WO.fn (e2 := z4 [(14, .bool true)]) ?_
  refine W.seq ?_
  refine W.cb true (fun _ => ?_) (fun h => Bool.noConfusion h)
  refine W.skip ?_
  refine W.wk (env' := z4 []) ?_
  refine W.seq ?_
  refine W.block ?_
  refine W.seq ?_
  let z5 := fun t => z0 ((5, I6 (k1 : Int)) :: (12, I6 (a1.length : Int)) :: (13, I6 (k1 : Int)) :: t)
  refine W.rt (e2 := z5 []) ?_
  refine W.seq ?_
  refine W.rg ?_
  let z6 := fun t => z5 ((16, l3 none a1) :: (17, I6 (k1 : Int)) :: (18, .ptr (I6 x1)) :: t)
  refine WO.pk 2 (if (0 : Int) ≤ (k1 : Int) then ((M6 a1)[Int.toNat (k1 : Int)]?).map AV.ptr else none) (v := .ptr (I6 x1)) (idx_nat (f := (AV.int .i64)) hx1) (e1 := z6 []) ?_
  obtain ⟨e12, he12, h⟩ := bind_some h
  refine WO.pk 3 (if (0 : Int) ≤ (k1 : Int) then ((M6 a2)[Int.toNat (k1 : Int)]?).map AV.ptr else none) (v := .ptr (I6 e12)) (idx_av (f := (AV.int .i64)) he12) (e1 := z6 [(19, I6 x1), (20, l3 none a2), (21, I6 (k1 : Int)), (22, .ptr (I6 e12))]) ?_
  refine WO.fn (e2 := z4 [(24, .bool (x1 != e12))]) ?_
  refine W.cb (x1 != e12) (fun hb => ?_) (fun hb => ?_)
  ·replace h := cond_t hb h
   refine W.seq ?_
   refine W.rt (e2 := [(4, .bool false)]) ?_
   refine W.wk (env' := [(4, .bool false)]) ?_
   have hr : aresults Tryd.prog Tryd.f28 [(4, .bool false)] = some (.bool false) := by kernel_rfl
   cases h
   exact W.ret hr
  replace h := cond_f hb h
  refine W.skip ?_
  refine W.wk (env' := z4 []) ?_
  refine W.rg ?_
  refine WO.pk 0 (some (I6 (IntKind.wrap .i64 ((k1 : Int) + 1)))) (v := I6 ((k1 + 1 : Nat) : Int)) (by rw [wrap_succ hl1 hk1]) (e1 := z4 [(25, I6 ((k1 + 1 : Nat) : Int))]) ?_
  refine WO.fn (e2 := z2 [(13, I6 ((k1 + 1 : Nat) : Int))]) ?_
  exact hN1 () h
def lw4_awake_j4 (v6 : Bool) : Option Bool :=
 (some v6)
def lw4_awake : Option Bool :=
 ((ix_Sort (ByteArray.mk #[97, 98, 97, 98])).bind fun w3 => (bif (w3.2 == 0) then ((sl_Equal_int w3.1 [4, 2, 0, 3, 1]).bind fun w5 => ((lw4_awake_j4) w5)) else ((lw4_awake_j4) false)))
theorem run_lw4_awake  (r : Bool) (h : lw4_awake = some r) : Run Tryd.prog (.call 11 [] (.bool r)) := by
 refine cW Tryd.func11 rfl (env0 := []) ?_
 unfold lw4_awake at h
 refine W.seq ?_
 refine W.rt (e2 := []) ?_
 refine W.seq ?_
 refine W.rg ?_
 obtain ⟨w3, hw3, h⟩ := bind_some h
 refine WO.ck 0 (F := 27) (l := [.str (ByteArray.mk #[97, 98, 97, 98])]) (C := []) (r := .tup [l3 none w3.1, I6 w3.2]) (run_ix_Sort (ByteArray.mk #[97, 98, 97, 98]) w3 hw3) (e1 := [(4, .tup [l3 none w3.1, I6 w3.2])]) ?_
 let z0 := fun t => EN ((1, l3 none w3.1) :: (2, I6 w3.2) :: t)
 refine WO.fn (e2 := z0 []) ?_
 refine W.seq ?_
 refine W.join (σ := (Bool)) (fun s => [(0, .bool s)]) (fun s => (lw4_awake_j4) s = some r) (fun s h => ?_) (fun hK4 => ?_)
 ·obtain ⟨v6, rfl⟩ : ∃ x, x = s := ⟨s, rfl⟩
  have h : (lw4_awake_j4) v6 = some r := h
  unfold lw4_awake_j4 at h
  refine W.wk (env' := [(0, .bool v6)]) ?_
  have hr : aresults Tryd.prog Tryd.f11 [(0, .bool v6)] = some (.bool v6) := by kernel_rfl
  cases h
  exact W.ret hr
 refine W.rg ?_
 refine WO.bk 3 (fun b => z0 [(7, I6 w3.2), (8, .bool b), (9, .bool b)]) (w3.2 == 0) (fun hb => ?_) (fun hb => ?_)
 ·replace h := cond_t hb h
  obtain ⟨w5, hw5, h⟩ := bind_some h
  refine WO.ck 2 (F := 28) (l := [l3 none w3.1, l3 none [4, 2, 0, 3, 1]]) (C := []) (r := .bool w5) (run_sl_Equal_int w3.1 [4, 2, 0, 3, 1] w5 hw5) (e1 := z0 [(7, I6 w3.2), (8, .bool true), (9, .bool true), (10, l3 none w3.1), (11, l3 (some 11) [4, 2, 0, 3, 1]), (12, .bool w5)]) ?_
  refine WO.fn (e2 := [(0, .bool w5)]) ?_
  exact hK4 w5 h
 replace h := cond_f hb h
 refine WO.fn (e2 := [(0, .bool false)]) ?_
 exact hK4 false h
def sl_Equal_byte_j7 : Option Bool :=
 (some true)
def sl_Equal_byte_l1 (a2 : (List Int)) (K7 : (Option Bool)) : List Int → Nat → Option Bool
 | [], k1 => K7
 | x1 :: r1, k1 => ((idx a2 (k1 : Int)).bind fun e12 => (bif (x1 != e12) then (some false) else (sl_Equal_byte_l1 a2 K7 r1 (k1 + 1))))
def sl_Equal_byte (a1 : (List Int)) (a2 : (List Int)) : Option Bool :=
 (bif ((a1.length : Int) != (a2.length : Int)) then (some false) else (chk (lenOk a1) (sl_Equal_byte_l1 a2 (sl_Equal_byte_j7) a1 0)))
theorem run_sl_Equal_byte (a1 : (List Int)) (a2 : (List Int)) (r : Bool) (h : sl_Equal_byte a1 a2 = some r) : Run Tryd.prog (.call 18 [l5 none a1, l5 none a2] (.bool r)) := by
 refine cW Tryd.func18 rfl (env0 := [(0, l5 none a1), (1, l5 none a2)]) ?_
 unfold sl_Equal_byte at h
 refine W.seq ?_
 let z0 := fun t => EN ((0, l5 none a1) :: (1, l5 none a2) :: t)
 refine W.rt (e2 := z0 []) ?_
 refine W.seq ?_
 refine W.seq ?_
 refine W.rg ?_
 let z1 := fun t => z0 ((6, l5 none a1) :: (7, I6 (a1.length : Int)) :: t)
 refine WO.pk 1 (some (I6 ((M8 a1).length : Int))) (v := I6 (a1.length : Int)) (by rw [List.length_map]) (e1 := z1 []) ?_
 refine WO.pk 1 (some (I6 ((M8 a2).length : Int))) (v := I6 (a2.length : Int)) (by rw [List.length_map]) (e1 := z1 [(8, l5 none a2), (9, I6 (a2.length : Int))]) ?_
 refine WO.fn (e2 := z0 [(10, .bool ((a1.length : Int) != (a2.length : Int)))]) ?_
 refine W.cb ((a1.length : Int) != (a2.length : Int)) (fun hb => ?_) (fun hb => ?_)
 ·replace h := cond_t hb h
  refine W.seq ?_
  refine W.rt (e2 := [(4, .bool false)]) ?_
  refine W.wk (env' := [(4, .bool false)]) ?_
  have hr : aresults Tryd.prog Tryd.f18 [(4, .bool false)] = some (.bool false) := by kernel_rfl
  cases h
  exact W.ret hr
 replace h := cond_f hb h
 refine W.skip ?_
 refine W.wk (env' := z0 []) ?_
 refine W.seq ?_
 refine W.join (σ := Unit) (fun s => []) (fun s => (sl_Equal_byte_j7) = some r) (fun s h => ?_) (fun hK7 => ?_)
 ·have h : (sl_Equal_byte_j7) = some r := h
  unfold sl_Equal_byte_j7 at h
  refine W.seq ?_
  refine W.rt (e2 := [(4, .bool true)]) ?_
  refine W.wk (env' := [(4, .bool true)]) ?_
  have hr : aresults Tryd.prog Tryd.f18 [(4, .bool true)] = some (.bool true) := by kernel_rfl
  cases h
  exact W.ret hr
 refine W.seq ?_
 refine W.rg ?_
 refine WO.pk 1 (some (I6 ((M8 a1).length : Int))) (v := I6 (a1.length : Int)) (by rw [List.length_map]) (e1 := z0 [(11, l5 none a1), (12, I6 (a1.length : Int))]) ?_
 let z2 := fun t => z0 ((12, I6 (a1.length : Int)) :: t)
 refine WO.fn (e2 := z2 [(13, .int .i64 0)]) ?_
 refine W.block ?_
 obtain ⟨hl1, h⟩ := chk_some h
 refine W.wk (env' := z2 [(13, I6 ((0 : Nat) : Int))]) ?_
 refine W.range (σ := Unit) a1 (fun k1 s => z2 [(13, I6 (k1 : Int))]) (fun r0 k0 s => sl_Equal_byte_l1 a2 (sl_Equal_byte_j7) r0 k0 = some r) (fun s h => ?_) (fun x1 r1 k1 s hx1 hk1 h hN1 => ?_) () h
 ·have h : sl_Equal_byte_l1 a2 (sl_Equal_byte_j7) [] (a1).length = some r := h
  rw [sl_Equal_byte_l1.eq_1] at h
  refine W.seq ?_
  refine W.rg ?_
  let z3 := fun t => z2 ((13, I6 ((a1).length : Int)) :: (14, .bool false) :: t)
  refine WO.pk 0 (some (.bool (decide (((a1).length : Int) < (a1.length : Int))))) (v := .bool false) (by rw [lt_false (l := a1)]) (e1 := z3 []) ?_
  refine WO.fn (e2 := z3 []) ?_
  refine W.seq ?_
  refine W.cb false (fun h => Bool.noConfusion h) (fun _ => ?_)
  refine W.exit ?_
  refine W.wk (env' := []) ?_
  exact hK7 () h
 ·have h : sl_Equal_byte_l1 a2 (sl_Equal_byte_j7) (x1 :: r1) k1 = some r := h
  rw [sl_Equal_byte_l1.eq_2] at h
  refine W.seq ?_
  refine W.rg ?_
  let z4 := fun t => z2 ((13, I6 (k1 : Int)) :: t)
  refine WO.pk 0 (some (.bool (decide ((k1 : Int) < (a1.length : Int))))) (v := .bool true) (by rw [lt_true hk1]) (e1 := z4 [(14, .bool true)]) ?_
  refine WO.fn (e2 := z4 [(14, .bool true)]) ?_
  refine W.seq ?_
  refine W.cb true (fun _ => ?_) (fun h => Bool.noConfusion h)
  refine W.skip ?_
  refine W.wk (env' := z4 []) ?_
  refine W.seq ?_
  refine W.block ?_
  refine W.seq ?_
  let z5 := fun t => z0 ((5, I6 (k1 : Int)) :: (12, I6 (a1.length : Int)) :: (13, I6 (k1 : Int)) :: t)
  refine W.rt (e2 := z5 []) ?_
  refine W.seq ?_
  refine W.rg ?_
  let z6 := fun t => z5 ((16, l5 none a1) :: (17, I6 (k1 : Int)) :: (18, .ptr (.int .u8 x1)) :: t)
  refine WO.pk 2 (if (0 : Int) ≤ (k1 : Int) then ((M8 a1)[Int.toNat (k1 : Int)]?).map AV.ptr else none) (v := .ptr (.int .u8 x1)) (idx_nat (f := (AV.int .u8)) hx1) (e1 := z6 []) ?_
  obtain ⟨e12, he12, h⟩ := bind_some h
  refine WO.pk 3 (if (0 : Int) ≤ (k1 : Int) then ((M8 a2)[Int.toNat (k1 : Int)]?).map AV.ptr else none) (v := .ptr (.int .u8 e12)) (idx_av (f := (AV.int .u8)) he12) (e1 := z6 [(19, .int .u8 x1), (20, l5 none a2), (21, I6 (k1 : Int)), (22, .ptr (.int .u8 e12))]) ?_
  refine WO.fn (e2 := z4 [(24, .bool (x1 != e12))]) ?_
  refine W.cb (x1 != e12) (fun hb => ?_) (fun hb => ?_)
  ·replace h := cond_t hb h
   refine W.seq ?_
   refine W.rt (e2 := [(4, .bool false)]) ?_
   refine W.wk (env' := [(4, .bool false)]) ?_
   have hr : aresults Tryd.prog Tryd.f18 [(4, .bool false)] = some (.bool false) := by kernel_rfl
   cases h
   exact W.ret hr
  replace h := cond_f hb h
  refine W.skip ?_
  refine W.wk (env' := z4 []) ?_
  refine W.rg ?_
  refine WO.pk 0 (some (I6 (IntKind.wrap .i64 ((k1 : Int) + 1)))) (v := I6 ((k1 + 1 : Nat) : Int)) (by rw [wrap_succ hl1 hk1]) (e1 := z4 [(25, I6 ((k1 + 1 : Nat) : Int))]) ?_
  refine WO.fn (e2 := z2 [(13, I6 ((k1 + 1 : Nat) : Int))]) ?_
  exact hN1 () h
end Go.AM
