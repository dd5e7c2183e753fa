/- s -/
import Derived.Test.YtoiejpkfpjingaaAWq
import Derived.Test.YtoiejpkfpjingaaChecked
import Derived.Test.YtoiejpkfpjingaaAMap
import Derived.Test.YtoiejpkfpjingaaCDel
import Derived.Test.YtoiejpkfpjingaaCComm
set_option maxRecDepth 100000
set_option linter.unusedVariables false
set_option linter.unusedSimpArgs false
namespace Go.AM
open Go.Proofs
structure arr2_Int where
 f_0 : Int
 f_1 : Int
def l3 (c : Option Nat) (l : List Int) : AV := .lst 3 1 c (List.map (AV.int .i64) l)
def e_arr2_Int (x : arr2_Int) : AV := .agg [.int .i64 x.f_0, .int .i64 x.f_1]
def keq_arr2_Int (x a : arr2_Int) : Bool := (x.f_0 == a.f_0) && ((x.f_1 == a.f_1) && true)
end Go.AM
namespace Go.AM
open Go.Proofs
def hs_History_committed (fuel : Nat) (a1 : (List hsOp)) : Option (List Int) := (hs_History_ending fuel a1 2).bind fun l => chk (decide (l.length ≤ 1000)) (some (sortI (comm l)))
theorem run_hs_History_committed (fuel : Nat) (a1 : (List hsOp)) (r : (List Int)) (h : hs_History_committed fuel a1 = some r) : Run Try.prog (.call 51 [l44 none a1] (l3 none r)) := by
 unfold hs_History_committed at h
 obtain ⟨l, hl, h⟩ := bind_some h
 obtain ⟨hc, h⟩ := chk_some h
 cases h
 exact .ext0 (committed_ok hl (of_decide_eq_true hc))
def sl_Index_int_j4 : Option Int :=
 (some (-1))
def sl_Index_int_l1 (a2 : Int) (K4 : (Option Int)) : List Int → Nat → Option Int
 | [], k1 => K4
 | x1 :: r1, k1 => (bif (a2 == x1) then (some (k1 : Int)) else (sl_Index_int_l1 a2 K4 r1 (k1 + 1)))
def sl_Index_int (a1 : (List Int)) (a2 : Int) : Option Int :=
 (chk (lenOk a1) (sl_Index_int_l1 a2 (sl_Index_int_j4) a1 0))
theorem run_sl_Index_int (a1 : (List Int)) (a2 : Int) (r : Int) (h : sl_Index_int a1 a2 = some r) : Run Try.prog (.call 75 [l3 none a1, I6 a2] (I6 r)) := by
 refine cW Try.func75 rfl (env0 := [(0, l3 none a1), (1, I6 a2)]) ?_
 unfold sl_Index_int at h
 refine W.seq ?_
 let z0 := fun t => EN ((0, l3 none a1) :: (1, I6 a2) :: t)
 refine W.rt (e2 := z0 []) ?_
 refine W.seq ?_
 refine W.join (σ := Unit) (fun s => []) (fun s => (sl_Index_int_j4) = some r) (fun s h => ?_) (fun hK4 => ?_)
 ·have h : (sl_Index_int_j4) = some r := h
  unfold sl_Index_int_j4 at h
  refine W.seq ?_
  refine W.rt (e2 := [(4, I6 (-1))]) ?_
  refine W.wk (env' := [(4, I6 (-1))]) ?_
  have hr : aresults Try.prog Try.f75 [(4, I6 (-1))] = some (I6 (-1)) := by kernel_rfl
  cases h
  exact W.ret hr
 refine W.seq ?_
 refine W.rg ?_
 refine WO.pk 1 (some (I6 ((M6 a1).length : Int))) (v := I6 (a1.length : Int)) (by rw [List.length_map]) (e1 := z0 [(6, l3 none a1), (7, I6 (a1.length : Int))]) ?_
 let z1 := fun t => z0 ((7, I6 (a1.length : Int)) :: t)
 refine WO.fn (e2 := z1 [(8, .int .i64 0)]) ?_
 refine W.block ?_
 obtain ⟨hl1, h⟩ := chk_some h
 refine W.wk (env' := z1 [(8, I6 ((0 : Nat) : Int))]) ?_
 refine W.range (σ := Unit) a1 (fun k1 s => z1 [(8, I6 (k1 : Int))]) (fun r0 k0 s => sl_Index_int_l1 a2 (sl_Index_int_j4) r0 k0 = some r) (fun s h => ?_) (fun x1 r1 k1 s hx1 hk1 h hN1 => ?_) () h
 ·have h : sl_Index_int_l1 a2 (sl_Index_int_j4) [] (a1).length = some r := h
  rw [sl_Index_int_l1.eq_1] at h
  refine W.seq ?_
  refine W.rg ?_
  let z2 := fun t => z1 ((8, I6 ((a1).length : Int)) :: (9, .bool false) :: t)
  refine WO.pk 0 (some (.bool (decide (((a1).length : Int) < (a1.length : Int))))) (v := .bool false) (by rw [lt_false (l := a1)]) (e1 := z2 []) ?_
  refine WO.fn (e2 := z2 []) ?_
  refine W.seq ?_
  refine W.cb false (fun h => Bool.noConfusion h) (fun _ => ?_)
  refine W.exit ?_
  refine W.wk (env' := []) ?_
  exact hK4 () h
 ·have h : sl_Index_int_l1 a2 (sl_Index_int_j4) (x1 :: r1) k1 = some r := h
  rw [sl_Index_int_l1.eq_2] at h
  refine W.seq ?_
  refine W.rg ?_
  let z3 := fun t => z1 ((8, I6 (k1 : Int)) :: t)
  refine WO.pk 0 (some (.bool (decide ((k1 : Int) < (a1.length : Int))))) (v := .bool true) (by rw [lt_true hk1]) (e1 := z3 [(9, .bool true)]) ?_
  refine WO.fn (e2 := z3 [(9, .bool true)]) ?_
  refine W.seq ?_
  refine W.cb true (fun _ => ?_) (fun h => Bool.noConfusion h)
  refine W.skip ?_
  refine W.wk (env' := z3 []) ?_
  refine W.seq ?_
  refine W.block ?_
  refine W.seq ?_
  let z4 := fun t => z0 ((5, I6 (k1 : Int)) :: (7, I6 (a1.length : Int)) :: (8, I6 (k1 : Int)) :: t)
  refine W.rt (e2 := z4 []) ?_
  refine W.seq ?_
  refine W.rg ?_
  refine WO.pk 3 (if (0 : Int) ≤ (k1 : Int) then ((M6 a1)[Int.toNat (k1 : Int)]?).map AV.ptr else none) (v := .ptr (I6 x1)) (idx_nat (f := (AV.int .i64)) hx1) (e1 := z4 [(11, I6 a2), (12, l3 none a1), (13, I6 (k1 : Int)), (14, .ptr (I6 x1))]) ?_
  refine WO.fn (e2 := z4 [(16, .bool (a2 == x1))]) ?_
  refine W.cb (a2 == x1) (fun hb => ?_) (fun hb => ?_)
  ·replace h := cond_t hb h
   refine W.seq ?_
   refine W.rt (e2 := [(4, I6 (k1 : Int))]) ?_
   refine W.wk (env' := [(4, I6 (k1 : Int))]) ?_
   have hr : aresults Try.prog Try.f75 [(4, I6 (k1 : Int))] = some (I6 (k1 : Int)) := by kernel_rfl
   cases h
   exact W.ret hr
  replace h := cond_f hb h
  refine W.skip ?_
  refine W.wk (env' := z3 []) ?_
  refine W.rg ?_
  refine WO.pk 0 (some (I6 (IntKind.wrap .i64 ((k1 : Int) + 1)))) (v := I6 ((k1 + 1 : Nat) : Int)) (by rw [wrap_succ hl1 hk1]) (e1 := z3 [(18, I6 ((k1 + 1 : Nat) : Int))]) ?_
  refine WO.fn (e2 := z1 [(8, I6 ((k1 + 1 : Nat) : Int))]) ?_
  exact hN1 () h
def sl_Contains_int (a1 : (List Int)) (a2 : Int) : Option Bool :=
 ((sl_Index_int a1 a2).bind fun w5 => (some (decide (w5 ≥ 0))))
theorem run_sl_Contains_int (a1 : (List Int)) (a2 : Int) (r : Bool) (h : sl_Contains_int a1 a2 = some r) : Run Try.prog (.call 39 [l3 none a1, I6 a2] (.bool r)) := by
 refine cW Try.func39 rfl (env0 := [(0, l3 none a1), (1, I6 a2)]) ?_
 unfold sl_Contains_int at h
 refine W.seq ?_
 refine W.rt (e2 := [(0, l3 none a1), (1, I6 a2)]) ?_
 refine W.seq ?_
 refine W.rg ?_
 obtain ⟨w5, hw5, h⟩ := bind_some h
 refine WO.ck 2 (F := 75) (l := [l3 none a1, I6 a2]) (C := []) (r := I6 w5) (run_sl_Index_int a1 a2 w5 hw5) (e1 := [(0, l3 none a1), (1, I6 a2), (5, l3 none a1), (6, I6 a2), (7, I6 w5)]) ?_
 refine WO.fn (e2 := [(4, .bool (decide (w5 ≥ 0)))]) ?_
 refine W.wk (env' := [(4, .bool (decide (w5 ≥ 0)))]) ?_
 have hr : aresults Try.prog Try.f39 [(4, .bool (decide (w5 ≥ 0)))] = some (.bool (decide (w5 ≥ 0))) := by kernel_rfl
 cases h
 exact W.ret hr
def hs_History_part_j6 (v15 : (List hsOp)) : Option (List hsOp) :=
 (some v15)
def hs_History_part_j9 (N1 : ((List hsOp) → Option (List hsOp))) (v14 : (List hsOp)) : Option (List hsOp) :=
 (N1 v14)
def hs_History_part_l1 (w4 : (List Int)) (K6 : ((List hsOp) → Option (List hsOp))) : List hsOp → Nat → (List hsOp) → Option (List hsOp)
 | [], k1, v8 => (K6 v8)
 | x1 :: r1, k1, v8 => ((sl_Contains_int w4 x1.f_Txn).bind fun w12 => (bif w12 then (chk (capOk 24 ((v8 ++ [x1])).length) ((hs_History_part_j9 (hs_History_part_l1 w4 K6 r1 (k1 + 1))) (v8 ++ [x1]))) else ((hs_History_part_j9 (hs_History_part_l1 w4 K6 r1 (k1 + 1))) v8)))
def hs_History_part (fuel : Nat) (a1 : (List hsOp)) : Option (List hsOp) :=
 ((hs_History_committed fuel a1).bind fun w4 => (chk (lenOk a1) (hs_History_part_l1 w4 (hs_History_part_j6) a1 0 ([] : (List hsOp)))))
theorem run_hs_History_part (fuel : Nat) (a1 : (List hsOp)) (r : (List hsOp)) (h : hs_History_part fuel a1 = some r) : Run Try.prog (.call 48 [l44 none a1] (l44 (some 1) r)) := by
 refine cW Try.func48 rfl (env0 := [(0, l44 none a1)]) ?_
 unfold hs_History_part at h
 refine W.seq ?_
 let z0 := fun t => EN ((0, l44 none a1) :: t)
 refine W.rt (e2 := z0 []) ?_
 refine W.seq ?_
 refine W.rg ?_
 obtain ⟨w4, hw4, h⟩ := bind_some h
 refine WO.ck 1 (F := 51) (l := [l44 none a1]) (C := []) (r := l3 none w4) (run_hs_History_committed fuel a1 w4 hw4) (e1 := z0 [(7, l44 none a1), (8, l3 none w4)]) ?_
 let z1 := fun t => z0 ((3, l3 none w4) :: t)
 refine WO.fn (e2 := z1 []) ?_
 refine W.seq ?_
 refine W.rt (e2 := z1 [(4, .nils)]) ?_
 refine W.seq ?_
 refine W.join (σ := ((List hsOp))) (fun s => [(4, l44 (some 10400) s)]) (fun s => (hs_History_part_j6) s = some r) (fun s h => ?_) (fun hK6 => ?_)
 ·obtain ⟨v15, rfl⟩ : ∃ x, x = s := ⟨s, rfl⟩
  have h : (hs_History_part_j6) v15 = some r := h
  unfold hs_History_part_j6 at h
  refine W.seq ?_
  refine W.rt (e2 := [(2, l44 (some 10400) v15)]) ?_
  refine W.weak [2] [] [] [(10400, some 1)] (env' := [(2, l44 (some 1) v15)]) (by kernel_rfl) ?_
  have hr : aresults Try.prog Try.f48 [(2, l44 (some 1) v15)] = some (l44 (some 1) v15) := by kernel_rfl
  cases h
  exact W.ret hr
 refine W.seq ?_
 refine W.rg ?_
 refine WO.pk 1 (some (I6 ((List.map e_hsOp a1).length : Int))) (v := I6 (a1.length : Int)) (by rw [List.length_map]) (e1 := z1 [(4, .nils), (9, l44 none a1), (10, I6 (a1.length : Int))]) ?_
 let z2 := fun t => EN ((3, l3 none w4) :: t)
 refine WO.fn (e2 := z2 [(4, .nils), (9, l44 none a1), (10, I6 (a1.length : Int)), (11, .int .i64 0)]) ?_
 refine W.block ?_
 obtain ⟨hl1, h⟩ := chk_some h
 refine W.weak [3, 4, 9, 10, 11] [] [(4, 0, 44, 3, 10400)] [] (env' := z2 [(4, l44 (some 10400) ([] : (List hsOp))), (9, l44 none a1), (10, I6 (a1.length : Int)), (11, I6 ((0 : Nat) : Int))]) (by kernel_rfl) ?_
 refine W.range (σ := ((List hsOp))) a1 (fun k1 s => z2 [(4, l44 (some 10400) s), (9, l44 none a1), (10, I6 (a1.length : Int)), (11, I6 (k1 : Int))]) (fun r0 k0 s => hs_History_part_l1 w4 (hs_History_part_j6) r0 k0 s = some r) (fun s h => ?_) (fun x1 r1 k1 s hx1 hk1 h hN1 => ?_) ([] : (List hsOp)) h
 ·obtain ⟨v8, rfl⟩ : ∃ x, x = s := ⟨s, rfl⟩
  have h : hs_History_part_l1 w4 (hs_History_part_j6) [] (a1).length v8 = some r := h
  rw [hs_History_part_l1.eq_1] at h
  refine W.seq ?_
  refine W.rg ?_
  let z3 := fun t => z2 ((4, l44 (some 10400) v8) :: (9, l44 none a1) :: (10, I6 (a1.length : Int)) :: (11, I6 ((a1).length : Int)) :: (12, .bool false) :: t)
  refine WO.pk 0 (some (.bool (decide (((a1).length : Int) < (a1.length : Int))))) (v := .bool false) (by rw [lt_false (l := a1)]) (e1 := z3 []) ?_
  refine WO.fn (e2 := z3 []) ?_
  refine W.seq ?_
  refine W.cb false (fun h => Bool.noConfusion h) (fun _ => ?_)
  refine W.exit ?_
  refine W.wk (env' := [(4, l44 (some 10400) v8)]) ?_
  exact hK6 v8 h
 ·obtain ⟨v8, rfl⟩ : ∃ x, x = s := ⟨s, rfl⟩
  have h : hs_History_part_l1 w4 (hs_History_part_j6) (x1 :: r1) k1 v8 = some r := h
  rw [hs_History_part_l1.eq_2] at h
  refine W.seq ?_
  refine W.rg ?_
  let z4 := fun t => z2 ((4, l44 (some 10400) v8) :: (9, l44 none a1) :: (10, I6 (a1.length : Int)) :: (11, I6 (k1 : Int)) :: t)
  refine WO.pk 0 (some (.bool (decide ((k1 : Int) < (a1.length : Int))))) (v := .bool true) (by rw [lt_true hk1]) (e1 := z4 [(12, .bool true)]) ?_
  refine WO.fn (e2 := z4 [(12, .bool true)]) ?_
  refine W.seq ?_
  refine W.cb true (fun _ => ?_) (fun h => Bool.noConfusion h)
  refine W.skip ?_
  refine W.wk (env' := z4 []) ?_
  refine W.seq ?_
  refine W.join (σ := ((List hsOp))) (fun s => z2 [(4, l44 (some 10400) s), (9, l44 none a1), (10, I6 (a1.length : Int)), (11, I6 (k1 : Int))]) (fun s => (hs_History_part_j9 (hs_History_part_l1 w4 (hs_History_part_j6) r1 (k1 + 1))) s = some r) (fun s h => ?_) (fun hK9 => ?_)
  ·obtain ⟨v14, rfl⟩ : ∃ x, x = s := ⟨s, rfl⟩
   have h : (hs_History_part_j9 (hs_History_part_l1 w4 (hs_History_part_j6) r1 (k1 + 1))) v14 = some r := h
   unfold hs_History_part_j9 at h
   refine W.rg ?_
   let z5 := fun t => z2 ((4, l44 (some 10400) v14) :: (9, l44 none a1) :: (10, I6 (a1.length : Int)) :: t)
   refine WO.pk 0 (some (I6 (IntKind.wrap .i64 ((k1 : Int) + 1)))) (v := I6 ((k1 + 1 : Nat) : Int)) (by rw [wrap_succ hl1 hk1]) (e1 := z5 [(11, I6 (k1 : Int)), (23, I6 ((k1 + 1 : Nat) : Int))]) ?_
   refine WO.fn (e2 := z5 [(11, I6 ((k1 + 1 : Nat) : Int))]) ?_
   exact hN1 v14 h
  refine W.block ?_
  refine W.seq ?_
  refine W.rg ?_
  refine WO.pk 0 (if (0 : Int) ≤ (k1 : Int) then ((List.map e_hsOp a1)[Int.toNat (k1 : Int)]?).map AV.ptr else none) (v := .ptr (.agg [I6 x1.f_Txn, I6 x1.f_Kind, I6 x1.f_Item])) (idx_nat (f := e_hsOp) hx1) (e1 := z4 [(13, .ptr (.agg [I6 x1.f_Txn, I6 x1.f_Kind, I6 x1.f_Item]))]) ?_
  let z6 := fun t => z2 ((4, l44 (some 10400) v8) :: (6, .ptr (.agg [I6 x1.f_Txn, I6 x1.f_Kind, I6 x1.f_Item])) :: (9, l44 none a1) :: (10, I6 (a1.length : Int)) :: (11, I6 (k1 : Int)) :: t)
  refine WO.fin [3, 4, 6, 9, 10, 11] [6] [] [] (e2 := z6 []) (by kernel_rfl) (fun _ h => h) ?_
  refine W.seq ?_
  refine W.rg ?_
  obtain ⟨w12, hw12, h⟩ := bind_some h
  refine WO.ck 3 (F := 39) (l := [l3 none w4, I6 x1.f_Txn]) (C := []) (r := .bool w12) (run_sl_Contains_int w4 x1.f_Txn w12 hw12) (e1 := z6 [(15, l3 none w4), (16, .ptr (I6 x1.f_Txn)), (17, I6 x1.f_Txn), (18, .bool w12)]) ?_
  refine WO.fn (e2 := z6 [(18, .bool w12)]) ?_
  refine W.cb w12 (fun hb => ?_) (fun hb => ?_)
  ·replace h := cond_t hb h
   refine W.rg ?_
   obtain ⟨hc13, h⟩ := chk_some h
   refine WO.appendK 3 (d := 22) (e := 44) (s := 3) (bytes := 24) (xs := (List.map e_hsOp v8)) (ys := (List.map e_hsOp [x1])) (zs := (List.map e_hsOp (v8 ++ [x1]))) (env1 := [(3, l3 none w4), (4, l44 none v8), (6, .ptr (.agg [I6 x1.f_Txn, I6 x1.f_Kind, I6 x1.f_Item])), (9, l44 none a1), (10, I6 (a1.length : Int)), (11, I6 (k1 : Int)), (18, .bool w12), (19, l44 none v8), (20, .agg [I6 x1.f_Txn, I6 x1.f_Kind, I6 x1.f_Item]), (21, l44 (some 21) [x1])]) (by kernel_rfl) (List.map_append.symm) (by rw [List.length_map]; exact hc13) (e1 := z2 [(4, l44 none v8), (6, .ptr (.agg [I6 x1.f_Txn, I6 x1.f_Kind, I6 x1.f_Item])), (9, l44 none a1), (10, I6 (a1.length : Int)), (11, I6 (k1 : Int)), (18, .bool w12), (19, l44 none v8), (20, .agg [I6 x1.f_Txn, I6 x1.f_Kind, I6 x1.f_Item]), (21, l44 (some 21) [x1]), (22, l44 (some 22) (v8 ++ [x1]))]) (by kernel_rfl) ?_
   refine WO.fin [3, 4, 9, 10, 11] [] [] [(22, some 10400)] (e2 := z2 [(4, l44 (some 10400) (v8 ++ [x1])), (9, l44 none a1), (10, I6 (a1.length : Int)), (11, I6 (k1 : Int))]) (by kernel_rfl) (fun _ h => h) ?_
   exact hK9 (v8 ++ [x1]) h
  replace h := cond_f hb h
  refine W.skip ?_
  refine W.wk (env' := z4 []) ?_
  exact hK9 v8 h
def hs_History_conflicts_j4 (v20 : (List (arr2_Int × Bool))) : Option (List (arr2_Int × Bool)) :=
 (some v20)
def hs_History_conflicts_j7 (N1 : ((List (arr2_Int × Bool)) → Option (List (arr2_Int × Bool)))) (v19 : (List (arr2_Int × Bool))) : Option (List (arr2_Int × Bool)) :=
 (N1 v19)
def hs_History_conflicts_j12 (N2 : ((List (arr2_Int × Bool)) → Option (List (arr2_Int × Bool)))) (v18 : (List (arr2_Int × Bool))) : Option (List (arr2_Int × Bool)) :=
 (N2 v18)
def hs_History_conflicts_j14 (x1 : hsOp) (x2 : hsOp) (v11 : (List (arr2_Int × Bool))) (K12 : ((List (arr2_Int × Bool)) → Option (List (arr2_Int × Bool)))) (v15 : Bool) : Option (List (arr2_Int × Bool)) :=
 (bif v15 then (chk (wfI .i64 x1.f_Txn && wfI .i64 x2.f_Txn) (chk (Nat.blt v11.length 1000000000) (K12 (mset keq_arr2_Int (arr2_Int.mk x1.f_Txn x2.f_Txn) true v11)))) else (K12 v11))
def hs_History_conflicts_l2 (x1 : hsOp) (K7 : ((List (arr2_Int × Bool)) → Option (List (arr2_Int × Bool)))) : List hsOp → Nat → (List (arr2_Int × Bool)) → Option (List (arr2_Int × Bool))
 | [], k2, v11 => (K7 v11)
 | x2 :: r2, k2, v11 => (bif (x1.f_Txn != x2.f_Txn) then (bif (x1.f_Item == x2.f_Item) then ((hs_History_conflicts_j14 x1 x2 v11 (hs_History_conflicts_j12 (hs_History_conflicts_l2 x1 K7 r2 (k2 + 1)))) ((if x2.f_Kind > x1.f_Kind then x2.f_Kind else x1.f_Kind) == 1)) else ((hs_History_conflicts_j14 x1 x2 v11 (hs_History_conflicts_j12 (hs_History_conflicts_l2 x1 K7 r2 (k2 + 1)))) false)) else ((hs_History_conflicts_j14 x1 x2 v11 (hs_History_conflicts_j12 (hs_History_conflicts_l2 x1 K7 r2 (k2 + 1)))) false))
def hs_History_conflicts_l1 (a1 : (List hsOp)) (K4 : ((List (arr2_Int × Bool)) → Option (List (arr2_Int × Bool)))) : List hsOp → Nat → (List (arr2_Int × Bool)) → Option (List (arr2_Int × Bool))
 | [], k1, v6 => (K4 v6)
 | x1 :: r1, k1, v6 => ((sub a1 ((k1 + 1 : Nat) : Int) (a1.length : Int)).bind fun e10 => (chk (lenOk e10) (hs_History_conflicts_l2 x1 (hs_History_conflicts_j7 (hs_History_conflicts_l1 a1 K4 r1 (k1 + 1))) e10 0 v6)))
def hs_History_conflicts (a1 : (List hsOp)) : Option (List (arr2_Int × Bool)) :=
 (chk (lenOk a1) (hs_History_conflicts_l1 a1 (hs_History_conflicts_j4) a1 0 ([] : (List (arr2_Int × Bool)))))
theorem run_hs_History_conflicts (a1 : (List hsOp)) (r : (List (arr2_Int × Bool))) (h : hs_History_conflicts a1 = some r) : Run Try.prog (.call 49 [l44 none a1] (mpE e_arr2_Int AV.bool r)) := by
 refine cW Try.func49 rfl (env0 := [(0, l44 none a1)]) ?_
 unfold hs_History_conflicts at h
 refine W.seq ?_
 let z0 := fun t => EN ((0, l44 none a1) :: t)
 refine W.rt (e2 := z0 []) ?_
 refine W.seq ?_
 let z1 := fun t => z0 ((3, .mb 0 1000008) :: t)
 refine W.rt (e2 := z1 [(1000008, hobE e_arr2_Int AV.bool ([] : (List (arr2_Int × Bool))))]) ?_
 refine W.seq ?_
 refine W.join (σ := ((List (arr2_Int × Bool)))) (fun s => [(3, .mb 0 1000008), (1000008, hobE e_arr2_Int AV.bool s)]) (fun s => (hs_History_conflicts_j4) s = some r) (fun s h => ?_) (fun hK4 => ?_)
 ·obtain ⟨v20, rfl⟩ : ∃ x, x = s := ⟨s, rfl⟩
  have h : (hs_History_conflicts_j4) v20 = some r := h
  unfold hs_History_conflicts_j4 at h
  refine W.seq ?_
  refine W.rt (e2 := [(2, .mb 0 1000008), (1000008, hobE e_arr2_Int AV.bool v20)]) ?_
  refine W.mv [.frz 1000008] (env' := [(2, mpE e_arr2_Int AV.bool v20)]) (by kernel_rfl) ?_
  refine W.wk (env' := [(2, mpE e_arr2_Int AV.bool v20)]) ?_
  have hr : aresults Try.prog Try.f49 [(2, mpE e_arr2_Int AV.bool v20)] = some (mpE e_arr2_Int AV.bool v20) := by kernel_rfl
  cases h
  exact W.ret hr
 refine W.seq ?_
 refine W.rg ?_
 let z2 := fun t => z1 ((9, l44 none a1) :: (10, I6 (a1.length : Int)) :: t)
 refine WO.pk 1 (some (I6 ((List.map e_hsOp a1).length : Int))) (v := I6 (a1.length : Int)) (by rw [List.length_map]) (e1 := z2 [(1000008, hobE e_arr2_Int AV.bool ([] : (List (arr2_Int × Bool))))]) ?_
 refine WO.fn (e2 := z2 [(11, .int .i64 0), (1000008, hobE e_arr2_Int AV.bool ([] : (List (arr2_Int × Bool))))]) ?_
 refine W.block ?_
 obtain ⟨hl1, h⟩ := chk_some h
 refine W.wk (env' := z2 [(11, I6 ((0 : Nat) : Int)), (1000008, hobE e_arr2_Int AV.bool ([] : (List (arr2_Int × Bool))))]) ?_
 refine W.range (σ := ((List (arr2_Int × Bool)))) a1 (fun k1 s => z2 [(11, I6 (k1 : Int)), (1000008, hobE e_arr2_Int AV.bool s)]) (fun r0 k0 s => hs_History_conflicts_l1 a1 (hs_History_conflicts_j4) r0 k0 s = some r) (fun s h => ?_) (fun x1 r1 k1 s hx1 hk1 h hN1 => ?_) ([] : (List (arr2_Int × Bool))) h
 ·obtain ⟨v6, rfl⟩ : ∃ x, x = s := ⟨s, rfl⟩
  have h : hs_History_conflicts_l1 a1 (hs_History_conflicts_j4) [] (a1).length v6 = some r := h
  rw [hs_History_conflicts_l1.eq_1] at h
  refine W.seq ?_
  refine W.rg ?_
  let z3 := fun t => z2 ((11, I6 ((a1).length : Int)) :: (12, .bool false) :: (1000008, hobE e_arr2_Int AV.bool v6) :: t)
  refine WO.pk 0 (some (.bool (decide (((a1).length : Int) < (a1.length : Int))))) (v := .bool false) (by rw [lt_false (l := a1)]) (e1 := z3 []) ?_
  refine WO.fn (e2 := z3 []) ?_
  refine W.seq ?_
  refine W.cb false (fun h => Bool.noConfusion h) (fun _ => ?_)
  refine W.exit ?_
  refine W.wk (env' := [(3, .mb 0 1000008), (1000008, hobE e_arr2_Int AV.bool v6)]) ?_
  exact hK4 v6 h
 ·obtain ⟨v6, rfl⟩ : ∃ x, x = s := ⟨s, rfl⟩
  have h : hs_History_conflicts_l1 a1 (hs_History_conflicts_j4) (x1 :: r1) k1 v6 = some r := h
  rw [hs_History_conflicts_l1.eq_2] at h
  refine W.seq ?_
  refine W.rg ?_
  let z4 := fun t => z2 ((11, I6 (k1 : Int)) :: t)
  let z5 := fun t => z4 ((12, .bool true) :: (1000008, hobE e_arr2_Int AV.bool v6) :: t)
  refine WO.pk 0 (some (.bool (decide ((k1 : Int) < (a1.length : Int))))) (v := .bool true) (by rw [lt_true hk1]) (e1 := z5 []) ?_
  refine WO.fn (e2 := z5 []) ?_
  refine W.seq ?_
  refine W.cb true (fun _ => ?_) (fun h => Bool.noConfusion h)
  refine W.skip ?_
  refine W.wk (env' := z4 [(1000008, hobE e_arr2_Int AV.bool v6)]) ?_
  refine W.seq ?_
  refine W.join (σ := ((List (arr2_Int × Bool)))) (fun s => z4 [(1000008, hobE e_arr2_Int AV.bool s)]) (fun s => (hs_History_conflicts_j7 (hs_History_conflicts_l1 a1 (hs_History_conflicts_j4) r1 (k1 + 1))) s = some r) (fun s h => ?_) (fun hK7 => ?_)
  ·obtain ⟨v19, rfl⟩ : ∃ x, x = s := ⟨s, rfl⟩
   have h : (hs_History_conflicts_j7 (hs_History_conflicts_l1 a1 (hs_History_conflicts_j4) r1 (k1 + 1))) v19 = some r := h
   unfold hs_History_conflicts_j7 at h
   refine W.rg ?_
   refine WO.pk 0 (some (I6 (IntKind.wrap .i64 ((k1 : Int) + 1)))) (v := I6 ((k1 + 1 : Nat) : Int)) (by rw [wrap_succ hl1 hk1]) (e1 := z4 [(52, I6 ((k1 + 1 : Nat) : Int)), (1000008, hobE e_arr2_Int AV.bool v19)]) ?_
   refine WO.fn (e2 := z2 [(11, I6 ((k1 + 1 : Nat) : Int)), (1000008, hobE e_arr2_Int AV.bool v19)]) ?_
   exact hN1 v19 h
  refine W.block ?_
  refine W.seq ?_
  refine W.rg ?_
  refine WO.pk 1 (if (0 : Int) ≤ (k1 : Int) then ((List.map e_hsOp a1)[Int.toNat (k1 : Int)]?).map AV.ptr else none) (v := .ptr (.agg [I6 x1.f_Txn, I6 x1.f_Kind, I6 x1.f_Item])) (idx_nat (f := e_hsOp) hx1) (e1 := z4 [(13, I6 (k1 : Int)), (14, .ptr (.agg [I6 x1.f_Txn, I6 x1.f_Kind, I6 x1.f_Item])), (1000008, hobE e_arr2_Int AV.bool v6)]) ?_
  let z6 := fun t => z1 ((4, I6 (k1 : Int)) :: (5, .ptr (.agg [I6 x1.f_Txn, I6 x1.f_Kind, I6 x1.f_Item])) :: (9, l44 none a1) :: (10, I6 (a1.length : Int)) :: (11, I6 (k1 : Int)) :: t)
  refine WO.fin [0, 3, 4, 5, 9, 10, 11, 1000008] [5] [] [] (e2 := z6 [(1000008, hobE e_arr2_Int AV.bool v6)]) (by kernel_rfl) (fun _ h => h) ?_
  refine W.seq ?_
  refine W.rg ?_
  let z7 := fun t => z6 ((16, l44 none a1) :: (17, I6 (k1 : Int)) :: (18, I6 ((k1 + 1 : Nat) : Int)) :: t)
  refine WO.pk 2 (some (I6 (IntKind.wrap .i64 ((k1 : Int) + 1)))) (v := I6 ((k1 + 1 : Nat) : Int)) (by rw [wrap_succ hl1 hk1]) (e1 := z7 [(1000008, hobE e_arr2_Int AV.bool v6)]) ?_
  obtain ⟨e10, he10, h⟩ := bind_some h
  refine WO.pk 0 (if (0 : Int) ≤ ((k1 + 1 : Nat) : Int) ∧ ((k1 + 1 : Nat) : Int) ≤ ((List.map e_hsOp a1).length : Int) ∧ ((List.map e_hsOp a1).length : Int) ≤ ((List.map e_hsOp a1).length : Int) then some (.lst 44 3 none (((List.map e_hsOp a1).take (Int.toNat ((List.map e_hsOp a1).length : Int))).drop (Int.toNat ((k1 + 1 : Nat) : Int)))) else none) (v := l44 none e10) (sub_av_len he10) (e1 := z7 [(19, l44 none e10), (1000008, hobE e_arr2_Int AV.bool v6)]) ?_
  refine WO.pk 0 (some (I6 ((List.map e_hsOp e10).length : Int))) (v := I6 (e10.length : Int)) (by rw [List.length_map]) (e1 := z7 [(19, l44 none e10), (20, I6 (e10.length : Int)), (1000008, hobE e_arr2_Int AV.bool v6)]) ?_
  let z8 := fun t => z1 ((5, .ptr (.agg [I6 x1.f_Txn, I6 x1.f_Kind, I6 x1.f_Item])) :: (9, l44 none a1) :: (10, I6 (a1.length : Int)) :: (11, I6 (k1 : Int)) :: (19, l44 none e10) :: (20, I6 (e10.length : Int)) :: t)
  refine WO.fn (e2 := z8 [(21, .int .i64 0), (1000008, hobE e_arr2_Int AV.bool v6)]) ?_
  refine W.block ?_
  obtain ⟨hl2, h⟩ := chk_some h
  refine W.wk (env' := z8 [(21, I6 ((0 : Nat) : Int)), (1000008, hobE e_arr2_Int AV.bool v6)]) ?_
  refine W.range (σ := ((List (arr2_Int × Bool)))) e10 (fun k2 s => z8 [(21, I6 (k2 : Int)), (1000008, hobE e_arr2_Int AV.bool s)]) (fun r0 k0 s => hs_History_conflicts_l2 x1 (hs_History_conflicts_j7 (hs_History_conflicts_l1 a1 (hs_History_conflicts_j4) r1 (k1 + 1))) r0 k0 s = some r) (fun s h => ?_) (fun x2 r2 k2 s hx2 hk2 h hN2 => ?_) v6 h
  ·obtain ⟨v11, rfl⟩ : ∃ x, x = s := ⟨s, rfl⟩
   have h : hs_History_conflicts_l2 x1 (hs_History_conflicts_j7 (hs_History_conflicts_l1 a1 (hs_History_conflicts_j4) r1 (k1 + 1))) [] (e10).length v11 = some r := h
   rw [hs_History_conflicts_l2.eq_1] at h
   refine W.seq ?_
   refine W.rg ?_
   let z9 := fun t => z8 ((21, I6 ((e10).length : Int)) :: (22, .bool false) :: (1000008, hobE e_arr2_Int AV.bool v11) :: t)
   refine WO.pk 0 (some (.bool (decide (((e10).length : Int) < (e10.length : Int))))) (v := .bool false) (by rw [lt_false (l := e10)]) (e1 := z9 []) ?_
   refine WO.fn (e2 := z9 []) ?_
   refine W.seq ?_
   refine W.cb false (fun h => Bool.noConfusion h) (fun _ => ?_)
   refine W.exit ?_
   refine W.wk (env' := z4 [(1000008, hobE e_arr2_Int AV.bool v11)]) ?_
   exact hK7 v11 h
  ·obtain ⟨v11, rfl⟩ : ∃ x, x = s := ⟨s, rfl⟩
   have h : hs_History_conflicts_l2 x1 (hs_History_conflicts_j7 (hs_History_conflicts_l1 a1 (hs_History_conflicts_j4) r1 (k1 + 1))) (x2 :: r2) k2 v11 = some r := h
   rw [hs_History_conflicts_l2.eq_2] at h
   refine W.seq ?_
   refine W.rg ?_
   let z10 := fun t => z8 ((21, I6 (k2 : Int)) :: t)
   let z11 := fun t => z10 ((22, .bool true) :: (1000008, hobE e_arr2_Int AV.bool v11) :: t)
   refine WO.pk 0 (some (.bool (decide ((k2 : Int) < (e10.length : Int))))) (v := .bool true) (by rw [lt_true hk2]) (e1 := z11 []) ?_
   refine WO.fn (e2 := z11 []) ?_
   refine W.seq ?_
   refine W.cb true (fun _ => ?_) (fun h => Bool.noConfusion h)
   refine W.skip ?_
   let z12 := fun t => z10 ((1000008, hobE e_arr2_Int AV.bool v11) :: t)
   refine W.wk (env' := z12 []) ?_
   refine W.seq ?_
   refine W.join (σ := ((List (arr2_Int × Bool)))) (fun s => z10 [(1000008, hobE e_arr2_Int AV.bool s)]) (fun s => (hs_History_conflicts_j12 (hs_History_conflicts_l2 x1 (hs_History_conflicts_j7 (hs_History_conflicts_l1 a1 (hs_History_conflicts_j4) r1 (k1 + 1))) r2 (k2 + 1))) s = some r) (fun s h => ?_) (fun hK12 => ?_)
   ·obtain ⟨v18, rfl⟩ : ∃ x, x = s := ⟨s, rfl⟩
    have h : (hs_History_conflicts_j12 (hs_History_conflicts_l2 x1 (hs_History_conflicts_j7 (hs_History_conflicts_l1 a1 (hs_History_conflicts_j4) r1 (k1 + 1))) r2 (k2 + 1))) v18 = some r := h
    unfold hs_History_conflicts_j12 at h
    refine W.rg ?_
    refine WO.pk 0 (some (I6 (IntKind.wrap .i64 ((k2 : Int) + 1)))) (v := I6 ((k2 + 1 : Nat) : Int)) (by rw [wrap_succ hl2 hk2]) (e1 := z10 [(51, I6 ((k2 + 1 : Nat) : Int)), (1000008, hobE e_arr2_Int AV.bool v18)]) ?_
    refine WO.fn (e2 := z8 [(21, I6 ((k2 + 1 : Nat) : Int)), (1000008, hobE e_arr2_Int AV.bool v18)]) ?_
    exact hN2 v18 h
   refine W.block ?_
   refine W.seq ?_
   refine W.rg ?_
   refine WO.pk 0 (if (0 : Int) ≤ (k2 : Int) then ((List.map e_hsOp e10)[Int.toNat (k2 : Int)]?).map AV.ptr else none) (v := .ptr (.agg [I6 x2.f_Txn, I6 x2.f_Kind, I6 x2.f_Item])) (idx_nat (f := e_hsOp) hx2) (e1 := z10 [(23, .ptr (.agg [I6 x2.f_Txn, I6 x2.f_Kind, I6 x2.f_Item])), (1000008, hobE e_arr2_Int AV.bool v11)]) ?_
   let z13 := fun t => z1 ((5, .ptr (.agg [I6 x1.f_Txn, I6 x1.f_Kind, I6 x1.f_Item])) :: (7, .ptr (.agg [I6 x2.f_Txn, I6 x2.f_Kind, I6 x2.f_Item])) :: (9, l44 none a1) :: (10, I6 (a1.length : Int)) :: (11, I6 (k1 : Int)) :: (19, l44 none e10) :: (20, I6 (e10.length : Int)) :: (21, I6 (k2 : Int)) :: t)
   refine WO.fin [0, 3, 5, 7, 9, 10, 11, 19, 20, 21, 1000008] [7] [] [] (e2 := z13 [(1000008, hobE e_arr2_Int AV.bool v11)]) (by kernel_rfl) (fun _ h => h) ?_
   refine W.seq ?_
   refine W.join (σ := (Bool)) (fun s => z13 [(44, .bool s), (1000008, hobE e_arr2_Int AV.bool v11)]) (fun s => (hs_History_conflicts_j14 x1 x2 v11 (hs_History_conflicts_j12 (hs_History_conflicts_l2 x1 (hs_History_conflicts_j7 (hs_History_conflicts_l1 a1 (hs_History_conflicts_j4) r1 (k1 + 1))) r2 (k2 + 1)))) s = some r) (fun s h => ?_) (fun hK14 => ?_)
   ·obtain ⟨v15, rfl⟩ : ∃ x, x = s := ⟨s, rfl⟩
    have h : (hs_History_conflicts_j14 x1 x2 v11 (hs_History_conflicts_j12 (hs_History_conflicts_l2 x1 (hs_History_conflicts_j7 (hs_History_conflicts_l1 a1 (hs_History_conflicts_j4) r1 (k1 + 1))) r2 (k2 + 1)))) v15 = some r := h
    unfold hs_History_conflicts_j14 at h
    refine W.cb v15 (fun hb => ?_) (fun hb => ?_)
    ·replace h := cond_t hb h
     refine W.rg ?_
     obtain ⟨hc16, h⟩ := chk_some h
     obtain ⟨hc17, h⟩ := chk_some h
     refine WO.mapK (F := e_arr2_Int) (G := AV.bool) (eq := keq_arr2_Int) (l := v11) (a := (arr2_Int.mk x1.f_Txn x2.f_Txn)) (b := true) (id := 1000008) (kt := 73) 6 (keyS_two hc16) hc17 (e1 := z13 [(44, .bool v15), (45, .mb 0 1000008), (46, .ptr (I6 x1.f_Txn)), (47, I6 x1.f_Txn), (48, .ptr (I6 x2.f_Txn)), (49, I6 x2.f_Txn), (50, .agg [I6 x1.f_Txn, I6 x2.f_Txn]), (1000008, hobE e_arr2_Int AV.bool (mset keq_arr2_Int (arr2_Int.mk x1.f_Txn x2.f_Txn) true v11))]) ?_ (fun x => by kernel_rfl) (fun x y => by kernel_rfl)
     refine WO.fn (e2 := z10 [(1000008, hobE e_arr2_Int AV.bool (mset keq_arr2_Int (arr2_Int.mk x1.f_Txn x2.f_Txn) true v11))]) ?_
     exact hK12 (mset keq_arr2_Int (arr2_Int.mk x1.f_Txn x2.f_Txn) true v11) h
    replace h := cond_f hb h
    refine W.skip ?_
    refine W.wk (env' := z12 []) ?_
    exact hK12 v11 h
   refine W.rg ?_
   let z14 := fun t => z13 ((25, .ptr (I6 x1.f_Txn)) :: (26, I6 x1.f_Txn) :: (27, .ptr (I6 x2.f_Txn)) :: (28, I6 x2.f_Txn) :: t)
   refine WO.bk 6 (fun b => z14 [(29, .bool b), (30, .bool b), (1000008, hobE e_arr2_Int AV.bool v11)]) (x1.f_Txn != x2.f_Txn) (fun hb => ?_) (fun hb => ?_)
   ·replace h := cond_t hb h
    refine WO.bk 7 (fun b => z14 [(29, .bool true), (30, .bool true), (31, .ptr (I6 x1.f_Item)), (32, I6 x1.f_Item), (33, .ptr (I6 x2.f_Item)), (34, I6 x2.f_Item), (35, .bool b), (36, .bool b), (37, .bool b), (1000008, hobE e_arr2_Int AV.bool v11)]) (x1.f_Item == x2.f_Item) (fun hb => ?_) (fun hb => ?_)
    ·replace h := cond_t hb h
     refine WO.fn (e2 := z13 [(44, .bool ((if x2.f_Kind > x1.f_Kind then x2.f_Kind else x1.f_Kind) == 1)), (1000008, hobE e_arr2_Int AV.bool v11)]) ?_
     exact hK14 ((if x2.f_Kind > x1.f_Kind then x2.f_Kind else x1.f_Kind) == 1) h
    replace h := cond_f hb h
    refine WO.fn (e2 := z13 [(44, .bool false), (1000008, hobE e_arr2_Int AV.bool v11)]) ?_
    exact hK14 false h
   replace h := cond_f hb h
   refine WO.fn (e2 := z13 [(44, .bool false), (1000008, hobE e_arr2_Int AV.bool v11)]) ?_
   exact hK14 false h
def sl_Clone_int_own (a1 : (List Int)) : Option (List Int) := chk (capOk 8 (0 + a1.length)) (some a1)
theorem run_sl_Clone_int_own (a1 : (List Int)) (r : (List Int)) (h : sl_Clone_int_own a1 = some r) : Run Try.prog (.callM 53 [l3 none a1] [] (.sb 1900000 3 1 0 r.length) [(1900000, .obj 3 1 (M6 r))]) := by
 refine cM Try.func53 rfl (env0 := [(0, l3 none a1)]) ?_
 unfold sl_Clone_int_own at h
 obtain ⟨hc, h⟩ := chk_some h
 cases h
 refine W.regS [0] [] [] [] (e2 := [(0, l3 none a1)]) (by kernel_rfl) (by kernel_rfl) ?_
 let z0 := fun t => EN ((2, .sb 1900000 3 1 0 a1.length) :: (1900000, .obj 3 1 (M6 a1)) :: t)
 refine W.seqU (e0 := [(0, l3 none a1), (3, l3 none a1), (4, .ub (M6 a1).isEmpty)]) (e2 := z0 []) (ei := [(0, l3 none a1)]) (M6 a1).isEmpty ?_ (by kernel_rfl) (fun hp => ?_) ?_ ?_ ?_
 ·exact W.region (by kernel_rfl) (WO.end0 (e2 := [(0, l3 none a1), (3, l3 none a1), (4, .ub (M6 a1).isEmpty)]) (by kernel_rfl) ⟨rfl, rfl⟩)
 ·have hl : a1 = [] := by simpa using hp
  subst hl
  refine W.regS [2] [] [] [] (e2 := [(2, .nils)]) (by kernel_rfl) (by kernel_rfl) ?_
  refine W.mv [.nil 2 3 1 1900000] (env' := [(2, .sb 1900000 3 1 0 0), (1900000, .obj 3 1 [])]) (by kernel_rfl) ?_
  exact W.ret ⟨rfl, rfl⟩
 ·refine W.weak [0] [] [] [] (env' := [(0, l3 none a1)]) (by kernel_rfl) ?_
  exact W.skip ⟨rfl, rfl⟩
 ·refine W.seq ?_
  refine W.rg ?_
  refine WO.rowK 0 (e1 := [(0, l3 none a1), (5, .sb 1000005 3 1 0 0), (1000005, .obj 3 1 [])]) (by kernel_rfl) ?_
  refine WO.appendOK 1 (d := 7) (e := 3) (s := 1) (bytes := 8) (m := 0) (n2 := a1.length) (xs := []) (ys := (M6 a1)) (zs := (M6 a1)) (env1 := [(0, l3 none a1), (5, .top), (6, l3 none a1)]) (by kernel_rfl) (by rw [List.length_map]; exact hc) rfl (List.length_map _) (e1 := [(0, l3 none a1), (5, .top), (6, l3 none a1), (7, .sb 1000007 3 1 0 a1.length), (1000007, .obj 3 1 (M6 a1))]) (by kernel_rfl) ?_
  refine WO.fn (e2 := [(2, .sb 1000007 3 1 0 a1.length), (1000007, .obj 3 1 (M6 a1))]) ?_
  refine W.mv [.ren 1000007 1900000] (env' := z0 []) (by kernel_rfl) ?_
  exact W.ret ⟨rfl, rfl⟩
 ·exact ⟨by kernel_rfl, by kernel_rfl⟩
def sl_IndexFunc_int_j4 : Option Int :=
 (some (-1))
def sl_IndexFunc_int_l1 (g2 : (Int → Option Bool)) (K4 : (Option Int)) : List Int → Nat → Option Int
 | [], k1 => K4
 | x1 :: r1, k1 => ((g2 x1).bind fun w9 => (bif w9 then (some (k1 : Int)) else (sl_IndexFunc_int_l1 g2 K4 r1 (k1 + 1))))
def sl_IndexFunc_int (a1 : (List Int)) (g2 : (Int → Option Bool)) : Option Int :=
 (chk (lenOk a1) (sl_IndexFunc_int_l1 g2 (sl_IndexFunc_int_j4) a1 0))
theorem run_sl_IndexFunc_int (a1 : (List Int)) (g2 : (Int → Option Bool)) (F_g2 : Nat) (C_g2 : List AV) (hok_g2 : okFn Try.prog F_g2 = true) (hrun_g2 : ∀ (x0 : Int) r, g2 x0 = some r → Run Try.prog (.call F_g2 ([I6 x0] ++ C_g2) (.bool r))) (r : Int) (h : sl_IndexFunc_int a1 g2 = some r) : Run Try.prog (.call 88 [l3 none a1, .clo F_g2 C_g2] (I6 r)) := by
 refine cW Try.func88 rfl (env0 := [(0, l3 none a1), (1, .clo F_g2 C_g2)]) ?_
 unfold sl_IndexFunc_int at h
 refine W.seq ?_
 let z0 := fun t => EN ((0, l3 none a1) :: (1, .clo F_g2 C_g2) :: t)
 refine W.rt (e2 := z0 []) ?_
 refine W.seq ?_
 refine W.join (σ := Unit) (fun s => []) (fun s => (sl_IndexFunc_int_j4) = some r) (fun s h => ?_) (fun hK4 => ?_)
 ·have h : (sl_IndexFunc_int_j4) = some r := h
  unfold sl_IndexFunc_int_j4 at h
  refine W.seq ?_
  refine W.rt (e2 := [(4, I6 (-1))]) ?_
  refine W.wk (env' := [(4, I6 (-1))]) ?_
  have hr : aresults Try.prog Try.f88 [(4, I6 (-1))] = some (I6 (-1)) := by kernel_rfl
  cases h
  exact W.ret hr
 refine W.seq ?_
 refine W.rg ?_
 refine WO.pk 1 (some (I6 ((M6 a1).length : Int))) (v := I6 (a1.length : Int)) (by rw [List.length_map]) (e1 := z0 [(6, l3 none a1), (7, I6 (a1.length : Int))]) ?_
 let z1 := fun t => z0 ((7, I6 (a1.length : Int)) :: t)
 refine WO.fn (e2 := z1 [(8, .int .i64 0)]) ?_
 refine W.block ?_
 obtain ⟨hl1, h⟩ := chk_some h
 refine W.wk (env' := z1 [(8, I6 ((0 : Nat) : Int))]) ?_
 refine W.range (σ := Unit) a1 (fun k1 s => z1 [(8, I6 (k1 : Int))]) (fun r0 k0 s => sl_IndexFunc_int_l1 g2 (sl_IndexFunc_int_j4) r0 k0 = some r) (fun s h => ?_) (fun x1 r1 k1 s hx1 hk1 h hN1 => ?_) () h
 ·have h : sl_IndexFunc_int_l1 g2 (sl_IndexFunc_int_j4) [] (a1).length = some r := h
  rw [sl_IndexFunc_int_l1.eq_1] at h
  refine W.seq ?_
  refine W.rg ?_
  let z2 := fun t => z1 ((8, I6 ((a1).length : Int)) :: (9, .bool false) :: t)
  refine WO.pk 0 (some (.bool (decide (((a1).length : Int) < (a1.length : Int))))) (v := .bool false) (by rw [lt_false (l := a1)]) (e1 := z2 []) ?_
  refine WO.fn (e2 := z2 []) ?_
  refine W.seq ?_
  refine W.cb false (fun h => Bool.noConfusion h) (fun _ => ?_)
  refine W.exit ?_
  refine W.wk (env' := []) ?_
  exact hK4 () h
 ·have h : sl_IndexFunc_int_l1 g2 (sl_IndexFunc_int_j4) (x1 :: r1) k1 = some r := h
  rw [sl_IndexFunc_int_l1.eq_2] at h
  refine W.seq ?_
  refine W.rg ?_
  let z3 := fun t => z1 ((8, I6 (k1 : Int)) :: t)
  refine WO.pk 0 (some (.bool (decide ((k1 : Int) < (a1.length : Int))))) (v := .bool true) (by rw [lt_true hk1]) (e1 := z3 [(9, .bool true)]) ?_
  refine WO.fn (e2 := z3 [(9, .bool true)]) ?_
  refine W.seq ?_
  refine W.cb true (fun _ => ?_) (fun h => Bool.noConfusion h)
  refine W.skip ?_
  refine W.wk (env' := z3 []) ?_
  refine W.seq ?_
  refine W.block ?_
  refine W.seq ?_
  let z4 := fun t => z0 ((5, I6 (k1 : Int)) :: (7, I6 (a1.length : Int)) :: (8, I6 (k1 : Int)) :: t)
  refine W.rt (e2 := z4 []) ?_
  refine W.seq ?_
  refine W.rg ?_
  let z5 := fun t => z4 ((11, .clo F_g2 C_g2) :: (12, l3 none a1) :: (13, I6 (k1 : Int)) :: (14, .ptr (I6 x1)) :: t)
  refine WO.pk 3 (if (0 : Int) ≤ (k1 : Int) then ((M6 a1)[Int.toNat (k1 : Int)]?).map AV.ptr else none) (v := .ptr (I6 x1)) (idx_nat (f := (AV.int .i64)) hx1) (e1 := z5 []) ?_
  obtain ⟨w9, hw9, h⟩ := bind_some h
  refine WO.callK 1 (F := F_g2) (l := [I6 x1]) (C := C_g2) (r := .bool w9) (by kernel_rfl) hok_g2 (hrun_g2 x1 w9 hw9) (e1 := z5 [(15, I6 x1), (16, .bool w9)]) (by kernel_rfl) ?_
  refine WO.fn (e2 := z4 [(16, .bool w9)]) ?_
  refine W.cb w9 (fun hb => ?_) (fun hb => ?_)
  ·replace h := cond_t hb h
   refine W.seq ?_
   refine W.rt (e2 := [(4, I6 (k1 : Int))]) ?_
   refine W.wk (env' := [(4, I6 (k1 : Int))]) ?_
   have hr : aresults Try.prog Try.f88 [(4, I6 (k1 : Int))] = some (I6 (k1 : Int)) := by kernel_rfl
   cases h
   exact W.ret hr
  replace h := cond_f hb h
  refine W.skip ?_
  refine W.wk (env' := z3 []) ?_
  refine W.rg ?_
  refine WO.pk 0 (some (I6 (IntKind.wrap .i64 ((k1 : Int) + 1)))) (v := I6 ((k1 + 1 : Nat) : Int)) (by rw [wrap_succ hl1 hk1]) (e1 := z3 [(18, I6 ((k1 + 1 : Nat) : Int))]) ?_
  refine WO.fn (e2 := z1 [(8, I6 ((k1 + 1 : Nat) : Int))]) ?_
  exact hN1 () h
def sl_ContainsFunc_int (a1 : (List Int)) (g2 : (Int → Option Bool)) : Option Bool :=
 ((sl_IndexFunc_int a1 g2).bind fun w5 => (some (decide (w5 ≥ 0))))
theorem run_sl_ContainsFunc_int (a1 : (List Int)) (g2 : (Int → Option Bool)) (F_g2 : Nat) (C_g2 : List AV) (hok_g2 : okFn Try.prog F_g2 = true) (hrun_g2 : ∀ (x0 : Int) r, g2 x0 = some r → Run Try.prog (.call F_g2 ([I6 x0] ++ C_g2) (.bool r))) (r : Bool) (h : sl_ContainsFunc_int a1 g2 = some r) : Run Try.prog (.call 54 [l3 none a1, .clo F_g2 C_g2] (.bool r)) := by
 refine cW Try.func54 rfl (env0 := [(0, l3 none a1), (1, .clo F_g2 C_g2)]) ?_
 unfold sl_ContainsFunc_int at h
 refine W.seq ?_
 refine W.rt (e2 := [(0, l3 none a1), (1, .clo F_g2 C_g2)]) ?_
 refine W.seq ?_
 refine W.rg ?_
 obtain ⟨w5, hw5, h⟩ := bind_some h
 refine WO.ck 2 (F := 88) (l := [l3 none a1, .clo F_g2 C_g2]) (C := []) (r := I6 w5) (run_sl_IndexFunc_int a1 g2 F_g2 C_g2 hok_g2 hrun_g2 w5 hw5) (e1 := [(0, l3 none a1), (1, .clo F_g2 C_g2), (5, l3 none a1), (6, .clo F_g2 C_g2), (7, I6 w5)]) ?_
 refine WO.fn (e2 := [(4, .bool (decide (w5 ≥ 0)))]) ?_
 refine W.wk (env' := [(4, .bool (decide (w5 ≥ 0)))]) ?_
 have hr : aresults Try.prog Try.f54 [(4, .bool (decide (w5 ≥ 0)))] = some (.bool (decide (w5 ≥ 0))) := by kernel_rfl
 cases h
 exact W.ret hr
def hs_edges_sorted_1_1 (a1 : Int) (c2 : (List (arr2_Int × Bool))) (c3 : Int) : Option Bool :=
 (chk (wfI .i64 a1 && wfI .i64 c3) (some (mget keq_arr2_Int false (arr2_Int.mk a1 c3) c2)))
theorem run_hs_edges_sorted_1_1 (a1 : Int) (c2 : (List (arr2_Int × Bool))) (c3 : Int) (r : Bool) (h : hs_edges_sorted_1_1 a1 c2 c3 = some r) : Run Try.prog (.call 90 [I6 a1, .ptr (mpE e_arr2_Int AV.bool c2), .ptr (I6 c3)] (.bool r)) := by
 refine cW Try.func90 rfl (env0 := [(0, I6 a1), (1, .ptr (mpE e_arr2_Int AV.bool c2)), (2, .ptr (I6 c3))]) ?_
 unfold hs_edges_sorted_1_1 at h
 refine W.seq ?_
 let z0 := fun t => EN ((0, I6 a1) :: (1, .ptr (mpE e_arr2_Int AV.bool c2)) :: (2, .ptr (I6 c3)) :: t)
 refine W.rt (e2 := z0 []) ?_
 refine W.seq ?_
 refine W.rg ?_
 obtain ⟨hc6, h⟩ := chk_some h
 refine WO.pk 4 ((alookup Try.prog 67 [] (mpE e_arr2_Int AV.bool c2) (.agg [I6 a1, I6 c3])).map AV.strip) (v := .bool (mget keq_arr2_Int false (arr2_Int.mk a1 c3) c2)) (congrArg (Option.map AV.strip) (alookup_mp (F := e_arr2_Int) (G := AV.bool) (eq := keq_arr2_Int) (l := c2) (k := (arr2_Int.mk a1 c3)) (z := false) (kt := 73) (e := 4) (keyS_two hc6) (by kernel_rfl) (fun x => by kernel_rfl) (fun x y => by kernel_rfl) (by kernel_rfl))) (e1 := z0 [(5, mpE e_arr2_Int AV.bool c2), (6, I6 a1), (7, I6 c3), (8, .agg [I6 a1, I6 c3]), (9, .bool (mget keq_arr2_Int false (arr2_Int.mk a1 c3) c2))]) ?_
 let z1 := fun t => EN ((4, .bool (mget keq_arr2_Int false (arr2_Int.mk a1 c3) c2)) :: t)
 refine WO.fn (e2 := z1 []) ?_
 refine W.wk (env' := z1 []) ?_
 have hr : aresults Try.prog Try.f90 [(4, .bool (mget keq_arr2_Int false (arr2_Int.mk a1 c3) c2))] = some (.bool (mget keq_arr2_Int false (arr2_Int.mk a1 c3) c2)) := by kernel_rfl
 cases h
 exact W.ret hr
def hs_edges_sorted_1 (a1 : Int) (c2 : (List Int)) (c3 : (List (arr2_Int × Bool))) : Option Bool :=
 ((sl_ContainsFunc_int c2 (fun y0 => hs_edges_sorted_1_1 y0 c3 a1)).bind fun w6 => (some (!w6)))
theorem run_hs_edges_sorted_1 (a1 : Int) (c2 : (List Int)) (c3 : (List (arr2_Int × Bool))) (r : Bool) (h : hs_edges_sorted_1 a1 c2 c3 = some r) : Run Try.prog (.call 89 [I6 a1, .ptr (l3 none c2), .ptr (mpE e_arr2_Int AV.bool c3)] (.bool r)) := by
 refine cW Try.func89 rfl (env0 := [(0, I6 a1), (1, .ptr (l3 none c2)), (2, .ptr (mpE e_arr2_Int AV.bool c3))]) ?_
 unfold hs_edges_sorted_1 at h
 refine W.seq ?_
 let z0 := fun t => EN ((1, .ptr (l3 none c2)) :: (2, .ptr (mpE e_arr2_Int AV.bool c3)) :: (3, .ptr (I6 a1)) :: t)
 refine W.regT [1, 2, 3] [3] [] [] (e2 := z0 []) (by kernel_rfl) (by kernel_rfl) (fun _ h => h) ?_
 refine W.seq ?_
 refine W.rg ?_
 obtain ⟨w6, hw6, h⟩ := bind_some h
 refine WO.ck 2 (F := 54) (l := [l3 none c2, .clo 90 [.ptr (mpE e_arr2_Int AV.bool c3), .ptr (I6 a1)]]) (C := []) (r := .bool w6) (run_sl_ContainsFunc_int c2 (fun y0 => hs_edges_sorted_1_1 y0 c3 a1) 90 [.ptr (mpE e_arr2_Int AV.bool c3), .ptr (I6 a1)] (by kernel_rfl) (fun y0 r h => run_hs_edges_sorted_1_1 y0 c3 a1 r h) w6 hw6) (e1 := z0 [(5, l3 none c2), (6, .clo 90 [.ptr (mpE e_arr2_Int AV.bool c3), .ptr (I6 a1)]), (7, .bool w6)]) ?_
 refine WO.fn (e2 := [(4, .bool (!w6))]) ?_
 refine W.wk (env' := [(4, .bool (!w6))]) ?_
 have hr : aresults Try.prog Try.f89 [(4, .bool (!w6))] = some (.bool (!w6)) := by kernel_rfl
 cases h
 exact W.ret hr
def sl_Delete_int (a1 : (List Int)) (n1 : Nat) (a2 a3 : Int) : Option (Nat × (List Int)) := chk (decide (n1 = a1.length ∧ a1.length ≤ 4611686018427387904 ∧ 0 ≤ a2 ∧ a2.toNat < a1.length ∧ a3 = a2 + 1)) (some (a1.length - 1, a1.take a2.toNat ++ a1.drop (a2.toNat + 1) ++ [0]))
theorem run_sl_Delete_int (a1 : (List Int)) (n1 : Nat) (a2 a3 : Int) (r : (Nat × (List Int))) (h : sl_Delete_int a1 n1 a2 a3 = some r) : Run Try.prog (.callM 91 [.sb 2000000 3 1 0 n1, I6 a2, I6 a3] [(2000000, .obj 3 1 (M6 a1))] (.sb 2000000 3 1 0 r.1) [(2000000, .obj 3 1 (M6 r.2))]) := by
 unfold sl_Delete_int at h
 obtain ⟨hp, h⟩ := chk_some h
 cases h
 obtain ⟨h1, h2, h3, h4, h5⟩ := of_decide_eq_true hp
 subst h1
 subst h5
 obtain ⟨i, rfl⟩ : ∃ i : Nat, a2 = i := ⟨a2.toNat, by omega⟩
 rw [Int.toNat_natCast] at h4 ⊢
 exact .extM (delete1 h4 h2) (fun id x hx => by simp only [look] at hx; split at hx <;> cases hx; rfl)
def hs_edges_sorted_j7 (v23 : (List Int)) : Option ((List Int) × Bool) :=
 (some (v23, true))
def hs_edges_sorted_l1 (a1 : (List (arr2_Int × Bool))) (K7 : ((List Int) → Option ((List Int) × Bool))) : Nat → (List Int) → Nat → (List Int) → Option ((List Int) × Bool)
 | 0, _, _, _ => none
 | m1 + 1, v8, n9, v10 => (bif (decide (((n9 : Nat) : Int) > 0)) then ((sl_IndexFunc_int (snap 0 n9 v8) (fun y0 => hs_edges_sorted_1 y0 (snap 0 n9 v8) a1)).bind fun w14 => (bif (decide (w14 < 0)) then (some (([] : (List Int)), false)) else (chk (decide ((0 : Int) ≤ w14 ∧ w14 < ((n9 : Nat) : Int))) ((v8[(0 + Int.toNat w14)]?).bind fun e20 => (chk (capOk 8 ((v10 ++ [e20])).length) ((sl_Delete_int (snap 0 n9 v8) (((snap 0 n9 v8)).length) w14 (IntKind.wrap .i64 (w14 + 1))).bind fun w22 => ((hs_edges_sorted_l1 a1 K7 m1) w22.2 w22.1 (v10 ++ [e20])))))))) else (K7 v10))
def hs_edges_sorted (fuel : Nat) (a1 : (List (arr2_Int × Bool))) (a2 : (List Int)) : Option ((List Int) × Bool) :=
 ((sl_Clone_int_own a2).bind fun w5 => (hs_edges_sorted_l1 a1 (hs_edges_sorted_j7) fuel w5 ((w5).length) ([] : (List Int))))
theorem run_hs_edges_sorted (fuel : Nat) (a1 : (List (arr2_Int × Bool))) (a2 : (List Int)) (r : ((List Int) × Bool)) (h : hs_edges_sorted fuel a1 a2 = some r) : Run Try.prog (.call 50 [mpE e_arr2_Int AV.bool a1, l3 none a2] (.tup [l3 none r.1, .bool r.2])) := by
 refine cW Try.func50 rfl (env0 := [(0, mpE e_arr2_Int AV.bool a1), (1, l3 none a2)]) ?_
 unfold hs_edges_sorted at h
 refine W.seq ?_
 let z0 := fun t => EN ((1, l3 none a2) :: (2, .ptr (mpE e_arr2_Int AV.bool a1)) :: t)
 refine W.regT [1, 2] [2] [] [] (e2 := z0 []) (by kernel_rfl) (by kernel_rfl) (fun _ h => h) ?_
 refine W.seq ?_
 refine W.rg ?_
 obtain ⟨w5, hw5, h⟩ := bind_some h
 refine WO.cm 1 [] [(1000010, 1900000)] (F := 53) (args := [l3 none a2]) (hp := []) (hp2 := [(1900000, .obj 3 1 (M6 w5))]) (r := .sb 1900000 3 1 0 ((w5).length)) (run_sl_Clone_int_own a2 w5 hw5) (e1 := z0 [(9, l3 none a2), (10, .sb 1000010 3 1 0 ((w5).length)), (1000010, .obj 3 1 (M6 w5))]) ?_
 let z1 := fun t => EN ((2, .ptr (mpE e_arr2_Int AV.bool a1)) :: t)
 let z2 := fun t => z1 ((6, .bxg [.sb 1000010 3 1 0 ((w5).length)]) :: t)
 refine WO.fn (e2 := z2 [(1000010, .obj 3 1 (M6 w5))]) ?_
 refine W.seq ?_
 refine W.rt (e2 := z2 [(7, .nils), (1000010, .obj 3 1 (M6 w5))]) ?_
 refine W.seq ?_
 refine W.join (σ := ((List Int))) (fun s => [(7, l3 (some 10700) s)]) (fun s => (hs_edges_sorted_j7) s = some r) (fun s h => ?_) (fun hK7 => ?_)
 ·obtain ⟨v23, rfl⟩ : ∃ x, x = s := ⟨s, rfl⟩
  have h : (hs_edges_sorted_j7) v23 = some r := h
  unfold hs_edges_sorted_j7 at h
  refine W.seq ?_
  refine W.rt (e2 := [(4, l3 (some 10700) v23), (5, .bool true)]) ?_
  refine W.wk (env' := [(4, l3 (some 10700) v23), (5, .bool true)]) ?_
  have hr : aresults Try.prog Try.f50 [(4, l3 (some 10700) v23), (5, .bool true)] = some (.tup [l3 none v23, .bool true]) := by kernel_rfl
  cases h
  exact W.ret hr
 refine W.block ?_
 refine W.weak [2, 6, 7, 1000010] [] [(7, 0, 3, 1, 10700)] [] (env' := z2 [(7, l3 (some 10700) ([] : (List Int))), (1000010, .obj 3 1 (M6 w5))]) (by kernel_rfl) ?_
 refine W.fuel (σ := ((List Int) × Nat × (List Int))) (fun s => z1 [(6, .bxg [.sb 1000010 3 1 0 s.2.1]), (7, l3 (some 10700) s.2.2), (1000010, .obj 3 1 (M6 s.1))]) (fun m0 s => hs_edges_sorted_l1 a1 (hs_edges_sorted_j7) m0 s.1 s.2.1 s.2.2 = some r) (fun s h => ?_) (fun m1 s h hN1 => ?_) fuel (w5, (w5).length, ([] : (List Int))) h
 ·obtain ⟨v8, n9, v10⟩ := s
  have h : hs_edges_sorted_l1 a1 (hs_edges_sorted_j7) 0 v8 n9 v10 = some r := h
  rw [hs_edges_sorted_l1.eq_1] at h
  cases h
 ·obtain ⟨v8, n9, v10⟩ := s
  have h : hs_edges_sorted_l1 a1 (hs_edges_sorted_j7) (m1 + 1) v8 n9 v10 = some r := h
  rw [hs_edges_sorted_l1.eq_2] at h
  refine W.seq ?_
  refine W.seq ?_
  let z3 := fun t => z1 ((6, .bxg [.sb 1000010 3 1 0 n9]) :: (7, l3 (some 10700) v10) :: t)
  refine W.rt (e2 := z3 [(13, .bool (decide (((n9 : Nat) : Int) > 0))), (1000010, .obj 3 1 (M6 v8))]) ?_
  refine W.cb (decide (((n9 : Nat) : Int) > 0)) (fun hb => ?_) (fun hb => ?_)
  ·replace h := cond_t hb h
   refine W.skip ?_
   refine W.wk (env' := z3 [(1000010, .obj 3 1 (M6 v8))]) ?_
   refine W.block ?_
   refine W.seq ?_
   refine W.rg ?_
   obtain ⟨w14, hw14, h⟩ := bind_some h
   refine WO.callRK 2 (F := 88) (l := [.lst 3 1 none (snapA 0 n9 (M6 v8)), .clo 89 [.ptr (.lst 3 1 none (snapA 0 n9 (M6 v8))), .ptr (mpE e_arr2_Int AV.bool a1)]]) (C := []) (args := [l3 none (snap 0 n9 v8), .clo 89 [.ptr (l3 none (snap 0 n9 v8)), .ptr (mpE e_arr2_Int AV.bool a1)]]) (r := I6 w14) (by kernel_rfl) (by first | (simp only [snap_map, snap_full, snap_rep, List.cons_append, List.nil_append]; done) | (simp only [snap_map, snap_full, snap_rep, List.cons_append, List.nil_append]; kernel_rfl)) (by kernel_rfl) (by kernel_rfl) (run_sl_IndexFunc_int (snap 0 n9 v8) (fun y0 => hs_edges_sorted_1 y0 (snap 0 n9 v8) a1) 89 [.ptr (l3 none (snap 0 n9 v8)), .ptr (mpE e_arr2_Int AV.bool a1)] (by kernel_rfl) (fun y0 r h => run_hs_edges_sorted_1 y0 (snap 0 n9 v8) a1 r h) w14 hw14) (e1 := z3 [(14, .sb 1000010 3 1 0 n9), (15, .clb 89 [.pb 6 0, .ptr (mpE e_arr2_Int AV.bool a1)]), (16, I6 w14), (1000010, .obj 3 1 (M6 v8))]) (by kernel_rfl) ?_
   let z4 := fun t => z3 ((8, I6 w14) :: t)
   refine WO.fn (e2 := z4 [(1000010, .obj 3 1 (M6 v8))]) ?_
   refine W.seq ?_
   refine W.seq ?_
   refine W.rt (e2 := z4 [(18, .bool (decide (w14 < 0))), (1000010, .obj 3 1 (M6 v8))]) ?_
   refine W.cb (decide (w14 < 0)) (fun hb => ?_) (fun hb => ?_)
   ·replace h := cond_t hb h
    refine W.seq ?_
    refine W.rt (e2 := [(4, .nils), (5, .bool false)]) ?_
    refine W.weak [4, 5] [] [(4, 0, 3, 1, 70004)] [] (env' := [(4, l3 (some 70004) ([] : (List Int))), (5, .bool false)]) (by kernel_rfl) ?_
    have hr : aresults Try.prog Try.f50 [(4, l3 (some 70004) ([] : (List Int))), (5, .bool false)] = some (.tup [l3 none ([] : (List Int)), .bool false]) := by kernel_rfl
    cases h
    exact W.ret hr
   replace h := cond_f hb h
   refine W.skip ?_
   refine W.wk (env' := z4 [(1000010, .obj 3 1 (M6 v8))]) ?_
   refine W.seq ?_
   refine W.rg ?_
   obtain ⟨hc19, h⟩ := chk_some h
   let z5 := fun t => z4 ((19, l3 (some 10700) v10) :: (20, .sb 1000010 3 1 0 n9) :: (21, I6 w14) :: (22, .pe 1000010 1 (0 + Int.toNat w14) 0) :: t)
   refine WO.pi 3 (v := .pe 1000010 1 (0 + Int.toNat w14) 0) hc19 (e1 := z5 [(1000010, .obj 3 1 (M6 v8))]) ?_
   obtain ⟨e20, he20, h⟩ := bind_some h
   refine WO.pl 0 (v := I6 e20) (AV.int .i64) 3 0 he20 (e1 := z5 [(23, I6 e20), (1000010, .obj 3 1 (M6 v8))]) ?_
   obtain ⟨hc21, h⟩ := chk_some h
   let z6 := fun t => z1 ((6, .bxg [.sb 1000010 3 1 0 n9]) :: t)
   refine WO.appendK 1 (d := 25) (e := 3) (s := 1) (bytes := 8) (xs := (M6 v10)) (ys := (M6 [e20])) (zs := (M6 (v10 ++ [e20]))) (env1 := [(2, .ptr (mpE e_arr2_Int AV.bool a1)), (6, .bxg [.sb 1000010 3 1 0 n9]), (7, l3 none v10), (8, I6 w14), (19, l3 none v10), (20, .sb 1000010 3 1 0 n9), (21, I6 w14), (22, .pe 1000010 1 (0 + Int.toNat w14) 0), (23, I6 e20), (24, l3 (some 24) [e20]), (1000010, .obj 3 1 (M6 v8))]) (by kernel_rfl) (List.map_append.symm) (by rw [List.length_map]; exact hc21) (e1 := z6 [(7, l3 none v10), (8, I6 w14), (19, l3 none v10), (20, .sb 1000010 3 1 0 n9), (21, I6 w14), (22, .pe 1000010 1 (0 + Int.toNat w14) 0), (23, I6 e20), (24, l3 (some 24) [e20]), (25, l3 (some 25) (v10 ++ [e20])), (1000010, .obj 3 1 (M6 v8))]) (by kernel_rfl) ?_
   let z7 := fun t => z6 ((7, l3 (some 25) (v10 ++ [e20])) :: (8, I6 w14) :: t)
   refine WO.fn (e2 := z7 [(1000010, .obj 3 1 (M6 v8))]) ?_
   refine W.rg ?_
   refine WO.steps 4 (e1 := z7 [(26, .sb 1000010 3 1 0 n9), (27, I6 w14), (28, I6 w14), (29, I6 (W6 (w14 + 1))), (1000010, .obj 3 1 (M6 v8))]) (by kernel_rfl) ?_
   let z8 := fun t => z1 ((6, .bxg [.top]) :: (7, l3 (some 25) (v10 ++ [e20])) :: (8, I6 w14) :: (26, .sb 1000010 3 1 0 (((snap 0 n9 v8)).length)) :: (27, I6 w14) :: (28, I6 w14) :: (29, I6 (W6 (w14 + 1))) :: t)
   refine WO.mv [.trim 26 1000010] (env' := z8 [(1000010, .obj 3 1 (M6 (snap 0 n9 v8)))]) ((by kernel_rfl : mvAll [(2, .ptr (mpE e_arr2_Int AV.bool a1)), (6, .bxg [.sb 1000010 3 1 0 n9]), (7, l3 (some 25) (v10 ++ [e20])), (8, I6 w14), (26, .sb 1000010 3 1 0 n9), (27, I6 w14), (28, I6 w14), (29, I6 (W6 (w14 + 1))), (1000010, .obj 3 1 (M6 v8))] [.trim 26 1000010] = [(2, .ptr (mpE e_arr2_Int AV.bool a1)), (6, .bxg [.top]), (7, l3 (some 25) (v10 ++ [e20])), (8, I6 w14), (26, .sb 1000010 3 1 0 (snapA 0 n9 (M6 v8)).length), (27, I6 w14), (28, I6 w14), (29, I6 (W6 (w14 + 1))), (1000010, .obj 3 1 (snapA 0 n9 (M6 v8)))]).trans (by simp only [snap_map, List.length_map] <;> rfl)) ?_
   obtain ⟨w22, hw22, h⟩ := bind_some h
   refine WO.cm 0 [(1000010, 2000000)] [] (F := 91) (args := [.sb 2000000 3 1 0 (((snap 0 n9 v8)).length), I6 w14, I6 (W6 (w14 + 1))]) (hp := [(2000000, .obj 3 1 (M6 (snap 0 n9 v8)))]) (hp2 := [(2000000, .obj 3 1 (M6 w22.2))]) (r := .sb 2000000 3 1 0 w22.1) (run_sl_Delete_int (snap 0 n9 v8) (((snap 0 n9 v8)).length) w14 (W6 (w14 + 1)) w22 hw22) (e1 := z8 [(30, .sb 1000010 3 1 0 w22.1), (1000010, .obj 3 1 (M6 w22.2))]) ?_
   refine WO.fin [2, 6, 7, 1000010] [] [] [(25, some 10700)] (e2 := z1 [(6, .bxg [.sb 1000010 3 1 0 w22.1]), (7, l3 (some 10700) (v10 ++ [e20])), (1000010, .obj 3 1 (M6 w22.2))]) (by kernel_rfl) (fun _ h => h) ?_
   exact hN1 (w22.2, w22.1, (v10 ++ [e20])) h
  replace h := cond_f hb h
  refine W.exit ?_
  refine W.wk (env' := [(7, l3 (some 10700) v10)]) ?_
  exact hK7 v10 h
def hs_Order (fuel : Nat) (a1 : (List hsOp)) : Option ((List Int) × Int) :=
 ((hs_Valid a1).bind fun w5 => (bif (!w5) then (some (([] : (List Int)), 2)) else ((hs_History_part fuel a1).bind fun w8 => ((hs_History_conflicts w8).bind fun w9 => ((hs_History_committed fuel a1).bind fun w10 => ((hs_edges_sorted fuel w9 w10).bind fun w11 => (bif (!w11.2) then (some (([] : (List Int)), 8)) else (some (w11.1, 0)))))))))
theorem run_hs_Order (fuel : Nat) (a1 : (List hsOp)) (r : ((List Int) × Int)) (h : hs_Order fuel a1 = some r) : Run Try.prog (.call 17 [l44 none a1] (.tup [l3 none r.1, I6 r.2])) := by
 refine cW Try.func17 rfl (env0 := [(0, l44 none a1)]) ?_
 unfold hs_Order at h
 refine W.seq ?_
 let z0 := fun t => EN ((0, l44 none a1) :: t)
 refine W.rt (e2 := z0 []) ?_
 refine W.seq ?_
 refine W.seq ?_
 refine W.rg ?_
 obtain ⟨w5, hw5, h⟩ := bind_some h
 refine WO.ck 1 (F := 26) (l := [l44 none a1]) (C := []) (r := .bool w5) (run_hs_Valid a1 w5 hw5) (e1 := z0 [(6, l44 none a1), (7, .bool w5)]) ?_
 refine WO.fn (e2 := z0 [(8, .bool (!w5))]) ?_
 refine W.cb (!w5) (fun hb => ?_) (fun hb => ?_)
 ·replace h := cond_t hb h
  refine W.seq ?_
  refine W.rt (e2 := [(2, .nils), (3, .int .i64 2)]) ?_
  refine W.weak [2, 3] [] [(2, 0, 3, 1, 70002)] [] (env' := [(2, l3 (some 70002) ([] : (List Int))), (3, .int .i64 2)]) (by kernel_rfl) ?_
  have hr : aresults Try.prog Try.f17 [(2, l3 (some 70002) ([] : (List Int))), (3, .int .i64 2)] = some (.tup [l3 none ([] : (List Int)), .int .i64 2]) := by kernel_rfl
  cases h
  exact W.ret hr
 replace h := cond_f hb h
 refine W.skip ?_
 refine W.wk (env' := z0 []) ?_
 refine W.seq ?_
 refine W.rg ?_
 obtain ⟨w8, hw8, h⟩ := bind_some h
 let z1 := fun t => z0 ((10, l44 none a1) :: (11, l44 (some 11) w8) :: t)
 refine WO.ck 1 (F := 48) (l := [l44 none a1]) (C := []) (r := l44 (some 1) w8) (run_hs_History_part fuel a1 w8 hw8) (e1 := z1 []) ?_
 obtain ⟨w9, hw9, h⟩ := bind_some h
 let z2 := fun t => z1 ((12, mpE e_arr2_Int AV.bool w9) :: t)
 refine WO.ck 0 (F := 49) (l := [l44 none w8]) (C := []) (r := mpE e_arr2_Int AV.bool w9) (run_hs_History_conflicts w8 w9 hw9) (e1 := z2 []) ?_
 obtain ⟨w10, hw10, h⟩ := bind_some h
 let z3 := fun t => z2 ((13, l44 none a1) :: (14, l3 none w10) :: t)
 refine WO.ck 1 (F := 51) (l := [l44 none a1]) (C := []) (r := l3 none w10) (run_hs_History_committed fuel a1 w10 hw10) (e1 := z3 []) ?_
 obtain ⟨w11, hw11, h⟩ := bind_some h
 refine WO.ck 0 (F := 50) (l := [mpE e_arr2_Int AV.bool w9, l3 none w10]) (C := []) (r := .tup [l3 none w11.1, .bool w11.2]) (run_hs_edges_sorted fuel w9 w10 w11 hw11) (e1 := z3 [(15, .tup [l3 none w11.1, .bool w11.2])]) ?_
 refine WO.fn (e2 := [(4, l3 none w11.1), (5, .bool w11.2)]) ?_
 refine W.seq ?_
 refine W.seq ?_
 refine W.rt (e2 := [(4, l3 none w11.1), (19, .bool (!w11.2))]) ?_
 refine W.cb (!w11.2) (fun hb => ?_) (fun hb => ?_)
 ·replace h := cond_t hb h
  refine W.seq ?_
  refine W.rt (e2 := [(2, .nils), (3, .int .i64 8)]) ?_
  refine W.weak [2, 3] [] [(2, 0, 3, 1, 70002)] [] (env' := [(2, l3 (some 70002) ([] : (List Int))), (3, .int .i64 8)]) (by kernel_rfl) ?_
  have hr : aresults Try.prog Try.f17 [(2, l3 (some 70002) ([] : (List Int))), (3, .int .i64 8)] = some (.tup [l3 none ([] : (List Int)), .int .i64 8]) := by kernel_rfl
  cases h
  exact W.ret hr
 replace h := cond_f hb h
 refine W.skip ?_
 refine W.wk (env' := [(4, l3 none w11.1)]) ?_
 refine W.seq ?_
 refine W.rt (e2 := [(2, l3 none w11.1), (3, .int .i64 0)]) ?_
 refine W.wk (env' := [(2, l3 none w11.1), (3, .int .i64 0)]) ?_
 have hr : aresults Try.prog Try.f17 [(2, l3 none w11.1), (3, .int .i64 0)] = some (.tup [l3 none w11.1, .int .i64 0]) := by kernel_rfl
 cases h
 exact W.ret hr
def sl_Equal_int_j7 : Option Bool :=
 (some true)
def sl_Equal_int_l1 (a2 : (List Int)) (K7 : (Option Bool)) : List Int → Nat → Option Bool
 | [], k1 => K7
 | x1 :: r1, k1 => ((idx a2 (k1 : Int)).bind fun e12 => (bif (x1 != e12) then (some false) else (sl_Equal_int_l1 a2 K7 r1 (k1 + 1))))
def sl_Equal_int (a1 : (List Int)) (a2 : (List Int)) : Option Bool :=
 (bif ((a1.length : Int) != (a2.length : Int)) then (some false) else (chk (lenOk a1) (sl_Equal_int_l1 a2 (sl_Equal_int_j7) a1 0)))
theorem run_sl_Equal_int (a1 : (List Int)) (a2 : (List Int)) (r : Bool) (h : sl_Equal_int a1 a2 = some r) : Run Try.prog (.call 24 [l3 none a1, l3 none a2] (.bool r)) := by
 refine cW Try.func24 rfl (env0 := [(0, l3 none a1), (1, l3 none a2)]) ?_
 unfold sl_Equal_int at h
 refine W.seq ?_
 let z0 := fun t => EN ((0, l3 none a1) :: (1, l3 none a2) :: t)
 refine W.rt (e2 := z0 []) ?_
 refine W.seq ?_
 refine W.seq ?_
 refine W.rg ?_
 let z1 := fun t => z0 ((6, l3 none a1) :: (7, I6 (a1.length : Int)) :: t)
 refine WO.pk 1 (some (I6 ((M6 a1).length : Int))) (v := I6 (a1.length : Int)) (by rw [List.length_map]) (e1 := z1 []) ?_
 refine WO.pk 1 (some (I6 ((M6 a2).length : Int))) (v := I6 (a2.length : Int)) (by rw [List.length_map]) (e1 := z1 [(8, l3 none a2), (9, I6 (a2.length : Int))]) ?_
 refine WO.fn (e2 := z0 [(10, .bool ((a1.length : Int) != (a2.length : Int)))]) ?_
 refine W.cb ((a1.length : Int) != (a2.length : Int)) (fun hb => ?_) (fun hb => ?_)
 ·replace h := cond_t hb h
  refine W.seq ?_
  refine W.rt (e2 := [(4, .bool false)]) ?_
  refine W.wk (env' := [(4, .bool false)]) ?_
  have hr : aresults Try.prog Try.f24 [(4, .bool false)] = some (.bool false) := by kernel_rfl
  cases h
  exact W.ret hr
 replace h := cond_f hb h
 refine W.skip ?_
 refine W.wk (env' := z0 []) ?_
 refine W.seq ?_
 refine W.join (σ := Unit) (fun s => []) (fun s => (sl_Equal_int_j7) = some r) (fun s h => ?_) (fun hK7 => ?_)
 ·have h : (sl_Equal_int_j7) = some r := h
  unfold sl_Equal_int_j7 at h
  refine W.seq ?_
  refine W.rt (e2 := [(4, .bool true)]) ?_
  refine W.wk (env' := [(4, .bool true)]) ?_
  have hr : aresults Try.prog Try.f24 [(4, .bool true)] = some (.bool true) := by kernel_rfl
  cases h
  exact W.ret hr
 refine W.seq ?_
 refine W.rg ?_
 refine WO.pk 1 (some (I6 ((M6 a1).length : Int))) (v := I6 (a1.length : Int)) (by rw [List.length_map]) (e1 := z0 [(11, l3 none a1), (12, I6 (a1.length : Int))]) ?_
 let z2 := fun t => z0 ((12, I6 (a1.length : Int)) :: t)
 refine WO.fn (e2 := z2 [(13, .int .i64 0)]) ?_
 refine W.block ?_
 obtain ⟨hl1, h⟩ := chk_some h
 refine W.wk (env' := z2 [(13, I6 ((0 : Nat) : Int))]) ?_
 refine W.range (σ := Unit) a1 (fun k1 s => z2 [(13, I6 (k1 : Int))]) (fun r0 k0 s => sl_Equal_int_l1 a2 (sl_Equal_int_j7) r0 k0 = some r) (fun s h => ?_) (fun x1 r1 k1 s hx1 hk1 h hN1 => ?_) () h
 ·have h : sl_Equal_int_l1 a2 (sl_Equal_int_j7) [] (a1).length = some r := h
  rw [sl_Equal_int_l1.eq_1] at h
  refine W.seq ?_
  refine W.rg ?_
  let z3 := fun t => z2 ((13, I6 ((a1).length : Int)) :: (14, .bool false) :: t)
  refine WO.pk 0 (some (.bool (decide (((a1).length : Int) < (a1.length : Int))))) (v := .bool false) (by rw [lt_false (l := a1)]) (e1 := z3 []) ?_
  refine WO.fn (e2 := z3 []) ?_
  refine W.seq ?_
  refine W.cb false (fun h => Bool.noConfusion h) (fun _ => ?_)
  refine W.exit ?_
  refine W.wk (env' := []) ?_
  exact hK7 () h
 ·have h : sl_Equal_int_l1 a2 (sl_Equal_int_j7) (x1 :: r1) k1 = some r := h
  rw [sl_Equal_int_l1.eq_2] at h
  refine W.seq ?_
  refine W.rg ?_
  let z4 := fun t => z2 ((13, I6 (k1 : Int)) :: t)
  refine WO.pk 0 (some (.bool (decide ((k1 : Int) < (a1.length : Int))))) (v := .bool true) (by rw [lt_true hk1]) (e1 := z4 [(14, .bool true)]) ?_
  refine WO.fn (e2 := z4 [(14, .bool true)]) ?_
  refine W.seq ?_
  refine W.cb true (fun _ => ?_) (fun h => Bool.noConfusion h)
  refine W.skip ?_
  refine W.wk (env' := z4 []) ?_
  refine W.seq ?_
  refine W.block ?_
  refine W.seq ?_
  let z5 := fun t => z0 ((5, I6 (k1 : Int)) :: (12, I6 (a1.length : Int)) :: (13, I6 (k1 : Int)) :: t)
  refine W.rt (e2 := z5 []) ?_
  refine W.seq ?_
  refine W.rg ?_
  let z6 := fun t => z5 ((16, l3 none a1) :: (17, I6 (k1 : Int)) :: (18, .ptr (I6 x1)) :: t)
  refine WO.pk 2 (if (0 : Int) ≤ (k1 : Int) then ((M6 a1)[Int.toNat (k1 : Int)]?).map AV.ptr else none) (v := .ptr (I6 x1)) (idx_nat (f := (AV.int .i64)) hx1) (e1 := z6 []) ?_
  obtain ⟨e12, he12, h⟩ := bind_some h
  refine WO.pk 3 (if (0 : Int) ≤ (k1 : Int) then ((M6 a2)[Int.toNat (k1 : Int)]?).map AV.ptr else none) (v := .ptr (I6 e12)) (idx_av (f := (AV.int .i64)) he12) (e1 := z6 [(19, I6 x1), (20, l3 none a2), (21, I6 (k1 : Int)), (22, .ptr (I6 e12))]) ?_
  refine WO.fn (e2 := z4 [(24, .bool (x1 != e12))]) ?_
  refine W.cb (x1 != e12) (fun hb => ?_) (fun hb => ?_)
  ·replace h := cond_t hb h
   refine W.seq ?_
   refine W.rt (e2 := [(4, .bool false)]) ?_
   refine W.wk (env' := [(4, .bool false)]) ?_
   have hr : aresults Try.prog Try.f24 [(4, .bool false)] = some (.bool false) := by kernel_rfl
   cases h
   exact W.ret hr
  replace h := cond_f hb h
  refine W.skip ?_
  refine W.wk (env' := z4 []) ?_
  refine W.rg ?_
  refine WO.pk 0 (some (I6 (IntKind.wrap .i64 ((k1 : Int) + 1)))) (v := I6 ((k1 + 1 : Nat) : Int)) (by rw [wrap_succ hl1 hk1]) (e1 := z4 [(25, I6 ((k1 + 1 : Nat) : Int))]) ?_
  refine WO.fn (e2 := z2 [(13, I6 ((k1 + 1 : Nat) : Int))]) ?_
  exact hN1 () h
def lw5_awake_j4 (v6 : Bool) : Option Bool :=
 (some v6)
def lw5_awake (fuel : Nat) : Option Bool :=
 ((hs_Order fuel [(hsOp.mk 2 1 0), (hsOp.mk 1 0 0), (hsOp.mk 1 2 0), (hsOp.mk 2 2 0)]).bind fun w3 => (bif (w3.2 == 0) then ((sl_Equal_int w3.1 [2, 1]).bind fun w5 => ((lw5_awake_j4) w5)) else ((lw5_awake_j4) false)))
theorem run_lw5_awake (fuel : Nat)  (r : Bool) (h : lw5_awake fuel = some r) : Run Try.prog (.call 21 [] (.bool r)) := by
 refine cW Try.func21 rfl (env0 := []) ?_
 unfold lw5_awake at h
 refine W.seq ?_
 refine W.rt (e2 := []) ?_
 refine W.seq ?_
 refine W.rg ?_
 obtain ⟨w3, hw3, h⟩ := bind_some h
 refine WO.ck 5 (F := 17) (l := [l44 none [(hsOp.mk 2 1 0), (hsOp.mk 1 0 0), (hsOp.mk 1 2 0), (hsOp.mk 2 2 0)]]) (C := []) (r := .tup [l3 none w3.1, I6 w3.2]) (run_hs_Order fuel [(hsOp.mk 2 1 0), (hsOp.mk 1 0 0), (hsOp.mk 1 2 0), (hsOp.mk 2 2 0)] w3 hw3) (e1 := [(4, .agg [.int .i64 2, .int .i64 1, .int .i64 0]), (5, .agg [.int .i64 1, .int .i64 0, .int .i64 0]), (6, .agg [.int .i64 1, .int .i64 2, .int .i64 0]), (7, .agg [.int .i64 2, .int .i64 2, .int .i64 0]), (8, l44 (some 8) [(hsOp.mk 2 1 0), (hsOp.mk 1 0 0), (hsOp.mk 1 2 0), (hsOp.mk 2 2 0)]), (9, .tup [l3 none w3.1, I6 w3.2])]) ?_
 let z0 := fun t => EN ((1, l3 none w3.1) :: (2, I6 w3.2) :: t)
 refine WO.fn (e2 := z0 []) ?_
 refine W.seq ?_
 refine W.join (σ := (Bool)) (fun s => [(0, .bool s)]) (fun s => (lw5_awake_j4) s = some r) (fun s h => ?_) (fun hK4 => ?_)
 ·obtain ⟨v6, rfl⟩ : ∃ x, x = s := ⟨s, rfl⟩
  have h : (lw5_awake_j4) v6 = some r := h
  unfold lw5_awake_j4 at h
  refine W.wk (env' := [(0, .bool v6)]) ?_
  have hr : aresults Try.prog Try.f21 [(0, .bool v6)] = some (.bool v6) := by kernel_rfl
  cases h
  exact W.ret hr
 refine W.rg ?_
 refine WO.bk 3 (fun b => z0 [(12, I6 w3.2), (13, .bool b), (14, .bool b)]) (w3.2 == 0) (fun hb => ?_) (fun hb => ?_)
 ·replace h := cond_t hb h
  obtain ⟨w5, hw5, h⟩ := bind_some h
  refine WO.ck 2 (F := 24) (l := [l3 none w3.1, l3 none [2, 1]]) (C := []) (r := .bool w5) (run_sl_Equal_int w3.1 [2, 1] w5 hw5) (e1 := z0 [(12, I6 w3.2), (13, .bool true), (14, .bool true), (15, l3 none w3.1), (16, l3 (some 16) [2, 1]), (17, .bool w5)]) ?_
  refine WO.fn (e2 := [(0, .bool w5)]) ?_
  exact hK4 w5 h
 replace h := cond_f hb h
 refine WO.fn (e2 := [(0, .bool false)]) ?_
 exact hK4 false h
end Go.AM
