/- s -/
import Derived.Test.YtoiejpkfpjingaaAWq
import Derived.Test.YtoiejpkfpjingaaChecked
import Derived.Test.YtoiejpkfpjingaaAAny
import Derived.Test.YtoiejpkfpjingaaAArr
import Derived.Test.YtoiejpkfpjingaaAMap
import Derived.Test.YtoiejpkfpjingaaCDel
import Derived.Test.YtoiejpkfpjingaaEDan
import Derived.Test.YtoiejpkfpjingaaESnap
import Derived.Test.YtoiejpkfpjingaaSR2
set_option maxRecDepth 100000
set_option linter.unusedVariables false
set_option linter.unusedSimpArgs false
namespace Go.AM
open Go.Proofs
end Go.AM
namespace Go.AM
open Go.Proofs
def hs_Danger (fuel : Nat) (a1 : (List hsOp)) : Option ((List arr3_Int) × Int) := dangerP fuel a1
theorem run_hs_Danger (fuel : Nat) (a1 : (List hsOp)) (r : ((List arr3_Int) × Int)) (h : hs_Danger fuel a1 = some r) : Run Try.prog (.call 43 [l44 none a1] (.tup [l64 none r.1, I6 r.2])) := danger43 h
def sl_Equal_3_int_j7 : Option Bool :=
 (some true)
def sl_Equal_3_int_l1 (a2 : (List arr3_Int)) (K7 : (Option Bool)) : List arr3_Int → Nat → Option Bool
 | [], k1 => K7
 | x1 :: r1, k1 => ((idx a2 (k1 : Int)).bind fun e12 => (bif (!((x1.f_0 == e12.f_0) && ((x1.f_1 == e12.f_1) && ((x1.f_2 == e12.f_2) && true)))) then (some false) else (sl_Equal_3_int_l1 a2 K7 r1 (k1 + 1))))
def sl_Equal_3_int (a1 : (List arr3_Int)) (a2 : (List arr3_Int)) : Option Bool :=
 (bif ((a1.length : Int) != (a2.length : Int)) then (some false) else (chk (lenOk a1) (sl_Equal_3_int_l1 a2 (sl_Equal_3_int_j7) a1 0)))
theorem run_sl_Equal_3_int (a1 : (List arr3_Int)) (a2 : (List arr3_Int)) (r : Bool) (h : sl_Equal_3_int a1 a2 = some r) : Run Try.prog (.call 47 [l64 none a1, l64 none a2] (.bool r)) := by
 refine cW Try.func47 rfl (env0 := [(0, l64 none a1), (1, l64 none a2)]) ?_
 unfold sl_Equal_3_int at h
 refine W.seq ?_
 let z0 := fun t => EN ((0, l64 none a1) :: (1, l64 none a2) :: t)
 refine W.rt (e2 := z0 []) ?_
 refine W.seq ?_
 refine W.seq ?_
 refine W.rg ?_
 let z1 := fun t => z0 ((6, l64 none a1) :: (7, I6 (a1.length : Int)) :: t)
 refine WO.pk 1 (some (I6 ((List.map e_arr3_Int a1).length : Int))) (v := I6 (a1.length : Int)) (by rw [List.length_map]) (e1 := z1 []) ?_
 refine WO.pk 1 (some (I6 ((List.map e_arr3_Int a2).length : Int))) (v := I6 (a2.length : Int)) (by rw [List.length_map]) (e1 := z1 [(8, l64 none a2), (9, I6 (a2.length : Int))]) ?_
 refine WO.fn (e2 := z0 [(10, .bool ((a1.length : Int) != (a2.length : Int)))]) ?_
 refine W.cb ((a1.length : Int) != (a2.length : Int)) (fun hb => ?_) (fun hb => ?_)
 ·replace h := cond_t hb h
  refine W.seq ?_
  refine W.rt (e2 := [(4, .bool false)]) ?_
  refine W.wk (env' := [(4, .bool false)]) ?_
  have hr : aresults Try.prog Try.f47 [(4, .bool false)] = some (.bool false) := by kernel_rfl
  cases h
  exact W.ret hr
 replace h := cond_f hb h
 refine W.skip ?_
 refine W.wk (env' := z0 []) ?_
 refine W.seq ?_
 refine W.join (σ := Unit) (fun s => []) (fun s => (sl_Equal_3_int_j7) = some r) (fun s h => ?_) (fun hK7 => ?_)
 ·have h : (sl_Equal_3_int_j7) = some r := h
  unfold sl_Equal_3_int_j7 at h
  refine W.seq ?_
  refine W.rt (e2 := [(4, .bool true)]) ?_
  refine W.wk (env' := [(4, .bool true)]) ?_
  have hr : aresults Try.prog Try.f47 [(4, .bool true)] = some (.bool true) := by kernel_rfl
  cases h
  exact W.ret hr
 refine W.seq ?_
 refine W.rg ?_
 refine WO.pk 1 (some (I6 ((List.map e_arr3_Int a1).length : Int))) (v := I6 (a1.length : Int)) (by rw [List.length_map]) (e1 := z0 [(11, l64 none a1), (12, I6 (a1.length : Int))]) ?_
 let z2 := fun t => z0 ((12, I6 (a1.length : Int)) :: t)
 refine WO.fn (e2 := z2 [(13, .int .i64 0)]) ?_
 refine W.block ?_
 obtain ⟨hl1, h⟩ := chk_some h
 refine W.wk (env' := z2 [(13, I6 ((0 : Nat) : Int))]) ?_
 refine W.range (σ := Unit) a1 (fun k1 s => z2 [(13, I6 (k1 : Int))]) (fun r0 k0 s => sl_Equal_3_int_l1 a2 (sl_Equal_3_int_j7) r0 k0 = some r) (fun s h => ?_) (fun x1 r1 k1 s hx1 hk1 h hN1 => ?_) () h
 ·have h : sl_Equal_3_int_l1 a2 (sl_Equal_3_int_j7) [] (a1).length = some r := h
  rw [sl_Equal_3_int_l1.eq_1] at h
  refine W.seq ?_
  refine W.rg ?_
  let z3 := fun t => z2 ((13, I6 ((a1).length : Int)) :: (14, .bool false) :: t)
  refine WO.pk 0 (some (.bool (decide (((a1).length : Int) < (a1.length : Int))))) (v := .bool false) (by rw [lt_false (l := a1)]) (e1 := z3 []) ?_
  refine WO.fn (e2 := z3 []) ?_
  refine W.seq ?_
  refine W.cb false (fun h => Bool.noConfusion h) (fun _ => ?_)
  refine W.exit ?_
  refine W.wk (env' := []) ?_
  exact hK7 () h
 ·have h : sl_Equal_3_int_l1 a2 (sl_Equal_3_int_j7) (x1 :: r1) k1 = some r := h
  rw [sl_Equal_3_int_l1.eq_2] at h
  refine W.seq ?_
  refine W.rg ?_
  let z4 := fun t => z2 ((13, I6 (k1 : Int)) :: t)
  refine WO.pk 0 (some (.bool (decide ((k1 : Int) < (a1.length : Int))))) (v := .bool true) (by rw [lt_true hk1]) (e1 := z4 [(14, .bool true)]) ?_
  refine WO.fn (e2 := z4 [(14, .bool true)]) ?_
  refine W.seq ?_
  refine W.cb true (fun _ => ?_) (fun h => Bool.noConfusion h)
  refine W.skip ?_
  refine W.wk (env' := z4 []) ?_
  refine W.seq ?_
  refine W.block ?_
  refine W.seq ?_
  let z5 := fun t => z0 ((5, I6 (k1 : Int)) :: (12, I6 (a1.length : Int)) :: (13, I6 (k1 : Int)) :: t)
  refine W.rt (e2 := z5 []) ?_
  refine W.seq ?_
  refine W.rg ?_
  let z6 := fun t => z5 ((16, l64 none a1) :: (17, I6 (k1 : Int)) :: (18, .ptr (.agg [I6 x1.f_0, I6 x1.f_1, I6 x1.f_2])) :: t)
  refine WO.pk 2 (if (0 : Int) ≤ (k1 : Int) then ((List.map e_arr3_Int a1)[Int.toNat (k1 : Int)]?).map AV.ptr else none) (v := .ptr (.agg [I6 x1.f_0, I6 x1.f_1, I6 x1.f_2])) (idx_nat (f := e_arr3_Int) hx1) (e1 := z6 []) ?_
  obtain ⟨e12, he12, h⟩ := bind_some h
  refine WO.pk 3 (if (0 : Int) ≤ (k1 : Int) then ((List.map e_arr3_Int a2)[Int.toNat (k1 : Int)]?).map AV.ptr else none) (v := .ptr (.agg [I6 e12.f_0, I6 e12.f_1, I6 e12.f_2])) (idx_av (f := e_arr3_Int) he12) (e1 := z6 [(19, .agg [I6 x1.f_0, I6 x1.f_1, I6 x1.f_2]), (20, l64 none a2), (21, I6 (k1 : Int)), (22, .ptr (.agg [I6 e12.f_0, I6 e12.f_1, I6 e12.f_2]))]) ?_
  refine WO.fn (e2 := z4 [(24, .bool (!((x1.f_0 == e12.f_0) && ((x1.f_1 == e12.f_1) && ((x1.f_2 == e12.f_2) && true)))))]) ?_
  refine W.cb (!((x1.f_0 == e12.f_0) && ((x1.f_1 == e12.f_1) && ((x1.f_2 == e12.f_2) && true)))) (fun hb => ?_) (fun hb => ?_)
  ·replace h := cond_t hb h
   refine W.seq ?_
   refine W.rt (e2 := [(4, .bool false)]) ?_
   refine W.wk (env' := [(4, .bool false)]) ?_
   have hr : aresults Try.prog Try.f47 [(4, .bool false)] = some (.bool false) := by kernel_rfl
   cases h
   exact W.ret hr
  replace h := cond_f hb h
  refine W.skip ?_
  refine W.wk (env' := z4 []) ?_
  refine W.rg ?_
  refine WO.pk 0 (some (I6 (IntKind.wrap .i64 ((k1 : Int) + 1)))) (v := I6 ((k1 + 1 : Nat) : Int)) (by rw [wrap_succ hl1 hk1]) (e1 := z4 [(25, I6 ((k1 + 1 : Nat) : Int))]) ?_
  refine WO.fn (e2 := z2 [(13, I6 ((k1 + 1 : Nat) : Int))]) ?_
  exact hN1 () h
def lw5_HistorySnapshots_j15 (v17 : Bool) : Option Bool :=
 (some v17)
def lw5_HistorySnapshots_j22 (v27 : Bool) : Option Bool :=
 (some v27)
def lw5_HistorySnapshots (fuel : Nat) (a1 : (List rf5Op)) : Option Bool :=
 ((lw5_of a1).bind fun w4 => ((hs_Snapshot fuel w4).bind fun w5 => ((lw5_of a1).bind fun w7 => ((hs_SnapshotOrder fuel w7).bind fun w8 => ((lw5_of a1).bind fun w10 => ((hs_Danger fuel w10).bind fun w11 => ((rf5_Valid a1).bind fun w14 => (bif (!w14) then (bif (!w5.1) then (bif ((IntKind.wrap .i64 ((w8.1.length : Int) + (w11.1.length : Int))) == 0) then (bif (w5.2 == 2) then (bif (w8.2 == 2) then (bif (w11.2 == 2) then ((lw5_awake fuel).bind fun w16 => ((lw5_HistorySnapshots_j15) w16)) else ((lw5_HistorySnapshots_j15) false)) else ((lw5_HistorySnapshots_j15) false)) else ((lw5_HistorySnapshots_j15) false)) else ((lw5_HistorySnapshots_j15) false)) else ((lw5_HistorySnapshots_j15) false)) else ((rf5_SnapshotOrder fuel a1).bind fun w19 => ((rf5_Danger fuel a1).bind fun w21 => ((rf5_Allowed fuel a1).bind fun w23 => (bif (w5.1 == w23) then (bif (w5.2 == 0) then ((sl_Equal_int w8.1 w19.1).bind fun w24 => (bif w24 then (bif (w8.2 == w19.2) then ((sl_Equal_3_int w11.1 w21.1).bind fun w25 => (bif w25 then (bif (w11.2 == w21.2) then ((lw5_awake fuel).bind fun w26 => ((lw5_HistorySnapshots_j22) w26)) else ((lw5_HistorySnapshots_j22) false)) else ((lw5_HistorySnapshots_j22) false))) else ((lw5_HistorySnapshots_j22) false)) else ((lw5_HistorySnapshots_j22) false))) else ((lw5_HistorySnapshots_j22) false)) else ((lw5_HistorySnapshots_j22) false)))))))))))))
theorem run_lw5_HistorySnapshots (fuel : Nat) (a1 : (List rf5Op)) (r : Bool) (h : lw5_HistorySnapshots fuel a1 = some r) : Run Try.prog (.call 14 [l43 none a1] (.bool r)) := by
 refine cW Try.func14 rfl (env0 := [(0, l43 none a1)]) ?_
 unfold lw5_HistorySnapshots at h
 refine W.seq ?_
 let z0 := fun t => EN ((0, l43 none a1) :: t)
 refine W.rt (e2 := z0 []) ?_
 refine W.seq ?_
 refine W.rg ?_
 obtain ⟨w4, hw4, h⟩ := bind_some h
 let z1 := fun t => z0 ((14, l43 none a1) :: (15, l44 (some 15) w4) :: t)
 refine WO.ck 1 (F := 18) (l := [l43 none a1]) (C := []) (r := l44 (some 1) w4) (run_lw5_of a1 w4 hw4) (e1 := z1 []) ?_
 obtain ⟨w5, hw5, h⟩ := bind_some h
 refine WO.ck 0 (F := 41) (l := [l44 none w4]) (C := []) (r := .tup [.bool w5.1, I6 w5.2]) (run_hs_Snapshot fuel w4 w5 hw5) (e1 := z1 [(16, .tup [.bool w5.1, I6 w5.2])]) ?_
 let z2 := fun t => z0 ((3, .bool w5.1) :: (4, I6 w5.2) :: t)
 refine WO.fn (e2 := z2 []) ?_
 refine W.seq ?_
 refine W.rg ?_
 obtain ⟨w7, hw7, h⟩ := bind_some h
 let z3 := fun t => z2 ((20, l43 none a1) :: (21, l44 (some 21) w7) :: t)
 refine WO.ck 1 (F := 18) (l := [l43 none a1]) (C := []) (r := l44 (some 1) w7) (run_lw5_of a1 w7 hw7) (e1 := z3 []) ?_
 obtain ⟨w8, hw8, h⟩ := bind_some h
 refine WO.ck 0 (F := 42) (l := [l44 none w7]) (C := []) (r := .tup [l3 none w8.1, I6 w8.2]) (run_hs_SnapshotOrder fuel w7 w8 hw8) (e1 := z3 [(22, .tup [l3 none w8.1, I6 w8.2])]) ?_
 let z4 := fun t => z2 ((5, l3 none w8.1) :: (6, I6 w8.2) :: t)
 refine WO.fn (e2 := z4 []) ?_
 refine W.seq ?_
 refine W.rg ?_
 obtain ⟨w10, hw10, h⟩ := bind_some h
 let z5 := fun t => z4 ((26, l43 none a1) :: (27, l44 (some 27) w10) :: t)
 refine WO.ck 1 (F := 18) (l := [l43 none a1]) (C := []) (r := l44 (some 1) w10) (run_lw5_of a1 w10 hw10) (e1 := z5 []) ?_
 obtain ⟨w11, hw11, h⟩ := bind_some h
 refine WO.ck 0 (F := 43) (l := [l44 none w10]) (C := []) (r := .tup [l64 none w11.1, I6 w11.2]) (run_hs_Danger fuel w10 w11 hw11) (e1 := z5 [(28, .tup [l64 none w11.1, I6 w11.2])]) ?_
 let z6 := fun t => z4 ((7, l64 none w11.1) :: (8, I6 w11.2) :: t)
 refine WO.fn (e2 := z6 []) ?_
 refine W.seq ?_
 refine W.seq ?_
 refine W.rg ?_
 obtain ⟨w14, hw14, h⟩ := bind_some h
 refine WO.ck 1 (F := 20) (l := [l43 none a1]) (C := []) (r := .bool w14) (run_rf5_Valid a1 w14 hw14) (e1 := z6 [(31, l43 none a1), (32, .bool w14)]) ?_
 let z7 := fun t => z6 ((33, .bool (!w14)) :: t)
 refine WO.fn (e2 := z7 []) ?_
 refine W.cb (!w14) (fun hb => ?_) (fun hb => ?_)
 ·replace h := cond_t hb h
  refine W.seq ?_
  refine W.join (σ := (Bool)) (fun s => [(2, .bool s)]) (fun s => (lw5_HistorySnapshots_j15) s = some r) (fun s h => ?_) (fun hK15 => ?_)
  ·obtain ⟨v17, rfl⟩ : ∃ x, x = s := ⟨s, rfl⟩
   have h : (lw5_HistorySnapshots_j15) v17 = some r := h
   unfold lw5_HistorySnapshots_j15 at h
   refine W.wk (env' := [(2, .bool v17)]) ?_
   have hr : aresults Try.prog Try.f14 [(2, .bool v17)] = some (.bool v17) := by kernel_rfl
   cases h
   exact W.ret hr
  refine W.rg ?_
  let z8 := fun t => z7 ((34, .bool w5.1) :: t)
  refine WO.bk 3 (fun b => z8 [(35, .bool b), (36, .bool b)]) (!w5.1) (fun hb => ?_) (fun hb => ?_)
  ·replace h := cond_t hb h
   let z9 := fun t => z8 ((35, .bool true) :: (36, .bool true) :: (37, l3 none w8.1) :: (38, I6 (w8.1.length : Int)) :: t)
   refine WO.pk 1 (some (I6 ((M6 w8.1).length : Int))) (v := I6 (w8.1.length : Int)) (by rw [List.length_map]) (e1 := z9 []) ?_
   let z10 := fun t => z9 ((39, l64 none w11.1) :: (40, I6 (w11.1.length : Int)) :: t)
   refine WO.pk 1 (some (I6 ((List.map e_arr3_Int w11.1).length : Int))) (v := I6 (w11.1.length : Int)) (by rw [List.length_map]) (e1 := z10 []) ?_
   let z11 := fun t => z10 ((41, I6 (W6 ((w8.1.length : Int) + (w11.1.length : Int)))) :: t)
   refine WO.bk 4 (fun b => z11 [(42, .bool b), (43, .bool b), (44, .bool b)]) ((W6 ((w8.1.length : Int) + (w11.1.length : Int))) == 0) (fun hb => ?_) (fun hb => ?_)
   ·replace h := cond_t hb h
    let z12 := fun t => z11 ((42, .bool true) :: (43, .bool true) :: (44, .bool true) :: (45, I6 w5.2) :: t)
    refine WO.bk 4 (fun b => z12 [(46, .bool b), (47, .bool b), (48, .bool b)]) (w5.2 == 2) (fun hb => ?_) (fun hb => ?_)
    ·replace h := cond_t hb h
     let z13 := fun t => z12 ((46, .bool true) :: (47, .bool true) :: (48, .bool true) :: (49, I6 w8.2) :: t)
     refine WO.bk 4 (fun b => z13 [(50, .bool b), (51, .bool b), (52, .bool b)]) (w8.2 == 2) (fun hb => ?_) (fun hb => ?_)
     ·replace h := cond_t hb h
      let z14 := fun t => z13 ((50, .bool true) :: (51, .bool true) :: (52, .bool true) :: (53, I6 w11.2) :: t)
      refine WO.bk 4 (fun b => z14 [(54, .bool b), (55, .bool b), (56, .bool b)]) (w11.2 == 2) (fun hb => ?_) (fun hb => ?_)
      ·replace h := cond_t hb h
       obtain ⟨w16, hw16, h⟩ := bind_some h
       refine WO.ck 0 (F := 21) (l := []) (C := []) (r := .bool w16) (run_lw5_awake fuel w16 hw16) (e1 := z14 [(54, .bool true), (55, .bool true), (56, .bool true), (57, .bool w16)]) ?_
       refine WO.fn (e2 := [(2, .bool w16)]) ?_
       exact hK15 w16 h
      replace h := cond_f hb h
      refine WO.fn (e2 := [(2, .bool false)]) ?_
      exact hK15 false h
     replace h := cond_f hb h
     refine WO.fn (e2 := [(2, .bool false)]) ?_
     exact hK15 false h
    replace h := cond_f hb h
    refine WO.fn (e2 := [(2, .bool false)]) ?_
    exact hK15 false h
   replace h := cond_f hb h
   refine WO.fn (e2 := [(2, .bool false)]) ?_
   exact hK15 false h
  replace h := cond_f hb h
  refine WO.fn (e2 := [(2, .bool false)]) ?_
  exact hK15 false h
 replace h := cond_f hb h
 refine W.skip ?_
 refine W.wk (env' := z6 []) ?_
 refine W.seq ?_
 refine W.rg ?_
 obtain ⟨w19, hw19, h⟩ := bind_some h
 refine WO.ck 1 (F := 44) (l := [l43 none a1]) (C := []) (r := .tup [l3 none w19.1, I6 w19.2]) (run_rf5_SnapshotOrder fuel a1 w19 hw19) (e1 := z6 [(60, l43 none a1), (61, .tup [l3 none w19.1, I6 w19.2])]) ?_
 let z15 := fun t => z6 ((9, l3 none w19.1) :: (10, I6 w19.2) :: t)
 refine WO.fn (e2 := z15 []) ?_
 refine W.seq ?_
 refine W.rg ?_
 obtain ⟨w21, hw21, h⟩ := bind_some h
 refine WO.ck 1 (F := 45) (l := [l43 none a1]) (C := []) (r := .tup [l64 none w21.1, I6 w21.2]) (run_rf5_Danger fuel a1 w21 hw21) (e1 := z15 [(65, l43 none a1), (66, .tup [l64 none w21.1, I6 w21.2])]) ?_
 let z16 := fun t => z15 ((11, l64 none w21.1) :: (12, I6 w21.2) :: t)
 refine WO.fn (e2 := z16 []) ?_
 refine W.seq ?_
 refine W.join (σ := (Bool)) (fun s => [(2, .bool s)]) (fun s => (lw5_HistorySnapshots_j22) s = some r) (fun s h => ?_) (fun hK22 => ?_)
 ·obtain ⟨v27, rfl⟩ : ∃ x, x = s := ⟨s, rfl⟩
  have h : (lw5_HistorySnapshots_j22) v27 = some r := h
  unfold lw5_HistorySnapshots_j22 at h
  refine W.wk (env' := [(2, .bool v27)]) ?_
  have hr : aresults Try.prog Try.f14 [(2, .bool v27)] = some (.bool v27) := by kernel_rfl
  cases h
  exact W.ret hr
 refine W.rg ?_
 obtain ⟨w23, hw23, h⟩ := bind_some h
 let z17 := fun t => z16 ((69, .bool w5.1) :: (70, l43 none a1) :: (71, .bool w23) :: t)
 refine WO.ck 2 (F := 46) (l := [l43 none a1]) (C := []) (r := .bool w23) (run_rf5_Allowed fuel a1 w23 hw23) (e1 := z17 []) ?_
 refine WO.bk 2 (fun b => z17 [(72, .bool b), (73, .bool b)]) (w5.1 == w23) (fun hb => ?_) (fun hb => ?_)
 ·replace h := cond_t hb h
  let z18 := fun t => z17 ((72, .bool true) :: (73, .bool true) :: (74, I6 w5.2) :: t)
  refine WO.bk 4 (fun b => z18 [(75, .bool b), (76, .bool b), (77, .bool b)]) (w5.2 == 0) (fun hb => ?_) (fun hb => ?_)
  ·replace h := cond_t hb h
   obtain ⟨w24, hw24, h⟩ := bind_some h
   let z19 := fun t => z18 ((75, .bool true) :: (76, .bool true) :: (77, .bool true) :: (78, l3 none w8.1) :: (79, l3 none w19.1) :: t)
   refine WO.ck 2 (F := 24) (l := [l3 none w8.1, l3 none w19.1]) (C := []) (r := .bool w24) (run_sl_Equal_int w8.1 w19.1 w24 hw24) (e1 := z19 [(80, .bool w24)]) ?_
   refine WO.bk 2 (fun b => z19 [(80, .bool b), (81, .bool b), (82, .bool b)]) w24 (fun hb => ?_) (fun hb => ?_)
   ·replace h := cond_t hb h
    let z20 := fun t => z19 ((80, .bool true) :: (81, .bool true) :: (82, .bool true) :: (83, I6 w8.2) :: (84, I6 w19.2) :: t)
    refine WO.bk 5 (fun b => z20 [(85, .bool b), (86, .bool b), (87, .bool b)]) (w8.2 == w19.2) (fun hb => ?_) (fun hb => ?_)
    ·replace h := cond_t hb h
     obtain ⟨w25, hw25, h⟩ := bind_some h
     let z21 := fun t => z20 ((85, .bool true) :: (86, .bool true) :: (87, .bool true) :: (88, l64 none w11.1) :: (89, l64 none w21.1) :: t)
     refine WO.ck 2 (F := 47) (l := [l64 none w11.1, l64 none w21.1]) (C := []) (r := .bool w25) (run_sl_Equal_3_int w11.1 w21.1 w25 hw25) (e1 := z21 [(90, .bool w25)]) ?_
     refine WO.bk 2 (fun b => z21 [(90, .bool b), (91, .bool b), (92, .bool b)]) w25 (fun hb => ?_) (fun hb => ?_)
     ·replace h := cond_t hb h
      let z22 := fun t => z21 ((90, .bool true) :: (91, .bool true) :: (92, .bool true) :: (93, I6 w11.2) :: (94, I6 w21.2) :: t)
      refine WO.bk 5 (fun b => z22 [(95, .bool b), (96, .bool b), (97, .bool b)]) (w11.2 == w21.2) (fun hb => ?_) (fun hb => ?_)
      ·replace h := cond_t hb h
       obtain ⟨w26, hw26, h⟩ := bind_some h
       refine WO.ck 0 (F := 21) (l := []) (C := []) (r := .bool w26) (run_lw5_awake fuel w26 hw26) (e1 := z22 [(95, .bool true), (96, .bool true), (97, .bool true), (98, .bool w26)]) ?_
       refine WO.fn (e2 := [(2, .bool w26)]) ?_
       exact hK22 w26 h
      replace h := cond_f hb h
      refine WO.fn (e2 := [(2, .bool false)]) ?_
      exact hK22 false h
     replace h := cond_f hb h
     refine WO.fn (e2 := [(2, .bool false)]) ?_
     exact hK22 false h
    replace h := cond_f hb h
    refine WO.fn (e2 := [(2, .bool false)]) ?_
    exact hK22 false h
   replace h := cond_f hb h
   refine WO.fn (e2 := [(2, .bool false)]) ?_
   exact hK22 false h
  replace h := cond_f hb h
  refine WO.fn (e2 := [(2, .bool false)]) ?_
  exact hK22 false h
 replace h := cond_f hb h
 refine WO.fn (e2 := [(2, .bool false)]) ?_
 exact hK22 false h
end Go.AM
