/- s -/
import Derived.Test.YtoiejpkfpjingaaAWq
import Derived.Test.YtoiejpkfpjingaaChecked
import Derived.Test.YtoiejpkfpjingaaAArr
import Derived.Test.YtoiejpkfpjingaaEDan
set_option maxRecDepth 100000
set_option linter.unusedVariables false
set_option linter.unusedSimpArgs false
namespace Go.AM
open Go.Proofs
def l24 (c : Option Nat) (l : List (List Int)) : AV := .lst 24 1 c (List.map (encL 3 1 (AV.int .i64)) l)
end Go.AM
namespace Go.AM
open Go.Proofs
def rf5_end_j5 : Option Int :=
 (some (-1))
def rf5_end_j9 (k1 : Nat) (N1 : (Option Int)) (v10 : Bool) : Option Int :=
 (bif v10 then (some (k1 : Int)) else N1)
def rf5_end_l1 (a2 : Int) (a3 : Int) (K5 : (Option Int)) : List rf5Op → Nat → Option Int
 | [], k1 => K5
 | x1 :: r1, k1 => (bif (x1.f_Txn == a2) then ((rf5_end_j9 k1 (rf5_end_l1 a2 a3 K5 r1 (k1 + 1))) (x1.f_Kind == a3)) else ((rf5_end_j9 k1 (rf5_end_l1 a2 a3 K5 r1 (k1 + 1))) false))
def rf5_end (a1 : (List rf5Op)) (a2 : Int) (a3 : Int) : Option Int :=
 (chk (lenOk a1) (rf5_end_l1 a2 a3 (rf5_end_j5) a1 0))
theorem run_rf5_end (a1 : (List rf5Op)) (a2 : Int) (a3 : Int) (r : Int) (h : rf5_end a1 a2 a3 = some r) : Run Try.prog (.call 61 [l43 none a1, I6 a2, I6 a3] (I6 r)) := by
 refine cW Try.func61 rfl (env0 := [(0, l43 none a1), (1, I6 a2), (2, I6 a3)]) ?_
 unfold rf5_end at h
 refine W.seq ?_
 refine W.rt (e2 := [(0, l43 none a1), (1, I6 a2), (2, I6 a3)]) ?_
 refine W.seq ?_
 refine W.join (σ := Unit) (fun s => []) (fun s => (rf5_end_j5) = some r) (fun s h => ?_) (fun hK5 => ?_)
 ·have h : (rf5_end_j5) = some r := h
  unfold rf5_end_j5 at h
  refine W.seq ?_
  refine W.rt (e2 := [(6, I6 (-1))]) ?_
  refine W.wk (env' := [(6, I6 (-1))]) ?_
  have hr : aresults Try.prog Try.f61 [(6, I6 (-1))] = some (I6 (-1)) := by kernel_rfl
  cases h
  exact W.ret hr
 refine W.seq ?_
 refine W.rg ?_
 refine WO.pk 1 (some (I6 ((List.map e_rf5Op a1).length : Int))) (v := I6 (a1.length : Int)) (by rw [List.length_map]) (e1 := [(0, l43 none a1), (1, I6 a2), (2, I6 a3), (9, l43 none a1), (10, I6 (a1.length : Int))]) ?_
 let z0 := fun t => EN ((1, I6 a2) :: (2, I6 a3) :: (9, l43 none a1) :: (10, I6 (a1.length : Int)) :: t)
 refine WO.fn (e2 := z0 [(11, .int .i64 0)]) ?_
 refine W.block ?_
 obtain ⟨hl1, h⟩ := chk_some h
 refine W.wk (env' := z0 [(11, I6 ((0 : Nat) : Int))]) ?_
 refine W.range (σ := Unit) a1 (fun k1 s => z0 [(11, I6 (k1 : Int))]) (fun r0 k0 s => rf5_end_l1 a2 a3 (rf5_end_j5) r0 k0 = some r) (fun s h => ?_) (fun x1 r1 k1 s hx1 hk1 h hN1 => ?_) () h
 ·have h : rf5_end_l1 a2 a3 (rf5_end_j5) [] (a1).length = some r := h
  rw [rf5_end_l1.eq_1] at h
  refine W.seq ?_
  refine W.rg ?_
  let z1 := fun t => z0 ((11, I6 ((a1).length : Int)) :: (12, .bool false) :: t)
  refine WO.pk 0 (some (.bool (decide (((a1).length : Int) < (a1.length : Int))))) (v := .bool false) (by rw [lt_false (l := a1)]) (e1 := z1 []) ?_
  refine WO.fn (e2 := z1 []) ?_
  refine W.seq ?_
  refine W.cb false (fun h => Bool.noConfusion h) (fun _ => ?_)
  refine W.exit ?_
  refine W.wk (env' := []) ?_
  exact hK5 () h
 ·have h : rf5_end_l1 a2 a3 (rf5_end_j5) (x1 :: r1) k1 = some r := h
  rw [rf5_end_l1.eq_2] at h
  refine W.seq ?_
  refine W.rg ?_
  let z2 := fun t => z0 ((11, I6 (k1 : Int)) :: t)
  refine WO.pk 0 (some (.bool (decide ((k1 : Int) < (a1.length : Int))))) (v := .bool true) (by rw [lt_true hk1]) (e1 := z2 [(12, .bool true)]) ?_
  refine WO.fn (e2 := z2 [(12, .bool true)]) ?_
  refine W.seq ?_
  refine W.cb true (fun _ => ?_) (fun h => Bool.noConfusion h)
  refine W.skip ?_
  refine W.wk (env' := z2 []) ?_
  refine W.seq ?_
  refine W.block ?_
  refine W.seq ?_
  refine W.rg ?_
  refine WO.pk 1 (if (0 : Int) ≤ (k1 : Int) then ((List.map e_rf5Op a1)[Int.toNat (k1 : Int)]?).map AV.ptr else none) (v := .ptr (.agg [I6 x1.f_Txn, I6 x1.f_Kind, I6 x1.f_Item])) (idx_nat (f := e_rf5Op) hx1) (e1 := z2 [(13, I6 (k1 : Int)), (14, .ptr (.agg [I6 x1.f_Txn, I6 x1.f_Kind, I6 x1.f_Item]))]) ?_
  let z3 := fun t => EN ((1, I6 a2) :: (2, I6 a3) :: (7, I6 (k1 : Int)) :: (8, .ptr (.agg [I6 x1.f_Txn, I6 x1.f_Kind, I6 x1.f_Item])) :: (9, l43 none a1) :: (10, I6 (a1.length : Int)) :: (11, I6 (k1 : Int)) :: t)
  refine WO.fin [1, 2, 7, 8, 9, 10, 11] [8] [] [] (e2 := z3 []) (by kernel_rfl) (fun _ h => h) ?_
  refine W.seq ?_
  let z4 := fun t => EN ((1, I6 a2) :: (2, I6 a3) :: (7, I6 (k1 : Int)) :: (9, l43 none a1) :: (10, I6 (a1.length : Int)) :: (11, I6 (k1 : Int)) :: t)
  refine W.join (σ := (Bool)) (fun s => z4 [(25, .bool s)]) (fun s => (rf5_end_j9 k1 (rf5_end_l1 a2 a3 (rf5_end_j5) r1 (k1 + 1))) s = some r) (fun s h => ?_) (fun hK9 => ?_)
  ·obtain ⟨v10, rfl⟩ : ∃ x, x = s := ⟨s, rfl⟩
   have h : (rf5_end_j9 k1 (rf5_end_l1 a2 a3 (rf5_end_j5) r1 (k1 + 1))) v10 = some r := h
   unfold rf5_end_j9 at h
   refine W.cb v10 (fun hb => ?_) (fun hb => ?_)
   ·replace h := cond_t hb h
    refine W.seq ?_
    refine W.rt (e2 := [(6, I6 (k1 : Int))]) ?_
    refine W.wk (env' := [(6, I6 (k1 : Int))]) ?_
    have hr : aresults Try.prog Try.f61 [(6, I6 (k1 : Int))] = some (I6 (k1 : Int)) := by kernel_rfl
    cases h
    exact W.ret hr
   replace h := cond_f hb h
   refine W.skip ?_
   refine W.wk (env' := z2 []) ?_
   refine W.rg ?_
   refine WO.pk 0 (some (I6 (IntKind.wrap .i64 ((k1 : Int) + 1)))) (v := I6 ((k1 + 1 : Nat) : Int)) (by rw [wrap_succ hl1 hk1]) (e1 := z2 [(27, I6 ((k1 + 1 : Nat) : Int))]) ?_
   refine WO.fn (e2 := z0 [(11, I6 ((k1 + 1 : Nat) : Int))]) ?_
   exact hN1 () h
  refine W.rg ?_
  refine WO.bk 5 (fun b => z3 [(16, .ptr (I6 x1.f_Txn)), (17, I6 x1.f_Txn), (18, I6 a2), (19, .bool b), (20, .bool b)]) (x1.f_Txn == a2) (fun hb => ?_) (fun hb => ?_)
  ·replace h := cond_t hb h
   refine WO.fn (e2 := z4 [(25, .bool (x1.f_Kind == a3))]) ?_
   exact hK9 (x1.f_Kind == a3) h
  replace h := cond_f hb h
  refine WO.fn (e2 := z4 [(25, .bool false)]) ?_
  exact hK9 false h
def rf5_committed_j4 (v15 : (List Int)) : Option (List Int) :=
 (some v15)
def rf5_committed_j10 (v7 : Int) (N1 : ((List Int) → Int → Option (List Int))) (v14 : (List Int)) : Option (List Int) :=
 (N1 v14 (IntKind.wrap .i64 (v7 + 1)))
def rf5_committed_l1 (a1 : (List rf5Op)) (K4 : ((List Int) → Option (List Int))) : Nat → (List Int) → Int → Option (List Int)
 | 0, _, _ => none
 | m1 + 1, v6, v7 => (bif (decide (v7 ≤ 6)) then ((rf5_end a1 v7 2).bind fun w12 => (bif (decide (w12 ≥ 0)) then (chk (capOk 8 ((v6 ++ [v7])).length) ((rf5_committed_j10 v7 (rf5_committed_l1 a1 K4 m1)) (v6 ++ [v7]))) else ((rf5_committed_j10 v7 (rf5_committed_l1 a1 K4 m1)) v6))) else (K4 v6))
def rf5_committed (fuel : Nat) (a1 : (List rf5Op)) : Option (List Int) :=
 (rf5_committed_l1 a1 (rf5_committed_j4) fuel ([] : (List Int)) 1)
theorem run_rf5_committed (fuel : Nat) (a1 : (List rf5Op)) (r : (List Int)) (h : rf5_committed fuel a1 = some r) : Run Try.prog (.call 57 [l43 none a1] (l3 (some 1) r)) := by
 refine cW Try.func57 rfl (env0 := [(0, l43 none a1)]) ?_
 unfold rf5_committed at h
 refine W.seq ?_
 let z0 := fun t => EN ((0, l43 none a1) :: t)
 refine W.rt (e2 := z0 []) ?_
 refine W.seq ?_
 refine W.rt (e2 := z0 [(3, .nils)]) ?_
 refine W.seq ?_
 refine W.join (σ := ((List Int))) (fun s => [(3, l3 (some 10300) s)]) (fun s => (rf5_committed_j4) s = some r) (fun s h => ?_) (fun hK4 => ?_)
 ·obtain ⟨v15, rfl⟩ : ∃ x, x = s := ⟨s, rfl⟩
  have h : (rf5_committed_j4) v15 = some r := h
  unfold rf5_committed_j4 at h
  refine W.seq ?_
  refine W.rt (e2 := [(2, l3 (some 10300) v15)]) ?_
  refine W.weak [2] [] [] [(10300, some 1)] (env' := [(2, l3 (some 1) v15)]) (by kernel_rfl) ?_
  have hr : aresults Try.prog Try.f57 [(2, l3 (some 1) v15)] = some (l3 (some 1) v15) := by kernel_rfl
  cases h
  exact W.ret hr
 refine W.seq ?_
 refine W.rt (e2 := z0 [(3, .nils), (4, .int .i64 1)]) ?_
 refine W.block ?_
 refine W.weak [0, 3, 4] [] [(3, 0, 3, 1, 10300)] [] (env' := z0 [(3, l3 (some 10300) ([] : (List Int))), (4, .int .i64 1)]) (by kernel_rfl) ?_
 refine W.fuel (σ := ((List Int) × Int)) (fun s => z0 [(3, l3 (some 10300) s.1), (4, I6 s.2)]) (fun m0 s => rf5_committed_l1 a1 (rf5_committed_j4) m0 s.1 s.2 = some r) (fun s h => ?_) (fun m1 s h hN1 => ?_) fuel (([] : (List Int)), 1) h
 ·obtain ⟨v6, v7⟩ := s
  have h : rf5_committed_l1 a1 (rf5_committed_j4) 0 v6 v7 = some r := h
  rw [rf5_committed_l1.eq_1] at h
  cases h
 ·obtain ⟨v6, v7⟩ := s
  have h : rf5_committed_l1 a1 (rf5_committed_j4) (m1 + 1) v6 v7 = some r := h
  rw [rf5_committed_l1.eq_2] at h
  refine W.seq ?_
  refine W.seq ?_
  let z1 := fun t => z0 ((3, l3 (some 10300) v6) :: (4, I6 v7) :: t)
  refine W.rt (e2 := z1 [(6, .bool (decide (v7 ≤ 6)))]) ?_
  refine W.cb (decide (v7 ≤ 6)) (fun hb => ?_) (fun hb => ?_)
  ·replace h := cond_t hb h
   refine W.skip ?_
   refine W.wk (env' := z1 []) ?_
   refine W.seq ?_
   refine W.join (σ := ((List Int))) (fun s => z0 [(3, l3 (some 10300) s), (4, I6 v7)]) (fun s => (rf5_committed_j10 v7 (rf5_committed_l1 a1 (rf5_committed_j4) m1)) s = some r) (fun s h => ?_) (fun hK10 => ?_)
   ·obtain ⟨v14, rfl⟩ : ∃ x, x = s := ⟨s, rfl⟩
    have h : (rf5_committed_j10 v7 (rf5_committed_l1 a1 (rf5_committed_j4) m1)) v14 = some r := h
    unfold rf5_committed_j10 at h
    refine W.rt (e2 := z0 [(3, l3 (some 10300) v14), (4, I6 (W6 (v7 + 1)))]) ?_
    exact hN1 (v14, (W6 (v7 + 1))) h
   refine W.block ?_
   refine W.seq ?_
   refine W.rg ?_
   obtain ⟨w12, hw12, h⟩ := bind_some h
   refine WO.ck 2 (F := 61) (l := [l43 none a1, I6 v7, .int .i64 2]) (C := []) (r := I6 w12) (run_rf5_end a1 v7 2 w12 hw12) (e1 := z1 [(9, l43 none a1), (10, I6 v7), (11, I6 w12)]) ?_
   refine WO.fn (e2 := z1 [(12, .bool (decide (w12 ≥ 0)))]) ?_
   refine W.cb (decide (w12 ≥ 0)) (fun hb => ?_) (fun hb => ?_)
   ·replace h := cond_t hb h
    refine W.rg ?_
    obtain ⟨hc13, h⟩ := chk_some h
    refine WO.appendK 3 (d := 16) (e := 3) (s := 1) (bytes := 8) (xs := (M6 v6)) (ys := (M6 [v7])) (zs := (M6 (v6 ++ [v7]))) (env1 := [(0, l43 none a1), (3, l3 none v6), (4, I6 v7), (12, .bool (decide (w12 ≥ 0))), (13, l3 none v6), (14, I6 v7), (15, l3 (some 15) [v7])]) (by kernel_rfl) (List.map_append.symm) (by rw [List.length_map]; exact hc13) (e1 := z0 [(3, l3 none v6), (4, I6 v7), (12, .bool (decide (w12 ≥ 0))), (13, l3 none v6), (14, I6 v7), (15, l3 (some 15) [v7]), (16, l3 (some 16) (v6 ++ [v7]))]) (by kernel_rfl) ?_
    refine WO.fin [0, 3, 4] [] [] [(16, some 10300)] (e2 := z0 [(3, l3 (some 10300) (v6 ++ [v7])), (4, I6 v7)]) (by kernel_rfl) (fun _ h => h) ?_
    exact hK10 (v6 ++ [v7]) h
   replace h := cond_f hb h
   refine W.skip ?_
   refine W.wk (env' := z1 []) ?_
   exact hK10 v6 h
  replace h := cond_f hb h
  refine W.exit ?_
  refine W.wk (env' := [(3, l3 (some 10300) v6)]) ?_
  exact hK4 v6 h
def rf5_begin_j5 (v10 : Int) : Option Int :=
 (some v10)
def rf5_begin_l1 (a1 : (List rf5Op)) (a2 : Int) (K5 : (Int → Option Int)) : Nat → Int → Option Int
 | 0, _ => none
 | m1 + 1, v6 => ((idx a1 v6).bind fun e9 => (bif (e9.f_Txn != a2) then ((rf5_begin_l1 a1 a2 K5 m1) (IntKind.wrap .i64 (v6 + 1))) else (K5 v6)))
def rf5_begin (fuel : Nat) (a1 : (List rf5Op)) (a2 : Int) : Option Int :=
 (rf5_begin_l1 a1 a2 (rf5_begin_j5) fuel 0)
theorem run_rf5_begin (fuel : Nat) (a1 : (List rf5Op)) (a2 : Int) (r : Int) (h : rf5_begin fuel a1 a2 = some r) : Run Try.prog (.call 111 [l43 none a1, I6 a2] (I6 r)) := by
 refine cW Try.func111 rfl (env0 := [(0, l43 none a1), (1, I6 a2)]) ?_
 unfold rf5_begin at h
 refine W.seq ?_
 let z0 := fun t => EN ((0, l43 none a1) :: (1, I6 a2) :: t)
 refine W.rt (e2 := z0 []) ?_
 refine W.seq ?_
 refine W.rt (e2 := z0 [(5, .int .i64 0)]) ?_
 refine W.seq ?_
 refine W.join (σ := (Int)) (fun s => [(5, I6 s)]) (fun s => (rf5_begin_j5) s = some r) (fun s h => ?_) (fun hK5 => ?_)
 ·obtain ⟨v10, rfl⟩ : ∃ x, x = s := ⟨s, rfl⟩
  have h : (rf5_begin_j5) v10 = some r := h
  unfold rf5_begin_j5 at h
  refine W.seq ?_
  refine W.rt (e2 := [(4, I6 v10)]) ?_
  refine W.wk (env' := [(4, I6 v10)]) ?_
  have hr : aresults Try.prog Try.f111 [(4, I6 v10)] = some (I6 v10) := by kernel_rfl
  cases h
  exact W.ret hr
 refine W.block ?_
 refine W.wk (env' := z0 [(5, .int .i64 0)]) ?_
 refine W.fuel (σ := (Int)) (fun s => z0 [(5, I6 s)]) (fun m0 s => rf5_begin_l1 a1 a2 (rf5_begin_j5) m0 s = some r) (fun s h => ?_) (fun m1 s h hN1 => ?_) fuel 0 h
 ·obtain ⟨v6, rfl⟩ : ∃ x, x = s := ⟨s, rfl⟩
  have h : rf5_begin_l1 a1 a2 (rf5_begin_j5) 0 v6 = some r := h
  rw [rf5_begin_l1.eq_1] at h
  cases h
 ·obtain ⟨v6, rfl⟩ : ∃ x, x = s := ⟨s, rfl⟩
  have h : rf5_begin_l1 a1 a2 (rf5_begin_j5) (m1 + 1) v6 = some r := h
  rw [rf5_begin_l1.eq_2] at h
  refine W.seq ?_
  refine W.seq ?_
  refine W.rg ?_
  obtain ⟨e9, he9, h⟩ := bind_some h
  refine WO.pk 2 (if (0 : Int) ≤ v6 then ((List.map e_rf5Op a1)[Int.toNat v6]?).map AV.ptr else none) (v := .ptr (.agg [I6 e9.f_Txn, I6 e9.f_Kind, I6 e9.f_Item])) (idx_av (f := e_rf5Op) he9) (e1 := z0 [(5, I6 v6), (6, l43 none a1), (7, I6 v6), (8, .ptr (.agg [I6 e9.f_Txn, I6 e9.f_Kind, I6 e9.f_Item]))]) ?_
  refine WO.fn (e2 := z0 [(5, I6 v6), (12, .bool (e9.f_Txn != a2))]) ?_
  refine W.cb (e9.f_Txn != a2) (fun hb => ?_) (fun hb => ?_)
  ·replace h := cond_t hb h
   refine W.skip ?_
   refine W.wk (env' := z0 [(5, I6 v6)]) ?_
   refine W.block ?_
   refine W.rt (e2 := z0 [(5, I6 (W6 (v6 + 1)))]) ?_
   exact hN1 (W6 (v6 + 1)) h
  replace h := cond_f hb h
  refine W.exit ?_
  refine W.wk (env' := [(5, I6 v6)]) ?_
  exact hK5 v6 h
def rf5_overlap_j5 (v10 : Bool) : Option Bool :=
 (some v10)
def rf5_overlap (fuel : Nat) (a1 : (List rf5Op)) (a2 : Int) (a3 : Int) : Option Bool :=
 ((rf5_begin fuel a1 a2).bind fun w6 => ((rf5_end a1 a3 2).bind fun w7 => (bif (decide (w6 < w7)) then ((rf5_begin fuel a1 a3).bind fun w8 => ((rf5_end a1 a2 2).bind fun w9 => ((rf5_overlap_j5) (decide (w8 < w9))))) else ((rf5_overlap_j5) false))))
theorem run_rf5_overlap (fuel : Nat) (a1 : (List rf5Op)) (a2 : Int) (a3 : Int) (r : Bool) (h : rf5_overlap fuel a1 a2 a3 = some r) : Run Try.prog (.call 86 [l43 none a1, I6 a2, I6 a3] (.bool r)) := by
 refine cW Try.func86 rfl (env0 := [(0, l43 none a1), (1, I6 a2), (2, I6 a3)]) ?_
 unfold rf5_overlap at h
 refine W.seq ?_
 let z0 := fun t => EN ((0, l43 none a1) :: (1, I6 a2) :: (2, I6 a3) :: t)
 refine W.rt (e2 := z0 []) ?_
 refine W.seq ?_
 refine W.join (σ := (Bool)) (fun s => [(6, .bool s)]) (fun s => (rf5_overlap_j5) s = some r) (fun s h => ?_) (fun hK5 => ?_)
 ·obtain ⟨v10, rfl⟩ : ∃ x, x = s := ⟨s, rfl⟩
  have h : (rf5_overlap_j5) v10 = some r := h
  unfold rf5_overlap_j5 at h
  refine W.wk (env' := [(6, .bool v10)]) ?_
  have hr : aresults Try.prog Try.f86 [(6, .bool v10)] = some (.bool v10) := by kernel_rfl
  cases h
  exact W.ret hr
 refine W.rg ?_
 obtain ⟨w6, hw6, h⟩ := bind_some h
 let z1 := fun t => z0 ((7, l43 none a1) :: (8, I6 a2) :: (9, I6 w6) :: t)
 refine WO.ck 2 (F := 111) (l := [l43 none a1, I6 a2]) (C := []) (r := I6 w6) (run_rf5_begin fuel a1 a2 w6 hw6) (e1 := z1 []) ?_
 obtain ⟨w7, hw7, h⟩ := bind_some h
 let z2 := fun t => z1 ((10, l43 none a1) :: (11, I6 a3) :: (12, I6 w7) :: t)
 refine WO.ck 2 (F := 61) (l := [l43 none a1, I6 a3, .int .i64 2]) (C := []) (r := I6 w7) (run_rf5_end a1 a3 2 w7 hw7) (e1 := z2 []) ?_
 refine WO.bk 2 (fun b => z2 [(13, .bool b), (14, .bool b)]) (decide (w6 < w7)) (fun hb => ?_) (fun hb => ?_)
 ·replace h := cond_t hb h
  obtain ⟨w8, hw8, h⟩ := bind_some h
  let z3 := fun t => z2 ((13, .bool true) :: (14, .bool true) :: (15, l43 none a1) :: (16, I6 a3) :: (17, I6 w8) :: t)
  refine WO.ck 2 (F := 111) (l := [l43 none a1, I6 a3]) (C := []) (r := I6 w8) (run_rf5_begin fuel a1 a3 w8 hw8) (e1 := z3 []) ?_
  obtain ⟨w9, hw9, h⟩ := bind_some h
  refine WO.ck 2 (F := 61) (l := [l43 none a1, I6 a2, .int .i64 2]) (C := []) (r := I6 w9) (run_rf5_end a1 a2 2 w9 hw9) (e1 := z3 [(18, l43 none a1), (19, I6 a2), (20, I6 w9)]) ?_
  refine WO.fn (e2 := [(6, .bool (decide (w8 < w9)))]) ?_
  exact hK5 (decide (w8 < w9)) h
 replace h := cond_f hb h
 refine WO.fn (e2 := [(6, .bool false)]) ?_
 exact hK5 false h
def rf5_writes_j5 : Option Bool :=
 (some false)
def rf5_writes_j9 (N1 : (Option Bool)) (v10 : Bool) : Option Bool :=
 (bif v10 then (some true) else N1)
def rf5_writes_l1 (a2 : Int) (a3 : Int) (K5 : (Option Bool)) : List rf5Op → Nat → Option Bool
 | [], k1 => K5
 | x1 :: r1, k1 => (bif (x1.f_Txn == a2) then (bif (x1.f_Kind == 1) then ((rf5_writes_j9 (rf5_writes_l1 a2 a3 K5 r1 (k1 + 1))) (x1.f_Item == a3)) else ((rf5_writes_j9 (rf5_writes_l1 a2 a3 K5 r1 (k1 + 1))) false)) else ((rf5_writes_j9 (rf5_writes_l1 a2 a3 K5 r1 (k1 + 1))) false))
def rf5_writes (a1 : (List rf5Op)) (a2 : Int) (a3 : Int) : Option Bool :=
 (chk (lenOk a1) (rf5_writes_l1 a2 a3 (rf5_writes_j5) a1 0))
theorem run_rf5_writes (a1 : (List rf5Op)) (a2 : Int) (a3 : Int) (r : Bool) (h : rf5_writes a1 a2 a3 = some r) : Run Try.prog (.call 87 [l43 none a1, I6 a2, I6 a3] (.bool r)) := by
 refine cW Try.func87 rfl (env0 := [(0, l43 none a1), (1, I6 a2), (2, I6 a3)]) ?_
 unfold rf5_writes at h
 refine W.seq ?_
 refine W.rt (e2 := [(0, l43 none a1), (1, I6 a2), (2, I6 a3)]) ?_
 refine W.seq ?_
 refine W.join (σ := Unit) (fun s => []) (fun s => (rf5_writes_j5) = some r) (fun s h => ?_) (fun hK5 => ?_)
 ·have h : (rf5_writes_j5) = some r := h
  unfold rf5_writes_j5 at h
  refine W.seq ?_
  refine W.rt (e2 := [(6, .bool false)]) ?_
  refine W.wk (env' := [(6, .bool false)]) ?_
  have hr : aresults Try.prog Try.f87 [(6, .bool false)] = some (.bool false) := by kernel_rfl
  cases h
  exact W.ret hr
 refine W.seq ?_
 refine W.rg ?_
 refine WO.pk 1 (some (I6 ((List.map e_rf5Op a1).length : Int))) (v := I6 (a1.length : Int)) (by rw [List.length_map]) (e1 := [(0, l43 none a1), (1, I6 a2), (2, I6 a3), (9, l43 none a1), (10, I6 (a1.length : Int))]) ?_
 let z0 := fun t => EN ((1, I6 a2) :: (2, I6 a3) :: (9, l43 none a1) :: (10, I6 (a1.length : Int)) :: t)
 refine WO.fn (e2 := z0 [(11, .int .i64 0)]) ?_
 refine W.block ?_
 obtain ⟨hl1, h⟩ := chk_some h
 refine W.wk (env' := z0 [(11, I6 ((0 : Nat) : Int))]) ?_
 refine W.range (σ := Unit) a1 (fun k1 s => z0 [(11, I6 (k1 : Int))]) (fun r0 k0 s => rf5_writes_l1 a2 a3 (rf5_writes_j5) r0 k0 = some r) (fun s h => ?_) (fun x1 r1 k1 s hx1 hk1 h hN1 => ?_) () h
 ·have h : rf5_writes_l1 a2 a3 (rf5_writes_j5) [] (a1).length = some r := h
  rw [rf5_writes_l1.eq_1] at h
  refine W.seq ?_
  refine W.rg ?_
  let z1 := fun t => z0 ((11, I6 ((a1).length : Int)) :: (12, .bool false) :: t)
  refine WO.pk 0 (some (.bool (decide (((a1).length : Int) < (a1.length : Int))))) (v := .bool false) (by rw [lt_false (l := a1)]) (e1 := z1 []) ?_
  refine WO.fn (e2 := z1 []) ?_
  refine W.seq ?_
  refine W.cb false (fun h => Bool.noConfusion h) (fun _ => ?_)
  refine W.exit ?_
  refine W.wk (env' := []) ?_
  exact hK5 () h
 ·have h : rf5_writes_l1 a2 a3 (rf5_writes_j5) (x1 :: r1) k1 = some r := h
  rw [rf5_writes_l1.eq_2] at h
  refine W.seq ?_
  refine W.rg ?_
  let z2 := fun t => z0 ((11, I6 (k1 : Int)) :: t)
  refine WO.pk 0 (some (.bool (decide ((k1 : Int) < (a1.length : Int))))) (v := .bool true) (by rw [lt_true hk1]) (e1 := z2 [(12, .bool true)]) ?_
  refine WO.fn (e2 := z2 [(12, .bool true)]) ?_
  refine W.seq ?_
  refine W.cb true (fun _ => ?_) (fun h => Bool.noConfusion h)
  refine W.skip ?_
  refine W.wk (env' := z2 []) ?_
  refine W.seq ?_
  refine W.block ?_
  refine W.seq ?_
  refine W.rg ?_
  refine WO.pk 0 (if (0 : Int) ≤ (k1 : Int) then ((List.map e_rf5Op a1)[Int.toNat (k1 : Int)]?).map AV.ptr else none) (v := .ptr (.agg [I6 x1.f_Txn, I6 x1.f_Kind, I6 x1.f_Item])) (idx_nat (f := e_rf5Op) hx1) (e1 := z2 [(13, .ptr (.agg [I6 x1.f_Txn, I6 x1.f_Kind, I6 x1.f_Item]))]) ?_
  let z3 := fun t => EN ((1, I6 a2) :: (2, I6 a3) :: (8, .ptr (.agg [I6 x1.f_Txn, I6 x1.f_Kind, I6 x1.f_Item])) :: (9, l43 none a1) :: (10, I6 (a1.length : Int)) :: (11, I6 (k1 : Int)) :: t)
  refine WO.fin [1, 2, 8, 9, 10, 11] [8] [] [] (e2 := z3 []) (by kernel_rfl) (fun _ h => h) ?_
  refine W.seq ?_
  refine W.join (σ := (Bool)) (fun s => z2 [(29, .bool s)]) (fun s => (rf5_writes_j9 (rf5_writes_l1 a2 a3 (rf5_writes_j5) r1 (k1 + 1))) s = some r) (fun s h => ?_) (fun hK9 => ?_)
  ·obtain ⟨v10, rfl⟩ : ∃ x, x = s := ⟨s, rfl⟩
   have h : (rf5_writes_j9 (rf5_writes_l1 a2 a3 (rf5_writes_j5) r1 (k1 + 1))) v10 = some r := h
   unfold rf5_writes_j9 at h
   refine W.cb v10 (fun hb => ?_) (fun hb => ?_)
   ·replace h := cond_t hb h
    refine W.seq ?_
    refine W.rt (e2 := [(6, .bool true)]) ?_
    refine W.wk (env' := [(6, .bool true)]) ?_
    have hr : aresults Try.prog Try.f87 [(6, .bool true)] = some (.bool true) := by kernel_rfl
    cases h
    exact W.ret hr
   replace h := cond_f hb h
   refine W.skip ?_
   refine W.wk (env' := z2 []) ?_
   refine W.rg ?_
   refine WO.pk 0 (some (I6 (IntKind.wrap .i64 ((k1 : Int) + 1)))) (v := I6 ((k1 + 1 : Nat) : Int)) (by rw [wrap_succ hl1 hk1]) (e1 := z2 [(30, I6 ((k1 + 1 : Nat) : Int))]) ?_
   refine WO.fn (e2 := z0 [(11, I6 ((k1 + 1 : Nat) : Int))]) ?_
   exact hN1 () h
  refine W.rg ?_
  let z4 := fun t => z3 ((15, .ptr (I6 x1.f_Txn)) :: (16, I6 x1.f_Txn) :: (17, I6 a2) :: t)
  refine WO.bk 5 (fun b => z4 [(18, .bool b), (19, .bool b)]) (x1.f_Txn == a2) (fun hb => ?_) (fun hb => ?_)
  ·replace h := cond_t hb h
   refine WO.bk 5 (fun b => z4 [(18, .bool true), (19, .bool true), (20, .ptr (I6 x1.f_Kind)), (21, I6 x1.f_Kind), (22, .bool b), (23, .bool b), (24, .bool b)]) (x1.f_Kind == 1) (fun hb => ?_) (fun hb => ?_)
   ·replace h := cond_t hb h
    refine WO.fn (e2 := z2 [(29, .bool (x1.f_Item == a3))]) ?_
    exact hK9 (x1.f_Item == a3) h
   replace h := cond_f hb h
   refine WO.fn (e2 := z2 [(29, .bool false)]) ?_
   exact hK9 false h
  replace h := cond_f hb h
  refine WO.fn (e2 := z2 [(29, .bool false)]) ?_
  exact hK9 false h
def rf5_Allowed_j3 : Option Bool :=
 (some true)
def rf5_Allowed_j6 (N1 : (Option Bool)) : Option Bool :=
 N1
def rf5_Allowed_j10 (N2 : (Option Bool)) : Option Bool :=
 N2
def rf5_Allowed_j15 (N3 : (Option Bool)) (v19 : Bool) : Option Bool :=
 (bif v19 then (some false) else N3)
def rf5_Allowed_l3 (fuel : Nat) (a1 : (List rf5Op)) (x1 : Int) (x2 : Int) (K10 : (Option Bool)) : List Nat → Nat → Option Bool
 | [], k3 => K10
 | x3 :: r3, k3 => (bif (x1 != x2) then ((rf5_overlap fuel a1 x1 x2).bind fun w16 => (bif w16 then ((rf5_writes a1 x1 (k3 : Int)).bind fun w17 => (bif w17 then ((rf5_writes a1 x2 (k3 : Int)).bind fun w18 => ((rf5_Allowed_j15 (rf5_Allowed_l3 fuel a1 x1 x2 K10 r3 (k3 + 1))) w18)) else ((rf5_Allowed_j15 (rf5_Allowed_l3 fuel a1 x1 x2 K10 r3 (k3 + 1))) false))) else ((rf5_Allowed_j15 (rf5_Allowed_l3 fuel a1 x1 x2 K10 r3 (k3 + 1))) false))) else ((rf5_Allowed_j15 (rf5_Allowed_l3 fuel a1 x1 x2 K10 r3 (k3 + 1))) false))
def rf5_Allowed_l2 (fuel : Nat) (a1 : (List rf5Op)) (x1 : Int) (K6 : (Option Bool)) : List Int → Nat → Option Bool
 | [], k2 => K6
 | x2 :: r2, k2 => (chk (lenOk (List.range (Int.toNat 6))) (rf5_Allowed_l3 fuel a1 x1 x2 (rf5_Allowed_j10 (rf5_Allowed_l2 fuel a1 x1 K6 r2 (k2 + 1))) (List.range (Int.toNat 6)) 0))
def rf5_Allowed_l1 (fuel : Nat) (a1 : (List rf5Op)) (K3 : (Option Bool)) : List Int → Nat → Option Bool
 | [], k1 => K3
 | x1 :: r1, k1 => ((rf5_committed fuel a1).bind fun w9 => (chk (lenOk w9) (rf5_Allowed_l2 fuel a1 x1 (rf5_Allowed_j6 (rf5_Allowed_l1 fuel a1 K3 r1 (k1 + 1))) w9 0)))
def rf5_Allowed (fuel : Nat) (a1 : (List rf5Op)) : Option Bool :=
 ((rf5_committed fuel a1).bind fun w5 => (chk (lenOk w5) (rf5_Allowed_l1 fuel a1 (rf5_Allowed_j3) w5 0)))
theorem run_rf5_Allowed (fuel : Nat) (a1 : (List rf5Op)) (r : Bool) (h : rf5_Allowed fuel a1 = some r) : Run Try.prog (.call 46 [l43 none a1] (.bool r)) := by
 refine cW Try.func46 rfl (env0 := [(0, l43 none a1)]) ?_
 unfold rf5_Allowed at h
 refine W.seq ?_
 let z0 := fun t => EN ((0, l43 none a1) :: t)
 refine W.rt (e2 := z0 []) ?_
 refine W.seq ?_
 refine W.join (σ := Unit) (fun s => []) (fun s => (rf5_Allowed_j3) = some r) (fun s h => ?_) (fun hK3 => ?_)
 ·have h : (rf5_Allowed_j3) = some r := h
  unfold rf5_Allowed_j3 at h
  refine W.seq ?_
  refine W.rt (e2 := [(2, .bool true)]) ?_
  refine W.wk (env' := [(2, .bool true)]) ?_
  have hr : aresults Try.prog Try.f46 [(2, .bool true)] = some (.bool true) := by kernel_rfl
  cases h
  exact W.ret hr
 refine W.seq ?_
 refine W.rg ?_
 obtain ⟨w5, hw5, h⟩ := bind_some h
 let z1 := fun t => z0 ((8, l43 none a1) :: (9, l3 (some 9) w5) :: t)
 refine WO.ck 1 (F := 57) (l := [l43 none a1]) (C := []) (r := l3 (some 1) w5) (run_rf5_committed fuel a1 w5 hw5) (e1 := z1 []) ?_
 refine WO.pk 0 (some (I6 ((M6 w5).length : Int))) (v := I6 (w5.length : Int)) (by rw [List.length_map]) (e1 := z1 [(10, I6 (w5.length : Int))]) ?_
 let z2 := fun t => z0 ((9, l3 (some 9) w5) :: (10, I6 (w5.length : Int)) :: t)
 refine WO.fn (e2 := z2 [(11, .int .i64 0)]) ?_
 refine W.block ?_
 obtain ⟨hl1, h⟩ := chk_some h
 refine W.wk (env' := z2 [(11, I6 ((0 : Nat) : Int))]) ?_
 refine W.range (σ := Unit) w5 (fun k1 s => z2 [(11, I6 (k1 : Int))]) (fun r0 k0 s => rf5_Allowed_l1 fuel a1 (rf5_Allowed_j3) r0 k0 = some r) (fun s h => ?_) (fun x1 r1 k1 s hx1 hk1 h hN1 => ?_) () h
 ·have h : rf5_Allowed_l1 fuel a1 (rf5_Allowed_j3) [] (w5).length = some r := h
  rw [rf5_Allowed_l1.eq_1] at h
  refine W.seq ?_
  refine W.rg ?_
  let z3 := fun t => z2 ((11, I6 ((w5).length : Int)) :: (12, .bool false) :: t)
  refine WO.pk 0 (some (.bool (decide (((w5).length : Int) < (w5.length : Int))))) (v := .bool false) (by rw [lt_false (l := w5)]) (e1 := z3 []) ?_
  refine WO.fn (e2 := z3 []) ?_
  refine W.seq ?_
  refine W.cb false (fun h => Bool.noConfusion h) (fun _ => ?_)
  refine W.exit ?_
  refine W.wk (env' := []) ?_
  exact hK3 () h
 ·have h : rf5_Allowed_l1 fuel a1 (rf5_Allowed_j3) (x1 :: r1) k1 = some r := h
  rw [rf5_Allowed_l1.eq_2] at h
  refine W.seq ?_
  refine W.rg ?_
  let z4 := fun t => z2 ((11, I6 (k1 : Int)) :: t)
  refine WO.pk 0 (some (.bool (decide ((k1 : Int) < (w5.length : Int))))) (v := .bool true) (by rw [lt_true hk1]) (e1 := z4 [(12, .bool true)]) ?_
  refine WO.fn (e2 := z4 [(12, .bool true)]) ?_
  refine W.seq ?_
  refine W.cb true (fun _ => ?_) (fun h => Bool.noConfusion h)
  refine W.skip ?_
  refine W.wk (env' := z4 []) ?_
  refine W.seq ?_
  refine W.join (σ := Unit) (fun s => z4 []) (fun s => (rf5_Allowed_j6 (rf5_Allowed_l1 fuel a1 (rf5_Allowed_j3) r1 (k1 + 1))) = some r) (fun s h => ?_) (fun hK6 => ?_)
  ·have h : (rf5_Allowed_j6 (rf5_Allowed_l1 fuel a1 (rf5_Allowed_j3) r1 (k1 + 1))) = some r := h
   unfold rf5_Allowed_j6 at h
   refine W.rg ?_
   refine WO.pk 0 (some (I6 (IntKind.wrap .i64 ((k1 : Int) + 1)))) (v := I6 ((k1 + 1 : Nat) : Int)) (by rw [wrap_succ hl1 hk1]) (e1 := z4 [(48, I6 ((k1 + 1 : Nat) : Int))]) ?_
   refine WO.fn (e2 := z2 [(11, I6 ((k1 + 1 : Nat) : Int))]) ?_
   exact hN1 () h
  refine W.block ?_
  refine W.seq ?_
  refine W.rg ?_
  refine WO.pk 0 (if (0 : Int) ≤ (k1 : Int) then ((M6 w5)[Int.toNat (k1 : Int)]?).map AV.ptr else none) (v := .ptr (I6 x1)) (idx_nat (f := (AV.int .i64)) hx1) (e1 := z4 [(13, .ptr (I6 x1))]) ?_
  let z5 := fun t => z0 ((4, I6 x1) :: (9, l3 (some 9) w5) :: (10, I6 (w5.length : Int)) :: (11, I6 (k1 : Int)) :: t)
  refine WO.fn (e2 := z5 []) ?_
  refine W.seq ?_
  refine W.rg ?_
  obtain ⟨w9, hw9, h⟩ := bind_some h
  let z6 := fun t => z5 ((15, l43 none a1) :: (16, l3 (some 16) w9) :: t)
  refine WO.ck 1 (F := 57) (l := [l43 none a1]) (C := []) (r := l3 (some 1) w9) (run_rf5_committed fuel a1 w9 hw9) (e1 := z6 []) ?_
  refine WO.pk 0 (some (I6 ((M6 w9).length : Int))) (v := I6 (w9.length : Int)) (by rw [List.length_map]) (e1 := z6 [(17, I6 (w9.length : Int))]) ?_
  let z7 := fun t => z5 ((16, l3 (some 16) w9) :: (17, I6 (w9.length : Int)) :: t)
  refine WO.fn (e2 := z7 [(18, .int .i64 0)]) ?_
  refine W.block ?_
  obtain ⟨hl2, h⟩ := chk_some h
  refine W.wk (env' := z7 [(18, I6 ((0 : Nat) : Int))]) ?_
  refine W.range (σ := Unit) w9 (fun k2 s => z7 [(18, I6 (k2 : Int))]) (fun r0 k0 s => rf5_Allowed_l2 fuel a1 x1 (rf5_Allowed_j6 (rf5_Allowed_l1 fuel a1 (rf5_Allowed_j3) r1 (k1 + 1))) r0 k0 = some r) (fun s h => ?_) (fun x2 r2 k2 s hx2 hk2 h hN2 => ?_) () h
  ·have h : rf5_Allowed_l2 fuel a1 x1 (rf5_Allowed_j6 (rf5_Allowed_l1 fuel a1 (rf5_Allowed_j3) r1 (k1 + 1))) [] (w9).length = some r := h
   rw [rf5_Allowed_l2.eq_1] at h
   refine W.seq ?_
   refine W.rg ?_
   let z8 := fun t => z7 ((18, I6 ((w9).length : Int)) :: (19, .bool false) :: t)
   refine WO.pk 0 (some (.bool (decide (((w9).length : Int) < (w9.length : Int))))) (v := .bool false) (by rw [lt_false (l := w9)]) (e1 := z8 []) ?_
   refine WO.fn (e2 := z8 []) ?_
   refine W.seq ?_
   refine W.cb false (fun h => Bool.noConfusion h) (fun _ => ?_)
   refine W.exit ?_
   refine W.wk (env' := z4 []) ?_
   exact hK6 () h
  ·have h : rf5_Allowed_l2 fuel a1 x1 (rf5_Allowed_j6 (rf5_Allowed_l1 fuel a1 (rf5_Allowed_j3) r1 (k1 + 1))) (x2 :: r2) k2 = some r := h
   rw [rf5_Allowed_l2.eq_2] at h
   refine W.seq ?_
   refine W.rg ?_
   let z9 := fun t => z7 ((18, I6 (k2 : Int)) :: t)
   refine WO.pk 0 (some (.bool (decide ((k2 : Int) < (w9.length : Int))))) (v := .bool true) (by rw [lt_true hk2]) (e1 := z9 [(19, .bool true)]) ?_
   refine WO.fn (e2 := z9 [(19, .bool true)]) ?_
   refine W.seq ?_
   refine W.cb true (fun _ => ?_) (fun h => Bool.noConfusion h)
   refine W.skip ?_
   refine W.wk (env' := z9 []) ?_
   refine W.seq ?_
   refine W.join (σ := Unit) (fun s => z9 []) (fun s => (rf5_Allowed_j10 (rf5_Allowed_l2 fuel a1 x1 (rf5_Allowed_j6 (rf5_Allowed_l1 fuel a1 (rf5_Allowed_j3) r1 (k1 + 1))) r2 (k2 + 1))) = some r) (fun s h => ?_) (fun hK10 => ?_)
   ·have h : (rf5_Allowed_j10 (rf5_Allowed_l2 fuel a1 x1 (rf5_Allowed_j6 (rf5_Allowed_l1 fuel a1 (rf5_Allowed_j3) r1 (k1 + 1))) r2 (k2 + 1))) = some r := h
    unfold rf5_Allowed_j10 at h
    refine W.rg ?_
    refine WO.pk 0 (some (I6 (IntKind.wrap .i64 ((k2 : Int) + 1)))) (v := I6 ((k2 + 1 : Nat) : Int)) (by rw [wrap_succ hl2 hk2]) (e1 := z9 [(47, I6 ((k2 + 1 : Nat) : Int))]) ?_
    refine WO.fn (e2 := z7 [(18, I6 ((k2 + 1 : Nat) : Int))]) ?_
    exact hN2 () h
   refine W.block ?_
   refine W.seq ?_
   refine W.rg ?_
   refine WO.pk 0 (if (0 : Int) ≤ (k2 : Int) then ((M6 w9)[Int.toNat (k2 : Int)]?).map AV.ptr else none) (v := .ptr (I6 x2)) (idx_nat (f := (AV.int .i64)) hx2) (e1 := z9 [(20, .ptr (I6 x2))]) ?_
   let z10 := fun t => z0 ((4, I6 x1) :: (6, I6 x2) :: (9, l3 (some 9) w5) :: (10, I6 (w5.length : Int)) :: (11, I6 (k1 : Int)) :: (16, l3 (some 16) w9) :: (17, I6 (w9.length : Int)) :: (18, I6 (k2 : Int)) :: t)
   refine WO.fn (e2 := z10 []) ?_
   refine W.seq ?_
   refine W.rt (e2 := z10 [(22, .int .i64 0)]) ?_
   refine W.block ?_
   obtain ⟨hl3, h⟩ := chk_some h
   refine W.wk (env' := z10 [(22, I6 ((0 : Nat) : Int))]) ?_
   refine W.range (σ := Unit) (List.range (Int.toNat 6)) (fun k3 s => z10 [(22, I6 (k3 : Int))]) (fun r0 k0 s => rf5_Allowed_l3 fuel a1 x1 x2 (rf5_Allowed_j10 (rf5_Allowed_l2 fuel a1 x1 (rf5_Allowed_j6 (rf5_Allowed_l1 fuel a1 (rf5_Allowed_j3) r1 (k1 + 1))) r2 (k2 + 1))) r0 k0 = some r) (fun s h => ?_) (fun x3 r3 k3 s hx3 hk3 h hN3 => ?_) () h
   ·have h : rf5_Allowed_l3 fuel a1 x1 x2 (rf5_Allowed_j10 (rf5_Allowed_l2 fuel a1 x1 (rf5_Allowed_j6 (rf5_Allowed_l1 fuel a1 (rf5_Allowed_j3) r1 (k1 + 1))) r2 (k2 + 1))) [] ((List.range (Int.toNat 6))).length = some r := h
    rw [rf5_Allowed_l3.eq_1] at h
    refine W.seq ?_
    refine W.rg ?_
    let z11 := fun t => z10 ((22, I6 (((List.range (Int.toNat 6))).length : Int)) :: (23, .bool false) :: t)
    refine WO.pk 0 (some (.bool (decide ((((List.range (Int.toNat 6))).length : Int) < 6)))) (v := .bool false) (by rw [ltr_false (n := 6)]) (e1 := z11 []) ?_
    refine WO.fn (e2 := z11 []) ?_
    refine W.seq ?_
    refine W.cb false (fun h => Bool.noConfusion h) (fun _ => ?_)
    refine W.exit ?_
    refine W.wk (env' := z9 []) ?_
    exact hK10 () h
   ·have h : rf5_Allowed_l3 fuel a1 x1 x2 (rf5_Allowed_j10 (rf5_Allowed_l2 fuel a1 x1 (rf5_Allowed_j6 (rf5_Allowed_l1 fuel a1 (rf5_Allowed_j3) r1 (k1 + 1))) r2 (k2 + 1))) (x3 :: r3) k3 = some r := h
    rw [rf5_Allowed_l3.eq_2] at h
    refine W.seq ?_
    refine W.rg ?_
    let z12 := fun t => z10 ((22, I6 (k3 : Int)) :: t)
    refine WO.pk 0 (some (.bool (decide ((k3 : Int) < 6)))) (v := .bool true) (by rw [ltr_true hk3]) (e1 := z12 [(23, .bool true)]) ?_
    refine WO.fn (e2 := z12 [(23, .bool true)]) ?_
    refine W.seq ?_
    refine W.cb true (fun _ => ?_) (fun h => Bool.noConfusion h)
    refine W.skip ?_
    refine W.wk (env' := z12 []) ?_
    refine W.seq ?_
    refine W.block ?_
    refine W.seq ?_
    let z13 := fun t => z0 ((4, I6 x1) :: (6, I6 x2) :: (7, I6 (k3 : Int)) :: (9, l3 (some 9) w5) :: (10, I6 (w5.length : Int)) :: (11, I6 (k1 : Int)) :: (16, l3 (some 16) w9) :: (17, I6 (w9.length : Int)) :: (18, I6 (k2 : Int)) :: (22, I6 (k3 : Int)) :: t)
    refine W.rt (e2 := z13 []) ?_
    refine W.seq ?_
    refine W.join (σ := (Bool)) (fun s => z12 [(45, .bool s)]) (fun s => (rf5_Allowed_j15 (rf5_Allowed_l3 fuel a1 x1 x2 (rf5_Allowed_j10 (rf5_Allowed_l2 fuel a1 x1 (rf5_Allowed_j6 (rf5_Allowed_l1 fuel a1 (rf5_Allowed_j3) r1 (k1 + 1))) r2 (k2 + 1))) r3 (k3 + 1))) s = some r) (fun s h => ?_) (fun hK15 => ?_)
    ·obtain ⟨v19, rfl⟩ : ∃ x, x = s := ⟨s, rfl⟩
     have h : (rf5_Allowed_j15 (rf5_Allowed_l3 fuel a1 x1 x2 (rf5_Allowed_j10 (rf5_Allowed_l2 fuel a1 x1 (rf5_Allowed_j6 (rf5_Allowed_l1 fuel a1 (rf5_Allowed_j3) r1 (k1 + 1))) r2 (k2 + 1))) r3 (k3 + 1))) v19 = some r := h
     unfold rf5_Allowed_j15 at h
     refine W.cb v19 (fun hb => ?_) (fun hb => ?_)
     ·replace h := cond_t hb h
      refine W.seq ?_
      refine W.rt (e2 := [(2, .bool false)]) ?_
      refine W.wk (env' := [(2, .bool false)]) ?_
      have hr : aresults Try.prog Try.f46 [(2, .bool false)] = some (.bool false) := by kernel_rfl
      cases h
      exact W.ret hr
     replace h := cond_f hb h
     refine W.skip ?_
     refine W.wk (env' := z12 []) ?_
     refine W.rg ?_
     refine WO.pk 0 (some (I6 (IntKind.wrap .i64 ((k3 : Int) + 1)))) (v := I6 ((k3 + 1 : Nat) : Int)) (by rw [wrap_succ hl3 hk3]) (e1 := z12 [(46, I6 ((k3 + 1 : Nat) : Int))]) ?_
     refine WO.fn (e2 := z10 [(22, I6 ((k3 + 1 : Nat) : Int))]) ?_
     exact hN3 () h
    refine W.rg ?_
    let z14 := fun t => z13 ((25, I6 x1) :: (26, I6 x2) :: t)
    refine WO.bk 4 (fun b => z14 [(27, .bool b), (28, .bool b)]) (x1 != x2) (fun hb => ?_) (fun hb => ?_)
    ·replace h := cond_t hb h
     obtain ⟨w16, hw16, h⟩ := bind_some h
     let z15 := fun t => z14 ((27, .bool true) :: (28, .bool true) :: (29, l43 none a1) :: (30, I6 x1) :: (31, I6 x2) :: t)
     refine WO.ck 3 (F := 86) (l := [l43 none a1, I6 x1, I6 x2]) (C := []) (r := .bool w16) (run_rf5_overlap fuel a1 x1 x2 w16 hw16) (e1 := z15 [(32, .bool w16)]) ?_
     refine WO.bk 2 (fun b => z15 [(32, .bool b), (33, .bool b), (34, .bool b)]) w16 (fun hb => ?_) (fun hb => ?_)
     ·replace h := cond_t hb h
      obtain ⟨w17, hw17, h⟩ := bind_some h
      let z16 := fun t => z15 ((32, .bool true) :: (33, .bool true) :: (34, .bool true) :: (35, l43 none a1) :: (36, I6 x1) :: (37, I6 (k3 : Int)) :: t)
      refine WO.ck 3 (F := 87) (l := [l43 none a1, I6 x1, I6 (k3 : Int)]) (C := []) (r := .bool w17) (run_rf5_writes a1 x1 (k3 : Int) w17 hw17) (e1 := z16 [(38, .bool w17)]) ?_
      refine WO.bk 2 (fun b => z16 [(38, .bool b), (39, .bool b), (40, .bool b)]) w17 (fun hb => ?_) (fun hb => ?_)
      ·replace h := cond_t hb h
       obtain ⟨w18, hw18, h⟩ := bind_some h
       refine WO.ck 3 (F := 87) (l := [l43 none a1, I6 x2, I6 (k3 : Int)]) (C := []) (r := .bool w18) (run_rf5_writes a1 x2 (k3 : Int) w18 hw18) (e1 := z16 [(38, .bool true), (39, .bool true), (40, .bool true), (41, l43 none a1), (42, I6 x2), (43, I6 (k3 : Int)), (44, .bool w18)]) ?_
       refine WO.fn (e2 := z12 [(45, .bool w18)]) ?_
       exact hK15 w18 h
      replace h := cond_f hb h
      refine WO.fn (e2 := z12 [(45, .bool false)]) ?_
      exact hK15 false h
     replace h := cond_f hb h
     refine WO.fn (e2 := z12 [(45, .bool false)]) ?_
     exact hK15 false h
    replace h := cond_f hb h
    refine WO.fn (e2 := z12 [(45, .bool false)]) ?_
    exact hK15 false h
def rf5_reads_j5 : Option Bool :=
 (some false)
def rf5_reads_j9 (x1 : rf5Op) (N1 : (Option Bool)) (v10 : Bool) : Option Bool :=
 (bif v10 then (some (x1.f_Kind == 0)) else N1)
def rf5_reads_l1 (a2 : Int) (a3 : Int) (K5 : (Option Bool)) : List rf5Op → Nat → Option Bool
 | [], k1 => K5
 | x1 :: r1, k1 => (bif (x1.f_Txn == a2) then (bif (x1.f_Item == a3) then ((rf5_reads_j9 x1 (rf5_reads_l1 a2 a3 K5 r1 (k1 + 1))) (decide (x1.f_Kind < 2))) else ((rf5_reads_j9 x1 (rf5_reads_l1 a2 a3 K5 r1 (k1 + 1))) false)) else ((rf5_reads_j9 x1 (rf5_reads_l1 a2 a3 K5 r1 (k1 + 1))) false))
def rf5_reads (a1 : (List rf5Op)) (a2 : Int) (a3 : Int) : Option Bool :=
 (chk (lenOk a1) (rf5_reads_l1 a2 a3 (rf5_reads_j5) a1 0))
theorem run_rf5_reads (a1 : (List rf5Op)) (a2 : Int) (a3 : Int) (r : Bool) (h : rf5_reads a1 a2 a3 = some r) : Run Try.prog (.call 112 [l43 none a1, I6 a2, I6 a3] (.bool r)) := by
 refine cW Try.func112 rfl (env0 := [(0, l43 none a1), (1, I6 a2), (2, I6 a3)]) ?_
 unfold rf5_reads at h
 refine W.seq ?_
 refine W.rt (e2 := [(0, l43 none a1), (1, I6 a2), (2, I6 a3)]) ?_
 refine W.seq ?_
 refine W.join (σ := Unit) (fun s => []) (fun s => (rf5_reads_j5) = some r) (fun s h => ?_) (fun hK5 => ?_)
 ·have h : (rf5_reads_j5) = some r := h
  unfold rf5_reads_j5 at h
  refine W.seq ?_
  refine W.rt (e2 := [(6, .bool false)]) ?_
  refine W.wk (env' := [(6, .bool false)]) ?_
  have hr : aresults Try.prog Try.f112 [(6, .bool false)] = some (.bool false) := by kernel_rfl
  cases h
  exact W.ret hr
 refine W.seq ?_
 refine W.rg ?_
 refine WO.pk 1 (some (I6 ((List.map e_rf5Op a1).length : Int))) (v := I6 (a1.length : Int)) (by rw [List.length_map]) (e1 := [(0, l43 none a1), (1, I6 a2), (2, I6 a3), (9, l43 none a1), (10, I6 (a1.length : Int))]) ?_
 let z0 := fun t => EN ((1, I6 a2) :: (2, I6 a3) :: (9, l43 none a1) :: (10, I6 (a1.length : Int)) :: t)
 refine WO.fn (e2 := z0 [(11, .int .i64 0)]) ?_
 refine W.block ?_
 obtain ⟨hl1, h⟩ := chk_some h
 refine W.wk (env' := z0 [(11, I6 ((0 : Nat) : Int))]) ?_
 refine W.range (σ := Unit) a1 (fun k1 s => z0 [(11, I6 (k1 : Int))]) (fun r0 k0 s => rf5_reads_l1 a2 a3 (rf5_reads_j5) r0 k0 = some r) (fun s h => ?_) (fun x1 r1 k1 s hx1 hk1 h hN1 => ?_) () h
 ·have h : rf5_reads_l1 a2 a3 (rf5_reads_j5) [] (a1).length = some r := h
  rw [rf5_reads_l1.eq_1] at h
  refine W.seq ?_
  refine W.rg ?_
  let z1 := fun t => z0 ((11, I6 ((a1).length : Int)) :: (12, .bool false) :: t)
  refine WO.pk 0 (some (.bool (decide (((a1).length : Int) < (a1.length : Int))))) (v := .bool false) (by rw [lt_false (l := a1)]) (e1 := z1 []) ?_
  refine WO.fn (e2 := z1 []) ?_
  refine W.seq ?_
  refine W.cb false (fun h => Bool.noConfusion h) (fun _ => ?_)
  refine W.exit ?_
  refine W.wk (env' := []) ?_
  exact hK5 () h
 ·have h : rf5_reads_l1 a2 a3 (rf5_reads_j5) (x1 :: r1) k1 = some r := h
  rw [rf5_reads_l1.eq_2] at h
  refine W.seq ?_
  refine W.rg ?_
  let z2 := fun t => z0 ((11, I6 (k1 : Int)) :: t)
  refine WO.pk 0 (some (.bool (decide ((k1 : Int) < (a1.length : Int))))) (v := .bool true) (by rw [lt_true hk1]) (e1 := z2 [(12, .bool true)]) ?_
  refine WO.fn (e2 := z2 [(12, .bool true)]) ?_
  refine W.seq ?_
  refine W.cb true (fun _ => ?_) (fun h => Bool.noConfusion h)
  refine W.skip ?_
  refine W.wk (env' := z2 []) ?_
  refine W.seq ?_
  refine W.block ?_
  refine W.seq ?_
  refine W.rg ?_
  refine WO.pk 0 (if (0 : Int) ≤ (k1 : Int) then ((List.map e_rf5Op a1)[Int.toNat (k1 : Int)]?).map AV.ptr else none) (v := .ptr (.agg [I6 x1.f_Txn, I6 x1.f_Kind, I6 x1.f_Item])) (idx_nat (f := e_rf5Op) hx1) (e1 := z2 [(13, .ptr (.agg [I6 x1.f_Txn, I6 x1.f_Kind, I6 x1.f_Item]))]) ?_
  let z3 := fun t => EN ((1, I6 a2) :: (2, I6 a3) :: (8, .ptr (.agg [I6 x1.f_Txn, I6 x1.f_Kind, I6 x1.f_Item])) :: (9, l43 none a1) :: (10, I6 (a1.length : Int)) :: (11, I6 (k1 : Int)) :: t)
  refine WO.fin [1, 2, 8, 9, 10, 11] [8] [] [] (e2 := z3 []) (by kernel_rfl) (fun _ h => h) ?_
  refine W.seq ?_
  refine W.join (σ := (Bool)) (fun s => z3 [(29, .bool s)]) (fun s => (rf5_reads_j9 x1 (rf5_reads_l1 a2 a3 (rf5_reads_j5) r1 (k1 + 1))) s = some r) (fun s h => ?_) (fun hK9 => ?_)
  ·obtain ⟨v10, rfl⟩ : ∃ x, x = s := ⟨s, rfl⟩
   have h : (rf5_reads_j9 x1 (rf5_reads_l1 a2 a3 (rf5_reads_j5) r1 (k1 + 1))) v10 = some r := h
   unfold rf5_reads_j9 at h
   refine W.cb v10 (fun hb => ?_) (fun hb => ?_)
   ·replace h := cond_t hb h
    refine W.seq ?_
    refine W.rt (e2 := [(6, .bool (x1.f_Kind == 0))]) ?_
    refine W.wk (env' := [(6, .bool (x1.f_Kind == 0))]) ?_
    have hr : aresults Try.prog Try.f112 [(6, .bool (x1.f_Kind == 0))] = some (.bool (x1.f_Kind == 0)) := by kernel_rfl
    cases h
    exact W.ret hr
   replace h := cond_f hb h
   refine W.skip ?_
   refine W.wk (env' := z2 []) ?_
   refine W.rg ?_
   refine WO.pk 0 (some (I6 (IntKind.wrap .i64 ((k1 : Int) + 1)))) (v := I6 ((k1 + 1 : Nat) : Int)) (by rw [wrap_succ hl1 hk1]) (e1 := z2 [(33, I6 ((k1 + 1 : Nat) : Int))]) ?_
   refine WO.fn (e2 := z0 [(11, I6 ((k1 + 1 : Nat) : Int))]) ?_
   exact hN1 () h
  refine W.rg ?_
  let z4 := fun t => z3 ((15, .ptr (I6 x1.f_Txn)) :: (16, I6 x1.f_Txn) :: (17, I6 a2) :: t)
  refine WO.bk 5 (fun b => z4 [(18, .bool b), (19, .bool b)]) (x1.f_Txn == a2) (fun hb => ?_) (fun hb => ?_)
  ·replace h := cond_t hb h
   refine WO.bk 6 (fun b => z4 [(18, .bool true), (19, .bool true), (20, .ptr (I6 x1.f_Item)), (21, I6 x1.f_Item), (22, I6 a3), (23, .bool b), (24, .bool b), (25, .bool b)]) (x1.f_Item == a3) (fun hb => ?_) (fun hb => ?_)
   ·replace h := cond_t hb h
    refine WO.fn (e2 := z3 [(29, .bool (decide (x1.f_Kind < 2)))]) ?_
    exact hK9 (decide (x1.f_Kind < 2)) h
   replace h := cond_f hb h
   refine WO.fn (e2 := z3 [(29, .bool false)]) ?_
   exact hK9 false h
  replace h := cond_f hb h
  refine WO.fn (e2 := z3 [(29, .bool false)]) ?_
  exact hK9 false h
def rf5_anti_j4 (v31 : (List Bool)) : Option (List Bool) :=
 (chk (decide (v31.length = 49)) (chk (decide (v31.length = 49 ∧ (List.replicate 49 false).length = 49)) (chk (decide (v31.length = 49)) (some v31))))
def rf5_anti_j8 (N1 : ((List Bool) → Option (List Bool))) (v30 : (List Bool)) : Option (List Bool) :=
 (N1 v30)
def rf5_anti_j13 (N2 : ((List Bool) → Option (List Bool))) (v29 : (List Bool)) : Option (List Bool) :=
 (N2 v29)
def rf5_anti_j17 (N3 : ((List Bool) → Option (List Bool))) (v28 : (List Bool)) : Option (List Bool) :=
 (N3 v28)
def rf5_anti_j19 (x1 : Int) (x2 : Int) (v16 : (List Bool)) (K17 : ((List Bool) → Option (List Bool))) (v24 : Bool) : Option (List Bool) :=
 (bif v24 then (chk (decide ((0 : Int) ≤ x1 ∧ x1 < ((7 : Nat) : Int) ∧ 0 < 7)) (chk (decide ((0 : Int) ≤ x2 ∧ x2 < ((7 : Nat) : Int) ∧ 0 < 1)) (chk (decide (((0 + Int.toNat x1 * 7) + Int.toNat x2 * 1) < v16.length)) (K17 (v16.set ((0 + Int.toNat x1 * 7) + Int.toNat x2 * 1) true))))) else (K17 v16))
def rf5_anti_l3 (fuel : Nat) (a1 : (List rf5Op)) (x1 : Int) (x2 : Int) (K13 : ((List Bool) → Option (List Bool))) : List Nat → Nat → (List Bool) → Option (List Bool)
 | [], k3, v16 => (K13 v16)
 | x3 :: r3, k3, v16 => (bif (x1 != x2) then ((rf5_reads a1 x1 (k3 : Int)).bind fun w20 => (bif w20 then ((rf5_writes a1 x2 (k3 : Int)).bind fun w21 => (bif w21 then ((rf5_end a1 x2 2).bind fun w22 => ((rf5_begin fuel a1 x1).bind fun w23 => ((rf5_anti_j19 x1 x2 v16 (rf5_anti_j17 (rf5_anti_l3 fuel a1 x1 x2 K13 r3 (k3 + 1)))) (decide (w22 > w23))))) else ((rf5_anti_j19 x1 x2 v16 (rf5_anti_j17 (rf5_anti_l3 fuel a1 x1 x2 K13 r3 (k3 + 1)))) false))) else ((rf5_anti_j19 x1 x2 v16 (rf5_anti_j17 (rf5_anti_l3 fuel a1 x1 x2 K13 r3 (k3 + 1)))) false))) else ((rf5_anti_j19 x1 x2 v16 (rf5_anti_j17 (rf5_anti_l3 fuel a1 x1 x2 K13 r3 (k3 + 1)))) false))
def rf5_anti_l2 (fuel : Nat) (a1 : (List rf5Op)) (x1 : Int) (K8 : ((List Bool) → Option (List Bool))) : List Int → Nat → (List Bool) → Option (List Bool)
 | [], k2, v12 => (K8 v12)
 | x2 :: r2, k2, v12 => (chk (lenOk (List.range (Int.toNat 6))) (rf5_anti_l3 fuel a1 x1 x2 (rf5_anti_j13 (rf5_anti_l2 fuel a1 x1 K8 r2 (k2 + 1))) (List.range (Int.toNat 6)) 0 v12))
def rf5_anti_l1 (fuel : Nat) (a1 : (List rf5Op)) (K4 : ((List Bool) → Option (List Bool))) : List Int → Nat → (List Bool) → Option (List Bool)
 | [], k1, v7 => (K4 v7)
 | x1 :: r1, k1, v7 => ((rf5_committed fuel a1).bind fun w11 => (chk (lenOk w11) (rf5_anti_l2 fuel a1 x1 (rf5_anti_j8 (rf5_anti_l1 fuel a1 K4 r1 (k1 + 1))) w11 0 v7)))
def rf5_anti (fuel : Nat) (a1 : (List rf5Op)) : Option (List Bool) :=
 ((rf5_committed fuel a1).bind fun w6 => (chk (lenOk w6) (rf5_anti_l1 fuel a1 (rf5_anti_j4) w6 0 (List.replicate 49 false))))
theorem run_rf5_anti (fuel : Nat) (a1 : (List rf5Op)) (r : (List Bool)) (h : rf5_anti fuel a1 = some r) : Run Try.prog (.call 85 [l43 none a1] (.agg (List.map AV.bool r))) := by
 refine cW Try.func85 rfl (env0 := [(0, l43 none a1)]) ?_
 unfold rf5_anti at h
 refine W.seq ?_
 refine W.rg ?_
 let z0 := fun t => EN ((0, l43 none a1) :: t)
 refine WO.steps 1 (e1 := z0 [(2, .box [.bool false, .bool false, .bool false, .bool false, .bool false, .bool false, .bool false, .bool false, .bool false, .bool false, .bool false, .bool false, .bool false, .bool false, .bool false, .bool false, .bool false, .bool false, .bool false, .bool false, .bool false, .bool false, .bool false, .bool false, .bool false, .bool false, .bool false, .bool false, .bool false, .bool false, .bool false, .bool false, .bool false, .bool false, .bool false, .bool false, .bool false, .bool false, .bool false, .bool false, .bool false, .bool false, .bool false, .bool false, .bool false, .bool false, .bool false, .bool false, .bool false])]) (by kernel_rfl) ?_
 let z1 := fun t => z0 ((2, .pb 1000002 0) :: t)
 let z2 := fun t => z1 ((1000002, .hob 3 [] (List.map AV.bool (List.replicate 49 false))) :: t)
 refine WO.mv [.arr 2] (env' := z2 []) (by kernel_rfl) ?_
 refine WO.fn (e2 := z2 []) ?_
 refine W.seq ?_
 refine W.rg ?_
 refine WO.steps 1 (e1 := z1 [(3, .box [.bool false, .bool false, .bool false, .bool false, .bool false, .bool false, .bool false, .bool false, .bool false, .bool false, .bool false, .bool false, .bool false, .bool false, .bool false, .bool false, .bool false, .bool false, .bool false, .bool false, .bool false, .bool false, .bool false, .bool false, .bool false, .bool false, .bool false, .bool false, .bool false, .bool false, .bool false, .bool false, .bool false, .bool false, .bool false, .bool false, .bool false, .bool false, .bool false, .bool false, .bool false, .bool false, .bool false, .bool false, .bool false, .bool false, .bool false, .bool false, .bool false]), (1000002, .hob 3 [] (List.map AV.bool (List.replicate 49 false)))]) (by kernel_rfl) ?_
 let z3 := fun t => z1 ((3, .pb 1000003 0) :: t)
 let z4 := fun t => z3 ((1000002, .hob 3 [] (List.map AV.bool (List.replicate 49 false))) :: (1000003, .hob 3 [] (List.map AV.bool (List.replicate 49 false))) :: t)
 refine WO.mv [.arr 3] (env' := z4 []) (by kernel_rfl) ?_
 refine WO.fn (e2 := z4 []) ?_
 refine W.seq ?_
 let z5 := fun t => EN ((2, .pb 1000002 0) :: (3, .pb 1000003 0) :: t)
 let z6 := fun t => z5 ((1000002, .hob 3 [] (List.map AV.bool (List.replicate 49 false))) :: t)
 refine W.join (σ := ((List Bool))) (fun s => z6 [(1000003, .hob 3 [] (List.map AV.bool s))]) (fun s => (rf5_anti_j4) s = some r) (fun s h => ?_) (fun hK4 => ?_)
 ·obtain ⟨v31, rfl⟩ : ∃ x, x = s := ⟨s, rfl⟩
  have h : (rf5_anti_j4) v31 = some r := h
  unfold rf5_anti_j4 at h
  refine W.seq ?_
  refine W.rg ?_
  obtain ⟨hc33, h⟩ := chk_some h
  let z7 := fun t => z5 ((57, .agg (List.map AV.bool v31)) :: t)
  refine WO.pk 0 (cut Try.prog 79 (List.map AV.bool v31) 0) (v := .agg (List.map AV.bool v31)) (cut_whole flat_bool (sz := 49) (by kernel_rfl) (of_decide_eq_true hc33)) (e1 := z7 [(1000002, .hob 3 [] (List.map AV.bool (List.replicate 49 false))), (1000003, .hob 3 [] (List.map AV.bool v31))]) ?_
  obtain ⟨hc34, h⟩ := chk_some h
  refine WO.storeA (enc := AV.bool) (l := v31) (l' := (List.replicate 49 false)) (s := 1000002) (sz := 49) 0 flat_bool hc34 (e1 := z7 [(1000002, .hob 3 [] (List.map AV.bool v31)), (1000003, .hob 3 [] (List.map AV.bool v31))]) ?_
  let z8 := fun t => EN ((2, .pb 1000002 0) :: (1000002, .hob 3 [] (List.map AV.bool v31)) :: t)
  refine WO.fn (e2 := z8 []) ?_
  refine W.wk (env' := z8 []) ?_
  obtain ⟨hn35, h⟩ := chk_some h
  have hr : aresults Try.prog Try.f85 [(2, .pb 1000002 0), (1000002, .hob 3 [] (List.map AV.bool v31))] = some (.agg (List.map AV.bool v31)) := (by kernel_rfl : aresults Try.prog Try.f85 [(2, .pb 1000002 0), (1000002, .hob 3 [] (List.map AV.bool v31))] = (cut Try.prog 79 (List.map AV.bool v31) 0).map AV.strip).trans (by rw [cut_whole flat_bool (sz := 49) (by kernel_rfl) (of_decide_eq_true hn35)]; rfl)
  cases h
  exact W.ret hr
 refine W.seq ?_
 refine W.rg ?_
 obtain ⟨w6, hw6, h⟩ := bind_some h
 let z9 := fun t => z3 ((9, l43 none a1) :: (10, l3 (some 10) w6) :: t)
 refine WO.ck 1 (F := 57) (l := [l43 none a1]) (C := []) (r := l3 (some 1) w6) (run_rf5_committed fuel a1 w6 hw6) (e1 := z9 [(1000002, .hob 3 [] (List.map AV.bool (List.replicate 49 false))), (1000003, .hob 3 [] (List.map AV.bool (List.replicate 49 false)))]) ?_
 refine WO.pk 0 (some (I6 ((M6 w6).length : Int))) (v := I6 (w6.length : Int)) (by rw [List.length_map]) (e1 := z9 [(11, I6 (w6.length : Int)), (1000002, .hob 3 [] (List.map AV.bool (List.replicate 49 false))), (1000003, .hob 3 [] (List.map AV.bool (List.replicate 49 false)))]) ?_
 let z10 := fun t => z3 ((10, l3 (some 10) w6) :: (11, I6 (w6.length : Int)) :: t)
 refine WO.fn (e2 := z10 [(12, .int .i64 0), (1000002, .hob 3 [] (List.map AV.bool (List.replicate 49 false))), (1000003, .hob 3 [] (List.map AV.bool (List.replicate 49 false)))]) ?_
 refine W.block ?_
 obtain ⟨hl1, h⟩ := chk_some h
 refine W.wk (env' := z10 [(12, I6 ((0 : Nat) : Int)), (1000002, .hob 3 [] (List.map AV.bool (List.replicate 49 false))), (1000003, .hob 3 [] (List.map AV.bool (List.replicate 49 false)))]) ?_
 refine W.range (σ := ((List Bool))) w6 (fun k1 s => z10 [(12, I6 (k1 : Int)), (1000002, .hob 3 [] (List.map AV.bool (List.replicate 49 false))), (1000003, .hob 3 [] (List.map AV.bool s))]) (fun r0 k0 s => rf5_anti_l1 fuel a1 (rf5_anti_j4) r0 k0 s = some r) (fun s h => ?_) (fun x1 r1 k1 s hx1 hk1 h hN1 => ?_) (List.replicate 49 false) h
 ·obtain ⟨v7, rfl⟩ : ∃ x, x = s := ⟨s, rfl⟩
  have h : rf5_anti_l1 fuel a1 (rf5_anti_j4) [] (w6).length v7 = some r := h
  rw [rf5_anti_l1.eq_1] at h
  refine W.seq ?_
  refine W.rg ?_
  let z11 := fun t => z10 ((12, I6 ((w6).length : Int)) :: (13, .bool false) :: (1000002, .hob 3 [] (List.map AV.bool (List.replicate 49 false))) :: (1000003, .hob 3 [] (List.map AV.bool v7)) :: t)
  refine WO.pk 0 (some (.bool (decide (((w6).length : Int) < (w6.length : Int))))) (v := .bool false) (by rw [lt_false (l := w6)]) (e1 := z11 []) ?_
  refine WO.fn (e2 := z11 []) ?_
  refine W.seq ?_
  refine W.cb false (fun h => Bool.noConfusion h) (fun _ => ?_)
  refine W.exit ?_
  refine W.wk (env' := z6 [(1000003, .hob 3 [] (List.map AV.bool v7))]) ?_
  exact hK4 v7 h
 ·obtain ⟨v7, rfl⟩ : ∃ x, x = s := ⟨s, rfl⟩
  have h : rf5_anti_l1 fuel a1 (rf5_anti_j4) (x1 :: r1) k1 v7 = some r := h
  rw [rf5_anti_l1.eq_2] at h
  refine W.seq ?_
  refine W.rg ?_
  let z12 := fun t => z10 ((12, I6 (k1 : Int)) :: (13, .bool true) :: (1000002, .hob 3 [] (List.map AV.bool (List.replicate 49 false))) :: (1000003, .hob 3 [] (List.map AV.bool v7)) :: t)
  refine WO.pk 0 (some (.bool (decide ((k1 : Int) < (w6.length : Int))))) (v := .bool true) (by rw [lt_true hk1]) (e1 := z12 []) ?_
  refine WO.fn (e2 := z12 []) ?_
  refine W.seq ?_
  refine W.cb true (fun _ => ?_) (fun h => Bool.noConfusion h)
  refine W.skip ?_
  let z13 := fun t => z10 ((12, I6 (k1 : Int)) :: (1000002, .hob 3 [] (List.map AV.bool (List.replicate 49 false))) :: t)
  refine W.wk (env' := z13 [(1000003, .hob 3 [] (List.map AV.bool v7))]) ?_
  refine W.seq ?_
  refine W.join (σ := ((List Bool))) (fun s => z13 [(1000003, .hob 3 [] (List.map AV.bool s))]) (fun s => (rf5_anti_j8 (rf5_anti_l1 fuel a1 (rf5_anti_j4) r1 (k1 + 1))) s = some r) (fun s h => ?_) (fun hK8 => ?_)
  ·obtain ⟨v30, rfl⟩ : ∃ x, x = s := ⟨s, rfl⟩
   have h : (rf5_anti_j8 (rf5_anti_l1 fuel a1 (rf5_anti_j4) r1 (k1 + 1))) v30 = some r := h
   unfold rf5_anti_j8 at h
   refine W.rg ?_
   refine WO.pk 0 (some (I6 (IntKind.wrap .i64 ((k1 : Int) + 1)))) (v := I6 ((k1 + 1 : Nat) : Int)) (by rw [wrap_succ hl1 hk1]) (e1 := z10 [(12, I6 (k1 : Int)), (56, I6 ((k1 + 1 : Nat) : Int)), (1000002, .hob 3 [] (List.map AV.bool (List.replicate 49 false))), (1000003, .hob 3 [] (List.map AV.bool v30))]) ?_
   refine WO.fn (e2 := z10 [(12, I6 ((k1 + 1 : Nat) : Int)), (1000002, .hob 3 [] (List.map AV.bool (List.replicate 49 false))), (1000003, .hob 3 [] (List.map AV.bool v30))]) ?_
   exact hN1 v30 h
  refine W.block ?_
  refine W.seq ?_
  refine W.rg ?_
  refine WO.pk 0 (if (0 : Int) ≤ (k1 : Int) then ((M6 w6)[Int.toNat (k1 : Int)]?).map AV.ptr else none) (v := .ptr (I6 x1)) (idx_nat (f := (AV.int .i64)) hx1) (e1 := z10 [(12, I6 (k1 : Int)), (14, .ptr (I6 x1)), (1000002, .hob 3 [] (List.map AV.bool (List.replicate 49 false))), (1000003, .hob 3 [] (List.map AV.bool v7))]) ?_
  let z14 := fun t => z3 ((5, I6 x1) :: (10, l3 (some 10) w6) :: (11, I6 (w6.length : Int)) :: (12, I6 (k1 : Int)) :: t)
  refine WO.fn (e2 := z14 [(1000002, .hob 3 [] (List.map AV.bool (List.replicate 49 false))), (1000003, .hob 3 [] (List.map AV.bool v7))]) ?_
  refine W.seq ?_
  refine W.rg ?_
  obtain ⟨w11, hw11, h⟩ := bind_some h
  let z15 := fun t => z14 ((16, l43 none a1) :: (17, l3 (some 17) w11) :: t)
  refine WO.ck 1 (F := 57) (l := [l43 none a1]) (C := []) (r := l3 (some 1) w11) (run_rf5_committed fuel a1 w11 hw11) (e1 := z15 [(1000002, .hob 3 [] (List.map AV.bool (List.replicate 49 false))), (1000003, .hob 3 [] (List.map AV.bool v7))]) ?_
  refine WO.pk 0 (some (I6 ((M6 w11).length : Int))) (v := I6 (w11.length : Int)) (by rw [List.length_map]) (e1 := z15 [(18, I6 (w11.length : Int)), (1000002, .hob 3 [] (List.map AV.bool (List.replicate 49 false))), (1000003, .hob 3 [] (List.map AV.bool v7))]) ?_
  let z16 := fun t => z14 ((17, l3 (some 17) w11) :: (18, I6 (w11.length : Int)) :: t)
  refine WO.fn (e2 := z16 [(19, .int .i64 0), (1000002, .hob 3 [] (List.map AV.bool (List.replicate 49 false))), (1000003, .hob 3 [] (List.map AV.bool v7))]) ?_
  refine W.block ?_
  obtain ⟨hl2, h⟩ := chk_some h
  refine W.wk (env' := z16 [(19, I6 ((0 : Nat) : Int)), (1000002, .hob 3 [] (List.map AV.bool (List.replicate 49 false))), (1000003, .hob 3 [] (List.map AV.bool v7))]) ?_
  refine W.range (σ := ((List Bool))) w11 (fun k2 s => z16 [(19, I6 (k2 : Int)), (1000002, .hob 3 [] (List.map AV.bool (List.replicate 49 false))), (1000003, .hob 3 [] (List.map AV.bool s))]) (fun r0 k0 s => rf5_anti_l2 fuel a1 x1 (rf5_anti_j8 (rf5_anti_l1 fuel a1 (rf5_anti_j4) r1 (k1 + 1))) r0 k0 s = some r) (fun s h => ?_) (fun x2 r2 k2 s hx2 hk2 h hN2 => ?_) v7 h
  ·obtain ⟨v12, rfl⟩ : ∃ x, x = s := ⟨s, rfl⟩
   have h : rf5_anti_l2 fuel a1 x1 (rf5_anti_j8 (rf5_anti_l1 fuel a1 (rf5_anti_j4) r1 (k1 + 1))) [] (w11).length v12 = some r := h
   rw [rf5_anti_l2.eq_1] at h
   refine W.seq ?_
   refine W.rg ?_
   let z17 := fun t => z16 ((19, I6 ((w11).length : Int)) :: (20, .bool false) :: (1000002, .hob 3 [] (List.map AV.bool (List.replicate 49 false))) :: (1000003, .hob 3 [] (List.map AV.bool v12)) :: t)
   refine WO.pk 0 (some (.bool (decide (((w11).length : Int) < (w11.length : Int))))) (v := .bool false) (by rw [lt_false (l := w11)]) (e1 := z17 []) ?_
   refine WO.fn (e2 := z17 []) ?_
   refine W.seq ?_
   refine W.cb false (fun h => Bool.noConfusion h) (fun _ => ?_)
   refine W.exit ?_
   refine W.wk (env' := z13 [(1000003, .hob 3 [] (List.map AV.bool v12))]) ?_
   exact hK8 v12 h
  ·obtain ⟨v12, rfl⟩ : ∃ x, x = s := ⟨s, rfl⟩
   have h : rf5_anti_l2 fuel a1 x1 (rf5_anti_j8 (rf5_anti_l1 fuel a1 (rf5_anti_j4) r1 (k1 + 1))) (x2 :: r2) k2 v12 = some r := h
   rw [rf5_anti_l2.eq_2] at h
   refine W.seq ?_
   refine W.rg ?_
   let z18 := fun t => z16 ((19, I6 (k2 : Int)) :: (20, .bool true) :: (1000002, .hob 3 [] (List.map AV.bool (List.replicate 49 false))) :: (1000003, .hob 3 [] (List.map AV.bool v12)) :: t)
   refine WO.pk 0 (some (.bool (decide ((k2 : Int) < (w11.length : Int))))) (v := .bool true) (by rw [lt_true hk2]) (e1 := z18 []) ?_
   refine WO.fn (e2 := z18 []) ?_
   refine W.seq ?_
   refine W.cb true (fun _ => ?_) (fun h => Bool.noConfusion h)
   refine W.skip ?_
   let z19 := fun t => z16 ((19, I6 (k2 : Int)) :: (1000002, .hob 3 [] (List.map AV.bool (List.replicate 49 false))) :: t)
   refine W.wk (env' := z19 [(1000003, .hob 3 [] (List.map AV.bool v12))]) ?_
   refine W.seq ?_
   refine W.join (σ := ((List Bool))) (fun s => z19 [(1000003, .hob 3 [] (List.map AV.bool s))]) (fun s => (rf5_anti_j13 (rf5_anti_l2 fuel a1 x1 (rf5_anti_j8 (rf5_anti_l1 fuel a1 (rf5_anti_j4) r1 (k1 + 1))) r2 (k2 + 1))) s = some r) (fun s h => ?_) (fun hK13 => ?_)
   ·obtain ⟨v29, rfl⟩ : ∃ x, x = s := ⟨s, rfl⟩
    have h : (rf5_anti_j13 (rf5_anti_l2 fuel a1 x1 (rf5_anti_j8 (rf5_anti_l1 fuel a1 (rf5_anti_j4) r1 (k1 + 1))) r2 (k2 + 1))) v29 = some r := h
    unfold rf5_anti_j13 at h
    refine W.rg ?_
    refine WO.pk 0 (some (I6 (IntKind.wrap .i64 ((k2 : Int) + 1)))) (v := I6 ((k2 + 1 : Nat) : Int)) (by rw [wrap_succ hl2 hk2]) (e1 := z16 [(19, I6 (k2 : Int)), (55, I6 ((k2 + 1 : Nat) : Int)), (1000002, .hob 3 [] (List.map AV.bool (List.replicate 49 false))), (1000003, .hob 3 [] (List.map AV.bool v29))]) ?_
    refine WO.fn (e2 := z16 [(19, I6 ((k2 + 1 : Nat) : Int)), (1000002, .hob 3 [] (List.map AV.bool (List.replicate 49 false))), (1000003, .hob 3 [] (List.map AV.bool v29))]) ?_
    exact hN2 v29 h
   refine W.block ?_
   refine W.seq ?_
   refine W.rg ?_
   refine WO.pk 0 (if (0 : Int) ≤ (k2 : Int) then ((M6 w11)[Int.toNat (k2 : Int)]?).map AV.ptr else none) (v := .ptr (I6 x2)) (idx_nat (f := (AV.int .i64)) hx2) (e1 := z16 [(19, I6 (k2 : Int)), (21, .ptr (I6 x2)), (1000002, .hob 3 [] (List.map AV.bool (List.replicate 49 false))), (1000003, .hob 3 [] (List.map AV.bool v12))]) ?_
   let z20 := fun t => z3 ((5, I6 x1) :: (7, I6 x2) :: (10, l3 (some 10) w6) :: (11, I6 (w6.length : Int)) :: (12, I6 (k1 : Int)) :: (17, l3 (some 17) w11) :: (18, I6 (w11.length : Int)) :: (19, I6 (k2 : Int)) :: t)
   refine WO.fn (e2 := z20 [(1000002, .hob 3 [] (List.map AV.bool (List.replicate 49 false))), (1000003, .hob 3 [] (List.map AV.bool v12))]) ?_
   refine W.seq ?_
   refine W.rt (e2 := z20 [(23, .int .i64 0), (1000002, .hob 3 [] (List.map AV.bool (List.replicate 49 false))), (1000003, .hob 3 [] (List.map AV.bool v12))]) ?_
   refine W.block ?_
   obtain ⟨hl3, h⟩ := chk_some h
   refine W.wk (env' := z20 [(23, I6 ((0 : Nat) : Int)), (1000002, .hob 3 [] (List.map AV.bool (List.replicate 49 false))), (1000003, .hob 3 [] (List.map AV.bool v12))]) ?_
   refine W.range (σ := ((List Bool))) (List.range (Int.toNat 6)) (fun k3 s => z20 [(23, I6 (k3 : Int)), (1000002, .hob 3 [] (List.map AV.bool (List.replicate 49 false))), (1000003, .hob 3 [] (List.map AV.bool s))]) (fun r0 k0 s => rf5_anti_l3 fuel a1 x1 x2 (rf5_anti_j13 (rf5_anti_l2 fuel a1 x1 (rf5_anti_j8 (rf5_anti_l1 fuel a1 (rf5_anti_j4) r1 (k1 + 1))) r2 (k2 + 1))) r0 k0 s = some r) (fun s h => ?_) (fun x3 r3 k3 s hx3 hk3 h hN3 => ?_) v12 h
   ·obtain ⟨v16, rfl⟩ : ∃ x, x = s := ⟨s, rfl⟩
    have h : rf5_anti_l3 fuel a1 x1 x2 (rf5_anti_j13 (rf5_anti_l2 fuel a1 x1 (rf5_anti_j8 (rf5_anti_l1 fuel a1 (rf5_anti_j4) r1 (k1 + 1))) r2 (k2 + 1))) [] ((List.range (Int.toNat 6))).length v16 = some r := h
    rw [rf5_anti_l3.eq_1] at h
    refine W.seq ?_
    refine W.rg ?_
    let z21 := fun t => z20 ((23, I6 (((List.range (Int.toNat 6))).length : Int)) :: (24, .bool false) :: (1000002, .hob 3 [] (List.map AV.bool (List.replicate 49 false))) :: (1000003, .hob 3 [] (List.map AV.bool v16)) :: t)
    refine WO.pk 0 (some (.bool (decide ((((List.range (Int.toNat 6))).length : Int) < 6)))) (v := .bool false) (by rw [ltr_false (n := 6)]) (e1 := z21 []) ?_
    refine WO.fn (e2 := z21 []) ?_
    refine W.seq ?_
    refine W.cb false (fun h => Bool.noConfusion h) (fun _ => ?_)
    refine W.exit ?_
    refine W.wk (env' := z19 [(1000003, .hob 3 [] (List.map AV.bool v16))]) ?_
    exact hK13 v16 h
   ·obtain ⟨v16, rfl⟩ : ∃ x, x = s := ⟨s, rfl⟩
    have h : rf5_anti_l3 fuel a1 x1 x2 (rf5_anti_j13 (rf5_anti_l2 fuel a1 x1 (rf5_anti_j8 (rf5_anti_l1 fuel a1 (rf5_anti_j4) r1 (k1 + 1))) r2 (k2 + 1))) (x3 :: r3) k3 v16 = some r := h
    rw [rf5_anti_l3.eq_2] at h
    refine W.seq ?_
    refine W.rg ?_
    let z22 := fun t => z20 ((23, I6 (k3 : Int)) :: t)
    let z23 := fun t => z22 ((24, .bool true) :: (1000002, .hob 3 [] (List.map AV.bool (List.replicate 49 false))) :: (1000003, .hob 3 [] (List.map AV.bool v16)) :: t)
    refine WO.pk 0 (some (.bool (decide ((k3 : Int) < 6)))) (v := .bool true) (by rw [ltr_true hk3]) (e1 := z23 []) ?_
    refine WO.fn (e2 := z23 []) ?_
    refine W.seq ?_
    refine W.cb true (fun _ => ?_) (fun h => Bool.noConfusion h)
    refine W.skip ?_
    let z24 := fun t => z22 ((1000002, .hob 3 [] (List.map AV.bool (List.replicate 49 false))) :: t)
    let z25 := fun t => z24 ((1000003, .hob 3 [] (List.map AV.bool v16)) :: t)
    refine W.wk (env' := z25 []) ?_
    refine W.seq ?_
    refine W.join (σ := ((List Bool))) (fun s => z24 [(1000003, .hob 3 [] (List.map AV.bool s))]) (fun s => (rf5_anti_j17 (rf5_anti_l3 fuel a1 x1 x2 (rf5_anti_j13 (rf5_anti_l2 fuel a1 x1 (rf5_anti_j8 (rf5_anti_l1 fuel a1 (rf5_anti_j4) r1 (k1 + 1))) r2 (k2 + 1))) r3 (k3 + 1))) s = some r) (fun s h => ?_) (fun hK17 => ?_)
    ·obtain ⟨v28, rfl⟩ : ∃ x, x = s := ⟨s, rfl⟩
     have h : (rf5_anti_j17 (rf5_anti_l3 fuel a1 x1 x2 (rf5_anti_j13 (rf5_anti_l2 fuel a1 x1 (rf5_anti_j8 (rf5_anti_l1 fuel a1 (rf5_anti_j4) r1 (k1 + 1))) r2 (k2 + 1))) r3 (k3 + 1))) v28 = some r := h
     unfold rf5_anti_j17 at h
     refine W.rg ?_
     refine WO.pk 0 (some (I6 (IntKind.wrap .i64 ((k3 : Int) + 1)))) (v := I6 ((k3 + 1 : Nat) : Int)) (by rw [wrap_succ hl3 hk3]) (e1 := z22 [(54, I6 ((k3 + 1 : Nat) : Int)), (1000002, .hob 3 [] (List.map AV.bool (List.replicate 49 false))), (1000003, .hob 3 [] (List.map AV.bool v28))]) ?_
     refine WO.fn (e2 := z20 [(23, I6 ((k3 + 1 : Nat) : Int)), (1000002, .hob 3 [] (List.map AV.bool (List.replicate 49 false))), (1000003, .hob 3 [] (List.map AV.bool v28))]) ?_
     exact hN3 v28 h
    refine W.block ?_
    refine W.seq ?_
    let z26 := fun t => z3 ((5, I6 x1) :: (7, I6 x2) :: (8, I6 (k3 : Int)) :: (10, l3 (some 10) w6) :: (11, I6 (w6.length : Int)) :: (12, I6 (k1 : Int)) :: (17, l3 (some 17) w11) :: (18, I6 (w11.length : Int)) :: (19, I6 (k2 : Int)) :: (23, I6 (k3 : Int)) :: t)
    refine W.rt (e2 := z26 [(1000002, .hob 3 [] (List.map AV.bool (List.replicate 49 false))), (1000003, .hob 3 [] (List.map AV.bool v16))]) ?_
    refine W.seq ?_
    refine W.join (σ := (Bool)) (fun s => z22 [(49, .bool s), (1000002, .hob 3 [] (List.map AV.bool (List.replicate 49 false))), (1000003, .hob 3 [] (List.map AV.bool v16))]) (fun s => (rf5_anti_j19 x1 x2 v16 (rf5_anti_j17 (rf5_anti_l3 fuel a1 x1 x2 (rf5_anti_j13 (rf5_anti_l2 fuel a1 x1 (rf5_anti_j8 (rf5_anti_l1 fuel a1 (rf5_anti_j4) r1 (k1 + 1))) r2 (k2 + 1))) r3 (k3 + 1)))) s = some r) (fun s h => ?_) (fun hK19 => ?_)
    ·obtain ⟨v24, rfl⟩ : ∃ x, x = s := ⟨s, rfl⟩
     have h : (rf5_anti_j19 x1 x2 v16 (rf5_anti_j17 (rf5_anti_l3 fuel a1 x1 x2 (rf5_anti_j13 (rf5_anti_l2 fuel a1 x1 (rf5_anti_j8 (rf5_anti_l1 fuel a1 (rf5_anti_j4) r1 (k1 + 1))) r2 (k2 + 1))) r3 (k3 + 1)))) v24 = some r := h
     unfold rf5_anti_j19 at h
     refine W.cb v24 (fun hb => ?_) (fun hb => ?_)
     ·replace h := cond_t hb h
      refine W.rg ?_
      obtain ⟨hc25, h⟩ := chk_some h
      let z27 := fun t => z22 ((49, .bool v24) :: (50, I6 x1) :: (51, I6 x2) :: (52, .pb 1000003 (0 + Int.toNat x1 * 7)) :: t)
      refine WO.pi 2 (v := .pb 1000003 (0 + Int.toNat x1 * 7)) hc25 (e1 := z27 [(1000002, .hob 3 [] (List.map AV.bool (List.replicate 49 false))), (1000003, .hob 3 [] (List.map AV.bool v16))]) ?_
      obtain ⟨hc26, h⟩ := chk_some h
      let z28 := fun t => z27 ((53, .pb 1000003 ((0 + Int.toNat x1 * 7) + Int.toNat x2 * 1)) :: (1000002, .hob 3 [] (List.map AV.bool (List.replicate 49 false))) :: t)
      refine WO.pi 0 (v := .pb 1000003 ((0 + Int.toNat x1 * 7) + Int.toNat x2 * 1)) hc26 (e1 := z28 [(1000003, .hob 3 [] (List.map AV.bool v16))]) ?_
      obtain ⟨hc27, h⟩ := chk_some h
      refine WO.setA (enc := AV.bool) (l := v16) (x := true) (s := 1000003) (off := ((0 + Int.toNat x1 * 7) + Int.toNat x2 * 1)) 0 flat_bool hc27 (e1 := z28 [(1000003, .hob 3 [] (List.map AV.bool (v16.set ((0 + Int.toNat x1 * 7) + Int.toNat x2 * 1) true)))]) ?_
      refine WO.fn (e2 := z24 [(1000003, .hob 3 [] (List.map AV.bool (v16.set ((0 + Int.toNat x1 * 7) + Int.toNat x2 * 1) true)))]) ?_
      exact hK17 (v16.set ((0 + Int.toNat x1 * 7) + Int.toNat x2 * 1) true) h
     replace h := cond_f hb h
     refine W.skip ?_
     refine W.wk (env' := z25 []) ?_
     exact hK17 v16 h
    refine W.rg ?_
    let z29 := fun t => z26 ((26, I6 x1) :: (27, I6 x2) :: t)
    refine WO.bk 4 (fun b => z29 [(28, .bool b), (29, .bool b), (1000002, .hob 3 [] (List.map AV.bool (List.replicate 49 false))), (1000003, .hob 3 [] (List.map AV.bool v16))]) (x1 != x2) (fun hb => ?_) (fun hb => ?_)
    ·replace h := cond_t hb h
     obtain ⟨w20, hw20, h⟩ := bind_some h
     let z30 := fun t => z29 ((28, .bool true) :: (29, .bool true) :: (30, l43 none a1) :: (31, I6 x1) :: (32, I6 (k3 : Int)) :: t)
     refine WO.ck 3 (F := 112) (l := [l43 none a1, I6 x1, I6 (k3 : Int)]) (C := []) (r := .bool w20) (run_rf5_reads a1 x1 (k3 : Int) w20 hw20) (e1 := z30 [(33, .bool w20), (1000002, .hob 3 [] (List.map AV.bool (List.replicate 49 false))), (1000003, .hob 3 [] (List.map AV.bool v16))]) ?_
     refine WO.bk 2 (fun b => z30 [(33, .bool b), (34, .bool b), (35, .bool b), (1000002, .hob 3 [] (List.map AV.bool (List.replicate 49 false))), (1000003, .hob 3 [] (List.map AV.bool v16))]) w20 (fun hb => ?_) (fun hb => ?_)
     ·replace h := cond_t hb h
      obtain ⟨w21, hw21, h⟩ := bind_some h
      let z31 := fun t => z30 ((33, .bool true) :: (34, .bool true) :: (35, .bool true) :: (36, l43 none a1) :: (37, I6 x2) :: (38, I6 (k3 : Int)) :: t)
      refine WO.ck 3 (F := 87) (l := [l43 none a1, I6 x2, I6 (k3 : Int)]) (C := []) (r := .bool w21) (run_rf5_writes a1 x2 (k3 : Int) w21 hw21) (e1 := z31 [(39, .bool w21), (1000002, .hob 3 [] (List.map AV.bool (List.replicate 49 false))), (1000003, .hob 3 [] (List.map AV.bool v16))]) ?_
      refine WO.bk 2 (fun b => z31 [(39, .bool b), (40, .bool b), (41, .bool b), (1000002, .hob 3 [] (List.map AV.bool (List.replicate 49 false))), (1000003, .hob 3 [] (List.map AV.bool v16))]) w21 (fun hb => ?_) (fun hb => ?_)
      ·replace h := cond_t hb h
       obtain ⟨w22, hw22, h⟩ := bind_some h
       let z32 := fun t => z31 ((39, .bool true) :: (40, .bool true) :: (41, .bool true) :: (42, l43 none a1) :: (43, I6 x2) :: (44, I6 w22) :: t)
       refine WO.ck 2 (F := 61) (l := [l43 none a1, I6 x2, .int .i64 2]) (C := []) (r := I6 w22) (run_rf5_end a1 x2 2 w22 hw22) (e1 := z32 [(1000002, .hob 3 [] (List.map AV.bool (List.replicate 49 false))), (1000003, .hob 3 [] (List.map AV.bool v16))]) ?_
       obtain ⟨w23, hw23, h⟩ := bind_some h
       refine WO.ck 2 (F := 111) (l := [l43 none a1, I6 x1]) (C := []) (r := I6 w23) (run_rf5_begin fuel a1 x1 w23 hw23) (e1 := z32 [(45, l43 none a1), (46, I6 x1), (47, I6 w23), (1000002, .hob 3 [] (List.map AV.bool (List.replicate 49 false))), (1000003, .hob 3 [] (List.map AV.bool v16))]) ?_
       refine WO.fn (e2 := z22 [(49, .bool (decide (w22 > w23))), (1000002, .hob 3 [] (List.map AV.bool (List.replicate 49 false))), (1000003, .hob 3 [] (List.map AV.bool v16))]) ?_
       exact hK19 (decide (w22 > w23)) h
      replace h := cond_f hb h
      refine WO.fn (e2 := z22 [(49, .bool false), (1000002, .hob 3 [] (List.map AV.bool (List.replicate 49 false))), (1000003, .hob 3 [] (List.map AV.bool v16))]) ?_
      exact hK19 false h
     replace h := cond_f hb h
     refine WO.fn (e2 := z22 [(49, .bool false), (1000002, .hob 3 [] (List.map AV.bool (List.replicate 49 false))), (1000003, .hob 3 [] (List.map AV.bool v16))]) ?_
     exact hK19 false h
    replace h := cond_f hb h
    refine WO.fn (e2 := z22 [(49, .bool false), (1000002, .hob 3 [] (List.map AV.bool (List.replicate 49 false))), (1000003, .hob 3 [] (List.map AV.bool v16))]) ?_
    exact hK19 false h
def rf5_all_j8 (v55 : (List Bool)) : Option (List Bool) :=
 (chk (decide (v55.length = 49)) (chk (decide (v55.length = 49 ∧ (List.replicate 49 false).length = 49)) (chk (decide (v55.length = 49)) (some v55))))
def rf5_all_j11 (N1 : ((List Bool) → Option (List Bool))) (v54 : (List Bool)) : Option (List Bool) :=
 (N1 v54)
def rf5_all_j15 (N2 : ((List Bool) → Option (List Bool))) (v53 : (List Bool)) : Option (List Bool) :=
 (N2 v53)
def rf5_all_j47 (x1 : Int) (v45 : (List Bool)) (v46 : Int) (K15 : ((List Bool) → Option (List Bool))) (v49 : Bool) : Option (List Bool) :=
 (bif v49 then (chk (decide ((0 : Int) ≤ v46 ∧ v46 < ((7 : Nat) : Int) ∧ 0 < 7)) (chk (decide ((0 : Int) ≤ x1 ∧ x1 < ((7 : Nat) : Int) ∧ 0 < 1)) (chk (decide (((0 + Int.toNat v46 * 7) + Int.toNat x1 * 1) < v45.length)) (K15 (v45.set ((0 + Int.toNat v46 * 7) + Int.toNat x1 * 1) true))))) else (K15 v45))
def rf5_all_j18 (a1 : (List rf5Op)) (x1 : Int) (k2 : Nat) (K15 : ((List Bool) → Option (List Bool))) (v45 : (List Bool)) (v46 : Int) : Option (List Bool) :=
 (bif (decide (v46 > 0)) then ((rf5_reads a1 x1 (k2 : Int)).bind fun w48 => ((rf5_all_j47 x1 v45 v46 K15) w48)) else ((rf5_all_j47 x1 v45 v46 K15) false))
def rf5_all_j22 (N3 : ((List Bool) → Int → Option (List Bool))) (v43 : (List Bool)) (v44 : Int) : Option (List Bool) :=
 (N3 v43 v44)
def rf5_all_j37 (x3 : Int) (v21 : Int) (v36 : (List Bool)) (K22 : ((List Bool) → Int → Option (List Bool))) (v42 : Bool) : Option (List Bool) :=
 (bif v42 then (K22 v36 x3) else (K22 v36 v21))
def rf5_all_j27 (fuel : Nat) (a1 : (List rf5Op)) (x1 : Int) (x3 : Int) (v21 : Int) (K22 : ((List Bool) → Int → Option (List Bool))) (v36 : (List Bool)) : Option (List Bool) :=
 ((rf5_end a1 x3 2).bind fun w38 => ((rf5_begin fuel a1 x1).bind fun w39 => (bif (decide (w38 < w39)) then (bif (v21 == 0) then ((rf5_all_j37 x3 v21 v36 K22) true) else ((rf5_end a1 x3 2).bind fun w40 => ((rf5_end a1 v21 2).bind fun w41 => ((rf5_all_j37 x3 v21 v36 K22) (decide (w40 > w41)))))) else ((rf5_all_j37 x3 v21 v36 K22) false))))
def rf5_all_j28 (x1 : Int) (x3 : Int) (v20 : (List Bool)) (K27 : ((List Bool) → Option (List Bool))) (v32 : Bool) : Option (List Bool) :=
 (bif v32 then (chk (decide ((0 : Int) ≤ x3 ∧ x3 < ((7 : Nat) : Int) ∧ 0 < 7)) (chk (decide ((0 : Int) ≤ x1 ∧ x1 < ((7 : Nat) : Int) ∧ 0 < 1)) (chk (decide (((0 + Int.toNat x3 * 7) + Int.toNat x1 * 1) < v20.length)) (K27 (v20.set ((0 + Int.toNat x3 * 7) + Int.toNat x1 * 1) true))))) else (K27 v20))
def rf5_all_j24 (fuel : Nat) (a1 : (List rf5Op)) (x1 : Int) (k2 : Nat) (x3 : Int) (v20 : (List Bool)) (v21 : Int) (K22 : ((List Bool) → Int → Option (List Bool))) (v26 : Bool) : Option (List Bool) :=
 (bif v26 then ((rf5_writes a1 x1 (k2 : Int)).bind fun w29 => (bif w29 then ((rf5_end a1 x3 2).bind fun w30 => ((rf5_end a1 x1 2).bind fun w31 => ((rf5_all_j28 x1 x3 v20 (rf5_all_j27 fuel a1 x1 x3 v21 K22)) (decide (w30 < w31))))) else ((rf5_all_j28 x1 x3 v20 (rf5_all_j27 fuel a1 x1 x3 v21 K22)) false))) else (K22 v20 v21))
def rf5_all_l3 (fuel : Nat) (a1 : (List rf5Op)) (x1 : Int) (k2 : Nat) (K18 : ((List Bool) → Int → Option (List Bool))) : List Int → Nat → (List Bool) → Int → Option (List Bool)
 | [], k3, v20, v21 => (K18 v20 v21)
 | x3 :: r3, k3, v20, v21 => (bif (x3 != x1) then ((rf5_writes a1 x3 (k2 : Int)).bind fun w25 => ((rf5_all_j24 fuel a1 x1 k2 x3 v20 v21 (rf5_all_j22 (rf5_all_l3 fuel a1 x1 k2 K18 r3 (k3 + 1)))) w25)) else ((rf5_all_j24 fuel a1 x1 k2 x3 v20 v21 (rf5_all_j22 (rf5_all_l3 fuel a1 x1 k2 K18 r3 (k3 + 1)))) false))
def rf5_all_l2 (fuel : Nat) (a1 : (List rf5Op)) (x1 : Int) (w7 : (List Int)) (K11 : ((List Bool) → Option (List Bool))) : List Nat → Nat → (List Bool) → Option (List Bool)
 | [], k2, v14 => (K11 v14)
 | x2 :: r2, k2, v14 => (chk (lenOk w7) (rf5_all_l3 fuel a1 x1 k2 (rf5_all_j18 a1 x1 k2 (rf5_all_j15 (rf5_all_l2 fuel a1 x1 w7 K11 r2 (k2 + 1)))) w7 0 v14 0))
def rf5_all_l1 (fuel : Nat) (a1 : (List rf5Op)) (w7 : (List Int)) (K8 : ((List Bool) → Option (List Bool))) : List Int → Nat → (List Bool) → Option (List Bool)
 | [], k1, v10 => (K8 v10)
 | x1 :: r1, k1, v10 => (chk (lenOk (List.range (Int.toNat 6))) (rf5_all_l2 fuel a1 x1 w7 (rf5_all_j11 (rf5_all_l1 fuel a1 w7 K8 r1 (k1 + 1))) (List.range (Int.toNat 6)) 0 v10))
def rf5_all (fuel : Nat) (a1 : (List rf5Op)) : Option (List Bool) :=
 ((rf5_anti fuel a1).bind fun w4 => (chk (decide (w4.length = 49 ∧ (List.replicate 49 false).length = 49)) ((rf5_committed fuel a1).bind fun w7 => (chk (lenOk w7) (rf5_all_l1 fuel a1 w7 (rf5_all_j8) w7 0 w4)))))
theorem run_rf5_all (fuel : Nat) (a1 : (List rf5Op)) (r : (List Bool)) (h : rf5_all fuel a1 = some r) : Run Try.prog (.call 84 [l43 none a1] (.agg (List.map AV.bool r))) := by
 refine cW Try.func84 rfl (env0 := [(0, l43 none a1)]) ?_
 unfold rf5_all at h
 refine W.seq ?_
 refine W.rg ?_
 let z0 := fun t => EN ((0, l43 none a1) :: t)
 refine WO.steps 1 (e1 := z0 [(2, .box [.bool false, .bool false, .bool false, .bool false, .bool false, .bool false, .bool false, .bool false, .bool false, .bool false, .bool false, .bool false, .bool false, .bool false, .bool false, .bool false, .bool false, .bool false, .bool false, .bool false, .bool false, .bool false, .bool false, .bool false, .bool false, .bool false, .bool false, .bool false, .bool false, .bool false, .bool false, .bool false, .bool false, .bool false, .bool false, .bool false, .bool false, .bool false, .bool false, .bool false, .bool false, .bool false, .bool false, .bool false, .bool false, .bool false, .bool false, .bool false, .bool false])]) (by kernel_rfl) ?_
 let z1 := fun t => z0 ((2, .pb 1000002 0) :: t)
 let z2 := fun t => z1 ((1000002, .hob 3 [] (List.map AV.bool (List.replicate 49 false))) :: t)
 refine WO.mv [.arr 2] (env' := z2 []) (by kernel_rfl) ?_
 refine WO.fn (e2 := z2 []) ?_
 refine W.seq ?_
 refine W.rg ?_
 obtain ⟨w4, hw4, h⟩ := bind_some h
 refine WO.ck 1 (F := 85) (l := [l43 none a1]) (C := []) (r := .agg (List.map AV.bool w4)) (run_rf5_anti fuel a1 w4 hw4) (e1 := z1 [(11, l43 none a1), (12, .agg (List.map AV.bool w4)), (1000002, .hob 3 [] (List.map AV.bool (List.replicate 49 false)))]) ?_
 refine WO.steps 1 (e1 := z1 [(3, .box [.bool false, .bool false, .bool false, .bool false, .bool false, .bool false, .bool false, .bool false, .bool false, .bool false, .bool false, .bool false, .bool false, .bool false, .bool false, .bool false, .bool false, .bool false, .bool false, .bool false, .bool false, .bool false, .bool false, .bool false, .bool false, .bool false, .bool false, .bool false, .bool false, .bool false, .bool false, .bool false, .bool false, .bool false, .bool false, .bool false, .bool false, .bool false, .bool false, .bool false, .bool false, .bool false, .bool false, .bool false, .bool false, .bool false, .bool false, .bool false, .bool false]), (11, l43 none a1), (12, .agg (List.map AV.bool w4)), (1000002, .hob 3 [] (List.map AV.bool (List.replicate 49 false)))]) (by kernel_rfl) ?_
 let z3 := fun t => z1 ((3, .pb 1000003 0) :: t)
 let z4 := fun t => z3 ((11, l43 none a1) :: (12, .agg (List.map AV.bool w4)) :: (1000002, .hob 3 [] (List.map AV.bool (List.replicate 49 false))) :: t)
 refine WO.mv [.arr 3] (env' := z4 [(1000003, .hob 3 [] (List.map AV.bool (List.replicate 49 false)))]) (by kernel_rfl) ?_
 obtain ⟨hc5, h⟩ := chk_some h
 refine WO.storeA (enc := AV.bool) (l := w4) (l' := (List.replicate 49 false)) (s := 1000003) (sz := 49) 0 flat_bool hc5 (e1 := z4 [(1000003, .hob 3 [] (List.map AV.bool w4))]) ?_
 refine WO.fn (e2 := z3 [(1000002, .hob 3 [] (List.map AV.bool (List.replicate 49 false))), (1000003, .hob 3 [] (List.map AV.bool w4))]) ?_
 refine W.seq ?_
 refine W.rg ?_
 obtain ⟨w7, hw7, h⟩ := bind_some h
 refine WO.ck 1 (F := 57) (l := [l43 none a1]) (C := []) (r := l3 (some 1) w7) (run_rf5_committed fuel a1 w7 hw7) (e1 := z3 [(13, l43 none a1), (14, l3 (some 14) w7), (1000002, .hob 3 [] (List.map AV.bool (List.replicate 49 false))), (1000003, .hob 3 [] (List.map AV.bool w4))]) ?_
 let z5 := fun t => z3 ((4, l3 (some 14) w7) :: t)
 refine WO.fn (e2 := z5 [(1000002, .hob 3 [] (List.map AV.bool (List.replicate 49 false))), (1000003, .hob 3 [] (List.map AV.bool w4))]) ?_
 refine W.seq ?_
 let z6 := fun t => EN ((2, .pb 1000002 0) :: (3, .pb 1000003 0) :: t)
 let z7 := fun t => z6 ((1000002, .hob 3 [] (List.map AV.bool (List.replicate 49 false))) :: t)
 refine W.join (σ := ((List Bool))) (fun s => z7 [(1000003, .hob 3 [] (List.map AV.bool s))]) (fun s => (rf5_all_j8) s = some r) (fun s h => ?_) (fun hK8 => ?_)
 ·obtain ⟨v55, rfl⟩ : ∃ x, x = s := ⟨s, rfl⟩
  have h : (rf5_all_j8) v55 = some r := h
  unfold rf5_all_j8 at h
  refine W.seq ?_
  refine W.rg ?_
  obtain ⟨hc57, h⟩ := chk_some h
  let z8 := fun t => z6 ((92, .agg (List.map AV.bool v55)) :: t)
  refine WO.pk 0 (cut Try.prog 79 (List.map AV.bool v55) 0) (v := .agg (List.map AV.bool v55)) (cut_whole flat_bool (sz := 49) (by kernel_rfl) (of_decide_eq_true hc57)) (e1 := z8 [(1000002, .hob 3 [] (List.map AV.bool (List.replicate 49 false))), (1000003, .hob 3 [] (List.map AV.bool v55))]) ?_
  obtain ⟨hc58, h⟩ := chk_some h
  refine WO.storeA (enc := AV.bool) (l := v55) (l' := (List.replicate 49 false)) (s := 1000002) (sz := 49) 0 flat_bool hc58 (e1 := z8 [(1000002, .hob 3 [] (List.map AV.bool v55)), (1000003, .hob 3 [] (List.map AV.bool v55))]) ?_
  let z9 := fun t => EN ((2, .pb 1000002 0) :: (1000002, .hob 3 [] (List.map AV.bool v55)) :: t)
  refine WO.fn (e2 := z9 []) ?_
  refine W.wk (env' := z9 []) ?_
  obtain ⟨hn59, h⟩ := chk_some h
  have hr : aresults Try.prog Try.f84 [(2, .pb 1000002 0), (1000002, .hob 3 [] (List.map AV.bool v55))] = some (.agg (List.map AV.bool v55)) := (by kernel_rfl : aresults Try.prog Try.f84 [(2, .pb 1000002 0), (1000002, .hob 3 [] (List.map AV.bool v55))] = (cut Try.prog 79 (List.map AV.bool v55) 0).map AV.strip).trans (by rw [cut_whole flat_bool (sz := 49) (by kernel_rfl) (of_decide_eq_true hn59)]; rfl)
  cases h
  exact W.ret hr
 refine W.seq ?_
 refine W.rg ?_
 let z10 := fun t => z5 ((15, l3 (some 14) w7) :: (16, I6 (w7.length : Int)) :: t)
 refine WO.pk 1 (some (I6 ((M6 w7).length : Int))) (v := I6 (w7.length : Int)) (by rw [List.length_map]) (e1 := z10 [(1000002, .hob 3 [] (List.map AV.bool (List.replicate 49 false))), (1000003, .hob 3 [] (List.map AV.bool w4))]) ?_
 refine WO.fn (e2 := z10 [(17, .int .i64 0), (1000002, .hob 3 [] (List.map AV.bool (List.replicate 49 false))), (1000003, .hob 3 [] (List.map AV.bool w4))]) ?_
 refine W.block ?_
 obtain ⟨hl1, h⟩ := chk_some h
 refine W.wk (env' := z10 [(17, I6 ((0 : Nat) : Int)), (1000002, .hob 3 [] (List.map AV.bool (List.replicate 49 false))), (1000003, .hob 3 [] (List.map AV.bool w4))]) ?_
 refine W.range (σ := ((List Bool))) w7 (fun k1 s => z10 [(17, I6 (k1 : Int)), (1000002, .hob 3 [] (List.map AV.bool (List.replicate 49 false))), (1000003, .hob 3 [] (List.map AV.bool s))]) (fun r0 k0 s => rf5_all_l1 fuel a1 w7 (rf5_all_j8) r0 k0 s = some r) (fun s h => ?_) (fun x1 r1 k1 s hx1 hk1 h hN1 => ?_) w4 h
 ·obtain ⟨v10, rfl⟩ : ∃ x, x = s := ⟨s, rfl⟩
  have h : rf5_all_l1 fuel a1 w7 (rf5_all_j8) [] (w7).length v10 = some r := h
  rw [rf5_all_l1.eq_1] at h
  refine W.seq ?_
  refine W.rg ?_
  let z11 := fun t => z10 ((17, I6 ((w7).length : Int)) :: (18, .bool false) :: (1000002, .hob 3 [] (List.map AV.bool (List.replicate 49 false))) :: (1000003, .hob 3 [] (List.map AV.bool v10)) :: t)
  refine WO.pk 0 (some (.bool (decide (((w7).length : Int) < (w7.length : Int))))) (v := .bool false) (by rw [lt_false (l := w7)]) (e1 := z11 []) ?_
  refine WO.fn (e2 := z11 []) ?_
  refine W.seq ?_
  refine W.cb false (fun h => Bool.noConfusion h) (fun _ => ?_)
  refine W.exit ?_
  refine W.wk (env' := z7 [(1000003, .hob 3 [] (List.map AV.bool v10))]) ?_
  exact hK8 v10 h
 ·obtain ⟨v10, rfl⟩ : ∃ x, x = s := ⟨s, rfl⟩
  have h : rf5_all_l1 fuel a1 w7 (rf5_all_j8) (x1 :: r1) k1 v10 = some r := h
  rw [rf5_all_l1.eq_2] at h
  refine W.seq ?_
  refine W.rg ?_
  let z12 := fun t => z10 ((17, I6 (k1 : Int)) :: (18, .bool true) :: (1000002, .hob 3 [] (List.map AV.bool (List.replicate 49 false))) :: (1000003, .hob 3 [] (List.map AV.bool v10)) :: t)
  refine WO.pk 0 (some (.bool (decide ((k1 : Int) < (w7.length : Int))))) (v := .bool true) (by rw [lt_true hk1]) (e1 := z12 []) ?_
  refine WO.fn (e2 := z12 []) ?_
  refine W.seq ?_
  refine W.cb true (fun _ => ?_) (fun h => Bool.noConfusion h)
  refine W.skip ?_
  let z13 := fun t => z10 ((17, I6 (k1 : Int)) :: (1000002, .hob 3 [] (List.map AV.bool (List.replicate 49 false))) :: t)
  refine W.wk (env' := z13 [(1000003, .hob 3 [] (List.map AV.bool v10))]) ?_
  refine W.seq ?_
  refine W.join (σ := ((List Bool))) (fun s => z13 [(1000003, .hob 3 [] (List.map AV.bool s))]) (fun s => (rf5_all_j11 (rf5_all_l1 fuel a1 w7 (rf5_all_j8) r1 (k1 + 1))) s = some r) (fun s h => ?_) (fun hK11 => ?_)
  ·obtain ⟨v54, rfl⟩ : ∃ x, x = s := ⟨s, rfl⟩
   have h : (rf5_all_j11 (rf5_all_l1 fuel a1 w7 (rf5_all_j8) r1 (k1 + 1))) v54 = some r := h
   unfold rf5_all_j11 at h
   refine W.rg ?_
   refine WO.pk 0 (some (I6 (IntKind.wrap .i64 ((k1 : Int) + 1)))) (v := I6 ((k1 + 1 : Nat) : Int)) (by rw [wrap_succ hl1 hk1]) (e1 := z10 [(17, I6 (k1 : Int)), (91, I6 ((k1 + 1 : Nat) : Int)), (1000002, .hob 3 [] (List.map AV.bool (List.replicate 49 false))), (1000003, .hob 3 [] (List.map AV.bool v54))]) ?_
   refine WO.fn (e2 := z10 [(17, I6 ((k1 + 1 : Nat) : Int)), (1000002, .hob 3 [] (List.map AV.bool (List.replicate 49 false))), (1000003, .hob 3 [] (List.map AV.bool v54))]) ?_
   exact hN1 v54 h
  refine W.block ?_
  refine W.seq ?_
  refine W.rg ?_
  refine WO.pk 0 (if (0 : Int) ≤ (k1 : Int) then ((M6 w7)[Int.toNat (k1 : Int)]?).map AV.ptr else none) (v := .ptr (I6 x1)) (idx_nat (f := (AV.int .i64)) hx1) (e1 := z10 [(17, I6 (k1 : Int)), (19, .ptr (I6 x1)), (1000002, .hob 3 [] (List.map AV.bool (List.replicate 49 false))), (1000003, .hob 3 [] (List.map AV.bool v10))]) ?_
  let z14 := fun t => z5 ((6, I6 x1) :: (15, l3 (some 14) w7) :: (16, I6 (w7.length : Int)) :: (17, I6 (k1 : Int)) :: t)
  refine WO.fn (e2 := z14 [(1000002, .hob 3 [] (List.map AV.bool (List.replicate 49 false))), (1000003, .hob 3 [] (List.map AV.bool v10))]) ?_
  refine W.seq ?_
  refine W.rt (e2 := z14 [(21, .int .i64 0), (1000002, .hob 3 [] (List.map AV.bool (List.replicate 49 false))), (1000003, .hob 3 [] (List.map AV.bool v10))]) ?_
  refine W.block ?_
  obtain ⟨hl2, h⟩ := chk_some h
  refine W.wk (env' := z14 [(21, I6 ((0 : Nat) : Int)), (1000002, .hob 3 [] (List.map AV.bool (List.replicate 49 false))), (1000003, .hob 3 [] (List.map AV.bool v10))]) ?_
  refine W.range (σ := ((List Bool))) (List.range (Int.toNat 6)) (fun k2 s => z14 [(21, I6 (k2 : Int)), (1000002, .hob 3 [] (List.map AV.bool (List.replicate 49 false))), (1000003, .hob 3 [] (List.map AV.bool s))]) (fun r0 k0 s => rf5_all_l2 fuel a1 x1 w7 (rf5_all_j11 (rf5_all_l1 fuel a1 w7 (rf5_all_j8) r1 (k1 + 1))) r0 k0 s = some r) (fun s h => ?_) (fun x2 r2 k2 s hx2 hk2 h hN2 => ?_) v10 h
  ·obtain ⟨v14, rfl⟩ : ∃ x, x = s := ⟨s, rfl⟩
   have h : rf5_all_l2 fuel a1 x1 w7 (rf5_all_j11 (rf5_all_l1 fuel a1 w7 (rf5_all_j8) r1 (k1 + 1))) [] ((List.range (Int.toNat 6))).length v14 = some r := h
   rw [rf5_all_l2.eq_1] at h
   refine W.seq ?_
   refine W.rg ?_
   let z15 := fun t => z14 ((21, I6 (((List.range (Int.toNat 6))).length : Int)) :: (22, .bool false) :: (1000002, .hob 3 [] (List.map AV.bool (List.replicate 49 false))) :: (1000003, .hob 3 [] (List.map AV.bool v14)) :: t)
   refine WO.pk 0 (some (.bool (decide ((((List.range (Int.toNat 6))).length : Int) < 6)))) (v := .bool false) (by rw [ltr_false (n := 6)]) (e1 := z15 []) ?_
   refine WO.fn (e2 := z15 []) ?_
   refine W.seq ?_
   refine W.cb false (fun h => Bool.noConfusion h) (fun _ => ?_)
   refine W.exit ?_
   refine W.wk (env' := z13 [(1000003, .hob 3 [] (List.map AV.bool v14))]) ?_
   exact hK11 v14 h
  ·obtain ⟨v14, rfl⟩ : ∃ x, x = s := ⟨s, rfl⟩
   have h : rf5_all_l2 fuel a1 x1 w7 (rf5_all_j11 (rf5_all_l1 fuel a1 w7 (rf5_all_j8) r1 (k1 + 1))) (x2 :: r2) k2 v14 = some r := h
   rw [rf5_all_l2.eq_2] at h
   refine W.seq ?_
   refine W.rg ?_
   let z16 := fun t => z14 ((21, I6 (k2 : Int)) :: (22, .bool true) :: (1000002, .hob 3 [] (List.map AV.bool (List.replicate 49 false))) :: (1000003, .hob 3 [] (List.map AV.bool v14)) :: t)
   refine WO.pk 0 (some (.bool (decide ((k2 : Int) < 6)))) (v := .bool true) (by rw [ltr_true hk2]) (e1 := z16 []) ?_
   refine WO.fn (e2 := z16 []) ?_
   refine W.seq ?_
   refine W.cb true (fun _ => ?_) (fun h => Bool.noConfusion h)
   refine W.skip ?_
   let z17 := fun t => z14 ((21, I6 (k2 : Int)) :: (1000002, .hob 3 [] (List.map AV.bool (List.replicate 49 false))) :: t)
   refine W.wk (env' := z17 [(1000003, .hob 3 [] (List.map AV.bool v14))]) ?_
   refine W.seq ?_
   refine W.join (σ := ((List Bool))) (fun s => z17 [(1000003, .hob 3 [] (List.map AV.bool s))]) (fun s => (rf5_all_j15 (rf5_all_l2 fuel a1 x1 w7 (rf5_all_j11 (rf5_all_l1 fuel a1 w7 (rf5_all_j8) r1 (k1 + 1))) r2 (k2 + 1))) s = some r) (fun s h => ?_) (fun hK15 => ?_)
   ·obtain ⟨v53, rfl⟩ : ∃ x, x = s := ⟨s, rfl⟩
    have h : (rf5_all_j15 (rf5_all_l2 fuel a1 x1 w7 (rf5_all_j11 (rf5_all_l1 fuel a1 w7 (rf5_all_j8) r1 (k1 + 1))) r2 (k2 + 1))) v53 = some r := h
    unfold rf5_all_j15 at h
    refine W.rg ?_
    refine WO.pk 0 (some (I6 (IntKind.wrap .i64 ((k2 : Int) + 1)))) (v := I6 ((k2 + 1 : Nat) : Int)) (by rw [wrap_succ hl2 hk2]) (e1 := z14 [(21, I6 (k2 : Int)), (90, I6 ((k2 + 1 : Nat) : Int)), (1000002, .hob 3 [] (List.map AV.bool (List.replicate 49 false))), (1000003, .hob 3 [] (List.map AV.bool v53))]) ?_
    refine WO.fn (e2 := z14 [(21, I6 ((k2 + 1 : Nat) : Int)), (1000002, .hob 3 [] (List.map AV.bool (List.replicate 49 false))), (1000003, .hob 3 [] (List.map AV.bool v53))]) ?_
    exact hN2 v53 h
   refine W.block ?_
   refine W.seq ?_
   let z18 := fun t => z5 ((6, I6 x1) :: (7, I6 (k2 : Int)) :: t)
   refine W.rt (e2 := z18 [(15, l3 (some 14) w7), (16, I6 (w7.length : Int)), (17, I6 (k1 : Int)), (21, I6 (k2 : Int)), (1000002, .hob 3 [] (List.map AV.bool (List.replicate 49 false))), (1000003, .hob 3 [] (List.map AV.bool v14))]) ?_
   refine W.seq ?_
   let z19 := fun t => z18 ((8, .int .i64 0) :: (15, l3 (some 14) w7) :: (16, I6 (w7.length : Int)) :: (17, I6 (k1 : Int)) :: (21, I6 (k2 : Int)) :: t)
   refine W.rt (e2 := z19 [(1000002, .hob 3 [] (List.map AV.bool (List.replicate 49 false))), (1000003, .hob 3 [] (List.map AV.bool v14))]) ?_
   refine W.seq ?_
   refine W.join (σ := ((List Bool) × Int)) (fun s => z18 [(8, I6 s.2), (15, l3 (some 14) w7), (16, I6 (w7.length : Int)), (17, I6 (k1 : Int)), (21, I6 (k2 : Int)), (1000002, .hob 3 [] (List.map AV.bool (List.replicate 49 false))), (1000003, .hob 3 [] (List.map AV.bool s.1))]) (fun s => (rf5_all_j18 a1 x1 k2 (rf5_all_j15 (rf5_all_l2 fuel a1 x1 w7 (rf5_all_j11 (rf5_all_l1 fuel a1 w7 (rf5_all_j8) r1 (k1 + 1))) r2 (k2 + 1)))) s.1 s.2 = some r) (fun s h => ?_) (fun hK18 => ?_)
   ·obtain ⟨v45, v46⟩ := s
    have h : (rf5_all_j18 a1 x1 k2 (rf5_all_j15 (rf5_all_l2 fuel a1 x1 w7 (rf5_all_j11 (rf5_all_l1 fuel a1 w7 (rf5_all_j8) r1 (k1 + 1))) r2 (k2 + 1)))) v45 v46 = some r := h
    unfold rf5_all_j18 at h
    refine W.seq ?_
    let z20 := fun t => z5 ((6, I6 x1) :: (8, I6 v46) :: (15, l3 (some 14) w7) :: (16, I6 (w7.length : Int)) :: (17, I6 (k1 : Int)) :: (21, I6 (k2 : Int)) :: t)
    refine W.join (σ := (Bool)) (fun s => z20 [(85, .bool s), (1000002, .hob 3 [] (List.map AV.bool (List.replicate 49 false))), (1000003, .hob 3 [] (List.map AV.bool v45))]) (fun s => (rf5_all_j47 x1 v45 v46 (rf5_all_j15 (rf5_all_l2 fuel a1 x1 w7 (rf5_all_j11 (rf5_all_l1 fuel a1 w7 (rf5_all_j8) r1 (k1 + 1))) r2 (k2 + 1)))) s = some r) (fun s h => ?_) (fun hK47 => ?_)
    ·obtain ⟨v49, rfl⟩ : ∃ x, x = s := ⟨s, rfl⟩
     have h : (rf5_all_j47 x1 v45 v46 (rf5_all_j15 (rf5_all_l2 fuel a1 x1 w7 (rf5_all_j11 (rf5_all_l1 fuel a1 w7 (rf5_all_j8) r1 (k1 + 1))) r2 (k2 + 1)))) v49 = some r := h
     unfold rf5_all_j47 at h
     refine W.cb v49 (fun hb => ?_) (fun hb => ?_)
     ·replace h := cond_t hb h
      refine W.rg ?_
      obtain ⟨hc50, h⟩ := chk_some h
      let z21 := fun t => z20 ((85, .bool v49) :: (86, I6 v46) :: (87, I6 x1) :: (88, .pb 1000003 (0 + Int.toNat v46 * 7)) :: t)
      refine WO.pi 2 (v := .pb 1000003 (0 + Int.toNat v46 * 7)) hc50 (e1 := z21 [(1000002, .hob 3 [] (List.map AV.bool (List.replicate 49 false))), (1000003, .hob 3 [] (List.map AV.bool v45))]) ?_
      obtain ⟨hc51, h⟩ := chk_some h
      let z22 := fun t => z21 ((89, .pb 1000003 ((0 + Int.toNat v46 * 7) + Int.toNat x1 * 1)) :: (1000002, .hob 3 [] (List.map AV.bool (List.replicate 49 false))) :: t)
      refine WO.pi 0 (v := .pb 1000003 ((0 + Int.toNat v46 * 7) + Int.toNat x1 * 1)) hc51 (e1 := z22 [(1000003, .hob 3 [] (List.map AV.bool v45))]) ?_
      obtain ⟨hc52, h⟩ := chk_some h
      refine WO.setA (enc := AV.bool) (l := v45) (x := true) (s := 1000003) (off := ((0 + Int.toNat v46 * 7) + Int.toNat x1 * 1)) 0 flat_bool hc52 (e1 := z22 [(1000003, .hob 3 [] (List.map AV.bool (v45.set ((0 + Int.toNat v46 * 7) + Int.toNat x1 * 1) true)))]) ?_
      refine WO.fn (e2 := z17 [(1000003, .hob 3 [] (List.map AV.bool (v45.set ((0 + Int.toNat v46 * 7) + Int.toNat x1 * 1) true)))]) ?_
      exact hK15 (v45.set ((0 + Int.toNat v46 * 7) + Int.toNat x1 * 1) true) h
     replace h := cond_f hb h
     refine W.skip ?_
     refine W.wk (env' := z17 [(1000003, .hob 3 [] (List.map AV.bool v45))]) ?_
     exact hK15 v45 h
    refine W.rg ?_
    let z23 := fun t => z18 ((8, I6 v46) :: (15, l3 (some 14) w7) :: (16, I6 (w7.length : Int)) :: (17, I6 (k1 : Int)) :: (21, I6 (k2 : Int)) :: (78, I6 v46) :: t)
    refine WO.bk 3 (fun b => z23 [(79, .bool b), (80, .bool b), (1000002, .hob 3 [] (List.map AV.bool (List.replicate 49 false))), (1000003, .hob 3 [] (List.map AV.bool v45))]) (decide (v46 > 0)) (fun hb => ?_) (fun hb => ?_)
    ·replace h := cond_t hb h
     obtain ⟨w48, hw48, h⟩ := bind_some h
     refine WO.ck 3 (F := 112) (l := [l43 none a1, I6 x1, I6 (k2 : Int)]) (C := []) (r := .bool w48) (run_rf5_reads a1 x1 (k2 : Int) w48 hw48) (e1 := z23 [(79, .bool true), (80, .bool true), (81, l43 none a1), (82, I6 x1), (83, I6 (k2 : Int)), (84, .bool w48), (1000002, .hob 3 [] (List.map AV.bool (List.replicate 49 false))), (1000003, .hob 3 [] (List.map AV.bool v45))]) ?_
     refine WO.fn (e2 := z20 [(85, .bool w48), (1000002, .hob 3 [] (List.map AV.bool (List.replicate 49 false))), (1000003, .hob 3 [] (List.map AV.bool v45))]) ?_
     exact hK47 w48 h
    replace h := cond_f hb h
    refine WO.fn (e2 := z20 [(85, .bool false), (1000002, .hob 3 [] (List.map AV.bool (List.replicate 49 false))), (1000003, .hob 3 [] (List.map AV.bool v45))]) ?_
    exact hK47 false h
   refine W.seq ?_
   refine W.rg ?_
   let z24 := fun t => z19 ((24, l3 (some 14) w7) :: (25, I6 (w7.length : Int)) :: t)
   refine WO.pk 1 (some (I6 ((M6 w7).length : Int))) (v := I6 (w7.length : Int)) (by rw [List.length_map]) (e1 := z24 [(1000002, .hob 3 [] (List.map AV.bool (List.replicate 49 false))), (1000003, .hob 3 [] (List.map AV.bool v14))]) ?_
   refine WO.fn (e2 := z24 [(26, .int .i64 0), (1000002, .hob 3 [] (List.map AV.bool (List.replicate 49 false))), (1000003, .hob 3 [] (List.map AV.bool v14))]) ?_
   refine W.block ?_
   obtain ⟨hl3, h⟩ := chk_some h
   refine W.wk (env' := z24 [(26, I6 ((0 : Nat) : Int)), (1000002, .hob 3 [] (List.map AV.bool (List.replicate 49 false))), (1000003, .hob 3 [] (List.map AV.bool v14))]) ?_
   refine W.range (σ := ((List Bool) × Int)) w7 (fun k3 s => z18 [(8, I6 s.2), (15, l3 (some 14) w7), (16, I6 (w7.length : Int)), (17, I6 (k1 : Int)), (21, I6 (k2 : Int)), (24, l3 (some 14) w7), (25, I6 (w7.length : Int)), (26, I6 (k3 : Int)), (1000002, .hob 3 [] (List.map AV.bool (List.replicate 49 false))), (1000003, .hob 3 [] (List.map AV.bool s.1))]) (fun r0 k0 s => rf5_all_l3 fuel a1 x1 k2 (rf5_all_j18 a1 x1 k2 (rf5_all_j15 (rf5_all_l2 fuel a1 x1 w7 (rf5_all_j11 (rf5_all_l1 fuel a1 w7 (rf5_all_j8) r1 (k1 + 1))) r2 (k2 + 1)))) r0 k0 s.1 s.2 = some r) (fun s h => ?_) (fun x3 r3 k3 s hx3 hk3 h hN3 => ?_) (v14, 0) h
   ·obtain ⟨v20, v21⟩ := s
    have h : rf5_all_l3 fuel a1 x1 k2 (rf5_all_j18 a1 x1 k2 (rf5_all_j15 (rf5_all_l2 fuel a1 x1 w7 (rf5_all_j11 (rf5_all_l1 fuel a1 w7 (rf5_all_j8) r1 (k1 + 1))) r2 (k2 + 1)))) [] (w7).length v20 v21 = some r := h
    rw [rf5_all_l3.eq_1] at h
    refine W.seq ?_
    refine W.rg ?_
    let z25 := fun t => z18 ((8, I6 v21) :: (15, l3 (some 14) w7) :: (16, I6 (w7.length : Int)) :: (17, I6 (k1 : Int)) :: (21, I6 (k2 : Int)) :: (24, l3 (some 14) w7) :: (25, I6 (w7.length : Int)) :: (26, I6 ((w7).length : Int)) :: (27, .bool false) :: (1000002, .hob 3 [] (List.map AV.bool (List.replicate 49 false))) :: (1000003, .hob 3 [] (List.map AV.bool v20)) :: t)
    refine WO.pk 0 (some (.bool (decide (((w7).length : Int) < (w7.length : Int))))) (v := .bool false) (by rw [lt_false (l := w7)]) (e1 := z25 []) ?_
    refine WO.fn (e2 := z25 []) ?_
    refine W.seq ?_
    refine W.cb false (fun h => Bool.noConfusion h) (fun _ => ?_)
    refine W.exit ?_
    refine W.wk (env' := z18 [(8, I6 v21), (15, l3 (some 14) w7), (16, I6 (w7.length : Int)), (17, I6 (k1 : Int)), (21, I6 (k2 : Int)), (1000002, .hob 3 [] (List.map AV.bool (List.replicate 49 false))), (1000003, .hob 3 [] (List.map AV.bool v20))]) ?_
    exact hK18 (v20, v21) h
   ·obtain ⟨v20, v21⟩ := s
    have h : rf5_all_l3 fuel a1 x1 k2 (rf5_all_j18 a1 x1 k2 (rf5_all_j15 (rf5_all_l2 fuel a1 x1 w7 (rf5_all_j11 (rf5_all_l1 fuel a1 w7 (rf5_all_j8) r1 (k1 + 1))) r2 (k2 + 1)))) (x3 :: r3) k3 v20 v21 = some r := h
    rw [rf5_all_l3.eq_2] at h
    refine W.seq ?_
    refine W.rg ?_
    let z26 := fun t => z18 ((8, I6 v21) :: (15, l3 (some 14) w7) :: (16, I6 (w7.length : Int)) :: (17, I6 (k1 : Int)) :: (21, I6 (k2 : Int)) :: (24, l3 (some 14) w7) :: (25, I6 (w7.length : Int)) :: (26, I6 (k3 : Int)) :: t)
    let z27 := fun t => z26 ((27, .bool true) :: (1000002, .hob 3 [] (List.map AV.bool (List.replicate 49 false))) :: (1000003, .hob 3 [] (List.map AV.bool v20)) :: t)
    refine WO.pk 0 (some (.bool (decide ((k3 : Int) < (w7.length : Int))))) (v := .bool true) (by rw [lt_true hk3]) (e1 := z27 []) ?_
    refine WO.fn (e2 := z27 []) ?_
    refine W.seq ?_
    refine W.cb true (fun _ => ?_) (fun h => Bool.noConfusion h)
    refine W.skip ?_
    let z28 := fun t => z26 ((1000002, .hob 3 [] (List.map AV.bool (List.replicate 49 false))) :: t)
    let z29 := fun t => z28 ((1000003, .hob 3 [] (List.map AV.bool v20)) :: t)
    refine W.wk (env' := z29 []) ?_
    refine W.seq ?_
    refine W.join (σ := ((List Bool) × Int)) (fun s => z18 [(8, I6 s.2), (15, l3 (some 14) w7), (16, I6 (w7.length : Int)), (17, I6 (k1 : Int)), (21, I6 (k2 : Int)), (24, l3 (some 14) w7), (25, I6 (w7.length : Int)), (26, I6 (k3 : Int)), (1000002, .hob 3 [] (List.map AV.bool (List.replicate 49 false))), (1000003, .hob 3 [] (List.map AV.bool s.1))]) (fun s => (rf5_all_j22 (rf5_all_l3 fuel a1 x1 k2 (rf5_all_j18 a1 x1 k2 (rf5_all_j15 (rf5_all_l2 fuel a1 x1 w7 (rf5_all_j11 (rf5_all_l1 fuel a1 w7 (rf5_all_j8) r1 (k1 + 1))) r2 (k2 + 1)))) r3 (k3 + 1))) s.1 s.2 = some r) (fun s h => ?_) (fun hK22 => ?_)
    ·obtain ⟨v43, v44⟩ := s
     have h : (rf5_all_j22 (rf5_all_l3 fuel a1 x1 k2 (rf5_all_j18 a1 x1 k2 (rf5_all_j15 (rf5_all_l2 fuel a1 x1 w7 (rf5_all_j11 (rf5_all_l1 fuel a1 w7 (rf5_all_j8) r1 (k1 + 1))) r2 (k2 + 1)))) r3 (k3 + 1))) v43 v44 = some r := h
     unfold rf5_all_j22 at h
     refine W.rg ?_
     let z30 := fun t => z18 ((8, I6 v44) :: (15, l3 (some 14) w7) :: (16, I6 (w7.length : Int)) :: (17, I6 (k1 : Int)) :: (21, I6 (k2 : Int)) :: (24, l3 (some 14) w7) :: (25, I6 (w7.length : Int)) :: t)
     refine WO.pk 0 (some (I6 (IntKind.wrap .i64 ((k3 : Int) + 1)))) (v := I6 ((k3 + 1 : Nat) : Int)) (by rw [wrap_succ hl3 hk3]) (e1 := z30 [(26, I6 (k3 : Int)), (77, I6 ((k3 + 1 : Nat) : Int)), (1000002, .hob 3 [] (List.map AV.bool (List.replicate 49 false))), (1000003, .hob 3 [] (List.map AV.bool v43))]) ?_
     refine WO.fn (e2 := z30 [(26, I6 ((k3 + 1 : Nat) : Int)), (1000002, .hob 3 [] (List.map AV.bool (List.replicate 49 false))), (1000003, .hob 3 [] (List.map AV.bool v43))]) ?_
     exact hN3 (v43, v44) h
    refine W.block ?_
    refine W.seq ?_
    refine W.rg ?_
    refine WO.pk 0 (if (0 : Int) ≤ (k3 : Int) then ((M6 w7)[Int.toNat (k3 : Int)]?).map AV.ptr else none) (v := .ptr (I6 x3)) (idx_nat (f := (AV.int .i64)) hx3) (e1 := z26 [(28, .ptr (I6 x3)), (1000002, .hob 3 [] (List.map AV.bool (List.replicate 49 false))), (1000003, .hob 3 [] (List.map AV.bool v20))]) ?_
    let z31 := fun t => z18 ((8, I6 v21) :: (10, I6 x3) :: (15, l3 (some 14) w7) :: (16, I6 (w7.length : Int)) :: (17, I6 (k1 : Int)) :: (21, I6 (k2 : Int)) :: (24, l3 (some 14) w7) :: (25, I6 (w7.length : Int)) :: (26, I6 (k3 : Int)) :: t)
    let z32 := fun t => z31 ((1000002, .hob 3 [] (List.map AV.bool (List.replicate 49 false))) :: t)
    let z33 := fun t => z32 ((1000003, .hob 3 [] (List.map AV.bool v20)) :: t)
    refine WO.fn (e2 := z33 []) ?_
    refine W.seq ?_
    refine W.join (σ := (Bool)) (fun s => z31 [(38, .bool s), (1000002, .hob 3 [] (List.map AV.bool (List.replicate 49 false))), (1000003, .hob 3 [] (List.map AV.bool v20))]) (fun s => (rf5_all_j24 fuel a1 x1 k2 x3 v20 v21 (rf5_all_j22 (rf5_all_l3 fuel a1 x1 k2 (rf5_all_j18 a1 x1 k2 (rf5_all_j15 (rf5_all_l2 fuel a1 x1 w7 (rf5_all_j11 (rf5_all_l1 fuel a1 w7 (rf5_all_j8) r1 (k1 + 1))) r2 (k2 + 1)))) r3 (k3 + 1)))) s = some r) (fun s h => ?_) (fun hK24 => ?_)
    ·obtain ⟨v26, rfl⟩ : ∃ x, x = s := ⟨s, rfl⟩
     have h : (rf5_all_j24 fuel a1 x1 k2 x3 v20 v21 (rf5_all_j22 (rf5_all_l3 fuel a1 x1 k2 (rf5_all_j18 a1 x1 k2 (rf5_all_j15 (rf5_all_l2 fuel a1 x1 w7 (rf5_all_j11 (rf5_all_l1 fuel a1 w7 (rf5_all_j8) r1 (k1 + 1))) r2 (k2 + 1)))) r3 (k3 + 1)))) v26 = some r := h
     unfold rf5_all_j24 at h
     refine W.cb v26 (fun hb => ?_) (fun hb => ?_)
     ·replace h := cond_t hb h
      refine W.seq ?_
      refine W.join (σ := ((List Bool))) (fun s => z32 [(1000003, .hob 3 [] (List.map AV.bool s))]) (fun s => (rf5_all_j27 fuel a1 x1 x3 v21 (rf5_all_j22 (rf5_all_l3 fuel a1 x1 k2 (rf5_all_j18 a1 x1 k2 (rf5_all_j15 (rf5_all_l2 fuel a1 x1 w7 (rf5_all_j11 (rf5_all_l1 fuel a1 w7 (rf5_all_j8) r1 (k1 + 1))) r2 (k2 + 1)))) r3 (k3 + 1)))) s = some r) (fun s h => ?_) (fun hK27 => ?_)
      ·obtain ⟨v36, rfl⟩ : ∃ x, x = s := ⟨s, rfl⟩
       have h : (rf5_all_j27 fuel a1 x1 x3 v21 (rf5_all_j22 (rf5_all_l3 fuel a1 x1 k2 (rf5_all_j18 a1 x1 k2 (rf5_all_j15 (rf5_all_l2 fuel a1 x1 w7 (rf5_all_j11 (rf5_all_l1 fuel a1 w7 (rf5_all_j8) r1 (k1 + 1))) r2 (k2 + 1)))) r3 (k3 + 1)))) v36 = some r := h
       unfold rf5_all_j27 at h
       refine W.seq ?_
       refine W.join (σ := (Bool)) (fun s => z31 [(75, .bool s), (1000002, .hob 3 [] (List.map AV.bool (List.replicate 49 false))), (1000003, .hob 3 [] (List.map AV.bool v36))]) (fun s => (rf5_all_j37 x3 v21 v36 (rf5_all_j22 (rf5_all_l3 fuel a1 x1 k2 (rf5_all_j18 a1 x1 k2 (rf5_all_j15 (rf5_all_l2 fuel a1 x1 w7 (rf5_all_j11 (rf5_all_l1 fuel a1 w7 (rf5_all_j8) r1 (k1 + 1))) r2 (k2 + 1)))) r3 (k3 + 1)))) s = some r) (fun s h => ?_) (fun hK37 => ?_)
       ·obtain ⟨v42, rfl⟩ : ∃ x, x = s := ⟨s, rfl⟩
        have h : (rf5_all_j37 x3 v21 v36 (rf5_all_j22 (rf5_all_l3 fuel a1 x1 k2 (rf5_all_j18 a1 x1 k2 (rf5_all_j15 (rf5_all_l2 fuel a1 x1 w7 (rf5_all_j11 (rf5_all_l1 fuel a1 w7 (rf5_all_j8) r1 (k1 + 1))) r2 (k2 + 1)))) r3 (k3 + 1)))) v42 = some r := h
        unfold rf5_all_j37 at h
        refine W.cb v42 (fun hb => ?_) (fun hb => ?_)
        ·replace h := cond_t hb h
         refine W.rt (e2 := z18 [(8, I6 x3), (15, l3 (some 14) w7), (16, I6 (w7.length : Int)), (17, I6 (k1 : Int)), (21, I6 (k2 : Int)), (24, l3 (some 14) w7), (25, I6 (w7.length : Int)), (26, I6 (k3 : Int)), (1000002, .hob 3 [] (List.map AV.bool (List.replicate 49 false))), (1000003, .hob 3 [] (List.map AV.bool v36))]) ?_
         exact hK22 (v36, x3) h
        replace h := cond_f hb h
        refine W.skip ?_
        refine W.wk (env' := z28 [(1000003, .hob 3 [] (List.map AV.bool v36))]) ?_
        exact hK22 (v36, v21) h
       refine W.rg ?_
       obtain ⟨w38, hw38, h⟩ := bind_some h
       let z34 := fun t => z31 ((56, l43 none a1) :: (57, I6 x3) :: (58, I6 w38) :: t)
       refine WO.ck 2 (F := 61) (l := [l43 none a1, I6 x3, .int .i64 2]) (C := []) (r := I6 w38) (run_rf5_end a1 x3 2 w38 hw38) (e1 := z34 [(1000002, .hob 3 [] (List.map AV.bool (List.replicate 49 false))), (1000003, .hob 3 [] (List.map AV.bool v36))]) ?_
       obtain ⟨w39, hw39, h⟩ := bind_some h
       let z35 := fun t => z34 ((59, l43 none a1) :: (60, I6 x1) :: (61, I6 w39) :: t)
       refine WO.ck 2 (F := 111) (l := [l43 none a1, I6 x1]) (C := []) (r := I6 w39) (run_rf5_begin fuel a1 x1 w39 hw39) (e1 := z35 [(1000002, .hob 3 [] (List.map AV.bool (List.replicate 49 false))), (1000003, .hob 3 [] (List.map AV.bool v36))]) ?_
       refine WO.bk 2 (fun b => z35 [(62, .bool b), (63, .bool b), (1000002, .hob 3 [] (List.map AV.bool (List.replicate 49 false))), (1000003, .hob 3 [] (List.map AV.bool v36))]) (decide (w38 < w39)) (fun hb => ?_) (fun hb => ?_)
       ·replace h := cond_t hb h
        let z36 := fun t => z35 ((62, .bool true) :: (63, .bool true) :: (64, I6 v21) :: t)
        refine WO.bk 3 (fun b => z36 [(65, .bool b), (66, .bool b), (1000002, .hob 3 [] (List.map AV.bool (List.replicate 49 false))), (1000003, .hob 3 [] (List.map AV.bool v36))]) (v21 == 0) (fun hb => ?_) (fun hb => ?_)
        ·replace h := cond_t hb h
         refine WO.fn (e2 := z31 [(75, .bool true), (1000002, .hob 3 [] (List.map AV.bool (List.replicate 49 false))), (1000003, .hob 3 [] (List.map AV.bool v36))]) ?_
         exact hK37 true h
        replace h := cond_f hb h
        obtain ⟨w40, hw40, h⟩ := bind_some h
        let z37 := fun t => z36 ((65, .bool false) :: (66, .bool false) :: (67, l43 none a1) :: (68, I6 x3) :: (69, I6 w40) :: t)
        refine WO.ck 2 (F := 61) (l := [l43 none a1, I6 x3, .int .i64 2]) (C := []) (r := I6 w40) (run_rf5_end a1 x3 2 w40 hw40) (e1 := z37 [(1000002, .hob 3 [] (List.map AV.bool (List.replicate 49 false))), (1000003, .hob 3 [] (List.map AV.bool v36))]) ?_
        obtain ⟨w41, hw41, h⟩ := bind_some h
        refine WO.ck 2 (F := 61) (l := [l43 none a1, I6 v21, .int .i64 2]) (C := []) (r := I6 w41) (run_rf5_end a1 v21 2 w41 hw41) (e1 := z37 [(70, l43 none a1), (71, I6 v21), (72, I6 w41), (1000002, .hob 3 [] (List.map AV.bool (List.replicate 49 false))), (1000003, .hob 3 [] (List.map AV.bool v36))]) ?_
        refine WO.fn (e2 := z31 [(75, .bool (decide (w40 > w41))), (1000002, .hob 3 [] (List.map AV.bool (List.replicate 49 false))), (1000003, .hob 3 [] (List.map AV.bool v36))]) ?_
        exact hK37 (decide (w40 > w41)) h
       replace h := cond_f hb h
       refine WO.fn (e2 := z31 [(75, .bool false), (1000002, .hob 3 [] (List.map AV.bool (List.replicate 49 false))), (1000003, .hob 3 [] (List.map AV.bool v36))]) ?_
       exact hK37 false h
      refine W.seq ?_
      refine W.join (σ := (Bool)) (fun s => z31 [(51, .bool s), (1000002, .hob 3 [] (List.map AV.bool (List.replicate 49 false))), (1000003, .hob 3 [] (List.map AV.bool v20))]) (fun s => (rf5_all_j28 x1 x3 v20 (rf5_all_j27 fuel a1 x1 x3 v21 (rf5_all_j22 (rf5_all_l3 fuel a1 x1 k2 (rf5_all_j18 a1 x1 k2 (rf5_all_j15 (rf5_all_l2 fuel a1 x1 w7 (rf5_all_j11 (rf5_all_l1 fuel a1 w7 (rf5_all_j8) r1 (k1 + 1))) r2 (k2 + 1)))) r3 (k3 + 1))))) s = some r) (fun s h => ?_) (fun hK28 => ?_)
      ·obtain ⟨v32, rfl⟩ : ∃ x, x = s := ⟨s, rfl⟩
       have h : (rf5_all_j28 x1 x3 v20 (rf5_all_j27 fuel a1 x1 x3 v21 (rf5_all_j22 (rf5_all_l3 fuel a1 x1 k2 (rf5_all_j18 a1 x1 k2 (rf5_all_j15 (rf5_all_l2 fuel a1 x1 w7 (rf5_all_j11 (rf5_all_l1 fuel a1 w7 (rf5_all_j8) r1 (k1 + 1))) r2 (k2 + 1)))) r3 (k3 + 1))))) v32 = some r := h
       unfold rf5_all_j28 at h
       refine W.cb v32 (fun hb => ?_) (fun hb => ?_)
       ·replace h := cond_t hb h
        refine W.rg ?_
        obtain ⟨hc33, h⟩ := chk_some h
        let z38 := fun t => z31 ((51, .bool v32) :: (52, I6 x3) :: (53, I6 x1) :: (54, .pb 1000003 (0 + Int.toNat x3 * 7)) :: t)
        refine WO.pi 2 (v := .pb 1000003 (0 + Int.toNat x3 * 7)) hc33 (e1 := z38 [(1000002, .hob 3 [] (List.map AV.bool (List.replicate 49 false))), (1000003, .hob 3 [] (List.map AV.bool v20))]) ?_
        obtain ⟨hc34, h⟩ := chk_some h
        let z39 := fun t => z38 ((55, .pb 1000003 ((0 + Int.toNat x3 * 7) + Int.toNat x1 * 1)) :: (1000002, .hob 3 [] (List.map AV.bool (List.replicate 49 false))) :: t)
        refine WO.pi 0 (v := .pb 1000003 ((0 + Int.toNat x3 * 7) + Int.toNat x1 * 1)) hc34 (e1 := z39 [(1000003, .hob 3 [] (List.map AV.bool v20))]) ?_
        obtain ⟨hc35, h⟩ := chk_some h
        refine WO.setA (enc := AV.bool) (l := v20) (x := true) (s := 1000003) (off := ((0 + Int.toNat x3 * 7) + Int.toNat x1 * 1)) 0 flat_bool hc35 (e1 := z39 [(1000003, .hob 3 [] (List.map AV.bool (v20.set ((0 + Int.toNat x3 * 7) + Int.toNat x1 * 1) true)))]) ?_
        refine WO.fn (e2 := z32 [(1000003, .hob 3 [] (List.map AV.bool (v20.set ((0 + Int.toNat x3 * 7) + Int.toNat x1 * 1) true)))]) ?_
        exact hK27 (v20.set ((0 + Int.toNat x3 * 7) + Int.toNat x1 * 1) true) h
       replace h := cond_f hb h
       refine W.skip ?_
       refine W.wk (env' := z33 []) ?_
       exact hK27 v20 h
      refine W.rg ?_
      obtain ⟨w29, hw29, h⟩ := bind_some h
      let z40 := fun t => z31 ((38, .bool v26) :: (39, l43 none a1) :: (40, I6 x1) :: (41, I6 (k2 : Int)) :: t)
      refine WO.ck 3 (F := 87) (l := [l43 none a1, I6 x1, I6 (k2 : Int)]) (C := []) (r := .bool w29) (run_rf5_writes a1 x1 (k2 : Int) w29 hw29) (e1 := z40 [(42, .bool w29), (1000002, .hob 3 [] (List.map AV.bool (List.replicate 49 false))), (1000003, .hob 3 [] (List.map AV.bool v20))]) ?_
      refine WO.bk 1 (fun b => z40 [(42, .bool b), (43, .bool b), (1000002, .hob 3 [] (List.map AV.bool (List.replicate 49 false))), (1000003, .hob 3 [] (List.map AV.bool v20))]) w29 (fun hb => ?_) (fun hb => ?_)
      ·replace h := cond_t hb h
       obtain ⟨w30, hw30, h⟩ := bind_some h
       let z41 := fun t => z40 ((42, .bool true) :: (43, .bool true) :: (44, l43 none a1) :: (45, I6 x3) :: (46, I6 w30) :: t)
       refine WO.ck 2 (F := 61) (l := [l43 none a1, I6 x3, .int .i64 2]) (C := []) (r := I6 w30) (run_rf5_end a1 x3 2 w30 hw30) (e1 := z41 [(1000002, .hob 3 [] (List.map AV.bool (List.replicate 49 false))), (1000003, .hob 3 [] (List.map AV.bool v20))]) ?_
       obtain ⟨w31, hw31, h⟩ := bind_some h
       refine WO.ck 2 (F := 61) (l := [l43 none a1, I6 x1, .int .i64 2]) (C := []) (r := I6 w31) (run_rf5_end a1 x1 2 w31 hw31) (e1 := z41 [(47, l43 none a1), (48, I6 x1), (49, I6 w31), (1000002, .hob 3 [] (List.map AV.bool (List.replicate 49 false))), (1000003, .hob 3 [] (List.map AV.bool v20))]) ?_
       refine WO.fn (e2 := z31 [(51, .bool (decide (w30 < w31))), (1000002, .hob 3 [] (List.map AV.bool (List.replicate 49 false))), (1000003, .hob 3 [] (List.map AV.bool v20))]) ?_
       exact hK28 (decide (w30 < w31)) h
      replace h := cond_f hb h
      refine WO.fn (e2 := z31 [(51, .bool false), (1000002, .hob 3 [] (List.map AV.bool (List.replicate 49 false))), (1000003, .hob 3 [] (List.map AV.bool v20))]) ?_
      exact hK28 false h
     replace h := cond_f hb h
     refine W.skip ?_
     refine W.wk (env' := z29 []) ?_
     exact hK22 (v20, v21) h
    refine W.rg ?_
    refine WO.bk 4 (fun b => z31 [(30, I6 x3), (31, I6 x1), (32, .bool b), (33, .bool b), (1000002, .hob 3 [] (List.map AV.bool (List.replicate 49 false))), (1000003, .hob 3 [] (List.map AV.bool v20))]) (x3 != x1) (fun hb => ?_) (fun hb => ?_)
    ·replace h := cond_t hb h
     obtain ⟨w25, hw25, h⟩ := bind_some h
     refine WO.ck 3 (F := 87) (l := [l43 none a1, I6 x3, I6 (k2 : Int)]) (C := []) (r := .bool w25) (run_rf5_writes a1 x3 (k2 : Int) w25 hw25) (e1 := z31 [(30, I6 x3), (31, I6 x1), (32, .bool true), (33, .bool true), (34, l43 none a1), (35, I6 x3), (36, I6 (k2 : Int)), (37, .bool w25), (1000002, .hob 3 [] (List.map AV.bool (List.replicate 49 false))), (1000003, .hob 3 [] (List.map AV.bool v20))]) ?_
     refine WO.fn (e2 := z31 [(38, .bool w25), (1000002, .hob 3 [] (List.map AV.bool (List.replicate 49 false))), (1000003, .hob 3 [] (List.map AV.bool v20))]) ?_
     exact hK24 w25 h
    replace h := cond_f hb h
    refine WO.fn (e2 := z31 [(38, .bool false), (1000002, .hob 3 [] (List.map AV.bool (List.replicate 49 false))), (1000003, .hob 3 [] (List.map AV.bool v20))]) ?_
    exact hK24 false h
def rf5_perms_j7 (v25 : (List (List Int))) : Option (List (List Int)) :=
 (some v25)
def rf5_perms_j10 (N1 : ((List (List Int)) → Option (List (List Int)))) (v24 : (List (List Int))) : Option (List (List Int)) :=
 (N1 v24)
def rf5_perms_l2 (x1 : Int) (K10 : ((List (List Int)) → Option (List (List Int)))) : List (List Int) → Nat → (List (List Int)) → Option (List (List Int))
 | [], k2, v19 => (K10 v19)
 | x2 :: r2, k2, v19 => (chk (capOk 8 (([x1] ++ x2)).length) (chk (capOk 24 ((v19 ++ [([x1] ++ x2)])).length) ((rf5_perms_l2 x1 K10 r2 (k2 + 1)) (v19 ++ [([x1] ++ x2)]))))
def rf5_perms_l1 (a1 : (List Int)) (K0 : ((List Int) → Option (List (List Int)))) (K7 : ((List (List Int)) → Option (List (List Int)))) : List Int → Nat → (List (List Int)) → Option (List (List Int))
 | [], k1, v9 => (K7 v9)
 | x1 :: r1, k1, v9 => ((sub a1 0 (k1 : Int)).bind fun e13 => (chk (capOk 8 ((([] : (List Int)) ++ e13)).length) ((sub a1 ((k1 + 1 : Nat) : Int) (a1.length : Int)).bind fun e15 => (chk (capOk 8 (((([] : (List Int)) ++ e13) ++ e15)).length) ((K0 ((([] : (List Int)) ++ e13) ++ e15)).bind fun w18 => (chk (lenOk w18) (rf5_perms_l2 x1 (rf5_perms_j10 (rf5_perms_l1 a1 K0 K7 r1 (k1 + 1))) w18 0 v9)))))))
def rf5_perms : Nat → (List Int) → Option (List (List Int))
 | 0, _ => none
 | fuel + 1, a1 => (bif ((a1.length : Int) == 0) then (some [([] : (List Int))]) else (chk (lenOk a1) (rf5_perms_l1 a1 (rf5_perms fuel) (rf5_perms_j7) a1 0 ([] : (List (List Int))))))
theorem run_rf5_perms : ∀ (fuel : Nat) (a1 : (List Int)) (r : (List (List Int))) (h : rf5_perms fuel a1 = some r), Run Try.prog (.call 67 [l3 none a1] (l24 none r)) := by
 intro fuel
 induction fuel with
 | zero => intro a1 r h; cases h
 | succ fuel ih =>
  intro a1 r h
  refine cW Try.func67 rfl (env0 := [(0, l3 none a1)]) ?_
  rw [rf5_perms.eq_2] at h
  refine W.seq ?_
  let z0 := fun t => EN ((0, l3 none a1) :: t)
  refine W.rt (e2 := z0 []) ?_
  refine W.seq ?_
  refine W.seq ?_
  refine W.rg ?_
  refine WO.pk 1 (some (I6 ((M6 a1).length : Int))) (v := I6 (a1.length : Int)) (by rw [List.length_map]) (e1 := z0 [(9, l3 none a1), (10, I6 (a1.length : Int))]) ?_
  refine WO.fn (e2 := z0 [(11, .bool ((a1.length : Int) == 0))]) ?_
  refine W.cb ((a1.length : Int) == 0) (fun hb => ?_) (fun hb => ?_)
  ·replace h := cond_t hb h
   refine W.seq ?_
   refine W.rt (e2 := [(2, l24 (some 12) [([] : (List Int))])]) ?_
   refine W.weak [2] [] [] [(12, none)] (env' := [(2, l24 none [([] : (List Int))])]) (by kernel_rfl) ?_
   have hr : aresults Try.prog Try.f67 [(2, l24 none [([] : (List Int))])] = some (l24 none [([] : (List Int))]) := by kernel_rfl
   cases h
   exact W.ret hr
  replace h := cond_f hb h
  refine W.skip ?_
  refine W.wk (env' := z0 []) ?_
  refine W.seq ?_
  refine W.rt (e2 := z0 [(3, .nils)]) ?_
  refine W.seq ?_
  refine W.join (σ := ((List (List Int)))) (fun s => [(3, l24 (some 10300) s)]) (fun s => (rf5_perms_j7) s = some r) (fun s h => ?_) (fun hK7 => ?_)
  ·obtain ⟨v25, rfl⟩ : ∃ x, x = s := ⟨s, rfl⟩
   have h : (rf5_perms_j7) v25 = some r := h
   unfold rf5_perms_j7 at h
   refine W.seq ?_
   refine W.rt (e2 := [(2, l24 (some 10300) v25)]) ?_
   refine W.weak [2] [] [] [(10300, none)] (env' := [(2, l24 none v25)]) (by kernel_rfl) ?_
   have hr : aresults Try.prog Try.f67 [(2, l24 none v25)] = some (l24 none v25) := by kernel_rfl
   cases h
   exact W.ret hr
  refine W.seq ?_
  refine W.rg ?_
  let z1 := fun t => z0 ((3, .nils) :: (13, l3 none a1) :: (14, I6 (a1.length : Int)) :: t)
  refine WO.pk 1 (some (I6 ((M6 a1).length : Int))) (v := I6 (a1.length : Int)) (by rw [List.length_map]) (e1 := z1 []) ?_
  refine WO.fn (e2 := z1 [(15, .int .i64 0)]) ?_
  refine W.block ?_
  obtain ⟨hl1, h⟩ := chk_some h
  refine W.weak [0, 3, 13, 14, 15] [] [(3, 0, 24, 1, 10300)] [] (env' := z0 [(3, l24 (some 10300) ([] : (List (List Int)))), (13, l3 none a1), (14, I6 (a1.length : Int)), (15, I6 ((0 : Nat) : Int))]) (by kernel_rfl) ?_
  refine W.range (σ := ((List (List Int)))) a1 (fun k1 s => z0 [(3, l24 (some 10300) s), (13, l3 none a1), (14, I6 (a1.length : Int)), (15, I6 (k1 : Int))]) (fun r0 k0 s => rf5_perms_l1 a1 (rf5_perms fuel) (rf5_perms_j7) r0 k0 s = some r) (fun s h => ?_) (fun x1 r1 k1 s hx1 hk1 h hN1 => ?_) ([] : (List (List Int))) h
  ·obtain ⟨v9, rfl⟩ : ∃ x, x = s := ⟨s, rfl⟩
   have h : rf5_perms_l1 a1 (rf5_perms fuel) (rf5_perms_j7) [] (a1).length v9 = some r := h
   rw [rf5_perms_l1.eq_1] at h
   refine W.seq ?_
   refine W.rg ?_
   let z2 := fun t => z0 ((3, l24 (some 10300) v9) :: (13, l3 none a1) :: (14, I6 (a1.length : Int)) :: (15, I6 ((a1).length : Int)) :: (16, .bool false) :: t)
   refine WO.pk 0 (some (.bool (decide (((a1).length : Int) < (a1.length : Int))))) (v := .bool false) (by rw [lt_false (l := a1)]) (e1 := z2 []) ?_
   refine WO.fn (e2 := z2 []) ?_
   refine W.seq ?_
   refine W.cb false (fun h => Bool.noConfusion h) (fun _ => ?_)
   refine W.exit ?_
   refine W.wk (env' := [(3, l24 (some 10300) v9)]) ?_
   exact hK7 v9 h
  ·obtain ⟨v9, rfl⟩ : ∃ x, x = s := ⟨s, rfl⟩
   have h : rf5_perms_l1 a1 (rf5_perms fuel) (rf5_perms_j7) (x1 :: r1) k1 v9 = some r := h
   rw [rf5_perms_l1.eq_2] at h
   refine W.seq ?_
   refine W.rg ?_
   let z3 := fun t => z0 ((3, l24 (some 10300) v9) :: t)
   let z4 := fun t => z3 ((13, l3 none a1) :: (14, I6 (a1.length : Int)) :: (15, I6 (k1 : Int)) :: t)
   refine WO.pk 0 (some (.bool (decide ((k1 : Int) < (a1.length : Int))))) (v := .bool true) (by rw [lt_true hk1]) (e1 := z4 [(16, .bool true)]) ?_
   refine WO.fn (e2 := z4 [(16, .bool true)]) ?_
   refine W.seq ?_
   refine W.cb true (fun _ => ?_) (fun h => Bool.noConfusion h)
   refine W.skip ?_
   refine W.wk (env' := z4 []) ?_
   refine W.seq ?_
   refine W.join (σ := ((List (List Int)))) (fun s => z0 [(3, l24 (some 10300) s), (13, l3 none a1), (14, I6 (a1.length : Int)), (15, I6 (k1 : Int))]) (fun s => (rf5_perms_j10 (rf5_perms_l1 a1 (rf5_perms fuel) (rf5_perms_j7) r1 (k1 + 1))) s = some r) (fun s h => ?_) (fun hK10 => ?_)
   ·obtain ⟨v24, rfl⟩ : ∃ x, x = s := ⟨s, rfl⟩
    have h : (rf5_perms_j10 (rf5_perms_l1 a1 (rf5_perms fuel) (rf5_perms_j7) r1 (k1 + 1))) v24 = some r := h
    unfold rf5_perms_j10 at h
    refine W.rg ?_
    let z5 := fun t => z0 ((3, l24 (some 10300) v24) :: (13, l3 none a1) :: (14, I6 (a1.length : Int)) :: t)
    refine WO.pk 0 (some (I6 (IntKind.wrap .i64 ((k1 : Int) + 1)))) (v := I6 ((k1 + 1 : Nat) : Int)) (by rw [wrap_succ hl1 hk1]) (e1 := z5 [(15, I6 (k1 : Int)), (45, I6 ((k1 + 1 : Nat) : Int))]) ?_
    refine WO.fn (e2 := z5 [(15, I6 ((k1 + 1 : Nat) : Int))]) ?_
    exact hN1 v24 h
   refine W.block ?_
   refine W.seq ?_
   refine W.rg ?_
   refine WO.pk 1 (if (0 : Int) ≤ (k1 : Int) then ((M6 a1)[Int.toNat (k1 : Int)]?).map AV.ptr else none) (v := .ptr (I6 x1)) (idx_nat (f := (AV.int .i64)) hx1) (e1 := z4 [(17, I6 (k1 : Int)), (18, .ptr (I6 x1))]) ?_
   let z6 := fun t => z3 ((4, I6 (k1 : Int)) :: (5, I6 x1) :: (13, l3 none a1) :: (14, I6 (a1.length : Int)) :: (15, I6 (k1 : Int)) :: t)
   refine WO.fn (e2 := z6 []) ?_
   refine W.seq ?_
   refine W.regionB (by kernel_rfl) ?_
   obtain ⟨e13, he13, h⟩ := bind_some h
   refine WB.pureK 3 (if (0 : Int) ≤ 0 ∧ 0 ≤ (k1 : Int) ∧ (k1 : Int) ≤ ((M6 a1).length : Int) then some (.lst 3 1 none (((M6 a1).take (Int.toNat (k1 : Int))).drop (Int.toNat 0))) else none) (v := l3 none e13) (by kernel_rfl) (sub_av he13) (e1 := z6 [(20, l3 (some 20) ([] : (List Int))), (21, l3 none a1), (22, I6 (k1 : Int)), (23, l3 none e13)]) (by kernel_rfl) ?_
   obtain ⟨hc14, h⟩ := chk_some h
   let z7 := fun t => z6 ((20, l3 none ([] : (List Int))) :: (21, l3 none a1) :: (22, I6 (k1 : Int)) :: (23, l3 none e13) :: (24, l3 (some 24) (([] : (List Int)) ++ e13)) :: t)
   refine WB.appendK 0 (by kernel_rfl) (d := 24) (e := 3) (s := 1) (bytes := 8) (xs := (M6 ([] : (List Int)))) (ys := (M6 e13)) (zs := (M6 (([] : (List Int)) ++ e13))) (env1 := [(0, l3 none a1), (3, l24 (some 10300) v9), (4, I6 (k1 : Int)), (5, I6 x1), (13, l3 none a1), (14, I6 (a1.length : Int)), (15, I6 (k1 : Int)), (20, l3 none ([] : (List Int))), (21, l3 none a1), (22, I6 (k1 : Int)), (23, l3 none e13)]) (by kernel_rfl) (List.map_append.symm) (by rw [List.length_map]; exact hc14) (e1 := z7 []) (by kernel_rfl) ?_
   let z8 := fun t => z7 ((25, l3 none a1) :: (26, I6 (k1 : Int)) :: (27, I6 ((k1 + 1 : Nat) : Int)) :: t)
   refine WB.pureK 2 (some (I6 (IntKind.wrap .i64 ((k1 : Int) + 1)))) (v := I6 ((k1 + 1 : Nat) : Int)) (by kernel_rfl) (by rw [wrap_succ hl1 hk1]) (e1 := z8 []) (by kernel_rfl) ?_
   obtain ⟨e15, he15, h⟩ := bind_some h
   refine WB.pureK 0 (if (0 : Int) ≤ ((k1 + 1 : Nat) : Int) ∧ ((k1 + 1 : Nat) : Int) ≤ ((M6 a1).length : Int) ∧ ((M6 a1).length : Int) ≤ ((M6 a1).length : Int) then some (.lst 3 1 none (((M6 a1).take (Int.toNat ((M6 a1).length : Int))).drop (Int.toNat ((k1 + 1 : Nat) : Int)))) else none) (v := l3 none e15) (by kernel_rfl) (sub_av_len he15) (e1 := z8 [(28, l3 none e15)]) (by kernel_rfl) ?_
   obtain ⟨hc16, h⟩ := chk_some h
   refine WB.appendK 0 (by kernel_rfl) (d := 29) (e := 3) (s := 1) (bytes := 8) (xs := (M6 (([] : (List Int)) ++ e13))) (ys := (M6 e15)) (zs := (M6 ((([] : (List Int)) ++ e13) ++ e15))) (env1 := [(0, l3 none a1), (3, l24 (some 10300) v9), (4, I6 (k1 : Int)), (5, I6 x1), (13, l3 none a1), (14, I6 (a1.length : Int)), (15, I6 (k1 : Int)), (20, l3 none ([] : (List Int))), (21, l3 none a1), (22, I6 (k1 : Int)), (23, l3 none e13), (24, l3 none (([] : (List Int)) ++ e13)), (25, l3 none a1), (26, I6 (k1 : Int)), (27, I6 ((k1 + 1 : Nat) : Int)), (28, l3 none e15)]) (by kernel_rfl) (List.map_append.symm) (by rw [List.length_map]; exact hc16) (e1 := z6 [(20, l3 none ([] : (List Int))), (21, l3 none a1), (22, I6 (k1 : Int)), (23, l3 none e13), (24, l3 none (([] : (List Int)) ++ e13)), (25, l3 none a1), (26, I6 (k1 : Int)), (27, I6 ((k1 + 1 : Nat) : Int)), (28, l3 none e15), (29, l3 (some 29) ((([] : (List Int)) ++ e13) ++ e15))]) (by kernel_rfl) ?_
   let z9 := fun t => z3 ((5, I6 x1) :: (6, l3 none ((([] : (List Int)) ++ e13) ++ e15)) :: (13, l3 none a1) :: (14, I6 (a1.length : Int)) :: (15, I6 (k1 : Int)) :: t)
   refine WB.fin [0, 3, 5, 6, 13, 14, 15] [] [] [] (e2 := z9 []) (by kernel_rfl) (fun _ h => h) ?_
   refine W.seq ?_
   refine W.rg ?_
   obtain ⟨w18, hw18, h⟩ := bind_some h
   let z10 := fun t => z9 ((30, l3 none ((([] : (List Int)) ++ e13) ++ e15)) :: (31, l24 none w18) :: t)
   refine WO.ck 1 (F := 67) (l := [l3 none ((([] : (List Int)) ++ e13) ++ e15)]) (C := []) (r := l24 none w18) (ih ((([] : (List Int)) ++ e13) ++ e15) w18 hw18) (e1 := z10 []) ?_
   refine WO.pk 0 (some (I6 ((List.map (encL 3 1 (AV.int .i64)) w18).length : Int))) (v := I6 (w18.length : Int)) (by rw [List.length_map]) (e1 := z10 [(32, I6 (w18.length : Int))]) ?_
   let z11 := fun t => z3 ((5, I6 x1) :: (13, l3 none a1) :: (14, I6 (a1.length : Int)) :: (15, I6 (k1 : Int)) :: (31, l24 none w18) :: (32, I6 (w18.length : Int)) :: t)
   refine WO.fn (e2 := z11 [(33, .int .i64 0)]) ?_
   refine W.block ?_
   obtain ⟨hl2, h⟩ := chk_some h
   refine W.wk (env' := z11 [(33, I6 ((0 : Nat) : Int))]) ?_
   refine W.range (σ := ((List (List Int)))) w18 (fun k2 s => z0 [(3, l24 (some 10300) s), (5, I6 x1), (13, l3 none a1), (14, I6 (a1.length : Int)), (15, I6 (k1 : Int)), (31, l24 none w18), (32, I6 (w18.length : Int)), (33, I6 (k2 : Int))]) (fun r0 k0 s => rf5_perms_l2 x1 (rf5_perms_j10 (rf5_perms_l1 a1 (rf5_perms fuel) (rf5_perms_j7) r1 (k1 + 1))) r0 k0 s = some r) (fun s h => ?_) (fun x2 r2 k2 s hx2 hk2 h hN2 => ?_) v9 h
   ·obtain ⟨v19, rfl⟩ : ∃ x, x = s := ⟨s, rfl⟩
    have h : rf5_perms_l2 x1 (rf5_perms_j10 (rf5_perms_l1 a1 (rf5_perms fuel) (rf5_perms_j7) r1 (k1 + 1))) [] (w18).length v19 = some r := h
    rw [rf5_perms_l2.eq_1] at h
    refine W.seq ?_
    refine W.rg ?_
    let z12 := fun t => z0 ((3, l24 (some 10300) v19) :: (5, I6 x1) :: (13, l3 none a1) :: (14, I6 (a1.length : Int)) :: (15, I6 (k1 : Int)) :: (31, l24 none w18) :: (32, I6 (w18.length : Int)) :: (33, I6 ((w18).length : Int)) :: (34, .bool false) :: t)
    refine WO.pk 0 (some (.bool (decide (((w18).length : Int) < (w18.length : Int))))) (v := .bool false) (by rw [lt_false (l := w18)]) (e1 := z12 []) ?_
    refine WO.fn (e2 := z12 []) ?_
    refine W.seq ?_
    refine W.cb false (fun h => Bool.noConfusion h) (fun _ => ?_)
    refine W.exit ?_
    refine W.wk (env' := z0 [(3, l24 (some 10300) v19), (13, l3 none a1), (14, I6 (a1.length : Int)), (15, I6 (k1 : Int))]) ?_
    exact hK10 v19 h
   ·obtain ⟨v19, rfl⟩ : ∃ x, x = s := ⟨s, rfl⟩
    have h : rf5_perms_l2 x1 (rf5_perms_j10 (rf5_perms_l1 a1 (rf5_perms fuel) (rf5_perms_j7) r1 (k1 + 1))) (x2 :: r2) k2 v19 = some r := h
    rw [rf5_perms_l2.eq_2] at h
    refine W.seq ?_
    refine W.rg ?_
    let z13 := fun t => z0 ((3, l24 (some 10300) v19) :: (5, I6 x1) :: (13, l3 none a1) :: (14, I6 (a1.length : Int)) :: (15, I6 (k1 : Int)) :: (31, l24 none w18) :: (32, I6 (w18.length : Int)) :: (33, I6 (k2 : Int)) :: t)
    refine WO.pk 0 (some (.bool (decide ((k2 : Int) < (w18.length : Int))))) (v := .bool true) (by rw [lt_true hk2]) (e1 := z13 [(34, .bool true)]) ?_
    refine WO.fn (e2 := z13 [(34, .bool true)]) ?_
    refine W.seq ?_
    refine W.cb true (fun _ => ?_) (fun h => Bool.noConfusion h)
    refine W.skip ?_
    refine W.wk (env' := z13 []) ?_
    refine W.seq ?_
    refine W.block ?_
    refine W.seq ?_
    refine W.rg ?_
    refine WO.pk 0 (if (0 : Int) ≤ (k2 : Int) then ((List.map (encL 3 1 (AV.int .i64)) w18)[Int.toNat (k2 : Int)]?).map AV.ptr else none) (v := .ptr (l3 none x2)) (idx_nat (f := (encL 3 1 (AV.int .i64))) hx2) (e1 := z13 [(35, .ptr (l3 none x2))]) ?_
    let z14 := fun t => z0 ((3, l24 (some 10300) v19) :: (5, I6 x1) :: (8, l3 none x2) :: (13, l3 none a1) :: (14, I6 (a1.length : Int)) :: (15, I6 (k1 : Int)) :: (31, l24 none w18) :: (32, I6 (w18.length : Int)) :: (33, I6 (k2 : Int)) :: t)
    refine WO.fn (e2 := z14 []) ?_
    refine W.rg ?_
    obtain ⟨hc22, h⟩ := chk_some h
    refine WO.appendK 4 (d := 41) (e := 3) (s := 1) (bytes := 8) (xs := (M6 [x1])) (ys := (M6 x2)) (zs := (M6 ([x1] ++ x2))) (env1 := [(0, l3 none a1), (3, l24 (some 10300) v19), (5, I6 x1), (8, l3 none x2), (13, l3 none a1), (14, I6 (a1.length : Int)), (15, I6 (k1 : Int)), (31, l24 none w18), (32, I6 (w18.length : Int)), (33, I6 (k2 : Int)), (37, l24 (some 10300) v19), (38, I6 x1), (39, l3 none [x1]), (40, l3 none x2)]) (by kernel_rfl) (List.map_append.symm) (by rw [List.length_map]; exact hc22) (e1 := z14 [(37, l24 (some 10300) v19), (38, I6 x1), (39, l3 none [x1]), (40, l3 none x2), (41, l3 (some 41) ([x1] ++ x2))]) (by kernel_rfl) ?_
    obtain ⟨hc23, h⟩ := chk_some h
    refine WO.appendK 1 (d := 43) (e := 24) (s := 1) (bytes := 24) (xs := (List.map (encL 3 1 (AV.int .i64)) v19)) (ys := (List.map (encL 3 1 (AV.int .i64)) [([x1] ++ x2)])) (zs := (List.map (encL 3 1 (AV.int .i64)) (v19 ++ [([x1] ++ x2)]))) (env1 := [(0, l3 none a1), (3, l24 none v19), (5, I6 x1), (8, l3 none x2), (13, l3 none a1), (14, I6 (a1.length : Int)), (15, I6 (k1 : Int)), (31, l24 none w18), (32, I6 (w18.length : Int)), (33, I6 (k2 : Int)), (37, l24 none v19), (38, I6 x1), (39, l3 none [x1]), (40, l3 none x2), (41, l3 (some 41) ([x1] ++ x2)), (42, l24 (some 42) [([x1] ++ x2)])]) (by kernel_rfl) (List.map_append.symm) (by rw [List.length_map]; exact hc23) (e1 := z0 [(3, l24 none v19), (5, I6 x1), (8, l3 none x2), (13, l3 none a1), (14, I6 (a1.length : Int)), (15, I6 (k1 : Int)), (31, l24 none w18), (32, I6 (w18.length : Int)), (33, I6 (k2 : Int)), (37, l24 none v19), (38, I6 x1), (39, l3 none [x1]), (40, l3 none x2), (41, l3 (some 41) ([x1] ++ x2)), (42, l24 (some 42) [([x1] ++ x2)]), (43, l24 (some 43) (v19 ++ [([x1] ++ x2)]))]) (by kernel_rfl) ?_
    let z15 := fun t => z0 ((3, l24 (some 43) (v19 ++ [([x1] ++ x2)])) :: (5, I6 x1) :: (13, l3 none a1) :: (14, I6 (a1.length : Int)) :: (15, I6 (k1 : Int)) :: (31, l24 none w18) :: (32, I6 (w18.length : Int)) :: (33, I6 (k2 : Int)) :: t)
    refine WO.fn (e2 := z15 []) ?_
    refine W.rg ?_
    refine WO.pk 0 (some (I6 (IntKind.wrap .i64 ((k2 : Int) + 1)))) (v := I6 ((k2 + 1 : Nat) : Int)) (by rw [wrap_succ hl2 hk2]) (e1 := z15 [(44, I6 ((k2 + 1 : Nat) : Int))]) ?_
    refine WO.fin [0, 3, 5, 13, 14, 15, 31, 32, 33] [] [] [(43, some 10300)] (e2 := z0 [(3, l24 (some 10300) (v19 ++ [([x1] ++ x2)])), (5, I6 x1), (13, l3 none a1), (14, I6 (a1.length : Int)), (15, I6 (k1 : Int)), (31, l24 none w18), (32, I6 (w18.length : Int)), (33, I6 ((k2 + 1 : Nat) : Int))]) (by kernel_rfl) (fun _ h => h) ?_
    exact hN2 (v19 ++ [([x1] ++ x2)]) h
def rf5_agrees_j5 : Option Bool :=
 (some true)
def rf5_agrees_j7 (N1 : (Option Bool)) : Option Bool :=
 N1
def rf5_agrees_l2 (x1 : Int) (a2 : (List Bool)) (K7 : (Option Bool)) : List Int → Nat → Option Bool
 | [], k2 => K7
 | x2 :: r2, k2 => (chk (decide ((0 : Int) ≤ x1 ∧ x1 < ((7 : Nat) : Int) ∧ 0 < 7)) (chk (decide ((0 : Int) ≤ x2 ∧ x2 < ((7 : Nat) : Int) ∧ 0 < 1)) ((a2[((0 + Int.toNat x1 * 7) + Int.toNat x2 * 1)]?).bind fun e16 => (bif e16 then (some false) else (rf5_agrees_l2 x1 a2 K7 r2 (k2 + 1))))))
def rf5_agrees_l1 (a1 : (List Int)) (a2 : (List Bool)) (K5 : (Option Bool)) : List Int → Nat → Option Bool
 | [], k1 => K5
 | x1 :: r1, k1 => ((sub a1 0 (k1 : Int)).bind fun e10 => (chk (lenOk e10) (rf5_agrees_l2 x1 a2 (rf5_agrees_j7 (rf5_agrees_l1 a1 a2 K5 r1 (k1 + 1))) e10 0)))
def rf5_agrees (a1 : (List Int)) (a2 : (List Bool)) : Option Bool :=
 (chk (!a2.isEmpty) (chk (lenOk a1) (rf5_agrees_l1 a1 a2 (rf5_agrees_j5) a1 0)))
theorem run_rf5_agrees (a1 : (List Int)) (a2 : (List Bool)) (r : Bool) (h : rf5_agrees a1 a2 = some r) : Run Try.prog (.call 76 [l3 none a1, .agg (List.map AV.bool a2)] (.bool r)) := by
 refine cW Try.func76 rfl (env0 := [(0, l3 none a1), (1, .agg (List.map AV.bool a2))]) ?_
 unfold rf5_agrees at h
 refine W.seq ?_
 refine W.rg ?_
 obtain ⟨hc4, h⟩ := chk_some h
 let z0 := fun t => EN ((0, l3 none a1) :: t)
 refine WO.boxA (enc := AV.bool) (l := a2) (d := 3) 0 flat_bool hc4 (e1 := z0 [(1, .agg (List.map AV.bool a2)), (3, .pb 1000003 0), (1000003, .hob 3 [] (List.map AV.bool a2))]) ?_
 let z1 := fun t => z0 ((3, .pb 1000003 0) :: t)
 refine WO.fn (e2 := z1 [(1000003, .hob 3 [] (List.map AV.bool a2))]) ?_
 refine W.seq ?_
 refine W.join (σ := Unit) (fun s => []) (fun s => (rf5_agrees_j5) = some r) (fun s h => ?_) (fun hK5 => ?_)
 ·have h : (rf5_agrees_j5) = some r := h
  unfold rf5_agrees_j5 at h
  refine W.seq ?_
  refine W.rt (e2 := [(4, .bool true)]) ?_
  refine W.wk (env' := [(4, .bool true)]) ?_
  have hr : aresults Try.prog Try.f76 [(4, .bool true)] = some (.bool true) := by kernel_rfl
  cases h
  exact W.ret hr
 refine W.seq ?_
 refine W.rg ?_
 let z2 := fun t => z1 ((9, l3 none a1) :: (10, I6 (a1.length : Int)) :: t)
 refine WO.pk 1 (some (I6 ((M6 a1).length : Int))) (v := I6 (a1.length : Int)) (by rw [List.length_map]) (e1 := z2 [(1000003, .hob 3 [] (List.map AV.bool a2))]) ?_
 refine WO.fn (e2 := z2 [(11, .int .i64 0), (1000003, .hob 3 [] (List.map AV.bool a2))]) ?_
 refine W.block ?_
 obtain ⟨hl1, h⟩ := chk_some h
 refine W.wk (env' := z2 [(11, I6 ((0 : Nat) : Int)), (1000003, .hob 3 [] (List.map AV.bool a2))]) ?_
 refine W.range (σ := Unit) a1 (fun k1 s => z2 [(11, I6 (k1 : Int)), (1000003, .hob 3 [] (List.map AV.bool a2))]) (fun r0 k0 s => rf5_agrees_l1 a1 a2 (rf5_agrees_j5) r0 k0 = some r) (fun s h => ?_) (fun x1 r1 k1 s hx1 hk1 h hN1 => ?_) () h
 ·have h : rf5_agrees_l1 a1 a2 (rf5_agrees_j5) [] (a1).length = some r := h
  rw [rf5_agrees_l1.eq_1] at h
  refine W.seq ?_
  refine W.rg ?_
  let z3 := fun t => z2 ((11, I6 ((a1).length : Int)) :: (12, .bool false) :: (1000003, .hob 3 [] (List.map AV.bool a2)) :: t)
  refine WO.pk 0 (some (.bool (decide (((a1).length : Int) < (a1.length : Int))))) (v := .bool false) (by rw [lt_false (l := a1)]) (e1 := z3 []) ?_
  refine WO.fn (e2 := z3 []) ?_
  refine W.seq ?_
  refine W.cb false (fun h => Bool.noConfusion h) (fun _ => ?_)
  refine W.exit ?_
  refine W.wk (env' := []) ?_
  exact hK5 () h
 ·have h : rf5_agrees_l1 a1 a2 (rf5_agrees_j5) (x1 :: r1) k1 = some r := h
  rw [rf5_agrees_l1.eq_2] at h
  refine W.seq ?_
  refine W.rg ?_
  let z4 := fun t => z2 ((11, I6 (k1 : Int)) :: t)
  let z5 := fun t => z4 ((12, .bool true) :: (1000003, .hob 3 [] (List.map AV.bool a2)) :: t)
  refine WO.pk 0 (some (.bool (decide ((k1 : Int) < (a1.length : Int))))) (v := .bool true) (by rw [lt_true hk1]) (e1 := z5 []) ?_
  refine WO.fn (e2 := z5 []) ?_
  refine W.seq ?_
  refine W.cb true (fun _ => ?_) (fun h => Bool.noConfusion h)
  refine W.skip ?_
  let z6 := fun t => z4 ((1000003, .hob 3 [] (List.map AV.bool a2)) :: t)
  refine W.wk (env' := z6 []) ?_
  refine W.seq ?_
  refine W.join (σ := Unit) (fun s => z6 []) (fun s => (rf5_agrees_j7 (rf5_agrees_l1 a1 a2 (rf5_agrees_j5) r1 (k1 + 1))) = some r) (fun s h => ?_) (fun hK7 => ?_)
  ·have h : (rf5_agrees_j7 (rf5_agrees_l1 a1 a2 (rf5_agrees_j5) r1 (k1 + 1))) = some r := h
   unfold rf5_agrees_j7 at h
   refine W.rg ?_
   refine WO.pk 0 (some (I6 (IntKind.wrap .i64 ((k1 : Int) + 1)))) (v := I6 ((k1 + 1 : Nat) : Int)) (by rw [wrap_succ hl1 hk1]) (e1 := z4 [(30, I6 ((k1 + 1 : Nat) : Int)), (1000003, .hob 3 [] (List.map AV.bool a2))]) ?_
   refine WO.fn (e2 := z2 [(11, I6 ((k1 + 1 : Nat) : Int)), (1000003, .hob 3 [] (List.map AV.bool a2))]) ?_
   exact hN1 () h
  refine W.block ?_
  refine W.seq ?_
  refine W.rg ?_
  refine WO.pk 1 (if (0 : Int) ≤ (k1 : Int) then ((M6 a1)[Int.toNat (k1 : Int)]?).map AV.ptr else none) (v := .ptr (I6 x1)) (idx_nat (f := (AV.int .i64)) hx1) (e1 := z4 [(13, I6 (k1 : Int)), (14, .ptr (I6 x1)), (1000003, .hob 3 [] (List.map AV.bool a2))]) ?_
  let z7 := fun t => z1 ((5, I6 (k1 : Int)) :: (6, I6 x1) :: (9, l3 none a1) :: (10, I6 (a1.length : Int)) :: (11, I6 (k1 : Int)) :: t)
  refine WO.fn (e2 := z7 [(1000003, .hob 3 [] (List.map AV.bool a2))]) ?_
  refine W.seq ?_
  refine W.rg ?_
  obtain ⟨e10, he10, h⟩ := bind_some h
  let z8 := fun t => z7 ((16, l3 none a1) :: (17, I6 (k1 : Int)) :: (18, l3 none e10) :: t)
  refine WO.pk 2 (if (0 : Int) ≤ 0 ∧ 0 ≤ (k1 : Int) ∧ (k1 : Int) ≤ ((M6 a1).length : Int) then some (.lst 3 1 none (((M6 a1).take (Int.toNat (k1 : Int))).drop (Int.toNat 0))) else none) (v := l3 none e10) (sub_av he10) (e1 := z8 [(1000003, .hob 3 [] (List.map AV.bool a2))]) ?_
  refine WO.pk 0 (some (I6 ((M6 e10).length : Int))) (v := I6 (e10.length : Int)) (by rw [List.length_map]) (e1 := z8 [(19, I6 (e10.length : Int)), (1000003, .hob 3 [] (List.map AV.bool a2))]) ?_
  let z9 := fun t => z1 ((6, I6 x1) :: (9, l3 none a1) :: (10, I6 (a1.length : Int)) :: (11, I6 (k1 : Int)) :: (18, l3 none e10) :: (19, I6 (e10.length : Int)) :: t)
  refine WO.fn (e2 := z9 [(20, .int .i64 0), (1000003, .hob 3 [] (List.map AV.bool a2))]) ?_
  refine W.block ?_
  obtain ⟨hl2, h⟩ := chk_some h
  refine W.wk (env' := z9 [(20, I6 ((0 : Nat) : Int)), (1000003, .hob 3 [] (List.map AV.bool a2))]) ?_
  refine W.range (σ := Unit) e10 (fun k2 s => z9 [(20, I6 (k2 : Int)), (1000003, .hob 3 [] (List.map AV.bool a2))]) (fun r0 k0 s => rf5_agrees_l2 x1 a2 (rf5_agrees_j7 (rf5_agrees_l1 a1 a2 (rf5_agrees_j5) r1 (k1 + 1))) r0 k0 = some r) (fun s h => ?_) (fun x2 r2 k2 s hx2 hk2 h hN2 => ?_) () h
  ·have h : rf5_agrees_l2 x1 a2 (rf5_agrees_j7 (rf5_agrees_l1 a1 a2 (rf5_agrees_j5) r1 (k1 + 1))) [] (e10).length = some r := h
   rw [rf5_agrees_l2.eq_1] at h
   refine W.seq ?_
   refine W.rg ?_
   let z10 := fun t => z9 ((20, I6 ((e10).length : Int)) :: (21, .bool false) :: (1000003, .hob 3 [] (List.map AV.bool a2)) :: t)
   refine WO.pk 0 (some (.bool (decide (((e10).length : Int) < (e10.length : Int))))) (v := .bool false) (by rw [lt_false (l := e10)]) (e1 := z10 []) ?_
   refine WO.fn (e2 := z10 []) ?_
   refine W.seq ?_
   refine W.cb false (fun h => Bool.noConfusion h) (fun _ => ?_)
   refine W.exit ?_
   refine W.wk (env' := z6 []) ?_
   exact hK7 () h
  ·have h : rf5_agrees_l2 x1 a2 (rf5_agrees_j7 (rf5_agrees_l1 a1 a2 (rf5_agrees_j5) r1 (k1 + 1))) (x2 :: r2) k2 = some r := h
   rw [rf5_agrees_l2.eq_2] at h
   refine W.seq ?_
   refine W.rg ?_
   let z11 := fun t => z9 ((20, I6 (k2 : Int)) :: t)
   let z12 := fun t => z11 ((21, .bool true) :: (1000003, .hob 3 [] (List.map AV.bool a2)) :: t)
   refine WO.pk 0 (some (.bool (decide ((k2 : Int) < (e10.length : Int))))) (v := .bool true) (by rw [lt_true hk2]) (e1 := z12 []) ?_
   refine WO.fn (e2 := z12 []) ?_
   refine W.seq ?_
   refine W.cb true (fun _ => ?_) (fun h => Bool.noConfusion h)
   refine W.skip ?_
   let z13 := fun t => z11 ((1000003, .hob 3 [] (List.map AV.bool a2)) :: t)
   refine W.wk (env' := z13 []) ?_
   refine W.seq ?_
   refine W.block ?_
   refine W.seq ?_
   refine W.rg ?_
   refine WO.pk 0 (if (0 : Int) ≤ (k2 : Int) then ((M6 e10)[Int.toNat (k2 : Int)]?).map AV.ptr else none) (v := .ptr (I6 x2)) (idx_nat (f := (AV.int .i64)) hx2) (e1 := z11 [(22, .ptr (I6 x2)), (1000003, .hob 3 [] (List.map AV.bool a2))]) ?_
   let z14 := fun t => z1 ((6, I6 x1) :: (8, I6 x2) :: (9, l3 none a1) :: (10, I6 (a1.length : Int)) :: (11, I6 (k1 : Int)) :: (18, l3 none e10) :: (19, I6 (e10.length : Int)) :: (20, I6 (k2 : Int)) :: t)
   refine WO.fn (e2 := z14 [(1000003, .hob 3 [] (List.map AV.bool a2))]) ?_
   refine W.seq ?_
   refine W.rg ?_
   obtain ⟨hc14, h⟩ := chk_some h
   let z15 := fun t => z14 ((24, I6 x1) :: (25, I6 x2) :: (26, .pb 1000003 (0 + Int.toNat x1 * 7)) :: t)
   refine WO.pi 2 (v := .pb 1000003 (0 + Int.toNat x1 * 7)) hc14 (e1 := z15 [(1000003, .hob 3 [] (List.map AV.bool a2))]) ?_
   obtain ⟨hc15, h⟩ := chk_some h
   let z16 := fun t => z15 ((27, .pb 1000003 ((0 + Int.toNat x1 * 7) + Int.toNat x2 * 1)) :: t)
   refine WO.pi 0 (v := .pb 1000003 ((0 + Int.toNat x1 * 7) + Int.toNat x2 * 1)) hc15 (e1 := z16 [(1000003, .hob 3 [] (List.map AV.bool a2))]) ?_
   obtain ⟨e16, he16, h⟩ := bind_some h
   refine WO.pk 0 (cut Try.prog 4 (List.map AV.bool a2) ((0 + Int.toNat x1 * 7) + Int.toNat x2 * 1)) (v := .bool e16) (cut_at flat_bool (by kernel_rfl) he16) (e1 := z16 [(28, .bool e16), (1000003, .hob 3 [] (List.map AV.bool a2))]) ?_
   refine WO.fn (e2 := z11 [(28, .bool e16), (1000003, .hob 3 [] (List.map AV.bool a2))]) ?_
   refine W.cb e16 (fun hb => ?_) (fun hb => ?_)
   ·replace h := cond_t hb h
    refine W.seq ?_
    refine W.rt (e2 := [(4, .bool false)]) ?_
    refine W.wk (env' := [(4, .bool false)]) ?_
    have hr : aresults Try.prog Try.f76 [(4, .bool false)] = some (.bool false) := by kernel_rfl
    cases h
    exact W.ret hr
   replace h := cond_f hb h
   refine W.skip ?_
   refine W.wk (env' := z13 []) ?_
   refine W.rg ?_
   refine WO.pk 0 (some (I6 (IntKind.wrap .i64 ((k2 : Int) + 1)))) (v := I6 ((k2 + 1 : Nat) : Int)) (by rw [wrap_succ hl2 hk2]) (e1 := z11 [(29, I6 ((k2 + 1 : Nat) : Int)), (1000003, .hob 3 [] (List.map AV.bool a2))]) ?_
   refine WO.fn (e2 := z9 [(20, I6 ((k2 + 1 : Nat) : Int)), (1000003, .hob 3 [] (List.map AV.bool a2))]) ?_
   exact hN2 () h
def rf5_first_j5 : Option ((List Int) × Bool) :=
 (some (([] : (List Int)), false))
def rf5_first_l1 (a2 : (List Bool)) (K5 : (Option ((List Int) × Bool))) : List (List Int) → Nat → Option ((List Int) × Bool)
 | [], k1 => K5
 | x1 :: r1, k1 => (chk (decide (a2.length = 49)) ((rf5_agrees x1 a2).bind fun w12 => (bif w12 then (some (x1, true)) else (rf5_first_l1 a2 K5 r1 (k1 + 1)))))
def rf5_first (fuel : Nat) (a1 : (List Int)) (a2 : (List Bool)) : Option ((List Int) × Bool) :=
 (chk (!a2.isEmpty) ((rf5_perms fuel a1).bind fun w7 => (chk (lenOk w7) (rf5_first_l1 a2 (rf5_first_j5) w7 0))))
theorem run_rf5_first (fuel : Nat) (a1 : (List Int)) (a2 : (List Bool)) (r : ((List Int) × Bool)) (h : rf5_first fuel a1 a2 = some r) : Run Try.prog (.call 56 [l3 none a1, .agg (List.map AV.bool a2)] (.tup [l3 none r.1, .bool r.2])) := by
 refine cW Try.func56 rfl (env0 := [(0, l3 none a1), (1, .agg (List.map AV.bool a2))]) ?_
 unfold rf5_first at h
 refine W.seq ?_
 refine W.rg ?_
 obtain ⟨hc4, h⟩ := chk_some h
 refine WO.boxA (enc := AV.bool) (l := a2) (d := 3) 0 flat_bool hc4 (e1 := [(0, l3 none a1), (1, .agg (List.map AV.bool a2)), (3, .pb 1000003 0), (1000003, .hob 3 [] (List.map AV.bool a2))]) ?_
 let z0 := fun t => EN ((0, l3 none a1) :: (3, .pb 1000003 0) :: t)
 refine WO.fn (e2 := z0 [(1000003, .hob 3 [] (List.map AV.bool a2))]) ?_
 refine W.seq ?_
 refine W.join (σ := Unit) (fun s => []) (fun s => (rf5_first_j5) = some r) (fun s h => ?_) (fun hK5 => ?_)
 ·have h : (rf5_first_j5) = some r := h
  unfold rf5_first_j5 at h
  refine W.seq ?_
  refine W.rt (e2 := [(4, .nils), (5, .bool false)]) ?_
  refine W.weak [4, 5] [] [(4, 0, 3, 1, 70004)] [] (env' := [(4, l3 (some 70004) ([] : (List Int))), (5, .bool false)]) (by kernel_rfl) ?_
  have hr : aresults Try.prog Try.f56 [(4, l3 (some 70004) ([] : (List Int))), (5, .bool false)] = some (.tup [l3 none ([] : (List Int)), .bool false]) := by kernel_rfl
  cases h
  exact W.ret hr
 refine W.seq ?_
 refine W.rg ?_
 obtain ⟨w7, hw7, h⟩ := bind_some h
 let z1 := fun t => z0 ((8, l3 none a1) :: (9, l24 none w7) :: t)
 refine WO.ck 1 (F := 67) (l := [l3 none a1]) (C := []) (r := l24 none w7) (run_rf5_perms fuel a1 w7 hw7) (e1 := z1 [(1000003, .hob 3 [] (List.map AV.bool a2))]) ?_
 refine WO.pk 0 (some (I6 ((List.map (encL 3 1 (AV.int .i64)) w7).length : Int))) (v := I6 (w7.length : Int)) (by rw [List.length_map]) (e1 := z1 [(10, I6 (w7.length : Int)), (1000003, .hob 3 [] (List.map AV.bool a2))]) ?_
 let z2 := fun t => EN ((3, .pb 1000003 0) :: (9, l24 none w7) :: (10, I6 (w7.length : Int)) :: t)
 refine WO.fn (e2 := z2 [(11, .int .i64 0), (1000003, .hob 3 [] (List.map AV.bool a2))]) ?_
 refine W.block ?_
 obtain ⟨hl1, h⟩ := chk_some h
 refine W.wk (env' := z2 [(11, I6 ((0 : Nat) : Int)), (1000003, .hob 3 [] (List.map AV.bool a2))]) ?_
 refine W.range (σ := Unit) w7 (fun k1 s => z2 [(11, I6 (k1 : Int)), (1000003, .hob 3 [] (List.map AV.bool a2))]) (fun r0 k0 s => rf5_first_l1 a2 (rf5_first_j5) r0 k0 = some r) (fun s h => ?_) (fun x1 r1 k1 s hx1 hk1 h hN1 => ?_) () h
 ·have h : rf5_first_l1 a2 (rf5_first_j5) [] (w7).length = some r := h
  rw [rf5_first_l1.eq_1] at h
  refine W.seq ?_
  refine W.rg ?_
  let z3 := fun t => z2 ((11, I6 ((w7).length : Int)) :: (12, .bool false) :: (1000003, .hob 3 [] (List.map AV.bool a2)) :: t)
  refine WO.pk 0 (some (.bool (decide (((w7).length : Int) < (w7.length : Int))))) (v := .bool false) (by rw [lt_false (l := w7)]) (e1 := z3 []) ?_
  refine WO.fn (e2 := z3 []) ?_
  refine W.seq ?_
  refine W.cb false (fun h => Bool.noConfusion h) (fun _ => ?_)
  refine W.exit ?_
  refine W.wk (env' := []) ?_
  exact hK5 () h
 ·have h : rf5_first_l1 a2 (rf5_first_j5) (x1 :: r1) k1 = some r := h
  rw [rf5_first_l1.eq_2] at h
  refine W.seq ?_
  refine W.rg ?_
  let z4 := fun t => z2 ((11, I6 (k1 : Int)) :: t)
  let z5 := fun t => z4 ((12, .bool true) :: (1000003, .hob 3 [] (List.map AV.bool a2)) :: t)
  refine WO.pk 0 (some (.bool (decide ((k1 : Int) < (w7.length : Int))))) (v := .bool true) (by rw [lt_true hk1]) (e1 := z5 []) ?_
  refine WO.fn (e2 := z5 []) ?_
  refine W.seq ?_
  refine W.cb true (fun _ => ?_) (fun h => Bool.noConfusion h)
  refine W.skip ?_
  let z6 := fun t => z4 ((1000003, .hob 3 [] (List.map AV.bool a2)) :: t)
  refine W.wk (env' := z6 []) ?_
  refine W.seq ?_
  refine W.block ?_
  refine W.seq ?_
  refine W.rg ?_
  refine WO.pk 0 (if (0 : Int) ≤ (k1 : Int) then ((List.map (encL 3 1 (AV.int .i64)) w7)[Int.toNat (k1 : Int)]?).map AV.ptr else none) (v := .ptr (l3 none x1)) (idx_nat (f := (encL 3 1 (AV.int .i64))) hx1) (e1 := z4 [(13, .ptr (l3 none x1)), (1000003, .hob 3 [] (List.map AV.bool a2))]) ?_
  let z7 := fun t => EN ((3, .pb 1000003 0) :: (7, l3 none x1) :: (9, l24 none w7) :: (10, I6 (w7.length : Int)) :: (11, I6 (k1 : Int)) :: t)
  refine WO.fn (e2 := z7 [(1000003, .hob 3 [] (List.map AV.bool a2))]) ?_
  refine W.seq ?_
  refine W.rg ?_
  obtain ⟨hc11, h⟩ := chk_some h
  let z8 := fun t => z7 ((15, l3 none x1) :: (16, .agg (List.map AV.bool a2)) :: t)
  refine WO.pk 1 (cut Try.prog 79 (List.map AV.bool a2) 0) (v := .agg (List.map AV.bool a2)) (cut_whole flat_bool (sz := 49) (by kernel_rfl) (of_decide_eq_true hc11)) (e1 := z8 [(1000003, .hob 3 [] (List.map AV.bool a2))]) ?_
  obtain ⟨w12, hw12, h⟩ := bind_some h
  refine WO.ck 0 (F := 76) (l := [l3 none x1, .agg (List.map AV.bool a2)]) (C := []) (r := .bool w12) (run_rf5_agrees x1 a2 w12 hw12) (e1 := z8 [(17, .bool w12), (1000003, .hob 3 [] (List.map AV.bool a2))]) ?_
  refine WO.fn (e2 := z7 [(17, .bool w12), (1000003, .hob 3 [] (List.map AV.bool a2))]) ?_
  refine W.cb w12 (fun hb => ?_) (fun hb => ?_)
  ·replace h := cond_t hb h
   refine W.seq ?_
   refine W.rt (e2 := [(4, l3 none x1), (5, .bool true)]) ?_
   refine W.wk (env' := [(4, l3 none x1), (5, .bool true)]) ?_
   have hr : aresults Try.prog Try.f56 [(4, l3 none x1), (5, .bool true)] = some (.tup [l3 none x1, .bool true]) := by kernel_rfl
   cases h
   exact W.ret hr
  replace h := cond_f hb h
  refine W.skip ?_
  refine W.wk (env' := z6 []) ?_
  refine W.rg ?_
  refine WO.pk 0 (some (I6 (IntKind.wrap .i64 ((k1 : Int) + 1)))) (v := I6 ((k1 + 1 : Nat) : Int)) (by rw [wrap_succ hl1 hk1]) (e1 := z4 [(19, I6 ((k1 + 1 : Nat) : Int)), (1000003, .hob 3 [] (List.map AV.bool a2))]) ?_
  refine WO.fn (e2 := z2 [(11, I6 ((k1 + 1 : Nat) : Int)), (1000003, .hob 3 [] (List.map AV.bool a2))]) ?_
  exact hN1 () h
def rf5_SnapshotOrder (fuel : Nat) (a1 : (List rf5Op)) : Option ((List Int) × Int) :=
 ((rf5_Allowed fuel a1).bind fun w5 => (bif (!w5) then (some (([] : (List Int)), 7)) else ((rf5_committed fuel a1).bind fun w8 => ((rf5_all fuel a1).bind fun w9 => ((rf5_first fuel w8 w9).bind fun w10 => (bif (!w10.2) then (some (([] : (List Int)), 5)) else (some (w10.1, 0))))))))
theorem run_rf5_SnapshotOrder (fuel : Nat) (a1 : (List rf5Op)) (r : ((List Int) × Int)) (h : rf5_SnapshotOrder fuel a1 = some r) : Run Try.prog (.call 44 [l43 none a1] (.tup [l3 none r.1, I6 r.2])) := by
 refine cW Try.func44 rfl (env0 := [(0, l43 none a1)]) ?_
 unfold rf5_SnapshotOrder at h
 refine W.seq ?_
 let z0 := fun t => EN ((0, l43 none a1) :: t)
 refine W.rt (e2 := z0 []) ?_
 refine W.seq ?_
 refine W.seq ?_
 refine W.rg ?_
 obtain ⟨w5, hw5, h⟩ := bind_some h
 refine WO.ck 1 (F := 46) (l := [l43 none a1]) (C := []) (r := .bool w5) (run_rf5_Allowed fuel a1 w5 hw5) (e1 := z0 [(6, l43 none a1), (7, .bool w5)]) ?_
 refine WO.fn (e2 := z0 [(8, .bool (!w5))]) ?_
 refine W.cb (!w5) (fun hb => ?_) (fun hb => ?_)
 ·replace h := cond_t hb h
  refine W.seq ?_
  refine W.rt (e2 := [(2, .nils), (3, .int .i64 7)]) ?_
  refine W.weak [2, 3] [] [(2, 0, 3, 1, 70002)] [] (env' := [(2, l3 (some 70002) ([] : (List Int))), (3, .int .i64 7)]) (by kernel_rfl) ?_
  have hr : aresults Try.prog Try.f44 [(2, l3 (some 70002) ([] : (List Int))), (3, .int .i64 7)] = some (.tup [l3 none ([] : (List Int)), .int .i64 7]) := by kernel_rfl
  cases h
  exact W.ret hr
 replace h := cond_f hb h
 refine W.skip ?_
 refine W.wk (env' := z0 []) ?_
 refine W.seq ?_
 refine W.rg ?_
 obtain ⟨w8, hw8, h⟩ := bind_some h
 let z1 := fun t => z0 ((10, l43 none a1) :: (11, l3 (some 11) w8) :: t)
 refine WO.ck 1 (F := 57) (l := [l43 none a1]) (C := []) (r := l3 (some 1) w8) (run_rf5_committed fuel a1 w8 hw8) (e1 := z1 []) ?_
 obtain ⟨w9, hw9, h⟩ := bind_some h
 let z2 := fun t => z1 ((12, l43 none a1) :: (13, .agg (List.map AV.bool w9)) :: t)
 refine WO.ck 1 (F := 84) (l := [l43 none a1]) (C := []) (r := .agg (List.map AV.bool w9)) (run_rf5_all fuel a1 w9 hw9) (e1 := z2 []) ?_
 obtain ⟨w10, hw10, h⟩ := bind_some h
 refine WO.ck 0 (F := 56) (l := [l3 none w8, .agg (List.map AV.bool w9)]) (C := []) (r := .tup [l3 none w10.1, .bool w10.2]) (run_rf5_first fuel w8 w9 w10 hw10) (e1 := z2 [(14, .tup [l3 none w10.1, .bool w10.2])]) ?_
 refine WO.fn (e2 := [(4, l3 none w10.1), (5, .bool w10.2)]) ?_
 refine W.seq ?_
 refine W.seq ?_
 refine W.rt (e2 := [(4, l3 none w10.1), (18, .bool (!w10.2))]) ?_
 refine W.cb (!w10.2) (fun hb => ?_) (fun hb => ?_)
 ·replace h := cond_t hb h
  refine W.seq ?_
  refine W.rt (e2 := [(2, .nils), (3, .int .i64 5)]) ?_
  refine W.weak [2, 3] [] [(2, 0, 3, 1, 70002)] [] (env' := [(2, l3 (some 70002) ([] : (List Int))), (3, .int .i64 5)]) (by kernel_rfl) ?_
  have hr : aresults Try.prog Try.f44 [(2, l3 (some 70002) ([] : (List Int))), (3, .int .i64 5)] = some (.tup [l3 none ([] : (List Int)), .int .i64 5]) := by kernel_rfl
  cases h
  exact W.ret hr
 replace h := cond_f hb h
 refine W.skip ?_
 refine W.wk (env' := [(4, l3 none w10.1)]) ?_
 refine W.seq ?_
 refine W.rt (e2 := [(2, l3 none w10.1), (3, .int .i64 0)]) ?_
 refine W.wk (env' := [(2, l3 none w10.1), (3, .int .i64 0)]) ?_
 have hr : aresults Try.prog Try.f44 [(2, l3 none w10.1), (3, .int .i64 0)] = some (.tup [l3 none w10.1, .int .i64 0]) := by kernel_rfl
 cases h
 exact W.ret hr
end Go.AM
namespace Go.AM
open Go.Proofs
def rf5_Danger_j13 (v40 : (List arr3_Int)) : Option ((List arr3_Int) × Int) :=
 (some (v40, 0))
def rf5_Danger_j16 (N1 : ((List arr3_Int) → Option ((List arr3_Int) × Int))) (v39 : (List arr3_Int)) : Option ((List arr3_Int) × Int) :=
 (N1 v39)
def rf5_Danger_j20 (N2 : ((List arr3_Int) → Option ((List arr3_Int) × Int))) (v38 : (List arr3_Int)) : Option ((List arr3_Int) × Int) :=
 (N2 v38)
def rf5_Danger_j24 (N3 : ((List arr3_Int) → Option ((List arr3_Int) × Int))) (v37 : (List arr3_Int)) : Option ((List arr3_Int) × Int) :=
 (N3 v37)
def rf5_Danger_j26 (x1 : Int) (x2 : Int) (x3 : Int) (v23 : (List arr3_Int)) (K24 : ((List arr3_Int) → Option ((List arr3_Int) × Int))) (v35 : Bool) : Option ((List arr3_Int) × Int) :=
 (bif v35 then (chk (capOk 24 ((v23 ++ [(arr3_Int.mk x1 x2 x3)])).length) (K24 (v23 ++ [(arr3_Int.mk x1 x2 x3)]))) else (K24 v23))
def rf5_Danger_l3 (fuel : Nat) (a1 : (List rf5Op)) (x1 : Int) (x2 : Int) (w9 : (List Bool)) (K20 : ((List arr3_Int) → Option ((List arr3_Int) × Int))) : List Int → Nat → (List arr3_Int) → Option ((List arr3_Int) × Int)
 | [], k3, v23 => (K20 v23)
 | x3 :: r3, k3, v23 => (chk (decide ((0 : Int) ≤ x1 ∧ x1 < ((7 : Nat) : Int) ∧ 0 < 7)) (chk (decide ((0 : Int) ≤ x2 ∧ x2 < ((7 : Nat) : Int) ∧ 0 < 1)) ((w9[((0 + Int.toNat x1 * 7) + Int.toNat x2 * 1)]?).bind fun e29 => (bif e29 then (chk (decide ((0 : Int) ≤ x2 ∧ x2 < ((7 : Nat) : Int) ∧ 0 < 7)) (chk (decide ((0 : Int) ≤ x3 ∧ x3 < ((7 : Nat) : Int) ∧ 0 < 1)) ((w9[((0 + Int.toNat x2 * 7) + Int.toNat x3 * 1)]?).bind fun e32 => (bif e32 then ((rf5_overlap fuel a1 x1 x2).bind fun w33 => (bif w33 then ((rf5_overlap fuel a1 x2 x3).bind fun w34 => ((rf5_Danger_j26 x1 x2 x3 v23 (rf5_Danger_j24 (rf5_Danger_l3 fuel a1 x1 x2 w9 K20 r3 (k3 + 1)))) w34)) else ((rf5_Danger_j26 x1 x2 x3 v23 (rf5_Danger_j24 (rf5_Danger_l3 fuel a1 x1 x2 w9 K20 r3 (k3 + 1)))) false))) else ((rf5_Danger_j26 x1 x2 x3 v23 (rf5_Danger_j24 (rf5_Danger_l3 fuel a1 x1 x2 w9 K20 r3 (k3 + 1)))) false))))) else ((rf5_Danger_j26 x1 x2 x3 v23 (rf5_Danger_j24 (rf5_Danger_l3 fuel a1 x1 x2 w9 K20 r3 (k3 + 1)))) false)))))
def rf5_Danger_l2 (fuel : Nat) (a1 : (List rf5Op)) (x1 : Int) (w9 : (List Bool)) (w12 : (List Int)) (K16 : ((List arr3_Int) → Option ((List arr3_Int) × Int))) : List Int → Nat → (List arr3_Int) → Option ((List arr3_Int) × Int)
 | [], k2, v19 => (K16 v19)
 | x2 :: r2, k2, v19 => (chk (lenOk w12) (rf5_Danger_l3 fuel a1 x1 x2 w9 (rf5_Danger_j20 (rf5_Danger_l2 fuel a1 x1 w9 w12 K16 r2 (k2 + 1))) w12 0 v19))
def rf5_Danger_l1 (fuel : Nat) (a1 : (List rf5Op)) (w9 : (List Bool)) (w12 : (List Int)) (K13 : ((List arr3_Int) → Option ((List arr3_Int) × Int))) : List Int → Nat → (List arr3_Int) → Option ((List arr3_Int) × Int)
 | [], k1, v15 => (K13 v15)
 | x1 :: r1, k1, v15 => (chk (lenOk w12) (rf5_Danger_l2 fuel a1 x1 w9 w12 (rf5_Danger_j16 (rf5_Danger_l1 fuel a1 w9 w12 K13 r1 (k1 + 1))) w12 0 v15))
def rf5_Danger (fuel : Nat) (a1 : (List rf5Op)) : Option ((List arr3_Int) × Int) :=
 ((rf5_Allowed fuel a1).bind fun w5 => (bif (!w5) then (some (([] : (List arr3_Int)), 7)) else ((rf5_anti fuel a1).bind fun w9 => (chk (decide (w9.length = 49 ∧ (List.replicate 49 false).length = 49)) ((rf5_committed fuel a1).bind fun w12 => (chk (lenOk w12) (rf5_Danger_l1 fuel a1 w9 w12 (rf5_Danger_j13) w12 0 ([] : (List arr3_Int)))))))))
theorem run_rf5_Danger (fuel : Nat) (a1 : (List rf5Op)) (r : ((List arr3_Int) × Int)) (h : rf5_Danger fuel a1 = some r) : Run Try.prog (.call 45 [l43 none a1] (.tup [l64 none r.1, I6 r.2])) := by
 refine cW Try.func45 rfl (env0 := [(0, l43 none a1)]) ?_
 unfold rf5_Danger at h
 refine W.seq ?_
 let z0 := fun t => EN ((0, l43 none a1) :: t)
 refine W.rt (e2 := z0 []) ?_
 refine W.seq ?_
 refine W.seq ?_
 refine W.rg ?_
 obtain ⟨w5, hw5, h⟩ := bind_some h
 refine WO.ck 1 (F := 46) (l := [l43 none a1]) (C := []) (r := .bool w5) (run_rf5_Allowed fuel a1 w5 hw5) (e1 := z0 [(13, l43 none a1), (14, .bool w5)]) ?_
 refine WO.fn (e2 := z0 [(15, .bool (!w5))]) ?_
 refine W.cb (!w5) (fun hb => ?_) (fun hb => ?_)
 ·replace h := cond_t hb h
  refine W.seq ?_
  refine W.rt (e2 := [(2, .nils), (3, .int .i64 7)]) ?_
  refine W.weak [2, 3] [] [(2, 0, 64, 3, 70002)] [] (env' := [(2, l64 (some 70002) ([] : (List arr3_Int))), (3, .int .i64 7)]) (by kernel_rfl) ?_
  have hr : aresults Try.prog Try.f45 [(2, l64 (some 70002) ([] : (List arr3_Int))), (3, .int .i64 7)] = some (.tup [l64 none ([] : (List arr3_Int)), .int .i64 7]) := by kernel_rfl
  cases h
  exact W.ret hr
 replace h := cond_f hb h
 refine W.skip ?_
 refine W.wk (env' := z0 []) ?_
 refine W.seq ?_
 let z1 := fun t => z0 ((4, .nils) :: t)
 refine W.rt (e2 := z1 []) ?_
 refine W.seq ?_
 refine W.rg ?_
 obtain ⟨w9, hw9, h⟩ := bind_some h
 refine WO.ck 1 (F := 85) (l := [l43 none a1]) (C := []) (r := .agg (List.map AV.bool w9)) (run_rf5_anti fuel a1 w9 hw9) (e1 := z1 [(16, l43 none a1), (17, .agg (List.map AV.bool w9))]) ?_
 refine WO.steps 1 (e1 := z1 [(5, .box [.bool false, .bool false, .bool false, .bool false, .bool false, .bool false, .bool false, .bool false, .bool false, .bool false, .bool false, .bool false, .bool false, .bool false, .bool false, .bool false, .bool false, .bool false, .bool false, .bool false, .bool false, .bool false, .bool false, .bool false, .bool false, .bool false, .bool false, .bool false, .bool false, .bool false, .bool false, .bool false, .bool false, .bool false, .bool false, .bool false, .bool false, .bool false, .bool false, .bool false, .bool false, .bool false, .bool false, .bool false, .bool false, .bool false, .bool false, .bool false, .bool false]), (16, l43 none a1), (17, .agg (List.map AV.bool w9))]) (by kernel_rfl) ?_
 let z2 := fun t => z1 ((5, .pb 1000005 0) :: t)
 let z3 := fun t => z2 ((16, l43 none a1) :: (17, .agg (List.map AV.bool w9)) :: t)
 refine WO.mv [.arr 5] (env' := z3 [(1000005, .hob 3 [] (List.map AV.bool (List.replicate 49 false)))]) (by kernel_rfl) ?_
 obtain ⟨hc10, h⟩ := chk_some h
 refine WO.storeA (enc := AV.bool) (l := w9) (l' := (List.replicate 49 false)) (s := 1000005) (sz := 49) 0 flat_bool hc10 (e1 := z3 [(1000005, .hob 3 [] (List.map AV.bool w9))]) ?_
 refine WO.fn (e2 := z2 [(1000005, .hob 3 [] (List.map AV.bool w9))]) ?_
 refine W.seq ?_
 refine W.rg ?_
 obtain ⟨w12, hw12, h⟩ := bind_some h
 refine WO.ck 1 (F := 57) (l := [l43 none a1]) (C := []) (r := l3 (some 1) w12) (run_rf5_committed fuel a1 w12 hw12) (e1 := z2 [(18, l43 none a1), (19, l3 (some 19) w12), (1000005, .hob 3 [] (List.map AV.bool w9))]) ?_
 let z4 := fun t => z2 ((6, l3 (some 19) w12) :: t)
 refine WO.fn (e2 := z4 [(1000005, .hob 3 [] (List.map AV.bool w9))]) ?_
 refine W.seq ?_
 refine W.join (σ := ((List arr3_Int))) (fun s => [(4, l64 (some 10400) s)]) (fun s => (rf5_Danger_j13) s = some r) (fun s h => ?_) (fun hK13 => ?_)
 ·obtain ⟨v40, rfl⟩ : ∃ x, x = s := ⟨s, rfl⟩
  have h : (rf5_Danger_j13) v40 = some r := h
  unfold rf5_Danger_j13 at h
  refine W.seq ?_
  refine W.rt (e2 := [(2, l64 (some 10400) v40), (3, .int .i64 0)]) ?_
  refine W.wk (env' := [(2, l64 (some 10400) v40), (3, .int .i64 0)]) ?_
  have hr : aresults Try.prog Try.f45 [(2, l64 (some 10400) v40), (3, .int .i64 0)] = some (.tup [l64 none v40, .int .i64 0]) := by kernel_rfl
  cases h
  exact W.ret hr
 refine W.seq ?_
 refine W.rg ?_
 let z5 := fun t => z4 ((20, l3 (some 19) w12) :: (21, I6 (w12.length : Int)) :: t)
 refine WO.pk 1 (some (I6 ((M6 w12).length : Int))) (v := I6 (w12.length : Int)) (by rw [List.length_map]) (e1 := z5 [(1000005, .hob 3 [] (List.map AV.bool w9))]) ?_
 refine WO.fn (e2 := z5 [(22, .int .i64 0), (1000005, .hob 3 [] (List.map AV.bool w9))]) ?_
 refine W.block ?_
 obtain ⟨hl1, h⟩ := chk_some h
 refine W.weak [0, 4, 5, 6, 20, 21, 22, 1000005] [] [(4, 0, 64, 3, 10400)] [] (env' := z0 [(4, l64 (some 10400) ([] : (List arr3_Int))), (5, .pb 1000005 0), (6, l3 (some 19) w12), (20, l3 (some 19) w12), (21, I6 (w12.length : Int)), (22, I6 ((0 : Nat) : Int)), (1000005, .hob 3 [] (List.map AV.bool w9))]) (by kernel_rfl) ?_
 refine W.range (σ := ((List arr3_Int))) w12 (fun k1 s => z0 [(4, l64 (some 10400) s), (5, .pb 1000005 0), (6, l3 (some 19) w12), (20, l3 (some 19) w12), (21, I6 (w12.length : Int)), (22, I6 (k1 : Int)), (1000005, .hob 3 [] (List.map AV.bool w9))]) (fun r0 k0 s => rf5_Danger_l1 fuel a1 w9 w12 (rf5_Danger_j13) r0 k0 s = some r) (fun s h => ?_) (fun x1 r1 k1 s hx1 hk1 h hN1 => ?_) ([] : (List arr3_Int)) h
 ·obtain ⟨v15, rfl⟩ : ∃ x, x = s := ⟨s, rfl⟩
  have h : rf5_Danger_l1 fuel a1 w9 w12 (rf5_Danger_j13) [] (w12).length v15 = some r := h
  rw [rf5_Danger_l1.eq_1] at h
  refine W.seq ?_
  refine W.rg ?_
  let z6 := fun t => z0 ((4, l64 (some 10400) v15) :: (5, .pb 1000005 0) :: (6, l3 (some 19) w12) :: (20, l3 (some 19) w12) :: (21, I6 (w12.length : Int)) :: (22, I6 ((w12).length : Int)) :: (23, .bool false) :: (1000005, .hob 3 [] (List.map AV.bool w9)) :: t)
  refine WO.pk 0 (some (.bool (decide (((w12).length : Int) < (w12.length : Int))))) (v := .bool false) (by rw [lt_false (l := w12)]) (e1 := z6 []) ?_
  refine WO.fn (e2 := z6 []) ?_
  refine W.seq ?_
  refine W.cb false (fun h => Bool.noConfusion h) (fun _ => ?_)
  refine W.exit ?_
  refine W.wk (env' := [(4, l64 (some 10400) v15)]) ?_
  exact hK13 v15 h
 ·obtain ⟨v15, rfl⟩ : ∃ x, x = s := ⟨s, rfl⟩
  have h : rf5_Danger_l1 fuel a1 w9 w12 (rf5_Danger_j13) (x1 :: r1) k1 v15 = some r := h
  rw [rf5_Danger_l1.eq_2] at h
  refine W.seq ?_
  refine W.rg ?_
  let z7 := fun t => z0 ((4, l64 (some 10400) v15) :: (5, .pb 1000005 0) :: (6, l3 (some 19) w12) :: t)
  let z8 := fun t => z7 ((20, l3 (some 19) w12) :: (21, I6 (w12.length : Int)) :: (22, I6 (k1 : Int)) :: t)
  let z9 := fun t => z8 ((23, .bool true) :: (1000005, .hob 3 [] (List.map AV.bool w9)) :: t)
  refine WO.pk 0 (some (.bool (decide ((k1 : Int) < (w12.length : Int))))) (v := .bool true) (by rw [lt_true hk1]) (e1 := z9 []) ?_
  refine WO.fn (e2 := z9 []) ?_
  refine W.seq ?_
  refine W.cb true (fun _ => ?_) (fun h => Bool.noConfusion h)
  refine W.skip ?_
  refine W.wk (env' := z8 [(1000005, .hob 3 [] (List.map AV.bool w9))]) ?_
  refine W.seq ?_
  refine W.join (σ := ((List arr3_Int))) (fun s => z0 [(4, l64 (some 10400) s), (5, .pb 1000005 0), (6, l3 (some 19) w12), (20, l3 (some 19) w12), (21, I6 (w12.length : Int)), (22, I6 (k1 : Int)), (1000005, .hob 3 [] (List.map AV.bool w9))]) (fun s => (rf5_Danger_j16 (rf5_Danger_l1 fuel a1 w9 w12 (rf5_Danger_j13) r1 (k1 + 1))) s = some r) (fun s h => ?_) (fun hK16 => ?_)
  ·obtain ⟨v39, rfl⟩ : ∃ x, x = s := ⟨s, rfl⟩
   have h : (rf5_Danger_j16 (rf5_Danger_l1 fuel a1 w9 w12 (rf5_Danger_j13) r1 (k1 + 1))) v39 = some r := h
   unfold rf5_Danger_j16 at h
   refine W.rg ?_
   let z10 := fun t => z0 ((4, l64 (some 10400) v39) :: (5, .pb 1000005 0) :: (6, l3 (some 19) w12) :: (20, l3 (some 19) w12) :: (21, I6 (w12.length : Int)) :: t)
   refine WO.pk 0 (some (I6 (IntKind.wrap .i64 ((k1 : Int) + 1)))) (v := I6 ((k1 + 1 : Nat) : Int)) (by rw [wrap_succ hl1 hk1]) (e1 := z10 [(22, I6 (k1 : Int)), (71, I6 ((k1 + 1 : Nat) : Int)), (1000005, .hob 3 [] (List.map AV.bool w9))]) ?_
   refine WO.fn (e2 := z10 [(22, I6 ((k1 + 1 : Nat) : Int)), (1000005, .hob 3 [] (List.map AV.bool w9))]) ?_
   exact hN1 v39 h
  refine W.block ?_
  refine W.seq ?_
  refine W.rg ?_
  refine WO.pk 0 (if (0 : Int) ≤ (k1 : Int) then ((M6 w12)[Int.toNat (k1 : Int)]?).map AV.ptr else none) (v := .ptr (I6 x1)) (idx_nat (f := (AV.int .i64)) hx1) (e1 := z8 [(24, .ptr (I6 x1)), (1000005, .hob 3 [] (List.map AV.bool w9))]) ?_
  let z11 := fun t => z7 ((8, I6 x1) :: (20, l3 (some 19) w12) :: (21, I6 (w12.length : Int)) :: (22, I6 (k1 : Int)) :: t)
  refine WO.fn (e2 := z11 [(1000005, .hob 3 [] (List.map AV.bool w9))]) ?_
  refine W.seq ?_
  refine W.rg ?_
  let z12 := fun t => z11 ((26, l3 (some 19) w12) :: (27, I6 (w12.length : Int)) :: t)
  refine WO.pk 1 (some (I6 ((M6 w12).length : Int))) (v := I6 (w12.length : Int)) (by rw [List.length_map]) (e1 := z12 [(1000005, .hob 3 [] (List.map AV.bool w9))]) ?_
  refine WO.fn (e2 := z12 [(28, .int .i64 0), (1000005, .hob 3 [] (List.map AV.bool w9))]) ?_
  refine W.block ?_
  obtain ⟨hl2, h⟩ := chk_some h
  refine W.wk (env' := z12 [(28, I6 ((0 : Nat) : Int)), (1000005, .hob 3 [] (List.map AV.bool w9))]) ?_
  refine W.range (σ := ((List arr3_Int))) w12 (fun k2 s => z0 [(4, l64 (some 10400) s), (5, .pb 1000005 0), (6, l3 (some 19) w12), (8, I6 x1), (20, l3 (some 19) w12), (21, I6 (w12.length : Int)), (22, I6 (k1 : Int)), (26, l3 (some 19) w12), (27, I6 (w12.length : Int)), (28, I6 (k2 : Int)), (1000005, .hob 3 [] (List.map AV.bool w9))]) (fun r0 k0 s => rf5_Danger_l2 fuel a1 x1 w9 w12 (rf5_Danger_j16 (rf5_Danger_l1 fuel a1 w9 w12 (rf5_Danger_j13) r1 (k1 + 1))) r0 k0 s = some r) (fun s h => ?_) (fun x2 r2 k2 s hx2 hk2 h hN2 => ?_) v15 h
  ·obtain ⟨v19, rfl⟩ : ∃ x, x = s := ⟨s, rfl⟩
   have h : rf5_Danger_l2 fuel a1 x1 w9 w12 (rf5_Danger_j16 (rf5_Danger_l1 fuel a1 w9 w12 (rf5_Danger_j13) r1 (k1 + 1))) [] (w12).length v19 = some r := h
   rw [rf5_Danger_l2.eq_1] at h
   refine W.seq ?_
   refine W.rg ?_
   let z13 := fun t => z0 ((4, l64 (some 10400) v19) :: (5, .pb 1000005 0) :: (6, l3 (some 19) w12) :: (8, I6 x1) :: (20, l3 (some 19) w12) :: (21, I6 (w12.length : Int)) :: (22, I6 (k1 : Int)) :: (26, l3 (some 19) w12) :: (27, I6 (w12.length : Int)) :: (28, I6 ((w12).length : Int)) :: (29, .bool false) :: (1000005, .hob 3 [] (List.map AV.bool w9)) :: t)
   refine WO.pk 0 (some (.bool (decide (((w12).length : Int) < (w12.length : Int))))) (v := .bool false) (by rw [lt_false (l := w12)]) (e1 := z13 []) ?_
   refine WO.fn (e2 := z13 []) ?_
   refine W.seq ?_
   refine W.cb false (fun h => Bool.noConfusion h) (fun _ => ?_)
   refine W.exit ?_
   refine W.wk (env' := z0 [(4, l64 (some 10400) v19), (5, .pb 1000005 0), (6, l3 (some 19) w12), (20, l3 (some 19) w12), (21, I6 (w12.length : Int)), (22, I6 (k1 : Int)), (1000005, .hob 3 [] (List.map AV.bool w9))]) ?_
   exact hK16 v19 h
  ·obtain ⟨v19, rfl⟩ : ∃ x, x = s := ⟨s, rfl⟩
   have h : rf5_Danger_l2 fuel a1 x1 w9 w12 (rf5_Danger_j16 (rf5_Danger_l1 fuel a1 w9 w12 (rf5_Danger_j13) r1 (k1 + 1))) (x2 :: r2) k2 v19 = some r := h
   rw [rf5_Danger_l2.eq_2] at h
   refine W.seq ?_
   refine W.rg ?_
   let z14 := fun t => z0 ((4, l64 (some 10400) v19) :: (5, .pb 1000005 0) :: (6, l3 (some 19) w12) :: (8, I6 x1) :: (20, l3 (some 19) w12) :: (21, I6 (w12.length : Int)) :: (22, I6 (k1 : Int)) :: (26, l3 (some 19) w12) :: (27, I6 (w12.length : Int)) :: (28, I6 (k2 : Int)) :: t)
   let z15 := fun t => z14 ((29, .bool true) :: (1000005, .hob 3 [] (List.map AV.bool w9)) :: t)
   refine WO.pk 0 (some (.bool (decide ((k2 : Int) < (w12.length : Int))))) (v := .bool true) (by rw [lt_true hk2]) (e1 := z15 []) ?_
   refine WO.fn (e2 := z15 []) ?_
   refine W.seq ?_
   refine W.cb true (fun _ => ?_) (fun h => Bool.noConfusion h)
   refine W.skip ?_
   refine W.wk (env' := z14 [(1000005, .hob 3 [] (List.map AV.bool w9))]) ?_
   refine W.seq ?_
   refine W.join (σ := ((List arr3_Int))) (fun s => z0 [(4, l64 (some 10400) s), (5, .pb 1000005 0), (6, l3 (some 19) w12), (8, I6 x1), (20, l3 (some 19) w12), (21, I6 (w12.length : Int)), (22, I6 (k1 : Int)), (26, l3 (some 19) w12), (27, I6 (w12.length : Int)), (28, I6 (k2 : Int)), (1000005, .hob 3 [] (List.map AV.bool w9))]) (fun s => (rf5_Danger_j20 (rf5_Danger_l2 fuel a1 x1 w9 w12 (rf5_Danger_j16 (rf5_Danger_l1 fuel a1 w9 w12 (rf5_Danger_j13) r1 (k1 + 1))) r2 (k2 + 1))) s = some r) (fun s h => ?_) (fun hK20 => ?_)
   ·obtain ⟨v38, rfl⟩ : ∃ x, x = s := ⟨s, rfl⟩
    have h : (rf5_Danger_j20 (rf5_Danger_l2 fuel a1 x1 w9 w12 (rf5_Danger_j16 (rf5_Danger_l1 fuel a1 w9 w12 (rf5_Danger_j13) r1 (k1 + 1))) r2 (k2 + 1))) v38 = some r := h
    unfold rf5_Danger_j20 at h
    refine W.rg ?_
    let z16 := fun t => z0 ((4, l64 (some 10400) v38) :: (5, .pb 1000005 0) :: (6, l3 (some 19) w12) :: (8, I6 x1) :: (20, l3 (some 19) w12) :: (21, I6 (w12.length : Int)) :: (22, I6 (k1 : Int)) :: (26, l3 (some 19) w12) :: (27, I6 (w12.length : Int)) :: t)
    refine WO.pk 0 (some (I6 (IntKind.wrap .i64 ((k2 : Int) + 1)))) (v := I6 ((k2 + 1 : Nat) : Int)) (by rw [wrap_succ hl2 hk2]) (e1 := z16 [(28, I6 (k2 : Int)), (70, I6 ((k2 + 1 : Nat) : Int)), (1000005, .hob 3 [] (List.map AV.bool w9))]) ?_
    refine WO.fn (e2 := z16 [(28, I6 ((k2 + 1 : Nat) : Int)), (1000005, .hob 3 [] (List.map AV.bool w9))]) ?_
    exact hN2 v38 h
   refine W.block ?_
   refine W.seq ?_
   refine W.rg ?_
   refine WO.pk 0 (if (0 : Int) ≤ (k2 : Int) then ((M6 w12)[Int.toNat (k2 : Int)]?).map AV.ptr else none) (v := .ptr (I6 x2)) (idx_nat (f := (AV.int .i64)) hx2) (e1 := z14 [(30, .ptr (I6 x2)), (1000005, .hob 3 [] (List.map AV.bool w9))]) ?_
   let z17 := fun t => z0 ((4, l64 (some 10400) v19) :: (5, .pb 1000005 0) :: (6, l3 (some 19) w12) :: (8, I6 x1) :: (10, I6 x2) :: (20, l3 (some 19) w12) :: (21, I6 (w12.length : Int)) :: (22, I6 (k1 : Int)) :: (26, l3 (some 19) w12) :: (27, I6 (w12.length : Int)) :: (28, I6 (k2 : Int)) :: t)
   refine WO.fn (e2 := z17 [(1000005, .hob 3 [] (List.map AV.bool w9))]) ?_
   refine W.seq ?_
   refine W.rg ?_
   let z18 := fun t => z17 ((32, l3 (some 19) w12) :: (33, I6 (w12.length : Int)) :: t)
   refine WO.pk 1 (some (I6 ((M6 w12).length : Int))) (v := I6 (w12.length : Int)) (by rw [List.length_map]) (e1 := z18 [(1000005, .hob 3 [] (List.map AV.bool w9))]) ?_
   refine WO.fn (e2 := z18 [(34, .int .i64 0), (1000005, .hob 3 [] (List.map AV.bool w9))]) ?_
   refine W.block ?_
   obtain ⟨hl3, h⟩ := chk_some h
   refine W.wk (env' := z18 [(34, I6 ((0 : Nat) : Int)), (1000005, .hob 3 [] (List.map AV.bool w9))]) ?_
   refine W.range (σ := ((List arr3_Int))) w12 (fun k3 s => z0 [(4, l64 (some 10400) s), (5, .pb 1000005 0), (6, l3 (some 19) w12), (8, I6 x1), (10, I6 x2), (20, l3 (some 19) w12), (21, I6 (w12.length : Int)), (22, I6 (k1 : Int)), (26, l3 (some 19) w12), (27, I6 (w12.length : Int)), (28, I6 (k2 : Int)), (32, l3 (some 19) w12), (33, I6 (w12.length : Int)), (34, I6 (k3 : Int)), (1000005, .hob 3 [] (List.map AV.bool w9))]) (fun r0 k0 s => rf5_Danger_l3 fuel a1 x1 x2 w9 (rf5_Danger_j20 (rf5_Danger_l2 fuel a1 x1 w9 w12 (rf5_Danger_j16 (rf5_Danger_l1 fuel a1 w9 w12 (rf5_Danger_j13) r1 (k1 + 1))) r2 (k2 + 1))) r0 k0 s = some r) (fun s h => ?_) (fun x3 r3 k3 s hx3 hk3 h hN3 => ?_) v19 h
   ·obtain ⟨v23, rfl⟩ : ∃ x, x = s := ⟨s, rfl⟩
    have h : rf5_Danger_l3 fuel a1 x1 x2 w9 (rf5_Danger_j20 (rf5_Danger_l2 fuel a1 x1 w9 w12 (rf5_Danger_j16 (rf5_Danger_l1 fuel a1 w9 w12 (rf5_Danger_j13) r1 (k1 + 1))) r2 (k2 + 1))) [] (w12).length v23 = some r := h
    rw [rf5_Danger_l3.eq_1] at h
    refine W.seq ?_
    refine W.rg ?_
    let z19 := fun t => z0 ((4, l64 (some 10400) v23) :: (5, .pb 1000005 0) :: (6, l3 (some 19) w12) :: (8, I6 x1) :: (10, I6 x2) :: (20, l3 (some 19) w12) :: (21, I6 (w12.length : Int)) :: (22, I6 (k1 : Int)) :: (26, l3 (some 19) w12) :: (27, I6 (w12.length : Int)) :: (28, I6 (k2 : Int)) :: (32, l3 (some 19) w12) :: (33, I6 (w12.length : Int)) :: (34, I6 ((w12).length : Int)) :: (35, .bool false) :: (1000005, .hob 3 [] (List.map AV.bool w9)) :: t)
    refine WO.pk 0 (some (.bool (decide (((w12).length : Int) < (w12.length : Int))))) (v := .bool false) (by rw [lt_false (l := w12)]) (e1 := z19 []) ?_
    refine WO.fn (e2 := z19 []) ?_
    refine W.seq ?_
    refine W.cb false (fun h => Bool.noConfusion h) (fun _ => ?_)
    refine W.exit ?_
    refine W.wk (env' := z0 [(4, l64 (some 10400) v23), (5, .pb 1000005 0), (6, l3 (some 19) w12), (8, I6 x1), (20, l3 (some 19) w12), (21, I6 (w12.length : Int)), (22, I6 (k1 : Int)), (26, l3 (some 19) w12), (27, I6 (w12.length : Int)), (28, I6 (k2 : Int)), (1000005, .hob 3 [] (List.map AV.bool w9))]) ?_
    exact hK20 v23 h
   ·obtain ⟨v23, rfl⟩ : ∃ x, x = s := ⟨s, rfl⟩
    have h : rf5_Danger_l3 fuel a1 x1 x2 w9 (rf5_Danger_j20 (rf5_Danger_l2 fuel a1 x1 w9 w12 (rf5_Danger_j16 (rf5_Danger_l1 fuel a1 w9 w12 (rf5_Danger_j13) r1 (k1 + 1))) r2 (k2 + 1))) (x3 :: r3) k3 v23 = some r := h
    rw [rf5_Danger_l3.eq_2] at h
    refine W.seq ?_
    refine W.rg ?_
    let z20 := fun t => z0 ((4, l64 (some 10400) v23) :: (5, .pb 1000005 0) :: (6, l3 (some 19) w12) :: (8, I6 x1) :: (10, I6 x2) :: t)
    let z21 := fun t => z20 ((20, l3 (some 19) w12) :: (21, I6 (w12.length : Int)) :: (22, I6 (k1 : Int)) :: (26, l3 (some 19) w12) :: (27, I6 (w12.length : Int)) :: (28, I6 (k2 : Int)) :: (32, l3 (some 19) w12) :: (33, I6 (w12.length : Int)) :: (34, I6 (k3 : Int)) :: t)
    let z22 := fun t => z21 ((35, .bool true) :: (1000005, .hob 3 [] (List.map AV.bool w9)) :: t)
    refine WO.pk 0 (some (.bool (decide ((k3 : Int) < (w12.length : Int))))) (v := .bool true) (by rw [lt_true hk3]) (e1 := z22 []) ?_
    refine WO.fn (e2 := z22 []) ?_
    refine W.seq ?_
    refine W.cb true (fun _ => ?_) (fun h => Bool.noConfusion h)
    refine W.skip ?_
    let z23 := fun t => z21 ((1000005, .hob 3 [] (List.map AV.bool w9)) :: t)
    refine W.wk (env' := z23 []) ?_
    refine W.seq ?_
    refine W.join (σ := ((List arr3_Int))) (fun s => z0 [(4, l64 (some 10400) s), (5, .pb 1000005 0), (6, l3 (some 19) w12), (8, I6 x1), (10, I6 x2), (20, l3 (some 19) w12), (21, I6 (w12.length : Int)), (22, I6 (k1 : Int)), (26, l3 (some 19) w12), (27, I6 (w12.length : Int)), (28, I6 (k2 : Int)), (32, l3 (some 19) w12), (33, I6 (w12.length : Int)), (34, I6 (k3 : Int)), (1000005, .hob 3 [] (List.map AV.bool w9))]) (fun s => (rf5_Danger_j24 (rf5_Danger_l3 fuel a1 x1 x2 w9 (rf5_Danger_j20 (rf5_Danger_l2 fuel a1 x1 w9 w12 (rf5_Danger_j16 (rf5_Danger_l1 fuel a1 w9 w12 (rf5_Danger_j13) r1 (k1 + 1))) r2 (k2 + 1))) r3 (k3 + 1))) s = some r) (fun s h => ?_) (fun hK24 => ?_)
    ·obtain ⟨v37, rfl⟩ : ∃ x, x = s := ⟨s, rfl⟩
     have h : (rf5_Danger_j24 (rf5_Danger_l3 fuel a1 x1 x2 w9 (rf5_Danger_j20 (rf5_Danger_l2 fuel a1 x1 w9 w12 (rf5_Danger_j16 (rf5_Danger_l1 fuel a1 w9 w12 (rf5_Danger_j13) r1 (k1 + 1))) r2 (k2 + 1))) r3 (k3 + 1))) v37 = some r := h
     unfold rf5_Danger_j24 at h
     refine W.rg ?_
     let z24 := fun t => z0 ((4, l64 (some 10400) v37) :: (5, .pb 1000005 0) :: (6, l3 (some 19) w12) :: (8, I6 x1) :: (10, I6 x2) :: (20, l3 (some 19) w12) :: (21, I6 (w12.length : Int)) :: (22, I6 (k1 : Int)) :: (26, l3 (some 19) w12) :: (27, I6 (w12.length : Int)) :: (28, I6 (k2 : Int)) :: (32, l3 (some 19) w12) :: (33, I6 (w12.length : Int)) :: t)
     refine WO.pk 0 (some (I6 (IntKind.wrap .i64 ((k3 : Int) + 1)))) (v := I6 ((k3 + 1 : Nat) : Int)) (by rw [wrap_succ hl3 hk3]) (e1 := z24 [(34, I6 (k3 : Int)), (69, I6 ((k3 + 1 : Nat) : Int)), (1000005, .hob 3 [] (List.map AV.bool w9))]) ?_
     refine WO.fn (e2 := z24 [(34, I6 ((k3 + 1 : Nat) : Int)), (1000005, .hob 3 [] (List.map AV.bool w9))]) ?_
     exact hN3 v37 h
    refine W.block ?_
    refine W.seq ?_
    refine W.rg ?_
    refine WO.pk 0 (if (0 : Int) ≤ (k3 : Int) then ((M6 w12)[Int.toNat (k3 : Int)]?).map AV.ptr else none) (v := .ptr (I6 x3)) (idx_nat (f := (AV.int .i64)) hx3) (e1 := z21 [(36, .ptr (I6 x3)), (1000005, .hob 3 [] (List.map AV.bool w9))]) ?_
    let z25 := fun t => z20 ((12, I6 x3) :: (20, l3 (some 19) w12) :: (21, I6 (w12.length : Int)) :: (22, I6 (k1 : Int)) :: (26, l3 (some 19) w12) :: (27, I6 (w12.length : Int)) :: (28, I6 (k2 : Int)) :: (32, l3 (some 19) w12) :: (33, I6 (w12.length : Int)) :: (34, I6 (k3 : Int)) :: t)
    refine WO.fn (e2 := z25 [(1000005, .hob 3 [] (List.map AV.bool w9))]) ?_
    refine W.seq ?_
    refine W.join (σ := (Bool)) (fun s => z25 [(61, .bool s), (1000005, .hob 3 [] (List.map AV.bool w9))]) (fun s => (rf5_Danger_j26 x1 x2 x3 v23 (rf5_Danger_j24 (rf5_Danger_l3 fuel a1 x1 x2 w9 (rf5_Danger_j20 (rf5_Danger_l2 fuel a1 x1 w9 w12 (rf5_Danger_j16 (rf5_Danger_l1 fuel a1 w9 w12 (rf5_Danger_j13) r1 (k1 + 1))) r2 (k2 + 1))) r3 (k3 + 1)))) s = some r) (fun s h => ?_) (fun hK26 => ?_)
    ·obtain ⟨v35, rfl⟩ : ∃ x, x = s := ⟨s, rfl⟩
     have h : (rf5_Danger_j26 x1 x2 x3 v23 (rf5_Danger_j24 (rf5_Danger_l3 fuel a1 x1 x2 w9 (rf5_Danger_j20 (rf5_Danger_l2 fuel a1 x1 w9 w12 (rf5_Danger_j16 (rf5_Danger_l1 fuel a1 w9 w12 (rf5_Danger_j13) r1 (k1 + 1))) r2 (k2 + 1))) r3 (k3 + 1)))) v35 = some r := h
     unfold rf5_Danger_j26 at h
     refine W.cb v35 (fun hb => ?_) (fun hb => ?_)
     ·replace h := cond_t hb h
      refine W.rg ?_
      obtain ⟨hc36, h⟩ := chk_some h
      refine WO.appendK 6 (d := 68) (e := 64) (s := 3) (bytes := 24) (xs := (List.map e_arr3_Int v23)) (ys := (List.map e_arr3_Int [(arr3_Int.mk x1 x2 x3)])) (zs := (List.map e_arr3_Int (v23 ++ [(arr3_Int.mk x1 x2 x3)]))) (env1 := [(0, l43 none a1), (4, l64 none v23), (5, .pb 1000005 0), (6, l3 (some 19) w12), (8, I6 x1), (10, I6 x2), (12, I6 x3), (20, l3 (some 19) w12), (21, I6 (w12.length : Int)), (22, I6 (k1 : Int)), (26, l3 (some 19) w12), (27, I6 (w12.length : Int)), (28, I6 (k2 : Int)), (32, l3 (some 19) w12), (33, I6 (w12.length : Int)), (34, I6 (k3 : Int)), (61, .bool v35), (62, l64 none v23), (63, I6 x1), (64, I6 x2), (65, I6 x3), (66, .agg [I6 x1, I6 x2, I6 x3]), (67, l64 (some 67) [(arr3_Int.mk x1 x2 x3)]), (1000005, .hob 3 [] (List.map AV.bool w9))]) (by kernel_rfl) (List.map_append.symm) (by rw [List.length_map]; exact hc36) (e1 := z0 [(4, l64 none v23), (5, .pb 1000005 0), (6, l3 (some 19) w12), (8, I6 x1), (10, I6 x2), (12, I6 x3), (20, l3 (some 19) w12), (21, I6 (w12.length : Int)), (22, I6 (k1 : Int)), (26, l3 (some 19) w12), (27, I6 (w12.length : Int)), (28, I6 (k2 : Int)), (32, l3 (some 19) w12), (33, I6 (w12.length : Int)), (34, I6 (k3 : Int)), (61, .bool v35), (62, l64 none v23), (63, I6 x1), (64, I6 x2), (65, I6 x3), (66, .agg [I6 x1, I6 x2, I6 x3]), (67, l64 (some 67) [(arr3_Int.mk x1 x2 x3)]), (68, l64 (some 68) (v23 ++ [(arr3_Int.mk x1 x2 x3)])), (1000005, .hob 3 [] (List.map AV.bool w9))]) (by kernel_rfl) ?_
      refine WO.fin [0, 4, 5, 6, 8, 10, 20, 21, 22, 26, 27, 28, 32, 33, 34, 1000005] [] [] [(68, some 10400)] (e2 := z0 [(4, l64 (some 10400) (v23 ++ [(arr3_Int.mk x1 x2 x3)])), (5, .pb 1000005 0), (6, l3 (some 19) w12), (8, I6 x1), (10, I6 x2), (20, l3 (some 19) w12), (21, I6 (w12.length : Int)), (22, I6 (k1 : Int)), (26, l3 (some 19) w12), (27, I6 (w12.length : Int)), (28, I6 (k2 : Int)), (32, l3 (some 19) w12), (33, I6 (w12.length : Int)), (34, I6 (k3 : Int)), (1000005, .hob 3 [] (List.map AV.bool w9))]) (by kernel_rfl) (fun _ h => h) ?_
      exact hK24 (v23 ++ [(arr3_Int.mk x1 x2 x3)]) h
     replace h := cond_f hb h
     refine W.skip ?_
     refine W.wk (env' := z23 []) ?_
     exact hK24 v23 h
    refine W.rg ?_
    obtain ⟨hc27, h⟩ := chk_some h
    let z26 := fun t => z25 ((38, I6 x1) :: (39, I6 x2) :: (40, .pb 1000005 (0 + Int.toNat x1 * 7)) :: t)
    refine WO.pi 2 (v := .pb 1000005 (0 + Int.toNat x1 * 7)) hc27 (e1 := z26 [(1000005, .hob 3 [] (List.map AV.bool w9))]) ?_
    obtain ⟨hc28, h⟩ := chk_some h
    let z27 := fun t => z26 ((41, .pb 1000005 ((0 + Int.toNat x1 * 7) + Int.toNat x2 * 1)) :: t)
    refine WO.pi 0 (v := .pb 1000005 ((0 + Int.toNat x1 * 7) + Int.toNat x2 * 1)) hc28 (e1 := z27 [(1000005, .hob 3 [] (List.map AV.bool w9))]) ?_
    obtain ⟨e29, he29, h⟩ := bind_some h
    refine WO.pk 0 (cut Try.prog 4 (List.map AV.bool w9) ((0 + Int.toNat x1 * 7) + Int.toNat x2 * 1)) (v := .bool e29) (cut_at flat_bool (by kernel_rfl) he29) (e1 := z27 [(42, .bool e29), (1000005, .hob 3 [] (List.map AV.bool w9))]) ?_
    refine WO.bk 1 (fun b => z27 [(42, .bool b), (43, .bool b), (1000005, .hob 3 [] (List.map AV.bool w9))]) e29 (fun hb => ?_) (fun hb => ?_)
    ·replace h := cond_t hb h
     obtain ⟨hc30, h⟩ := chk_some h
     let z28 := fun t => z27 ((42, .bool true) :: (43, .bool true) :: (44, I6 x2) :: (45, I6 x3) :: (46, .pb 1000005 (0 + Int.toNat x2 * 7)) :: t)
     refine WO.pi 2 (v := .pb 1000005 (0 + Int.toNat x2 * 7)) hc30 (e1 := z28 [(1000005, .hob 3 [] (List.map AV.bool w9))]) ?_
     obtain ⟨hc31, h⟩ := chk_some h
     let z29 := fun t => z28 ((47, .pb 1000005 ((0 + Int.toNat x2 * 7) + Int.toNat x3 * 1)) :: t)
     refine WO.pi 0 (v := .pb 1000005 ((0 + Int.toNat x2 * 7) + Int.toNat x3 * 1)) hc31 (e1 := z29 [(1000005, .hob 3 [] (List.map AV.bool w9))]) ?_
     obtain ⟨e32, he32, h⟩ := bind_some h
     refine WO.pk 0 (cut Try.prog 4 (List.map AV.bool w9) ((0 + Int.toNat x2 * 7) + Int.toNat x3 * 1)) (v := .bool e32) (cut_at flat_bool (by kernel_rfl) he32) (e1 := z29 [(48, .bool e32), (1000005, .hob 3 [] (List.map AV.bool w9))]) ?_
     refine WO.bk 2 (fun b => z29 [(48, .bool b), (49, .bool b), (50, .bool b), (1000005, .hob 3 [] (List.map AV.bool w9))]) e32 (fun hb => ?_) (fun hb => ?_)
     ·replace h := cond_t hb h
      obtain ⟨w33, hw33, h⟩ := bind_some h
      let z30 := fun t => z29 ((48, .bool true) :: (49, .bool true) :: (50, .bool true) :: (51, l43 none a1) :: (52, I6 x1) :: (53, I6 x2) :: t)
      refine WO.ck 3 (F := 86) (l := [l43 none a1, I6 x1, I6 x2]) (C := []) (r := .bool w33) (run_rf5_overlap fuel a1 x1 x2 w33 hw33) (e1 := z30 [(54, .bool w33), (1000005, .hob 3 [] (List.map AV.bool w9))]) ?_
      refine WO.bk 2 (fun b => z30 [(54, .bool b), (55, .bool b), (56, .bool b), (1000005, .hob 3 [] (List.map AV.bool w9))]) w33 (fun hb => ?_) (fun hb => ?_)
      ·replace h := cond_t hb h
       obtain ⟨w34, hw34, h⟩ := bind_some h
       refine WO.ck 3 (F := 86) (l := [l43 none a1, I6 x2, I6 x3]) (C := []) (r := .bool w34) (run_rf5_overlap fuel a1 x2 x3 w34 hw34) (e1 := z30 [(54, .bool true), (55, .bool true), (56, .bool true), (57, l43 none a1), (58, I6 x2), (59, I6 x3), (60, .bool w34), (1000005, .hob 3 [] (List.map AV.bool w9))]) ?_
       refine WO.fn (e2 := z25 [(61, .bool w34), (1000005, .hob 3 [] (List.map AV.bool w9))]) ?_
       exact hK26 w34 h
      replace h := cond_f hb h
      refine WO.fn (e2 := z25 [(61, .bool false), (1000005, .hob 3 [] (List.map AV.bool w9))]) ?_
      exact hK26 false h
     replace h := cond_f hb h
     refine WO.fn (e2 := z25 [(61, .bool false), (1000005, .hob 3 [] (List.map AV.bool w9))]) ?_
     exact hK26 false h
    replace h := cond_f hb h
    refine WO.fn (e2 := z25 [(61, .bool false), (1000005, .hob 3 [] (List.map AV.bool w9))]) ?_
    exact hK26 false h
end Go.AM
