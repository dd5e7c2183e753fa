/- PRINTED by gen.py: pure functions and the proofs that the code computes them. No statement of the seat is proved here. -/
import Derived.Test.YtoiejpkfpjingaaK3T
set_option maxRecDepth 100000
set_option linter.unusedVariables false
set_option linter.unusedSimpArgs false
namespace Go.AM
open Go.Proofs
def hs_Cycle (fuel : Nat) (a1 : (List hsOp)) : Option ((List Int) × Int) := cycP fuel a1
theorem run_hs_Cycle (fuel : Nat) (a1 : (List hsOp)) (r : ((List Int) × Int)) (h : hs_Cycle fuel a1 = some r) : Run Try.prog (.call 19 [l44 none a1] (.tup [l3 none r.1, .int .i64 r.2])) := .ext0 (cycle19 h)
def rf5_end_j5 : Option Int :=
  (some (-1))
def rf5_end_j9 (k1 : Nat) (N1 : (Option Int)) (v10 : Bool) : Option Int :=
  (bif v10 then (some (k1 : Int)) else N1)
def rf5_end_l1 (a2 : Int) (a3 : Int) (K5 : (Option Int)) : List rf5Op → Nat → Option Int
  | [], k1 => K5
  | x1 :: r1, k1 => (bif (x1.f_Txn == a2) then ((rf5_end_j9 k1 (rf5_end_l1 a2 a3 K5 r1 (k1 + 1))) (x1.f_Kind == a3)) else ((rf5_end_j9 k1 (rf5_end_l1 a2 a3 K5 r1 (k1 + 1))) false))
def rf5_end (a1 : (List rf5Op)) (a2 : Int) (a3 : Int) : Option Int :=
  (chk (lenOk a1) (rf5_end_l1 a2 a3 (rf5_end_j5) a1 0))
theorem run_rf5_end (a1 : (List rf5Op)) (a2 : Int) (a3 : Int) (r : Int) (h : rf5_end a1 a2 a3 = some r) : Run Try.prog (.call 61 [l43 none a1, .int .i64 a2, .int .i64 a3] (.int .i64 r)) := by
  refine call_of_W Try.func61 rfl (by kernel_rfl) (env0 := [(0, l43 none a1), (1, .int .i64 a2), (2, .int .i64 a3)]) (by kernel_rfl) ?_
  unfold rf5_end at h
  refine W.seq ?_
  refine W.regT [0, 1, 2] [] [] [] (e2 := [(0, l43 none a1), (1, .int .i64 a2), (2, .int .i64 a3)]) (by kernel_rfl) (by kernel_rfl) (fun _ h => h) ?_
  refine W.seq ?_
  refine W.join (σ := Unit) (fun s => []) (fun s => (rf5_end_j5) = some r) (fun s h => ?_) (fun hK5 => ?_)
  · have h : (rf5_end_j5) = some r := h
    unfold rf5_end_j5 at h
    refine W.seq ?_
    refine W.regT [6] [] [] [] (e2 := [(6, .int .i64 (-1))]) (by kernel_rfl) (by kernel_rfl) (fun _ h => h) ?_
    refine W.weak [6] [] [] [] (env' := [(6, .int .i64 (-1))]) (by kernel_rfl) ?_
    have hr : aresults Try.prog Try.f61 [(6, .int .i64 (-1))] = some (.int .i64 (-1)) := by kernel_rfl
    cases h
    exact W.ret hr
  refine W.seq ?_
  refine W.region (by kernel_rfl) ?_
  refine WO.pureK 1 (some (.int .i64 ((List.map e_rf5Op a1).length : Int))) (v := .int .i64 (a1.length : Int)) (by kernel_rfl) (by rw [List.length_map]) (e1 := [(0, l43 none a1), (1, .int .i64 a2), (2, .int .i64 a3), (9, l43 none a1), (10, .int .i64 (a1.length : Int))]) (by kernel_rfl) ?_
  refine WO.fin [1, 2, 9, 10, 11] [] [] [] (e2 := [(1, .int .i64 a2), (2, .int .i64 a3), (9, l43 none a1), (10, .int .i64 (a1.length : Int)), (11, .int .i64 0)]) (by kernel_rfl) (fun _ h => h) ?_
  refine W.block ?_
  obtain ⟨hl1, h⟩ := chk_some h
  refine W.weak [1, 2, 9, 10, 11] [] [] [] (env' := [(1, .int .i64 a2), (2, .int .i64 a3), (9, l43 none a1), (10, .int .i64 (a1.length : Int)), (11, .int .i64 ((0 : Nat) : Int))]) (by kernel_rfl) ?_
  refine W.range (σ := Unit) a1 (fun k1 s => [(1, .int .i64 a2), (2, .int .i64 a3), (9, l43 none a1), (10, .int .i64 (a1.length : Int)), (11, .int .i64 (k1 : Int))]) (fun r0 k0 s => rf5_end_l1 a2 a3 (rf5_end_j5) r0 k0 = some r) (fun s h => ?_) (fun x1 r1 k1 s hx1 hk1 h hN1 => ?_) () h
  · have h : rf5_end_l1 a2 a3 (rf5_end_j5) [] (a1).length = some r := h
    rw [rf5_end_l1.eq_1] at h
    refine W.seq ?_
    refine W.region (by kernel_rfl) ?_
    refine WO.pureK 0 (some (.bool (decide (((a1).length : Int) < (a1.length : Int))))) (v := .bool false) (by kernel_rfl) (by rw [lt_false (l := a1)]) (e1 := [(1, .int .i64 a2), (2, .int .i64 a3), (9, l43 none a1), (10, .int .i64 (a1.length : Int)), (11, .int .i64 ((a1).length : Int)), (12, .bool false)]) (by kernel_rfl) ?_
    refine WO.fin ([1, 2, 9, 10, 11, 12]) [] [] [] (e2 := [(1, .int .i64 a2), (2, .int .i64 a3), (9, l43 none a1), (10, .int .i64 (a1.length : Int)), (11, .int .i64 ((a1).length : Int)), (12, .bool false)]) (by kernel_rfl) (fun _ h => h) ?_
    refine W.seq ?_
    refine W.condB false (by kernel_rfl) (fun h => Bool.noConfusion h) (fun _ => ?_)
    refine W.exit ?_
    refine W.weak [] [] [] [] (env' := []) (by kernel_rfl) ?_
    exact hK5 () h
  · have h : rf5_end_l1 a2 a3 (rf5_end_j5) (x1 :: r1) k1 = some r := h
    rw [rf5_end_l1.eq_2] at h
    refine W.seq ?_
    refine W.region (by kernel_rfl) ?_
    refine WO.pureK 0 (some (.bool (decide ((k1 : Int) < (a1.length : Int))))) (v := .bool true) (by kernel_rfl) (by rw [lt_true hk1]) (e1 := [(1, .int .i64 a2), (2, .int .i64 a3), (9, l43 none a1), (10, .int .i64 (a1.length : Int)), (11, .int .i64 (k1 : Int)), (12, .bool true)]) (by kernel_rfl) ?_
    refine WO.fin ([1, 2, 9, 10, 11, 12]) [] [] [] (e2 := [(1, .int .i64 a2), (2, .int .i64 a3), (9, l43 none a1), (10, .int .i64 (a1.length : Int)), (11, .int .i64 (k1 : Int)), (12, .bool true)]) (by kernel_rfl) (fun _ h => h) ?_
    refine W.seq ?_
    refine W.condB true (by kernel_rfl) (fun _ => ?_) (fun h => Bool.noConfusion h)
    refine W.skip ?_
    refine W.weak [1, 2, 9, 10, 11] [] [] [] (env' := [(1, .int .i64 a2), (2, .int .i64 a3), (9, l43 none a1), (10, .int .i64 (a1.length : Int)), (11, .int .i64 (k1 : Int))]) (by kernel_rfl) ?_
    refine W.seq ?_
    refine W.block ?_
    refine W.seq ?_
    refine W.region (by kernel_rfl) ?_
    refine WO.pureK 1 (if (0 : Int) ≤ (k1 : Int) then ((List.map e_rf5Op a1)[Int.toNat (k1 : Int)]?).map AV.ptr else none) (v := .ptr (.agg [.int .i64 x1.f_Txn, .int .i64 x1.f_Kind, .int .i64 x1.f_Item])) (by kernel_rfl) (idx_nat (f := e_rf5Op) hx1) (e1 := [(1, .int .i64 a2), (2, .int .i64 a3), (9, l43 none a1), (10, .int .i64 (a1.length : Int)), (11, .int .i64 (k1 : Int)), (13, .int .i64 (k1 : Int)), (14, .ptr (.agg [.int .i64 x1.f_Txn, .int .i64 x1.f_Kind, .int .i64 x1.f_Item]))]) (by kernel_rfl) ?_
    refine WO.fin [1, 2, 7, 8, 9, 10, 11] [8] [] [] (e2 := [(1, .int .i64 a2), (2, .int .i64 a3), (7, .int .i64 (k1 : Int)), (8, .ptr (.agg [.int .i64 x1.f_Txn, .int .i64 x1.f_Kind, .int .i64 x1.f_Item])), (9, l43 none a1), (10, .int .i64 (a1.length : Int)), (11, .int .i64 (k1 : Int))]) (by kernel_rfl) (fun _ h => h) ?_
    refine W.seq ?_
    refine W.join (σ := (Bool)) (fun s => [(1, .int .i64 a2), (2, .int .i64 a3), (7, .int .i64 (k1 : Int)), (9, l43 none a1), (10, .int .i64 (a1.length : Int)), (11, .int .i64 (k1 : Int)), (25, .bool s)]) (fun s => (rf5_end_j9 k1 (rf5_end_l1 a2 a3 (rf5_end_j5) r1 (k1 + 1))) s = some r) (fun s h => ?_) (fun hK9 => ?_)
    · obtain ⟨v10, rfl⟩ : ∃ x, x = s := ⟨s, rfl⟩
      have h : (rf5_end_j9 k1 (rf5_end_l1 a2 a3 (rf5_end_j5) r1 (k1 + 1))) v10 = some r := h
      unfold rf5_end_j9 at h
      refine W.condB v10 (by kernel_rfl) (fun hb => ?_) (fun hb => ?_)
      · replace h := cond_t hb h
        refine W.seq ?_
        refine W.regT [6] [] [] [] (e2 := [(6, .int .i64 (k1 : Int))]) (by kernel_rfl) (by kernel_rfl) (fun _ h => h) ?_
        refine W.weak [6] [] [] [] (env' := [(6, .int .i64 (k1 : Int))]) (by kernel_rfl) ?_
        have hr : aresults Try.prog Try.f61 [(6, .int .i64 (k1 : Int))] = some (.int .i64 (k1 : Int)) := by kernel_rfl
        cases h
        exact W.ret hr
      replace h := cond_f hb h
      refine W.skip ?_
      refine W.weak [1, 2, 9, 10, 11] [] [] [] (env' := [(1, .int .i64 a2), (2, .int .i64 a3), (9, l43 none a1), (10, .int .i64 (a1.length : Int)), (11, .int .i64 (k1 : Int))]) (by kernel_rfl) ?_
      refine W.region (by kernel_rfl) ?_
      refine WO.pureK 0 (some (.int .i64 (IntKind.wrap .i64 ((k1 : Int) + 1)))) (v := .int .i64 ((k1 + 1 : Nat) : Int)) (by kernel_rfl) (by rw [wrap_succ hl1 hk1]) (e1 := [(1, .int .i64 a2), (2, .int .i64 a3), (9, l43 none a1), (10, .int .i64 (a1.length : Int)), (11, .int .i64 (k1 : Int)), (27, .int .i64 ((k1 + 1 : Nat) : Int))]) (by kernel_rfl) ?_
      refine WO.fin [1, 2, 9, 10, 11] [] [] [] (e2 := [(1, .int .i64 a2), (2, .int .i64 a3), (9, l43 none a1), (10, .int .i64 (a1.length : Int)), (11, .int .i64 ((k1 + 1 : Nat) : Int))]) (by kernel_rfl) (fun _ h => h) ?_
      exact hN1 () h
    refine W.region (by kernel_rfl) ?_
    refine WO.boolK 5 (fun b => [(1, .int .i64 a2), (2, .int .i64 a3), (7, .int .i64 (k1 : Int)), (8, .ptr (.agg [.int .i64 x1.f_Txn, .int .i64 x1.f_Kind, .int .i64 x1.f_Item])), (9, l43 none a1), (10, .int .i64 (a1.length : Int)), (11, .int .i64 (k1 : Int)), (16, .ptr (.int .i64 x1.f_Txn)), (17, .int .i64 x1.f_Txn), (18, .int .i64 a2), (19, .bool b), (20, .bool b)]) (x1.f_Txn == a2) (by kernel_rfl) (fun hb => ?_) (fun hb => ?_)
    · replace h := cond_t hb h
      refine WO.fin [1, 2, 7, 9, 10, 11, 25] [] [] [] (e2 := [(1, .int .i64 a2), (2, .int .i64 a3), (7, .int .i64 (k1 : Int)), (9, l43 none a1), (10, .int .i64 (a1.length : Int)), (11, .int .i64 (k1 : Int)), (25, .bool (x1.f_Kind == a3))]) (by kernel_rfl) (fun _ h => h) ?_
      exact hK9 (x1.f_Kind == a3) h
    replace h := cond_f hb h
    refine WO.fin [1, 2, 7, 9, 10, 11, 25] [] [] [] (e2 := [(1, .int .i64 a2), (2, .int .i64 a3), (7, .int .i64 (k1 : Int)), (9, l43 none a1), (10, .int .i64 (a1.length : Int)), (11, .int .i64 (k1 : Int)), (25, .bool false)]) (by kernel_rfl) (fun _ h => h) ?_
    exact hK9 false h
def rf5_committed_j4 (v15 : (List Int)) : Option (List Int) :=
  (some v15)
def rf5_committed_j10 (v7 : Int) (N1 : ((List Int) → Int → Option (List Int))) (v14 : (List Int)) : Option (List Int) :=
  (N1 v14 (IntKind.wrap .i64 (v7 + 1)))
def rf5_committed_l1 (a1 : (List rf5Op)) (K4 : ((List Int) → Option (List Int))) : Nat → (List Int) → Int → Option (List Int)
  | 0, _, _ => none
  | m1 + 1, v6, v7 => (bif (decide (v7 ≤ 6)) then ((rf5_end a1 v7 2).bind fun w12 => (bif (decide (w12 ≥ 0)) then (chk (capOk 8 ((v6 ++ [v7])).length) ((rf5_committed_j10 v7 (rf5_committed_l1 a1 K4 m1)) (v6 ++ [v7]))) else ((rf5_committed_j10 v7 (rf5_committed_l1 a1 K4 m1)) v6))) else (K4 v6))
def rf5_committed (fuel : Nat) (a1 : (List rf5Op)) : Option (List Int) :=
  (rf5_committed_l1 a1 (rf5_committed_j4) fuel ([] : (List Int)) 1)
theorem run_rf5_committed (fuel : Nat) (a1 : (List rf5Op)) (r : (List Int)) (h : rf5_committed fuel a1 = some r) : Run Try.prog (.call 57 [l43 none a1] (l3 (some 1) r)) := by
  refine call_of_W Try.func57 rfl (by kernel_rfl) (env0 := [(0, l43 none a1)]) (by kernel_rfl) ?_
  unfold rf5_committed at h
  refine W.seq ?_
  refine W.regT [0] [] [] [] (e2 := [(0, l43 none a1)]) (by kernel_rfl) (by kernel_rfl) (fun _ h => h) ?_
  refine W.seq ?_
  refine W.regT [0, 3] [] [] [] (e2 := [(0, l43 none a1), (3, .nils)]) (by kernel_rfl) (by kernel_rfl) (fun _ h => h) ?_
  refine W.seq ?_
  refine W.join (σ := ((List Int))) (fun s => [(3, l3 (some 10300) s)]) (fun s => (rf5_committed_j4) s = some r) (fun s h => ?_) (fun hK4 => ?_)
  · obtain ⟨v15, rfl⟩ : ∃ x, x = s := ⟨s, rfl⟩
    have h : (rf5_committed_j4) v15 = some r := h
    unfold rf5_committed_j4 at h
    refine W.seq ?_
    refine W.regT [2] [] [] [] (e2 := [(2, l3 (some 10300) v15)]) (by kernel_rfl) (by kernel_rfl) (fun _ h => h) ?_
    refine W.weak [2] [] [] [(10300, some 1)] (env' := [(2, l3 (some 1) v15)]) (by kernel_rfl) ?_
    have hr : aresults Try.prog Try.f57 [(2, l3 (some 1) v15)] = some (l3 (some 1) v15) := by kernel_rfl
    cases h
    exact W.ret hr
  refine W.seq ?_
  refine W.regT [0, 3, 4] [] [] [] (e2 := [(0, l43 none a1), (3, .nils), (4, .int .i64 1)]) (by kernel_rfl) (by kernel_rfl) (fun _ h => h) ?_
  refine W.block ?_
  refine W.weak [0, 3, 4] [] [(3, 0, 3, 1, 10300)] [] (env' := [(0, l43 none a1), (3, l3 (some 10300) ([] : (List Int))), (4, .int .i64 1)]) (by kernel_rfl) ?_
  refine W.fuel (σ := ((List Int) × Int)) (fun s => [(0, l43 none a1), (3, l3 (some 10300) s.1), (4, .int .i64 s.2)]) (fun m0 s => rf5_committed_l1 a1 (rf5_committed_j4) m0 s.1 s.2 = some r) (fun s h => ?_) (fun m1 s h hN1 => ?_) fuel (([] : (List Int)), 1) h
  · obtain ⟨v6, v7⟩ := s
    have h : rf5_committed_l1 a1 (rf5_committed_j4) 0 v6 v7 = some r := h
    rw [rf5_committed_l1.eq_1] at h
    cases h
  · obtain ⟨v6, v7⟩ := s
    have h : rf5_committed_l1 a1 (rf5_committed_j4) (m1 + 1) v6 v7 = some r := h
    rw [rf5_committed_l1.eq_2] at h
    refine W.seq ?_
    refine W.seq ?_
    refine W.regT [0, 3, 4, 6] [] [] [] (e2 := [(0, l43 none a1), (3, l3 (some 10300) v6), (4, .int .i64 v7), (6, .bool (decide (v7 ≤ 6)))]) (by kernel_rfl) (by kernel_rfl) (fun _ h => h) ?_
    refine W.condB (decide (v7 ≤ 6)) (by kernel_rfl) (fun hb => ?_) (fun hb => ?_)
    · replace h := cond_t hb h
      refine W.skip ?_
      refine W.weak [0, 3, 4] [] [] [] (env' := [(0, l43 none a1), (3, l3 (some 10300) v6), (4, .int .i64 v7)]) (by kernel_rfl) ?_
      refine W.seq ?_
      refine W.join (σ := ((List Int))) (fun s => [(0, l43 none a1), (3, l3 (some 10300) s), (4, .int .i64 v7)]) (fun s => (rf5_committed_j10 v7 (rf5_committed_l1 a1 (rf5_committed_j4) m1)) s = some r) (fun s h => ?_) (fun hK10 => ?_)
      · obtain ⟨v14, rfl⟩ : ∃ x, x = s := ⟨s, rfl⟩
        have h : (rf5_committed_j10 v7 (rf5_committed_l1 a1 (rf5_committed_j4) m1)) v14 = some r := h
        unfold rf5_committed_j10 at h
        refine W.regT [0, 3, 4] [] [] [] (e2 := [(0, l43 none a1), (3, l3 (some 10300) v14), (4, .int .i64 (IntKind.wrap .i64 (v7 + 1)))]) (by kernel_rfl) (by kernel_rfl) (fun _ h => h) ?_
        exact hN1 (v14, (IntKind.wrap .i64 (v7 + 1))) h
      refine W.block ?_
      refine W.seq ?_
      refine W.region (by kernel_rfl) ?_
      obtain ⟨w12, hw12, h⟩ := bind_some h
      refine WO.callK 2 (F := 61) (l := [l43 none a1, .int .i64 v7, .int .i64 2]) (C := []) (r := .int .i64 w12) (by kernel_rfl) (by kernel_rfl) (run_rf5_end a1 v7 2 w12 hw12) (e1 := [(0, l43 none a1), (3, l3 (some 10300) v6), (4, .int .i64 v7), (9, l43 none a1), (10, .int .i64 v7), (11, .int .i64 w12)]) (by kernel_rfl) ?_
      refine WO.fin [0, 3, 4, 12] [] [] [] (e2 := [(0, l43 none a1), (3, l3 (some 10300) v6), (4, .int .i64 v7), (12, .bool (decide (w12 ≥ 0)))]) (by kernel_rfl) (fun _ h => h) ?_
      refine W.condB (decide (w12 ≥ 0)) (by kernel_rfl) (fun hb => ?_) (fun hb => ?_)
      · replace h := cond_t hb h
        refine W.region (by kernel_rfl) ?_
        obtain ⟨hc13, h⟩ := chk_some h
        refine WO.appendK 3 (d := 16) (e := 3) (s := 1) (bytes := 8) (xs := (List.map (AV.int .i64) v6)) (ys := (List.map (AV.int .i64) [v7])) (zs := (List.map (AV.int .i64) (v6 ++ [v7]))) (env1 := [(0, l43 none a1), (3, l3 none v6), (4, .int .i64 v7), (12, .bool (decide (w12 ≥ 0))), (13, l3 none v6), (14, .int .i64 v7), (15, l3 (some 15) [v7])]) (by kernel_rfl) (List.map_append.symm) (by rw [List.length_map]; exact hc13) (e1 := [(0, l43 none a1), (3, l3 none v6), (4, .int .i64 v7), (12, .bool (decide (w12 ≥ 0))), (13, l3 none v6), (14, .int .i64 v7), (15, l3 (some 15) [v7]), (16, l3 (some 16) (v6 ++ [v7]))]) (by kernel_rfl) ?_
        refine WO.fin [0, 3, 4] [] [] [(16, some 10300)] (e2 := [(0, l43 none a1), (3, l3 (some 10300) (v6 ++ [v7])), (4, .int .i64 v7)]) (by kernel_rfl) (fun _ h => h) ?_
        exact hK10 (v6 ++ [v7]) h
      replace h := cond_f hb h
      refine W.skip ?_
      refine W.weak [0, 3, 4] [] [] [] (env' := [(0, l43 none a1), (3, l3 (some 10300) v6), (4, .int .i64 v7)]) (by kernel_rfl) ?_
      exact hK10 v6 h
    replace h := cond_f hb h
    refine W.exit ?_
    refine W.weak [3] [] [] [] (env' := [(3, l3 (some 10300) v6)]) (by kernel_rfl) ?_
    exact hK4 v6 h
def rf5_part_j4 (v13 : (List rf5Op)) : Option (List rf5Op) :=
  (some v13)
def rf5_part_j7 (N1 : ((List rf5Op) → Option (List rf5Op))) (v12 : (List rf5Op)) : Option (List rf5Op) :=
  (N1 v12)
def rf5_part_l1 (a1 : (List rf5Op)) (K4 : ((List rf5Op) → Option (List rf5Op))) : List rf5Op → Nat → (List rf5Op) → Option (List rf5Op)
  | [], k1, v6 => (K4 v6)
  | x1 :: r1, k1, v6 => ((rf5_end a1 x1.f_Txn 2).bind fun w10 => (bif (decide (w10 ≥ 0)) then (chk (capOk 24 ((v6 ++ [x1])).length) ((rf5_part_j7 (rf5_part_l1 a1 K4 r1 (k1 + 1))) (v6 ++ [x1]))) else ((rf5_part_j7 (rf5_part_l1 a1 K4 r1 (k1 + 1))) v6)))
def rf5_part (a1 : (List rf5Op)) : Option (List rf5Op) :=
  (chk (lenOk a1) (rf5_part_l1 a1 (rf5_part_j4) a1 0 ([] : (List rf5Op))))
theorem run_rf5_part (a1 : (List rf5Op)) (r : (List rf5Op)) (h : rf5_part a1 = some r) : Run Try.prog (.call 93 [l43 none a1] (l43 (some 1) r)) := by
  refine call_of_W Try.func93 rfl (by kernel_rfl) (env0 := [(0, l43 none a1)]) (by kernel_rfl) ?_
  unfold rf5_part at h
  refine W.seq ?_
  refine W.regT [0] [] [] [] (e2 := [(0, l43 none a1)]) (by kernel_rfl) (by kernel_rfl) (fun _ h => h) ?_
  refine W.seq ?_
  refine W.regT [0, 3] [] [] [] (e2 := [(0, l43 none a1), (3, .nils)]) (by kernel_rfl) (by kernel_rfl) (fun _ h => h) ?_
  refine W.seq ?_
  refine W.join (σ := ((List rf5Op))) (fun s => [(3, l43 (some 10300) s)]) (fun s => (rf5_part_j4) s = some r) (fun s h => ?_) (fun hK4 => ?_)
  · obtain ⟨v13, rfl⟩ : ∃ x, x = s := ⟨s, rfl⟩
    have h : (rf5_part_j4) v13 = some r := h
    unfold rf5_part_j4 at h
    refine W.seq ?_
    refine W.regT [2] [] [] [] (e2 := [(2, l43 (some 10300) v13)]) (by kernel_rfl) (by kernel_rfl) (fun _ h => h) ?_
    refine W.weak [2] [] [] [(10300, some 1)] (env' := [(2, l43 (some 1) v13)]) (by kernel_rfl) ?_
    have hr : aresults Try.prog Try.f93 [(2, l43 (some 1) v13)] = some (l43 (some 1) v13) := by kernel_rfl
    cases h
    exact W.ret hr
  refine W.seq ?_
  refine W.region (by kernel_rfl) ?_
  refine WO.pureK 1 (some (.int .i64 ((List.map e_rf5Op a1).length : Int))) (v := .int .i64 (a1.length : Int)) (by kernel_rfl) (by rw [List.length_map]) (e1 := [(0, l43 none a1), (3, .nils), (6, l43 none a1), (7, .int .i64 (a1.length : Int))]) (by kernel_rfl) ?_
  refine WO.fin [0, 3, 6, 7, 8] [] [] [] (e2 := [(0, l43 none a1), (3, .nils), (6, l43 none a1), (7, .int .i64 (a1.length : Int)), (8, .int .i64 0)]) (by kernel_rfl) (fun _ h => h) ?_
  refine W.block ?_
  obtain ⟨hl1, h⟩ := chk_some h
  refine W.weak [0, 3, 6, 7, 8] [] [(3, 0, 43, 3, 10300)] [] (env' := [(0, l43 none a1), (3, l43 (some 10300) ([] : (List rf5Op))), (6, l43 none a1), (7, .int .i64 (a1.length : Int)), (8, .int .i64 ((0 : Nat) : Int))]) (by kernel_rfl) ?_
  refine W.range (σ := ((List rf5Op))) a1 (fun k1 s => [(0, l43 none a1), (3, l43 (some 10300) s), (6, l43 none a1), (7, .int .i64 (a1.length : Int)), (8, .int .i64 (k1 : Int))]) (fun r0 k0 s => rf5_part_l1 a1 (rf5_part_j4) r0 k0 s = some r) (fun s h => ?_) (fun x1 r1 k1 s hx1 hk1 h hN1 => ?_) ([] : (List rf5Op)) h
  · obtain ⟨v6, rfl⟩ : ∃ x, x = s := ⟨s, rfl⟩
    have h : rf5_part_l1 a1 (rf5_part_j4) [] (a1).length v6 = some r := h
    rw [rf5_part_l1.eq_1] at h
    refine W.seq ?_
    refine W.region (by kernel_rfl) ?_
    refine WO.pureK 0 (some (.bool (decide (((a1).length : Int) < (a1.length : Int))))) (v := .bool false) (by kernel_rfl) (by rw [lt_false (l := a1)]) (e1 := [(0, l43 none a1), (3, l43 (some 10300) v6), (6, l43 none a1), (7, .int .i64 (a1.length : Int)), (8, .int .i64 ((a1).length : Int)), (9, .bool false)]) (by kernel_rfl) ?_
    refine WO.fin ([0, 3, 6, 7, 8, 9]) [] [] [] (e2 := [(0, l43 none a1), (3, l43 (some 10300) v6), (6, l43 none a1), (7, .int .i64 (a1.length : Int)), (8, .int .i64 ((a1).length : Int)), (9, .bool false)]) (by kernel_rfl) (fun _ h => h) ?_
    refine W.seq ?_
    refine W.condB false (by kernel_rfl) (fun h => Bool.noConfusion h) (fun _ => ?_)
    refine W.exit ?_
    refine W.weak [3] [] [] [] (env' := [(3, l43 (some 10300) v6)]) (by kernel_rfl) ?_
    exact hK4 v6 h
  · obtain ⟨v6, rfl⟩ : ∃ x, x = s := ⟨s, rfl⟩
    have h : rf5_part_l1 a1 (rf5_part_j4) (x1 :: r1) k1 v6 = some r := h
    rw [rf5_part_l1.eq_2] at h
    refine W.seq ?_
    refine W.region (by kernel_rfl) ?_
    refine WO.pureK 0 (some (.bool (decide ((k1 : Int) < (a1.length : Int))))) (v := .bool true) (by kernel_rfl) (by rw [lt_true hk1]) (e1 := [(0, l43 none a1), (3, l43 (some 10300) v6), (6, l43 none a1), (7, .int .i64 (a1.length : Int)), (8, .int .i64 (k1 : Int)), (9, .bool true)]) (by kernel_rfl) ?_
    refine WO.fin ([0, 3, 6, 7, 8, 9]) [] [] [] (e2 := [(0, l43 none a1), (3, l43 (some 10300) v6), (6, l43 none a1), (7, .int .i64 (a1.length : Int)), (8, .int .i64 (k1 : Int)), (9, .bool true)]) (by kernel_rfl) (fun _ h => h) ?_
    refine W.seq ?_
    refine W.condB true (by kernel_rfl) (fun _ => ?_) (fun h => Bool.noConfusion h)
    refine W.skip ?_
    refine W.weak [0, 3, 6, 7, 8] [] [] [] (env' := [(0, l43 none a1), (3, l43 (some 10300) v6), (6, l43 none a1), (7, .int .i64 (a1.length : Int)), (8, .int .i64 (k1 : Int))]) (by kernel_rfl) ?_
    refine W.seq ?_
    refine W.join (σ := ((List rf5Op))) (fun s => [(0, l43 none a1), (3, l43 (some 10300) s), (6, l43 none a1), (7, .int .i64 (a1.length : Int)), (8, .int .i64 (k1 : Int))]) (fun s => (rf5_part_j7 (rf5_part_l1 a1 (rf5_part_j4) r1 (k1 + 1))) s = some r) (fun s h => ?_) (fun hK7 => ?_)
    · obtain ⟨v12, rfl⟩ : ∃ x, x = s := ⟨s, rfl⟩
      have h : (rf5_part_j7 (rf5_part_l1 a1 (rf5_part_j4) r1 (k1 + 1))) v12 = some r := h
      unfold rf5_part_j7 at h
      refine W.region (by kernel_rfl) ?_
      refine WO.pureK 0 (some (.int .i64 (IntKind.wrap .i64 ((k1 : Int) + 1)))) (v := .int .i64 ((k1 + 1 : Nat) : Int)) (by kernel_rfl) (by rw [wrap_succ hl1 hk1]) (e1 := [(0, l43 none a1), (3, l43 (some 10300) v12), (6, l43 none a1), (7, .int .i64 (a1.length : Int)), (8, .int .i64 (k1 : Int)), (21, .int .i64 ((k1 + 1 : Nat) : Int))]) (by kernel_rfl) ?_
      refine WO.fin [0, 3, 6, 7, 8] [] [] [] (e2 := [(0, l43 none a1), (3, l43 (some 10300) v12), (6, l43 none a1), (7, .int .i64 (a1.length : Int)), (8, .int .i64 ((k1 + 1 : Nat) : Int))]) (by kernel_rfl) (fun _ h => h) ?_
      exact hN1 v12 h
    refine W.block ?_
    refine W.seq ?_
    refine W.region (by kernel_rfl) ?_
    refine WO.pureK 0 (if (0 : Int) ≤ (k1 : Int) then ((List.map e_rf5Op a1)[Int.toNat (k1 : Int)]?).map AV.ptr else none) (v := .ptr (.agg [.int .i64 x1.f_Txn, .int .i64 x1.f_Kind, .int .i64 x1.f_Item])) (by kernel_rfl) (idx_nat (f := e_rf5Op) hx1) (e1 := [(0, l43 none a1), (3, l43 (some 10300) v6), (6, l43 none a1), (7, .int .i64 (a1.length : Int)), (8, .int .i64 (k1 : Int)), (10, .ptr (.agg [.int .i64 x1.f_Txn, .int .i64 x1.f_Kind, .int .i64 x1.f_Item]))]) (by kernel_rfl) ?_
    refine WO.fin [0, 3, 5, 6, 7, 8] [5] [] [] (e2 := [(0, l43 none a1), (3, l43 (some 10300) v6), (5, .ptr (.agg [.int .i64 x1.f_Txn, .int .i64 x1.f_Kind, .int .i64 x1.f_Item])), (6, l43 none a1), (7, .int .i64 (a1.length : Int)), (8, .int .i64 (k1 : Int))]) (by kernel_rfl) (fun _ h => h) ?_
    refine W.seq ?_
    refine W.region (by kernel_rfl) ?_
    obtain ⟨w10, hw10, h⟩ := bind_some h
    refine WO.callK 3 (F := 61) (l := [l43 none a1, .int .i64 x1.f_Txn, .int .i64 2]) (C := []) (r := .int .i64 w10) (by kernel_rfl) (by kernel_rfl) (run_rf5_end a1 x1.f_Txn 2 w10 hw10) (e1 := [(0, l43 none a1), (3, l43 (some 10300) v6), (5, .ptr (.agg [.int .i64 x1.f_Txn, .int .i64 x1.f_Kind, .int .i64 x1.f_Item])), (6, l43 none a1), (7, .int .i64 (a1.length : Int)), (8, .int .i64 (k1 : Int)), (12, l43 none a1), (13, .ptr (.int .i64 x1.f_Txn)), (14, .int .i64 x1.f_Txn), (15, .int .i64 w10)]) (by kernel_rfl) ?_
    refine WO.fin [0, 3, 5, 6, 7, 8, 16] [] [] [] (e2 := [(0, l43 none a1), (3, l43 (some 10300) v6), (5, .ptr (.agg [.int .i64 x1.f_Txn, .int .i64 x1.f_Kind, .int .i64 x1.f_Item])), (6, l43 none a1), (7, .int .i64 (a1.length : Int)), (8, .int .i64 (k1 : Int)), (16, .bool (decide (w10 ≥ 0)))]) (by kernel_rfl) (fun _ h => h) ?_
    refine W.condB (decide (w10 ≥ 0)) (by kernel_rfl) (fun hb => ?_) (fun hb => ?_)
    · replace h := cond_t hb h
      refine W.region (by kernel_rfl) ?_
      obtain ⟨hc11, h⟩ := chk_some h
      refine WO.appendK 3 (d := 20) (e := 43) (s := 3) (bytes := 24) (xs := (List.map e_rf5Op v6)) (ys := (List.map e_rf5Op [x1])) (zs := (List.map e_rf5Op (v6 ++ [x1]))) (env1 := [(0, l43 none a1), (3, l43 none v6), (5, .ptr (.agg [.int .i64 x1.f_Txn, .int .i64 x1.f_Kind, .int .i64 x1.f_Item])), (6, l43 none a1), (7, .int .i64 (a1.length : Int)), (8, .int .i64 (k1 : Int)), (16, .bool (decide (w10 ≥ 0))), (17, l43 none v6), (18, .agg [.int .i64 x1.f_Txn, .int .i64 x1.f_Kind, .int .i64 x1.f_Item]), (19, l43 (some 19) [x1])]) (by kernel_rfl) (List.map_append.symm) (by rw [List.length_map]; exact hc11) (e1 := [(0, l43 none a1), (3, l43 none v6), (5, .ptr (.agg [.int .i64 x1.f_Txn, .int .i64 x1.f_Kind, .int .i64 x1.f_Item])), (6, l43 none a1), (7, .int .i64 (a1.length : Int)), (8, .int .i64 (k1 : Int)), (16, .bool (decide (w10 ≥ 0))), (17, l43 none v6), (18, .agg [.int .i64 x1.f_Txn, .int .i64 x1.f_Kind, .int .i64 x1.f_Item]), (19, l43 (some 19) [x1]), (20, l43 (some 20) (v6 ++ [x1]))]) (by kernel_rfl) ?_
      refine WO.fin [0, 3, 6, 7, 8] [] [] [(20, some 10300)] (e2 := [(0, l43 none a1), (3, l43 (some 10300) (v6 ++ [x1])), (6, l43 none a1), (7, .int .i64 (a1.length : Int)), (8, .int .i64 (k1 : Int))]) (by kernel_rfl) (fun _ h => h) ?_
      exact hK7 (v6 ++ [x1]) h
    replace h := cond_f hb h
    refine W.skip ?_
    refine W.weak [0, 3, 6, 7, 8] [] [] [] (env' := [(0, l43 none a1), (3, l43 (some 10300) v6), (6, l43 none a1), (7, .int .i64 (a1.length : Int)), (8, .int .i64 (k1 : Int))]) (by kernel_rfl) ?_
    exact hK7 v6 h
def rf5_conflicts_j6 (v23 : (List Bool)) : Option (List Bool) :=
  (chk (decide (v23.length = 49)) (chk (decide (v23.length = 49 ∧ (List.replicate 49 false).length = 49)) (chk (decide (v23.length = 49)) (some v23))))
def rf5_conflicts_j9 (N1 : ((List Bool) → Option (List Bool))) (v22 : (List Bool)) : Option (List Bool) :=
  (N1 v22)
def rf5_conflicts_j14 (N2 : ((List Bool) → Option (List Bool))) (v21 : (List Bool)) : Option (List Bool) :=
  (N2 v21)
def rf5_conflicts_j16 (x1 : rf5Op) (x2 : rf5Op) (v13 : (List Bool)) (K14 : ((List Bool) → Option (List Bool))) (v17 : Bool) : Option (List Bool) :=
  (bif v17 then (chk (decide ((0 : Int) ≤ x2.f_Txn ∧ x2.f_Txn < ((7 : Nat) : Int) ∧ 0 < 7)) (chk (decide ((0 : Int) ≤ x1.f_Txn ∧ x1.f_Txn < ((7 : Nat) : Int) ∧ 0 < 1)) (chk (decide (((0 + Int.toNat x2.f_Txn * 7) + Int.toNat x1.f_Txn * 1) < v13.length)) (K14 (v13.set ((0 + Int.toNat x2.f_Txn * 7) + Int.toNat x1.f_Txn * 1) true))))) else (K14 v13))
def rf5_conflicts_l2 (x1 : rf5Op) (K9 : ((List Bool) → Option (List Bool))) : List rf5Op → Nat → (List Bool) → Option (List Bool)
  | [], k2, v13 => (K9 v13)
  | x2 :: r2, k2, v13 => (bif (decide (x1.f_Kind < 2)) then (bif (decide (x2.f_Kind < 2)) then (bif (decide ((IntKind.wrap .i64 (x1.f_Kind + x2.f_Kind)) > 0)) then (bif (x1.f_Item == x2.f_Item) then ((rf5_conflicts_j16 x1 x2 v13 (rf5_conflicts_j14 (rf5_conflicts_l2 x1 K9 r2 (k2 + 1)))) (x1.f_Txn != x2.f_Txn)) else ((rf5_conflicts_j16 x1 x2 v13 (rf5_conflicts_j14 (rf5_conflicts_l2 x1 K9 r2 (k2 + 1)))) false)) else ((rf5_conflicts_j16 x1 x2 v13 (rf5_conflicts_j14 (rf5_conflicts_l2 x1 K9 r2 (k2 + 1)))) false)) else ((rf5_conflicts_j16 x1 x2 v13 (rf5_conflicts_j14 (rf5_conflicts_l2 x1 K9 r2 (k2 + 1)))) false)) else ((rf5_conflicts_j16 x1 x2 v13 (rf5_conflicts_j14 (rf5_conflicts_l2 x1 K9 r2 (k2 + 1)))) false))
def rf5_conflicts_l1 (w5 : (List rf5Op)) (K6 : ((List Bool) → Option (List Bool))) : List rf5Op → Nat → (List Bool) → Option (List Bool)
  | [], k1, v8 => (K6 v8)
  | x1 :: r1, k1, v8 => ((sub w5 0 (k1 : Int)).bind fun e12 => (chk (lenOk e12) (rf5_conflicts_l2 x1 (rf5_conflicts_j9 (rf5_conflicts_l1 w5 K6 r1 (k1 + 1))) e12 0 v8)))
def rf5_conflicts (a1 : (List rf5Op)) : Option (List Bool) :=
  ((rf5_part a1).bind fun w5 => (chk (lenOk w5) (rf5_conflicts_l1 w5 (rf5_conflicts_j6) w5 0 (List.replicate 49 false))))
theorem run_rf5_conflicts (a1 : (List rf5Op)) (r : (List Bool)) (h : rf5_conflicts a1 = some r) : Run Try.prog (.call 58 [l43 none a1] (.agg (List.map AV.bool r))) := by
  refine call_of_W Try.func58 rfl (by kernel_rfl) (env0 := [(0, l43 none a1)]) (by kernel_rfl) ?_
  unfold rf5_conflicts at h
  refine W.seq ?_
  refine W.region (by kernel_rfl) ?_
  refine WO.steps 1 (e1 := [(0, l43 none a1), (2, .box [.bool false, .bool false, .bool false, .bool false, .bool false, .bool false, .bool false, .bool false, .bool false, .bool false, .bool false, .bool false, .bool false, .bool false, .bool false, .bool false, .bool false, .bool false, .bool false, .bool false, .bool false, .bool false, .bool false, .bool false, .bool false, .bool false, .bool false, .bool false, .bool false, .bool false, .bool false, .bool false, .bool false, .bool false, .bool false, .bool false, .bool false, .bool false, .bool false, .bool false, .bool false, .bool false, .bool false, .bool false, .bool false, .bool false, .bool false, .bool false, .bool false])]) (by kernel_rfl) ?_
  refine WO.mv [.arr 2] (env' := [(0, l43 none a1), (2, .pb 1000002 0), (1000002, .hob 3 [] (List.map AV.bool (List.replicate 49 false)))]) (by kernel_rfl) ?_
  refine WO.fin [0, 2, 1000002] [] [] [] (e2 := [(0, l43 none a1), (2, .pb 1000002 0), (1000002, .hob 3 [] (List.map AV.bool (List.replicate 49 false)))]) (by kernel_rfl) (fun _ h => h) ?_
  refine W.seq ?_
  refine W.region (by kernel_rfl) ?_
  refine WO.steps 1 (e1 := [(0, l43 none a1), (2, .pb 1000002 0), (3, .box [.bool false, .bool false, .bool false, .bool false, .bool false, .bool false, .bool false, .bool false, .bool false, .bool false, .bool false, .bool false, .bool false, .bool false, .bool false, .bool false, .bool false, .bool false, .bool false, .bool false, .bool false, .bool false, .bool false, .bool false, .bool false, .bool false, .bool false, .bool false, .bool false, .bool false, .bool false, .bool false, .bool false, .bool false, .bool false, .bool false, .bool false, .bool false, .bool false, .bool false, .bool false, .bool false, .bool false, .bool false, .bool false, .bool false, .bool false, .bool false, .bool false]), (1000002, .hob 3 [] (List.map AV.bool (List.replicate 49 false)))]) (by kernel_rfl) ?_
  refine WO.mv [.arr 3] (env' := [(0, l43 none a1), (2, .pb 1000002 0), (3, .pb 1000003 0), (1000002, .hob 3 [] (List.map AV.bool (List.replicate 49 false))), (1000003, .hob 3 [] (List.map AV.bool (List.replicate 49 false)))]) (by kernel_rfl) ?_
  refine WO.fin [0, 2, 3, 1000002, 1000003] [] [] [] (e2 := [(0, l43 none a1), (2, .pb 1000002 0), (3, .pb 1000003 0), (1000002, .hob 3 [] (List.map AV.bool (List.replicate 49 false))), (1000003, .hob 3 [] (List.map AV.bool (List.replicate 49 false)))]) (by kernel_rfl) (fun _ h => h) ?_
  refine W.seq ?_
  refine W.region (by kernel_rfl) ?_
  obtain ⟨w5, hw5, h⟩ := bind_some h
  refine WO.callK 1 (F := 93) (l := [l43 none a1]) (C := []) (r := l43 (some 1) w5) (by kernel_rfl) (by kernel_rfl) (run_rf5_part a1 w5 hw5) (e1 := [(0, l43 none a1), (2, .pb 1000002 0), (3, .pb 1000003 0), (8, l43 none a1), (9, l43 (some 9) w5), (1000002, .hob 3 [] (List.map AV.bool (List.replicate 49 false))), (1000003, .hob 3 [] (List.map AV.bool (List.replicate 49 false)))]) (by kernel_rfl) ?_
  refine WO.fin [0, 2, 3, 1000002, 1000003] [] [] [] (e2 := [(0, l43 (some 9) w5), (2, .pb 1000002 0), (3, .pb 1000003 0), (1000002, .hob 3 [] (List.map AV.bool (List.replicate 49 false))), (1000003, .hob 3 [] (List.map AV.bool (List.replicate 49 false)))]) (by kernel_rfl) (fun _ h => h) ?_
  refine W.seq ?_
  refine W.join (σ := ((List Bool))) (fun s => [(2, .pb 1000002 0), (3, .pb 1000003 0), (1000002, .hob 3 [] (List.map AV.bool (List.replicate 49 false))), (1000003, .hob 3 [] (List.map AV.bool s))]) (fun s => (rf5_conflicts_j6) s = some r) (fun s h => ?_) (fun hK6 => ?_)
  · obtain ⟨v23, rfl⟩ : ∃ x, x = s := ⟨s, rfl⟩
    have h : (rf5_conflicts_j6) v23 = some r := h
    unfold rf5_conflicts_j6 at h
    refine W.seq ?_
    refine W.region (by kernel_rfl) ?_
    obtain ⟨hc25, h⟩ := chk_some h
    refine WO.pureK 0 (cut Try.prog 79 (List.map AV.bool v23) 0) (v := .agg (List.map AV.bool v23)) (by kernel_rfl) (cut_whole flat_bool (sz := 49) (by kernel_rfl) (of_decide_eq_true hc25)) (e1 := [(2, .pb 1000002 0), (3, .pb 1000003 0), (63, .agg (List.map AV.bool v23)), (1000002, .hob 3 [] (List.map AV.bool (List.replicate 49 false))), (1000003, .hob 3 [] (List.map AV.bool v23))]) (by kernel_rfl) ?_
    obtain ⟨hc26, h⟩ := chk_some h
    refine WO.storeA (enc := AV.bool) (l := v23) (l' := (List.replicate 49 false)) (s := 1000002) (sz := 49) 0 flat_bool hc26 (e1 := [(2, .pb 1000002 0), (3, .pb 1000003 0), (63, .agg (List.map AV.bool v23)), (1000002, .hob 3 [] (List.map AV.bool v23)), (1000003, .hob 3 [] (List.map AV.bool v23))]) ?_
    refine WO.fin [2, 1000002] [] [] [] (e2 := [(2, .pb 1000002 0), (1000002, .hob 3 [] (List.map AV.bool v23))]) (by kernel_rfl) (fun _ h => h) ?_
    refine W.weak [2, 1000002] [] [] [] (env' := [(2, .pb 1000002 0), (1000002, .hob 3 [] (List.map AV.bool v23))]) (by kernel_rfl) ?_
    obtain ⟨hn27, h⟩ := chk_some h
    have hr : aresults Try.prog Try.f58 [(2, .pb 1000002 0), (1000002, .hob 3 [] (List.map AV.bool v23))] = some (.agg (List.map AV.bool v23)) := (by kernel_rfl : aresults Try.prog Try.f58 [(2, .pb 1000002 0), (1000002, .hob 3 [] (List.map AV.bool v23))] = (cut Try.prog 79 (List.map AV.bool v23) 0).map AV.strip).trans (by rw [cut_whole flat_bool (sz := 49) (by kernel_rfl) (of_decide_eq_true hn27)]; rfl)
    cases h
    exact W.ret hr
  refine W.seq ?_
  refine W.region (by kernel_rfl) ?_
  refine WO.pureK 1 (some (.int .i64 ((List.map e_rf5Op w5).length : Int))) (v := .int .i64 (w5.length : Int)) (by kernel_rfl) (by rw [List.length_map]) (e1 := [(0, l43 (some 9) w5), (2, .pb 1000002 0), (3, .pb 1000003 0), (10, l43 (some 9) w5), (11, .int .i64 (w5.length : Int)), (1000002, .hob 3 [] (List.map AV.bool (List.replicate 49 false))), (1000003, .hob 3 [] (List.map AV.bool (List.replicate 49 false)))]) (by kernel_rfl) ?_
  refine WO.fin [0, 2, 3, 10, 11, 12, 1000002, 1000003] [] [] [] (e2 := [(0, l43 (some 9) w5), (2, .pb 1000002 0), (3, .pb 1000003 0), (10, l43 (some 9) w5), (11, .int .i64 (w5.length : Int)), (12, .int .i64 0), (1000002, .hob 3 [] (List.map AV.bool (List.replicate 49 false))), (1000003, .hob 3 [] (List.map AV.bool (List.replicate 49 false)))]) (by kernel_rfl) (fun _ h => h) ?_
  refine W.block ?_
  obtain ⟨hl1, h⟩ := chk_some h
  refine W.weak [0, 2, 3, 10, 11, 12, 1000002, 1000003] [] [] [] (env' := [(0, l43 (some 9) w5), (2, .pb 1000002 0), (3, .pb 1000003 0), (10, l43 (some 9) w5), (11, .int .i64 (w5.length : Int)), (12, .int .i64 ((0 : Nat) : Int)), (1000002, .hob 3 [] (List.map AV.bool (List.replicate 49 false))), (1000003, .hob 3 [] (List.map AV.bool (List.replicate 49 false)))]) (by kernel_rfl) ?_
  refine W.range (σ := ((List Bool))) w5 (fun k1 s => [(0, l43 (some 9) w5), (2, .pb 1000002 0), (3, .pb 1000003 0), (10, l43 (some 9) w5), (11, .int .i64 (w5.length : Int)), (12, .int .i64 (k1 : Int)), (1000002, .hob 3 [] (List.map AV.bool (List.replicate 49 false))), (1000003, .hob 3 [] (List.map AV.bool s))]) (fun r0 k0 s => rf5_conflicts_l1 w5 (rf5_conflicts_j6) r0 k0 s = some r) (fun s h => ?_) (fun x1 r1 k1 s hx1 hk1 h hN1 => ?_) (List.replicate 49 false) h
  · obtain ⟨v8, rfl⟩ : ∃ x, x = s := ⟨s, rfl⟩
    have h : rf5_conflicts_l1 w5 (rf5_conflicts_j6) [] (w5).length v8 = some r := h
    rw [rf5_conflicts_l1.eq_1] at h
    refine W.seq ?_
    refine W.region (by kernel_rfl) ?_
    refine WO.pureK 0 (some (.bool (decide (((w5).length : Int) < (w5.length : Int))))) (v := .bool false) (by kernel_rfl) (by rw [lt_false (l := w5)]) (e1 := [(0, l43 (some 9) w5), (2, .pb 1000002 0), (3, .pb 1000003 0), (10, l43 (some 9) w5), (11, .int .i64 (w5.length : Int)), (12, .int .i64 ((w5).length : Int)), (13, .bool false), (1000002, .hob 3 [] (List.map AV.bool (List.replicate 49 false))), (1000003, .hob 3 [] (List.map AV.bool v8))]) (by kernel_rfl) ?_
    refine WO.fin ([0, 2, 3, 10, 11, 12, 13, 1000002, 1000003]) [] [] [] (e2 := [(0, l43 (some 9) w5), (2, .pb 1000002 0), (3, .pb 1000003 0), (10, l43 (some 9) w5), (11, .int .i64 (w5.length : Int)), (12, .int .i64 ((w5).length : Int)), (13, .bool false), (1000002, .hob 3 [] (List.map AV.bool (List.replicate 49 false))), (1000003, .hob 3 [] (List.map AV.bool v8))]) (by kernel_rfl) (fun _ h => h) ?_
    refine W.seq ?_
    refine W.condB false (by kernel_rfl) (fun h => Bool.noConfusion h) (fun _ => ?_)
    refine W.exit ?_
    refine W.weak [2, 3, 1000002, 1000003] [] [] [] (env' := [(2, .pb 1000002 0), (3, .pb 1000003 0), (1000002, .hob 3 [] (List.map AV.bool (List.replicate 49 false))), (1000003, .hob 3 [] (List.map AV.bool v8))]) (by kernel_rfl) ?_
    exact hK6 v8 h
  · obtain ⟨v8, rfl⟩ : ∃ x, x = s := ⟨s, rfl⟩
    have h : rf5_conflicts_l1 w5 (rf5_conflicts_j6) (x1 :: r1) k1 v8 = some r := h
    rw [rf5_conflicts_l1.eq_2] at h
    refine W.seq ?_
    refine W.region (by kernel_rfl) ?_
    refine WO.pureK 0 (some (.bool (decide ((k1 : Int) < (w5.length : Int))))) (v := .bool true) (by kernel_rfl) (by rw [lt_true hk1]) (e1 := [(0, l43 (some 9) w5), (2, .pb 1000002 0), (3, .pb 1000003 0), (10, l43 (some 9) w5), (11, .int .i64 (w5.length : Int)), (12, .int .i64 (k1 : Int)), (13, .bool true), (1000002, .hob 3 [] (List.map AV.bool (List.replicate 49 false))), (1000003, .hob 3 [] (List.map AV.bool v8))]) (by kernel_rfl) ?_
    refine WO.fin ([0, 2, 3, 10, 11, 12, 13, 1000002, 1000003]) [] [] [] (e2 := [(0, l43 (some 9) w5), (2, .pb 1000002 0), (3, .pb 1000003 0), (10, l43 (some 9) w5), (11, .int .i64 (w5.length : Int)), (12, .int .i64 (k1 : Int)), (13, .bool true), (1000002, .hob 3 [] (List.map AV.bool (List.replicate 49 false))), (1000003, .hob 3 [] (List.map AV.bool v8))]) (by kernel_rfl) (fun _ h => h) ?_
    refine W.seq ?_
    refine W.condB true (by kernel_rfl) (fun _ => ?_) (fun h => Bool.noConfusion h)
    refine W.skip ?_
    refine W.weak [0, 2, 3, 10, 11, 12, 1000002, 1000003] [] [] [] (env' := [(0, l43 (some 9) w5), (2, .pb 1000002 0), (3, .pb 1000003 0), (10, l43 (some 9) w5), (11, .int .i64 (w5.length : Int)), (12, .int .i64 (k1 : Int)), (1000002, .hob 3 [] (List.map AV.bool (List.replicate 49 false))), (1000003, .hob 3 [] (List.map AV.bool v8))]) (by kernel_rfl) ?_
    refine W.seq ?_
    refine W.join (σ := ((List Bool))) (fun s => [(0, l43 (some 9) w5), (2, .pb 1000002 0), (3, .pb 1000003 0), (10, l43 (some 9) w5), (11, .int .i64 (w5.length : Int)), (12, .int .i64 (k1 : Int)), (1000002, .hob 3 [] (List.map AV.bool (List.replicate 49 false))), (1000003, .hob 3 [] (List.map AV.bool s))]) (fun s => (rf5_conflicts_j9 (rf5_conflicts_l1 w5 (rf5_conflicts_j6) r1 (k1 + 1))) s = some r) (fun s h => ?_) (fun hK9 => ?_)
    · obtain ⟨v22, rfl⟩ : ∃ x, x = s := ⟨s, rfl⟩
      have h : (rf5_conflicts_j9 (rf5_conflicts_l1 w5 (rf5_conflicts_j6) r1 (k1 + 1))) v22 = some r := h
      unfold rf5_conflicts_j9 at h
      refine W.region (by kernel_rfl) ?_
      refine WO.pureK 0 (some (.int .i64 (IntKind.wrap .i64 ((k1 : Int) + 1)))) (v := .int .i64 ((k1 + 1 : Nat) : Int)) (by kernel_rfl) (by rw [wrap_succ hl1 hk1]) (e1 := [(0, l43 (some 9) w5), (2, .pb 1000002 0), (3, .pb 1000003 0), (10, l43 (some 9) w5), (11, .int .i64 (w5.length : Int)), (12, .int .i64 (k1 : Int)), (62, .int .i64 ((k1 + 1 : Nat) : Int)), (1000002, .hob 3 [] (List.map AV.bool (List.replicate 49 false))), (1000003, .hob 3 [] (List.map AV.bool v22))]) (by kernel_rfl) ?_
      refine WO.fin [0, 2, 3, 10, 11, 12, 1000002, 1000003] [] [] [] (e2 := [(0, l43 (some 9) w5), (2, .pb 1000002 0), (3, .pb 1000003 0), (10, l43 (some 9) w5), (11, .int .i64 (w5.length : Int)), (12, .int .i64 ((k1 + 1 : Nat) : Int)), (1000002, .hob 3 [] (List.map AV.bool (List.replicate 49 false))), (1000003, .hob 3 [] (List.map AV.bool v22))]) (by kernel_rfl) (fun _ h => h) ?_
      exact hN1 v22 h
    refine W.block ?_
    refine W.seq ?_
    refine W.region (by kernel_rfl) ?_
    refine WO.pureK 1 (if (0 : Int) ≤ (k1 : Int) then ((List.map e_rf5Op w5)[Int.toNat (k1 : Int)]?).map AV.ptr else none) (v := .ptr (.agg [.int .i64 x1.f_Txn, .int .i64 x1.f_Kind, .int .i64 x1.f_Item])) (by kernel_rfl) (idx_nat (f := e_rf5Op) hx1) (e1 := [(0, l43 (some 9) w5), (2, .pb 1000002 0), (3, .pb 1000003 0), (10, l43 (some 9) w5), (11, .int .i64 (w5.length : Int)), (12, .int .i64 (k1 : Int)), (14, .int .i64 (k1 : Int)), (15, .ptr (.agg [.int .i64 x1.f_Txn, .int .i64 x1.f_Kind, .int .i64 x1.f_Item])), (1000002, .hob 3 [] (List.map AV.bool (List.replicate 49 false))), (1000003, .hob 3 [] (List.map AV.bool v8))]) (by kernel_rfl) ?_
    refine WO.fin [0, 2, 3, 4, 5, 10, 11, 12, 1000002, 1000003] [5] [] [] (e2 := [(0, l43 (some 9) w5), (2, .pb 1000002 0), (3, .pb 1000003 0), (4, .int .i64 (k1 : Int)), (5, .ptr (.agg [.int .i64 x1.f_Txn, .int .i64 x1.f_Kind, .int .i64 x1.f_Item])), (10, l43 (some 9) w5), (11, .int .i64 (w5.length : Int)), (12, .int .i64 (k1 : Int)), (1000002, .hob 3 [] (List.map AV.bool (List.replicate 49 false))), (1000003, .hob 3 [] (List.map AV.bool v8))]) (by kernel_rfl) (fun _ h => h) ?_
    refine W.seq ?_
    refine W.region (by kernel_rfl) ?_
    obtain ⟨e12, he12, h⟩ := bind_some h
    refine WO.pureK 2 (if (0 : Int) ≤ 0 ∧ 0 ≤ (k1 : Int) ∧ (k1 : Int) ≤ ((List.map e_rf5Op w5).length : Int) then some (.lst 43 3 none (((List.map e_rf5Op w5).take (Int.toNat (k1 : Int))).drop (Int.toNat 0))) else none) (v := l43 none e12) (by kernel_rfl) (sub_av he12) (e1 := [(0, l43 (some 9) w5), (2, .pb 1000002 0), (3, .pb 1000003 0), (4, .int .i64 (k1 : Int)), (5, .ptr (.agg [.int .i64 x1.f_Txn, .int .i64 x1.f_Kind, .int .i64 x1.f_Item])), (10, l43 (some 9) w5), (11, .int .i64 (w5.length : Int)), (12, .int .i64 (k1 : Int)), (17, l43 (some 9) w5), (18, .int .i64 (k1 : Int)), (19, l43 none e12), (1000002, .hob 3 [] (List.map AV.bool (List.replicate 49 false))), (1000003, .hob 3 [] (List.map AV.bool v8))]) (by kernel_rfl) ?_
    refine WO.pureK 0 (some (.int .i64 ((List.map e_rf5Op e12).length : Int))) (v := .int .i64 (e12.length : Int)) (by kernel_rfl) (by rw [List.length_map]) (e1 := [(0, l43 (some 9) w5), (2, .pb 1000002 0), (3, .pb 1000003 0), (4, .int .i64 (k1 : Int)), (5, .ptr (.agg [.int .i64 x1.f_Txn, .int .i64 x1.f_Kind, .int .i64 x1.f_Item])), (10, l43 (some 9) w5), (11, .int .i64 (w5.length : Int)), (12, .int .i64 (k1 : Int)), (17, l43 (some 9) w5), (18, .int .i64 (k1 : Int)), (19, l43 none e12), (20, .int .i64 (e12.length : Int)), (1000002, .hob 3 [] (List.map AV.bool (List.replicate 49 false))), (1000003, .hob 3 [] (List.map AV.bool v8))]) (by kernel_rfl) ?_
    refine WO.fin [0, 2, 3, 5, 10, 11, 12, 19, 20, 21, 1000002, 1000003] [] [] [] (e2 := [(0, l43 (some 9) w5), (2, .pb 1000002 0), (3, .pb 1000003 0), (5, .ptr (.agg [.int .i64 x1.f_Txn, .int .i64 x1.f_Kind, .int .i64 x1.f_Item])), (10, l43 (some 9) w5), (11, .int .i64 (w5.length : Int)), (12, .int .i64 (k1 : Int)), (19, l43 none e12), (20, .int .i64 (e12.length : Int)), (21, .int .i64 0), (1000002, .hob 3 [] (List.map AV.bool (List.replicate 49 false))), (1000003, .hob 3 [] (List.map AV.bool v8))]) (by kernel_rfl) (fun _ h => h) ?_
    refine W.block ?_
    obtain ⟨hl2, h⟩ := chk_some h
    refine W.weak [0, 2, 3, 5, 10, 11, 12, 19, 20, 21, 1000002, 1000003] [] [] [] (env' := [(0, l43 (some 9) w5), (2, .pb 1000002 0), (3, .pb 1000003 0), (5, .ptr (.agg [.int .i64 x1.f_Txn, .int .i64 x1.f_Kind, .int .i64 x1.f_Item])), (10, l43 (some 9) w5), (11, .int .i64 (w5.length : Int)), (12, .int .i64 (k1 : Int)), (19, l43 none e12), (20, .int .i64 (e12.length : Int)), (21, .int .i64 ((0 : Nat) : Int)), (1000002, .hob 3 [] (List.map AV.bool (List.replicate 49 false))), (1000003, .hob 3 [] (List.map AV.bool v8))]) (by kernel_rfl) ?_
    refine W.range (σ := ((List Bool))) e12 (fun k2 s => [(0, l43 (some 9) w5), (2, .pb 1000002 0), (3, .pb 1000003 0), (5, .ptr (.agg [.int .i64 x1.f_Txn, .int .i64 x1.f_Kind, .int .i64 x1.f_Item])), (10, l43 (some 9) w5), (11, .int .i64 (w5.length : Int)), (12, .int .i64 (k1 : Int)), (19, l43 none e12), (20, .int .i64 (e12.length : Int)), (21, .int .i64 (k2 : Int)), (1000002, .hob 3 [] (List.map AV.bool (List.replicate 49 false))), (1000003, .hob 3 [] (List.map AV.bool s))]) (fun r0 k0 s => rf5_conflicts_l2 x1 (rf5_conflicts_j9 (rf5_conflicts_l1 w5 (rf5_conflicts_j6) r1 (k1 + 1))) r0 k0 s = some r) (fun s h => ?_) (fun x2 r2 k2 s hx2 hk2 h hN2 => ?_) v8 h
    · obtain ⟨v13, rfl⟩ : ∃ x, x = s := ⟨s, rfl⟩
      have h : rf5_conflicts_l2 x1 (rf5_conflicts_j9 (rf5_conflicts_l1 w5 (rf5_conflicts_j6) r1 (k1 + 1))) [] (e12).length v13 = some r := h
      rw [rf5_conflicts_l2.eq_1] at h
      refine W.seq ?_
      refine W.region (by kernel_rfl) ?_
      refine WO.pureK 0 (some (.bool (decide (((e12).length : Int) < (e12.length : Int))))) (v := .bool false) (by kernel_rfl) (by rw [lt_false (l := e12)]) (e1 := [(0, l43 (some 9) w5), (2, .pb 1000002 0), (3, .pb 1000003 0), (5, .ptr (.agg [.int .i64 x1.f_Txn, .int .i64 x1.f_Kind, .int .i64 x1.f_Item])), (10, l43 (some 9) w5), (11, .int .i64 (w5.length : Int)), (12, .int .i64 (k1 : Int)), (19, l43 none e12), (20, .int .i64 (e12.length : Int)), (21, .int .i64 ((e12).length : Int)), (22, .bool false), (1000002, .hob 3 [] (List.map AV.bool (List.replicate 49 false))), (1000003, .hob 3 [] (List.map AV.bool v13))]) (by kernel_rfl) ?_
      refine WO.fin ([0, 2, 3, 5, 10, 11, 12, 19, 20, 21, 22, 1000002, 1000003]) [] [] [] (e2 := [(0, l43 (some 9) w5), (2, .pb 1000002 0), (3, .pb 1000003 0), (5, .ptr (.agg [.int .i64 x1.f_Txn, .int .i64 x1.f_Kind, .int .i64 x1.f_Item])), (10, l43 (some 9) w5), (11, .int .i64 (w5.length : Int)), (12, .int .i64 (k1 : Int)), (19, l43 none e12), (20, .int .i64 (e12.length : Int)), (21, .int .i64 ((e12).length : Int)), (22, .bool false), (1000002, .hob 3 [] (List.map AV.bool (List.replicate 49 false))), (1000003, .hob 3 [] (List.map AV.bool v13))]) (by kernel_rfl) (fun _ h => h) ?_
      refine W.seq ?_
      refine W.condB false (by kernel_rfl) (fun h => Bool.noConfusion h) (fun _ => ?_)
      refine W.exit ?_
      refine W.weak [0, 2, 3, 10, 11, 12, 1000002, 1000003] [] [] [] (env' := [(0, l43 (some 9) w5), (2, .pb 1000002 0), (3, .pb 1000003 0), (10, l43 (some 9) w5), (11, .int .i64 (w5.length : Int)), (12, .int .i64 (k1 : Int)), (1000002, .hob 3 [] (List.map AV.bool (List.replicate 49 false))), (1000003, .hob 3 [] (List.map AV.bool v13))]) (by kernel_rfl) ?_
      exact hK9 v13 h
    · obtain ⟨v13, rfl⟩ : ∃ x, x = s := ⟨s, rfl⟩
      have h : rf5_conflicts_l2 x1 (rf5_conflicts_j9 (rf5_conflicts_l1 w5 (rf5_conflicts_j6) r1 (k1 + 1))) (x2 :: r2) k2 v13 = some r := h
      rw [rf5_conflicts_l2.eq_2] at h
      refine W.seq ?_
      refine W.region (by kernel_rfl) ?_
      refine WO.pureK 0 (some (.bool (decide ((k2 : Int) < (e12.length : Int))))) (v := .bool true) (by kernel_rfl) (by rw [lt_true hk2]) (e1 := [(0, l43 (some 9) w5), (2, .pb 1000002 0), (3, .pb 1000003 0), (5, .ptr (.agg [.int .i64 x1.f_Txn, .int .i64 x1.f_Kind, .int .i64 x1.f_Item])), (10, l43 (some 9) w5), (11, .int .i64 (w5.length : Int)), (12, .int .i64 (k1 : Int)), (19, l43 none e12), (20, .int .i64 (e12.length : Int)), (21, .int .i64 (k2 : Int)), (22, .bool true), (1000002, .hob 3 [] (List.map AV.bool (List.replicate 49 false))), (1000003, .hob 3 [] (List.map AV.bool v13))]) (by kernel_rfl) ?_
      refine WO.fin ([0, 2, 3, 5, 10, 11, 12, 19, 20, 21, 22, 1000002, 1000003]) [] [] [] (e2 := [(0, l43 (some 9) w5), (2, .pb 1000002 0), (3, .pb 1000003 0), (5, .ptr (.agg [.int .i64 x1.f_Txn, .int .i64 x1.f_Kind, .int .i64 x1.f_Item])), (10, l43 (some 9) w5), (11, .int .i64 (w5.length : Int)), (12, .int .i64 (k1 : Int)), (19, l43 none e12), (20, .int .i64 (e12.length : Int)), (21, .int .i64 (k2 : Int)), (22, .bool true), (1000002, .hob 3 [] (List.map AV.bool (List.replicate 49 false))), (1000003, .hob 3 [] (List.map AV.bool v13))]) (by kernel_rfl) (fun _ h => h) ?_
      refine W.seq ?_
      refine W.condB true (by kernel_rfl) (fun _ => ?_) (fun h => Bool.noConfusion h)
      refine W.skip ?_
      refine W.weak [0, 2, 3, 5, 10, 11, 12, 19, 20, 21, 1000002, 1000003] [] [] [] (env' := [(0, l43 (some 9) w5), (2, .pb 1000002 0), (3, .pb 1000003 0), (5, .ptr (.agg [.int .i64 x1.f_Txn, .int .i64 x1.f_Kind, .int .i64 x1.f_Item])), (10, l43 (some 9) w5), (11, .int .i64 (w5.length : Int)), (12, .int .i64 (k1 : Int)), (19, l43 none e12), (20, .int .i64 (e12.length : Int)), (21, .int .i64 (k2 : Int)), (1000002, .hob 3 [] (List.map AV.bool (List.replicate 49 false))), (1000003, .hob 3 [] (List.map AV.bool v13))]) (by kernel_rfl) ?_
      refine W.seq ?_
      refine W.join (σ := ((List Bool))) (fun s => [(0, l43 (some 9) w5), (2, .pb 1000002 0), (3, .pb 1000003 0), (5, .ptr (.agg [.int .i64 x1.f_Txn, .int .i64 x1.f_Kind, .int .i64 x1.f_Item])), (10, l43 (some 9) w5), (11, .int .i64 (w5.length : Int)), (12, .int .i64 (k1 : Int)), (19, l43 none e12), (20, .int .i64 (e12.length : Int)), (21, .int .i64 (k2 : Int)), (1000002, .hob 3 [] (List.map AV.bool (List.replicate 49 false))), (1000003, .hob 3 [] (List.map AV.bool s))]) (fun s => (rf5_conflicts_j14 (rf5_conflicts_l2 x1 (rf5_conflicts_j9 (rf5_conflicts_l1 w5 (rf5_conflicts_j6) r1 (k1 + 1))) r2 (k2 + 1))) s = some r) (fun s h => ?_) (fun hK14 => ?_)
      · obtain ⟨v21, rfl⟩ : ∃ x, x = s := ⟨s, rfl⟩
        have h : (rf5_conflicts_j14 (rf5_conflicts_l2 x1 (rf5_conflicts_j9 (rf5_conflicts_l1 w5 (rf5_conflicts_j6) r1 (k1 + 1))) r2 (k2 + 1))) v21 = some r := h
        unfold rf5_conflicts_j14 at h
        refine W.region (by kernel_rfl) ?_
        refine WO.pureK 0 (some (.int .i64 (IntKind.wrap .i64 ((k2 : Int) + 1)))) (v := .int .i64 ((k2 + 1 : Nat) : Int)) (by kernel_rfl) (by rw [wrap_succ hl2 hk2]) (e1 := [(0, l43 (some 9) w5), (2, .pb 1000002 0), (3, .pb 1000003 0), (5, .ptr (.agg [.int .i64 x1.f_Txn, .int .i64 x1.f_Kind, .int .i64 x1.f_Item])), (10, l43 (some 9) w5), (11, .int .i64 (w5.length : Int)), (12, .int .i64 (k1 : Int)), (19, l43 none e12), (20, .int .i64 (e12.length : Int)), (21, .int .i64 (k2 : Int)), (61, .int .i64 ((k2 + 1 : Nat) : Int)), (1000002, .hob 3 [] (List.map AV.bool (List.replicate 49 false))), (1000003, .hob 3 [] (List.map AV.bool v21))]) (by kernel_rfl) ?_
        refine WO.fin [0, 2, 3, 5, 10, 11, 12, 19, 20, 21, 1000002, 1000003] [] [] [] (e2 := [(0, l43 (some 9) w5), (2, .pb 1000002 0), (3, .pb 1000003 0), (5, .ptr (.agg [.int .i64 x1.f_Txn, .int .i64 x1.f_Kind, .int .i64 x1.f_Item])), (10, l43 (some 9) w5), (11, .int .i64 (w5.length : Int)), (12, .int .i64 (k1 : Int)), (19, l43 none e12), (20, .int .i64 (e12.length : Int)), (21, .int .i64 ((k2 + 1 : Nat) : Int)), (1000002, .hob 3 [] (List.map AV.bool (List.replicate 49 false))), (1000003, .hob 3 [] (List.map AV.bool v21))]) (by kernel_rfl) (fun _ h => h) ?_
        exact hN2 v21 h
      refine W.block ?_
      refine W.seq ?_
      refine W.region (by kernel_rfl) ?_
      refine WO.pureK 0 (if (0 : Int) ≤ (k2 : Int) then ((List.map e_rf5Op e12)[Int.toNat (k2 : Int)]?).map AV.ptr else none) (v := .ptr (.agg [.int .i64 x2.f_Txn, .int .i64 x2.f_Kind, .int .i64 x2.f_Item])) (by kernel_rfl) (idx_nat (f := e_rf5Op) hx2) (e1 := [(0, l43 (some 9) w5), (2, .pb 1000002 0), (3, .pb 1000003 0), (5, .ptr (.agg [.int .i64 x1.f_Txn, .int .i64 x1.f_Kind, .int .i64 x1.f_Item])), (10, l43 (some 9) w5), (11, .int .i64 (w5.length : Int)), (12, .int .i64 (k1 : Int)), (19, l43 none e12), (20, .int .i64 (e12.length : Int)), (21, .int .i64 (k2 : Int)), (23, .ptr (.agg [.int .i64 x2.f_Txn, .int .i64 x2.f_Kind, .int .i64 x2.f_Item])), (1000002, .hob 3 [] (List.map AV.bool (List.replicate 49 false))), (1000003, .hob 3 [] (List.map AV.bool v13))]) (by kernel_rfl) ?_
      refine WO.fin [0, 2, 3, 5, 7, 10, 11, 12, 19, 20, 21, 1000002, 1000003] [7] [] [] (e2 := [(0, l43 (some 9) w5), (2, .pb 1000002 0), (3, .pb 1000003 0), (5, .ptr (.agg [.int .i64 x1.f_Txn, .int .i64 x1.f_Kind, .int .i64 x1.f_Item])), (7, .ptr (.agg [.int .i64 x2.f_Txn, .int .i64 x2.f_Kind, .int .i64 x2.f_Item])), (10, l43 (some 9) w5), (11, .int .i64 (w5.length : Int)), (12, .int .i64 (k1 : Int)), (19, l43 none e12), (20, .int .i64 (e12.length : Int)), (21, .int .i64 (k2 : Int)), (1000002, .hob 3 [] (List.map AV.bool (List.replicate 49 false))), (1000003, .hob 3 [] (List.map AV.bool v13))]) (by kernel_rfl) (fun _ h => h) ?_
      refine W.seq ?_
      refine W.join (σ := (Bool)) (fun s => [(0, l43 (some 9) w5), (2, .pb 1000002 0), (3, .pb 1000003 0), (5, .ptr (.agg [.int .i64 x1.f_Txn, .int .i64 x1.f_Kind, .int .i64 x1.f_Item])), (7, .ptr (.agg [.int .i64 x2.f_Txn, .int .i64 x2.f_Kind, .int .i64 x2.f_Item])), (10, l43 (some 9) w5), (11, .int .i64 (w5.length : Int)), (12, .int .i64 (k1 : Int)), (19, l43 none e12), (20, .int .i64 (e12.length : Int)), (21, .int .i64 (k2 : Int)), (54, .bool s), (1000002, .hob 3 [] (List.map AV.bool (List.replicate 49 false))), (1000003, .hob 3 [] (List.map AV.bool v13))]) (fun s => (rf5_conflicts_j16 x1 x2 v13 (rf5_conflicts_j14 (rf5_conflicts_l2 x1 (rf5_conflicts_j9 (rf5_conflicts_l1 w5 (rf5_conflicts_j6) r1 (k1 + 1))) r2 (k2 + 1)))) s = some r) (fun s h => ?_) (fun hK16 => ?_)
      · obtain ⟨v17, rfl⟩ : ∃ x, x = s := ⟨s, rfl⟩
        have h : (rf5_conflicts_j16 x1 x2 v13 (rf5_conflicts_j14 (rf5_conflicts_l2 x1 (rf5_conflicts_j9 (rf5_conflicts_l1 w5 (rf5_conflicts_j6) r1 (k1 + 1))) r2 (k2 + 1)))) v17 = some r := h
        unfold rf5_conflicts_j16 at h
        refine W.condB v17 (by kernel_rfl) (fun hb => ?_) (fun hb => ?_)
        · replace h := cond_t hb h
          refine W.region (by kernel_rfl) ?_
          obtain ⟨hc18, h⟩ := chk_some h
          refine WO.pureK 4 (if (0 : Int) ≤ x2.f_Txn ∧ x2.f_Txn < ((7 : Nat) : Int) ∧ 0 < 7 then some (AV.pb 1000003 (0 + Int.toNat x2.f_Txn * 7)) else none) (v := .pb 1000003 (0 + Int.toNat x2.f_Txn * 7)) (by kernel_rfl) (ite_some hc18) (e1 := [(0, l43 (some 9) w5), (2, .pb 1000002 0), (3, .pb 1000003 0), (5, .ptr (.agg [.int .i64 x1.f_Txn, .int .i64 x1.f_Kind, .int .i64 x1.f_Item])), (7, .ptr (.agg [.int .i64 x2.f_Txn, .int .i64 x2.f_Kind, .int .i64 x2.f_Item])), (10, l43 (some 9) w5), (11, .int .i64 (w5.length : Int)), (12, .int .i64 (k1 : Int)), (19, l43 none e12), (20, .int .i64 (e12.length : Int)), (21, .int .i64 (k2 : Int)), (54, .bool v17), (55, .ptr (.int .i64 x2.f_Txn)), (56, .int .i64 x2.f_Txn), (57, .ptr (.int .i64 x1.f_Txn)), (58, .int .i64 x1.f_Txn), (59, .pb 1000003 (0 + Int.toNat x2.f_Txn * 7)), (1000002, .hob 3 [] (List.map AV.bool (List.replicate 49 false))), (1000003, .hob 3 [] (List.map AV.bool v13))]) (by kernel_rfl) ?_
          obtain ⟨hc19, h⟩ := chk_some h
          refine WO.pureK 0 (if (0 : Int) ≤ x1.f_Txn ∧ x1.f_Txn < ((7 : Nat) : Int) ∧ 0 < 1 then some (AV.pb 1000003 ((0 + Int.toNat x2.f_Txn * 7) + Int.toNat x1.f_Txn * 1)) else none) (v := .pb 1000003 ((0 + Int.toNat x2.f_Txn * 7) + Int.toNat x1.f_Txn * 1)) (by kernel_rfl) (ite_some hc19) (e1 := [(0, l43 (some 9) w5), (2, .pb 1000002 0), (3, .pb 1000003 0), (5, .ptr (.agg [.int .i64 x1.f_Txn, .int .i64 x1.f_Kind, .int .i64 x1.f_Item])), (7, .ptr (.agg [.int .i64 x2.f_Txn, .int .i64 x2.f_Kind, .int .i64 x2.f_Item])), (10, l43 (some 9) w5), (11, .int .i64 (w5.length : Int)), (12, .int .i64 (k1 : Int)), (19, l43 none e12), (20, .int .i64 (e12.length : Int)), (21, .int .i64 (k2 : Int)), (54, .bool v17), (55, .ptr (.int .i64 x2.f_Txn)), (56, .int .i64 x2.f_Txn), (57, .ptr (.int .i64 x1.f_Txn)), (58, .int .i64 x1.f_Txn), (59, .pb 1000003 (0 + Int.toNat x2.f_Txn * 7)), (60, .pb 1000003 ((0 + Int.toNat x2.f_Txn * 7) + Int.toNat x1.f_Txn * 1)), (1000002, .hob 3 [] (List.map AV.bool (List.replicate 49 false))), (1000003, .hob 3 [] (List.map AV.bool v13))]) (by kernel_rfl) ?_
          obtain ⟨hc20, h⟩ := chk_some h
          refine WO.setA (enc := AV.bool) (l := v13) (x := true) (s := 1000003) (off := ((0 + Int.toNat x2.f_Txn * 7) + Int.toNat x1.f_Txn * 1)) 0 flat_bool hc20 (e1 := [(0, l43 (some 9) w5), (2, .pb 1000002 0), (3, .pb 1000003 0), (5, .ptr (.agg [.int .i64 x1.f_Txn, .int .i64 x1.f_Kind, .int .i64 x1.f_Item])), (7, .ptr (.agg [.int .i64 x2.f_Txn, .int .i64 x2.f_Kind, .int .i64 x2.f_Item])), (10, l43 (some 9) w5), (11, .int .i64 (w5.length : Int)), (12, .int .i64 (k1 : Int)), (19, l43 none e12), (20, .int .i64 (e12.length : Int)), (21, .int .i64 (k2 : Int)), (54, .bool v17), (55, .ptr (.int .i64 x2.f_Txn)), (56, .int .i64 x2.f_Txn), (57, .ptr (.int .i64 x1.f_Txn)), (58, .int .i64 x1.f_Txn), (59, .pb 1000003 (0 + Int.toNat x2.f_Txn * 7)), (60, .pb 1000003 ((0 + Int.toNat x2.f_Txn * 7) + Int.toNat x1.f_Txn * 1)), (1000002, .hob 3 [] (List.map AV.bool (List.replicate 49 false))), (1000003, .hob 3 [] (List.map AV.bool (v13.set ((0 + Int.toNat x2.f_Txn * 7) + Int.toNat x1.f_Txn * 1) true)))]) ?_
          refine WO.fin [0, 2, 3, 5, 10, 11, 12, 19, 20, 21, 1000002, 1000003] [] [] [] (e2 := [(0, l43 (some 9) w5), (2, .pb 1000002 0), (3, .pb 1000003 0), (5, .ptr (.agg [.int .i64 x1.f_Txn, .int .i64 x1.f_Kind, .int .i64 x1.f_Item])), (10, l43 (some 9) w5), (11, .int .i64 (w5.length : Int)), (12, .int .i64 (k1 : Int)), (19, l43 none e12), (20, .int .i64 (e12.length : Int)), (21, .int .i64 (k2 : Int)), (1000002, .hob 3 [] (List.map AV.bool (List.replicate 49 false))), (1000003, .hob 3 [] (List.map AV.bool (v13.set ((0 + Int.toNat x2.f_Txn * 7) + Int.toNat x1.f_Txn * 1) true)))]) (by kernel_rfl) (fun _ h => h) ?_
          exact hK14 (v13.set ((0 + Int.toNat x2.f_Txn * 7) + Int.toNat x1.f_Txn * 1) true) h
        replace h := cond_f hb h
        refine W.skip ?_
        refine W.weak [0, 2, 3, 5, 10, 11, 12, 19, 20, 21, 1000002, 1000003] [] [] [] (env' := [(0, l43 (some 9) w5), (2, .pb 1000002 0), (3, .pb 1000003 0), (5, .ptr (.agg [.int .i64 x1.f_Txn, .int .i64 x1.f_Kind, .int .i64 x1.f_Item])), (10, l43 (some 9) w5), (11, .int .i64 (w5.length : Int)), (12, .int .i64 (k1 : Int)), (19, l43 none e12), (20, .int .i64 (e12.length : Int)), (21, .int .i64 (k2 : Int)), (1000002, .hob 3 [] (List.map AV.bool (List.replicate 49 false))), (1000003, .hob 3 [] (List.map AV.bool v13))]) (by kernel_rfl) ?_
        exact hK14 v13 h
      refine W.region (by kernel_rfl) ?_
      refine WO.boolK 4 (fun b => [(0, l43 (some 9) w5), (2, .pb 1000002 0), (3, .pb 1000003 0), (5, .ptr (.agg [.int .i64 x1.f_Txn, .int .i64 x1.f_Kind, .int .i64 x1.f_Item])), (7, .ptr (.agg [.int .i64 x2.f_Txn, .int .i64 x2.f_Kind, .int .i64 x2.f_Item])), (10, l43 (some 9) w5), (11, .int .i64 (w5.length : Int)), (12, .int .i64 (k1 : Int)), (19, l43 none e12), (20, .int .i64 (e12.length : Int)), (21, .int .i64 (k2 : Int)), (25, .ptr (.int .i64 x1.f_Kind)), (26, .int .i64 x1.f_Kind), (27, .bool b), (28, .bool b), (1000002, .hob 3 [] (List.map AV.bool (List.replicate 49 false))), (1000003, .hob 3 [] (List.map AV.bool v13))]) (decide (x1.f_Kind < 2)) (by kernel_rfl) (fun hb => ?_) (fun hb => ?_)
      · replace h := cond_t hb h
        refine WO.boolK 5 (fun b => [(0, l43 (some 9) w5), (2, .pb 1000002 0), (3, .pb 1000003 0), (5, .ptr (.agg [.int .i64 x1.f_Txn, .int .i64 x1.f_Kind, .int .i64 x1.f_Item])), (7, .ptr (.agg [.int .i64 x2.f_Txn, .int .i64 x2.f_Kind, .int .i64 x2.f_Item])), (10, l43 (some 9) w5), (11, .int .i64 (w5.length : Int)), (12, .int .i64 (k1 : Int)), (19, l43 none e12), (20, .int .i64 (e12.length : Int)), (21, .int .i64 (k2 : Int)), (25, .ptr (.int .i64 x1.f_Kind)), (26, .int .i64 x1.f_Kind), (27, .bool true), (28, .bool true), (29, .ptr (.int .i64 x2.f_Kind)), (30, .int .i64 x2.f_Kind), (31, .bool b), (32, .bool b), (33, .bool b), (1000002, .hob 3 [] (List.map AV.bool (List.replicate 49 false))), (1000003, .hob 3 [] (List.map AV.bool v13))]) (decide (x2.f_Kind < 2)) (by kernel_rfl) (fun hb => ?_) (fun hb => ?_)
        · replace h := cond_t hb h
          refine WO.boolK 8 (fun b => [(0, l43 (some 9) w5), (2, .pb 1000002 0), (3, .pb 1000003 0), (5, .ptr (.agg [.int .i64 x1.f_Txn, .int .i64 x1.f_Kind, .int .i64 x1.f_Item])), (7, .ptr (.agg [.int .i64 x2.f_Txn, .int .i64 x2.f_Kind, .int .i64 x2.f_Item])), (10, l43 (some 9) w5), (11, .int .i64 (w5.length : Int)), (12, .int .i64 (k1 : Int)), (19, l43 none e12), (20, .int .i64 (e12.length : Int)), (21, .int .i64 (k2 : Int)), (25, .ptr (.int .i64 x1.f_Kind)), (26, .int .i64 x1.f_Kind), (27, .bool true), (28, .bool true), (29, .ptr (.int .i64 x2.f_Kind)), (30, .int .i64 x2.f_Kind), (31, .bool true), (32, .bool true), (33, .bool true), (34, .ptr (.int .i64 x1.f_Kind)), (35, .int .i64 x1.f_Kind), (36, .ptr (.int .i64 x2.f_Kind)), (37, .int .i64 x2.f_Kind), (38, .int .i64 (IntKind.wrap .i64 (x1.f_Kind + x2.f_Kind))), (39, .bool b), (40, .bool b), (41, .bool b), (1000002, .hob 3 [] (List.map AV.bool (List.replicate 49 false))), (1000003, .hob 3 [] (List.map AV.bool v13))]) (decide ((IntKind.wrap .i64 (x1.f_Kind + x2.f_Kind)) > 0)) (by kernel_rfl) (fun hb => ?_) (fun hb => ?_)
          · replace h := cond_t hb h
            refine WO.boolK 7 (fun b => [(0, l43 (some 9) w5), (2, .pb 1000002 0), (3, .pb 1000003 0), (5, .ptr (.agg [.int .i64 x1.f_Txn, .int .i64 x1.f_Kind, .int .i64 x1.f_Item])), (7, .ptr (.agg [.int .i64 x2.f_Txn, .int .i64 x2.f_Kind, .int .i64 x2.f_Item])), (10, l43 (some 9) w5), (11, .int .i64 (w5.length : Int)), (12, .int .i64 (k1 : Int)), (19, l43 none e12), (20, .int .i64 (e12.length : Int)), (21, .int .i64 (k2 : Int)), (25, .ptr (.int .i64 x1.f_Kind)), (26, .int .i64 x1.f_Kind), (27, .bool true), (28, .bool true), (29, .ptr (.int .i64 x2.f_Kind)), (30, .int .i64 x2.f_Kind), (31, .bool true), (32, .bool true), (33, .bool true), (34, .ptr (.int .i64 x1.f_Kind)), (35, .int .i64 x1.f_Kind), (36, .ptr (.int .i64 x2.f_Kind)), (37, .int .i64 x2.f_Kind), (38, .int .i64 (IntKind.wrap .i64 (x1.f_Kind + x2.f_Kind))), (39, .bool true), (40, .bool true), (41, .bool true), (42, .ptr (.int .i64 x1.f_Item)), (43, .int .i64 x1.f_Item), (44, .ptr (.int .i64 x2.f_Item)), (45, .int .i64 x2.f_Item), (46, .bool b), (47, .bool b), (48, .bool b), (1000002, .hob 3 [] (List.map AV.bool (List.replicate 49 false))), (1000003, .hob 3 [] (List.map AV.bool v13))]) (x1.f_Item == x2.f_Item) (by kernel_rfl) (fun hb => ?_) (fun hb => ?_)
            · replace h := cond_t hb h
              refine WO.fin [0, 2, 3, 5, 7, 10, 11, 12, 19, 20, 21, 54, 1000002, 1000003] [] [] [] (e2 := [(0, l43 (some 9) w5), (2, .pb 1000002 0), (3, .pb 1000003 0), (5, .ptr (.agg [.int .i64 x1.f_Txn, .int .i64 x1.f_Kind, .int .i64 x1.f_Item])), (7, .ptr (.agg [.int .i64 x2.f_Txn, .int .i64 x2.f_Kind, .int .i64 x2.f_Item])), (10, l43 (some 9) w5), (11, .int .i64 (w5.length : Int)), (12, .int .i64 (k1 : Int)), (19, l43 none e12), (20, .int .i64 (e12.length : Int)), (21, .int .i64 (k2 : Int)), (54, .bool (x1.f_Txn != x2.f_Txn)), (1000002, .hob 3 [] (List.map AV.bool (List.replicate 49 false))), (1000003, .hob 3 [] (List.map AV.bool v13))]) (by kernel_rfl) (fun _ h => h) ?_
              exact hK16 (x1.f_Txn != x2.f_Txn) h
            replace h := cond_f hb h
            refine WO.fin [0, 2, 3, 5, 7, 10, 11, 12, 19, 20, 21, 54, 1000002, 1000003] [] [] [] (e2 := [(0, l43 (some 9) w5), (2, .pb 1000002 0), (3, .pb 1000003 0), (5, .ptr (.agg [.int .i64 x1.f_Txn, .int .i64 x1.f_Kind, .int .i64 x1.f_Item])), (7, .ptr (.agg [.int .i64 x2.f_Txn, .int .i64 x2.f_Kind, .int .i64 x2.f_Item])), (10, l43 (some 9) w5), (11, .int .i64 (w5.length : Int)), (12, .int .i64 (k1 : Int)), (19, l43 none e12), (20, .int .i64 (e12.length : Int)), (21, .int .i64 (k2 : Int)), (54, .bool false), (1000002, .hob 3 [] (List.map AV.bool (List.replicate 49 false))), (1000003, .hob 3 [] (List.map AV.bool v13))]) (by kernel_rfl) (fun _ h => h) ?_
            exact hK16 false h
          replace h := cond_f hb h
          refine WO.fin [0, 2, 3, 5, 7, 10, 11, 12, 19, 20, 21, 54, 1000002, 1000003] [] [] [] (e2 := [(0, l43 (some 9) w5), (2, .pb 1000002 0), (3, .pb 1000003 0), (5, .ptr (.agg [.int .i64 x1.f_Txn, .int .i64 x1.f_Kind, .int .i64 x1.f_Item])), (7, .ptr (.agg [.int .i64 x2.f_Txn, .int .i64 x2.f_Kind, .int .i64 x2.f_Item])), (10, l43 (some 9) w5), (11, .int .i64 (w5.length : Int)), (12, .int .i64 (k1 : Int)), (19, l43 none e12), (20, .int .i64 (e12.length : Int)), (21, .int .i64 (k2 : Int)), (54, .bool false), (1000002, .hob 3 [] (List.map AV.bool (List.replicate 49 false))), (1000003, .hob 3 [] (List.map AV.bool v13))]) (by kernel_rfl) (fun _ h => h) ?_
          exact hK16 false h
        replace h := cond_f hb h
        refine WO.fin [0, 2, 3, 5, 7, 10, 11, 12, 19, 20, 21, 54, 1000002, 1000003] [] [] [] (e2 := [(0, l43 (some 9) w5), (2, .pb 1000002 0), (3, .pb 1000003 0), (5, .ptr (.agg [.int .i64 x1.f_Txn, .int .i64 x1.f_Kind, .int .i64 x1.f_Item])), (7, .ptr (.agg [.int .i64 x2.f_Txn, .int .i64 x2.f_Kind, .int .i64 x2.f_Item])), (10, l43 (some 9) w5), (11, .int .i64 (w5.length : Int)), (12, .int .i64 (k1 : Int)), (19, l43 none e12), (20, .int .i64 (e12.length : Int)), (21, .int .i64 (k2 : Int)), (54, .bool false), (1000002, .hob 3 [] (List.map AV.bool (List.replicate 49 false))), (1000003, .hob 3 [] (List.map AV.bool v13))]) (by kernel_rfl) (fun _ h => h) ?_
        exact hK16 false h
      replace h := cond_f hb h
      refine WO.fin [0, 2, 3, 5, 7, 10, 11, 12, 19, 20, 21, 54, 1000002, 1000003] [] [] [] (e2 := [(0, l43 (some 9) w5), (2, .pb 1000002 0), (3, .pb 1000003 0), (5, .ptr (.agg [.int .i64 x1.f_Txn, .int .i64 x1.f_Kind, .int .i64 x1.f_Item])), (7, .ptr (.agg [.int .i64 x2.f_Txn, .int .i64 x2.f_Kind, .int .i64 x2.f_Item])), (10, l43 (some 9) w5), (11, .int .i64 (w5.length : Int)), (12, .int .i64 (k1 : Int)), (19, l43 none e12), (20, .int .i64 (e12.length : Int)), (21, .int .i64 (k2 : Int)), (54, .bool false), (1000002, .hob 3 [] (List.map AV.bool (List.replicate 49 false))), (1000003, .hob 3 [] (List.map AV.bool v13))]) (by kernel_rfl) (fun _ h => h) ?_
      exact hK16 false h
def rf5_perms_j7 (v25 : (List (List Int))) : Option (List (List Int)) :=
  (some v25)
def rf5_perms_j10 (N1 : ((List (List Int)) → Option (List (List Int)))) (v24 : (List (List Int))) : Option (List (List Int)) :=
  (N1 v24)
def rf5_perms_l2 (x1 : Int) (K10 : ((List (List Int)) → Option (List (List Int)))) : List (List Int) → Nat → (List (List Int)) → Option (List (List Int))
  | [], k2, v19 => (K10 v19)
  | x2 :: r2, k2, v19 => (chk (capOk 8 (([x1] ++ x2)).length) (chk (capOk 24 ((v19 ++ [([x1] ++ x2)])).length) ((rf5_perms_l2 x1 K10 r2 (k2 + 1)) (v19 ++ [([x1] ++ x2)]))))
def rf5_perms_l1 (a1 : (List Int)) (K0 : ((List Int) → Option (List (List Int)))) (K7 : ((List (List Int)) → Option (List (List Int)))) : List Int → Nat → (List (List Int)) → Option (List (List Int))
  | [], k1, v9 => (K7 v9)
  | x1 :: r1, k1, v9 => ((sub a1 0 (k1 : Int)).bind fun e13 => (chk (capOk 8 ((([] : (List Int)) ++ e13)).length) ((sub a1 ((k1 + 1 : Nat) : Int) (a1.length : Int)).bind fun e15 => (chk (capOk 8 (((([] : (List Int)) ++ e13) ++ e15)).length) ((K0 ((([] : (List Int)) ++ e13) ++ e15)).bind fun w18 => (chk (lenOk w18) (rf5_perms_l2 x1 (rf5_perms_j10 (rf5_perms_l1 a1 K0 K7 r1 (k1 + 1))) w18 0 v9)))))))
def rf5_perms : Nat → (List Int) → Option (List (List Int))
  | 0, _ => none
  | fuel + 1, a1 => (bif ((a1.length : Int) == 0) then (some [([] : (List Int))]) else (chk (lenOk a1) (rf5_perms_l1 a1 (rf5_perms fuel) (rf5_perms_j7) a1 0 ([] : (List (List Int))))))
theorem run_rf5_perms : ∀ (fuel : Nat) (a1 : (List Int)) (r : (List (List Int))) (h : rf5_perms fuel a1 = some r), Run Try.prog (.call 67 [l3 none a1] (l24 none r)) := by
  intro fuel
  induction fuel with
  | zero => intro a1 r h; cases h
  | succ fuel ih =>
    intro a1 r h
    refine call_of_W Try.func67 rfl (by kernel_rfl) (env0 := [(0, l3 none a1)]) (by kernel_rfl) ?_
    rw [rf5_perms.eq_2] at h
    refine W.seq ?_
    refine W.regT [0] [] [] [] (e2 := [(0, l3 none a1)]) (by kernel_rfl) (by kernel_rfl) (fun _ h => h) ?_
    refine W.seq ?_
    refine W.seq ?_
    refine W.region (by kernel_rfl) ?_
    refine WO.pureK 1 (some (.int .i64 ((List.map (AV.int .i64) a1).length : Int))) (v := .int .i64 (a1.length : Int)) (by kernel_rfl) (by rw [List.length_map]) (e1 := [(0, l3 none a1), (9, l3 none a1), (10, .int .i64 (a1.length : Int))]) (by kernel_rfl) ?_
    refine WO.fin [0, 11] [] [] [] (e2 := [(0, l3 none a1), (11, .bool ((a1.length : Int) == 0))]) (by kernel_rfl) (fun _ h => h) ?_
    refine W.condB ((a1.length : Int) == 0) (by kernel_rfl) (fun hb => ?_) (fun hb => ?_)
    · replace h := cond_t hb h
      refine W.seq ?_
      refine W.regT [2] [] [] [] (e2 := [(2, l24 (some 12) [([] : (List Int))])]) (by kernel_rfl) (by kernel_rfl) (fun _ h => h) ?_
      refine W.weak [2] [] [] [(12, none)] (env' := [(2, l24 none [([] : (List Int))])]) (by kernel_rfl) ?_
      have hr : aresults Try.prog Try.f67 [(2, l24 none [([] : (List Int))])] = some (l24 none [([] : (List Int))]) := by kernel_rfl
      cases h
      exact W.ret hr
    replace h := cond_f hb h
    refine W.skip ?_
    refine W.weak [0] [] [] [] (env' := [(0, l3 none a1)]) (by kernel_rfl) ?_
    refine W.seq ?_
    refine W.regT [0, 3] [] [] [] (e2 := [(0, l3 none a1), (3, .nils)]) (by kernel_rfl) (by kernel_rfl) (fun _ h => h) ?_
    refine W.seq ?_
    refine W.join (σ := ((List (List Int)))) (fun s => [(3, l24 (some 10300) s)]) (fun s => (rf5_perms_j7) s = some r) (fun s h => ?_) (fun hK7 => ?_)
    · obtain ⟨v25, rfl⟩ : ∃ x, x = s := ⟨s, rfl⟩
      have h : (rf5_perms_j7) v25 = some r := h
      unfold rf5_perms_j7 at h
      refine W.seq ?_
      refine W.regT [2] [] [] [] (e2 := [(2, l24 (some 10300) v25)]) (by kernel_rfl) (by kernel_rfl) (fun _ h => h) ?_
      refine W.weak [2] [] [] [(10300, none)] (env' := [(2, l24 none v25)]) (by kernel_rfl) ?_
      have hr : aresults Try.prog Try.f67 [(2, l24 none v25)] = some (l24 none v25) := by kernel_rfl
      cases h
      exact W.ret hr
    refine W.seq ?_
    refine W.region (by kernel_rfl) ?_
    refine WO.pureK 1 (some (.int .i64 ((List.map (AV.int .i64) a1).length : Int))) (v := .int .i64 (a1.length : Int)) (by kernel_rfl) (by rw [List.length_map]) (e1 := [(0, l3 none a1), (3, .nils), (13, l3 none a1), (14, .int .i64 (a1.length : Int))]) (by kernel_rfl) ?_
    refine WO.fin [0, 3, 13, 14, 15] [] [] [] (e2 := [(0, l3 none a1), (3, .nils), (13, l3 none a1), (14, .int .i64 (a1.length : Int)), (15, .int .i64 0)]) (by kernel_rfl) (fun _ h => h) ?_
    refine W.block ?_
    obtain ⟨hl1, h⟩ := chk_some h
    refine W.weak [0, 3, 13, 14, 15] [] [(3, 0, 24, 1, 10300)] [] (env' := [(0, l3 none a1), (3, l24 (some 10300) ([] : (List (List Int)))), (13, l3 none a1), (14, .int .i64 (a1.length : Int)), (15, .int .i64 ((0 : Nat) : Int))]) (by kernel_rfl) ?_
    refine W.range (σ := ((List (List Int)))) a1 (fun k1 s => [(0, l3 none a1), (3, l24 (some 10300) s), (13, l3 none a1), (14, .int .i64 (a1.length : Int)), (15, .int .i64 (k1 : Int))]) (fun r0 k0 s => rf5_perms_l1 a1 (rf5_perms fuel) (rf5_perms_j7) r0 k0 s = some r) (fun s h => ?_) (fun x1 r1 k1 s hx1 hk1 h hN1 => ?_) ([] : (List (List Int))) h
    · obtain ⟨v9, rfl⟩ : ∃ x, x = s := ⟨s, rfl⟩
      have h : rf5_perms_l1 a1 (rf5_perms fuel) (rf5_perms_j7) [] (a1).length v9 = some r := h
      rw [rf5_perms_l1.eq_1] at h
      refine W.seq ?_
      refine W.region (by kernel_rfl) ?_
      refine WO.pureK 0 (some (.bool (decide (((a1).length : Int) < (a1.length : Int))))) (v := .bool false) (by kernel_rfl) (by rw [lt_false (l := a1)]) (e1 := [(0, l3 none a1), (3, l24 (some 10300) v9), (13, l3 none a1), (14, .int .i64 (a1.length : Int)), (15, .int .i64 ((a1).length : Int)), (16, .bool false)]) (by kernel_rfl) ?_
      refine WO.fin ([0, 3, 13, 14, 15, 16]) [] [] [] (e2 := [(0, l3 none a1), (3, l24 (some 10300) v9), (13, l3 none a1), (14, .int .i64 (a1.length : Int)), (15, .int .i64 ((a1).length : Int)), (16, .bool false)]) (by kernel_rfl) (fun _ h => h) ?_
      refine W.seq ?_
      refine W.condB false (by kernel_rfl) (fun h => Bool.noConfusion h) (fun _ => ?_)
      refine W.exit ?_
      refine W.weak [3] [] [] [] (env' := [(3, l24 (some 10300) v9)]) (by kernel_rfl) ?_
      exact hK7 v9 h
    · obtain ⟨v9, rfl⟩ : ∃ x, x = s := ⟨s, rfl⟩
      have h : rf5_perms_l1 a1 (rf5_perms fuel) (rf5_perms_j7) (x1 :: r1) k1 v9 = some r := h
      rw [rf5_perms_l1.eq_2] at h
      refine W.seq ?_
      refine W.region (by kernel_rfl) ?_
      refine WO.pureK 0 (some (.bool (decide ((k1 : Int) < (a1.length : Int))))) (v := .bool true) (by kernel_rfl) (by rw [lt_true hk1]) (e1 := [(0, l3 none a1), (3, l24 (some 10300) v9), (13, l3 none a1), (14, .int .i64 (a1.length : Int)), (15, .int .i64 (k1 : Int)), (16, .bool true)]) (by kernel_rfl) ?_
      refine WO.fin ([0, 3, 13, 14, 15, 16]) [] [] [] (e2 := [(0, l3 none a1), (3, l24 (some 10300) v9), (13, l3 none a1), (14, .int .i64 (a1.length : Int)), (15, .int .i64 (k1 : Int)), (16, .bool true)]) (by kernel_rfl) (fun _ h => h) ?_
      refine W.seq ?_
      refine W.condB true (by kernel_rfl) (fun _ => ?_) (fun h => Bool.noConfusion h)
      refine W.skip ?_
      refine W.weak [0, 3, 13, 14, 15] [] [] [] (env' := [(0, l3 none a1), (3, l24 (some 10300) v9), (13, l3 none a1), (14, .int .i64 (a1.length : Int)), (15, .int .i64 (k1 : Int))]) (by kernel_rfl) ?_
      refine W.seq ?_
      refine W.join (σ := ((List (List Int)))) (fun s => [(0, l3 none a1), (3, l24 (some 10300) s), (13, l3 none a1), (14, .int .i64 (a1.length : Int)), (15, .int .i64 (k1 : Int))]) (fun s => (rf5_perms_j10 (rf5_perms_l1 a1 (rf5_perms fuel) (rf5_perms_j7) r1 (k1 + 1))) s = some r) (fun s h => ?_) (fun hK10 => ?_)
      · obtain ⟨v24, rfl⟩ : ∃ x, x = s := ⟨s, rfl⟩
        have h : (rf5_perms_j10 (rf5_perms_l1 a1 (rf5_perms fuel) (rf5_perms_j7) r1 (k1 + 1))) v24 = some r := h
        unfold rf5_perms_j10 at h
        refine W.region (by kernel_rfl) ?_
        refine WO.pureK 0 (some (.int .i64 (IntKind.wrap .i64 ((k1 : Int) + 1)))) (v := .int .i64 ((k1 + 1 : Nat) : Int)) (by kernel_rfl) (by rw [wrap_succ hl1 hk1]) (e1 := [(0, l3 none a1), (3, l24 (some 10300) v24), (13, l3 none a1), (14, .int .i64 (a1.length : Int)), (15, .int .i64 (k1 : Int)), (45, .int .i64 ((k1 + 1 : Nat) : Int))]) (by kernel_rfl) ?_
        refine WO.fin [0, 3, 13, 14, 15] [] [] [] (e2 := [(0, l3 none a1), (3, l24 (some 10300) v24), (13, l3 none a1), (14, .int .i64 (a1.length : Int)), (15, .int .i64 ((k1 + 1 : Nat) : Int))]) (by kernel_rfl) (fun _ h => h) ?_
        exact hN1 v24 h
      refine W.block ?_
      refine W.seq ?_
      refine W.region (by kernel_rfl) ?_
      refine WO.pureK 1 (if (0 : Int) ≤ (k1 : Int) then ((List.map (AV.int .i64) a1)[Int.toNat (k1 : Int)]?).map AV.ptr else none) (v := .ptr (.int .i64 x1)) (by kernel_rfl) (idx_nat (f := (AV.int .i64)) hx1) (e1 := [(0, l3 none a1), (3, l24 (some 10300) v9), (13, l3 none a1), (14, .int .i64 (a1.length : Int)), (15, .int .i64 (k1 : Int)), (17, .int .i64 (k1 : Int)), (18, .ptr (.int .i64 x1))]) (by kernel_rfl) ?_
      refine WO.fin [0, 3, 4, 5, 13, 14, 15] [] [] [] (e2 := [(0, l3 none a1), (3, l24 (some 10300) v9), (4, .int .i64 (k1 : Int)), (5, .int .i64 x1), (13, l3 none a1), (14, .int .i64 (a1.length : Int)), (15, .int .i64 (k1 : Int))]) (by kernel_rfl) (fun _ h => h) ?_
      refine W.seq ?_
      refine W.regionB (by kernel_rfl) ?_
      obtain ⟨e13, he13, h⟩ := bind_some h
      refine WB.pureK 3 (if (0 : Int) ≤ 0 ∧ 0 ≤ (k1 : Int) ∧ (k1 : Int) ≤ ((List.map (AV.int .i64) a1).length : Int) then some (.lst 3 1 none (((List.map (AV.int .i64) a1).take (Int.toNat (k1 : Int))).drop (Int.toNat 0))) else none) (v := l3 none e13) (by kernel_rfl) (sub_av he13) (e1 := [(0, l3 none a1), (3, l24 (some 10300) v9), (4, .int .i64 (k1 : Int)), (5, .int .i64 x1), (13, l3 none a1), (14, .int .i64 (a1.length : Int)), (15, .int .i64 (k1 : Int)), (20, l3 (some 20) ([] : (List Int))), (21, l3 none a1), (22, .int .i64 (k1 : Int)), (23, l3 none e13)]) (by kernel_rfl) ?_
      obtain ⟨hc14, h⟩ := chk_some h
      refine WB.appendK 0 (by kernel_rfl) (d := 24) (e := 3) (s := 1) (bytes := 8) (xs := (List.map (AV.int .i64) ([] : (List Int)))) (ys := (List.map (AV.int .i64) e13)) (zs := (List.map (AV.int .i64) (([] : (List Int)) ++ e13))) (env1 := [(0, l3 none a1), (3, l24 (some 10300) v9), (4, .int .i64 (k1 : Int)), (5, .int .i64 x1), (13, l3 none a1), (14, .int .i64 (a1.length : Int)), (15, .int .i64 (k1 : Int)), (20, l3 none ([] : (List Int))), (21, l3 none a1), (22, .int .i64 (k1 : Int)), (23, l3 none e13)]) (by kernel_rfl) (List.map_append.symm) (by rw [List.length_map]; exact hc14) (e1 := [(0, l3 none a1), (3, l24 (some 10300) v9), (4, .int .i64 (k1 : Int)), (5, .int .i64 x1), (13, l3 none a1), (14, .int .i64 (a1.length : Int)), (15, .int .i64 (k1 : Int)), (20, l3 none ([] : (List Int))), (21, l3 none a1), (22, .int .i64 (k1 : Int)), (23, l3 none e13), (24, l3 (some 24) (([] : (List Int)) ++ e13))]) (by kernel_rfl) ?_
      refine WB.pureK 2 (some (.int .i64 (IntKind.wrap .i64 ((k1 : Int) + 1)))) (v := .int .i64 ((k1 + 1 : Nat) : Int)) (by kernel_rfl) (by rw [wrap_succ hl1 hk1]) (e1 := [(0, l3 none a1), (3, l24 (some 10300) v9), (4, .int .i64 (k1 : Int)), (5, .int .i64 x1), (13, l3 none a1), (14, .int .i64 (a1.length : Int)), (15, .int .i64 (k1 : Int)), (20, l3 none ([] : (List Int))), (21, l3 none a1), (22, .int .i64 (k1 : Int)), (23, l3 none e13), (24, l3 (some 24) (([] : (List Int)) ++ e13)), (25, l3 none a1), (26, .int .i64 (k1 : Int)), (27, .int .i64 ((k1 + 1 : Nat) : Int))]) (by kernel_rfl) ?_
      obtain ⟨e15, he15, h⟩ := bind_some h
      refine WB.pureK 0 (if (0 : Int) ≤ ((k1 + 1 : Nat) : Int) ∧ ((k1 + 1 : Nat) : Int) ≤ ((List.map (AV.int .i64) a1).length : Int) ∧ ((List.map (AV.int .i64) a1).length : Int) ≤ ((List.map (AV.int .i64) a1).length : Int) then some (.lst 3 1 none (((List.map (AV.int .i64) a1).take (Int.toNat ((List.map (AV.int .i64) a1).length : Int))).drop (Int.toNat ((k1 + 1 : Nat) : Int)))) else none) (v := l3 none e15) (by kernel_rfl) (sub_av_len he15) (e1 := [(0, l3 none a1), (3, l24 (some 10300) v9), (4, .int .i64 (k1 : Int)), (5, .int .i64 x1), (13, l3 none a1), (14, .int .i64 (a1.length : Int)), (15, .int .i64 (k1 : Int)), (20, l3 none ([] : (List Int))), (21, l3 none a1), (22, .int .i64 (k1 : Int)), (23, l3 none e13), (24, l3 (some 24) (([] : (List Int)) ++ e13)), (25, l3 none a1), (26, .int .i64 (k1 : Int)), (27, .int .i64 ((k1 + 1 : Nat) : Int)), (28, l3 none e15)]) (by kernel_rfl) ?_
      obtain ⟨hc16, h⟩ := chk_some h
      refine WB.appendK 0 (by kernel_rfl) (d := 29) (e := 3) (s := 1) (bytes := 8) (xs := (List.map (AV.int .i64) (([] : (List Int)) ++ e13))) (ys := (List.map (AV.int .i64) e15)) (zs := (List.map (AV.int .i64) ((([] : (List Int)) ++ e13) ++ e15))) (env1 := [(0, l3 none a1), (3, l24 (some 10300) v9), (4, .int .i64 (k1 : Int)), (5, .int .i64 x1), (13, l3 none a1), (14, .int .i64 (a1.length : Int)), (15, .int .i64 (k1 : Int)), (20, l3 none ([] : (List Int))), (21, l3 none a1), (22, .int .i64 (k1 : Int)), (23, l3 none e13), (24, l3 none (([] : (List Int)) ++ e13)), (25, l3 none a1), (26, .int .i64 (k1 : Int)), (27, .int .i64 ((k1 + 1 : Nat) : Int)), (28, l3 none e15)]) (by kernel_rfl) (List.map_append.symm) (by rw [List.length_map]; exact hc16) (e1 := [(0, l3 none a1), (3, l24 (some 10300) v9), (4, .int .i64 (k1 : Int)), (5, .int .i64 x1), (13, l3 none a1), (14, .int .i64 (a1.length : Int)), (15, .int .i64 (k1 : Int)), (20, l3 none ([] : (List Int))), (21, l3 none a1), (22, .int .i64 (k1 : Int)), (23, l3 none e13), (24, l3 none (([] : (List Int)) ++ e13)), (25, l3 none a1), (26, .int .i64 (k1 : Int)), (27, .int .i64 ((k1 + 1 : Nat) : Int)), (28, l3 none e15), (29, l3 (some 29) ((([] : (List Int)) ++ e13) ++ e15))]) (by kernel_rfl) ?_
      refine WB.fin [0, 3, 5, 6, 13, 14, 15] [] [] [] (e2 := [(0, l3 none a1), (3, l24 (some 10300) v9), (5, .int .i64 x1), (6, l3 none ((([] : (List Int)) ++ e13) ++ e15)), (13, l3 none a1), (14, .int .i64 (a1.length : Int)), (15, .int .i64 (k1 : Int))]) (by kernel_rfl) (fun _ h => h) ?_
      refine W.seq ?_
      refine W.region (by kernel_rfl) ?_
      obtain ⟨w18, hw18, h⟩ := bind_some h
      refine WO.callK 1 (F := 67) (l := [l3 none ((([] : (List Int)) ++ e13) ++ e15)]) (C := []) (r := l24 none w18) (by kernel_rfl) (by kernel_rfl) (ih ((([] : (List Int)) ++ e13) ++ e15) w18 hw18) (e1 := [(0, l3 none a1), (3, l24 (some 10300) v9), (5, .int .i64 x1), (6, l3 none ((([] : (List Int)) ++ e13) ++ e15)), (13, l3 none a1), (14, .int .i64 (a1.length : Int)), (15, .int .i64 (k1 : Int)), (30, l3 none ((([] : (List Int)) ++ e13) ++ e15)), (31, l24 none w18)]) (by kernel_rfl) ?_
      refine WO.pureK 0 (some (.int .i64 ((List.map (encL 3 1 (AV.int .i64)) w18).length : Int))) (v := .int .i64 (w18.length : Int)) (by kernel_rfl) (by rw [List.length_map]) (e1 := [(0, l3 none a1), (3, l24 (some 10300) v9), (5, .int .i64 x1), (6, l3 none ((([] : (List Int)) ++ e13) ++ e15)), (13, l3 none a1), (14, .int .i64 (a1.length : Int)), (15, .int .i64 (k1 : Int)), (30, l3 none ((([] : (List Int)) ++ e13) ++ e15)), (31, l24 none w18), (32, .int .i64 (w18.length : Int))]) (by kernel_rfl) ?_
      refine WO.fin [0, 3, 5, 13, 14, 15, 31, 32, 33] [] [] [] (e2 := [(0, l3 none a1), (3, l24 (some 10300) v9), (5, .int .i64 x1), (13, l3 none a1), (14, .int .i64 (a1.length : Int)), (15, .int .i64 (k1 : Int)), (31, l24 none w18), (32, .int .i64 (w18.length : Int)), (33, .int .i64 0)]) (by kernel_rfl) (fun _ h => h) ?_
      refine W.block ?_
      obtain ⟨hl2, h⟩ := chk_some h
      refine W.weak [0, 3, 5, 13, 14, 15, 31, 32, 33] [] [] [] (env' := [(0, l3 none a1), (3, l24 (some 10300) v9), (5, .int .i64 x1), (13, l3 none a1), (14, .int .i64 (a1.length : Int)), (15, .int .i64 (k1 : Int)), (31, l24 none w18), (32, .int .i64 (w18.length : Int)), (33, .int .i64 ((0 : Nat) : Int))]) (by kernel_rfl) ?_
      refine W.range (σ := ((List (List Int)))) w18 (fun k2 s => [(0, l3 none a1), (3, l24 (some 10300) s), (5, .int .i64 x1), (13, l3 none a1), (14, .int .i64 (a1.length : Int)), (15, .int .i64 (k1 : Int)), (31, l24 none w18), (32, .int .i64 (w18.length : Int)), (33, .int .i64 (k2 : Int))]) (fun r0 k0 s => rf5_perms_l2 x1 (rf5_perms_j10 (rf5_perms_l1 a1 (rf5_perms fuel) (rf5_perms_j7) r1 (k1 + 1))) r0 k0 s = some r) (fun s h => ?_) (fun x2 r2 k2 s hx2 hk2 h hN2 => ?_) v9 h
      · obtain ⟨v19, rfl⟩ : ∃ x, x = s := ⟨s, rfl⟩
        have h : rf5_perms_l2 x1 (rf5_perms_j10 (rf5_perms_l1 a1 (rf5_perms fuel) (rf5_perms_j7) r1 (k1 + 1))) [] (w18).length v19 = some r := h
        rw [rf5_perms_l2.eq_1] at h
        refine W.seq ?_
        refine W.region (by kernel_rfl) ?_
        refine WO.pureK 0 (some (.bool (decide (((w18).length : Int) < (w18.length : Int))))) (v := .bool false) (by kernel_rfl) (by rw [lt_false (l := w18)]) (e1 := [(0, l3 none a1), (3, l24 (some 10300) v19), (5, .int .i64 x1), (13, l3 none a1), (14, .int .i64 (a1.length : Int)), (15, .int .i64 (k1 : Int)), (31, l24 none w18), (32, .int .i64 (w18.length : Int)), (33, .int .i64 ((w18).length : Int)), (34, .bool false)]) (by kernel_rfl) ?_
        refine WO.fin ([0, 3, 5, 13, 14, 15, 31, 32, 33, 34]) [] [] [] (e2 := [(0, l3 none a1), (3, l24 (some 10300) v19), (5, .int .i64 x1), (13, l3 none a1), (14, .int .i64 (a1.length : Int)), (15, .int .i64 (k1 : Int)), (31, l24 none w18), (32, .int .i64 (w18.length : Int)), (33, .int .i64 ((w18).length : Int)), (34, .bool false)]) (by kernel_rfl) (fun _ h => h) ?_
        refine W.seq ?_
        refine W.condB false (by kernel_rfl) (fun h => Bool.noConfusion h) (fun _ => ?_)
        refine W.exit ?_
        refine W.weak [0, 3, 13, 14, 15] [] [] [] (env' := [(0, l3 none a1), (3, l24 (some 10300) v19), (13, l3 none a1), (14, .int .i64 (a1.length : Int)), (15, .int .i64 (k1 : Int))]) (by kernel_rfl) ?_
        exact hK10 v19 h
      · obtain ⟨v19, rfl⟩ : ∃ x, x = s := ⟨s, rfl⟩
        have h : rf5_perms_l2 x1 (rf5_perms_j10 (rf5_perms_l1 a1 (rf5_perms fuel) (rf5_perms_j7) r1 (k1 + 1))) (x2 :: r2) k2 v19 = some r := h
        rw [rf5_perms_l2.eq_2] at h
        refine W.seq ?_
        refine W.region (by kernel_rfl) ?_
        refine WO.pureK 0 (some (.bool (decide ((k2 : Int) < (w18.length : Int))))) (v := .bool true) (by kernel_rfl) (by rw [lt_true hk2]) (e1 := [(0, l3 none a1), (3, l24 (some 10300) v19), (5, .int .i64 x1), (13, l3 none a1), (14, .int .i64 (a1.length : Int)), (15, .int .i64 (k1 : Int)), (31, l24 none w18), (32, .int .i64 (w18.length : Int)), (33, .int .i64 (k2 : Int)), (34, .bool true)]) (by kernel_rfl) ?_
        refine WO.fin ([0, 3, 5, 13, 14, 15, 31, 32, 33, 34]) [] [] [] (e2 := [(0, l3 none a1), (3, l24 (some 10300) v19), (5, .int .i64 x1), (13, l3 none a1), (14, .int .i64 (a1.length : Int)), (15, .int .i64 (k1 : Int)), (31, l24 none w18), (32, .int .i64 (w18.length : Int)), (33, .int .i64 (k2 : Int)), (34, .bool true)]) (by kernel_rfl) (fun _ h => h) ?_
        refine W.seq ?_
        refine W.condB true (by kernel_rfl) (fun _ => ?_) (fun h => Bool.noConfusion h)
        refine W.skip ?_
        refine W.weak [0, 3, 5, 13, 14, 15, 31, 32, 33] [] [] [] (env' := [(0, l3 none a1), (3, l24 (some 10300) v19), (5, .int .i64 x1), (13, l3 none a1), (14, .int .i64 (a1.length : Int)), (15, .int .i64 (k1 : Int)), (31, l24 none w18), (32, .int .i64 (w18.length : Int)), (33, .int .i64 (k2 : Int))]) (by kernel_rfl) ?_
        refine W.seq ?_
        refine W.block ?_
        refine W.seq ?_
        refine W.region (by kernel_rfl) ?_
        refine WO.pureK 0 (if (0 : Int) ≤ (k2 : Int) then ((List.map (encL 3 1 (AV.int .i64)) w18)[Int.toNat (k2 : Int)]?).map AV.ptr else none) (v := .ptr (l3 none x2)) (by kernel_rfl) (idx_nat (f := (encL 3 1 (AV.int .i64))) hx2) (e1 := [(0, l3 none a1), (3, l24 (some 10300) v19), (5, .int .i64 x1), (13, l3 none a1), (14, .int .i64 (a1.length : Int)), (15, .int .i64 (k1 : Int)), (31, l24 none w18), (32, .int .i64 (w18.length : Int)), (33, .int .i64 (k2 : Int)), (35, .ptr (l3 none x2))]) (by kernel_rfl) ?_
        refine WO.fin [0, 3, 5, 8, 13, 14, 15, 31, 32, 33] [] [] [] (e2 := [(0, l3 none a1), (3, l24 (some 10300) v19), (5, .int .i64 x1), (8, l3 none x2), (13, l3 none a1), (14, .int .i64 (a1.length : Int)), (15, .int .i64 (k1 : Int)), (31, l24 none w18), (32, .int .i64 (w18.length : Int)), (33, .int .i64 (k2 : Int))]) (by kernel_rfl) (fun _ h => h) ?_
        refine W.region (by kernel_rfl) ?_
        obtain ⟨hc22, h⟩ := chk_some h
        refine WO.appendK 4 (d := 41) (e := 3) (s := 1) (bytes := 8) (xs := (List.map (AV.int .i64) [x1])) (ys := (List.map (AV.int .i64) x2)) (zs := (List.map (AV.int .i64) ([x1] ++ x2))) (env1 := [(0, l3 none a1), (3, l24 (some 10300) v19), (5, .int .i64 x1), (8, l3 none x2), (13, l3 none a1), (14, .int .i64 (a1.length : Int)), (15, .int .i64 (k1 : Int)), (31, l24 none w18), (32, .int .i64 (w18.length : Int)), (33, .int .i64 (k2 : Int)), (37, l24 (some 10300) v19), (38, .int .i64 x1), (39, l3 none [x1]), (40, l3 none x2)]) (by kernel_rfl) (List.map_append.symm) (by rw [List.length_map]; exact hc22) (e1 := [(0, l3 none a1), (3, l24 (some 10300) v19), (5, .int .i64 x1), (8, l3 none x2), (13, l3 none a1), (14, .int .i64 (a1.length : Int)), (15, .int .i64 (k1 : Int)), (31, l24 none w18), (32, .int .i64 (w18.length : Int)), (33, .int .i64 (k2 : Int)), (37, l24 (some 10300) v19), (38, .int .i64 x1), (39, l3 none [x1]), (40, l3 none x2), (41, l3 (some 41) ([x1] ++ x2))]) (by kernel_rfl) ?_
        obtain ⟨hc23, h⟩ := chk_some h
        refine WO.appendK 1 (d := 43) (e := 24) (s := 1) (bytes := 24) (xs := (List.map (encL 3 1 (AV.int .i64)) v19)) (ys := (List.map (encL 3 1 (AV.int .i64)) [([x1] ++ x2)])) (zs := (List.map (encL 3 1 (AV.int .i64)) (v19 ++ [([x1] ++ x2)]))) (env1 := [(0, l3 none a1), (3, l24 none v19), (5, .int .i64 x1), (8, l3 none x2), (13, l3 none a1), (14, .int .i64 (a1.length : Int)), (15, .int .i64 (k1 : Int)), (31, l24 none w18), (32, .int .i64 (w18.length : Int)), (33, .int .i64 (k2 : Int)), (37, l24 none v19), (38, .int .i64 x1), (39, l3 none [x1]), (40, l3 none x2), (41, l3 (some 41) ([x1] ++ x2)), (42, l24 (some 42) [([x1] ++ x2)])]) (by kernel_rfl) (List.map_append.symm) (by rw [List.length_map]; exact hc23) (e1 := [(0, l3 none a1), (3, l24 none v19), (5, .int .i64 x1), (8, l3 none x2), (13, l3 none a1), (14, .int .i64 (a1.length : Int)), (15, .int .i64 (k1 : Int)), (31, l24 none w18), (32, .int .i64 (w18.length : Int)), (33, .int .i64 (k2 : Int)), (37, l24 none v19), (38, .int .i64 x1), (39, l3 none [x1]), (40, l3 none x2), (41, l3 (some 41) ([x1] ++ x2)), (42, l24 (some 42) [([x1] ++ x2)]), (43, l24 (some 43) (v19 ++ [([x1] ++ x2)]))]) (by kernel_rfl) ?_
        refine WO.fin [0, 3, 5, 13, 14, 15, 31, 32, 33] [] [] [] (e2 := [(0, l3 none a1), (3, l24 (some 43) (v19 ++ [([x1] ++ x2)])), (5, .int .i64 x1), (13, l3 none a1), (14, .int .i64 (a1.length : Int)), (15, .int .i64 (k1 : Int)), (31, l24 none w18), (32, .int .i64 (w18.length : Int)), (33, .int .i64 (k2 : Int))]) (by kernel_rfl) (fun _ h => h) ?_
        refine W.region (by kernel_rfl) ?_
        refine WO.pureK 0 (some (.int .i64 (IntKind.wrap .i64 ((k2 : Int) + 1)))) (v := .int .i64 ((k2 + 1 : Nat) : Int)) (by kernel_rfl) (by rw [wrap_succ hl2 hk2]) (e1 := [(0, l3 none a1), (3, l24 (some 43) (v19 ++ [([x1] ++ x2)])), (5, .int .i64 x1), (13, l3 none a1), (14, .int .i64 (a1.length : Int)), (15, .int .i64 (k1 : Int)), (31, l24 none w18), (32, .int .i64 (w18.length : Int)), (33, .int .i64 (k2 : Int)), (44, .int .i64 ((k2 + 1 : Nat) : Int))]) (by kernel_rfl) ?_
        refine WO.fin [0, 3, 5, 13, 14, 15, 31, 32, 33] [] [] [(43, some 10300)] (e2 := [(0, l3 none a1), (3, l24 (some 10300) (v19 ++ [([x1] ++ x2)])), (5, .int .i64 x1), (13, l3 none a1), (14, .int .i64 (a1.length : Int)), (15, .int .i64 (k1 : Int)), (31, l24 none w18), (32, .int .i64 (w18.length : Int)), (33, .int .i64 ((k2 + 1 : Nat) : Int))]) (by kernel_rfl) (fun _ h => h) ?_
        exact hN2 (v19 ++ [([x1] ++ x2)]) h
def rf5_agrees_j5 : Option Bool :=
  (some true)
def rf5_agrees_j7 (N1 : (Option Bool)) : Option Bool :=
  N1
def rf5_agrees_l2 (x1 : Int) (a2 : (List Bool)) (K7 : (Option Bool)) : List Int → Nat → Option Bool
  | [], k2 => K7
  | x2 :: r2, k2 => (chk (decide ((0 : Int) ≤ x1 ∧ x1 < ((7 : Nat) : Int) ∧ 0 < 7)) (chk (decide ((0 : Int) ≤ x2 ∧ x2 < ((7 : Nat) : Int) ∧ 0 < 1)) ((a2[((0 + Int.toNat x1 * 7) + Int.toNat x2 * 1)]?).bind fun e16 => (bif e16 then (some false) else (rf5_agrees_l2 x1 a2 K7 r2 (k2 + 1))))))
def rf5_agrees_l1 (a1 : (List Int)) (a2 : (List Bool)) (K5 : (Option Bool)) : List Int → Nat → Option Bool
  | [], k1 => K5
  | x1 :: r1, k1 => ((sub a1 0 (k1 : Int)).bind fun e10 => (chk (lenOk e10) (rf5_agrees_l2 x1 a2 (rf5_agrees_j7 (rf5_agrees_l1 a1 a2 K5 r1 (k1 + 1))) e10 0)))
def rf5_agrees (a1 : (List Int)) (a2 : (List Bool)) : Option Bool :=
  (chk (!a2.isEmpty) (chk (lenOk a1) (rf5_agrees_l1 a1 a2 (rf5_agrees_j5) a1 0)))
theorem run_rf5_agrees (a1 : (List Int)) (a2 : (List Bool)) (r : Bool) (h : rf5_agrees a1 a2 = some r) : Run Try.prog (.call 76 [l3 none a1, .agg (List.map AV.bool a2)] (.bool r)) := by
  refine call_of_W Try.func76 rfl (by kernel_rfl) (env0 := [(0, l3 none a1), (1, .agg (List.map AV.bool a2))]) (by kernel_rfl) ?_
  unfold rf5_agrees at h
  refine W.seq ?_
  refine W.region (by kernel_rfl) ?_
  obtain ⟨hc4, h⟩ := chk_some h
  refine WO.boxA (enc := AV.bool) (l := a2) (d := 3) 0 flat_bool hc4 (e1 := [(0, l3 none a1), (1, .agg (List.map AV.bool a2)), (3, .pb 1000003 0), (1000003, .hob 3 [] (List.map AV.bool a2))]) ?_
  refine WO.fin [0, 3, 1000003] [] [] [] (e2 := [(0, l3 none a1), (3, .pb 1000003 0), (1000003, .hob 3 [] (List.map AV.bool a2))]) (by kernel_rfl) (fun _ h => h) ?_
  refine W.seq ?_
  refine W.join (σ := Unit) (fun s => []) (fun s => (rf5_agrees_j5) = some r) (fun s h => ?_) (fun hK5 => ?_)
  · have h : (rf5_agrees_j5) = some r := h
    unfold rf5_agrees_j5 at h
    refine W.seq ?_
    refine W.regT [4] [] [] [] (e2 := [(4, .bool true)]) (by kernel_rfl) (by kernel_rfl) (fun _ h => h) ?_
    refine W.weak [4] [] [] [] (env' := [(4, .bool true)]) (by kernel_rfl) ?_
    have hr : aresults Try.prog Try.f76 [(4, .bool true)] = some (.bool true) := by kernel_rfl
    cases h
    exact W.ret hr
  refine W.seq ?_
  refine W.region (by kernel_rfl) ?_
  refine WO.pureK 1 (some (.int .i64 ((List.map (AV.int .i64) a1).length : Int))) (v := .int .i64 (a1.length : Int)) (by kernel_rfl) (by rw [List.length_map]) (e1 := [(0, l3 none a1), (3, .pb 1000003 0), (9, l3 none a1), (10, .int .i64 (a1.length : Int)), (1000003, .hob 3 [] (List.map AV.bool a2))]) (by kernel_rfl) ?_
  refine WO.fin [0, 3, 9, 10, 11, 1000003] [] [] [] (e2 := [(0, l3 none a1), (3, .pb 1000003 0), (9, l3 none a1), (10, .int .i64 (a1.length : Int)), (11, .int .i64 0), (1000003, .hob 3 [] (List.map AV.bool a2))]) (by kernel_rfl) (fun _ h => h) ?_
  refine W.block ?_
  obtain ⟨hl1, h⟩ := chk_some h
  refine W.weak [0, 3, 9, 10, 11, 1000003] [] [] [] (env' := [(0, l3 none a1), (3, .pb 1000003 0), (9, l3 none a1), (10, .int .i64 (a1.length : Int)), (11, .int .i64 ((0 : Nat) : Int)), (1000003, .hob 3 [] (List.map AV.bool a2))]) (by kernel_rfl) ?_
  refine W.range (σ := Unit) a1 (fun k1 s => [(0, l3 none a1), (3, .pb 1000003 0), (9, l3 none a1), (10, .int .i64 (a1.length : Int)), (11, .int .i64 (k1 : Int)), (1000003, .hob 3 [] (List.map AV.bool a2))]) (fun r0 k0 s => rf5_agrees_l1 a1 a2 (rf5_agrees_j5) r0 k0 = some r) (fun s h => ?_) (fun x1 r1 k1 s hx1 hk1 h hN1 => ?_) () h
  · have h : rf5_agrees_l1 a1 a2 (rf5_agrees_j5) [] (a1).length = some r := h
    rw [rf5_agrees_l1.eq_1] at h
    refine W.seq ?_
    refine W.region (by kernel_rfl) ?_
    refine WO.pureK 0 (some (.bool (decide (((a1).length : Int) < (a1.length : Int))))) (v := .bool false) (by kernel_rfl) (by rw [lt_false (l := a1)]) (e1 := [(0, l3 none a1), (3, .pb 1000003 0), (9, l3 none a1), (10, .int .i64 (a1.length : Int)), (11, .int .i64 ((a1).length : Int)), (12, .bool false), (1000003, .hob 3 [] (List.map AV.bool a2))]) (by kernel_rfl) ?_
    refine WO.fin ([0, 3, 9, 10, 11, 12, 1000003]) [] [] [] (e2 := [(0, l3 none a1), (3, .pb 1000003 0), (9, l3 none a1), (10, .int .i64 (a1.length : Int)), (11, .int .i64 ((a1).length : Int)), (12, .bool false), (1000003, .hob 3 [] (List.map AV.bool a2))]) (by kernel_rfl) (fun _ h => h) ?_
    refine W.seq ?_
    refine W.condB false (by kernel_rfl) (fun h => Bool.noConfusion h) (fun _ => ?_)
    refine W.exit ?_
    refine W.weak [] [] [] [] (env' := []) (by kernel_rfl) ?_
    exact hK5 () h
  · have h : rf5_agrees_l1 a1 a2 (rf5_agrees_j5) (x1 :: r1) k1 = some r := h
    rw [rf5_agrees_l1.eq_2] at h
    refine W.seq ?_
    refine W.region (by kernel_rfl) ?_
    refine WO.pureK 0 (some (.bool (decide ((k1 : Int) < (a1.length : Int))))) (v := .bool true) (by kernel_rfl) (by rw [lt_true hk1]) (e1 := [(0, l3 none a1), (3, .pb 1000003 0), (9, l3 none a1), (10, .int .i64 (a1.length : Int)), (11, .int .i64 (k1 : Int)), (12, .bool true), (1000003, .hob 3 [] (List.map AV.bool a2))]) (by kernel_rfl) ?_
    refine WO.fin ([0, 3, 9, 10, 11, 12, 1000003]) [] [] [] (e2 := [(0, l3 none a1), (3, .pb 1000003 0), (9, l3 none a1), (10, .int .i64 (a1.length : Int)), (11, .int .i64 (k1 : Int)), (12, .bool true), (1000003, .hob 3 [] (List.map AV.bool a2))]) (by kernel_rfl) (fun _ h => h) ?_
    refine W.seq ?_
    refine W.condB true (by kernel_rfl) (fun _ => ?_) (fun h => Bool.noConfusion h)
    refine W.skip ?_
    refine W.weak [0, 3, 9, 10, 11, 1000003] [] [] [] (env' := [(0, l3 none a1), (3, .pb 1000003 0), (9, l3 none a1), (10, .int .i64 (a1.length : Int)), (11, .int .i64 (k1 : Int)), (1000003, .hob 3 [] (List.map AV.bool a2))]) (by kernel_rfl) ?_
    refine W.seq ?_
    refine W.join (σ := Unit) (fun s => [(0, l3 none a1), (3, .pb 1000003 0), (9, l3 none a1), (10, .int .i64 (a1.length : Int)), (11, .int .i64 (k1 : Int)), (1000003, .hob 3 [] (List.map AV.bool a2))]) (fun s => (rf5_agrees_j7 (rf5_agrees_l1 a1 a2 (rf5_agrees_j5) r1 (k1 + 1))) = some r) (fun s h => ?_) (fun hK7 => ?_)
    · have h : (rf5_agrees_j7 (rf5_agrees_l1 a1 a2 (rf5_agrees_j5) r1 (k1 + 1))) = some r := h
      unfold rf5_agrees_j7 at h
      refine W.region (by kernel_rfl) ?_
      refine WO.pureK 0 (some (.int .i64 (IntKind.wrap .i64 ((k1 : Int) + 1)))) (v := .int .i64 ((k1 + 1 : Nat) : Int)) (by kernel_rfl) (by rw [wrap_succ hl1 hk1]) (e1 := [(0, l3 none a1), (3, .pb 1000003 0), (9, l3 none a1), (10, .int .i64 (a1.length : Int)), (11, .int .i64 (k1 : Int)), (30, .int .i64 ((k1 + 1 : Nat) : Int)), (1000003, .hob 3 [] (List.map AV.bool a2))]) (by kernel_rfl) ?_
      refine WO.fin [0, 3, 9, 10, 11, 1000003] [] [] [] (e2 := [(0, l3 none a1), (3, .pb 1000003 0), (9, l3 none a1), (10, .int .i64 (a1.length : Int)), (11, .int .i64 ((k1 + 1 : Nat) : Int)), (1000003, .hob 3 [] (List.map AV.bool a2))]) (by kernel_rfl) (fun _ h => h) ?_
      exact hN1 () h
    refine W.block ?_
    refine W.seq ?_
    refine W.region (by kernel_rfl) ?_
    refine WO.pureK 1 (if (0 : Int) ≤ (k1 : Int) then ((List.map (AV.int .i64) a1)[Int.toNat (k1 : Int)]?).map AV.ptr else none) (v := .ptr (.int .i64 x1)) (by kernel_rfl) (idx_nat (f := (AV.int .i64)) hx1) (e1 := [(0, l3 none a1), (3, .pb 1000003 0), (9, l3 none a1), (10, .int .i64 (a1.length : Int)), (11, .int .i64 (k1 : Int)), (13, .int .i64 (k1 : Int)), (14, .ptr (.int .i64 x1)), (1000003, .hob 3 [] (List.map AV.bool a2))]) (by kernel_rfl) ?_
    refine WO.fin [0, 3, 5, 6, 9, 10, 11, 1000003] [] [] [] (e2 := [(0, l3 none a1), (3, .pb 1000003 0), (5, .int .i64 (k1 : Int)), (6, .int .i64 x1), (9, l3 none a1), (10, .int .i64 (a1.length : Int)), (11, .int .i64 (k1 : Int)), (1000003, .hob 3 [] (List.map AV.bool a2))]) (by kernel_rfl) (fun _ h => h) ?_
    refine W.seq ?_
    refine W.region (by kernel_rfl) ?_
    obtain ⟨e10, he10, h⟩ := bind_some h
    refine WO.pureK 2 (if (0 : Int) ≤ 0 ∧ 0 ≤ (k1 : Int) ∧ (k1 : Int) ≤ ((List.map (AV.int .i64) a1).length : Int) then some (.lst 3 1 none (((List.map (AV.int .i64) a1).take (Int.toNat (k1 : Int))).drop (Int.toNat 0))) else none) (v := l3 none e10) (by kernel_rfl) (sub_av he10) (e1 := [(0, l3 none a1), (3, .pb 1000003 0), (5, .int .i64 (k1 : Int)), (6, .int .i64 x1), (9, l3 none a1), (10, .int .i64 (a1.length : Int)), (11, .int .i64 (k1 : Int)), (16, l3 none a1), (17, .int .i64 (k1 : Int)), (18, l3 none e10), (1000003, .hob 3 [] (List.map AV.bool a2))]) (by kernel_rfl) ?_
    refine WO.pureK 0 (some (.int .i64 ((List.map (AV.int .i64) e10).length : Int))) (v := .int .i64 (e10.length : Int)) (by kernel_rfl) (by rw [List.length_map]) (e1 := [(0, l3 none a1), (3, .pb 1000003 0), (5, .int .i64 (k1 : Int)), (6, .int .i64 x1), (9, l3 none a1), (10, .int .i64 (a1.length : Int)), (11, .int .i64 (k1 : Int)), (16, l3 none a1), (17, .int .i64 (k1 : Int)), (18, l3 none e10), (19, .int .i64 (e10.length : Int)), (1000003, .hob 3 [] (List.map AV.bool a2))]) (by kernel_rfl) ?_
    refine WO.fin [0, 3, 6, 9, 10, 11, 18, 19, 20, 1000003] [] [] [] (e2 := [(0, l3 none a1), (3, .pb 1000003 0), (6, .int .i64 x1), (9, l3 none a1), (10, .int .i64 (a1.length : Int)), (11, .int .i64 (k1 : Int)), (18, l3 none e10), (19, .int .i64 (e10.length : Int)), (20, .int .i64 0), (1000003, .hob 3 [] (List.map AV.bool a2))]) (by kernel_rfl) (fun _ h => h) ?_
    refine W.block ?_
    obtain ⟨hl2, h⟩ := chk_some h
    refine W.weak [0, 3, 6, 9, 10, 11, 18, 19, 20, 1000003] [] [] [] (env' := [(0, l3 none a1), (3, .pb 1000003 0), (6, .int .i64 x1), (9, l3 none a1), (10, .int .i64 (a1.length : Int)), (11, .int .i64 (k1 : Int)), (18, l3 none e10), (19, .int .i64 (e10.length : Int)), (20, .int .i64 ((0 : Nat) : Int)), (1000003, .hob 3 [] (List.map AV.bool a2))]) (by kernel_rfl) ?_
    refine W.range (σ := Unit) e10 (fun k2 s => [(0, l3 none a1), (3, .pb 1000003 0), (6, .int .i64 x1), (9, l3 none a1), (10, .int .i64 (a1.length : Int)), (11, .int .i64 (k1 : Int)), (18, l3 none e10), (19, .int .i64 (e10.length : Int)), (20, .int .i64 (k2 : Int)), (1000003, .hob 3 [] (List.map AV.bool a2))]) (fun r0 k0 s => rf5_agrees_l2 x1 a2 (rf5_agrees_j7 (rf5_agrees_l1 a1 a2 (rf5_agrees_j5) r1 (k1 + 1))) r0 k0 = some r) (fun s h => ?_) (fun x2 r2 k2 s hx2 hk2 h hN2 => ?_) () h
    · have h : rf5_agrees_l2 x1 a2 (rf5_agrees_j7 (rf5_agrees_l1 a1 a2 (rf5_agrees_j5) r1 (k1 + 1))) [] (e10).length = some r := h
      rw [rf5_agrees_l2.eq_1] at h
      refine W.seq ?_
      refine W.region (by kernel_rfl) ?_
      refine WO.pureK 0 (some (.bool (decide (((e10).length : Int) < (e10.length : Int))))) (v := .bool false) (by kernel_rfl) (by rw [lt_false (l := e10)]) (e1 := [(0, l3 none a1), (3, .pb 1000003 0), (6, .int .i64 x1), (9, l3 none a1), (10, .int .i64 (a1.length : Int)), (11, .int .i64 (k1 : Int)), (18, l3 none e10), (19, .int .i64 (e10.length : Int)), (20, .int .i64 ((e10).length : Int)), (21, .bool false), (1000003, .hob 3 [] (List.map AV.bool a2))]) (by kernel_rfl) ?_
      refine WO.fin ([0, 3, 6, 9, 10, 11, 18, 19, 20, 21, 1000003]) [] [] [] (e2 := [(0, l3 none a1), (3, .pb 1000003 0), (6, .int .i64 x1), (9, l3 none a1), (10, .int .i64 (a1.length : Int)), (11, .int .i64 (k1 : Int)), (18, l3 none e10), (19, .int .i64 (e10.length : Int)), (20, .int .i64 ((e10).length : Int)), (21, .bool false), (1000003, .hob 3 [] (List.map AV.bool a2))]) (by kernel_rfl) (fun _ h => h) ?_
      refine W.seq ?_
      refine W.condB false (by kernel_rfl) (fun h => Bool.noConfusion h) (fun _ => ?_)
      refine W.exit ?_
      refine W.weak [0, 3, 9, 10, 11, 1000003] [] [] [] (env' := [(0, l3 none a1), (3, .pb 1000003 0), (9, l3 none a1), (10, .int .i64 (a1.length : Int)), (11, .int .i64 (k1 : Int)), (1000003, .hob 3 [] (List.map AV.bool a2))]) (by kernel_rfl) ?_
      exact hK7 () h
    · have h : rf5_agrees_l2 x1 a2 (rf5_agrees_j7 (rf5_agrees_l1 a1 a2 (rf5_agrees_j5) r1 (k1 + 1))) (x2 :: r2) k2 = some r := h
      rw [rf5_agrees_l2.eq_2] at h
      refine W.seq ?_
      refine W.region (by kernel_rfl) ?_
      refine WO.pureK 0 (some (.bool (decide ((k2 : Int) < (e10.length : Int))))) (v := .bool true) (by kernel_rfl) (by rw [lt_true hk2]) (e1 := [(0, l3 none a1), (3, .pb 1000003 0), (6, .int .i64 x1), (9, l3 none a1), (10, .int .i64 (a1.length : Int)), (11, .int .i64 (k1 : Int)), (18, l3 none e10), (19, .int .i64 (e10.length : Int)), (20, .int .i64 (k2 : Int)), (21, .bool true), (1000003, .hob 3 [] (List.map AV.bool a2))]) (by kernel_rfl) ?_
      refine WO.fin ([0, 3, 6, 9, 10, 11, 18, 19, 20, 21, 1000003]) [] [] [] (e2 := [(0, l3 none a1), (3, .pb 1000003 0), (6, .int .i64 x1), (9, l3 none a1), (10, .int .i64 (a1.length : Int)), (11, .int .i64 (k1 : Int)), (18, l3 none e10), (19, .int .i64 (e10.length : Int)), (20, .int .i64 (k2 : Int)), (21, .bool true), (1000003, .hob 3 [] (List.map AV.bool a2))]) (by kernel_rfl) (fun _ h => h) ?_
      refine W.seq ?_
      refine W.condB true (by kernel_rfl) (fun _ => ?_) (fun h => Bool.noConfusion h)
      refine W.skip ?_
      refine W.weak [0, 3, 6, 9, 10, 11, 18, 19, 20, 1000003] [] [] [] (env' := [(0, l3 none a1), (3, .pb 1000003 0), (6, .int .i64 x1), (9, l3 none a1), (10, .int .i64 (a1.length : Int)), (11, .int .i64 (k1 : Int)), (18, l3 none e10), (19, .int .i64 (e10.length : Int)), (20, .int .i64 (k2 : Int)), (1000003, .hob 3 [] (List.map AV.bool a2))]) (by kernel_rfl) ?_
      refine W.seq ?_
      refine W.block ?_
      refine W.seq ?_
      refine W.region (by kernel_rfl) ?_
      refine WO.pureK 0 (if (0 : Int) ≤ (k2 : Int) then ((List.map (AV.int .i64) e10)[Int.toNat (k2 : Int)]?).map AV.ptr else none) (v := .ptr (.int .i64 x2)) (by kernel_rfl) (idx_nat (f := (AV.int .i64)) hx2) (e1 := [(0, l3 none a1), (3, .pb 1000003 0), (6, .int .i64 x1), (9, l3 none a1), (10, .int .i64 (a1.length : Int)), (11, .int .i64 (k1 : Int)), (18, l3 none e10), (19, .int .i64 (e10.length : Int)), (20, .int .i64 (k2 : Int)), (22, .ptr (.int .i64 x2)), (1000003, .hob 3 [] (List.map AV.bool a2))]) (by kernel_rfl) ?_
      refine WO.fin [0, 3, 6, 8, 9, 10, 11, 18, 19, 20, 1000003] [] [] [] (e2 := [(0, l3 none a1), (3, .pb 1000003 0), (6, .int .i64 x1), (8, .int .i64 x2), (9, l3 none a1), (10, .int .i64 (a1.length : Int)), (11, .int .i64 (k1 : Int)), (18, l3 none e10), (19, .int .i64 (e10.length : Int)), (20, .int .i64 (k2 : Int)), (1000003, .hob 3 [] (List.map AV.bool a2))]) (by kernel_rfl) (fun _ h => h) ?_
      refine W.seq ?_
      refine W.region (by kernel_rfl) ?_
      obtain ⟨hc14, h⟩ := chk_some h
      refine WO.pureK 2 (if (0 : Int) ≤ x1 ∧ x1 < ((7 : Nat) : Int) ∧ 0 < 7 then some (AV.pb 1000003 (0 + Int.toNat x1 * 7)) else none) (v := .pb 1000003 (0 + Int.toNat x1 * 7)) (by kernel_rfl) (ite_some hc14) (e1 := [(0, l3 none a1), (3, .pb 1000003 0), (6, .int .i64 x1), (8, .int .i64 x2), (9, l3 none a1), (10, .int .i64 (a1.length : Int)), (11, .int .i64 (k1 : Int)), (18, l3 none e10), (19, .int .i64 (e10.length : Int)), (20, .int .i64 (k2 : Int)), (24, .int .i64 x1), (25, .int .i64 x2), (26, .pb 1000003 (0 + Int.toNat x1 * 7)), (1000003, .hob 3 [] (List.map AV.bool a2))]) (by kernel_rfl) ?_
      obtain ⟨hc15, h⟩ := chk_some h
      refine WO.pureK 0 (if (0 : Int) ≤ x2 ∧ x2 < ((7 : Nat) : Int) ∧ 0 < 1 then some (AV.pb 1000003 ((0 + Int.toNat x1 * 7) + Int.toNat x2 * 1)) else none) (v := .pb 1000003 ((0 + Int.toNat x1 * 7) + Int.toNat x2 * 1)) (by kernel_rfl) (ite_some hc15) (e1 := [(0, l3 none a1), (3, .pb 1000003 0), (6, .int .i64 x1), (8, .int .i64 x2), (9, l3 none a1), (10, .int .i64 (a1.length : Int)), (11, .int .i64 (k1 : Int)), (18, l3 none e10), (19, .int .i64 (e10.length : Int)), (20, .int .i64 (k2 : Int)), (24, .int .i64 x1), (25, .int .i64 x2), (26, .pb 1000003 (0 + Int.toNat x1 * 7)), (27, .pb 1000003 ((0 + Int.toNat x1 * 7) + Int.toNat x2 * 1)), (1000003, .hob 3 [] (List.map AV.bool a2))]) (by kernel_rfl) ?_
      obtain ⟨e16, he16, h⟩ := bind_some h
      refine WO.pureK 0 (cut Try.prog 4 (List.map AV.bool a2) ((0 + Int.toNat x1 * 7) + Int.toNat x2 * 1)) (v := .bool e16) (by kernel_rfl) (cut_at flat_bool (by kernel_rfl) he16) (e1 := [(0, l3 none a1), (3, .pb 1000003 0), (6, .int .i64 x1), (8, .int .i64 x2), (9, l3 none a1), (10, .int .i64 (a1.length : Int)), (11, .int .i64 (k1 : Int)), (18, l3 none e10), (19, .int .i64 (e10.length : Int)), (20, .int .i64 (k2 : Int)), (24, .int .i64 x1), (25, .int .i64 x2), (26, .pb 1000003 (0 + Int.toNat x1 * 7)), (27, .pb 1000003 ((0 + Int.toNat x1 * 7) + Int.toNat x2 * 1)), (28, .bool e16), (1000003, .hob 3 [] (List.map AV.bool a2))]) (by kernel_rfl) ?_
      refine WO.fin [0, 3, 6, 9, 10, 11, 18, 19, 20, 28, 1000003] [] [] [] (e2 := [(0, l3 none a1), (3, .pb 1000003 0), (6, .int .i64 x1), (9, l3 none a1), (10, .int .i64 (a1.length : Int)), (11, .int .i64 (k1 : Int)), (18, l3 none e10), (19, .int .i64 (e10.length : Int)), (20, .int .i64 (k2 : Int)), (28, .bool e16), (1000003, .hob 3 [] (List.map AV.bool a2))]) (by kernel_rfl) (fun _ h => h) ?_
      refine W.condB e16 (by kernel_rfl) (fun hb => ?_) (fun hb => ?_)
      · replace h := cond_t hb h
        refine W.seq ?_
        refine W.regT [4] [] [] [] (e2 := [(4, .bool false)]) (by kernel_rfl) (by kernel_rfl) (fun _ h => h) ?_
        refine W.weak [4] [] [] [] (env' := [(4, .bool false)]) (by kernel_rfl) ?_
        have hr : aresults Try.prog Try.f76 [(4, .bool false)] = some (.bool false) := by kernel_rfl
        cases h
        exact W.ret hr
      replace h := cond_f hb h
      refine W.skip ?_
      refine W.weak [0, 3, 6, 9, 10, 11, 18, 19, 20, 1000003] [] [] [] (env' := [(0, l3 none a1), (3, .pb 1000003 0), (6, .int .i64 x1), (9, l3 none a1), (10, .int .i64 (a1.length : Int)), (11, .int .i64 (k1 : Int)), (18, l3 none e10), (19, .int .i64 (e10.length : Int)), (20, .int .i64 (k2 : Int)), (1000003, .hob 3 [] (List.map AV.bool a2))]) (by kernel_rfl) ?_
      refine W.region (by kernel_rfl) ?_
      refine WO.pureK 0 (some (.int .i64 (IntKind.wrap .i64 ((k2 : Int) + 1)))) (v := .int .i64 ((k2 + 1 : Nat) : Int)) (by kernel_rfl) (by rw [wrap_succ hl2 hk2]) (e1 := [(0, l3 none a1), (3, .pb 1000003 0), (6, .int .i64 x1), (9, l3 none a1), (10, .int .i64 (a1.length : Int)), (11, .int .i64 (k1 : Int)), (18, l3 none e10), (19, .int .i64 (e10.length : Int)), (20, .int .i64 (k2 : Int)), (29, .int .i64 ((k2 + 1 : Nat) : Int)), (1000003, .hob 3 [] (List.map AV.bool a2))]) (by kernel_rfl) ?_
      refine WO.fin [0, 3, 6, 9, 10, 11, 18, 19, 20, 1000003] [] [] [] (e2 := [(0, l3 none a1), (3, .pb 1000003 0), (6, .int .i64 x1), (9, l3 none a1), (10, .int .i64 (a1.length : Int)), (11, .int .i64 (k1 : Int)), (18, l3 none e10), (19, .int .i64 (e10.length : Int)), (20, .int .i64 ((k2 + 1 : Nat) : Int)), (1000003, .hob 3 [] (List.map AV.bool a2))]) (by kernel_rfl) (fun _ h => h) ?_
      exact hN2 () h
def rf5_first_j5 : Option ((List Int) × Bool) :=
  (some (([] : (List Int)), false))
def rf5_first_l1 (a2 : (List Bool)) (K5 : (Option ((List Int) × Bool))) : List (List Int) → Nat → Option ((List Int) × Bool)
  | [], k1 => K5
  | x1 :: r1, k1 => (chk (decide (a2.length = 49)) ((rf5_agrees x1 a2).bind fun w12 => (bif w12 then (some (x1, true)) else (rf5_first_l1 a2 K5 r1 (k1 + 1)))))
def rf5_first (fuel : Nat) (a1 : (List Int)) (a2 : (List Bool)) : Option ((List Int) × Bool) :=
  (chk (!a2.isEmpty) ((rf5_perms fuel a1).bind fun w7 => (chk (lenOk w7) (rf5_first_l1 a2 (rf5_first_j5) w7 0))))
theorem run_rf5_first (fuel : Nat) (a1 : (List Int)) (a2 : (List Bool)) (r : ((List Int) × Bool)) (h : rf5_first fuel a1 a2 = some r) : Run Try.prog (.call 56 [l3 none a1, .agg (List.map AV.bool a2)] (.tup [l3 none r.1, .bool r.2])) := by
  refine call_of_W Try.func56 rfl (by kernel_rfl) (env0 := [(0, l3 none a1), (1, .agg (List.map AV.bool a2))]) (by kernel_rfl) ?_
  unfold rf5_first at h
  refine W.seq ?_
  refine W.region (by kernel_rfl) ?_
  obtain ⟨hc4, h⟩ := chk_some h
  refine WO.boxA (enc := AV.bool) (l := a2) (d := 3) 0 flat_bool hc4 (e1 := [(0, l3 none a1), (1, .agg (List.map AV.bool a2)), (3, .pb 1000003 0), (1000003, .hob 3 [] (List.map AV.bool a2))]) ?_
  refine WO.fin [0, 3, 1000003] [] [] [] (e2 := [(0, l3 none a1), (3, .pb 1000003 0), (1000003, .hob 3 [] (List.map AV.bool a2))]) (by kernel_rfl) (fun _ h => h) ?_
  refine W.seq ?_
  refine W.join (σ := Unit) (fun s => []) (fun s => (rf5_first_j5) = some r) (fun s h => ?_) (fun hK5 => ?_)
  · have h : (rf5_first_j5) = some r := h
    unfold rf5_first_j5 at h
    refine W.seq ?_
    refine W.regT [4, 5] [] [] [] (e2 := [(4, .nils), (5, .bool false)]) (by kernel_rfl) (by kernel_rfl) (fun _ h => h) ?_
    refine W.weak [4, 5] [] [(4, 0, 3, 1, 70004)] [] (env' := [(4, l3 (some 70004) ([] : (List Int))), (5, .bool false)]) (by kernel_rfl) ?_
    have hr : aresults Try.prog Try.f56 [(4, l3 (some 70004) ([] : (List Int))), (5, .bool false)] = some (.tup [l3 none ([] : (List Int)), .bool false]) := by kernel_rfl
    cases h
    exact W.ret hr
  refine W.seq ?_
  refine W.region (by kernel_rfl) ?_
  obtain ⟨w7, hw7, h⟩ := bind_some h
  refine WO.callK 1 (F := 67) (l := [l3 none a1]) (C := []) (r := l24 none w7) (by kernel_rfl) (by kernel_rfl) (run_rf5_perms fuel a1 w7 hw7) (e1 := [(0, l3 none a1), (3, .pb 1000003 0), (8, l3 none a1), (9, l24 none w7), (1000003, .hob 3 [] (List.map AV.bool a2))]) (by kernel_rfl) ?_
  refine WO.pureK 0 (some (.int .i64 ((List.map (encL 3 1 (AV.int .i64)) w7).length : Int))) (v := .int .i64 (w7.length : Int)) (by kernel_rfl) (by rw [List.length_map]) (e1 := [(0, l3 none a1), (3, .pb 1000003 0), (8, l3 none a1), (9, l24 none w7), (10, .int .i64 (w7.length : Int)), (1000003, .hob 3 [] (List.map AV.bool a2))]) (by kernel_rfl) ?_
  refine WO.fin [3, 9, 10, 11, 1000003] [] [] [] (e2 := [(3, .pb 1000003 0), (9, l24 none w7), (10, .int .i64 (w7.length : Int)), (11, .int .i64 0), (1000003, .hob 3 [] (List.map AV.bool a2))]) (by kernel_rfl) (fun _ h => h) ?_
  refine W.block ?_
  obtain ⟨hl1, h⟩ := chk_some h
  refine W.weak [3, 9, 10, 11, 1000003] [] [] [] (env' := [(3, .pb 1000003 0), (9, l24 none w7), (10, .int .i64 (w7.length : Int)), (11, .int .i64 ((0 : Nat) : Int)), (1000003, .hob 3 [] (List.map AV.bool a2))]) (by kernel_rfl) ?_
  refine W.range (σ := Unit) w7 (fun k1 s => [(3, .pb 1000003 0), (9, l24 none w7), (10, .int .i64 (w7.length : Int)), (11, .int .i64 (k1 : Int)), (1000003, .hob 3 [] (List.map AV.bool a2))]) (fun r0 k0 s => rf5_first_l1 a2 (rf5_first_j5) r0 k0 = some r) (fun s h => ?_) (fun x1 r1 k1 s hx1 hk1 h hN1 => ?_) () h
  · have h : rf5_first_l1 a2 (rf5_first_j5) [] (w7).length = some r := h
    rw [rf5_first_l1.eq_1] at h
    refine W.seq ?_
    refine W.region (by kernel_rfl) ?_
    refine WO.pureK 0 (some (.bool (decide (((w7).length : Int) < (w7.length : Int))))) (v := .bool false) (by kernel_rfl) (by rw [lt_false (l := w7)]) (e1 := [(3, .pb 1000003 0), (9, l24 none w7), (10, .int .i64 (w7.length : Int)), (11, .int .i64 ((w7).length : Int)), (12, .bool false), (1000003, .hob 3 [] (List.map AV.bool a2))]) (by kernel_rfl) ?_
    refine WO.fin ([3, 9, 10, 11, 12, 1000003]) [] [] [] (e2 := [(3, .pb 1000003 0), (9, l24 none w7), (10, .int .i64 (w7.length : Int)), (11, .int .i64 ((w7).length : Int)), (12, .bool false), (1000003, .hob 3 [] (List.map AV.bool a2))]) (by kernel_rfl) (fun _ h => h) ?_
    refine W.seq ?_
    refine W.condB false (by kernel_rfl) (fun h => Bool.noConfusion h) (fun _ => ?_)
    refine W.exit ?_
    refine W.weak [] [] [] [] (env' := []) (by kernel_rfl) ?_
    exact hK5 () h
  · have h : rf5_first_l1 a2 (rf5_first_j5) (x1 :: r1) k1 = some r := h
    rw [rf5_first_l1.eq_2] at h
    refine W.seq ?_
    refine W.region (by kernel_rfl) ?_
    refine WO.pureK 0 (some (.bool (decide ((k1 : Int) < (w7.length : Int))))) (v := .bool true) (by kernel_rfl) (by rw [lt_true hk1]) (e1 := [(3, .pb 1000003 0), (9, l24 none w7), (10, .int .i64 (w7.length : Int)), (11, .int .i64 (k1 : Int)), (12, .bool true), (1000003, .hob 3 [] (List.map AV.bool a2))]) (by kernel_rfl) ?_
    refine WO.fin ([3, 9, 10, 11, 12, 1000003]) [] [] [] (e2 := [(3, .pb 1000003 0), (9, l24 none w7), (10, .int .i64 (w7.length : Int)), (11, .int .i64 (k1 : Int)), (12, .bool true), (1000003, .hob 3 [] (List.map AV.bool a2))]) (by kernel_rfl) (fun _ h => h) ?_
    refine W.seq ?_
    refine W.condB true (by kernel_rfl) (fun _ => ?_) (fun h => Bool.noConfusion h)
    refine W.skip ?_
    refine W.weak [3, 9, 10, 11, 1000003] [] [] [] (env' := [(3, .pb 1000003 0), (9, l24 none w7), (10, .int .i64 (w7.length : Int)), (11, .int .i64 (k1 : Int)), (1000003, .hob 3 [] (List.map AV.bool a2))]) (by kernel_rfl) ?_
    refine W.seq ?_
    refine W.block ?_
    refine W.seq ?_
    refine W.region (by kernel_rfl) ?_
    refine WO.pureK 0 (if (0 : Int) ≤ (k1 : Int) then ((List.map (encL 3 1 (AV.int .i64)) w7)[Int.toNat (k1 : Int)]?).map AV.ptr else none) (v := .ptr (l3 none x1)) (by kernel_rfl) (idx_nat (f := (encL 3 1 (AV.int .i64))) hx1) (e1 := [(3, .pb 1000003 0), (9, l24 none w7), (10, .int .i64 (w7.length : Int)), (11, .int .i64 (k1 : Int)), (13, .ptr (l3 none x1)), (1000003, .hob 3 [] (List.map AV.bool a2))]) (by kernel_rfl) ?_
    refine WO.fin [3, 7, 9, 10, 11, 1000003] [] [] [] (e2 := [(3, .pb 1000003 0), (7, l3 none x1), (9, l24 none w7), (10, .int .i64 (w7.length : Int)), (11, .int .i64 (k1 : Int)), (1000003, .hob 3 [] (List.map AV.bool a2))]) (by kernel_rfl) (fun _ h => h) ?_
    refine W.seq ?_
    refine W.region (by kernel_rfl) ?_
    obtain ⟨hc11, h⟩ := chk_some h
    refine WO.pureK 1 (cut Try.prog 79 (List.map AV.bool a2) 0) (v := .agg (List.map AV.bool a2)) (by kernel_rfl) (cut_whole flat_bool (sz := 49) (by kernel_rfl) (of_decide_eq_true hc11)) (e1 := [(3, .pb 1000003 0), (7, l3 none x1), (9, l24 none w7), (10, .int .i64 (w7.length : Int)), (11, .int .i64 (k1 : Int)), (15, l3 none x1), (16, .agg (List.map AV.bool a2)), (1000003, .hob 3 [] (List.map AV.bool a2))]) (by kernel_rfl) ?_
    obtain ⟨w12, hw12, h⟩ := bind_some h
    refine WO.callK 0 (F := 76) (l := [l3 none x1, .agg (List.map AV.bool a2)]) (C := []) (r := .bool w12) (by kernel_rfl) (by kernel_rfl) (run_rf5_agrees x1 a2 w12 hw12) (e1 := [(3, .pb 1000003 0), (7, l3 none x1), (9, l24 none w7), (10, .int .i64 (w7.length : Int)), (11, .int .i64 (k1 : Int)), (15, l3 none x1), (16, .agg (List.map AV.bool a2)), (17, .bool w12), (1000003, .hob 3 [] (List.map AV.bool a2))]) (by kernel_rfl) ?_
    refine WO.fin [3, 7, 9, 10, 11, 17, 1000003] [] [] [] (e2 := [(3, .pb 1000003 0), (7, l3 none x1), (9, l24 none w7), (10, .int .i64 (w7.length : Int)), (11, .int .i64 (k1 : Int)), (17, .bool w12), (1000003, .hob 3 [] (List.map AV.bool a2))]) (by kernel_rfl) (fun _ h => h) ?_
    refine W.condB w12 (by kernel_rfl) (fun hb => ?_) (fun hb => ?_)
    · replace h := cond_t hb h
      refine W.seq ?_
      refine W.regT [4, 5] [] [] [] (e2 := [(4, l3 none x1), (5, .bool true)]) (by kernel_rfl) (by kernel_rfl) (fun _ h => h) ?_
      refine W.weak [4, 5] [] [] [] (env' := [(4, l3 none x1), (5, .bool true)]) (by kernel_rfl) ?_
      have hr : aresults Try.prog Try.f56 [(4, l3 none x1), (5, .bool true)] = some (.tup [l3 none x1, .bool true]) := by kernel_rfl
      cases h
      exact W.ret hr
    replace h := cond_f hb h
    refine W.skip ?_
    refine W.weak [3, 9, 10, 11, 1000003] [] [] [] (env' := [(3, .pb 1000003 0), (9, l24 none w7), (10, .int .i64 (w7.length : Int)), (11, .int .i64 (k1 : Int)), (1000003, .hob 3 [] (List.map AV.bool a2))]) (by kernel_rfl) ?_
    refine W.region (by kernel_rfl) ?_
    refine WO.pureK 0 (some (.int .i64 (IntKind.wrap .i64 ((k1 : Int) + 1)))) (v := .int .i64 ((k1 + 1 : Nat) : Int)) (by kernel_rfl) (by rw [wrap_succ hl1 hk1]) (e1 := [(3, .pb 1000003 0), (9, l24 none w7), (10, .int .i64 (w7.length : Int)), (11, .int .i64 (k1 : Int)), (19, .int .i64 ((k1 + 1 : Nat) : Int)), (1000003, .hob 3 [] (List.map AV.bool a2))]) (by kernel_rfl) ?_
    refine WO.fin [3, 9, 10, 11, 1000003] [] [] [] (e2 := [(3, .pb 1000003 0), (9, l24 none w7), (10, .int .i64 (w7.length : Int)), (11, .int .i64 ((k1 + 1 : Nat) : Int)), (1000003, .hob 3 [] (List.map AV.bool a2))]) (by kernel_rfl) (fun _ h => h) ?_
    exact hN1 () h
def rf5_Order (fuel : Nat) (a1 : (List rf5Op)) : Option ((List Int) × Int) :=
  ((rf5_committed fuel a1).bind fun w4 => ((rf5_conflicts a1).bind fun w5 => ((rf5_first fuel w4 w5).bind fun w6 => (bif (!w6.2) then (some (([] : (List Int)), 8)) else (some (w6.1, 0))))))
theorem run_rf5_Order (fuel : Nat) (a1 : (List rf5Op)) (r : ((List Int) × Int)) (h : rf5_Order fuel a1 = some r) : Run Try.prog (.call 22 [l43 none a1] (.tup [l3 none r.1, .int .i64 r.2])) := by
  refine call_of_W Try.func22 rfl (by kernel_rfl) (env0 := [(0, l43 none a1)]) (by kernel_rfl) ?_
  unfold rf5_Order at h
  refine W.seq ?_
  refine W.regT [0] [] [] [] (e2 := [(0, l43 none a1)]) (by kernel_rfl) (by kernel_rfl) (fun _ h => h) ?_
  refine W.seq ?_
  refine W.region (by kernel_rfl) ?_
  obtain ⟨w4, hw4, h⟩ := bind_some h
  refine WO.callK 1 (F := 57) (l := [l43 none a1]) (C := []) (r := l3 (some 1) w4) (by kernel_rfl) (by kernel_rfl) (run_rf5_committed fuel a1 w4 hw4) (e1 := [(0, l43 none a1), (7, l43 none a1), (8, l3 (some 8) w4)]) (by kernel_rfl) ?_
  obtain ⟨w5, hw5, h⟩ := bind_some h
  refine WO.callK 1 (F := 58) (l := [l43 none a1]) (C := []) (r := .agg (List.map AV.bool w5)) (by kernel_rfl) (by kernel_rfl) (run_rf5_conflicts a1 w5 hw5) (e1 := [(0, l43 none a1), (7, l43 none a1), (8, l3 (some 8) w4), (9, l43 none a1), (10, .agg (List.map AV.bool w5))]) (by kernel_rfl) ?_
  obtain ⟨w6, hw6, h⟩ := bind_some h
  refine WO.callK 0 (F := 56) (l := [l3 none w4, .agg (List.map AV.bool w5)]) (C := []) (r := .tup [l3 none w6.1, .bool w6.2]) (by kernel_rfl) (by kernel_rfl) (run_rf5_first fuel w4 w5 w6 hw6) (e1 := [(0, l43 none a1), (7, l43 none a1), (8, l3 (some 8) w4), (9, l43 none a1), (10, .agg (List.map AV.bool w5)), (11, .tup [l3 none w6.1, .bool w6.2])]) (by kernel_rfl) ?_
  refine WO.fin [4, 5] [] [] [] (e2 := [(4, l3 none w6.1), (5, .bool w6.2)]) (by kernel_rfl) (fun _ h => h) ?_
  refine W.seq ?_
  refine W.seq ?_
  refine W.regT [4, 15] [] [] [] (e2 := [(4, l3 none w6.1), (15, .bool (!w6.2))]) (by kernel_rfl) (by kernel_rfl) (fun _ h => h) ?_
  refine W.condB (!w6.2) (by kernel_rfl) (fun hb => ?_) (fun hb => ?_)
  · replace h := cond_t hb h
    refine W.seq ?_
    refine W.regT [2, 3] [] [] [] (e2 := [(2, .nils), (3, .int .i64 8)]) (by kernel_rfl) (by kernel_rfl) (fun _ h => h) ?_
    refine W.weak [2, 3] [] [(2, 0, 3, 1, 70002)] [] (env' := [(2, l3 (some 70002) ([] : (List Int))), (3, .int .i64 8)]) (by kernel_rfl) ?_
    have hr : aresults Try.prog Try.f22 [(2, l3 (some 70002) ([] : (List Int))), (3, .int .i64 8)] = some (.tup [l3 none ([] : (List Int)), .int .i64 8]) := by kernel_rfl
    cases h
    exact W.ret hr
  replace h := cond_f hb h
  refine W.skip ?_
  refine W.weak [4] [] [] [] (env' := [(4, l3 none w6.1)]) (by kernel_rfl) ?_
  refine W.seq ?_
  refine W.regT [2, 3] [] [] [] (e2 := [(2, l3 none w6.1), (3, .int .i64 0)]) (by kernel_rfl) (by kernel_rfl) (fun _ h => h) ?_
  refine W.weak [2, 3] [] [] [] (env' := [(2, l3 none w6.1), (3, .int .i64 0)]) (by kernel_rfl) ?_
  have hr : aresults Try.prog Try.f22 [(2, l3 none w6.1), (3, .int .i64 0)] = some (.tup [l3 none w6.1, .int .i64 0]) := by kernel_rfl
  cases h
  exact W.ret hr
def rf5_some_j8 (v26 : (List (List Int))) : Option (List (List Int)) :=
  (some v26)
def rf5_some_j11 (N1 : ((List (List Int)) → Option (List (List Int)))) (v25 : (List (List Int))) : Option (List (List Int)) :=
  (N1 v25)
def rf5_some_l2 (x1 : Int) (K11 : ((List (List Int)) → Option (List (List Int)))) : List (List Int) → Nat → (List (List Int)) → Option (List (List Int))
  | [], k2, v20 => (K11 v20)
  | x2 :: r2, k2, v20 => (chk (capOk 8 (([x1] ++ x2)).length) (chk (capOk 24 ((v20 ++ [([x1] ++ x2)])).length) ((rf5_some_l2 x1 K11 r2 (k2 + 1)) (v20 ++ [([x1] ++ x2)]))))
def rf5_some_l1 (a1 : (List Int)) (a2 : Int) (K0 : ((List Int) → Int → Option (List (List Int)))) (K8 : ((List (List Int)) → Option (List (List Int)))) : List Int → Nat → (List (List Int)) → Option (List (List Int))
  | [], k1, v10 => (K8 v10)
  | x1 :: r1, k1, v10 => ((sub a1 0 (k1 : Int)).bind fun e14 => (chk (capOk 8 ((([] : (List Int)) ++ e14)).length) ((sub a1 ((k1 + 1 : Nat) : Int) (a1.length : Int)).bind fun e16 => (chk (capOk 8 (((([] : (List Int)) ++ e14) ++ e16)).length) ((K0 ((([] : (List Int)) ++ e14) ++ e16) (IntKind.wrap .i64 (a2 - 1))).bind fun w19 => (chk (lenOk w19) (rf5_some_l2 x1 (rf5_some_j11 (rf5_some_l1 a1 a2 K0 K8 r1 (k1 + 1))) w19 0 v10)))))))
def rf5_some : Nat → (List Int) → Int → Option (List (List Int))
  | 0, _, _ => none
  | fuel + 1, a1, a2 => (bif (a2 == 0) then (some [([] : (List Int))]) else (chk (lenOk a1) (rf5_some_l1 a1 a2 (rf5_some fuel) (rf5_some_j8) a1 0 ([] : (List (List Int))))))
theorem run_rf5_some : ∀ (fuel : Nat) (a1 : (List Int)) (a2 : Int) (r : (List (List Int))) (h : rf5_some fuel a1 a2 = some r), Run Try.prog (.call 59 [l3 none a1, .int .i64 a2] (l24 none r)) := by
  intro fuel
  induction fuel with
  | zero => intro a1 a2 r h; cases h
  | succ fuel ih =>
    intro a1 a2 r h
    refine call_of_W Try.func59 rfl (by kernel_rfl) (env0 := [(0, l3 none a1), (1, .int .i64 a2)]) (by kernel_rfl) ?_
    rw [rf5_some.eq_2] at h
    refine W.seq ?_
    refine W.regT [0, 1] [] [] [] (e2 := [(0, l3 none a1), (1, .int .i64 a2)]) (by kernel_rfl) (by kernel_rfl) (fun _ h => h) ?_
    refine W.seq ?_
    refine W.seq ?_
    refine W.regT [0, 1, 12] [] [] [] (e2 := [(0, l3 none a1), (1, .int .i64 a2), (12, .bool (a2 == 0))]) (by kernel_rfl) (by kernel_rfl) (fun _ h => h) ?_
    refine W.condB (a2 == 0) (by kernel_rfl) (fun hb => ?_) (fun hb => ?_)
    · replace h := cond_t hb h
      refine W.seq ?_
      refine W.regT [4] [] [] [] (e2 := [(4, l24 (some 13) [([] : (List Int))])]) (by kernel_rfl) (by kernel_rfl) (fun _ h => h) ?_
      refine W.weak [4] [] [] [(13, none)] (env' := [(4, l24 none [([] : (List Int))])]) (by kernel_rfl) ?_
      have hr : aresults Try.prog Try.f59 [(4, l24 none [([] : (List Int))])] = some (l24 none [([] : (List Int))]) := by kernel_rfl
      cases h
      exact W.ret hr
    replace h := cond_f hb h
    refine W.skip ?_
    refine W.weak [0, 1] [] [] [] (env' := [(0, l3 none a1), (1, .int .i64 a2)]) (by kernel_rfl) ?_
    refine W.seq ?_
    refine W.regT [0, 1, 5] [] [] [] (e2 := [(0, l3 none a1), (1, .int .i64 a2), (5, .nils)]) (by kernel_rfl) (by kernel_rfl) (fun _ h => h) ?_
    refine W.seq ?_
    refine W.join (σ := ((List (List Int)))) (fun s => [(5, l24 (some 10500) s)]) (fun s => (rf5_some_j8) s = some r) (fun s h => ?_) (fun hK8 => ?_)
    · obtain ⟨v26, rfl⟩ : ∃ x, x = s := ⟨s, rfl⟩
      have h : (rf5_some_j8) v26 = some r := h
      unfold rf5_some_j8 at h
      refine W.seq ?_
      refine W.regT [4] [] [] [] (e2 := [(4, l24 (some 10500) v26)]) (by kernel_rfl) (by kernel_rfl) (fun _ h => h) ?_
      refine W.weak [4] [] [] [(10500, none)] (env' := [(4, l24 none v26)]) (by kernel_rfl) ?_
      have hr : aresults Try.prog Try.f59 [(4, l24 none v26)] = some (l24 none v26) := by kernel_rfl
      cases h
      exact W.ret hr
    refine W.seq ?_
    refine W.region (by kernel_rfl) ?_
    refine WO.pureK 1 (some (.int .i64 ((List.map (AV.int .i64) a1).length : Int))) (v := .int .i64 (a1.length : Int)) (by kernel_rfl) (by rw [List.length_map]) (e1 := [(0, l3 none a1), (1, .int .i64 a2), (5, .nils), (14, l3 none a1), (15, .int .i64 (a1.length : Int))]) (by kernel_rfl) ?_
    refine WO.fin [0, 1, 5, 14, 15, 16] [] [] [] (e2 := [(0, l3 none a1), (1, .int .i64 a2), (5, .nils), (14, l3 none a1), (15, .int .i64 (a1.length : Int)), (16, .int .i64 0)]) (by kernel_rfl) (fun _ h => h) ?_
    refine W.block ?_
    obtain ⟨hl1, h⟩ := chk_some h
    refine W.weak [0, 1, 5, 14, 15, 16] [] [(5, 0, 24, 1, 10500)] [] (env' := [(0, l3 none a1), (1, .int .i64 a2), (5, l24 (some 10500) ([] : (List (List Int)))), (14, l3 none a1), (15, .int .i64 (a1.length : Int)), (16, .int .i64 ((0 : Nat) : Int))]) (by kernel_rfl) ?_
    refine W.range (σ := ((List (List Int)))) a1 (fun k1 s => [(0, l3 none a1), (1, .int .i64 a2), (5, l24 (some 10500) s), (14, l3 none a1), (15, .int .i64 (a1.length : Int)), (16, .int .i64 (k1 : Int))]) (fun r0 k0 s => rf5_some_l1 a1 a2 (rf5_some fuel) (rf5_some_j8) r0 k0 s = some r) (fun s h => ?_) (fun x1 r1 k1 s hx1 hk1 h hN1 => ?_) ([] : (List (List Int))) h
    · obtain ⟨v10, rfl⟩ : ∃ x, x = s := ⟨s, rfl⟩
      have h : rf5_some_l1 a1 a2 (rf5_some fuel) (rf5_some_j8) [] (a1).length v10 = some r := h
      rw [rf5_some_l1.eq_1] at h
      refine W.seq ?_
      refine W.region (by kernel_rfl) ?_
      refine WO.pureK 0 (some (.bool (decide (((a1).length : Int) < (a1.length : Int))))) (v := .bool false) (by kernel_rfl) (by rw [lt_false (l := a1)]) (e1 := [(0, l3 none a1), (1, .int .i64 a2), (5, l24 (some 10500) v10), (14, l3 none a1), (15, .int .i64 (a1.length : Int)), (16, .int .i64 ((a1).length : Int)), (17, .bool false)]) (by kernel_rfl) ?_
      refine WO.fin ([0, 1, 5, 14, 15, 16, 17]) [] [] [] (e2 := [(0, l3 none a1), (1, .int .i64 a2), (5, l24 (some 10500) v10), (14, l3 none a1), (15, .int .i64 (a1.length : Int)), (16, .int .i64 ((a1).length : Int)), (17, .bool false)]) (by kernel_rfl) (fun _ h => h) ?_
      refine W.seq ?_
      refine W.condB false (by kernel_rfl) (fun h => Bool.noConfusion h) (fun _ => ?_)
      refine W.exit ?_
      refine W.weak [5] [] [] [] (env' := [(5, l24 (some 10500) v10)]) (by kernel_rfl) ?_
      exact hK8 v10 h
    · obtain ⟨v10, rfl⟩ : ∃ x, x = s := ⟨s, rfl⟩
      have h : rf5_some_l1 a1 a2 (rf5_some fuel) (rf5_some_j8) (x1 :: r1) k1 v10 = some r := h
      rw [rf5_some_l1.eq_2] at h
      refine W.seq ?_
      refine W.region (by kernel_rfl) ?_
      refine WO.pureK 0 (some (.bool (decide ((k1 : Int) < (a1.length : Int))))) (v := .bool true) (by kernel_rfl) (by rw [lt_true hk1]) (e1 := [(0, l3 none a1), (1, .int .i64 a2), (5, l24 (some 10500) v10), (14, l3 none a1), (15, .int .i64 (a1.length : Int)), (16, .int .i64 (k1 : Int)), (17, .bool true)]) (by kernel_rfl) ?_
      refine WO.fin ([0, 1, 5, 14, 15, 16, 17]) [] [] [] (e2 := [(0, l3 none a1), (1, .int .i64 a2), (5, l24 (some 10500) v10), (14, l3 none a1), (15, .int .i64 (a1.length : Int)), (16, .int .i64 (k1 : Int)), (17, .bool true)]) (by kernel_rfl) (fun _ h => h) ?_
      refine W.seq ?_
      refine W.condB true (by kernel_rfl) (fun _ => ?_) (fun h => Bool.noConfusion h)
      refine W.skip ?_
      refine W.weak [0, 1, 5, 14, 15, 16] [] [] [] (env' := [(0, l3 none a1), (1, .int .i64 a2), (5, l24 (some 10500) v10), (14, l3 none a1), (15, .int .i64 (a1.length : Int)), (16, .int .i64 (k1 : Int))]) (by kernel_rfl) ?_
      refine W.seq ?_
      refine W.join (σ := ((List (List Int)))) (fun s => [(0, l3 none a1), (1, .int .i64 a2), (5, l24 (some 10500) s), (14, l3 none a1), (15, .int .i64 (a1.length : Int)), (16, .int .i64 (k1 : Int))]) (fun s => (rf5_some_j11 (rf5_some_l1 a1 a2 (rf5_some fuel) (rf5_some_j8) r1 (k1 + 1))) s = some r) (fun s h => ?_) (fun hK11 => ?_)
      · obtain ⟨v25, rfl⟩ : ∃ x, x = s := ⟨s, rfl⟩
        have h : (rf5_some_j11 (rf5_some_l1 a1 a2 (rf5_some fuel) (rf5_some_j8) r1 (k1 + 1))) v25 = some r := h
        unfold rf5_some_j11 at h
        refine W.region (by kernel_rfl) ?_
        refine WO.pureK 0 (some (.int .i64 (IntKind.wrap .i64 ((k1 : Int) + 1)))) (v := .int .i64 ((k1 + 1 : Nat) : Int)) (by kernel_rfl) (by rw [wrap_succ hl1 hk1]) (e1 := [(0, l3 none a1), (1, .int .i64 a2), (5, l24 (some 10500) v25), (14, l3 none a1), (15, .int .i64 (a1.length : Int)), (16, .int .i64 (k1 : Int)), (48, .int .i64 ((k1 + 1 : Nat) : Int))]) (by kernel_rfl) ?_
        refine WO.fin [0, 1, 5, 14, 15, 16] [] [] [] (e2 := [(0, l3 none a1), (1, .int .i64 a2), (5, l24 (some 10500) v25), (14, l3 none a1), (15, .int .i64 (a1.length : Int)), (16, .int .i64 ((k1 + 1 : Nat) : Int))]) (by kernel_rfl) (fun _ h => h) ?_
        exact hN1 v25 h
      refine W.block ?_
      refine W.seq ?_
      refine W.region (by kernel_rfl) ?_
      refine WO.pureK 1 (if (0 : Int) ≤ (k1 : Int) then ((List.map (AV.int .i64) a1)[Int.toNat (k1 : Int)]?).map AV.ptr else none) (v := .ptr (.int .i64 x1)) (by kernel_rfl) (idx_nat (f := (AV.int .i64)) hx1) (e1 := [(0, l3 none a1), (1, .int .i64 a2), (5, l24 (some 10500) v10), (14, l3 none a1), (15, .int .i64 (a1.length : Int)), (16, .int .i64 (k1 : Int)), (18, .int .i64 (k1 : Int)), (19, .ptr (.int .i64 x1))]) (by kernel_rfl) ?_
      refine WO.fin [0, 1, 5, 6, 7, 14, 15, 16] [] [] [] (e2 := [(0, l3 none a1), (1, .int .i64 a2), (5, l24 (some 10500) v10), (6, .int .i64 (k1 : Int)), (7, .int .i64 x1), (14, l3 none a1), (15, .int .i64 (a1.length : Int)), (16, .int .i64 (k1 : Int))]) (by kernel_rfl) (fun _ h => h) ?_
      refine W.seq ?_
      refine W.regionB (by kernel_rfl) ?_
      obtain ⟨e14, he14, h⟩ := bind_some h
      refine WB.pureK 3 (if (0 : Int) ≤ 0 ∧ 0 ≤ (k1 : Int) ∧ (k1 : Int) ≤ ((List.map (AV.int .i64) a1).length : Int) then some (.lst 3 1 none (((List.map (AV.int .i64) a1).take (Int.toNat (k1 : Int))).drop (Int.toNat 0))) else none) (v := l3 none e14) (by kernel_rfl) (sub_av he14) (e1 := [(0, l3 none a1), (1, .int .i64 a2), (5, l24 (some 10500) v10), (6, .int .i64 (k1 : Int)), (7, .int .i64 x1), (14, l3 none a1), (15, .int .i64 (a1.length : Int)), (16, .int .i64 (k1 : Int)), (21, l3 (some 21) ([] : (List Int))), (22, l3 none a1), (23, .int .i64 (k1 : Int)), (24, l3 none e14)]) (by kernel_rfl) ?_
      obtain ⟨hc15, h⟩ := chk_some h
      refine WB.appendK 0 (by kernel_rfl) (d := 25) (e := 3) (s := 1) (bytes := 8) (xs := (List.map (AV.int .i64) ([] : (List Int)))) (ys := (List.map (AV.int .i64) e14)) (zs := (List.map (AV.int .i64) (([] : (List Int)) ++ e14))) (env1 := [(0, l3 none a1), (1, .int .i64 a2), (5, l24 (some 10500) v10), (6, .int .i64 (k1 : Int)), (7, .int .i64 x1), (14, l3 none a1), (15, .int .i64 (a1.length : Int)), (16, .int .i64 (k1 : Int)), (21, l3 none ([] : (List Int))), (22, l3 none a1), (23, .int .i64 (k1 : Int)), (24, l3 none e14)]) (by kernel_rfl) (List.map_append.symm) (by rw [List.length_map]; exact hc15) (e1 := [(0, l3 none a1), (1, .int .i64 a2), (5, l24 (some 10500) v10), (6, .int .i64 (k1 : Int)), (7, .int .i64 x1), (14, l3 none a1), (15, .int .i64 (a1.length : Int)), (16, .int .i64 (k1 : Int)), (21, l3 none ([] : (List Int))), (22, l3 none a1), (23, .int .i64 (k1 : Int)), (24, l3 none e14), (25, l3 (some 25) (([] : (List Int)) ++ e14))]) (by kernel_rfl) ?_
      refine WB.pureK 2 (some (.int .i64 (IntKind.wrap .i64 ((k1 : Int) + 1)))) (v := .int .i64 ((k1 + 1 : Nat) : Int)) (by kernel_rfl) (by rw [wrap_succ hl1 hk1]) (e1 := [(0, l3 none a1), (1, .int .i64 a2), (5, l24 (some 10500) v10), (6, .int .i64 (k1 : Int)), (7, .int .i64 x1), (14, l3 none a1), (15, .int .i64 (a1.length : Int)), (16, .int .i64 (k1 : Int)), (21, l3 none ([] : (List Int))), (22, l3 none a1), (23, .int .i64 (k1 : Int)), (24, l3 none e14), (25, l3 (some 25) (([] : (List Int)) ++ e14)), (26, l3 none a1), (27, .int .i64 (k1 : Int)), (28, .int .i64 ((k1 + 1 : Nat) : Int))]) (by kernel_rfl) ?_
      obtain ⟨e16, he16, h⟩ := bind_some h
      refine WB.pureK 0 (if (0 : Int) ≤ ((k1 + 1 : Nat) : Int) ∧ ((k1 + 1 : Nat) : Int) ≤ ((List.map (AV.int .i64) a1).length : Int) ∧ ((List.map (AV.int .i64) a1).length : Int) ≤ ((List.map (AV.int .i64) a1).length : Int) then some (.lst 3 1 none (((List.map (AV.int .i64) a1).take (Int.toNat ((List.map (AV.int .i64) a1).length : Int))).drop (Int.toNat ((k1 + 1 : Nat) : Int)))) else none) (v := l3 none e16) (by kernel_rfl) (sub_av_len he16) (e1 := [(0, l3 none a1), (1, .int .i64 a2), (5, l24 (some 10500) v10), (6, .int .i64 (k1 : Int)), (7, .int .i64 x1), (14, l3 none a1), (15, .int .i64 (a1.length : Int)), (16, .int .i64 (k1 : Int)), (21, l3 none ([] : (List Int))), (22, l3 none a1), (23, .int .i64 (k1 : Int)), (24, l3 none e14), (25, l3 (some 25) (([] : (List Int)) ++ e14)), (26, l3 none a1), (27, .int .i64 (k1 : Int)), (28, .int .i64 ((k1 + 1 : Nat) : Int)), (29, l3 none e16)]) (by kernel_rfl) ?_
      obtain ⟨hc17, h⟩ := chk_some h
      refine WB.appendK 0 (by kernel_rfl) (d := 30) (e := 3) (s := 1) (bytes := 8) (xs := (List.map (AV.int .i64) (([] : (List Int)) ++ e14))) (ys := (List.map (AV.int .i64) e16)) (zs := (List.map (AV.int .i64) ((([] : (List Int)) ++ e14) ++ e16))) (env1 := [(0, l3 none a1), (1, .int .i64 a2), (5, l24 (some 10500) v10), (6, .int .i64 (k1 : Int)), (7, .int .i64 x1), (14, l3 none a1), (15, .int .i64 (a1.length : Int)), (16, .int .i64 (k1 : Int)), (21, l3 none ([] : (List Int))), (22, l3 none a1), (23, .int .i64 (k1 : Int)), (24, l3 none e14), (25, l3 none (([] : (List Int)) ++ e14)), (26, l3 none a1), (27, .int .i64 (k1 : Int)), (28, .int .i64 ((k1 + 1 : Nat) : Int)), (29, l3 none e16)]) (by kernel_rfl) (List.map_append.symm) (by rw [List.length_map]; exact hc17) (e1 := [(0, l3 none a1), (1, .int .i64 a2), (5, l24 (some 10500) v10), (6, .int .i64 (k1 : Int)), (7, .int .i64 x1), (14, l3 none a1), (15, .int .i64 (a1.length : Int)), (16, .int .i64 (k1 : Int)), (21, l3 none ([] : (List Int))), (22, l3 none a1), (23, .int .i64 (k1 : Int)), (24, l3 none e14), (25, l3 none (([] : (List Int)) ++ e14)), (26, l3 none a1), (27, .int .i64 (k1 : Int)), (28, .int .i64 ((k1 + 1 : Nat) : Int)), (29, l3 none e16), (30, l3 (some 30) ((([] : (List Int)) ++ e14) ++ e16))]) (by kernel_rfl) ?_
      refine WB.fin [0, 1, 5, 7, 8, 14, 15, 16] [] [] [] (e2 := [(0, l3 none a1), (1, .int .i64 a2), (5, l24 (some 10500) v10), (7, .int .i64 x1), (8, l3 none ((([] : (List Int)) ++ e14) ++ e16)), (14, l3 none a1), (15, .int .i64 (a1.length : Int)), (16, .int .i64 (k1 : Int))]) (by kernel_rfl) (fun _ h => h) ?_
      refine W.seq ?_
      refine W.region (by kernel_rfl) ?_
      obtain ⟨w19, hw19, h⟩ := bind_some h
      refine WO.callK 3 (F := 59) (l := [l3 none ((([] : (List Int)) ++ e14) ++ e16), .int .i64 (IntKind.wrap .i64 (a2 - 1))]) (C := []) (r := l24 none w19) (by kernel_rfl) (by kernel_rfl) (ih ((([] : (List Int)) ++ e14) ++ e16) (IntKind.wrap .i64 (a2 - 1)) w19 hw19) (e1 := [(0, l3 none a1), (1, .int .i64 a2), (5, l24 (some 10500) v10), (7, .int .i64 x1), (8, l3 none ((([] : (List Int)) ++ e14) ++ e16)), (14, l3 none a1), (15, .int .i64 (a1.length : Int)), (16, .int .i64 (k1 : Int)), (31, l3 none ((([] : (List Int)) ++ e14) ++ e16)), (32, .int .i64 a2), (33, .int .i64 (IntKind.wrap .i64 (a2 - 1))), (34, l24 none w19)]) (by kernel_rfl) ?_
      refine WO.pureK 0 (some (.int .i64 ((List.map (encL 3 1 (AV.int .i64)) w19).length : Int))) (v := .int .i64 (w19.length : Int)) (by kernel_rfl) (by rw [List.length_map]) (e1 := [(0, l3 none a1), (1, .int .i64 a2), (5, l24 (some 10500) v10), (7, .int .i64 x1), (8, l3 none ((([] : (List Int)) ++ e14) ++ e16)), (14, l3 none a1), (15, .int .i64 (a1.length : Int)), (16, .int .i64 (k1 : Int)), (31, l3 none ((([] : (List Int)) ++ e14) ++ e16)), (32, .int .i64 a2), (33, .int .i64 (IntKind.wrap .i64 (a2 - 1))), (34, l24 none w19), (35, .int .i64 (w19.length : Int))]) (by kernel_rfl) ?_
      refine WO.fin [0, 1, 5, 7, 14, 15, 16, 34, 35, 36] [] [] [] (e2 := [(0, l3 none a1), (1, .int .i64 a2), (5, l24 (some 10500) v10), (7, .int .i64 x1), (14, l3 none a1), (15, .int .i64 (a1.length : Int)), (16, .int .i64 (k1 : Int)), (34, l24 none w19), (35, .int .i64 (w19.length : Int)), (36, .int .i64 0)]) (by kernel_rfl) (fun _ h => h) ?_
      refine W.block ?_
      obtain ⟨hl2, h⟩ := chk_some h
      refine W.weak [0, 1, 5, 7, 14, 15, 16, 34, 35, 36] [] [] [] (env' := [(0, l3 none a1), (1, .int .i64 a2), (5, l24 (some 10500) v10), (7, .int .i64 x1), (14, l3 none a1), (15, .int .i64 (a1.length : Int)), (16, .int .i64 (k1 : Int)), (34, l24 none w19), (35, .int .i64 (w19.length : Int)), (36, .int .i64 ((0 : Nat) : Int))]) (by kernel_rfl) ?_
      refine W.range (σ := ((List (List Int)))) w19 (fun k2 s => [(0, l3 none a1), (1, .int .i64 a2), (5, l24 (some 10500) s), (7, .int .i64 x1), (14, l3 none a1), (15, .int .i64 (a1.length : Int)), (16, .int .i64 (k1 : Int)), (34, l24 none w19), (35, .int .i64 (w19.length : Int)), (36, .int .i64 (k2 : Int))]) (fun r0 k0 s => rf5_some_l2 x1 (rf5_some_j11 (rf5_some_l1 a1 a2 (rf5_some fuel) (rf5_some_j8) r1 (k1 + 1))) r0 k0 s = some r) (fun s h => ?_) (fun x2 r2 k2 s hx2 hk2 h hN2 => ?_) v10 h
      · obtain ⟨v20, rfl⟩ : ∃ x, x = s := ⟨s, rfl⟩
        have h : rf5_some_l2 x1 (rf5_some_j11 (rf5_some_l1 a1 a2 (rf5_some fuel) (rf5_some_j8) r1 (k1 + 1))) [] (w19).length v20 = some r := h
        rw [rf5_some_l2.eq_1] at h
        refine W.seq ?_
        refine W.region (by kernel_rfl) ?_
        refine WO.pureK 0 (some (.bool (decide (((w19).length : Int) < (w19.length : Int))))) (v := .bool false) (by kernel_rfl) (by rw [lt_false (l := w19)]) (e1 := [(0, l3 none a1), (1, .int .i64 a2), (5, l24 (some 10500) v20), (7, .int .i64 x1), (14, l3 none a1), (15, .int .i64 (a1.length : Int)), (16, .int .i64 (k1 : Int)), (34, l24 none w19), (35, .int .i64 (w19.length : Int)), (36, .int .i64 ((w19).length : Int)), (37, .bool false)]) (by kernel_rfl) ?_
        refine WO.fin ([0, 1, 5, 7, 14, 15, 16, 34, 35, 36, 37]) [] [] [] (e2 := [(0, l3 none a1), (1, .int .i64 a2), (5, l24 (some 10500) v20), (7, .int .i64 x1), (14, l3 none a1), (15, .int .i64 (a1.length : Int)), (16, .int .i64 (k1 : Int)), (34, l24 none w19), (35, .int .i64 (w19.length : Int)), (36, .int .i64 ((w19).length : Int)), (37, .bool false)]) (by kernel_rfl) (fun _ h => h) ?_
        refine W.seq ?_
        refine W.condB false (by kernel_rfl) (fun h => Bool.noConfusion h) (fun _ => ?_)
        refine W.exit ?_
        refine W.weak [0, 1, 5, 14, 15, 16] [] [] [] (env' := [(0, l3 none a1), (1, .int .i64 a2), (5, l24 (some 10500) v20), (14, l3 none a1), (15, .int .i64 (a1.length : Int)), (16, .int .i64 (k1 : Int))]) (by kernel_rfl) ?_
        exact hK11 v20 h
      · obtain ⟨v20, rfl⟩ : ∃ x, x = s := ⟨s, rfl⟩
        have h : rf5_some_l2 x1 (rf5_some_j11 (rf5_some_l1 a1 a2 (rf5_some fuel) (rf5_some_j8) r1 (k1 + 1))) (x2 :: r2) k2 v20 = some r := h
        rw [rf5_some_l2.eq_2] at h
        refine W.seq ?_
        refine W.region (by kernel_rfl) ?_
        refine WO.pureK 0 (some (.bool (decide ((k2 : Int) < (w19.length : Int))))) (v := .bool true) (by kernel_rfl) (by rw [lt_true hk2]) (e1 := [(0, l3 none a1), (1, .int .i64 a2), (5, l24 (some 10500) v20), (7, .int .i64 x1), (14, l3 none a1), (15, .int .i64 (a1.length : Int)), (16, .int .i64 (k1 : Int)), (34, l24 none w19), (35, .int .i64 (w19.length : Int)), (36, .int .i64 (k2 : Int)), (37, .bool true)]) (by kernel_rfl) ?_
        refine WO.fin ([0, 1, 5, 7, 14, 15, 16, 34, 35, 36, 37]) [] [] [] (e2 := [(0, l3 none a1), (1, .int .i64 a2), (5, l24 (some 10500) v20), (7, .int .i64 x1), (14, l3 none a1), (15, .int .i64 (a1.length : Int)), (16, .int .i64 (k1 : Int)), (34, l24 none w19), (35, .int .i64 (w19.length : Int)), (36, .int .i64 (k2 : Int)), (37, .bool true)]) (by kernel_rfl) (fun _ h => h) ?_
        refine W.seq ?_
        refine W.condB true (by kernel_rfl) (fun _ => ?_) (fun h => Bool.noConfusion h)
        refine W.skip ?_
        refine W.weak [0, 1, 5, 7, 14, 15, 16, 34, 35, 36] [] [] [] (env' := [(0, l3 none a1), (1, .int .i64 a2), (5, l24 (some 10500) v20), (7, .int .i64 x1), (14, l3 none a1), (15, .int .i64 (a1.length : Int)), (16, .int .i64 (k1 : Int)), (34, l24 none w19), (35, .int .i64 (w19.length : Int)), (36, .int .i64 (k2 : Int))]) (by kernel_rfl) ?_
        refine W.seq ?_
        refine W.block ?_
        refine W.seq ?_
        refine W.region (by kernel_rfl) ?_
        refine WO.pureK 0 (if (0 : Int) ≤ (k2 : Int) then ((List.map (encL 3 1 (AV.int .i64)) w19)[Int.toNat (k2 : Int)]?).map AV.ptr else none) (v := .ptr (l3 none x2)) (by kernel_rfl) (idx_nat (f := (encL 3 1 (AV.int .i64))) hx2) (e1 := [(0, l3 none a1), (1, .int .i64 a2), (5, l24 (some 10500) v20), (7, .int .i64 x1), (14, l3 none a1), (15, .int .i64 (a1.length : Int)), (16, .int .i64 (k1 : Int)), (34, l24 none w19), (35, .int .i64 (w19.length : Int)), (36, .int .i64 (k2 : Int)), (38, .ptr (l3 none x2))]) (by kernel_rfl) ?_
        refine WO.fin [0, 1, 5, 7, 10, 14, 15, 16, 34, 35, 36] [] [] [] (e2 := [(0, l3 none a1), (1, .int .i64 a2), (5, l24 (some 10500) v20), (7, .int .i64 x1), (10, l3 none x2), (14, l3 none a1), (15, .int .i64 (a1.length : Int)), (16, .int .i64 (k1 : Int)), (34, l24 none w19), (35, .int .i64 (w19.length : Int)), (36, .int .i64 (k2 : Int))]) (by kernel_rfl) (fun _ h => h) ?_
        refine W.region (by kernel_rfl) ?_
        obtain ⟨hc23, h⟩ := chk_some h
        refine WO.appendK 4 (d := 44) (e := 3) (s := 1) (bytes := 8) (xs := (List.map (AV.int .i64) [x1])) (ys := (List.map (AV.int .i64) x2)) (zs := (List.map (AV.int .i64) ([x1] ++ x2))) (env1 := [(0, l3 none a1), (1, .int .i64 a2), (5, l24 (some 10500) v20), (7, .int .i64 x1), (10, l3 none x2), (14, l3 none a1), (15, .int .i64 (a1.length : Int)), (16, .int .i64 (k1 : Int)), (34, l24 none w19), (35, .int .i64 (w19.length : Int)), (36, .int .i64 (k2 : Int)), (40, l24 (some 10500) v20), (41, .int .i64 x1), (42, l3 none [x1]), (43, l3 none x2)]) (by kernel_rfl) (List.map_append.symm) (by rw [List.length_map]; exact hc23) (e1 := [(0, l3 none a1), (1, .int .i64 a2), (5, l24 (some 10500) v20), (7, .int .i64 x1), (10, l3 none x2), (14, l3 none a1), (15, .int .i64 (a1.length : Int)), (16, .int .i64 (k1 : Int)), (34, l24 none w19), (35, .int .i64 (w19.length : Int)), (36, .int .i64 (k2 : Int)), (40, l24 (some 10500) v20), (41, .int .i64 x1), (42, l3 none [x1]), (43, l3 none x2), (44, l3 (some 44) ([x1] ++ x2))]) (by kernel_rfl) ?_
        obtain ⟨hc24, h⟩ := chk_some h
        refine WO.appendK 1 (d := 46) (e := 24) (s := 1) (bytes := 24) (xs := (List.map (encL 3 1 (AV.int .i64)) v20)) (ys := (List.map (encL 3 1 (AV.int .i64)) [([x1] ++ x2)])) (zs := (List.map (encL 3 1 (AV.int .i64)) (v20 ++ [([x1] ++ x2)]))) (env1 := [(0, l3 none a1), (1, .int .i64 a2), (5, l24 none v20), (7, .int .i64 x1), (10, l3 none x2), (14, l3 none a1), (15, .int .i64 (a1.length : Int)), (16, .int .i64 (k1 : Int)), (34, l24 none w19), (35, .int .i64 (w19.length : Int)), (36, .int .i64 (k2 : Int)), (40, l24 none v20), (41, .int .i64 x1), (42, l3 none [x1]), (43, l3 none x2), (44, l3 (some 44) ([x1] ++ x2)), (45, l24 (some 45) [([x1] ++ x2)])]) (by kernel_rfl) (List.map_append.symm) (by rw [List.length_map]; exact hc24) (e1 := [(0, l3 none a1), (1, .int .i64 a2), (5, l24 none v20), (7, .int .i64 x1), (10, l3 none x2), (14, l3 none a1), (15, .int .i64 (a1.length : Int)), (16, .int .i64 (k1 : Int)), (34, l24 none w19), (35, .int .i64 (w19.length : Int)), (36, .int .i64 (k2 : Int)), (40, l24 none v20), (41, .int .i64 x1), (42, l3 none [x1]), (43, l3 none x2), (44, l3 (some 44) ([x1] ++ x2)), (45, l24 (some 45) [([x1] ++ x2)]), (46, l24 (some 46) (v20 ++ [([x1] ++ x2)]))]) (by kernel_rfl) ?_
        refine WO.fin [0, 1, 5, 7, 14, 15, 16, 34, 35, 36] [] [] [] (e2 := [(0, l3 none a1), (1, .int .i64 a2), (5, l24 (some 46) (v20 ++ [([x1] ++ x2)])), (7, .int .i64 x1), (14, l3 none a1), (15, .int .i64 (a1.length : Int)), (16, .int .i64 (k1 : Int)), (34, l24 none w19), (35, .int .i64 (w19.length : Int)), (36, .int .i64 (k2 : Int))]) (by kernel_rfl) (fun _ h => h) ?_
        refine W.region (by kernel_rfl) ?_
        refine WO.pureK 0 (some (.int .i64 (IntKind.wrap .i64 ((k2 : Int) + 1)))) (v := .int .i64 ((k2 + 1 : Nat) : Int)) (by kernel_rfl) (by rw [wrap_succ hl2 hk2]) (e1 := [(0, l3 none a1), (1, .int .i64 a2), (5, l24 (some 46) (v20 ++ [([x1] ++ x2)])), (7, .int .i64 x1), (14, l3 none a1), (15, .int .i64 (a1.length : Int)), (16, .int .i64 (k1 : Int)), (34, l24 none w19), (35, .int .i64 (w19.length : Int)), (36, .int .i64 (k2 : Int)), (47, .int .i64 ((k2 + 1 : Nat) : Int))]) (by kernel_rfl) ?_
        refine WO.fin [0, 1, 5, 7, 14, 15, 16, 34, 35, 36] [] [] [(46, some 10500)] (e2 := [(0, l3 none a1), (1, .int .i64 a2), (5, l24 (some 10500) (v20 ++ [([x1] ++ x2)])), (7, .int .i64 x1), (14, l3 none a1), (15, .int .i64 (a1.length : Int)), (16, .int .i64 (k1 : Int)), (34, l24 none w19), (35, .int .i64 (w19.length : Int)), (36, .int .i64 ((k2 + 1 : Nat) : Int))]) (by kernel_rfl) (fun _ h => h) ?_
        exact hN2 (v20 ++ [([x1] ++ x2)]) h
def rf5_Cycle_j6 : Option ((List Int) × Int) :=
  (some (([] : (List Int)), 5))
def rf5_Cycle_j11 (v8 : Int) (N1 : (Int → Option ((List Int) × Int))) : Option ((List Int) × Int) :=
  (N1 (IntKind.wrap .i64 (v8 + 1)))
def rf5_Cycle_j18 (x2 : (List Int)) (N2 : (Option ((List Int) × Int))) (v29 : Bool) : Option ((List Int) × Int) :=
  (bif v29 then (some (x2, 0)) else N2)
def rf5_Cycle_j21 (N3 : (Bool → Option ((List Int) × Int))) (v28 : Bool) : Option ((List Int) × Int) :=
  (N3 v28)
def rf5_Cycle_l3 (x2 : (List Int)) (w4 : (List Bool)) (v8 : Int) (K18 : (Bool → Option ((List Int) × Int))) : List Int → Nat → Bool → Option ((List Int) × Int)
  | [], k3, v20 => (K18 v20)
  | x3 :: r3, k3, v20 => (bif v20 then (chk (decide (v8 ≠ 0)) ((idx x2 ((((k3 + 1 : Nat) : Int)).tmod v8)).bind fun e24 => (chk (decide ((0 : Int) ≤ x3 ∧ x3 < ((7 : Nat) : Int) ∧ 0 < 7)) (chk (decide ((0 : Int) ≤ e24 ∧ e24 < ((7 : Nat) : Int) ∧ 0 < 1)) ((w4[((0 + Int.toNat x3 * 7) + Int.toNat e24 * 1)]?).bind fun e27 => ((rf5_Cycle_j21 (rf5_Cycle_l3 x2 w4 v8 K18 r3 (k3 + 1))) e27)))))) else ((rf5_Cycle_j21 (rf5_Cycle_l3 x2 w4 v8 K18 r3 (k3 + 1))) false))
def rf5_Cycle_l2 (w4 : (List Bool)) (v8 : Int) (K11 : (Option ((List Int) × Int))) : List (List Int) → Nat → Option ((List Int) × Int)
  | [], k2 => K11
  | x2 :: r2, k2 => (chk (lenOk x2) (rf5_Cycle_l3 x2 w4 v8 (rf5_Cycle_j18 x2 (rf5_Cycle_l2 w4 v8 K11 r2 (k2 + 1))) x2 0 true))
def rf5_Cycle_l1 (fuel : Nat) (a1 : (List rf5Op)) (w4 : (List Bool)) (K6 : (Option ((List Int) × Int))) : Nat → Int → Option ((List Int) × Int)
  | 0, _ => none
  | m1 + 1, v8 => (bif (decide (v8 ≤ 6)) then ((rf5_committed fuel a1).bind fun w13 => ((rf5_some fuel w13 v8).bind fun w14 => (chk (lenOk w14) (rf5_Cycle_l2 w4 v8 (rf5_Cycle_j11 v8 (rf5_Cycle_l1 fuel a1 w4 K6 m1)) w14 0)))) else K6)
def rf5_Cycle (fuel : Nat) (a1 : (List rf5Op)) : Option ((List Int) × Int) :=
  ((rf5_conflicts a1).bind fun w4 => (chk (decide (w4.length = 49 ∧ (List.replicate 49 false).length = 49)) (rf5_Cycle_l1 fuel a1 w4 (rf5_Cycle_j6) fuel 2)))
theorem run_rf5_Cycle (fuel : Nat) (a1 : (List rf5Op)) (r : ((List Int) × Int)) (h : rf5_Cycle fuel a1 = some r) : Run Try.prog (.call 23 [l43 none a1] (.tup [l3 none r.1, .int .i64 r.2])) := by
  refine call_of_W Try.func23 rfl (by kernel_rfl) (env0 := [(0, l43 none a1)]) (by kernel_rfl) ?_
  unfold rf5_Cycle at h
  refine W.seq ?_
  refine W.regT [0] [] [] [] (e2 := [(0, l43 none a1)]) (by kernel_rfl) (by kernel_rfl) (fun _ h => h) ?_
  refine W.seq ?_
  refine W.region (by kernel_rfl) ?_
  obtain ⟨w4, hw4, h⟩ := bind_some h
  refine WO.callK 1 (F := 58) (l := [l43 none a1]) (C := []) (r := .agg (List.map AV.bool w4)) (by kernel_rfl) (by kernel_rfl) (run_rf5_conflicts a1 w4 hw4) (e1 := [(0, l43 none a1), (11, l43 none a1), (12, .agg (List.map AV.bool w4))]) (by kernel_rfl) ?_
  refine WO.steps 1 (e1 := [(0, l43 none a1), (4, .box [.bool false, .bool false, .bool false, .bool false, .bool false, .bool false, .bool false, .bool false, .bool false, .bool false, .bool false, .bool false, .bool false, .bool false, .bool false, .bool false, .bool false, .bool false, .bool false, .bool false, .bool false, .bool false, .bool false, .bool false, .bool false, .bool false, .bool false, .bool false, .bool false, .bool false, .bool false, .bool false, .bool false, .bool false, .bool false, .bool false, .bool false, .bool false, .bool false, .bool false, .bool false, .bool false, .bool false, .bool false, .bool false, .bool false, .bool false, .bool false, .bool false]), (11, l43 none a1), (12, .agg (List.map AV.bool w4))]) (by kernel_rfl) ?_
  refine WO.mv [.arr 4] (env' := [(0, l43 none a1), (4, .pb 1000004 0), (11, l43 none a1), (12, .agg (List.map AV.bool w4)), (1000004, .hob 3 [] (List.map AV.bool (List.replicate 49 false)))]) (by kernel_rfl) ?_
  obtain ⟨hc5, h⟩ := chk_some h
  refine WO.storeA (enc := AV.bool) (l := w4) (l' := (List.replicate 49 false)) (s := 1000004) (sz := 49) 0 flat_bool hc5 (e1 := [(0, l43 none a1), (4, .pb 1000004 0), (11, l43 none a1), (12, .agg (List.map AV.bool w4)), (1000004, .hob 3 [] (List.map AV.bool w4))]) ?_
  refine WO.fin [0, 4, 1000004] [] [] [] (e2 := [(0, l43 none a1), (4, .pb 1000004 0), (1000004, .hob 3 [] (List.map AV.bool w4))]) (by kernel_rfl) (fun _ h => h) ?_
  refine W.seq ?_
  refine W.join (σ := Unit) (fun s => []) (fun s => (rf5_Cycle_j6) = some r) (fun s h => ?_) (fun hK6 => ?_)
  · have h : (rf5_Cycle_j6) = some r := h
    unfold rf5_Cycle_j6 at h
    refine W.seq ?_
    refine W.regT [2, 3] [] [] [] (e2 := [(2, .nils), (3, .int .i64 5)]) (by kernel_rfl) (by kernel_rfl) (fun _ h => h) ?_
    refine W.weak [2, 3] [] [(2, 0, 3, 1, 70002)] [] (env' := [(2, l3 (some 70002) ([] : (List Int))), (3, .int .i64 5)]) (by kernel_rfl) ?_
    have hr : aresults Try.prog Try.f23 [(2, l3 (some 70002) ([] : (List Int))), (3, .int .i64 5)] = some (.tup [l3 none ([] : (List Int)), .int .i64 5]) := by kernel_rfl
    cases h
    exact W.ret hr
  refine W.seq ?_
  refine W.regT [0, 4, 5, 1000004] [] [] [] (e2 := [(0, l43 none a1), (4, .pb 1000004 0), (5, .int .i64 2), (1000004, .hob 3 [] (List.map AV.bool w4))]) (by kernel_rfl) (by kernel_rfl) (fun _ h => h) ?_
  refine W.block ?_
  refine W.weak [0, 4, 5, 1000004] [] [] [] (env' := [(0, l43 none a1), (4, .pb 1000004 0), (5, .int .i64 2), (1000004, .hob 3 [] (List.map AV.bool w4))]) (by kernel_rfl) ?_
  refine W.fuel (σ := (Int)) (fun s => [(0, l43 none a1), (4, .pb 1000004 0), (5, .int .i64 s), (1000004, .hob 3 [] (List.map AV.bool w4))]) (fun m0 s => rf5_Cycle_l1 fuel a1 w4 (rf5_Cycle_j6) m0 s = some r) (fun s h => ?_) (fun m1 s h hN1 => ?_) fuel 2 h
  · obtain ⟨v8, rfl⟩ : ∃ x, x = s := ⟨s, rfl⟩
    have h : rf5_Cycle_l1 fuel a1 w4 (rf5_Cycle_j6) 0 v8 = some r := h
    rw [rf5_Cycle_l1.eq_1] at h
    cases h
  · obtain ⟨v8, rfl⟩ : ∃ x, x = s := ⟨s, rfl⟩
    have h : rf5_Cycle_l1 fuel a1 w4 (rf5_Cycle_j6) (m1 + 1) v8 = some r := h
    rw [rf5_Cycle_l1.eq_2] at h
    refine W.seq ?_
    refine W.seq ?_
    refine W.regT [0, 4, 5, 14, 1000004] [] [] [] (e2 := [(0, l43 none a1), (4, .pb 1000004 0), (5, .int .i64 v8), (14, .bool (decide (v8 ≤ 6))), (1000004, .hob 3 [] (List.map AV.bool w4))]) (by kernel_rfl) (by kernel_rfl) (fun _ h => h) ?_
    refine W.condB (decide (v8 ≤ 6)) (by kernel_rfl) (fun hb => ?_) (fun hb => ?_)
    · replace h := cond_t hb h
      refine W.skip ?_
      refine W.weak [0, 4, 5, 1000004] [] [] [] (env' := [(0, l43 none a1), (4, .pb 1000004 0), (5, .int .i64 v8), (1000004, .hob 3 [] (List.map AV.bool w4))]) (by kernel_rfl) ?_
      refine W.seq ?_
      refine W.join (σ := Unit) (fun s => [(0, l43 none a1), (4, .pb 1000004 0), (5, .int .i64 v8), (1000004, .hob 3 [] (List.map AV.bool w4))]) (fun s => (rf5_Cycle_j11 v8 (rf5_Cycle_l1 fuel a1 w4 (rf5_Cycle_j6) m1)) = some r) (fun s h => ?_) (fun hK11 => ?_)
      · have h : (rf5_Cycle_j11 v8 (rf5_Cycle_l1 fuel a1 w4 (rf5_Cycle_j6) m1)) = some r := h
        unfold rf5_Cycle_j11 at h
        refine W.regT [0, 4, 5, 1000004] [] [] [] (e2 := [(0, l43 none a1), (4, .pb 1000004 0), (5, .int .i64 (IntKind.wrap .i64 (v8 + 1))), (1000004, .hob 3 [] (List.map AV.bool w4))]) (by kernel_rfl) (by kernel_rfl) (fun _ h => h) ?_
        exact hN1 (IntKind.wrap .i64 (v8 + 1)) h
      refine W.block ?_
      refine W.seq ?_
      refine W.region (by kernel_rfl) ?_
      obtain ⟨w13, hw13, h⟩ := bind_some h
      refine WO.callK 1 (F := 57) (l := [l43 none a1]) (C := []) (r := l3 (some 1) w13) (by kernel_rfl) (by kernel_rfl) (run_rf5_committed fuel a1 w13 hw13) (e1 := [(0, l43 none a1), (4, .pb 1000004 0), (5, .int .i64 v8), (17, l43 none a1), (18, l3 (some 18) w13), (1000004, .hob 3 [] (List.map AV.bool w4))]) (by kernel_rfl) ?_
      obtain ⟨w14, hw14, h⟩ := bind_some h
      refine WO.callK 1 (F := 59) (l := [l3 none w13, .int .i64 v8]) (C := []) (r := l24 none w14) (by kernel_rfl) (by kernel_rfl) (run_rf5_some fuel w13 v8 w14 hw14) (e1 := [(0, l43 none a1), (4, .pb 1000004 0), (5, .int .i64 v8), (17, l43 none a1), (18, l3 (some 18) w13), (19, .int .i64 v8), (20, l24 none w14), (1000004, .hob 3 [] (List.map AV.bool w4))]) (by kernel_rfl) ?_
      refine WO.pureK 0 (some (.int .i64 ((List.map (encL 3 1 (AV.int .i64)) w14).length : Int))) (v := .int .i64 (w14.length : Int)) (by kernel_rfl) (by rw [List.length_map]) (e1 := [(0, l43 none a1), (4, .pb 1000004 0), (5, .int .i64 v8), (17, l43 none a1), (18, l3 (some 18) w13), (19, .int .i64 v8), (20, l24 none w14), (21, .int .i64 (w14.length : Int)), (1000004, .hob 3 [] (List.map AV.bool w4))]) (by kernel_rfl) ?_
      refine WO.fin [0, 4, 5, 20, 21, 22, 1000004] [] [] [] (e2 := [(0, l43 none a1), (4, .pb 1000004 0), (5, .int .i64 v8), (20, l24 none w14), (21, .int .i64 (w14.length : Int)), (22, .int .i64 0), (1000004, .hob 3 [] (List.map AV.bool w4))]) (by kernel_rfl) (fun _ h => h) ?_
      refine W.block ?_
      obtain ⟨hl2, h⟩ := chk_some h
      refine W.weak [0, 4, 5, 20, 21, 22, 1000004] [] [] [] (env' := [(0, l43 none a1), (4, .pb 1000004 0), (5, .int .i64 v8), (20, l24 none w14), (21, .int .i64 (w14.length : Int)), (22, .int .i64 ((0 : Nat) : Int)), (1000004, .hob 3 [] (List.map AV.bool w4))]) (by kernel_rfl) ?_
      refine W.range (σ := Unit) w14 (fun k2 s => [(0, l43 none a1), (4, .pb 1000004 0), (5, .int .i64 v8), (20, l24 none w14), (21, .int .i64 (w14.length : Int)), (22, .int .i64 (k2 : Int)), (1000004, .hob 3 [] (List.map AV.bool w4))]) (fun r0 k0 s => rf5_Cycle_l2 w4 v8 (rf5_Cycle_j11 v8 (rf5_Cycle_l1 fuel a1 w4 (rf5_Cycle_j6) m1)) r0 k0 = some r) (fun s h => ?_) (fun x2 r2 k2 s hx2 hk2 h hN2 => ?_) () h
      · have h : rf5_Cycle_l2 w4 v8 (rf5_Cycle_j11 v8 (rf5_Cycle_l1 fuel a1 w4 (rf5_Cycle_j6) m1)) [] (w14).length = some r := h
        rw [rf5_Cycle_l2.eq_1] at h
        refine W.seq ?_
        refine W.region (by kernel_rfl) ?_
        refine WO.pureK 0 (some (.bool (decide (((w14).length : Int) < (w14.length : Int))))) (v := .bool false) (by kernel_rfl) (by rw [lt_false (l := w14)]) (e1 := [(0, l43 none a1), (4, .pb 1000004 0), (5, .int .i64 v8), (20, l24 none w14), (21, .int .i64 (w14.length : Int)), (22, .int .i64 ((w14).length : Int)), (23, .bool false), (1000004, .hob 3 [] (List.map AV.bool w4))]) (by kernel_rfl) ?_
        refine WO.fin ([0, 4, 5, 20, 21, 22, 23, 1000004]) [] [] [] (e2 := [(0, l43 none a1), (4, .pb 1000004 0), (5, .int .i64 v8), (20, l24 none w14), (21, .int .i64 (w14.length : Int)), (22, .int .i64 ((w14).length : Int)), (23, .bool false), (1000004, .hob 3 [] (List.map AV.bool w4))]) (by kernel_rfl) (fun _ h => h) ?_
        refine W.seq ?_
        refine W.condB false (by kernel_rfl) (fun h => Bool.noConfusion h) (fun _ => ?_)
        refine W.exit ?_
        refine W.weak [0, 4, 5, 1000004] [] [] [] (env' := [(0, l43 none a1), (4, .pb 1000004 0), (5, .int .i64 v8), (1000004, .hob 3 [] (List.map AV.bool w4))]) (by kernel_rfl) ?_
        exact hK11 () h
      · have h : rf5_Cycle_l2 w4 v8 (rf5_Cycle_j11 v8 (rf5_Cycle_l1 fuel a1 w4 (rf5_Cycle_j6) m1)) (x2 :: r2) k2 = some r := h
        rw [rf5_Cycle_l2.eq_2] at h
        refine W.seq ?_
        refine W.region (by kernel_rfl) ?_
        refine WO.pureK 0 (some (.bool (decide ((k2 : Int) < (w14.length : Int))))) (v := .bool true) (by kernel_rfl) (by rw [lt_true hk2]) (e1 := [(0, l43 none a1), (4, .pb 1000004 0), (5, .int .i64 v8), (20, l24 none w14), (21, .int .i64 (w14.length : Int)), (22, .int .i64 (k2 : Int)), (23, .bool true), (1000004, .hob 3 [] (List.map AV.bool w4))]) (by kernel_rfl) ?_
        refine WO.fin ([0, 4, 5, 20, 21, 22, 23, 1000004]) [] [] [] (e2 := [(0, l43 none a1), (4, .pb 1000004 0), (5, .int .i64 v8), (20, l24 none w14), (21, .int .i64 (w14.length : Int)), (22, .int .i64 (k2 : Int)), (23, .bool true), (1000004, .hob 3 [] (List.map AV.bool w4))]) (by kernel_rfl) (fun _ h => h) ?_
        refine W.seq ?_
        refine W.condB true (by kernel_rfl) (fun _ => ?_) (fun h => Bool.noConfusion h)
        refine W.skip ?_
        refine W.weak [0, 4, 5, 20, 21, 22, 1000004] [] [] [] (env' := [(0, l43 none a1), (4, .pb 1000004 0), (5, .int .i64 v8), (20, l24 none w14), (21, .int .i64 (w14.length : Int)), (22, .int .i64 (k2 : Int)), (1000004, .hob 3 [] (List.map AV.bool w4))]) (by kernel_rfl) ?_
        refine W.seq ?_
        refine W.block ?_
        refine W.seq ?_
        refine W.region (by kernel_rfl) ?_
        refine WO.pureK 0 (if (0 : Int) ≤ (k2 : Int) then ((List.map (encL 3 1 (AV.int .i64)) w14)[Int.toNat (k2 : Int)]?).map AV.ptr else none) (v := .ptr (l3 none x2)) (by kernel_rfl) (idx_nat (f := (encL 3 1 (AV.int .i64))) hx2) (e1 := [(0, l43 none a1), (4, .pb 1000004 0), (5, .int .i64 v8), (20, l24 none w14), (21, .int .i64 (w14.length : Int)), (22, .int .i64 (k2 : Int)), (24, .ptr (l3 none x2)), (1000004, .hob 3 [] (List.map AV.bool w4))]) (by kernel_rfl) ?_
        refine WO.fin [0, 4, 5, 7, 20, 21, 22, 1000004] [] [] [] (e2 := [(0, l43 none a1), (4, .pb 1000004 0), (5, .int .i64 v8), (7, l3 none x2), (20, l24 none w14), (21, .int .i64 (w14.length : Int)), (22, .int .i64 (k2 : Int)), (1000004, .hob 3 [] (List.map AV.bool w4))]) (by kernel_rfl) (fun _ h => h) ?_
        refine W.seq ?_
        refine W.regT [0, 4, 5, 7, 8, 20, 21, 22, 1000004] [] [] [] (e2 := [(0, l43 none a1), (4, .pb 1000004 0), (5, .int .i64 v8), (7, l3 none x2), (8, .bool true), (20, l24 none w14), (21, .int .i64 (w14.length : Int)), (22, .int .i64 (k2 : Int)), (1000004, .hob 3 [] (List.map AV.bool w4))]) (by kernel_rfl) (by kernel_rfl) (fun _ h => h) ?_
        refine W.seq ?_
        refine W.join (σ := (Bool)) (fun s => [(0, l43 none a1), (4, .pb 1000004 0), (5, .int .i64 v8), (7, l3 none x2), (8, .bool s), (20, l24 none w14), (21, .int .i64 (w14.length : Int)), (22, .int .i64 (k2 : Int)), (1000004, .hob 3 [] (List.map AV.bool w4))]) (fun s => (rf5_Cycle_j18 x2 (rf5_Cycle_l2 w4 v8 (rf5_Cycle_j11 v8 (rf5_Cycle_l1 fuel a1 w4 (rf5_Cycle_j6) m1)) r2 (k2 + 1))) s = some r) (fun s h => ?_) (fun hK18 => ?_)
        · obtain ⟨v29, rfl⟩ : ∃ x, x = s := ⟨s, rfl⟩
          have h : (rf5_Cycle_j18 x2 (rf5_Cycle_l2 w4 v8 (rf5_Cycle_j11 v8 (rf5_Cycle_l1 fuel a1 w4 (rf5_Cycle_j6) m1)) r2 (k2 + 1))) v29 = some r := h
          unfold rf5_Cycle_j18 at h
          refine W.seq ?_
          refine W.regT [0, 4, 5, 7, 20, 21, 22, 48, 1000004] [] [] [] (e2 := [(0, l43 none a1), (4, .pb 1000004 0), (5, .int .i64 v8), (7, l3 none x2), (20, l24 none w14), (21, .int .i64 (w14.length : Int)), (22, .int .i64 (k2 : Int)), (48, .bool v29), (1000004, .hob 3 [] (List.map AV.bool w4))]) (by kernel_rfl) (by kernel_rfl) (fun _ h => h) ?_
          refine W.condB v29 (by kernel_rfl) (fun hb => ?_) (fun hb => ?_)
          · replace h := cond_t hb h
            refine W.seq ?_
            refine W.regT [2, 3] [] [] [] (e2 := [(2, l3 none x2), (3, .int .i64 0)]) (by kernel_rfl) (by kernel_rfl) (fun _ h => h) ?_
            refine W.weak [2, 3] [] [] [] (env' := [(2, l3 none x2), (3, .int .i64 0)]) (by kernel_rfl) ?_
            have hr : aresults Try.prog Try.f23 [(2, l3 none x2), (3, .int .i64 0)] = some (.tup [l3 none x2, .int .i64 0]) := by kernel_rfl
            cases h
            exact W.ret hr
          replace h := cond_f hb h
          refine W.skip ?_
          refine W.weak [0, 4, 5, 20, 21, 22, 1000004] [] [] [] (env' := [(0, l43 none a1), (4, .pb 1000004 0), (5, .int .i64 v8), (20, l24 none w14), (21, .int .i64 (w14.length : Int)), (22, .int .i64 (k2 : Int)), (1000004, .hob 3 [] (List.map AV.bool w4))]) (by kernel_rfl) ?_
          refine W.region (by kernel_rfl) ?_
          refine WO.pureK 0 (some (.int .i64 (IntKind.wrap .i64 ((k2 : Int) + 1)))) (v := .int .i64 ((k2 + 1 : Nat) : Int)) (by kernel_rfl) (by rw [wrap_succ hl2 hk2]) (e1 := [(0, l43 none a1), (4, .pb 1000004 0), (5, .int .i64 v8), (20, l24 none w14), (21, .int .i64 (w14.length : Int)), (22, .int .i64 (k2 : Int)), (50, .int .i64 ((k2 + 1 : Nat) : Int)), (1000004, .hob 3 [] (List.map AV.bool w4))]) (by kernel_rfl) ?_
          refine WO.fin [0, 4, 5, 20, 21, 22, 1000004] [] [] [] (e2 := [(0, l43 none a1), (4, .pb 1000004 0), (5, .int .i64 v8), (20, l24 none w14), (21, .int .i64 (w14.length : Int)), (22, .int .i64 ((k2 + 1 : Nat) : Int)), (1000004, .hob 3 [] (List.map AV.bool w4))]) (by kernel_rfl) (fun _ h => h) ?_
          exact hN2 () h
        refine W.seq ?_
        refine W.region (by kernel_rfl) ?_
        refine WO.pureK 1 (some (.int .i64 ((List.map (AV.int .i64) x2).length : Int))) (v := .int .i64 (x2.length : Int)) (by kernel_rfl) (by rw [List.length_map]) (e1 := [(0, l43 none a1), (4, .pb 1000004 0), (5, .int .i64 v8), (7, l3 none x2), (8, .bool true), (20, l24 none w14), (21, .int .i64 (w14.length : Int)), (22, .int .i64 (k2 : Int)), (26, l3 none x2), (27, .int .i64 (x2.length : Int)), (1000004, .hob 3 [] (List.map AV.bool w4))]) (by kernel_rfl) ?_
        refine WO.fin [0, 4, 5, 7, 8, 20, 21, 22, 26, 27, 28, 1000004] [] [] [] (e2 := [(0, l43 none a1), (4, .pb 1000004 0), (5, .int .i64 v8), (7, l3 none x2), (8, .bool true), (20, l24 none w14), (21, .int .i64 (w14.length : Int)), (22, .int .i64 (k2 : Int)), (26, l3 none x2), (27, .int .i64 (x2.length : Int)), (28, .int .i64 0), (1000004, .hob 3 [] (List.map AV.bool w4))]) (by kernel_rfl) (fun _ h => h) ?_
        refine W.block ?_
        obtain ⟨hl3, h⟩ := chk_some h
        refine W.weak [0, 4, 5, 7, 8, 20, 21, 22, 26, 27, 28, 1000004] [] [] [] (env' := [(0, l43 none a1), (4, .pb 1000004 0), (5, .int .i64 v8), (7, l3 none x2), (8, .bool true), (20, l24 none w14), (21, .int .i64 (w14.length : Int)), (22, .int .i64 (k2 : Int)), (26, l3 none x2), (27, .int .i64 (x2.length : Int)), (28, .int .i64 ((0 : Nat) : Int)), (1000004, .hob 3 [] (List.map AV.bool w4))]) (by kernel_rfl) ?_
        refine W.range (σ := (Bool)) x2 (fun k3 s => [(0, l43 none a1), (4, .pb 1000004 0), (5, .int .i64 v8), (7, l3 none x2), (8, .bool s), (20, l24 none w14), (21, .int .i64 (w14.length : Int)), (22, .int .i64 (k2 : Int)), (26, l3 none x2), (27, .int .i64 (x2.length : Int)), (28, .int .i64 (k3 : Int)), (1000004, .hob 3 [] (List.map AV.bool w4))]) (fun r0 k0 s => rf5_Cycle_l3 x2 w4 v8 (rf5_Cycle_j18 x2 (rf5_Cycle_l2 w4 v8 (rf5_Cycle_j11 v8 (rf5_Cycle_l1 fuel a1 w4 (rf5_Cycle_j6) m1)) r2 (k2 + 1))) r0 k0 s = some r) (fun s h => ?_) (fun x3 r3 k3 s hx3 hk3 h hN3 => ?_) true h
        · obtain ⟨v20, rfl⟩ : ∃ x, x = s := ⟨s, rfl⟩
          have h : rf5_Cycle_l3 x2 w4 v8 (rf5_Cycle_j18 x2 (rf5_Cycle_l2 w4 v8 (rf5_Cycle_j11 v8 (rf5_Cycle_l1 fuel a1 w4 (rf5_Cycle_j6) m1)) r2 (k2 + 1))) [] (x2).length v20 = some r := h
          rw [rf5_Cycle_l3.eq_1] at h
          refine W.seq ?_
          refine W.region (by kernel_rfl) ?_
          refine WO.pureK 0 (some (.bool (decide (((x2).length : Int) < (x2.length : Int))))) (v := .bool false) (by kernel_rfl) (by rw [lt_false (l := x2)]) (e1 := [(0, l43 none a1), (4, .pb 1000004 0), (5, .int .i64 v8), (7, l3 none x2), (8, .bool v20), (20, l24 none w14), (21, .int .i64 (w14.length : Int)), (22, .int .i64 (k2 : Int)), (26, l3 none x2), (27, .int .i64 (x2.length : Int)), (28, .int .i64 ((x2).length : Int)), (29, .bool false), (1000004, .hob 3 [] (List.map AV.bool w4))]) (by kernel_rfl) ?_
          refine WO.fin ([0, 4, 5, 7, 8, 20, 21, 22, 26, 27, 28, 29, 1000004]) [] [] [] (e2 := [(0, l43 none a1), (4, .pb 1000004 0), (5, .int .i64 v8), (7, l3 none x2), (8, .bool v20), (20, l24 none w14), (21, .int .i64 (w14.length : Int)), (22, .int .i64 (k2 : Int)), (26, l3 none x2), (27, .int .i64 (x2.length : Int)), (28, .int .i64 ((x2).length : Int)), (29, .bool false), (1000004, .hob 3 [] (List.map AV.bool w4))]) (by kernel_rfl) (fun _ h => h) ?_
          refine W.seq ?_
          refine W.condB false (by kernel_rfl) (fun h => Bool.noConfusion h) (fun _ => ?_)
          refine W.exit ?_
          refine W.weak [0, 4, 5, 7, 8, 20, 21, 22, 1000004] [] [] [] (env' := [(0, l43 none a1), (4, .pb 1000004 0), (5, .int .i64 v8), (7, l3 none x2), (8, .bool v20), (20, l24 none w14), (21, .int .i64 (w14.length : Int)), (22, .int .i64 (k2 : Int)), (1000004, .hob 3 [] (List.map AV.bool w4))]) (by kernel_rfl) ?_
          exact hK18 v20 h
        · obtain ⟨v20, rfl⟩ : ∃ x, x = s := ⟨s, rfl⟩
          have h : rf5_Cycle_l3 x2 w4 v8 (rf5_Cycle_j18 x2 (rf5_Cycle_l2 w4 v8 (rf5_Cycle_j11 v8 (rf5_Cycle_l1 fuel a1 w4 (rf5_Cycle_j6) m1)) r2 (k2 + 1))) (x3 :: r3) k3 v20 = some r := h
          rw [rf5_Cycle_l3.eq_2] at h
          refine W.seq ?_
          refine W.region (by kernel_rfl) ?_
          refine WO.pureK 0 (some (.bool (decide ((k3 : Int) < (x2.length : Int))))) (v := .bool true) (by kernel_rfl) (by rw [lt_true hk3]) (e1 := [(0, l43 none a1), (4, .pb 1000004 0), (5, .int .i64 v8), (7, l3 none x2), (8, .bool v20), (20, l24 none w14), (21, .int .i64 (w14.length : Int)), (22, .int .i64 (k2 : Int)), (26, l3 none x2), (27, .int .i64 (x2.length : Int)), (28, .int .i64 (k3 : Int)), (29, .bool true), (1000004, .hob 3 [] (List.map AV.bool w4))]) (by kernel_rfl) ?_
          refine WO.fin ([0, 4, 5, 7, 8, 20, 21, 22, 26, 27, 28, 29, 1000004]) [] [] [] (e2 := [(0, l43 none a1), (4, .pb 1000004 0), (5, .int .i64 v8), (7, l3 none x2), (8, .bool v20), (20, l24 none w14), (21, .int .i64 (w14.length : Int)), (22, .int .i64 (k2 : Int)), (26, l3 none x2), (27, .int .i64 (x2.length : Int)), (28, .int .i64 (k3 : Int)), (29, .bool true), (1000004, .hob 3 [] (List.map AV.bool w4))]) (by kernel_rfl) (fun _ h => h) ?_
          refine W.seq ?_
          refine W.condB true (by kernel_rfl) (fun _ => ?_) (fun h => Bool.noConfusion h)
          refine W.skip ?_
          refine W.weak [0, 4, 5, 7, 8, 20, 21, 22, 26, 27, 28, 1000004] [] [] [] (env' := [(0, l43 none a1), (4, .pb 1000004 0), (5, .int .i64 v8), (7, l3 none x2), (8, .bool v20), (20, l24 none w14), (21, .int .i64 (w14.length : Int)), (22, .int .i64 (k2 : Int)), (26, l3 none x2), (27, .int .i64 (x2.length : Int)), (28, .int .i64 (k3 : Int)), (1000004, .hob 3 [] (List.map AV.bool w4))]) (by kernel_rfl) ?_
          refine W.seq ?_
          refine W.join (σ := (Bool)) (fun s => [(0, l43 none a1), (4, .pb 1000004 0), (5, .int .i64 v8), (7, l3 none x2), (8, .bool s), (20, l24 none w14), (21, .int .i64 (w14.length : Int)), (22, .int .i64 (k2 : Int)), (26, l3 none x2), (27, .int .i64 (x2.length : Int)), (28, .int .i64 (k3 : Int)), (1000004, .hob 3 [] (List.map AV.bool w4))]) (fun s => (rf5_Cycle_j21 (rf5_Cycle_l3 x2 w4 v8 (rf5_Cycle_j18 x2 (rf5_Cycle_l2 w4 v8 (rf5_Cycle_j11 v8 (rf5_Cycle_l1 fuel a1 w4 (rf5_Cycle_j6) m1)) r2 (k2 + 1))) r3 (k3 + 1))) s = some r) (fun s h => ?_) (fun hK21 => ?_)
          · obtain ⟨v28, rfl⟩ : ∃ x, x = s := ⟨s, rfl⟩
            have h : (rf5_Cycle_j21 (rf5_Cycle_l3 x2 w4 v8 (rf5_Cycle_j18 x2 (rf5_Cycle_l2 w4 v8 (rf5_Cycle_j11 v8 (rf5_Cycle_l1 fuel a1 w4 (rf5_Cycle_j6) m1)) r2 (k2 + 1))) r3 (k3 + 1))) v28 = some r := h
            unfold rf5_Cycle_j21 at h
            refine W.region (by kernel_rfl) ?_
            refine WO.pureK 0 (some (.int .i64 (IntKind.wrap .i64 ((k3 : Int) + 1)))) (v := .int .i64 ((k3 + 1 : Nat) : Int)) (by kernel_rfl) (by rw [wrap_succ hl3 hk3]) (e1 := [(0, l43 none a1), (4, .pb 1000004 0), (5, .int .i64 v8), (7, l3 none x2), (8, .bool v28), (20, l24 none w14), (21, .int .i64 (w14.length : Int)), (22, .int .i64 (k2 : Int)), (26, l3 none x2), (27, .int .i64 (x2.length : Int)), (28, .int .i64 (k3 : Int)), (47, .int .i64 ((k3 + 1 : Nat) : Int)), (1000004, .hob 3 [] (List.map AV.bool w4))]) (by kernel_rfl) ?_
            refine WO.fin [0, 4, 5, 7, 8, 20, 21, 22, 26, 27, 28, 1000004] [] [] [] (e2 := [(0, l43 none a1), (4, .pb 1000004 0), (5, .int .i64 v8), (7, l3 none x2), (8, .bool v28), (20, l24 none w14), (21, .int .i64 (w14.length : Int)), (22, .int .i64 (k2 : Int)), (26, l3 none x2), (27, .int .i64 (x2.length : Int)), (28, .int .i64 ((k3 + 1 : Nat) : Int)), (1000004, .hob 3 [] (List.map AV.bool w4))]) (by kernel_rfl) (fun _ h => h) ?_
            exact hN3 v28 h
          refine W.block ?_
          refine W.seq ?_
          refine W.region (by kernel_rfl) ?_
          refine WO.pureK 1 (if (0 : Int) ≤ (k3 : Int) then ((List.map (AV.int .i64) x2)[Int.toNat (k3 : Int)]?).map AV.ptr else none) (v := .ptr (.int .i64 x3)) (by kernel_rfl) (idx_nat (f := (AV.int .i64)) hx3) (e1 := [(0, l43 none a1), (4, .pb 1000004 0), (5, .int .i64 v8), (7, l3 none x2), (8, .bool v20), (20, l24 none w14), (21, .int .i64 (w14.length : Int)), (22, .int .i64 (k2 : Int)), (26, l3 none x2), (27, .int .i64 (x2.length : Int)), (28, .int .i64 (k3 : Int)), (30, .int .i64 (k3 : Int)), (31, .ptr (.int .i64 x3)), (1000004, .hob 3 [] (List.map AV.bool w4))]) (by kernel_rfl) ?_
          refine WO.fin [0, 4, 5, 7, 8, 9, 10, 20, 21, 22, 26, 27, 28, 1000004] [] [] [] (e2 := [(0, l43 none a1), (4, .pb 1000004 0), (5, .int .i64 v8), (7, l3 none x2), (8, .bool v20), (9, .int .i64 (k3 : Int)), (10, .int .i64 x3), (20, l24 none w14), (21, .int .i64 (w14.length : Int)), (22, .int .i64 (k2 : Int)), (26, l3 none x2), (27, .int .i64 (x2.length : Int)), (28, .int .i64 (k3 : Int)), (1000004, .hob 3 [] (List.map AV.bool w4))]) (by kernel_rfl) (fun _ h => h) ?_
          refine W.region (by kernel_rfl) ?_
          refine WO.boolK 2 (fun b => [(0, l43 none a1), (4, .pb 1000004 0), (5, .int .i64 v8), (7, l3 none x2), (8, .bool b), (9, .int .i64 (k3 : Int)), (10, .int .i64 x3), (20, l24 none w14), (21, .int .i64 (w14.length : Int)), (22, .int .i64 (k2 : Int)), (26, l3 none x2), (27, .int .i64 (x2.length : Int)), (28, .int .i64 (k3 : Int)), (33, .bool b), (34, .bool b), (1000004, .hob 3 [] (List.map AV.bool w4))]) v20 (by kernel_rfl) (fun hb => ?_) (fun hb => ?_)
          · replace h := cond_t hb h
            refine WO.pureK 3 (some (.int .i64 (IntKind.wrap .i64 ((k3 : Int) + 1)))) (v := .int .i64 ((k3 + 1 : Nat) : Int)) (by kernel_rfl) (by rw [wrap_succ hl3 hk3]) (e1 := [(0, l43 none a1), (4, .pb 1000004 0), (5, .int .i64 v8), (7, l3 none x2), (8, .bool true), (9, .int .i64 (k3 : Int)), (10, .int .i64 x3), (20, l24 none w14), (21, .int .i64 (w14.length : Int)), (22, .int .i64 (k2 : Int)), (26, l3 none x2), (27, .int .i64 (x2.length : Int)), (28, .int .i64 (k3 : Int)), (33, .bool true), (34, .bool true), (35, .int .i64 x3), (36, l3 none x2), (37, .int .i64 (k3 : Int)), (38, .int .i64 ((k3 + 1 : Nat) : Int)), (1000004, .hob 3 [] (List.map AV.bool w4))]) (by kernel_rfl) ?_
            obtain ⟨hc23, h⟩ := chk_some h
            refine WO.pureK 1 (Option.map (AV.int .i64) (if v8 = 0 then none else some ((((k3 + 1 : Nat) : Int)).tmod v8))) (v := .int .i64 ((((k3 + 1 : Nat) : Int)).tmod v8)) (by kernel_rfl) (by rw [if_neg (ne_of_chk hc23)]; rfl) (e1 := [(0, l43 none a1), (4, .pb 1000004 0), (5, .int .i64 v8), (7, l3 none x2), (8, .bool true), (9, .int .i64 (k3 : Int)), (10, .int .i64 x3), (20, l24 none w14), (21, .int .i64 (w14.length : Int)), (22, .int .i64 (k2 : Int)), (26, l3 none x2), (27, .int .i64 (x2.length : Int)), (28, .int .i64 (k3 : Int)), (33, .bool true), (34, .bool true), (35, .int .i64 x3), (36, l3 none x2), (37, .int .i64 (k3 : Int)), (38, .int .i64 ((k3 + 1 : Nat) : Int)), (39, .int .i64 v8), (40, .int .i64 ((((k3 + 1 : Nat) : Int)).tmod v8)), (1000004, .hob 3 [] (List.map AV.bool w4))]) (by kernel_rfl) ?_
            obtain ⟨e24, he24, h⟩ := bind_some h
            refine WO.pureK 0 (if (0 : Int) ≤ ((((k3 + 1 : Nat) : Int)).tmod v8) then ((List.map (AV.int .i64) x2)[Int.toNat ((((k3 + 1 : Nat) : Int)).tmod v8)]?).map AV.ptr else none) (v := .ptr (.int .i64 e24)) (by kernel_rfl) (idx_av (f := (AV.int .i64)) he24) (e1 := [(0, l43 none a1), (4, .pb 1000004 0), (5, .int .i64 v8), (7, l3 none x2), (8, .bool true), (9, .int .i64 (k3 : Int)), (10, .int .i64 x3), (20, l24 none w14), (21, .int .i64 (w14.length : Int)), (22, .int .i64 (k2 : Int)), (26, l3 none x2), (27, .int .i64 (x2.length : Int)), (28, .int .i64 (k3 : Int)), (33, .bool true), (34, .bool true), (35, .int .i64 x3), (36, l3 none x2), (37, .int .i64 (k3 : Int)), (38, .int .i64 ((k3 + 1 : Nat) : Int)), (39, .int .i64 v8), (40, .int .i64 ((((k3 + 1 : Nat) : Int)).tmod v8)), (41, .ptr (.int .i64 e24)), (1000004, .hob 3 [] (List.map AV.bool w4))]) (by kernel_rfl) ?_
            obtain ⟨hc25, h⟩ := chk_some h
            refine WO.pureK 1 (if (0 : Int) ≤ x3 ∧ x3 < ((7 : Nat) : Int) ∧ 0 < 7 then some (AV.pb 1000004 (0 + Int.toNat x3 * 7)) else none) (v := .pb 1000004 (0 + Int.toNat x3 * 7)) (by kernel_rfl) (ite_some hc25) (e1 := [(0, l43 none a1), (4, .pb 1000004 0), (5, .int .i64 v8), (7, l3 none x2), (8, .bool true), (9, .int .i64 (k3 : Int)), (10, .int .i64 x3), (20, l24 none w14), (21, .int .i64 (w14.length : Int)), (22, .int .i64 (k2 : Int)), (26, l3 none x2), (27, .int .i64 (x2.length : Int)), (28, .int .i64 (k3 : Int)), (33, .bool true), (34, .bool true), (35, .int .i64 x3), (36, l3 none x2), (37, .int .i64 (k3 : Int)), (38, .int .i64 ((k3 + 1 : Nat) : Int)), (39, .int .i64 v8), (40, .int .i64 ((((k3 + 1 : Nat) : Int)).tmod v8)), (41, .ptr (.int .i64 e24)), (42, .int .i64 e24), (43, .pb 1000004 (0 + Int.toNat x3 * 7)), (1000004, .hob 3 [] (List.map AV.bool w4))]) (by kernel_rfl) ?_
            obtain ⟨hc26, h⟩ := chk_some h
            refine WO.pureK 0 (if (0 : Int) ≤ e24 ∧ e24 < ((7 : Nat) : Int) ∧ 0 < 1 then some (AV.pb 1000004 ((0 + Int.toNat x3 * 7) + Int.toNat e24 * 1)) else none) (v := .pb 1000004 ((0 + Int.toNat x3 * 7) + Int.toNat e24 * 1)) (by kernel_rfl) (ite_some hc26) (e1 := [(0, l43 none a1), (4, .pb 1000004 0), (5, .int .i64 v8), (7, l3 none x2), (8, .bool true), (9, .int .i64 (k3 : Int)), (10, .int .i64 x3), (20, l24 none w14), (21, .int .i64 (w14.length : Int)), (22, .int .i64 (k2 : Int)), (26, l3 none x2), (27, .int .i64 (x2.length : Int)), (28, .int .i64 (k3 : Int)), (33, .bool true), (34, .bool true), (35, .int .i64 x3), (36, l3 none x2), (37, .int .i64 (k3 : Int)), (38, .int .i64 ((k3 + 1 : Nat) : Int)), (39, .int .i64 v8), (40, .int .i64 ((((k3 + 1 : Nat) : Int)).tmod v8)), (41, .ptr (.int .i64 e24)), (42, .int .i64 e24), (43, .pb 1000004 (0 + Int.toNat x3 * 7)), (44, .pb 1000004 ((0 + Int.toNat x3 * 7) + Int.toNat e24 * 1)), (1000004, .hob 3 [] (List.map AV.bool w4))]) (by kernel_rfl) ?_
            obtain ⟨e27, he27, h⟩ := bind_some h
            refine WO.pureK 0 (cut Try.prog 4 (List.map AV.bool w4) ((0 + Int.toNat x3 * 7) + Int.toNat e24 * 1)) (v := .bool e27) (by kernel_rfl) (cut_at flat_bool (by kernel_rfl) he27) (e1 := [(0, l43 none a1), (4, .pb 1000004 0), (5, .int .i64 v8), (7, l3 none x2), (8, .bool true), (9, .int .i64 (k3 : Int)), (10, .int .i64 x3), (20, l24 none w14), (21, .int .i64 (w14.length : Int)), (22, .int .i64 (k2 : Int)), (26, l3 none x2), (27, .int .i64 (x2.length : Int)), (28, .int .i64 (k3 : Int)), (33, .bool true), (34, .bool true), (35, .int .i64 x3), (36, l3 none x2), (37, .int .i64 (k3 : Int)), (38, .int .i64 ((k3 + 1 : Nat) : Int)), (39, .int .i64 v8), (40, .int .i64 ((((k3 + 1 : Nat) : Int)).tmod v8)), (41, .ptr (.int .i64 e24)), (42, .int .i64 e24), (43, .pb 1000004 (0 + Int.toNat x3 * 7)), (44, .pb 1000004 ((0 + Int.toNat x3 * 7) + Int.toNat e24 * 1)), (45, .bool e27), (1000004, .hob 3 [] (List.map AV.bool w4))]) (by kernel_rfl) ?_
            refine WO.fin [0, 4, 5, 7, 8, 20, 21, 22, 26, 27, 28, 1000004] [] [] [] (e2 := [(0, l43 none a1), (4, .pb 1000004 0), (5, .int .i64 v8), (7, l3 none x2), (8, .bool e27), (20, l24 none w14), (21, .int .i64 (w14.length : Int)), (22, .int .i64 (k2 : Int)), (26, l3 none x2), (27, .int .i64 (x2.length : Int)), (28, .int .i64 (k3 : Int)), (1000004, .hob 3 [] (List.map AV.bool w4))]) (by kernel_rfl) (fun _ h => h) ?_
            exact hK21 e27 h
          replace h := cond_f hb h
          refine WO.fin [0, 4, 5, 7, 8, 20, 21, 22, 26, 27, 28, 1000004] [] [] [] (e2 := [(0, l43 none a1), (4, .pb 1000004 0), (5, .int .i64 v8), (7, l3 none x2), (8, .bool false), (20, l24 none w14), (21, .int .i64 (w14.length : Int)), (22, .int .i64 (k2 : Int)), (26, l3 none x2), (27, .int .i64 (x2.length : Int)), (28, .int .i64 (k3 : Int)), (1000004, .hob 3 [] (List.map AV.bool w4))]) (by kernel_rfl) (fun _ h => h) ?_
          exact hK21 false h
    replace h := cond_f hb h
    refine W.exit ?_
    refine W.weak [] [] [] [] (env' := []) (by kernel_rfl) ?_
    exact hK6 () h
def lw5_HistoryOrders_j12 (v14 : Bool) : Option Bool :=
  (some v14)
def lw5_HistoryOrders_j19 (v23 : Bool) : Option Bool :=
  (some v23)
def lw5_HistoryOrders (fuel : Nat) (a1 : (List rf5Op)) : Option Bool :=
  ((lw5_of a1).bind fun w4 => ((hs_Order fuel w4).bind fun w5 => ((lw5_of a1).bind fun w7 => ((hs_Cycle fuel w7).bind fun w8 => ((rf5_Valid a1).bind fun w11 => (bif (!w11) then (bif ((IntKind.wrap .i64 ((w5.1.length : Int) + (w8.1.length : Int))) == 0) then (bif (w5.2 == 2) then (bif (w8.2 == 2) then ((lw5_awake fuel).bind fun w13 => ((lw5_HistoryOrders_j12) w13)) else ((lw5_HistoryOrders_j12) false)) else ((lw5_HistoryOrders_j12) false)) else ((lw5_HistoryOrders_j12) false)) else ((rf5_Order fuel a1).bind fun w16 => ((rf5_Cycle fuel a1).bind fun w18 => ((sl_Equal_int w5.1 w16.1).bind fun w20 => (bif w20 then (bif (w5.2 == w16.2) then ((sl_Equal_int w8.1 w18.1).bind fun w21 => (bif w21 then (bif (w8.2 == w18.2) then ((lw5_awake fuel).bind fun w22 => ((lw5_HistoryOrders_j19) w22)) else ((lw5_HistoryOrders_j19) false)) else ((lw5_HistoryOrders_j19) false))) else ((lw5_HistoryOrders_j19) false)) else ((lw5_HistoryOrders_j19) false)))))))))))
theorem run_lw5_HistoryOrders (fuel : Nat) (a1 : (List rf5Op)) (r : Bool) (h : lw5_HistoryOrders fuel a1 = some r) : Run Try.prog (.call 3 [l43 none a1] (.bool r)) := by
  refine call_of_W Try.func3 rfl (by kernel_rfl) (env0 := [(0, l43 none a1)]) (by kernel_rfl) ?_
  unfold lw5_HistoryOrders at h
  refine W.seq ?_
  refine W.regT [0] [] [] [] (e2 := [(0, l43 none a1)]) (by kernel_rfl) (by kernel_rfl) (fun _ h => h) ?_
  refine W.seq ?_
  refine W.region (by kernel_rfl) ?_
  obtain ⟨w4, hw4, h⟩ := bind_some h
  refine WO.callK 1 (F := 18) (l := [l43 none a1]) (C := []) (r := l44 (some 1) w4) (by kernel_rfl) (by kernel_rfl) (run_lw5_of a1 w4 hw4) (e1 := [(0, l43 none a1), (12, l43 none a1), (13, l44 (some 13) w4)]) (by kernel_rfl) ?_
  obtain ⟨w5, hw5, h⟩ := bind_some h
  refine WO.callK 0 (F := 17) (l := [l44 none w4]) (C := []) (r := .tup [l3 none w5.1, .int .i64 w5.2]) (by kernel_rfl) (by kernel_rfl) (run_hs_Order fuel w4 w5 hw5) (e1 := [(0, l43 none a1), (12, l43 none a1), (13, l44 (some 13) w4), (14, .tup [l3 none w5.1, .int .i64 w5.2])]) (by kernel_rfl) ?_
  refine WO.fin [0, 3, 4] [] [] [] (e2 := [(0, l43 none a1), (3, l3 none w5.1), (4, .int .i64 w5.2)]) (by kernel_rfl) (fun _ h => h) ?_
  refine W.seq ?_
  refine W.region (by kernel_rfl) ?_
  obtain ⟨w7, hw7, h⟩ := bind_some h
  refine WO.callK 1 (F := 18) (l := [l43 none a1]) (C := []) (r := l44 (some 1) w7) (by kernel_rfl) (by kernel_rfl) (run_lw5_of a1 w7 hw7) (e1 := [(0, l43 none a1), (3, l3 none w5.1), (4, .int .i64 w5.2), (18, l43 none a1), (19, l44 (some 19) w7)]) (by kernel_rfl) ?_
  obtain ⟨w8, hw8, h⟩ := bind_some h
  refine WO.callK 0 (F := 19) (l := [l44 none w7]) (C := []) (r := .tup [l3 none w8.1, .int .i64 w8.2]) (by kernel_rfl) (by kernel_rfl) (run_hs_Cycle fuel w7 w8 hw8) (e1 := [(0, l43 none a1), (3, l3 none w5.1), (4, .int .i64 w5.2), (18, l43 none a1), (19, l44 (some 19) w7), (20, .tup [l3 none w8.1, .int .i64 w8.2])]) (by kernel_rfl) ?_
  refine WO.fin [0, 3, 4, 5, 6] [] [] [] (e2 := [(0, l43 none a1), (3, l3 none w5.1), (4, .int .i64 w5.2), (5, l3 none w8.1), (6, .int .i64 w8.2)]) (by kernel_rfl) (fun _ h => h) ?_
  refine W.seq ?_
  refine W.seq ?_
  refine W.region (by kernel_rfl) ?_
  obtain ⟨w11, hw11, h⟩ := bind_some h
  refine WO.callK 1 (F := 20) (l := [l43 none a1]) (C := []) (r := .bool w11) (by kernel_rfl) (by kernel_rfl) (run_rf5_Valid a1 w11 hw11) (e1 := [(0, l43 none a1), (3, l3 none w5.1), (4, .int .i64 w5.2), (5, l3 none w8.1), (6, .int .i64 w8.2), (23, l43 none a1), (24, .bool w11)]) (by kernel_rfl) ?_
  refine WO.fin [0, 3, 4, 5, 6, 25] [] [] [] (e2 := [(0, l43 none a1), (3, l3 none w5.1), (4, .int .i64 w5.2), (5, l3 none w8.1), (6, .int .i64 w8.2), (25, .bool (!w11))]) (by kernel_rfl) (fun _ h => h) ?_
  refine W.condB (!w11) (by kernel_rfl) (fun hb => ?_) (fun hb => ?_)
  · replace h := cond_t hb h
    refine W.seq ?_
    refine W.join (σ := (Bool)) (fun s => [(2, .bool s)]) (fun s => (lw5_HistoryOrders_j12) s = some r) (fun s h => ?_) (fun hK12 => ?_)
    · obtain ⟨v14, rfl⟩ : ∃ x, x = s := ⟨s, rfl⟩
      have h : (lw5_HistoryOrders_j12) v14 = some r := h
      unfold lw5_HistoryOrders_j12 at h
      refine W.weak [2] [] [] [] (env' := [(2, .bool v14)]) (by kernel_rfl) ?_
      have hr : aresults Try.prog Try.f3 [(2, .bool v14)] = some (.bool v14) := by kernel_rfl
      cases h
      exact W.ret hr
    refine W.region (by kernel_rfl) ?_
    refine WO.pureK 1 (some (.int .i64 ((List.map (AV.int .i64) w5.1).length : Int))) (v := .int .i64 (w5.1.length : Int)) (by kernel_rfl) (by rw [List.length_map]) (e1 := [(0, l43 none a1), (3, l3 none w5.1), (4, .int .i64 w5.2), (5, l3 none w8.1), (6, .int .i64 w8.2), (25, .bool (!w11)), (26, l3 none w5.1), (27, .int .i64 (w5.1.length : Int))]) (by kernel_rfl) ?_
    refine WO.pureK 1 (some (.int .i64 ((List.map (AV.int .i64) w8.1).length : Int))) (v := .int .i64 (w8.1.length : Int)) (by kernel_rfl) (by rw [List.length_map]) (e1 := [(0, l43 none a1), (3, l3 none w5.1), (4, .int .i64 w5.2), (5, l3 none w8.1), (6, .int .i64 w8.2), (25, .bool (!w11)), (26, l3 none w5.1), (27, .int .i64 (w5.1.length : Int)), (28, l3 none w8.1), (29, .int .i64 (w8.1.length : Int))]) (by kernel_rfl) ?_
    refine WO.boolK 3 (fun b => [(0, l43 none a1), (3, l3 none w5.1), (4, .int .i64 w5.2), (5, l3 none w8.1), (6, .int .i64 w8.2), (25, .bool (!w11)), (26, l3 none w5.1), (27, .int .i64 (w5.1.length : Int)), (28, l3 none w8.1), (29, .int .i64 (w8.1.length : Int)), (30, .int .i64 (IntKind.wrap .i64 ((w5.1.length : Int) + (w8.1.length : Int)))), (31, .bool b), (32, .bool b)]) ((IntKind.wrap .i64 ((w5.1.length : Int) + (w8.1.length : Int))) == 0) (by kernel_rfl) (fun hb => ?_) (fun hb => ?_)
    · replace h := cond_t hb h
      refine WO.boolK 4 (fun b => [(0, l43 none a1), (3, l3 none w5.1), (4, .int .i64 w5.2), (5, l3 none w8.1), (6, .int .i64 w8.2), (25, .bool (!w11)), (26, l3 none w5.1), (27, .int .i64 (w5.1.length : Int)), (28, l3 none w8.1), (29, .int .i64 (w8.1.length : Int)), (30, .int .i64 (IntKind.wrap .i64 ((w5.1.length : Int) + (w8.1.length : Int)))), (31, .bool true), (32, .bool true), (33, .int .i64 w5.2), (34, .bool b), (35, .bool b), (36, .bool b)]) (w5.2 == 2) (by kernel_rfl) (fun hb => ?_) (fun hb => ?_)
      · replace h := cond_t hb h
        refine WO.boolK 4 (fun b => [(0, l43 none a1), (3, l3 none w5.1), (4, .int .i64 w5.2), (5, l3 none w8.1), (6, .int .i64 w8.2), (25, .bool (!w11)), (26, l3 none w5.1), (27, .int .i64 (w5.1.length : Int)), (28, l3 none w8.1), (29, .int .i64 (w8.1.length : Int)), (30, .int .i64 (IntKind.wrap .i64 ((w5.1.length : Int) + (w8.1.length : Int)))), (31, .bool true), (32, .bool true), (33, .int .i64 w5.2), (34, .bool true), (35, .bool true), (36, .bool true), (37, .int .i64 w8.2), (38, .bool b), (39, .bool b), (40, .bool b)]) (w8.2 == 2) (by kernel_rfl) (fun hb => ?_) (fun hb => ?_)
        · replace h := cond_t hb h
          obtain ⟨w13, hw13, h⟩ := bind_some h
          refine WO.callK 0 (F := 21) (l := []) (C := []) (r := .bool w13) (by kernel_rfl) (by kernel_rfl) (run_lw5_awake fuel w13 hw13) (e1 := [(0, l43 none a1), (3, l3 none w5.1), (4, .int .i64 w5.2), (5, l3 none w8.1), (6, .int .i64 w8.2), (25, .bool (!w11)), (26, l3 none w5.1), (27, .int .i64 (w5.1.length : Int)), (28, l3 none w8.1), (29, .int .i64 (w8.1.length : Int)), (30, .int .i64 (IntKind.wrap .i64 ((w5.1.length : Int) + (w8.1.length : Int)))), (31, .bool true), (32, .bool true), (33, .int .i64 w5.2), (34, .bool true), (35, .bool true), (36, .bool true), (37, .int .i64 w8.2), (38, .bool true), (39, .bool true), (40, .bool true), (41, .bool w13)]) (by kernel_rfl) ?_
          refine WO.fin [2] [] [] [] (e2 := [(2, .bool w13)]) (by kernel_rfl) (fun _ h => h) ?_
          exact hK12 w13 h
        replace h := cond_f hb h
        refine WO.fin [2] [] [] [] (e2 := [(2, .bool false)]) (by kernel_rfl) (fun _ h => h) ?_
        exact hK12 false h
      replace h := cond_f hb h
      refine WO.fin [2] [] [] [] (e2 := [(2, .bool false)]) (by kernel_rfl) (fun _ h => h) ?_
      exact hK12 false h
    replace h := cond_f hb h
    refine WO.fin [2] [] [] [] (e2 := [(2, .bool false)]) (by kernel_rfl) (fun _ h => h) ?_
    exact hK12 false h
  replace h := cond_f hb h
  refine W.skip ?_
  refine W.weak [0, 3, 4, 5, 6] [] [] [] (env' := [(0, l43 none a1), (3, l3 none w5.1), (4, .int .i64 w5.2), (5, l3 none w8.1), (6, .int .i64 w8.2)]) (by kernel_rfl) ?_
  refine W.seq ?_
  refine W.region (by kernel_rfl) ?_
  obtain ⟨w16, hw16, h⟩ := bind_some h
  refine WO.callK 1 (F := 22) (l := [l43 none a1]) (C := []) (r := .tup [l3 none w16.1, .int .i64 w16.2]) (by kernel_rfl) (by kernel_rfl) (run_rf5_Order fuel a1 w16 hw16) (e1 := [(0, l43 none a1), (3, l3 none w5.1), (4, .int .i64 w5.2), (5, l3 none w8.1), (6, .int .i64 w8.2), (44, l43 none a1), (45, .tup [l3 none w16.1, .int .i64 w16.2])]) (by kernel_rfl) ?_
  refine WO.fin [0, 3, 4, 5, 6, 7, 8] [] [] [] (e2 := [(0, l43 none a1), (3, l3 none w5.1), (4, .int .i64 w5.2), (5, l3 none w8.1), (6, .int .i64 w8.2), (7, l3 none w16.1), (8, .int .i64 w16.2)]) (by kernel_rfl) (fun _ h => h) ?_
  refine W.seq ?_
  refine W.region (by kernel_rfl) ?_
  obtain ⟨w18, hw18, h⟩ := bind_some h
  refine WO.callK 1 (F := 23) (l := [l43 none a1]) (C := []) (r := .tup [l3 none w18.1, .int .i64 w18.2]) (by kernel_rfl) (by kernel_rfl) (run_rf5_Cycle fuel a1 w18 hw18) (e1 := [(0, l43 none a1), (3, l3 none w5.1), (4, .int .i64 w5.2), (5, l3 none w8.1), (6, .int .i64 w8.2), (7, l3 none w16.1), (8, .int .i64 w16.2), (49, l43 none a1), (50, .tup [l3 none w18.1, .int .i64 w18.2])]) (by kernel_rfl) ?_
  refine WO.fin [3, 4, 5, 6, 7, 8, 9, 10] [] [] [] (e2 := [(3, l3 none w5.1), (4, .int .i64 w5.2), (5, l3 none w8.1), (6, .int .i64 w8.2), (7, l3 none w16.1), (8, .int .i64 w16.2), (9, l3 none w18.1), (10, .int .i64 w18.2)]) (by kernel_rfl) (fun _ h => h) ?_
  refine W.seq ?_
  refine W.join (σ := (Bool)) (fun s => [(2, .bool s)]) (fun s => (lw5_HistoryOrders_j19) s = some r) (fun s h => ?_) (fun hK19 => ?_)
  · obtain ⟨v23, rfl⟩ : ∃ x, x = s := ⟨s, rfl⟩
    have h : (lw5_HistoryOrders_j19) v23 = some r := h
    unfold lw5_HistoryOrders_j19 at h
    refine W.weak [2] [] [] [] (env' := [(2, .bool v23)]) (by kernel_rfl) ?_
    have hr : aresults Try.prog Try.f3 [(2, .bool v23)] = some (.bool v23) := by kernel_rfl
    cases h
    exact W.ret hr
  refine W.region (by kernel_rfl) ?_
  obtain ⟨w20, hw20, h⟩ := bind_some h
  refine WO.callK 2 (F := 24) (l := [l3 none w5.1, l3 none w16.1]) (C := []) (r := .bool w20) (by kernel_rfl) (by kernel_rfl) (run_sl_Equal_int w5.1 w16.1 w20 hw20) (e1 := [(3, l3 none w5.1), (4, .int .i64 w5.2), (5, l3 none w8.1), (6, .int .i64 w8.2), (7, l3 none w16.1), (8, .int .i64 w16.2), (9, l3 none w18.1), (10, .int .i64 w18.2), (53, l3 none w5.1), (54, l3 none w16.1), (55, .bool w20)]) (by kernel_rfl) ?_
  refine WO.boolK 1 (fun b => [(3, l3 none w5.1), (4, .int .i64 w5.2), (5, l3 none w8.1), (6, .int .i64 w8.2), (7, l3 none w16.1), (8, .int .i64 w16.2), (9, l3 none w18.1), (10, .int .i64 w18.2), (53, l3 none w5.1), (54, l3 none w16.1), (55, .bool b), (56, .bool b)]) w20 (by kernel_rfl) (fun hb => ?_) (fun hb => ?_)
  · replace h := cond_t hb h
    refine WO.boolK 5 (fun b => [(3, l3 none w5.1), (4, .int .i64 w5.2), (5, l3 none w8.1), (6, .int .i64 w8.2), (7, l3 none w16.1), (8, .int .i64 w16.2), (9, l3 none w18.1), (10, .int .i64 w18.2), (53, l3 none w5.1), (54, l3 none w16.1), (55, .bool true), (56, .bool true), (57, .int .i64 w5.2), (58, .int .i64 w16.2), (59, .bool b), (60, .bool b), (61, .bool b)]) (w5.2 == w16.2) (by kernel_rfl) (fun hb => ?_) (fun hb => ?_)
    · replace h := cond_t hb h
      obtain ⟨w21, hw21, h⟩ := bind_some h
      refine WO.callK 2 (F := 24) (l := [l3 none w8.1, l3 none w18.1]) (C := []) (r := .bool w21) (by kernel_rfl) (by kernel_rfl) (run_sl_Equal_int w8.1 w18.1 w21 hw21) (e1 := [(3, l3 none w5.1), (4, .int .i64 w5.2), (5, l3 none w8.1), (6, .int .i64 w8.2), (7, l3 none w16.1), (8, .int .i64 w16.2), (9, l3 none w18.1), (10, .int .i64 w18.2), (53, l3 none w5.1), (54, l3 none w16.1), (55, .bool true), (56, .bool true), (57, .int .i64 w5.2), (58, .int .i64 w16.2), (59, .bool true), (60, .bool true), (61, .bool true), (62, l3 none w8.1), (63, l3 none w18.1), (64, .bool w21)]) (by kernel_rfl) ?_
      refine WO.boolK 2 (fun b => [(3, l3 none w5.1), (4, .int .i64 w5.2), (5, l3 none w8.1), (6, .int .i64 w8.2), (7, l3 none w16.1), (8, .int .i64 w16.2), (9, l3 none w18.1), (10, .int .i64 w18.2), (53, l3 none w5.1), (54, l3 none w16.1), (55, .bool true), (56, .bool true), (57, .int .i64 w5.2), (58, .int .i64 w16.2), (59, .bool true), (60, .bool true), (61, .bool true), (62, l3 none w8.1), (63, l3 none w18.1), (64, .bool b), (65, .bool b), (66, .bool b)]) w21 (by kernel_rfl) (fun hb => ?_) (fun hb => ?_)
      · replace h := cond_t hb h
        refine WO.boolK 5 (fun b => [(3, l3 none w5.1), (4, .int .i64 w5.2), (5, l3 none w8.1), (6, .int .i64 w8.2), (7, l3 none w16.1), (8, .int .i64 w16.2), (9, l3 none w18.1), (10, .int .i64 w18.2), (53, l3 none w5.1), (54, l3 none w16.1), (55, .bool true), (56, .bool true), (57, .int .i64 w5.2), (58, .int .i64 w16.2), (59, .bool true), (60, .bool true), (61, .bool true), (62, l3 none w8.1), (63, l3 none w18.1), (64, .bool true), (65, .bool true), (66, .bool true), (67, .int .i64 w8.2), (68, .int .i64 w18.2), (69, .bool b), (70, .bool b), (71, .bool b)]) (w8.2 == w18.2) (by kernel_rfl) (fun hb => ?_) (fun hb => ?_)
        · replace h := cond_t hb h
          obtain ⟨w22, hw22, h⟩ := bind_some h
          refine WO.callK 0 (F := 21) (l := []) (C := []) (r := .bool w22) (by kernel_rfl) (by kernel_rfl) (run_lw5_awake fuel w22 hw22) (e1 := [(3, l3 none w5.1), (4, .int .i64 w5.2), (5, l3 none w8.1), (6, .int .i64 w8.2), (7, l3 none w16.1), (8, .int .i64 w16.2), (9, l3 none w18.1), (10, .int .i64 w18.2), (53, l3 none w5.1), (54, l3 none w16.1), (55, .bool true), (56, .bool true), (57, .int .i64 w5.2), (58, .int .i64 w16.2), (59, .bool true), (60, .bool true), (61, .bool true), (62, l3 none w8.1), (63, l3 none w18.1), (64, .bool true), (65, .bool true), (66, .bool true), (67, .int .i64 w8.2), (68, .int .i64 w18.2), (69, .bool true), (70, .bool true), (71, .bool true), (72, .bool w22)]) (by kernel_rfl) ?_
          refine WO.fin [2] [] [] [] (e2 := [(2, .bool w22)]) (by kernel_rfl) (fun _ h => h) ?_
          exact hK19 w22 h
        replace h := cond_f hb h
        refine WO.fin [2] [] [] [] (e2 := [(2, .bool false)]) (by kernel_rfl) (fun _ h => h) ?_
        exact hK19 false h
      replace h := cond_f hb h
      refine WO.fin [2] [] [] [] (e2 := [(2, .bool false)]) (by kernel_rfl) (fun _ h => h) ?_
      exact hK19 false h
    replace h := cond_f hb h
    refine WO.fin [2] [] [] [] (e2 := [(2, .bool false)]) (by kernel_rfl) (fun _ h => h) ?_
    exact hK19 false h
  replace h := cond_f hb h
  refine WO.fin [2] [] [] [] (e2 := [(2, .bool false)]) (by kernel_rfl) (fun _ h => h) ?_
  exact hK19 false h

end Go.AM
