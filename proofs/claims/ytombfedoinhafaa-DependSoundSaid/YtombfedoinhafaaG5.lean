/- PRINTED by gen.py: pure functions and the proofs that the code computes them. No statement of the seat is proved here. -/
import Derived.Test.YtombfedoinhafaaG4
set_option linter.unusedVariables false
namespace Go.AM
open Go.Proofs
def dp_Prove_j15 (a3 : dpDep) (v40 : (List dpStep)) (v41 : Int) : Option ((List dpStep) × Int) :=
  (chk (capOk 40 ((v40 ++ [(dpStep.mk 1 0 0 (dpDep.mk v41 a3.f_To)), (dpStep.mk 3 (IntKind.wrap .i64 ((v40.length : Int) - 1)) (IntKind.wrap .i64 ((IntKind.wrap .i64 ((v40.length : Int) - 1)) + 1)) a3)])).length) (some ((v40 ++ [(dpStep.mk 1 0 0 (dpDep.mk v41 a3.f_To)), (dpStep.mk 3 (IntKind.wrap .i64 ((v40.length : Int) - 1)) (IntKind.wrap .i64 ((IntKind.wrap .i64 ((v40.length : Int) - 1)) + 1)) a3)]), 0)))
def dp_Prove_j27 (N2 : ((List dpStep) → Int → Bool → Option ((List dpStep) × Int))) (v37 : (List dpStep)) (v38 : Int) (v39 : Bool) : Option ((List dpStep) × Int) :=
  (N2 v37 v38 v39)
def dp_Prove_j30 (k2 : Nat) (x2 : dpDep) (a3 : dpDep) (v24 : (List dpStep)) (v25 : Int) (v26 : Bool) (K27 : ((List dpStep) → Int → Bool → Option ((List dpStep) × Int))) (v31 : Bool) : Option ((List dpStep) × Int) :=
  (bif v31 then (K27 v24 v25 v26) else (chk (capOk 40 ((v24 ++ [(dpStep.mk 0 (k2 : Int) 0 x2), (dpStep.mk 2 (IntKind.wrap .i64 ((IntKind.wrap .i64 ((v24.length : Int) - 1)) + 1)) v25 (dpDep.mk (iOr .i64 x2.f_From v25) (iOr .i64 v25 x2.f_To))), (dpStep.mk 3 (IntKind.wrap .i64 ((v24.length : Int) - 1)) (IntKind.wrap .i64 ((IntKind.wrap .i64 ((v24.length : Int) - 1)) + 2)) (dpDep.mk a3.f_From (iOr .i64 v25 x2.f_To)))])).length) (K27 (v24 ++ [(dpStep.mk 0 (k2 : Int) 0 x2), (dpStep.mk 2 (IntKind.wrap .i64 ((IntKind.wrap .i64 ((v24.length : Int) - 1)) + 1)) v25 (dpDep.mk (iOr .i64 x2.f_From v25) (iOr .i64 v25 x2.f_To))), (dpStep.mk 3 (IntKind.wrap .i64 ((v24.length : Int) - 1)) (IntKind.wrap .i64 ((IntKind.wrap .i64 ((v24.length : Int) - 1)) + 2)) (dpDep.mk a3.f_From (iOr .i64 v25 x2.f_To)))]) (iOr .i64 v25 x2.f_To) true)))
def dp_Prove_l2 (a3 : dpDep) (N1 : ((List dpStep) → Int → Bool → Option ((List dpStep) × Int))) : List dpDep → Nat → (List dpStep) → Int → Bool → Option ((List dpStep) × Int)
  | [], k2, v24, v25, v26 => (N1 v24 v25 v26)
  | x2 :: r2, k2, v24, v25, v26 => (bif ((iAndNot .i64 x2.f_From v25) != 0) then ((dp_Prove_j30 k2 x2 a3 v24 v25 v26 (dp_Prove_j27 (dp_Prove_l2 a3 N1 r2 (k2 + 1)))) true) else ((dp_Prove_j30 k2 x2 a3 v24 v25 v26 (dp_Prove_j27 (dp_Prove_l2 a3 N1 r2 (k2 + 1)))) ((iAndNot .i64 x2.f_To v25) == 0)))
def dp_Prove_l1 (a2 : (List dpDep)) (a3 : dpDep) (K15 : ((List dpStep) → Int → Option ((List dpStep) × Int))) : Nat → (List dpStep) → Int → Bool → Option ((List dpStep) × Int)
  | 0, _, _, _ => none
  | m1 + 1, v17, v18, v19 => (bif v19 then (chk (lenOk a2) (dp_Prove_l2 a3 (dp_Prove_l1 a2 a3 K15 m1) a2 0 v17 v18 false)) else (K15 v17 v18))
def dp_Prove (fuel : Nat) (a1 : Int) (a2 : (List dpDep)) (a3 : dpDep) : Option ((List dpStep) × Int) :=
  ((dp_Follows fuel a1 a2 a3).bind fun w6 => (bif (w6.2 != 0) then (some (([] : (List dpStep)), w6.2)) else (bif (!w6.1) then (some (([] : (List dpStep)), 5)) else (dp_Prove_l1 a2 a3 (dp_Prove_j15 a3) fuel [(dpStep.mk 1 0 0 (dpDep.mk a3.f_From a3.f_From))] a3.f_From true))))
theorem run_dp_Prove (fuel : Nat) (a1 : Int) (a2 : (List dpDep)) (a3 : dpDep) (r : ((List dpStep) × Int)) (h : dp_Prove fuel a1 a2 a3 = some r) : Run Try.prog (.call 30 [.int .i64 a1, l33 none a2, .agg [.int .i64 a3.f_From, .int .i64 a3.f_To]] (.tup [l58 none r.1, .int .i64 r.2])) := by
  refine call_of_W Try.func30 rfl (by kernel_rfl) (env0 := [(0, .int .i64 a1), (1, l33 none a2), (2, .agg [.int .i64 a3.f_From, .int .i64 a3.f_To])]) (by kernel_rfl) ?_
  unfold dp_Prove at h
  refine W.seq ?_
  refine W.regT [0, 1, 5] [5] [] [] (e2 := [(0, .int .i64 a1), (1, l33 none a2), (5, .ptr (.agg [.int .i64 a3.f_From, .int .i64 a3.f_To]))]) (by kernel_rfl) (by kernel_rfl) (fun _ h => h) ?_
  refine W.seq ?_
  refine W.region (by kernel_rfl) ?_
  obtain ⟨w6, hw6, h⟩ := bind_some h
  refine WO.callK 3 (F := 22) (l := [.int .i64 a1, l33 none a2, .agg [.int .i64 a3.f_From, .int .i64 a3.f_To]]) (C := []) (r := .tup [.bool w6.1, .int .i64 w6.2]) (by kernel_rfl) (by kernel_rfl) (run_dp_Follows fuel a1 a2 a3 w6 hw6) (e1 := [(0, .int .i64 a1), (1, l33 none a2), (5, .ptr (.agg [.int .i64 a3.f_From, .int .i64 a3.f_To])), (19, .int .i64 a1), (20, l33 none a2), (21, .agg [.int .i64 a3.f_From, .int .i64 a3.f_To]), (22, .tup [.bool w6.1, .int .i64 w6.2])]) (by kernel_rfl) ?_
  refine WO.fin [1, 5, 8, 9] [] [] [] (e2 := [(1, l33 none a2), (5, .ptr (.agg [.int .i64 a3.f_From, .int .i64 a3.f_To])), (8, .bool w6.1), (9, .int .i64 w6.2)]) (by kernel_rfl) (fun _ h => h) ?_
  refine W.seq ?_
  refine W.seq ?_
  refine W.regT [1, 5, 8, 9, 26] [] [] [] (e2 := [(1, l33 none a2), (5, .ptr (.agg [.int .i64 a3.f_From, .int .i64 a3.f_To])), (8, .bool w6.1), (9, .int .i64 w6.2), (26, .bool (w6.2 != 0))]) (by kernel_rfl) (by kernel_rfl) (fun _ h => h) ?_
  refine W.condB (w6.2 != 0) (by kernel_rfl) (fun hb => ?_) (fun hb => ?_)
  · replace h := cond_t hb h
    refine W.seq ?_
    refine W.regT [6, 7] [] [] [] (e2 := [(6, .nils), (7, .int .i64 w6.2)]) (by kernel_rfl) (by kernel_rfl) (fun _ h => h) ?_
    refine W.weak [6, 7] [] [(6, 0, 58, 5, 70006)] [] (env' := [(6, l58 (some 70006) ([] : (List dpStep))), (7, .int .i64 w6.2)]) (by kernel_rfl) ?_
    have hr : aresults Try.prog Try.f30 [(6, l58 (some 70006) ([] : (List dpStep))), (7, .int .i64 w6.2)] = some (.tup [l58 none ([] : (List dpStep)), .int .i64 w6.2]) := by kernel_rfl
    cases h
    exact W.ret hr
  replace h := cond_f hb h
  refine W.skip ?_
  refine W.weak [1, 5, 8] [] [] [] (env' := [(1, l33 none a2), (5, .ptr (.agg [.int .i64 a3.f_From, .int .i64 a3.f_To])), (8, .bool w6.1)]) (by kernel_rfl) ?_
  refine W.seq ?_
  refine W.seq ?_
  refine W.regT [1, 5, 29] [] [] [] (e2 := [(1, l33 none a2), (5, .ptr (.agg [.int .i64 a3.f_From, .int .i64 a3.f_To])), (29, .bool (!w6.1))]) (by kernel_rfl) (by kernel_rfl) (fun _ h => h) ?_
  refine W.condB (!w6.1) (by kernel_rfl) (fun hb => ?_) (fun hb => ?_)
  · replace h := cond_t hb h
    refine W.seq ?_
    refine W.regT [6, 7] [] [] [] (e2 := [(6, .nils), (7, .int .i64 5)]) (by kernel_rfl) (by kernel_rfl) (fun _ h => h) ?_
    refine W.weak [6, 7] [] [(6, 0, 58, 5, 70006)] [] (env' := [(6, l58 (some 70006) ([] : (List dpStep))), (7, .int .i64 5)]) (by kernel_rfl) ?_
    have hr : aresults Try.prog Try.f30 [(6, l58 (some 70006) ([] : (List dpStep))), (7, .int .i64 5)] = some (.tup [l58 none ([] : (List dpStep)), .int .i64 5]) := by kernel_rfl
    cases h
    exact W.ret hr
  replace h := cond_f hb h
  refine W.skip ?_
  refine W.weak [1, 5] [] [] [] (env' := [(1, l33 none a2), (5, .ptr (.agg [.int .i64 a3.f_From, .int .i64 a3.f_To]))]) (by kernel_rfl) ?_
  refine W.seq ?_
  refine W.regT [1, 5, 10] [] [] [] (e2 := [(1, l33 none a2), (5, .ptr (.agg [.int .i64 a3.f_From, .int .i64 a3.f_To])), (10, l58 (some 36) [(dpStep.mk 1 0 0 (dpDep.mk a3.f_From a3.f_From))])]) (by kernel_rfl) (by kernel_rfl) (fun _ h => h) ?_
  refine W.seq ?_
  refine W.regT [1, 5, 10, 11] [] [] [] (e2 := [(1, l33 none a2), (5, .ptr (.agg [.int .i64 a3.f_From, .int .i64 a3.f_To])), (10, l58 (some 36) [(dpStep.mk 1 0 0 (dpDep.mk a3.f_From a3.f_From))]), (11, .int .i64 a3.f_From)]) (by kernel_rfl) (by kernel_rfl) (fun _ h => h) ?_
  refine W.seq ?_
  refine W.join (σ := ((List dpStep) × Int)) (fun s => [(5, .ptr (.agg [.int .i64 a3.f_From, .int .i64 a3.f_To])), (10, l58 (some 11000) s.1), (11, .int .i64 s.2)]) (fun s => (dp_Prove_j15 a3) s.1 s.2 = some r) (fun s h => ?_) (fun hK15 => ?_)
  · obtain ⟨v40, v41⟩ := s
    have h : (dp_Prove_j15 a3) v40 v41 = some r := h
    unfold dp_Prove_j15 at h
    refine W.seq ?_
    refine W.region (by kernel_rfl) ?_
    refine WO.pureK 1 (some (.int .i64 ((List.map e_dpStep v40).length : Int))) (v := .int .i64 (v40.length : Int)) (by kernel_rfl) (by rw [List.length_map]) (e1 := [(5, .ptr (.agg [.int .i64 a3.f_From, .int .i64 a3.f_To])), (10, l58 (some 11000) v40), (11, .int .i64 v41), (92, l58 (some 11000) v40), (93, .int .i64 (v40.length : Int))]) (by kernel_rfl) ?_
    refine WO.fin [5, 10, 11, 17] [] [] [] (e2 := [(5, .ptr (.agg [.int .i64 a3.f_From, .int .i64 a3.f_To])), (10, l58 (some 11000) v40), (11, .int .i64 v41), (17, .int .i64 (IntKind.wrap .i64 ((v40.length : Int) - 1)))]) (by kernel_rfl) (fun _ h => h) ?_
    refine W.seq ?_
    refine W.region (by kernel_rfl) ?_
    obtain ⟨hc44, h⟩ := chk_some h
    refine WO.appendK 12 (d := 107) (e := 58) (s := 5) (bytes := 40) (xs := (List.map e_dpStep v40)) (ys := (List.map e_dpStep [(dpStep.mk 1 0 0 (dpDep.mk v41 a3.f_To)), (dpStep.mk 3 (IntKind.wrap .i64 ((v40.length : Int) - 1)) (IntKind.wrap .i64 ((IntKind.wrap .i64 ((v40.length : Int) - 1)) + 1)) a3)])) (zs := (List.map e_dpStep (v40 ++ [(dpStep.mk 1 0 0 (dpDep.mk v41 a3.f_To)), (dpStep.mk 3 (IntKind.wrap .i64 ((v40.length : Int) - 1)) (IntKind.wrap .i64 ((IntKind.wrap .i64 ((v40.length : Int) - 1)) + 1)) a3)]))) (env1 := [(5, .ptr (.agg [.int .i64 a3.f_From, .int .i64 a3.f_To])), (10, l58 none v40), (11, .int .i64 v41), (17, .int .i64 (IntKind.wrap .i64 ((v40.length : Int) - 1))), (95, l58 none v40), (96, .int .i64 v41), (97, .ptr (.int .i64 a3.f_To)), (98, .int .i64 a3.f_To), (99, .agg [.int .i64 v41, .int .i64 a3.f_To]), (100, .agg [.int .i64 1, .int .i64 0, .int .i64 0, .int .i64 v41, .int .i64 a3.f_To]), (101, .int .i64 (IntKind.wrap .i64 ((v40.length : Int) - 1))), (102, .int .i64 (IntKind.wrap .i64 ((v40.length : Int) - 1))), (103, .int .i64 (IntKind.wrap .i64 ((IntKind.wrap .i64 ((v40.length : Int) - 1)) + 1))), (104, .agg [.int .i64 a3.f_From, .int .i64 a3.f_To]), (105, .agg [.int .i64 3, .int .i64 (IntKind.wrap .i64 ((v40.length : Int) - 1)), .int .i64 (IntKind.wrap .i64 ((IntKind.wrap .i64 ((v40.length : Int) - 1)) + 1)), .int .i64 a3.f_From, .int .i64 a3.f_To]), (106, l58 (some 106) [(dpStep.mk 1 0 0 (dpDep.mk v41 a3.f_To)), (dpStep.mk 3 (IntKind.wrap .i64 ((v40.length : Int) - 1)) (IntKind.wrap .i64 ((IntKind.wrap .i64 ((v40.length : Int) - 1)) + 1)) a3)])]) (by kernel_rfl) (List.map_append.symm) (by rw [List.length_map]; exact hc44) (e1 := [(5, .ptr (.agg [.int .i64 a3.f_From, .int .i64 a3.f_To])), (10, l58 none v40), (11, .int .i64 v41), (17, .int .i64 (IntKind.wrap .i64 ((v40.length : Int) - 1))), (95, l58 none v40), (96, .int .i64 v41), (97, .ptr (.int .i64 a3.f_To)), (98, .int .i64 a3.f_To), (99, .agg [.int .i64 v41, .int .i64 a3.f_To]), (100, .agg [.int .i64 1, .int .i64 0, .int .i64 0, .int .i64 v41, .int .i64 a3.f_To]), (101, .int .i64 (IntKind.wrap .i64 ((v40.length : Int) - 1))), (102, .int .i64 (IntKind.wrap .i64 ((v40.length : Int) - 1))), (103, .int .i64 (IntKind.wrap .i64 ((IntKind.wrap .i64 ((v40.length : Int) - 1)) + 1))), (104, .agg [.int .i64 a3.f_From, .int .i64 a3.f_To]), (105, .agg [.int .i64 3, .int .i64 (IntKind.wrap .i64 ((v40.length : Int) - 1)), .int .i64 (IntKind.wrap .i64 ((IntKind.wrap .i64 ((v40.length : Int) - 1)) + 1)), .int .i64 a3.f_From, .int .i64 a3.f_To]), (106, l58 (some 106) [(dpStep.mk 1 0 0 (dpDep.mk v41 a3.f_To)), (dpStep.mk 3 (IntKind.wrap .i64 ((v40.length : Int) - 1)) (IntKind.wrap .i64 ((IntKind.wrap .i64 ((v40.length : Int) - 1)) + 1)) a3)]), (107, l58 (some 107) (v40 ++ [(dpStep.mk 1 0 0 (dpDep.mk v41 a3.f_To)), (dpStep.mk 3 (IntKind.wrap .i64 ((v40.length : Int) - 1)) (IntKind.wrap .i64 ((IntKind.wrap .i64 ((v40.length : Int) - 1)) + 1)) a3)]))]) (by kernel_rfl) ?_
    refine WO.fin [6, 7] [] [] [] (e2 := [(6, l58 (some 107) (v40 ++ [(dpStep.mk 1 0 0 (dpDep.mk v41 a3.f_To)), (dpStep.mk 3 (IntKind.wrap .i64 ((v40.length : Int) - 1)) (IntKind.wrap .i64 ((IntKind.wrap .i64 ((v40.length : Int) - 1)) + 1)) a3)])), (7, .int .i64 0)]) (by kernel_rfl) (fun _ h => h) ?_
    refine W.weak [6, 7] [] [] [] (env' := [(6, l58 (some 107) (v40 ++ [(dpStep.mk 1 0 0 (dpDep.mk v41 a3.f_To)), (dpStep.mk 3 (IntKind.wrap .i64 ((v40.length : Int) - 1)) (IntKind.wrap .i64 ((IntKind.wrap .i64 ((v40.length : Int) - 1)) + 1)) a3)])), (7, .int .i64 0)]) (by kernel_rfl) ?_
    have hr : aresults Try.prog Try.f30 [(6, l58 (some 107) (v40 ++ [(dpStep.mk 1 0 0 (dpDep.mk v41 a3.f_To)), (dpStep.mk 3 (IntKind.wrap .i64 ((v40.length : Int) - 1)) (IntKind.wrap .i64 ((IntKind.wrap .i64 ((v40.length : Int) - 1)) + 1)) a3)])), (7, .int .i64 0)] = some (.tup [l58 none (v40 ++ [(dpStep.mk 1 0 0 (dpDep.mk v41 a3.f_To)), (dpStep.mk 3 (IntKind.wrap .i64 ((v40.length : Int) - 1)) (IntKind.wrap .i64 ((IntKind.wrap .i64 ((v40.length : Int) - 1)) + 1)) a3)]), .int .i64 0]) := by kernel_rfl
    cases h
    exact W.ret hr
  refine W.seq ?_
  refine W.regT [1, 5, 10, 11, 12] [] [] [] (e2 := [(1, l33 none a2), (5, .ptr (.agg [.int .i64 a3.f_From, .int .i64 a3.f_To])), (10, l58 (some 36) [(dpStep.mk 1 0 0 (dpDep.mk a3.f_From a3.f_From))]), (11, .int .i64 a3.f_From), (12, .bool true)]) (by kernel_rfl) (by kernel_rfl) (fun _ h => h) ?_
  refine W.block ?_
  refine W.weak [1, 5, 10, 11, 12] [] [] [(36, some 11000)] (env' := [(1, l33 none a2), (5, .ptr (.agg [.int .i64 a3.f_From, .int .i64 a3.f_To])), (10, l58 (some 11000) [(dpStep.mk 1 0 0 (dpDep.mk a3.f_From a3.f_From))]), (11, .int .i64 a3.f_From), (12, .bool true)]) (by kernel_rfl) ?_
  refine W.fuel (σ := ((List dpStep) × Int × Bool)) (fun s => [(1, l33 none a2), (5, .ptr (.agg [.int .i64 a3.f_From, .int .i64 a3.f_To])), (10, l58 (some 11000) s.1), (11, .int .i64 s.2.1), (12, .bool s.2.2)]) (fun m0 s => dp_Prove_l1 a2 a3 (dp_Prove_j15 a3) m0 s.1 s.2.1 s.2.2 = some r) (fun s h => ?_) (fun m1 s h hN1 => ?_) fuel ([(dpStep.mk 1 0 0 (dpDep.mk a3.f_From a3.f_From))], a3.f_From, true) h
  · obtain ⟨v17, v18, v19⟩ := s
    have h : dp_Prove_l1 a2 a3 (dp_Prove_j15 a3) 0 v17 v18 v19 = some r := h
    rw [dp_Prove_l1.eq_1] at h
    cases h
  · obtain ⟨v17, v18, v19⟩ := s
    have h : dp_Prove_l1 a2 a3 (dp_Prove_j15 a3) (m1 + 1) v17 v18 v19 = some r := h
    rw [dp_Prove_l1.eq_2] at h
    refine W.seq ?_
    refine W.seq ?_
    refine W.regT [1, 5, 10, 11, 39] [] [] [] (e2 := [(1, l33 none a2), (5, .ptr (.agg [.int .i64 a3.f_From, .int .i64 a3.f_To])), (10, l58 (some 11000) v17), (11, .int .i64 v18), (39, .bool v19)]) (by kernel_rfl) (by kernel_rfl) (fun _ h => h) ?_
    refine W.condB v19 (by kernel_rfl) (fun hb => ?_) (fun hb => ?_)
    · replace h := cond_t hb h
      refine W.skip ?_
      refine W.weak [1, 5, 10, 11] [] [] [] (env' := [(1, l33 none a2), (5, .ptr (.agg [.int .i64 a3.f_From, .int .i64 a3.f_To])), (10, l58 (some 11000) v17), (11, .int .i64 v18)]) (by kernel_rfl) ?_
      refine W.block ?_
      refine W.seq ?_
      refine W.regT [1, 5, 10, 11, 12] [] [] [] (e2 := [(1, l33 none a2), (5, .ptr (.agg [.int .i64 a3.f_From, .int .i64 a3.f_To])), (10, l58 (some 11000) v17), (11, .int .i64 v18), (12, .bool false)]) (by kernel_rfl) (by kernel_rfl) (fun _ h => h) ?_
      refine W.seq ?_
      refine W.region (by kernel_rfl) ?_
      refine WO.pureK 1 (some (.int .i64 ((List.map e_dpDep a2).length : Int))) (v := .int .i64 (a2.length : Int)) (by kernel_rfl) (by rw [List.length_map]) (e1 := [(1, l33 none a2), (5, .ptr (.agg [.int .i64 a3.f_From, .int .i64 a3.f_To])), (10, l58 (some 11000) v17), (11, .int .i64 v18), (12, .bool false), (40, l33 none a2), (41, .int .i64 (a2.length : Int))]) (by kernel_rfl) ?_
      refine WO.fin [1, 5, 10, 11, 12, 40, 41, 42] [] [] [] (e2 := [(1, l33 none a2), (5, .ptr (.agg [.int .i64 a3.f_From, .int .i64 a3.f_To])), (10, l58 (some 11000) v17), (11, .int .i64 v18), (12, .bool false), (40, l33 none a2), (41, .int .i64 (a2.length : Int)), (42, .int .i64 0)]) (by kernel_rfl) (fun _ h => h) ?_
      refine W.block ?_
      obtain ⟨hl2, h⟩ := chk_some h
      refine W.weak [1, 5, 10, 11, 12, 40, 41, 42] [] [] [] (env' := [(1, l33 none a2), (5, .ptr (.agg [.int .i64 a3.f_From, .int .i64 a3.f_To])), (10, l58 (some 11000) v17), (11, .int .i64 v18), (12, .bool false), (40, l33 none a2), (41, .int .i64 (a2.length : Int)), (42, .int .i64 ((0 : Nat) : Int))]) (by kernel_rfl) ?_
      refine W.range (σ := ((List dpStep) × Int × Bool)) a2 (fun k2 s => [(1, l33 none a2), (5, .ptr (.agg [.int .i64 a3.f_From, .int .i64 a3.f_To])), (10, l58 (some 11000) s.1), (11, .int .i64 s.2.1), (12, .bool s.2.2), (40, l33 none a2), (41, .int .i64 (a2.length : Int)), (42, .int .i64 (k2 : Int))]) (fun r0 k0 s => dp_Prove_l2 a3 (dp_Prove_l1 a2 a3 (dp_Prove_j15 a3) m1) r0 k0 s.1 s.2.1 s.2.2 = some r) (fun s h => ?_) (fun x2 r2 k2 s hx2 hk2 h hN2 => ?_) (v17, v18, false) h
      · obtain ⟨v24, v25, v26⟩ := s
        have h : dp_Prove_l2 a3 (dp_Prove_l1 a2 a3 (dp_Prove_j15 a3) m1) [] (a2).length v24 v25 v26 = some r := h
        rw [dp_Prove_l2.eq_1] at h
        refine W.seq ?_
        refine W.region (by kernel_rfl) ?_
        refine WO.pureK 0 (some (.bool (decide (((a2).length : Int) < (a2.length : Int))))) (v := .bool false) (by kernel_rfl) (by rw [lt_false (l := a2)]) (e1 := [(1, l33 none a2), (5, .ptr (.agg [.int .i64 a3.f_From, .int .i64 a3.f_To])), (10, l58 (some 11000) v24), (11, .int .i64 v25), (12, .bool v26), (40, l33 none a2), (41, .int .i64 (a2.length : Int)), (42, .int .i64 ((a2).length : Int)), (43, .bool false)]) (by kernel_rfl) ?_
        refine WO.fin ([1, 5, 10, 11, 12, 40, 41, 42, 43]) [] [] [] (e2 := [(1, l33 none a2), (5, .ptr (.agg [.int .i64 a3.f_From, .int .i64 a3.f_To])), (10, l58 (some 11000) v24), (11, .int .i64 v25), (12, .bool v26), (40, l33 none a2), (41, .int .i64 (a2.length : Int)), (42, .int .i64 ((a2).length : Int)), (43, .bool false)]) (by kernel_rfl) (fun _ h => h) ?_
        refine W.seq ?_
        refine W.condB false (by kernel_rfl) (fun h => Bool.noConfusion h) (fun _ => ?_)
        refine W.exit ?_
        refine W.weak [1, 5, 10, 11, 12] [] [] [] (env' := [(1, l33 none a2), (5, .ptr (.agg [.int .i64 a3.f_From, .int .i64 a3.f_To])), (10, l58 (some 11000) v24), (11, .int .i64 v25), (12, .bool v26)]) (by kernel_rfl) ?_
        exact hN1 (v24, v25, v26) h
      · obtain ⟨v24, v25, v26⟩ := s
        have h : dp_Prove_l2 a3 (dp_Prove_l1 a2 a3 (dp_Prove_j15 a3) m1) (x2 :: r2) k2 v24 v25 v26 = some r := h
        rw [dp_Prove_l2.eq_2] at h
        refine W.seq ?_
        refine W.region (by kernel_rfl) ?_
        refine WO.pureK 0 (some (.bool (decide ((k2 : Int) < (a2.length : Int))))) (v := .bool true) (by kernel_rfl) (by rw [lt_true hk2]) (e1 := [(1, l33 none a2), (5, .ptr (.agg [.int .i64 a3.f_From, .int .i64 a3.f_To])), (10, l58 (some 11000) v24), (11, .int .i64 v25), (12, .bool v26), (40, l33 none a2), (41, .int .i64 (a2.length : Int)), (42, .int .i64 (k2 : Int)), (43, .bool true)]) (by kernel_rfl) ?_
        refine WO.fin ([1, 5, 10, 11, 12, 40, 41, 42, 43]) [] [] [] (e2 := [(1, l33 none a2), (5, .ptr (.agg [.int .i64 a3.f_From, .int .i64 a3.f_To])), (10, l58 (some 11000) v24), (11, .int .i64 v25), (12, .bool v26), (40, l33 none a2), (41, .int .i64 (a2.length : Int)), (42, .int .i64 (k2 : Int)), (43, .bool true)]) (by kernel_rfl) (fun _ h => h) ?_
        refine W.seq ?_
        refine W.condB true (by kernel_rfl) (fun _ => ?_) (fun h => Bool.noConfusion h)
        refine W.skip ?_
        refine W.weak [1, 5, 10, 11, 12, 40, 41, 42] [] [] [] (env' := [(1, l33 none a2), (5, .ptr (.agg [.int .i64 a3.f_From, .int .i64 a3.f_To])), (10, l58 (some 11000) v24), (11, .int .i64 v25), (12, .bool v26), (40, l33 none a2), (41, .int .i64 (a2.length : Int)), (42, .int .i64 (k2 : Int))]) (by kernel_rfl) ?_
        refine W.seq ?_
        refine W.join (σ := ((List dpStep) × Int × Bool)) (fun s => [(1, l33 none a2), (5, .ptr (.agg [.int .i64 a3.f_From, .int .i64 a3.f_To])), (10, l58 (some 11000) s.1), (11, .int .i64 s.2.1), (12, .bool s.2.2), (40, l33 none a2), (41, .int .i64 (a2.length : Int)), (42, .int .i64 (k2 : Int))]) (fun s => (dp_Prove_j27 (dp_Prove_l2 a3 (dp_Prove_l1 a2 a3 (dp_Prove_j15 a3) m1) r2 (k2 + 1))) s.1 s.2.1 s.2.2 = some r) (fun s h => ?_) (fun hK27 => ?_)
        · obtain ⟨v37, v38, v39⟩ := s
          have h : (dp_Prove_j27 (dp_Prove_l2 a3 (dp_Prove_l1 a2 a3 (dp_Prove_j15 a3) m1) r2 (k2 + 1))) v37 v38 v39 = some r := h
          unfold dp_Prove_j27 at h
          refine W.region (by kernel_rfl) ?_
          refine WO.pureK 0 (some (.int .i64 (IntKind.wrap .i64 ((k2 : Int) + 1)))) (v := .int .i64 ((k2 + 1 : Nat) : Int)) (by kernel_rfl) (by rw [wrap_succ hl2 hk2]) (e1 := [(1, l33 none a2), (5, .ptr (.agg [.int .i64 a3.f_From, .int .i64 a3.f_To])), (10, l58 (some 11000) v37), (11, .int .i64 v38), (12, .bool v39), (40, l33 none a2), (41, .int .i64 (a2.length : Int)), (42, .int .i64 (k2 : Int)), (91, .int .i64 ((k2 + 1 : Nat) : Int))]) (by kernel_rfl) ?_
          refine WO.fin [1, 5, 10, 11, 12, 40, 41, 42] [] [] [] (e2 := [(1, l33 none a2), (5, .ptr (.agg [.int .i64 a3.f_From, .int .i64 a3.f_To])), (10, l58 (some 11000) v37), (11, .int .i64 v38), (12, .bool v39), (40, l33 none a2), (41, .int .i64 (a2.length : Int)), (42, .int .i64 ((k2 + 1 : Nat) : Int))]) (by kernel_rfl) (fun _ h => h) ?_
          exact hN2 (v37, v38, v39) h
        refine W.block ?_
        refine W.seq ?_
        refine W.region (by kernel_rfl) ?_
        refine WO.pureK 1 (if (0 : Int) ≤ (k2 : Int) then ((List.map e_dpDep a2)[Int.toNat (k2 : Int)]?).map AV.ptr else none) (v := .ptr (.agg [.int .i64 x2.f_From, .int .i64 x2.f_To])) (by kernel_rfl) (idx_nat (f := e_dpDep) hx2) (e1 := [(1, l33 none a2), (5, .ptr (.agg [.int .i64 a3.f_From, .int .i64 a3.f_To])), (10, l58 (some 11000) v24), (11, .int .i64 v25), (12, .bool v26), (40, l33 none a2), (41, .int .i64 (a2.length : Int)), (42, .int .i64 (k2 : Int)), (44, .int .i64 (k2 : Int)), (45, .ptr (.agg [.int .i64 x2.f_From, .int .i64 x2.f_To]))]) (by kernel_rfl) ?_
        refine WO.fin [1, 5, 10, 11, 12, 13, 14, 40, 41, 42] [14] [] [] (e2 := [(1, l33 none a2), (5, .ptr (.agg [.int .i64 a3.f_From, .int .i64 a3.f_To])), (10, l58 (some 11000) v24), (11, .int .i64 v25), (12, .bool v26), (13, .int .i64 (k2 : Int)), (14, .ptr (.agg [.int .i64 x2.f_From, .int .i64 x2.f_To])), (40, l33 none a2), (41, .int .i64 (a2.length : Int)), (42, .int .i64 (k2 : Int))]) (by kernel_rfl) (fun _ h => h) ?_
        refine W.seq ?_
        refine W.seq ?_
        refine W.join (σ := (Bool)) (fun s => [(1, l33 none a2), (5, .ptr (.agg [.int .i64 a3.f_From, .int .i64 a3.f_To])), (10, l58 (some 11000) v24), (11, .int .i64 v25), (12, .bool v26), (13, .int .i64 (k2 : Int)), (14, .ptr (.agg [.int .i64 x2.f_From, .int .i64 x2.f_To])), (40, l33 none a2), (41, .int .i64 (a2.length : Int)), (42, .int .i64 (k2 : Int)), (58, .bool s)]) (fun s => (dp_Prove_j30 k2 x2 a3 v24 v25 v26 (dp_Prove_j27 (dp_Prove_l2 a3 (dp_Prove_l1 a2 a3 (dp_Prove_j15 a3) m1) r2 (k2 + 1)))) s = some r) (fun s h => ?_) (fun hK30 => ?_)
        · obtain ⟨v31, rfl⟩ : ∃ x, x = s := ⟨s, rfl⟩
          have h : (dp_Prove_j30 k2 x2 a3 v24 v25 v26 (dp_Prove_j27 (dp_Prove_l2 a3 (dp_Prove_l1 a2 a3 (dp_Prove_j15 a3) m1) r2 (k2 + 1)))) v31 = some r := h
          unfold dp_Prove_j30 at h
          refine W.condB v31 (by kernel_rfl) (fun hb => ?_) (fun hb => ?_)
          · replace h := cond_t hb h
            refine W.exit ?_
            refine W.weak [1, 5, 10, 11, 12, 40, 41, 42] [] [] [] (env' := [(1, l33 none a2), (5, .ptr (.agg [.int .i64 a3.f_From, .int .i64 a3.f_To])), (10, l58 (some 11000) v24), (11, .int .i64 v25), (12, .bool v26), (40, l33 none a2), (41, .int .i64 (a2.length : Int)), (42, .int .i64 (k2 : Int))]) (by kernel_rfl) ?_
            exact hK27 (v24, v25, v26) h
          replace h := cond_f hb h
          refine W.skip ?_
          refine W.weak [1, 5, 10, 11, 13, 14, 40, 41, 42] [] [] [] (env' := [(1, l33 none a2), (5, .ptr (.agg [.int .i64 a3.f_From, .int .i64 a3.f_To])), (10, l58 (some 11000) v24), (11, .int .i64 v25), (13, .int .i64 (k2 : Int)), (14, .ptr (.agg [.int .i64 x2.f_From, .int .i64 x2.f_To])), (40, l33 none a2), (41, .int .i64 (a2.length : Int)), (42, .int .i64 (k2 : Int))]) (by kernel_rfl) ?_
          refine W.seq ?_
          refine W.region (by kernel_rfl) ?_
          refine WO.pureK 1 (some (.int .i64 ((List.map e_dpStep v24).length : Int))) (v := .int .i64 (v24.length : Int)) (by kernel_rfl) (by rw [List.length_map]) (e1 := [(1, l33 none a2), (5, .ptr (.agg [.int .i64 a3.f_From, .int .i64 a3.f_To])), (10, l58 (some 11000) v24), (11, .int .i64 v25), (13, .int .i64 (k2 : Int)), (14, .ptr (.agg [.int .i64 x2.f_From, .int .i64 x2.f_To])), (40, l33 none a2), (41, .int .i64 (a2.length : Int)), (42, .int .i64 (k2 : Int)), (59, l58 (some 11000) v24), (60, .int .i64 (v24.length : Int))]) (by kernel_rfl) ?_
          refine WO.fin [1, 5, 10, 11, 13, 14, 15, 40, 41, 42] [] [] [] (e2 := [(1, l33 none a2), (5, .ptr (.agg [.int .i64 a3.f_From, .int .i64 a3.f_To])), (10, l58 (some 11000) v24), (11, .int .i64 v25), (13, .int .i64 (k2 : Int)), (14, .ptr (.agg [.int .i64 x2.f_From, .int .i64 x2.f_To])), (15, .int .i64 (IntKind.wrap .i64 ((v24.length : Int) - 1))), (40, l33 none a2), (41, .int .i64 (a2.length : Int)), (42, .int .i64 (k2 : Int))]) (by kernel_rfl) (fun _ h => h) ?_
          refine W.seq ?_
          refine W.regT [1, 5, 10, 11, 13, 14, 15, 16, 40, 41, 42] [] [] [] (e2 := [(1, l33 none a2), (5, .ptr (.agg [.int .i64 a3.f_From, .int .i64 a3.f_To])), (10, l58 (some 11000) v24), (11, .int .i64 v25), (13, .int .i64 (k2 : Int)), (14, .ptr (.agg [.int .i64 x2.f_From, .int .i64 x2.f_To])), (15, .int .i64 (IntKind.wrap .i64 ((v24.length : Int) - 1))), (16, .int .i64 (iOr .i64 v25 x2.f_To)), (40, l33 none a2), (41, .int .i64 (a2.length : Int)), (42, .int .i64 (k2 : Int))]) (by kernel_rfl) (by kernel_rfl) (fun _ h => h) ?_
          refine W.seq ?_
          refine W.region (by kernel_rfl) ?_
          obtain ⟨hc35, h⟩ := chk_some h
          refine WO.appendK 23 (d := 89) (e := 58) (s := 5) (bytes := 40) (xs := (List.map e_dpStep v24)) (ys := (List.map e_dpStep [(dpStep.mk 0 (k2 : Int) 0 x2), (dpStep.mk 2 (IntKind.wrap .i64 ((IntKind.wrap .i64 ((v24.length : Int) - 1)) + 1)) v25 (dpDep.mk (iOr .i64 x2.f_From v25) (iOr .i64 v25 x2.f_To))), (dpStep.mk 3 (IntKind.wrap .i64 ((v24.length : Int) - 1)) (IntKind.wrap .i64 ((IntKind.wrap .i64 ((v24.length : Int) - 1)) + 2)) (dpDep.mk a3.f_From (iOr .i64 v25 x2.f_To)))])) (zs := (List.map e_dpStep (v24 ++ [(dpStep.mk 0 (k2 : Int) 0 x2), (dpStep.mk 2 (IntKind.wrap .i64 ((IntKind.wrap .i64 ((v24.length : Int) - 1)) + 1)) v25 (dpDep.mk (iOr .i64 x2.f_From v25) (iOr .i64 v25 x2.f_To))), (dpStep.mk 3 (IntKind.wrap .i64 ((v24.length : Int) - 1)) (IntKind.wrap .i64 ((IntKind.wrap .i64 ((v24.length : Int) - 1)) + 2)) (dpDep.mk a3.f_From (iOr .i64 v25 x2.f_To)))]))) (env1 := [(1, l33 none a2), (5, .ptr (.agg [.int .i64 a3.f_From, .int .i64 a3.f_To])), (10, l58 none v24), (11, .int .i64 v25), (13, .int .i64 (k2 : Int)), (14, .ptr (.agg [.int .i64 x2.f_From, .int .i64 x2.f_To])), (15, .int .i64 (IntKind.wrap .i64 ((v24.length : Int) - 1))), (16, .int .i64 (iOr .i64 v25 x2.f_To)), (40, l33 none a2), (41, .int .i64 (a2.length : Int)), (42, .int .i64 (k2 : Int)), (66, l58 none v24), (67, .int .i64 (k2 : Int)), (68, .agg [.int .i64 x2.f_From, .int .i64 x2.f_To]), (69, .agg [.int .i64 0, .int .i64 (k2 : Int), .int .i64 0, .int .i64 x2.f_From, .int .i64 x2.f_To]), (70, .int .i64 (IntKind.wrap .i64 ((v24.length : Int) - 1))), (71, .int .i64 (IntKind.wrap .i64 ((IntKind.wrap .i64 ((v24.length : Int) - 1)) + 1))), (72, .int .i64 v25), (73, .ptr (.int .i64 x2.f_From)), (74, .int .i64 x2.f_From), (75, .int .i64 v25), (76, .int .i64 (iOr .i64 x2.f_From v25)), (77, .int .i64 (iOr .i64 v25 x2.f_To)), (78, .agg [.int .i64 (iOr .i64 x2.f_From v25), .int .i64 (iOr .i64 v25 x2.f_To)]), (79, .agg [.int .i64 2, .int .i64 (IntKind.wrap .i64 ((IntKind.wrap .i64 ((v24.length : Int) - 1)) + 1)), .int .i64 v25, .int .i64 (iOr .i64 x2.f_From v25), .int .i64 (iOr .i64 v25 x2.f_To)]), (80, .int .i64 (IntKind.wrap .i64 ((v24.length : Int) - 1))), (81, .int .i64 (IntKind.wrap .i64 ((v24.length : Int) - 1))), (82, .int .i64 (IntKind.wrap .i64 ((IntKind.wrap .i64 ((v24.length : Int) - 1)) + 2))), (83, .ptr (.int .i64 a3.f_From)), (84, .int .i64 a3.f_From), (85, .int .i64 (iOr .i64 v25 x2.f_To)), (86, .agg [.int .i64 a3.f_From, .int .i64 (iOr .i64 v25 x2.f_To)]), (87, .agg [.int .i64 3, .int .i64 (IntKind.wrap .i64 ((v24.length : Int) - 1)), .int .i64 (IntKind.wrap .i64 ((IntKind.wrap .i64 ((v24.length : Int) - 1)) + 2)), .int .i64 a3.f_From, .int .i64 (iOr .i64 v25 x2.f_To)]), (88, l58 (some 88) [(dpStep.mk 0 (k2 : Int) 0 x2), (dpStep.mk 2 (IntKind.wrap .i64 ((IntKind.wrap .i64 ((v24.length : Int) - 1)) + 1)) v25 (dpDep.mk (iOr .i64 x2.f_From v25) (iOr .i64 v25 x2.f_To))), (dpStep.mk 3 (IntKind.wrap .i64 ((v24.length : Int) - 1)) (IntKind.wrap .i64 ((IntKind.wrap .i64 ((v24.length : Int) - 1)) + 2)) (dpDep.mk a3.f_From (iOr .i64 v25 x2.f_To)))])]) (by kernel_rfl) (List.map_append.symm) (by rw [List.length_map]; exact hc35) (e1 := [(1, l33 none a2), (5, .ptr (.agg [.int .i64 a3.f_From, .int .i64 a3.f_To])), (10, l58 none v24), (11, .int .i64 v25), (13, .int .i64 (k2 : Int)), (14, .ptr (.agg [.int .i64 x2.f_From, .int .i64 x2.f_To])), (15, .int .i64 (IntKind.wrap .i64 ((v24.length : Int) - 1))), (16, .int .i64 (iOr .i64 v25 x2.f_To)), (40, l33 none a2), (41, .int .i64 (a2.length : Int)), (42, .int .i64 (k2 : Int)), (66, l58 none v24), (67, .int .i64 (k2 : Int)), (68, .agg [.int .i64 x2.f_From, .int .i64 x2.f_To]), (69, .agg [.int .i64 0, .int .i64 (k2 : Int), .int .i64 0, .int .i64 x2.f_From, .int .i64 x2.f_To]), (70, .int .i64 (IntKind.wrap .i64 ((v24.length : Int) - 1))), (71, .int .i64 (IntKind.wrap .i64 ((IntKind.wrap .i64 ((v24.length : Int) - 1)) + 1))), (72, .int .i64 v25), (73, .ptr (.int .i64 x2.f_From)), (74, .int .i64 x2.f_From), (75, .int .i64 v25), (76, .int .i64 (iOr .i64 x2.f_From v25)), (77, .int .i64 (iOr .i64 v25 x2.f_To)), (78, .agg [.int .i64 (iOr .i64 x2.f_From v25), .int .i64 (iOr .i64 v25 x2.f_To)]), (79, .agg [.int .i64 2, .int .i64 (IntKind.wrap .i64 ((IntKind.wrap .i64 ((v24.length : Int) - 1)) + 1)), .int .i64 v25, .int .i64 (iOr .i64 x2.f_From v25), .int .i64 (iOr .i64 v25 x2.f_To)]), (80, .int .i64 (IntKind.wrap .i64 ((v24.length : Int) - 1))), (81, .int .i64 (IntKind.wrap .i64 ((v24.length : Int) - 1))), (82, .int .i64 (IntKind.wrap .i64 ((IntKind.wrap .i64 ((v24.length : Int) - 1)) + 2))), (83, .ptr (.int .i64 a3.f_From)), (84, .int .i64 a3.f_From), (85, .int .i64 (iOr .i64 v25 x2.f_To)), (86, .agg [.int .i64 a3.f_From, .int .i64 (iOr .i64 v25 x2.f_To)]), (87, .agg [.int .i64 3, .int .i64 (IntKind.wrap .i64 ((v24.length : Int) - 1)), .int .i64 (IntKind.wrap .i64 ((IntKind.wrap .i64 ((v24.length : Int) - 1)) + 2)), .int .i64 a3.f_From, .int .i64 (iOr .i64 v25 x2.f_To)]), (88, l58 (some 88) [(dpStep.mk 0 (k2 : Int) 0 x2), (dpStep.mk 2 (IntKind.wrap .i64 ((IntKind.wrap .i64 ((v24.length : Int) - 1)) + 1)) v25 (dpDep.mk (iOr .i64 x2.f_From v25) (iOr .i64 v25 x2.f_To))), (dpStep.mk 3 (IntKind.wrap .i64 ((v24.length : Int) - 1)) (IntKind.wrap .i64 ((IntKind.wrap .i64 ((v24.length : Int) - 1)) + 2)) (dpDep.mk a3.f_From (iOr .i64 v25 x2.f_To)))]), (89, l58 (some 89) (v24 ++ [(dpStep.mk 0 (k2 : Int) 0 x2), (dpStep.mk 2 (IntKind.wrap .i64 ((IntKind.wrap .i64 ((v24.length : Int) - 1)) + 1)) v25 (dpDep.mk (iOr .i64 x2.f_From v25) (iOr .i64 v25 x2.f_To))), (dpStep.mk 3 (IntKind.wrap .i64 ((v24.length : Int) - 1)) (IntKind.wrap .i64 ((IntKind.wrap .i64 ((v24.length : Int) - 1)) + 2)) (dpDep.mk a3.f_From (iOr .i64 v25 x2.f_To)))]))]) (by kernel_rfl) ?_
          refine WO.fin [1, 5, 10, 16, 40, 41, 42] [] [] [] (e2 := [(1, l33 none a2), (5, .ptr (.agg [.int .i64 a3.f_From, .int .i64 a3.f_To])), (10, l58 (some 89) (v24 ++ [(dpStep.mk 0 (k2 : Int) 0 x2), (dpStep.mk 2 (IntKind.wrap .i64 ((IntKind.wrap .i64 ((v24.length : Int) - 1)) + 1)) v25 (dpDep.mk (iOr .i64 x2.f_From v25) (iOr .i64 v25 x2.f_To))), (dpStep.mk 3 (IntKind.wrap .i64 ((v24.length : Int) - 1)) (IntKind.wrap .i64 ((IntKind.wrap .i64 ((v24.length : Int) - 1)) + 2)) (dpDep.mk a3.f_From (iOr .i64 v25 x2.f_To)))])), (16, .int .i64 (iOr .i64 v25 x2.f_To)), (40, l33 none a2), (41, .int .i64 (a2.length : Int)), (42, .int .i64 (k2 : Int))]) (by kernel_rfl) (fun _ h => h) ?_
          refine W.seq ?_
          refine W.regT [1, 5, 10, 11, 40, 41, 42] [] [] [] (e2 := [(1, l33 none a2), (5, .ptr (.agg [.int .i64 a3.f_From, .int .i64 a3.f_To])), (10, l58 (some 89) (v24 ++ [(dpStep.mk 0 (k2 : Int) 0 x2), (dpStep.mk 2 (IntKind.wrap .i64 ((IntKind.wrap .i64 ((v24.length : Int) - 1)) + 1)) v25 (dpDep.mk (iOr .i64 x2.f_From v25) (iOr .i64 v25 x2.f_To))), (dpStep.mk 3 (IntKind.wrap .i64 ((v24.length : Int) - 1)) (IntKind.wrap .i64 ((IntKind.wrap .i64 ((v24.length : Int) - 1)) + 2)) (dpDep.mk a3.f_From (iOr .i64 v25 x2.f_To)))])), (11, .int .i64 (iOr .i64 v25 x2.f_To)), (40, l33 none a2), (41, .int .i64 (a2.length : Int)), (42, .int .i64 (k2 : Int))]) (by kernel_rfl) (by kernel_rfl) (fun _ h => h) ?_
          refine W.regT [1, 5, 10, 11, 12, 40, 41, 42] [] [] [(89, some 11000)] (e2 := [(1, l33 none a2), (5, .ptr (.agg [.int .i64 a3.f_From, .int .i64 a3.f_To])), (10, l58 (some 11000) (v24 ++ [(dpStep.mk 0 (k2 : Int) 0 x2), (dpStep.mk 2 (IntKind.wrap .i64 ((IntKind.wrap .i64 ((v24.length : Int) - 1)) + 1)) v25 (dpDep.mk (iOr .i64 x2.f_From v25) (iOr .i64 v25 x2.f_To))), (dpStep.mk 3 (IntKind.wrap .i64 ((v24.length : Int) - 1)) (IntKind.wrap .i64 ((IntKind.wrap .i64 ((v24.length : Int) - 1)) + 2)) (dpDep.mk a3.f_From (iOr .i64 v25 x2.f_To)))])), (11, .int .i64 (iOr .i64 v25 x2.f_To)), (12, .bool true), (40, l33 none a2), (41, .int .i64 (a2.length : Int)), (42, .int .i64 (k2 : Int))]) (by kernel_rfl) (by kernel_rfl) (fun _ h => h) ?_
          exact hK27 ((v24 ++ [(dpStep.mk 0 (k2 : Int) 0 x2), (dpStep.mk 2 (IntKind.wrap .i64 ((IntKind.wrap .i64 ((v24.length : Int) - 1)) + 1)) v25 (dpDep.mk (iOr .i64 x2.f_From v25) (iOr .i64 v25 x2.f_To))), (dpStep.mk 3 (IntKind.wrap .i64 ((v24.length : Int) - 1)) (IntKind.wrap .i64 ((IntKind.wrap .i64 ((v24.length : Int) - 1)) + 2)) (dpDep.mk a3.f_From (iOr .i64 v25 x2.f_To)))]), (iOr .i64 v25 x2.f_To), true) h
        refine W.region (by kernel_rfl) ?_
        refine WO.boolK 6 (fun b => [(1, l33 none a2), (5, .ptr (.agg [.int .i64 a3.f_From, .int .i64 a3.f_To])), (10, l58 (some 11000) v24), (11, .int .i64 v25), (12, .bool v26), (13, .int .i64 (k2 : Int)), (14, .ptr (.agg [.int .i64 x2.f_From, .int .i64 x2.f_To])), (40, l33 none a2), (41, .int .i64 (a2.length : Int)), (42, .int .i64 (k2 : Int)), (47, .ptr (.int .i64 x2.f_From)), (48, .int .i64 x2.f_From), (49, .int .i64 v25), (50, .int .i64 (iAndNot .i64 x2.f_From v25)), (51, .bool b), (52, .bool b)]) ((iAndNot .i64 x2.f_From v25) != 0) (by kernel_rfl) (fun hb => ?_) (fun hb => ?_)
        · replace h := cond_t hb h
          refine WO.fin [1, 5, 10, 11, 12, 13, 14, 40, 41, 42, 58] [] [] [] (e2 := [(1, l33 none a2), (5, .ptr (.agg [.int .i64 a3.f_From, .int .i64 a3.f_To])), (10, l58 (some 11000) v24), (11, .int .i64 v25), (12, .bool v26), (13, .int .i64 (k2 : Int)), (14, .ptr (.agg [.int .i64 x2.f_From, .int .i64 x2.f_To])), (40, l33 none a2), (41, .int .i64 (a2.length : Int)), (42, .int .i64 (k2 : Int)), (58, .bool true)]) (by kernel_rfl) (fun _ h => h) ?_
          exact hK30 true h
        replace h := cond_f hb h
        refine WO.fin [1, 5, 10, 11, 12, 13, 14, 40, 41, 42, 58] [] [] [] (e2 := [(1, l33 none a2), (5, .ptr (.agg [.int .i64 a3.f_From, .int .i64 a3.f_To])), (10, l58 (some 11000) v24), (11, .int .i64 v25), (12, .bool v26), (13, .int .i64 (k2 : Int)), (14, .ptr (.agg [.int .i64 x2.f_From, .int .i64 x2.f_To])), (40, l33 none a2), (41, .int .i64 (a2.length : Int)), (42, .int .i64 (k2 : Int)), (58, .bool ((iAndNot .i64 x2.f_To v25) == 0))]) (by kernel_rfl) (fun _ h => h) ?_
        exact hK30 ((iAndNot .i64 x2.f_To v25) == 0) h
    replace h := cond_f hb h
    refine W.exit ?_
    refine W.weak [5, 10, 11] [] [] [] (env' := [(5, .ptr (.agg [.int .i64 a3.f_From, .int .i64 a3.f_To])), (10, l58 (some 11000) v17), (11, .int .i64 v18)]) (by kernel_rfl) ?_
    exact hK15 (v17, v18) h
def rf1_Closure_j4 (v15 : Int) : Option Int :=
  (some v15)
def rf1_Closure_j7 (N1 : (Int → Option Int)) (v14 : Int) : Option Int :=
  (N1 v14)
def rf1_Closure_j10 (N2 : (Int → Option Int)) (v13 : Int) : Option Int :=
  (N2 v13)
def rf1_Closure_l2 (K7 : (Int → Option Int)) : List rf1Dep → Nat → Int → Option Int
  | [], k2, v9 => (K7 v9)
  | x2 :: r2, k2, v9 => (bif ((iAndNot .i64 x2.f_From v9) == 0) then ((rf1_Closure_j10 (rf1_Closure_l2 K7 r2 (k2 + 1))) (iOr .i64 v9 x2.f_To)) else ((rf1_Closure_j10 (rf1_Closure_l2 K7 r2 (k2 + 1))) v9))
def rf1_Closure_l1 (a1 : (List rf1Dep)) (K4 : (Int → Option Int)) : List rf1Dep → Nat → Int → Option Int
  | [], k1, v6 => (K4 v6)
  | x1 :: r1, k1, v6 => (chk (lenOk a1) (rf1_Closure_l2 (rf1_Closure_j7 (rf1_Closure_l1 a1 K4 r1 (k1 + 1))) a1 0 v6))
def rf1_Closure (a1 : (List rf1Dep)) (a2 : Int) : Option Int :=
  (chk (lenOk a1) (rf1_Closure_l1 a1 (rf1_Closure_j4) a1 0 a2))
theorem run_rf1_Closure (a1 : (List rf1Dep)) (a2 : Int) (r : Int) (h : rf1_Closure a1 a2 = some r) : Run Try.prog (.call 38 [l40 none a1, .int .i64 a2] (.int .i64 r)) := by
  refine call_of_W Try.func38 rfl (by kernel_rfl) (env0 := [(0, l40 none a1), (1, .int .i64 a2)]) (by kernel_rfl) ?_
  unfold rf1_Closure at h
  refine W.seq ?_
  refine W.regT [0, 1] [] [] [] (e2 := [(0, l40 none a1), (1, .int .i64 a2)]) (by kernel_rfl) (by kernel_rfl) (fun _ h => h) ?_
  refine W.seq ?_
  refine W.join (σ := (Int)) (fun s => [(1, .int .i64 s)]) (fun s => (rf1_Closure_j4) s = some r) (fun s h => ?_) (fun hK4 => ?_)
  · obtain ⟨v15, rfl⟩ : ∃ x, x = s := ⟨s, rfl⟩
    have h : (rf1_Closure_j4) v15 = some r := h
    unfold rf1_Closure_j4 at h
    refine W.seq ?_
    refine W.regT [4] [] [] [] (e2 := [(4, .int .i64 v15)]) (by kernel_rfl) (by kernel_rfl) (fun _ h => h) ?_
    refine W.weak [4] [] [] [] (env' := [(4, .int .i64 v15)]) (by kernel_rfl) ?_
    have hr : aresults Try.prog Try.f38 [(4, .int .i64 v15)] = some (.int .i64 v15) := by kernel_rfl
    cases h
    exact W.ret hr
  refine W.seq ?_
  refine W.region (by kernel_rfl) ?_
  refine WO.pureK 1 (some (.int .i64 ((List.map e_rf1Dep a1).length : Int))) (v := .int .i64 (a1.length : Int)) (by kernel_rfl) (by rw [List.length_map]) (e1 := [(0, l40 none a1), (1, .int .i64 a2), (7, l40 none a1), (8, .int .i64 (a1.length : Int))]) (by kernel_rfl) ?_
  refine WO.fin [0, 1, 8, 9] [] [] [] (e2 := [(0, l40 none a1), (1, .int .i64 a2), (8, .int .i64 (a1.length : Int)), (9, .int .i64 0)]) (by kernel_rfl) (fun _ h => h) ?_
  refine W.block ?_
  obtain ⟨hl1, h⟩ := chk_some h
  refine W.weak [0, 1, 8, 9] [] [] [] (env' := [(0, l40 none a1), (1, .int .i64 a2), (8, .int .i64 (a1.length : Int)), (9, .int .i64 ((0 : Nat) : Int))]) (by kernel_rfl) ?_
  refine W.range (σ := (Int)) a1 (fun k1 s => [(0, l40 none a1), (1, .int .i64 s), (8, .int .i64 (a1.length : Int)), (9, .int .i64 (k1 : Int))]) (fun r0 k0 s => rf1_Closure_l1 a1 (rf1_Closure_j4) r0 k0 s = some r) (fun s h => ?_) (fun x1 r1 k1 s hx1 hk1 h hN1 => ?_) a2 h
  · obtain ⟨v6, rfl⟩ : ∃ x, x = s := ⟨s, rfl⟩
    have h : rf1_Closure_l1 a1 (rf1_Closure_j4) [] (a1).length v6 = some r := h
    rw [rf1_Closure_l1.eq_1] at h
    refine W.seq ?_
    refine W.region (by kernel_rfl) ?_
    refine WO.pureK 0 (some (.bool (decide (((a1).length : Int) < (a1.length : Int))))) (v := .bool false) (by kernel_rfl) (by rw [lt_false (l := a1)]) (e1 := [(0, l40 none a1), (1, .int .i64 v6), (8, .int .i64 (a1.length : Int)), (9, .int .i64 ((a1).length : Int)), (10, .bool false)]) (by kernel_rfl) ?_
    refine WO.fin ([0, 1, 8, 9, 10]) [] [] [] (e2 := [(0, l40 none a1), (1, .int .i64 v6), (8, .int .i64 (a1.length : Int)), (9, .int .i64 ((a1).length : Int)), (10, .bool false)]) (by kernel_rfl) (fun _ h => h) ?_
    refine W.seq ?_
    refine W.condB false (by kernel_rfl) (fun h => Bool.noConfusion h) (fun _ => ?_)
    refine W.exit ?_
    refine W.weak [1] [] [] [] (env' := [(1, .int .i64 v6)]) (by kernel_rfl) ?_
    exact hK4 v6 h
  · obtain ⟨v6, rfl⟩ : ∃ x, x = s := ⟨s, rfl⟩
    have h : rf1_Closure_l1 a1 (rf1_Closure_j4) (x1 :: r1) k1 v6 = some r := h
    rw [rf1_Closure_l1.eq_2] at h
    refine W.seq ?_
    refine W.region (by kernel_rfl) ?_
    refine WO.pureK 0 (some (.bool (decide ((k1 : Int) < (a1.length : Int))))) (v := .bool true) (by kernel_rfl) (by rw [lt_true hk1]) (e1 := [(0, l40 none a1), (1, .int .i64 v6), (8, .int .i64 (a1.length : Int)), (9, .int .i64 (k1 : Int)), (10, .bool true)]) (by kernel_rfl) ?_
    refine WO.fin ([0, 1, 8, 9, 10]) [] [] [] (e2 := [(0, l40 none a1), (1, .int .i64 v6), (8, .int .i64 (a1.length : Int)), (9, .int .i64 (k1 : Int)), (10, .bool true)]) (by kernel_rfl) (fun _ h => h) ?_
    refine W.seq ?_
    refine W.condB true (by kernel_rfl) (fun _ => ?_) (fun h => Bool.noConfusion h)
    refine W.skip ?_
    refine W.weak [0, 1, 8, 9] [] [] [] (env' := [(0, l40 none a1), (1, .int .i64 v6), (8, .int .i64 (a1.length : Int)), (9, .int .i64 (k1 : Int))]) (by kernel_rfl) ?_
    refine W.seq ?_
    refine W.join (σ := (Int)) (fun s => [(0, l40 none a1), (1, .int .i64 s), (8, .int .i64 (a1.length : Int)), (9, .int .i64 (k1 : Int))]) (fun s => (rf1_Closure_j7 (rf1_Closure_l1 a1 (rf1_Closure_j4) r1 (k1 + 1))) s = some r) (fun s h => ?_) (fun hK7 => ?_)
    · obtain ⟨v14, rfl⟩ : ∃ x, x = s := ⟨s, rfl⟩
      have h : (rf1_Closure_j7 (rf1_Closure_l1 a1 (rf1_Closure_j4) r1 (k1 + 1))) v14 = some r := h
      unfold rf1_Closure_j7 at h
      refine W.region (by kernel_rfl) ?_
      refine WO.pureK 0 (some (.int .i64 (IntKind.wrap .i64 ((k1 : Int) + 1)))) (v := .int .i64 ((k1 + 1 : Nat) : Int)) (by kernel_rfl) (by rw [wrap_succ hl1 hk1]) (e1 := [(0, l40 none a1), (1, .int .i64 v14), (8, .int .i64 (a1.length : Int)), (9, .int .i64 (k1 : Int)), (27, .int .i64 ((k1 + 1 : Nat) : Int))]) (by kernel_rfl) ?_
      refine WO.fin [0, 1, 8, 9] [] [] [] (e2 := [(0, l40 none a1), (1, .int .i64 v14), (8, .int .i64 (a1.length : Int)), (9, .int .i64 ((k1 + 1 : Nat) : Int))]) (by kernel_rfl) (fun _ h => h) ?_
      exact hN1 v14 h
    refine W.block ?_
    refine W.seq ?_
    refine W.region (by kernel_rfl) ?_
    refine WO.pureK 1 (some (.int .i64 ((List.map e_rf1Dep a1).length : Int))) (v := .int .i64 (a1.length : Int)) (by kernel_rfl) (by rw [List.length_map]) (e1 := [(0, l40 none a1), (1, .int .i64 v6), (8, .int .i64 (a1.length : Int)), (9, .int .i64 (k1 : Int)), (11, l40 none a1), (12, .int .i64 (a1.length : Int))]) (by kernel_rfl) ?_
    refine WO.fin [0, 1, 8, 9, 11, 12, 13] [] [] [] (e2 := [(0, l40 none a1), (1, .int .i64 v6), (8, .int .i64 (a1.length : Int)), (9, .int .i64 (k1 : Int)), (11, l40 none a1), (12, .int .i64 (a1.length : Int)), (13, .int .i64 0)]) (by kernel_rfl) (fun _ h => h) ?_
    refine W.block ?_
    obtain ⟨hl2, h⟩ := chk_some h
    refine W.weak [0, 1, 8, 9, 11, 12, 13] [] [] [] (env' := [(0, l40 none a1), (1, .int .i64 v6), (8, .int .i64 (a1.length : Int)), (9, .int .i64 (k1 : Int)), (11, l40 none a1), (12, .int .i64 (a1.length : Int)), (13, .int .i64 ((0 : Nat) : Int))]) (by kernel_rfl) ?_
    refine W.range (σ := (Int)) a1 (fun k2 s => [(0, l40 none a1), (1, .int .i64 s), (8, .int .i64 (a1.length : Int)), (9, .int .i64 (k1 : Int)), (11, l40 none a1), (12, .int .i64 (a1.length : Int)), (13, .int .i64 (k2 : Int))]) (fun r0 k0 s => rf1_Closure_l2 (rf1_Closure_j7 (rf1_Closure_l1 a1 (rf1_Closure_j4) r1 (k1 + 1))) r0 k0 s = some r) (fun s h => ?_) (fun x2 r2 k2 s hx2 hk2 h hN2 => ?_) v6 h
    · obtain ⟨v9, rfl⟩ : ∃ x, x = s := ⟨s, rfl⟩
      have h : rf1_Closure_l2 (rf1_Closure_j7 (rf1_Closure_l1 a1 (rf1_Closure_j4) r1 (k1 + 1))) [] (a1).length v9 = some r := h
      rw [rf1_Closure_l2.eq_1] at h
      refine W.seq ?_
      refine W.region (by kernel_rfl) ?_
      refine WO.pureK 0 (some (.bool (decide (((a1).length : Int) < (a1.length : Int))))) (v := .bool false) (by kernel_rfl) (by rw [lt_false (l := a1)]) (e1 := [(0, l40 none a1), (1, .int .i64 v9), (8, .int .i64 (a1.length : Int)), (9, .int .i64 (k1 : Int)), (11, l40 none a1), (12, .int .i64 (a1.length : Int)), (13, .int .i64 ((a1).length : Int)), (14, .bool false)]) (by kernel_rfl) ?_
      refine WO.fin ([0, 1, 8, 9, 11, 12, 13, 14]) [] [] [] (e2 := [(0, l40 none a1), (1, .int .i64 v9), (8, .int .i64 (a1.length : Int)), (9, .int .i64 (k1 : Int)), (11, l40 none a1), (12, .int .i64 (a1.length : Int)), (13, .int .i64 ((a1).length : Int)), (14, .bool false)]) (by kernel_rfl) (fun _ h => h) ?_
      refine W.seq ?_
      refine W.condB false (by kernel_rfl) (fun h => Bool.noConfusion h) (fun _ => ?_)
      refine W.exit ?_
      refine W.weak [0, 1, 8, 9] [] [] [] (env' := [(0, l40 none a1), (1, .int .i64 v9), (8, .int .i64 (a1.length : Int)), (9, .int .i64 (k1 : Int))]) (by kernel_rfl) ?_
      exact hK7 v9 h
    · obtain ⟨v9, rfl⟩ : ∃ x, x = s := ⟨s, rfl⟩
      have h : rf1_Closure_l2 (rf1_Closure_j7 (rf1_Closure_l1 a1 (rf1_Closure_j4) r1 (k1 + 1))) (x2 :: r2) k2 v9 = some r := h
      rw [rf1_Closure_l2.eq_2] at h
      refine W.seq ?_
      refine W.region (by kernel_rfl) ?_
      refine WO.pureK 0 (some (.bool (decide ((k2 : Int) < (a1.length : Int))))) (v := .bool true) (by kernel_rfl) (by rw [lt_true hk2]) (e1 := [(0, l40 none a1), (1, .int .i64 v9), (8, .int .i64 (a1.length : Int)), (9, .int .i64 (k1 : Int)), (11, l40 none a1), (12, .int .i64 (a1.length : Int)), (13, .int .i64 (k2 : Int)), (14, .bool true)]) (by kernel_rfl) ?_
      refine WO.fin ([0, 1, 8, 9, 11, 12, 13, 14]) [] [] [] (e2 := [(0, l40 none a1), (1, .int .i64 v9), (8, .int .i64 (a1.length : Int)), (9, .int .i64 (k1 : Int)), (11, l40 none a1), (12, .int .i64 (a1.length : Int)), (13, .int .i64 (k2 : Int)), (14, .bool true)]) (by kernel_rfl) (fun _ h => h) ?_
      refine W.seq ?_
      refine W.condB true (by kernel_rfl) (fun _ => ?_) (fun h => Bool.noConfusion h)
      refine W.skip ?_
      refine W.weak [0, 1, 8, 9, 11, 12, 13] [] [] [] (env' := [(0, l40 none a1), (1, .int .i64 v9), (8, .int .i64 (a1.length : Int)), (9, .int .i64 (k1 : Int)), (11, l40 none a1), (12, .int .i64 (a1.length : Int)), (13, .int .i64 (k2 : Int))]) (by kernel_rfl) ?_
      refine W.seq ?_
      refine W.join (σ := (Int)) (fun s => [(0, l40 none a1), (1, .int .i64 s), (8, .int .i64 (a1.length : Int)), (9, .int .i64 (k1 : Int)), (11, l40 none a1), (12, .int .i64 (a1.length : Int)), (13, .int .i64 (k2 : Int))]) (fun s => (rf1_Closure_j10 (rf1_Closure_l2 (rf1_Closure_j7 (rf1_Closure_l1 a1 (rf1_Closure_j4) r1 (k1 + 1))) r2 (k2 + 1))) s = some r) (fun s h => ?_) (fun hK10 => ?_)
      · obtain ⟨v13, rfl⟩ : ∃ x, x = s := ⟨s, rfl⟩
        have h : (rf1_Closure_j10 (rf1_Closure_l2 (rf1_Closure_j7 (rf1_Closure_l1 a1 (rf1_Closure_j4) r1 (k1 + 1))) r2 (k2 + 1))) v13 = some r := h
        unfold rf1_Closure_j10 at h
        refine W.region (by kernel_rfl) ?_
        refine WO.pureK 0 (some (.int .i64 (IntKind.wrap .i64 ((k2 : Int) + 1)))) (v := .int .i64 ((k2 + 1 : Nat) : Int)) (by kernel_rfl) (by rw [wrap_succ hl2 hk2]) (e1 := [(0, l40 none a1), (1, .int .i64 v13), (8, .int .i64 (a1.length : Int)), (9, .int .i64 (k1 : Int)), (11, l40 none a1), (12, .int .i64 (a1.length : Int)), (13, .int .i64 (k2 : Int)), (26, .int .i64 ((k2 + 1 : Nat) : Int))]) (by kernel_rfl) ?_
        refine WO.fin [0, 1, 8, 9, 11, 12, 13] [] [] [] (e2 := [(0, l40 none a1), (1, .int .i64 v13), (8, .int .i64 (a1.length : Int)), (9, .int .i64 (k1 : Int)), (11, l40 none a1), (12, .int .i64 (a1.length : Int)), (13, .int .i64 ((k2 + 1 : Nat) : Int))]) (by kernel_rfl) (fun _ h => h) ?_
        exact hN2 v13 h
      refine W.block ?_
      refine W.seq ?_
      refine W.region (by kernel_rfl) ?_
      refine WO.pureK 0 (if (0 : Int) ≤ (k2 : Int) then ((List.map e_rf1Dep a1)[Int.toNat (k2 : Int)]?).map AV.ptr else none) (v := .ptr (.agg [.int .i64 x2.f_From, .int .i64 x2.f_To])) (by kernel_rfl) (idx_nat (f := e_rf1Dep) hx2) (e1 := [(0, l40 none a1), (1, .int .i64 v9), (8, .int .i64 (a1.length : Int)), (9, .int .i64 (k1 : Int)), (11, l40 none a1), (12, .int .i64 (a1.length : Int)), (13, .int .i64 (k2 : Int)), (15, .ptr (.agg [.int .i64 x2.f_From, .int .i64 x2.f_To]))]) (by kernel_rfl) ?_
      refine WO.fin [0, 1, 6, 8, 9, 11, 12, 13] [6] [] [] (e2 := [(0, l40 none a1), (1, .int .i64 v9), (6, .ptr (.agg [.int .i64 x2.f_From, .int .i64 x2.f_To])), (8, .int .i64 (a1.length : Int)), (9, .int .i64 (k1 : Int)), (11, l40 none a1), (12, .int .i64 (a1.length : Int)), (13, .int .i64 (k2 : Int))]) (by kernel_rfl) (fun _ h => h) ?_
      refine W.seq ?_
      refine W.regT [0, 1, 6, 8, 9, 11, 12, 13, 21] [] [] [] (e2 := [(0, l40 none a1), (1, .int .i64 v9), (6, .ptr (.agg [.int .i64 x2.f_From, .int .i64 x2.f_To])), (8, .int .i64 (a1.length : Int)), (9, .int .i64 (k1 : Int)), (11, l40 none a1), (12, .int .i64 (a1.length : Int)), (13, .int .i64 (k2 : Int)), (21, .bool ((iAndNot .i64 x2.f_From v9) == 0))]) (by kernel_rfl) (by kernel_rfl) (fun _ h => h) ?_
      refine W.condB ((iAndNot .i64 x2.f_From v9) == 0) (by kernel_rfl) (fun hb => ?_) (fun hb => ?_)
      · replace h := cond_t hb h
        refine W.regT [0, 1, 8, 9, 11, 12, 13] [] [] [] (e2 := [(0, l40 none a1), (1, .int .i64 (iOr .i64 v9 x2.f_To)), (8, .int .i64 (a1.length : Int)), (9, .int .i64 (k1 : Int)), (11, l40 none a1), (12, .int .i64 (a1.length : Int)), (13, .int .i64 (k2 : Int))]) (by kernel_rfl) (by kernel_rfl) (fun _ h => h) ?_
        exact hK10 (iOr .i64 v9 x2.f_To) h
      replace h := cond_f hb h
      refine W.skip ?_
      refine W.weak [0, 1, 8, 9, 11, 12, 13] [] [] [] (env' := [(0, l40 none a1), (1, .int .i64 v9), (8, .int .i64 (a1.length : Int)), (9, .int .i64 (k1 : Int)), (11, l40 none a1), (12, .int .i64 (a1.length : Int)), (13, .int .i64 (k2 : Int))]) (by kernel_rfl) ?_
      exact hK10 v9 h
def rf1_Follows (a1 : (List rf1Dep)) (a2 : rf1Dep) : Option Bool :=
  ((rf1_Closure a1 a2.f_From).bind fun w5 => (some ((iAndNot .i64 a2.f_To w5) == 0)))
theorem run_rf1_Follows (a1 : (List rf1Dep)) (a2 : rf1Dep) (r : Bool) (h : rf1_Follows a1 a2 = some r) : Run Try.prog (.call 32 [l40 none a1, .agg [.int .i64 a2.f_From, .int .i64 a2.f_To]] (.bool r)) := by
  refine call_of_W Try.func32 rfl (by kernel_rfl) (env0 := [(0, l40 none a1), (1, .agg [.int .i64 a2.f_From, .int .i64 a2.f_To])]) (by kernel_rfl) ?_
  unfold rf1_Follows at h
  refine W.seq ?_
  refine W.regT [0, 3] [3] [] [] (e2 := [(0, l40 none a1), (3, .ptr (.agg [.int .i64 a2.f_From, .int .i64 a2.f_To]))]) (by kernel_rfl) (by kernel_rfl) (fun _ h => h) ?_
  refine W.seq ?_
  refine W.region (by kernel_rfl) ?_
  obtain ⟨w5, hw5, h⟩ := bind_some h
  refine WO.callK 5 (F := 38) (l := [l40 none a1, .int .i64 a2.f_From]) (C := []) (r := .int .i64 w5) (by kernel_rfl) (by kernel_rfl) (run_rf1_Closure a1 a2.f_From w5 hw5) (e1 := [(0, l40 none a1), (3, .ptr (.agg [.int .i64 a2.f_From, .int .i64 a2.f_To])), (5, .ptr (.int .i64 a2.f_To)), (6, .int .i64 a2.f_To), (7, l40 none a1), (8, .ptr (.int .i64 a2.f_From)), (9, .int .i64 a2.f_From), (10, .int .i64 w5)]) (by kernel_rfl) ?_
  refine WO.fin [4] [] [] [] (e2 := [(4, .bool ((iAndNot .i64 a2.f_To w5) == 0))]) (by kernel_rfl) (fun _ h => h) ?_
  refine W.weak [4] [] [] [] (env' := [(4, .bool ((iAndNot .i64 a2.f_To w5) == 0))]) (by kernel_rfl) ?_
  have hr : aresults Try.prog Try.f32 [(4, .bool ((iAndNot .i64 a2.f_To w5) == 0))] = some (.bool ((iAndNot .i64 a2.f_To w5) == 0)) := by kernel_rfl
  cases h
  exact W.ret hr
def lw1_ownSteps_j4 (v10 : (List rf1Step)) : Option (List rf1Step) :=
  (some v10)
def lw1_ownSteps_l1 (K4 : ((List rf1Step) → Option (List rf1Step))) : List dpStep → Nat → (List rf1Step) → Option (List rf1Step)
  | [], k1, v6 => (K4 v6)
  | x1 :: r1, k1, v6 => (chk (capOk 40 ((v6 ++ [(rf1Step.mk x1.f_Rule x1.f_I x1.f_J (rf1Dep.mk x1.f_Dep.f_From x1.f_Dep.f_To))])).length) ((lw1_ownSteps_l1 K4 r1 (k1 + 1)) (v6 ++ [(rf1Step.mk x1.f_Rule x1.f_I x1.f_J (rf1Dep.mk x1.f_Dep.f_From x1.f_Dep.f_To))])))
def lw1_ownSteps (a1 : (List dpStep)) : Option (List rf1Step) :=
  (chk (lenOk a1) (lw1_ownSteps_l1 (lw1_ownSteps_j4) a1 0 ([] : (List rf1Step))))
theorem run_lw1_ownSteps (a1 : (List dpStep)) (r : (List rf1Step)) (h : lw1_ownSteps a1 = some r) : Run Try.prog (.call 33 [l58 none a1] (l98 (some 1) r)) := by
  refine call_of_W Try.func33 rfl (by kernel_rfl) (env0 := [(0, l58 none a1)]) (by kernel_rfl) ?_
  unfold lw1_ownSteps at h
  refine W.seq ?_
  refine W.regT [0] [] [] [] (e2 := [(0, l58 none a1)]) (by kernel_rfl) (by kernel_rfl) (fun _ h => h) ?_
  refine W.seq ?_
  refine W.regT [0, 3] [] [] [] (e2 := [(0, l58 none a1), (3, .nils)]) (by kernel_rfl) (by kernel_rfl) (fun _ h => h) ?_
  refine W.seq ?_
  refine W.join (σ := ((List rf1Step))) (fun s => [(3, l98 (some 10300) s)]) (fun s => (lw1_ownSteps_j4) s = some r) (fun s h => ?_) (fun hK4 => ?_)
  · obtain ⟨v10, rfl⟩ : ∃ x, x = s := ⟨s, rfl⟩
    have h : (lw1_ownSteps_j4) v10 = some r := h
    unfold lw1_ownSteps_j4 at h
    refine W.seq ?_
    refine W.regT [2] [] [] [] (e2 := [(2, l98 (some 10300) v10)]) (by kernel_rfl) (by kernel_rfl) (fun _ h => h) ?_
    refine W.weak [2] [] [] [(10300, some 1)] (env' := [(2, l98 (some 1) v10)]) (by kernel_rfl) ?_
    have hr : aresults Try.prog Try.f33 [(2, l98 (some 1) v10)] = some (l98 (some 1) v10) := by kernel_rfl
    cases h
    exact W.ret hr
  refine W.seq ?_
  refine W.region (by kernel_rfl) ?_
  refine WO.pureK 1 (some (.int .i64 ((List.map e_dpStep a1).length : Int))) (v := .int .i64 (a1.length : Int)) (by kernel_rfl) (by rw [List.length_map]) (e1 := [(0, l58 none a1), (3, .nils), (6, l58 none a1), (7, .int .i64 (a1.length : Int))]) (by kernel_rfl) ?_
  refine WO.fin [3, 6, 7, 8] [] [] [] (e2 := [(3, .nils), (6, l58 none a1), (7, .int .i64 (a1.length : Int)), (8, .int .i64 0)]) (by kernel_rfl) (fun _ h => h) ?_
  refine W.block ?_
  obtain ⟨hl1, h⟩ := chk_some h
  refine W.weak [3, 6, 7, 8] [] [(3, 0, 98, 5, 10300)] [] (env' := [(3, l98 (some 10300) ([] : (List rf1Step))), (6, l58 none a1), (7, .int .i64 (a1.length : Int)), (8, .int .i64 ((0 : Nat) : Int))]) (by kernel_rfl) ?_
  refine W.range (σ := ((List rf1Step))) a1 (fun k1 s => [(3, l98 (some 10300) s), (6, l58 none a1), (7, .int .i64 (a1.length : Int)), (8, .int .i64 (k1 : Int))]) (fun r0 k0 s => lw1_ownSteps_l1 (lw1_ownSteps_j4) r0 k0 s = some r) (fun s h => ?_) (fun x1 r1 k1 s hx1 hk1 h hN1 => ?_) ([] : (List rf1Step)) h
  · obtain ⟨v6, rfl⟩ : ∃ x, x = s := ⟨s, rfl⟩
    have h : lw1_ownSteps_l1 (lw1_ownSteps_j4) [] (a1).length v6 = some r := h
    rw [lw1_ownSteps_l1.eq_1] at h
    refine W.seq ?_
    refine W.region (by kernel_rfl) ?_
    refine WO.pureK 0 (some (.bool (decide (((a1).length : Int) < (a1.length : Int))))) (v := .bool false) (by kernel_rfl) (by rw [lt_false (l := a1)]) (e1 := [(3, l98 (some 10300) v6), (6, l58 none a1), (7, .int .i64 (a1.length : Int)), (8, .int .i64 ((a1).length : Int)), (9, .bool false)]) (by kernel_rfl) ?_
    refine WO.fin ([3, 6, 7, 8, 9]) [] [] [] (e2 := [(3, l98 (some 10300) v6), (6, l58 none a1), (7, .int .i64 (a1.length : Int)), (8, .int .i64 ((a1).length : Int)), (9, .bool false)]) (by kernel_rfl) (fun _ h => h) ?_
    refine W.seq ?_
    refine W.condB false (by kernel_rfl) (fun h => Bool.noConfusion h) (fun _ => ?_)
    refine W.exit ?_
    refine W.weak [3] [] [] [] (env' := [(3, l98 (some 10300) v6)]) (by kernel_rfl) ?_
    exact hK4 v6 h
  · obtain ⟨v6, rfl⟩ : ∃ x, x = s := ⟨s, rfl⟩
    have h : lw1_ownSteps_l1 (lw1_ownSteps_j4) (x1 :: r1) k1 v6 = some r := h
    rw [lw1_ownSteps_l1.eq_2] at h
    refine W.seq ?_
    refine W.region (by kernel_rfl) ?_
    refine WO.pureK 0 (some (.bool (decide ((k1 : Int) < (a1.length : Int))))) (v := .bool true) (by kernel_rfl) (by rw [lt_true hk1]) (e1 := [(3, l98 (some 10300) v6), (6, l58 none a1), (7, .int .i64 (a1.length : Int)), (8, .int .i64 (k1 : Int)), (9, .bool true)]) (by kernel_rfl) ?_
    refine WO.fin ([3, 6, 7, 8, 9]) [] [] [] (e2 := [(3, l98 (some 10300) v6), (6, l58 none a1), (7, .int .i64 (a1.length : Int)), (8, .int .i64 (k1 : Int)), (9, .bool true)]) (by kernel_rfl) (fun _ h => h) ?_
    refine W.seq ?_
    refine W.condB true (by kernel_rfl) (fun _ => ?_) (fun h => Bool.noConfusion h)
    refine W.skip ?_
    refine W.weak [3, 6, 7, 8] [] [] [] (env' := [(3, l98 (some 10300) v6), (6, l58 none a1), (7, .int .i64 (a1.length : Int)), (8, .int .i64 (k1 : Int))]) (by kernel_rfl) ?_
    refine W.seq ?_
    refine W.block ?_
    refine W.seq ?_
    refine W.region (by kernel_rfl) ?_
    refine WO.pureK 0 (if (0 : Int) ≤ (k1 : Int) then ((List.map e_dpStep a1)[Int.toNat (k1 : Int)]?).map AV.ptr else none) (v := .ptr (.agg [.int .i64 x1.f_Rule, .int .i64 x1.f_I, .int .i64 x1.f_J, .int .i64 x1.f_Dep.f_From, .int .i64 x1.f_Dep.f_To])) (by kernel_rfl) (idx_nat (f := e_dpStep) hx1) (e1 := [(3, l98 (some 10300) v6), (6, l58 none a1), (7, .int .i64 (a1.length : Int)), (8, .int .i64 (k1 : Int)), (10, .ptr (.agg [.int .i64 x1.f_Rule, .int .i64 x1.f_I, .int .i64 x1.f_J, .int .i64 x1.f_Dep.f_From, .int .i64 x1.f_Dep.f_To]))]) (by kernel_rfl) ?_
    refine WO.fin [3, 5, 6, 7, 8] [5] [] [] (e2 := [(3, l98 (some 10300) v6), (5, .ptr (.agg [.int .i64 x1.f_Rule, .int .i64 x1.f_I, .int .i64 x1.f_J, .int .i64 x1.f_Dep.f_From, .int .i64 x1.f_Dep.f_To])), (6, l58 none a1), (7, .int .i64 (a1.length : Int)), (8, .int .i64 (k1 : Int))]) (by kernel_rfl) (fun _ h => h) ?_
    refine W.region (by kernel_rfl) ?_
    obtain ⟨hc9, h⟩ := chk_some h
    refine WO.appendK 16 (d := 28) (e := 98) (s := 5) (bytes := 40) (xs := (List.map e_rf1Step v6)) (ys := (List.map e_rf1Step [(rf1Step.mk x1.f_Rule x1.f_I x1.f_J (rf1Dep.mk x1.f_Dep.f_From x1.f_Dep.f_To))])) (zs := (List.map e_rf1Step (v6 ++ [(rf1Step.mk x1.f_Rule x1.f_I x1.f_J (rf1Dep.mk x1.f_Dep.f_From x1.f_Dep.f_To))]))) (env1 := [(3, l98 none v6), (5, .ptr (.agg [.int .i64 x1.f_Rule, .int .i64 x1.f_I, .int .i64 x1.f_J, .int .i64 x1.f_Dep.f_From, .int .i64 x1.f_Dep.f_To])), (6, l58 none a1), (7, .int .i64 (a1.length : Int)), (8, .int .i64 (k1 : Int)), (12, l98 none v6), (13, .ptr (.int .i64 x1.f_Rule)), (14, .int .i64 x1.f_Rule), (15, .ptr (.int .i64 x1.f_I)), (16, .int .i64 x1.f_I), (17, .ptr (.int .i64 x1.f_J)), (18, .int .i64 x1.f_J), (19, .ptr (.agg [.int .i64 x1.f_Dep.f_From, .int .i64 x1.f_Dep.f_To])), (20, .ptr (.int .i64 x1.f_Dep.f_From)), (21, .int .i64 x1.f_Dep.f_From), (22, .ptr (.agg [.int .i64 x1.f_Dep.f_From, .int .i64 x1.f_Dep.f_To])), (23, .ptr (.int .i64 x1.f_Dep.f_To)), (24, .int .i64 x1.f_Dep.f_To), (25, .agg [.int .i64 x1.f_Dep.f_From, .int .i64 x1.f_Dep.f_To]), (26, .agg [.int .i64 x1.f_Rule, .int .i64 x1.f_I, .int .i64 x1.f_J, .int .i64 x1.f_Dep.f_From, .int .i64 x1.f_Dep.f_To]), (27, l98 (some 27) [(rf1Step.mk x1.f_Rule x1.f_I x1.f_J (rf1Dep.mk x1.f_Dep.f_From x1.f_Dep.f_To))])]) (by kernel_rfl) (List.map_append.symm) (by rw [List.length_map]; exact hc9) (e1 := [(3, l98 none v6), (5, .ptr (.agg [.int .i64 x1.f_Rule, .int .i64 x1.f_I, .int .i64 x1.f_J, .int .i64 x1.f_Dep.f_From, .int .i64 x1.f_Dep.f_To])), (6, l58 none a1), (7, .int .i64 (a1.length : Int)), (8, .int .i64 (k1 : Int)), (12, l98 none v6), (13, .ptr (.int .i64 x1.f_Rule)), (14, .int .i64 x1.f_Rule), (15, .ptr (.int .i64 x1.f_I)), (16, .int .i64 x1.f_I), (17, .ptr (.int .i64 x1.f_J)), (18, .int .i64 x1.f_J), (19, .ptr (.agg [.int .i64 x1.f_Dep.f_From, .int .i64 x1.f_Dep.f_To])), (20, .ptr (.int .i64 x1.f_Dep.f_From)), (21, .int .i64 x1.f_Dep.f_From), (22, .ptr (.agg [.int .i64 x1.f_Dep.f_From, .int .i64 x1.f_Dep.f_To])), (23, .ptr (.int .i64 x1.f_Dep.f_To)), (24, .int .i64 x1.f_Dep.f_To), (25, .agg [.int .i64 x1.f_Dep.f_From, .int .i64 x1.f_Dep.f_To]), (26, .agg [.int .i64 x1.f_Rule, .int .i64 x1.f_I, .int .i64 x1.f_J, .int .i64 x1.f_Dep.f_From, .int .i64 x1.f_Dep.f_To]), (27, l98 (some 27) [(rf1Step.mk x1.f_Rule x1.f_I x1.f_J (rf1Dep.mk x1.f_Dep.f_From x1.f_Dep.f_To))]), (28, l98 (some 28) (v6 ++ [(rf1Step.mk x1.f_Rule x1.f_I x1.f_J (rf1Dep.mk x1.f_Dep.f_From x1.f_Dep.f_To))]))]) (by kernel_rfl) ?_
    refine WO.fin [3, 6, 7, 8] [] [] [] (e2 := [(3, l98 (some 28) (v6 ++ [(rf1Step.mk x1.f_Rule x1.f_I x1.f_J (rf1Dep.mk x1.f_Dep.f_From x1.f_Dep.f_To))])), (6, l58 none a1), (7, .int .i64 (a1.length : Int)), (8, .int .i64 (k1 : Int))]) (by kernel_rfl) (fun _ h => h) ?_
    refine W.region (by kernel_rfl) ?_
    refine WO.pureK 0 (some (.int .i64 (IntKind.wrap .i64 ((k1 : Int) + 1)))) (v := .int .i64 ((k1 + 1 : Nat) : Int)) (by kernel_rfl) (by rw [wrap_succ hl1 hk1]) (e1 := [(3, l98 (some 28) (v6 ++ [(rf1Step.mk x1.f_Rule x1.f_I x1.f_J (rf1Dep.mk x1.f_Dep.f_From x1.f_Dep.f_To))])), (6, l58 none a1), (7, .int .i64 (a1.length : Int)), (8, .int .i64 (k1 : Int)), (29, .int .i64 ((k1 + 1 : Nat) : Int))]) (by kernel_rfl) ?_
    refine WO.fin [3, 6, 7, 8] [] [] [(28, some 10300)] (e2 := [(3, l98 (some 10300) (v6 ++ [(rf1Step.mk x1.f_Rule x1.f_I x1.f_J (rf1Dep.mk x1.f_Dep.f_From x1.f_Dep.f_To))])), (6, l58 none a1), (7, .int .i64 (a1.length : Int)), (8, .int .i64 ((k1 + 1 : Nat) : Int))]) (by kernel_rfl) (fun _ h => h) ?_
    exact hN1 (v6 ++ [(rf1Step.mk x1.f_Rule x1.f_I x1.f_J (rf1Dep.mk x1.f_Dep.f_From x1.f_Dep.f_To))]) h
def lw1_DependProves_j14 (v16 : Bool) : Option Bool :=
  (some v16)
def lw1_DependProves_j19 (v21 : Bool) : Option Bool :=
  (some v21)
def lw1_DependProves_j22 (v28 : Bool) : Option Bool :=
  (some v28)
def lw1_DependProves_j10 (fuel : Nat) (a1 : Int) (a2 : (List rf1Dep)) (a3 : rf1Dep) (w8 : ((List dpStep) × Int)) (v13 : Bool) : Option Bool :=
  (bif v13 then (bif ((w8.1.length : Int) == 0) then (bif (w8.2 == 2) then ((lw1_awake fuel).bind fun w15 => ((lw1_DependProves_j14) w15)) else ((lw1_DependProves_j14) false)) else ((lw1_DependProves_j14) false)) else ((rf1_Follows a2 a3).bind fun w18 => (bif (!w18) then (bif ((w8.1.length : Int) == 0) then (bif (w8.2 == 5) then ((lw1_awake fuel).bind fun w20 => ((lw1_DependProves_j19) w20)) else ((lw1_DependProves_j19) false)) else ((lw1_DependProves_j19) false)) else (bif (w8.2 == 0) then ((lw1_ownSteps w8.1).bind fun w23 => ((rf1_Proof a1 a2 w23).bind fun w24 => (bif w24 then ((idx w8.1 (IntKind.wrap .i64 ((w8.1.length : Int) - 1))).bind fun e25 => ((lw1_dep a3).bind fun w26 => (bif ((e25.f_Dep.f_From == w26.f_From) && ((e25.f_Dep.f_To == w26.f_To) && true)) then ((lw1_awake fuel).bind fun w27 => ((lw1_DependProves_j22) w27)) else ((lw1_DependProves_j22) false)))) else ((lw1_DependProves_j22) false)))) else ((lw1_DependProves_j22) false)))))
def lw1_DependProves (fuel : Nat) (a1 : Int) (a2 : (List rf1Dep)) (a3 : rf1Dep) : Option Bool :=
  ((lw1_deps a2).bind fun w6 => ((lw1_dep a3).bind fun w7 => ((dp_Prove fuel a1 w6 w7).bind fun w8 => ((rf1_Valid a1 a2).bind fun w11 => (bif (!w11) then ((lw1_DependProves_j10 fuel a1 a2 a3 w8) true) else ((rf1_Pair a1 a3).bind fun w12 => ((lw1_DependProves_j10 fuel a1 a2 a3 w8) (!w12))))))))
theorem run_lw1_DependProves (fuel : Nat) (a1 : Int) (a2 : (List rf1Dep)) (a3 : rf1Dep) (r : Bool) (h : lw1_DependProves fuel a1 a2 a3 = some r) : Run Try.prog (.call 8 [.int .i64 a1, l40 none a2, .agg [.int .i64 a3.f_From, .int .i64 a3.f_To]] (.bool r)) := by
  refine call_of_W Try.func8 rfl (by kernel_rfl) (env0 := [(0, .int .i64 a1), (1, l40 none a2), (2, .agg [.int .i64 a3.f_From, .int .i64 a3.f_To])]) (by kernel_rfl) ?_
  unfold lw1_DependProves at h
  refine W.seq ?_
  refine W.regT [0, 1, 5] [5] [] [] (e2 := [(0, .int .i64 a1), (1, l40 none a2), (5, .ptr (.agg [.int .i64 a3.f_From, .int .i64 a3.f_To]))]) (by kernel_rfl) (by kernel_rfl) (fun _ h => h) ?_
  refine W.seq ?_
  refine W.region (by kernel_rfl) ?_
  obtain ⟨w6, hw6, h⟩ := bind_some h
  refine WO.callK 2 (F := 20) (l := [l40 none a2]) (C := []) (r := l33 (some 1) w6) (by kernel_rfl) (by kernel_rfl) (run_lw1_deps a2 w6 hw6) (e1 := [(0, .int .i64 a1), (1, l40 none a2), (5, .ptr (.agg [.int .i64 a3.f_From, .int .i64 a3.f_To])), (10, .int .i64 a1), (11, l40 none a2), (12, l33 none w6)]) (by kernel_rfl) ?_
  obtain ⟨w7, hw7, h⟩ := bind_some h
  refine WO.callK 1 (F := 25) (l := [.agg [.int .i64 a3.f_From, .int .i64 a3.f_To]]) (C := []) (r := .agg [.int .i64 w7.f_From, .int .i64 w7.f_To]) (by kernel_rfl) (by kernel_rfl) (run_lw1_dep a3 w7 hw7) (e1 := [(0, .int .i64 a1), (1, l40 none a2), (5, .ptr (.agg [.int .i64 a3.f_From, .int .i64 a3.f_To])), (10, .int .i64 a1), (11, l40 none a2), (12, l33 none w6), (13, .agg [.int .i64 a3.f_From, .int .i64 a3.f_To]), (14, .agg [.int .i64 w7.f_From, .int .i64 w7.f_To])]) (by kernel_rfl) ?_
  obtain ⟨w8, hw8, h⟩ := bind_some h
  refine WO.callK 0 (F := 30) (l := [.int .i64 a1, l33 none w6, .agg [.int .i64 w7.f_From, .int .i64 w7.f_To]]) (C := []) (r := .tup [l58 none w8.1, .int .i64 w8.2]) (by kernel_rfl) (by kernel_rfl) (run_dp_Prove fuel a1 w6 w7 w8 hw8) (e1 := [(0, .int .i64 a1), (1, l40 none a2), (5, .ptr (.agg [.int .i64 a3.f_From, .int .i64 a3.f_To])), (10, .int .i64 a1), (11, l40 none a2), (12, l33 none w6), (13, .agg [.int .i64 a3.f_From, .int .i64 a3.f_To]), (14, .agg [.int .i64 w7.f_From, .int .i64 w7.f_To]), (15, .tup [l58 none w8.1, .int .i64 w8.2])]) (by kernel_rfl) ?_
  refine WO.fin [0, 1, 5, 7, 8] [] [] [] (e2 := [(0, .int .i64 a1), (1, l40 none a2), (5, .ptr (.agg [.int .i64 a3.f_From, .int .i64 a3.f_To])), (7, l58 none w8.1), (8, .int .i64 w8.2)]) (by kernel_rfl) (fun _ h => h) ?_
  refine W.seq ?_
  refine W.block ?_
  refine W.seq ?_
  refine W.join (σ := (Bool)) (fun s => [(0, .int .i64 a1), (1, l40 none a2), (5, .ptr (.agg [.int .i64 a3.f_From, .int .i64 a3.f_To])), (7, l58 none w8.1), (8, .int .i64 w8.2), (18, .bool s)]) (fun s => (lw1_DependProves_j10 fuel a1 a2 a3 w8) s = some r) (fun s h => ?_) (fun hK10 => ?_)
  · obtain ⟨v13, rfl⟩ : ∃ x, x = s := ⟨s, rfl⟩
    have h : (lw1_DependProves_j10 fuel a1 a2 a3 w8) v13 = some r := h
    unfold lw1_DependProves_j10 at h
    refine W.condB v13 (by kernel_rfl) (fun hb => ?_) (fun hb => ?_)
    · replace h := cond_t hb h
      refine W.seq ?_
      refine W.join (σ := (Bool)) (fun s => [(6, .bool s)]) (fun s => (lw1_DependProves_j14) s = some r) (fun s h => ?_) (fun hK14 => ?_)
      · obtain ⟨v16, rfl⟩ : ∃ x, x = s := ⟨s, rfl⟩
        have h : (lw1_DependProves_j14) v16 = some r := h
        unfold lw1_DependProves_j14 at h
        refine W.weak [6] [] [] [] (env' := [(6, .bool v16)]) (by kernel_rfl) ?_
        have hr : aresults Try.prog Try.f8 [(6, .bool v16)] = some (.bool v16) := by kernel_rfl
        cases h
        exact W.ret hr
      refine W.region (by kernel_rfl) ?_
      refine WO.pureK 1 (some (.int .i64 ((List.map e_dpStep w8.1).length : Int))) (v := .int .i64 (w8.1.length : Int)) (by kernel_rfl) (by rw [List.length_map]) (e1 := [(0, .int .i64 a1), (1, l40 none a2), (5, .ptr (.agg [.int .i64 a3.f_From, .int .i64 a3.f_To])), (7, l58 none w8.1), (8, .int .i64 w8.2), (18, .bool v13), (29, l58 none w8.1), (30, .int .i64 (w8.1.length : Int))]) (by kernel_rfl) ?_
      refine WO.boolK 2 (fun b => [(0, .int .i64 a1), (1, l40 none a2), (5, .ptr (.agg [.int .i64 a3.f_From, .int .i64 a3.f_To])), (7, l58 none w8.1), (8, .int .i64 w8.2), (18, .bool v13), (29, l58 none w8.1), (30, .int .i64 (w8.1.length : Int)), (31, .bool b), (32, .bool b)]) ((w8.1.length : Int) == 0) (by kernel_rfl) (fun hb => ?_) (fun hb => ?_)
      · replace h := cond_t hb h
        refine WO.boolK 4 (fun b => [(0, .int .i64 a1), (1, l40 none a2), (5, .ptr (.agg [.int .i64 a3.f_From, .int .i64 a3.f_To])), (7, l58 none w8.1), (8, .int .i64 w8.2), (18, .bool v13), (29, l58 none w8.1), (30, .int .i64 (w8.1.length : Int)), (31, .bool true), (32, .bool true), (33, .int .i64 w8.2), (34, .bool b), (35, .bool b), (36, .bool b)]) (w8.2 == 2) (by kernel_rfl) (fun hb => ?_) (fun hb => ?_)
        · replace h := cond_t hb h
          obtain ⟨w15, hw15, h⟩ := bind_some h
          refine WO.callK 0 (F := 21) (l := []) (C := []) (r := .bool w15) (by kernel_rfl) (by kernel_rfl) (run_lw1_awake fuel w15 hw15) (e1 := [(0, .int .i64 a1), (1, l40 none a2), (5, .ptr (.agg [.int .i64 a3.f_From, .int .i64 a3.f_To])), (7, l58 none w8.1), (8, .int .i64 w8.2), (18, .bool v13), (29, l58 none w8.1), (30, .int .i64 (w8.1.length : Int)), (31, .bool true), (32, .bool true), (33, .int .i64 w8.2), (34, .bool true), (35, .bool true), (36, .bool true), (37, .bool w15)]) (by kernel_rfl) ?_
          refine WO.fin [6] [] [] [] (e2 := [(6, .bool w15)]) (by kernel_rfl) (fun _ h => h) ?_
          exact hK14 w15 h
        replace h := cond_f hb h
        refine WO.fin [6] [] [] [] (e2 := [(6, .bool false)]) (by kernel_rfl) (fun _ h => h) ?_
        exact hK14 false h
      replace h := cond_f hb h
      refine WO.fin [6] [] [] [] (e2 := [(6, .bool false)]) (by kernel_rfl) (fun _ h => h) ?_
      exact hK14 false h
    replace h := cond_f hb h
    refine W.seq ?_
    refine W.region (by kernel_rfl) ?_
    obtain ⟨w18, hw18, h⟩ := bind_some h
    refine WO.callK 2 (F := 32) (l := [l40 none a2, .agg [.int .i64 a3.f_From, .int .i64 a3.f_To]]) (C := []) (r := .bool w18) (by kernel_rfl) (by kernel_rfl) (run_rf1_Follows a2 a3 w18 hw18) (e1 := [(0, .int .i64 a1), (1, l40 none a2), (5, .ptr (.agg [.int .i64 a3.f_From, .int .i64 a3.f_To])), (7, l58 none w8.1), (8, .int .i64 w8.2), (18, .bool v13), (40, l40 none a2), (41, .agg [.int .i64 a3.f_From, .int .i64 a3.f_To]), (42, .bool w18)]) (by kernel_rfl) ?_
    refine WO.fin [0, 1, 5, 7, 8, 39] [] [] [] (e2 := [(0, .int .i64 a1), (1, l40 none a2), (5, .ptr (.agg [.int .i64 a3.f_From, .int .i64 a3.f_To])), (7, l58 none w8.1), (8, .int .i64 w8.2), (39, .bool (!w18))]) (by kernel_rfl) (fun _ h => h) ?_
    refine W.condB (!w18) (by kernel_rfl) (fun hb => ?_) (fun hb => ?_)
    · replace h := cond_t hb h
      refine W.seq ?_
      refine W.join (σ := (Bool)) (fun s => [(6, .bool s)]) (fun s => (lw1_DependProves_j19) s = some r) (fun s h => ?_) (fun hK19 => ?_)
      · obtain ⟨v21, rfl⟩ : ∃ x, x = s := ⟨s, rfl⟩
        have h : (lw1_DependProves_j19) v21 = some r := h
        unfold lw1_DependProves_j19 at h
        refine W.weak [6] [] [] [] (env' := [(6, .bool v21)]) (by kernel_rfl) ?_
        have hr : aresults Try.prog Try.f8 [(6, .bool v21)] = some (.bool v21) := by kernel_rfl
        cases h
        exact W.ret hr
      refine W.region (by kernel_rfl) ?_
      refine WO.pureK 1 (some (.int .i64 ((List.map e_dpStep w8.1).length : Int))) (v := .int .i64 (w8.1.length : Int)) (by kernel_rfl) (by rw [List.length_map]) (e1 := [(0, .int .i64 a1), (1, l40 none a2), (5, .ptr (.agg [.int .i64 a3.f_From, .int .i64 a3.f_To])), (7, l58 none w8.1), (8, .int .i64 w8.2), (39, .bool (!w18)), (44, l58 none w8.1), (45, .int .i64 (w8.1.length : Int))]) (by kernel_rfl) ?_
      refine WO.boolK 2 (fun b => [(0, .int .i64 a1), (1, l40 none a2), (5, .ptr (.agg [.int .i64 a3.f_From, .int .i64 a3.f_To])), (7, l58 none w8.1), (8, .int .i64 w8.2), (39, .bool (!w18)), (44, l58 none w8.1), (45, .int .i64 (w8.1.length : Int)), (46, .bool b), (47, .bool b)]) ((w8.1.length : Int) == 0) (by kernel_rfl) (fun hb => ?_) (fun hb => ?_)
      · replace h := cond_t hb h
        refine WO.boolK 4 (fun b => [(0, .int .i64 a1), (1, l40 none a2), (5, .ptr (.agg [.int .i64 a3.f_From, .int .i64 a3.f_To])), (7, l58 none w8.1), (8, .int .i64 w8.2), (39, .bool (!w18)), (44, l58 none w8.1), (45, .int .i64 (w8.1.length : Int)), (46, .bool true), (47, .bool true), (48, .int .i64 w8.2), (49, .bool b), (50, .bool b), (51, .bool b)]) (w8.2 == 5) (by kernel_rfl) (fun hb => ?_) (fun hb => ?_)
        · replace h := cond_t hb h
          obtain ⟨w20, hw20, h⟩ := bind_some h
          refine WO.callK 0 (F := 21) (l := []) (C := []) (r := .bool w20) (by kernel_rfl) (by kernel_rfl) (run_lw1_awake fuel w20 hw20) (e1 := [(0, .int .i64 a1), (1, l40 none a2), (5, .ptr (.agg [.int .i64 a3.f_From, .int .i64 a3.f_To])), (7, l58 none w8.1), (8, .int .i64 w8.2), (39, .bool (!w18)), (44, l58 none w8.1), (45, .int .i64 (w8.1.length : Int)), (46, .bool true), (47, .bool true), (48, .int .i64 w8.2), (49, .bool true), (50, .bool true), (51, .bool true), (52, .bool w20)]) (by kernel_rfl) ?_
          refine WO.fin [6] [] [] [] (e2 := [(6, .bool w20)]) (by kernel_rfl) (fun _ h => h) ?_
          exact hK19 w20 h
        replace h := cond_f hb h
        refine WO.fin [6] [] [] [] (e2 := [(6, .bool false)]) (by kernel_rfl) (fun _ h => h) ?_
        exact hK19 false h
      replace h := cond_f hb h
      refine WO.fin [6] [] [] [] (e2 := [(6, .bool false)]) (by kernel_rfl) (fun _ h => h) ?_
      exact hK19 false h
    replace h := cond_f hb h
    refine W.skip ?_
    refine W.weak [0, 1, 5, 7, 8] [] [] [] (env' := [(0, .int .i64 a1), (1, l40 none a2), (5, .ptr (.agg [.int .i64 a3.f_From, .int .i64 a3.f_To])), (7, l58 none w8.1), (8, .int .i64 w8.2)]) (by kernel_rfl) ?_
    refine W.seq ?_
    refine W.join (σ := (Bool)) (fun s => [(6, .bool s)]) (fun s => (lw1_DependProves_j22) s = some r) (fun s h => ?_) (fun hK22 => ?_)
    · obtain ⟨v28, rfl⟩ : ∃ x, x = s := ⟨s, rfl⟩
      have h : (lw1_DependProves_j22) v28 = some r := h
      unfold lw1_DependProves_j22 at h
      refine W.weak [6] [] [] [] (env' := [(6, .bool v28)]) (by kernel_rfl) ?_
      have hr : aresults Try.prog Try.f8 [(6, .bool v28)] = some (.bool v28) := by kernel_rfl
      cases h
      exact W.ret hr
    refine W.region (by kernel_rfl) ?_
    refine WO.boolK 3 (fun b => [(0, .int .i64 a1), (1, l40 none a2), (5, .ptr (.agg [.int .i64 a3.f_From, .int .i64 a3.f_To])), (7, l58 none w8.1), (8, .int .i64 w8.2), (54, .int .i64 w8.2), (55, .bool b), (56, .bool b)]) (w8.2 == 0) (by kernel_rfl) (fun hb => ?_) (fun hb => ?_)
    · replace h := cond_t hb h
      obtain ⟨w23, hw23, h⟩ := bind_some h
      refine WO.callK 3 (F := 33) (l := [l58 none w8.1]) (C := []) (r := l98 (some 1) w23) (by kernel_rfl) (by kernel_rfl) (run_lw1_ownSteps w8.1 w23 hw23) (e1 := [(0, .int .i64 a1), (1, l40 none a2), (5, .ptr (.agg [.int .i64 a3.f_From, .int .i64 a3.f_To])), (7, l58 none w8.1), (8, .int .i64 w8.2), (54, .int .i64 w8.2), (55, .bool true), (56, .bool true), (57, .int .i64 a1), (58, l40 none a2), (59, l58 none w8.1), (60, l98 none w23)]) (by kernel_rfl) ?_
      obtain ⟨w24, hw24, h⟩ := bind_some h
      refine WO.callK 0 (F := 29) (l := [.int .i64 a1, l40 none a2, l98 none w23]) (C := []) (r := .bool w24) (by kernel_rfl) (by kernel_rfl) (run_rf1_Proof a1 a2 w23 w24 hw24) (e1 := [(0, .int .i64 a1), (1, l40 none a2), (5, .ptr (.agg [.int .i64 a3.f_From, .int .i64 a3.f_To])), (7, l58 none w8.1), (8, .int .i64 w8.2), (54, .int .i64 w8.2), (55, .bool true), (56, .bool true), (57, .int .i64 a1), (58, l40 none a2), (59, l58 none w8.1), (60, l98 none w23), (61, .bool w24)]) (by kernel_rfl) ?_
      refine WO.boolK 2 (fun b => [(0, .int .i64 a1), (1, l40 none a2), (5, .ptr (.agg [.int .i64 a3.f_From, .int .i64 a3.f_To])), (7, l58 none w8.1), (8, .int .i64 w8.2), (54, .int .i64 w8.2), (55, .bool true), (56, .bool true), (57, .int .i64 a1), (58, l40 none a2), (59, l58 none w8.1), (60, l98 none w23), (61, .bool b), (62, .bool b), (63, .bool b)]) w24 (by kernel_rfl) (fun hb => ?_) (fun hb => ?_)
      · replace h := cond_t hb h
        refine WO.pureK 2 (some (.int .i64 ((List.map e_dpStep w8.1).length : Int))) (v := .int .i64 (w8.1.length : Int)) (by kernel_rfl) (by rw [List.length_map]) (e1 := [(0, .int .i64 a1), (1, l40 none a2), (5, .ptr (.agg [.int .i64 a3.f_From, .int .i64 a3.f_To])), (7, l58 none w8.1), (8, .int .i64 w8.2), (54, .int .i64 w8.2), (55, .bool true), (56, .bool true), (57, .int .i64 a1), (58, l40 none a2), (59, l58 none w8.1), (60, l98 none w23), (61, .bool true), (62, .bool true), (63, .bool true), (64, l58 none w8.1), (65, l58 none w8.1), (66, .int .i64 (w8.1.length : Int))]) (by kernel_rfl) ?_
        obtain ⟨e25, he25, h⟩ := bind_some h
        refine WO.pureK 1 (if (0 : Int) ≤ (IntKind.wrap .i64 ((w8.1.length : Int) - 1)) then ((List.map e_dpStep w8.1)[Int.toNat (IntKind.wrap .i64 ((w8.1.length : Int) - 1))]?).map AV.ptr else none) (v := .ptr (.agg [.int .i64 e25.f_Rule, .int .i64 e25.f_I, .int .i64 e25.f_J, .int .i64 e25.f_Dep.f_From, .int .i64 e25.f_Dep.f_To])) (by kernel_rfl) (idx_av (f := e_dpStep) he25) (e1 := [(0, .int .i64 a1), (1, l40 none a2), (5, .ptr (.agg [.int .i64 a3.f_From, .int .i64 a3.f_To])), (7, l58 none w8.1), (8, .int .i64 w8.2), (54, .int .i64 w8.2), (55, .bool true), (56, .bool true), (57, .int .i64 a1), (58, l40 none a2), (59, l58 none w8.1), (60, l98 none w23), (61, .bool true), (62, .bool true), (63, .bool true), (64, l58 none w8.1), (65, l58 none w8.1), (66, .int .i64 (w8.1.length : Int)), (67, .int .i64 (IntKind.wrap .i64 ((w8.1.length : Int) - 1))), (68, .ptr (.agg [.int .i64 e25.f_Rule, .int .i64 e25.f_I, .int .i64 e25.f_J, .int .i64 e25.f_Dep.f_From, .int .i64 e25.f_Dep.f_To]))]) (by kernel_rfl) ?_
        obtain ⟨w26, hw26, h⟩ := bind_some h
        refine WO.callK 3 (F := 25) (l := [.agg [.int .i64 a3.f_From, .int .i64 a3.f_To]]) (C := []) (r := .agg [.int .i64 w26.f_From, .int .i64 w26.f_To]) (by kernel_rfl) (by kernel_rfl) (run_lw1_dep a3 w26 hw26) (e1 := [(0, .int .i64 a1), (1, l40 none a2), (5, .ptr (.agg [.int .i64 a3.f_From, .int .i64 a3.f_To])), (7, l58 none w8.1), (8, .int .i64 w8.2), (54, .int .i64 w8.2), (55, .bool true), (56, .bool true), (57, .int .i64 a1), (58, l40 none a2), (59, l58 none w8.1), (60, l98 none w23), (61, .bool true), (62, .bool true), (63, .bool true), (64, l58 none w8.1), (65, l58 none w8.1), (66, .int .i64 (w8.1.length : Int)), (67, .int .i64 (IntKind.wrap .i64 ((w8.1.length : Int) - 1))), (68, .ptr (.agg [.int .i64 e25.f_Rule, .int .i64 e25.f_I, .int .i64 e25.f_J, .int .i64 e25.f_Dep.f_From, .int .i64 e25.f_Dep.f_To])), (69, .ptr (.agg [.int .i64 e25.f_Dep.f_From, .int .i64 e25.f_Dep.f_To])), (70, .agg [.int .i64 e25.f_Dep.f_From, .int .i64 e25.f_Dep.f_To]), (71, .agg [.int .i64 a3.f_From, .int .i64 a3.f_To]), (72, .agg [.int .i64 w26.f_From, .int .i64 w26.f_To])]) (by kernel_rfl) ?_
        refine WO.boolK 3 (fun b => [(0, .int .i64 a1), (1, l40 none a2), (5, .ptr (.agg [.int .i64 a3.f_From, .int .i64 a3.f_To])), (7, l58 none w8.1), (8, .int .i64 w8.2), (54, .int .i64 w8.2), (55, .bool true), (56, .bool true), (57, .int .i64 a1), (58, l40 none a2), (59, l58 none w8.1), (60, l98 none w23), (61, .bool true), (62, .bool true), (63, .bool true), (64, l58 none w8.1), (65, l58 none w8.1), (66, .int .i64 (w8.1.length : Int)), (67, .int .i64 (IntKind.wrap .i64 ((w8.1.length : Int) - 1))), (68, .ptr (.agg [.int .i64 e25.f_Rule, .int .i64 e25.f_I, .int .i64 e25.f_J, .int .i64 e25.f_Dep.f_From, .int .i64 e25.f_Dep.f_To])), (69, .ptr (.agg [.int .i64 e25.f_Dep.f_From, .int .i64 e25.f_Dep.f_To])), (70, .agg [.int .i64 e25.f_Dep.f_From, .int .i64 e25.f_Dep.f_To]), (71, .agg [.int .i64 a3.f_From, .int .i64 a3.f_To]), (72, .agg [.int .i64 w26.f_From, .int .i64 w26.f_To]), (73, .bool b), (74, .bool b), (75, .bool b)]) ((e25.f_Dep.f_From == w26.f_From) && ((e25.f_Dep.f_To == w26.f_To) && true)) (by kernel_rfl) (fun hb => ?_) (fun hb => ?_)
        · replace h := cond_t hb h
          obtain ⟨w27, hw27, h⟩ := bind_some h
          refine WO.callK 0 (F := 21) (l := []) (C := []) (r := .bool w27) (by kernel_rfl) (by kernel_rfl) (run_lw1_awake fuel w27 hw27) (e1 := [(0, .int .i64 a1), (1, l40 none a2), (5, .ptr (.agg [.int .i64 a3.f_From, .int .i64 a3.f_To])), (7, l58 none w8.1), (8, .int .i64 w8.2), (54, .int .i64 w8.2), (55, .bool true), (56, .bool true), (57, .int .i64 a1), (58, l40 none a2), (59, l58 none w8.1), (60, l98 none w23), (61, .bool true), (62, .bool true), (63, .bool true), (64, l58 none w8.1), (65, l58 none w8.1), (66, .int .i64 (w8.1.length : Int)), (67, .int .i64 (IntKind.wrap .i64 ((w8.1.length : Int) - 1))), (68, .ptr (.agg [.int .i64 e25.f_Rule, .int .i64 e25.f_I, .int .i64 e25.f_J, .int .i64 e25.f_Dep.f_From, .int .i64 e25.f_Dep.f_To])), (69, .ptr (.agg [.int .i64 e25.f_Dep.f_From, .int .i64 e25.f_Dep.f_To])), (70, .agg [.int .i64 e25.f_Dep.f_From, .int .i64 e25.f_Dep.f_To]), (71, .agg [.int .i64 a3.f_From, .int .i64 a3.f_To]), (72, .agg [.int .i64 w26.f_From, .int .i64 w26.f_To]), (73, .bool true), (74, .bool true), (75, .bool true), (76, .bool w27)]) (by kernel_rfl) ?_
          refine WO.fin [6] [] [] [] (e2 := [(6, .bool w27)]) (by kernel_rfl) (fun _ h => h) ?_
          exact hK22 w27 h
        replace h := cond_f hb h
        refine WO.fin [6] [] [] [] (e2 := [(6, .bool false)]) (by kernel_rfl) (fun _ h => h) ?_
        exact hK22 false h
      replace h := cond_f hb h
      refine WO.fin [6] [] [] [] (e2 := [(6, .bool false)]) (by kernel_rfl) (fun _ h => h) ?_
      exact hK22 false h
    replace h := cond_f hb h
    refine WO.fin [6] [] [] [] (e2 := [(6, .bool false)]) (by kernel_rfl) (fun _ h => h) ?_
    exact hK22 false h
  refine W.region (by kernel_rfl) ?_
  obtain ⟨w11, hw11, h⟩ := bind_some h
  refine WO.callK 2 (F := 28) (l := [.int .i64 a1, l40 none a2]) (C := []) (r := .bool w11) (by kernel_rfl) (by kernel_rfl) (run_rf1_Valid a1 a2 w11 hw11) (e1 := [(0, .int .i64 a1), (1, l40 none a2), (5, .ptr (.agg [.int .i64 a3.f_From, .int .i64 a3.f_To])), (7, l58 none w8.1), (8, .int .i64 w8.2), (19, .int .i64 a1), (20, l40 none a2), (21, .bool w11)]) (by kernel_rfl) ?_
  refine WO.boolK 2 (fun b => [(0, .int .i64 a1), (1, l40 none a2), (5, .ptr (.agg [.int .i64 a3.f_From, .int .i64 a3.f_To])), (7, l58 none w8.1), (8, .int .i64 w8.2), (19, .int .i64 a1), (20, l40 none a2), (21, .bool w11), (22, .bool b), (23, .bool b)]) (!w11) (by kernel_rfl) (fun hb => ?_) (fun hb => ?_)
  · replace h := cond_t hb h
    refine WO.fin [0, 1, 5, 7, 8, 18] [] [] [] (e2 := [(0, .int .i64 a1), (1, l40 none a2), (5, .ptr (.agg [.int .i64 a3.f_From, .int .i64 a3.f_To])), (7, l58 none w8.1), (8, .int .i64 w8.2), (18, .bool true)]) (by kernel_rfl) (fun _ h => h) ?_
    exact hK10 true h
  replace h := cond_f hb h
  obtain ⟨w12, hw12, h⟩ := bind_some h
  refine WO.callK 2 (F := 31) (l := [.int .i64 a1, .agg [.int .i64 a3.f_From, .int .i64 a3.f_To]]) (C := []) (r := .bool w12) (by kernel_rfl) (by kernel_rfl) (run_rf1_Pair a1 a3 w12 hw12) (e1 := [(0, .int .i64 a1), (1, l40 none a2), (5, .ptr (.agg [.int .i64 a3.f_From, .int .i64 a3.f_To])), (7, l58 none w8.1), (8, .int .i64 w8.2), (19, .int .i64 a1), (20, l40 none a2), (21, .bool w11), (22, .bool false), (23, .bool false), (24, .int .i64 a1), (25, .agg [.int .i64 a3.f_From, .int .i64 a3.f_To]), (26, .bool w12)]) (by kernel_rfl) ?_
  refine WO.fin [0, 1, 5, 7, 8, 18] [] [] [] (e2 := [(0, .int .i64 a1), (1, l40 none a2), (5, .ptr (.agg [.int .i64 a3.f_From, .int .i64 a3.f_To])), (7, l58 none w8.1), (8, .int .i64 w8.2), (18, .bool (!w12))]) (by kernel_rfl) (fun _ h => h) ?_
  exact hK10 (!w12) h
def dp_Refute (fuel : Nat) (a1 : Int) (a2 : (List dpDep)) (a3 : dpDep) : Option ((List (List Int)) × Int) :=
  ((dp_Follows fuel a1 a2 a3).bind fun w6 => (bif (w6.2 != 0) then (some (([] : (List (List Int))), w6.2)) else (bif w6.1 then (some (([] : (List (List Int))), 5)) else ((dp_row a1 0 0).bind fun w14 => ((dp_closure a2).bind fun w15 => ((dp_closure_1 fuel a3.f_From w15).bind fun w16 => ((dp_row a1 w16 1).bind fun w17 => (some ([w14, w17], 0)))))))))
theorem run_dp_Refute (fuel : Nat) (a1 : Int) (a2 : (List dpDep)) (a3 : dpDep) (r : ((List (List Int)) × Int)) (h : dp_Refute fuel a1 a2 a3 = some r) : Run Try.prog (.call 36 [.int .i64 a1, l33 none a2, .agg [.int .i64 a3.f_From, .int .i64 a3.f_To]] (.tup [l35 none r.1, .int .i64 r.2])) := by
  refine call_of_W Try.func36 rfl (by kernel_rfl) (env0 := [(0, .int .i64 a1), (1, l33 none a2), (2, .agg [.int .i64 a3.f_From, .int .i64 a3.f_To])]) (by kernel_rfl) ?_
  unfold dp_Refute at h
  refine W.seq ?_
  refine W.regT [0, 1, 5] [5] [] [] (e2 := [(0, .int .i64 a1), (1, l33 none a2), (5, .ptr (.agg [.int .i64 a3.f_From, .int .i64 a3.f_To]))]) (by kernel_rfl) (by kernel_rfl) (fun _ h => h) ?_
  refine W.seq ?_
  refine W.region (by kernel_rfl) ?_
  obtain ⟨w6, hw6, h⟩ := bind_some h
  refine WO.callK 3 (F := 22) (l := [.int .i64 a1, l33 none a2, .agg [.int .i64 a3.f_From, .int .i64 a3.f_To]]) (C := []) (r := .tup [.bool w6.1, .int .i64 w6.2]) (by kernel_rfl) (by kernel_rfl) (run_dp_Follows fuel a1 a2 a3 w6 hw6) (e1 := [(0, .int .i64 a1), (1, l33 none a2), (5, .ptr (.agg [.int .i64 a3.f_From, .int .i64 a3.f_To])), (11, .int .i64 a1), (12, l33 none a2), (13, .agg [.int .i64 a3.f_From, .int .i64 a3.f_To]), (14, .tup [.bool w6.1, .int .i64 w6.2])]) (by kernel_rfl) ?_
  refine WO.fin [0, 1, 5, 8, 9] [] [] [] (e2 := [(0, .int .i64 a1), (1, l33 none a2), (5, .ptr (.agg [.int .i64 a3.f_From, .int .i64 a3.f_To])), (8, .bool w6.1), (9, .int .i64 w6.2)]) (by kernel_rfl) (fun _ h => h) ?_
  refine W.seq ?_
  refine W.seq ?_
  refine W.regT [0, 1, 5, 8, 9, 18] [] [] [] (e2 := [(0, .int .i64 a1), (1, l33 none a2), (5, .ptr (.agg [.int .i64 a3.f_From, .int .i64 a3.f_To])), (8, .bool w6.1), (9, .int .i64 w6.2), (18, .bool (w6.2 != 0))]) (by kernel_rfl) (by kernel_rfl) (fun _ h => h) ?_
  refine W.condB (w6.2 != 0) (by kernel_rfl) (fun hb => ?_) (fun hb => ?_)
  · replace h := cond_t hb h
    refine W.seq ?_
    refine W.regT [6, 7] [] [] [] (e2 := [(6, .nils), (7, .int .i64 w6.2)]) (by kernel_rfl) (by kernel_rfl) (fun _ h => h) ?_
    refine W.weak [6, 7] [] [(6, 0, 35, 1, 70006)] [] (env' := [(6, l35 (some 70006) ([] : (List (List Int)))), (7, .int .i64 w6.2)]) (by kernel_rfl) ?_
    have hr : aresults Try.prog Try.f36 [(6, l35 (some 70006) ([] : (List (List Int)))), (7, .int .i64 w6.2)] = some (.tup [l35 none ([] : (List (List Int))), .int .i64 w6.2]) := by kernel_rfl
    cases h
    exact W.ret hr
  replace h := cond_f hb h
  refine W.skip ?_
  refine W.weak [0, 1, 5, 8] [] [] [] (env' := [(0, .int .i64 a1), (1, l33 none a2), (5, .ptr (.agg [.int .i64 a3.f_From, .int .i64 a3.f_To])), (8, .bool w6.1)]) (by kernel_rfl) ?_
  refine W.seq ?_
  refine W.seq ?_
  refine W.regT [0, 1, 5, 20] [] [] [] (e2 := [(0, .int .i64 a1), (1, l33 none a2), (5, .ptr (.agg [.int .i64 a3.f_From, .int .i64 a3.f_To])), (20, .bool w6.1)]) (by kernel_rfl) (by kernel_rfl) (fun _ h => h) ?_
  refine W.condB w6.1 (by kernel_rfl) (fun hb => ?_) (fun hb => ?_)
  · replace h := cond_t hb h
    refine W.seq ?_
    refine W.regT [6, 7] [] [] [] (e2 := [(6, .nils), (7, .int .i64 5)]) (by kernel_rfl) (by kernel_rfl) (fun _ h => h) ?_
    refine W.weak [6, 7] [] [(6, 0, 35, 1, 70006)] [] (env' := [(6, l35 (some 70006) ([] : (List (List Int)))), (7, .int .i64 5)]) (by kernel_rfl) ?_
    have hr : aresults Try.prog Try.f36 [(6, l35 (some 70006) ([] : (List (List Int)))), (7, .int .i64 5)] = some (.tup [l35 none ([] : (List (List Int))), .int .i64 5]) := by kernel_rfl
    cases h
    exact W.ret hr
  replace h := cond_f hb h
  refine W.skip ?_
  refine W.weak [0, 1, 5] [] [] [] (env' := [(0, .int .i64 a1), (1, l33 none a2), (5, .ptr (.agg [.int .i64 a3.f_From, .int .i64 a3.f_To]))]) (by kernel_rfl) ?_
  refine W.seq ?_
  refine W.region (by kernel_rfl) ?_
  obtain ⟨w14, hw14, h⟩ := bind_some h
  refine WO.callK 1 (F := 62) (l := [.int .i64 a1, .int .i64 0, .int .i64 0]) (C := []) (r := l3 (some 1) w14) (by kernel_rfl) (by kernel_rfl) (run_dp_row a1 0 0 w14 hw14) (e1 := [(0, .int .i64 a1), (1, l33 none a2), (5, .ptr (.agg [.int .i64 a3.f_From, .int .i64 a3.f_To])), (21, .int .i64 a1), (22, l3 none w14)]) (by kernel_rfl) ?_
  obtain ⟨w15, hw15, h⟩ := bind_some h
  refine WO.callK 2 (F := 59) (l := [l33 none a2]) (C := []) (r := .clo 77 [.ptr (l33 none w15)]) (by kernel_rfl) (by kernel_rfl) (run_dp_closure a2 w15 hw15) (e1 := [(0, .int .i64 a1), (1, l33 none a2), (5, .ptr (.agg [.int .i64 a3.f_From, .int .i64 a3.f_To])), (21, .int .i64 a1), (22, l3 none w14), (23, .int .i64 a1), (24, l33 none a2), (25, .clo 77 [.ptr (l33 none w15)])]) (by kernel_rfl) ?_
  obtain ⟨w16, hw16, h⟩ := bind_some h
  refine WO.callK 2 (F := 77) (l := [.int .i64 a3.f_From]) (C := [.ptr (l33 none w15)]) (r := .int .i64 w16) (by kernel_rfl) (by kernel_rfl) (run_dp_closure_1 fuel a3.f_From w15 w16 hw16) (e1 := [(0, .int .i64 a1), (1, l33 none a2), (5, .ptr (.agg [.int .i64 a3.f_From, .int .i64 a3.f_To])), (21, .int .i64 a1), (22, l3 none w14), (23, .int .i64 a1), (24, l33 none a2), (25, .clo 77 [.ptr (l33 none w15)]), (26, .ptr (.int .i64 a3.f_From)), (27, .int .i64 a3.f_From), (28, .int .i64 w16)]) (by kernel_rfl) ?_
  obtain ⟨w17, hw17, h⟩ := bind_some h
  refine WO.callK 0 (F := 62) (l := [.int .i64 a1, .int .i64 w16, .int .i64 1]) (C := []) (r := l3 (some 1) w17) (by kernel_rfl) (by kernel_rfl) (run_dp_row a1 w16 1 w17 hw17) (e1 := [(0, .int .i64 a1), (1, l33 none a2), (5, .ptr (.agg [.int .i64 a3.f_From, .int .i64 a3.f_To])), (21, .int .i64 a1), (22, l3 none w14), (23, .int .i64 a1), (24, l33 none a2), (25, .clo 77 [.ptr (l33 none w15)]), (26, .ptr (.int .i64 a3.f_From)), (27, .int .i64 a3.f_From), (28, .int .i64 w16), (29, l3 none w17)]) (by kernel_rfl) ?_
  refine WO.fin [6, 7] [] [] [] (e2 := [(6, l35 none [w14, w17]), (7, .int .i64 0)]) (by kernel_rfl) (fun _ h => h) ?_
  refine W.weak [6, 7] [] [] [] (env' := [(6, l35 none [w14, w17]), (7, .int .i64 0)]) (by kernel_rfl) ?_
  have hr : aresults Try.prog Try.f36 [(6, l35 none [w14, w17]), (7, .int .i64 0)] = some (.tup [l35 none [w14, w17], .int .i64 0]) := by kernel_rfl
  cases h
  exact W.ret hr
def rf1_Table_j10 (v11 : Bool) : Option Bool :=
  (some v11)
def rf1_Table_j4 (a1 : Int) (a2 : (List (List Int))) : Option Bool :=
  (bif (decide (a1 ≥ 1)) then (bif (decide (a1 ≤ 8)) then ((rf1_Table_j10) (decide ((a2.length : Int) ≤ 60))) else ((rf1_Table_j10) false)) else ((rf1_Table_j10) false))
def rf1_Table_l1 (a1 : Int) (K4 : (Option Bool)) : List (List Int) → Nat → Option Bool
  | [], k1 => K4
  | x1 :: r1, k1 => (bif ((x1.length : Int) != a1) then (some false) else (rf1_Table_l1 a1 K4 r1 (k1 + 1)))
def rf1_Table (a1 : Int) (a2 : (List (List Int))) : Option Bool :=
  (chk (lenOk a2) (rf1_Table_l1 a1 (rf1_Table_j4 a1 a2) a2 0))
theorem run_rf1_Table (a1 : Int) (a2 : (List (List Int))) (r : Bool) (h : rf1_Table a1 a2 = some r) : Run Try.prog (.call 40 [.int .i64 a1, l35 none a2] (.bool r)) := by
  refine call_of_W Try.func40 rfl (by kernel_rfl) (env0 := [(0, .int .i64 a1), (1, l35 none a2)]) (by kernel_rfl) ?_
  unfold rf1_Table at h
  refine W.seq ?_
  refine W.regT [0, 1] [] [] [] (e2 := [(0, .int .i64 a1), (1, l35 none a2)]) (by kernel_rfl) (by kernel_rfl) (fun _ h => h) ?_
  refine W.seq ?_
  refine W.join (σ := Unit) (fun s => [(0, .int .i64 a1), (1, l35 none a2)]) (fun s => (rf1_Table_j4 a1 a2) = some r) (fun s h => ?_) (fun hK4 => ?_)
  · have h : (rf1_Table_j4 a1 a2) = some r := h
    unfold rf1_Table_j4 at h
    refine W.seq ?_
    refine W.join (σ := (Bool)) (fun s => [(4, .bool s)]) (fun s => (rf1_Table_j10) s = some r) (fun s h => ?_) (fun hK10 => ?_)
    · obtain ⟨v11, rfl⟩ : ∃ x, x = s := ⟨s, rfl⟩
      have h : (rf1_Table_j10) v11 = some r := h
      unfold rf1_Table_j10 at h
      refine W.weak [4] [] [] [] (env' := [(4, .bool v11)]) (by kernel_rfl) ?_
      have hr : aresults Try.prog Try.f40 [(4, .bool v11)] = some (.bool v11) := by kernel_rfl
      cases h
      exact W.ret hr
    refine W.region (by kernel_rfl) ?_
    refine WO.boolK 3 (fun b => [(0, .int .i64 a1), (1, l35 none a2), (18, .int .i64 a1), (19, .bool b), (20, .bool b)]) (decide (a1 ≥ 1)) (by kernel_rfl) (fun hb => ?_) (fun hb => ?_)
    · replace h := cond_t hb h
      refine WO.boolK 4 (fun b => [(0, .int .i64 a1), (1, l35 none a2), (18, .int .i64 a1), (19, .bool true), (20, .bool true), (21, .int .i64 a1), (22, .bool b), (23, .bool b), (24, .bool b)]) (decide (a1 ≤ 8)) (by kernel_rfl) (fun hb => ?_) (fun hb => ?_)
      · replace h := cond_t hb h
        refine WO.pureK 1 (some (.int .i64 ((List.map (encL 3 1 (AV.int .i64)) a2).length : Int))) (v := .int .i64 (a2.length : Int)) (by kernel_rfl) (by rw [List.length_map]) (e1 := [(0, .int .i64 a1), (1, l35 none a2), (18, .int .i64 a1), (19, .bool true), (20, .bool true), (21, .int .i64 a1), (22, .bool true), (23, .bool true), (24, .bool true), (25, l35 none a2), (26, .int .i64 (a2.length : Int))]) (by kernel_rfl) ?_
        refine WO.fin [4] [] [] [] (e2 := [(4, .bool (decide ((a2.length : Int) ≤ 60)))]) (by kernel_rfl) (fun _ h => h) ?_
        exact hK10 (decide ((a2.length : Int) ≤ 60)) h
      replace h := cond_f hb h
      refine WO.fin [4] [] [] [] (e2 := [(4, .bool false)]) (by kernel_rfl) (fun _ h => h) ?_
      exact hK10 false h
    replace h := cond_f hb h
    refine WO.fin [4] [] [] [] (e2 := [(4, .bool false)]) (by kernel_rfl) (fun _ h => h) ?_
    exact hK10 false h
  refine W.seq ?_
  refine W.region (by kernel_rfl) ?_
  refine WO.pureK 1 (some (.int .i64 ((List.map (encL 3 1 (AV.int .i64)) a2).length : Int))) (v := .int .i64 (a2.length : Int)) (by kernel_rfl) (by rw [List.length_map]) (e1 := [(0, .int .i64 a1), (1, l35 none a2), (7, l35 none a2), (8, .int .i64 (a2.length : Int))]) (by kernel_rfl) ?_
  refine WO.fin [0, 1, 7, 8, 9] [] [] [] (e2 := [(0, .int .i64 a1), (1, l35 none a2), (7, l35 none a2), (8, .int .i64 (a2.length : Int)), (9, .int .i64 0)]) (by kernel_rfl) (fun _ h => h) ?_
  refine W.block ?_
  obtain ⟨hl1, h⟩ := chk_some h
  refine W.weak [0, 1, 7, 8, 9] [] [] [] (env' := [(0, .int .i64 a1), (1, l35 none a2), (7, l35 none a2), (8, .int .i64 (a2.length : Int)), (9, .int .i64 ((0 : Nat) : Int))]) (by kernel_rfl) ?_
  refine W.range (σ := Unit) a2 (fun k1 s => [(0, .int .i64 a1), (1, l35 none a2), (7, l35 none a2), (8, .int .i64 (a2.length : Int)), (9, .int .i64 (k1 : Int))]) (fun r0 k0 s => rf1_Table_l1 a1 (rf1_Table_j4 a1 a2) r0 k0 = some r) (fun s h => ?_) (fun x1 r1 k1 s hx1 hk1 h hN1 => ?_) () h
  · have h : rf1_Table_l1 a1 (rf1_Table_j4 a1 a2) [] (a2).length = some r := h
    rw [rf1_Table_l1.eq_1] at h
    refine W.seq ?_
    refine W.region (by kernel_rfl) ?_
    refine WO.pureK 0 (some (.bool (decide (((a2).length : Int) < (a2.length : Int))))) (v := .bool false) (by kernel_rfl) (by rw [lt_false (l := a2)]) (e1 := [(0, .int .i64 a1), (1, l35 none a2), (7, l35 none a2), (8, .int .i64 (a2.length : Int)), (9, .int .i64 ((a2).length : Int)), (10, .bool false)]) (by kernel_rfl) ?_
    refine WO.fin ([0, 1, 7, 8, 9, 10]) [] [] [] (e2 := [(0, .int .i64 a1), (1, l35 none a2), (7, l35 none a2), (8, .int .i64 (a2.length : Int)), (9, .int .i64 ((a2).length : Int)), (10, .bool false)]) (by kernel_rfl) (fun _ h => h) ?_
    refine W.seq ?_
    refine W.condB false (by kernel_rfl) (fun h => Bool.noConfusion h) (fun _ => ?_)
    refine W.exit ?_
    refine W.weak [0, 1] [] [] [] (env' := [(0, .int .i64 a1), (1, l35 none a2)]) (by kernel_rfl) ?_
    exact hK4 () h
  · have h : rf1_Table_l1 a1 (rf1_Table_j4 a1 a2) (x1 :: r1) k1 = some r := h
    rw [rf1_Table_l1.eq_2] at h
    refine W.seq ?_
    refine W.region (by kernel_rfl) ?_
    refine WO.pureK 0 (some (.bool (decide ((k1 : Int) < (a2.length : Int))))) (v := .bool true) (by kernel_rfl) (by rw [lt_true hk1]) (e1 := [(0, .int .i64 a1), (1, l35 none a2), (7, l35 none a2), (8, .int .i64 (a2.length : Int)), (9, .int .i64 (k1 : Int)), (10, .bool true)]) (by kernel_rfl) ?_
    refine WO.fin ([0, 1, 7, 8, 9, 10]) [] [] [] (e2 := [(0, .int .i64 a1), (1, l35 none a2), (7, l35 none a2), (8, .int .i64 (a2.length : Int)), (9, .int .i64 (k1 : Int)), (10, .bool true)]) (by kernel_rfl) (fun _ h => h) ?_
    refine W.seq ?_
    refine W.condB true (by kernel_rfl) (fun _ => ?_) (fun h => Bool.noConfusion h)
    refine W.skip ?_
    refine W.weak [0, 1, 7, 8, 9] [] [] [] (env' := [(0, .int .i64 a1), (1, l35 none a2), (7, l35 none a2), (8, .int .i64 (a2.length : Int)), (9, .int .i64 (k1 : Int))]) (by kernel_rfl) ?_
    refine W.seq ?_
    refine W.block ?_
    refine W.seq ?_
    refine W.region (by kernel_rfl) ?_
    refine WO.pureK 0 (if (0 : Int) ≤ (k1 : Int) then ((List.map (encL 3 1 (AV.int .i64)) a2)[Int.toNat (k1 : Int)]?).map AV.ptr else none) (v := .ptr (l3 none x1)) (by kernel_rfl) (idx_nat (f := (encL 3 1 (AV.int .i64))) hx1) (e1 := [(0, .int .i64 a1), (1, l35 none a2), (7, l35 none a2), (8, .int .i64 (a2.length : Int)), (9, .int .i64 (k1 : Int)), (11, .ptr (l3 none x1))]) (by kernel_rfl) ?_
    refine WO.fin [0, 1, 6, 7, 8, 9] [] [] [] (e2 := [(0, .int .i64 a1), (1, l35 none a2), (6, l3 none x1), (7, l35 none a2), (8, .int .i64 (a2.length : Int)), (9, .int .i64 (k1 : Int))]) (by kernel_rfl) (fun _ h => h) ?_
    refine W.seq ?_
    refine W.region (by kernel_rfl) ?_
    refine WO.pureK 1 (some (.int .i64 ((List.map (AV.int .i64) x1).length : Int))) (v := .int .i64 (x1.length : Int)) (by kernel_rfl) (by rw [List.length_map]) (e1 := [(0, .int .i64 a1), (1, l35 none a2), (6, l3 none x1), (7, l35 none a2), (8, .int .i64 (a2.length : Int)), (9, .int .i64 (k1 : Int)), (13, l3 none x1), (14, .int .i64 (x1.length : Int))]) (by kernel_rfl) ?_
    refine WO.fin [0, 1, 7, 8, 9, 16] [] [] [] (e2 := [(0, .int .i64 a1), (1, l35 none a2), (7, l35 none a2), (8, .int .i64 (a2.length : Int)), (9, .int .i64 (k1 : Int)), (16, .bool ((x1.length : Int) != a1))]) (by kernel_rfl) (fun _ h => h) ?_
    refine W.condB ((x1.length : Int) != a1) (by kernel_rfl) (fun hb => ?_) (fun hb => ?_)
    · replace h := cond_t hb h
      refine W.seq ?_
      refine W.regT [4] [] [] [] (e2 := [(4, .bool false)]) (by kernel_rfl) (by kernel_rfl) (fun _ h => h) ?_
      refine W.weak [4] [] [] [] (env' := [(4, .bool false)]) (by kernel_rfl) ?_
      have hr : aresults Try.prog Try.f40 [(4, .bool false)] = some (.bool false) := by kernel_rfl
      cases h
      exact W.ret hr
    replace h := cond_f hb h
    refine W.skip ?_
    refine W.weak [0, 1, 7, 8, 9] [] [] [] (env' := [(0, .int .i64 a1), (1, l35 none a2), (7, l35 none a2), (8, .int .i64 (a2.length : Int)), (9, .int .i64 (k1 : Int))]) (by kernel_rfl) ?_
    refine W.region (by kernel_rfl) ?_
    refine WO.pureK 0 (some (.int .i64 (IntKind.wrap .i64 ((k1 : Int) + 1)))) (v := .int .i64 ((k1 + 1 : Nat) : Int)) (by kernel_rfl) (by rw [wrap_succ hl1 hk1]) (e1 := [(0, .int .i64 a1), (1, l35 none a2), (7, l35 none a2), (8, .int .i64 (a2.length : Int)), (9, .int .i64 (k1 : Int)), (17, .int .i64 ((k1 + 1 : Nat) : Int))]) (by kernel_rfl) ?_
    refine WO.fin [0, 1, 7, 8, 9] [] [] [] (e2 := [(0, .int .i64 a1), (1, l35 none a2), (7, l35 none a2), (8, .int .i64 (a2.length : Int)), (9, .int .i64 ((k1 + 1 : Nat) : Int))]) (by kernel_rfl) (fun _ h => h) ?_
    exact hN1 () h
def sl_IndexFunc_Lint_j4 : Option Int :=
  (some (-1))
def sl_IndexFunc_Lint_l1 (g2 : ((List Int) → Option Bool)) (K4 : (Option Int)) : List (List Int) → Nat → Option Int
  | [], k1 => K4
  | x1 :: r1, k1 => ((g2 x1).bind fun w9 => (bif w9 then (some (k1 : Int)) else (sl_IndexFunc_Lint_l1 g2 K4 r1 (k1 + 1))))
def sl_IndexFunc_Lint (a1 : (List (List Int))) (g2 : ((List Int) → Option Bool)) : Option Int :=
  (chk (lenOk a1) (sl_IndexFunc_Lint_l1 g2 (sl_IndexFunc_Lint_j4) a1 0))
theorem run_sl_IndexFunc_Lint (a1 : (List (List Int))) (g2 : ((List Int) → Option Bool)) (F_g2 : Nat) (C_g2 : List AV) (hok_g2 : okFn Try.prog F_g2 = true) (hrun_g2 : ∀ (x0 : (List Int)) r, g2 x0 = some r → Run Try.prog (.call F_g2 ([l3 none x0] ++ C_g2) (.bool r))) (r : Int) (h : sl_IndexFunc_Lint a1 g2 = some r) : Run Try.prog (.call 93 [l35 none a1, .clo F_g2 C_g2] (.int .i64 r)) := by
  refine call_of_W Try.func93 rfl (by kernel_rfl) (env0 := [(0, l35 none a1), (1, .clo F_g2 C_g2)]) (by kernel_rfl) ?_
  unfold sl_IndexFunc_Lint at h
  refine W.seq ?_
  refine W.regT [0, 1] [] [] [] (e2 := [(0, l35 none a1), (1, .clo F_g2 C_g2)]) (by kernel_rfl) (by kernel_rfl) (fun _ h => h) ?_
  refine W.seq ?_
  refine W.join (σ := Unit) (fun s => []) (fun s => (sl_IndexFunc_Lint_j4) = some r) (fun s h => ?_) (fun hK4 => ?_)
  · have h : (sl_IndexFunc_Lint_j4) = some r := h
    unfold sl_IndexFunc_Lint_j4 at h
    refine W.seq ?_
    refine W.regT [4] [] [] [] (e2 := [(4, .int .i64 (-1))]) (by kernel_rfl) (by kernel_rfl) (fun _ h => h) ?_
    refine W.weak [4] [] [] [] (env' := [(4, .int .i64 (-1))]) (by kernel_rfl) ?_
    have hr : aresults Try.prog Try.f93 [(4, .int .i64 (-1))] = some (.int .i64 (-1)) := by kernel_rfl
    cases h
    exact W.ret hr
  refine W.seq ?_
  refine W.region (by kernel_rfl) ?_
  refine WO.pureK 1 (some (.int .i64 ((List.map (encL 3 1 (AV.int .i64)) a1).length : Int))) (v := .int .i64 (a1.length : Int)) (by kernel_rfl) (by rw [List.length_map]) (e1 := [(0, l35 none a1), (1, .clo F_g2 C_g2), (6, l35 none a1), (7, .int .i64 (a1.length : Int))]) (by kernel_rfl) ?_
  refine WO.fin [0, 1, 7, 8] [] [] [] (e2 := [(0, l35 none a1), (1, .clo F_g2 C_g2), (7, .int .i64 (a1.length : Int)), (8, .int .i64 0)]) (by kernel_rfl) (fun _ h => h) ?_
  refine W.block ?_
  obtain ⟨hl1, h⟩ := chk_some h
  refine W.weak [0, 1, 7, 8] [] [] [] (env' := [(0, l35 none a1), (1, .clo F_g2 C_g2), (7, .int .i64 (a1.length : Int)), (8, .int .i64 ((0 : Nat) : Int))]) (by kernel_rfl) ?_
  refine W.range (σ := Unit) a1 (fun k1 s => [(0, l35 none a1), (1, .clo F_g2 C_g2), (7, .int .i64 (a1.length : Int)), (8, .int .i64 (k1 : Int))]) (fun r0 k0 s => sl_IndexFunc_Lint_l1 g2 (sl_IndexFunc_Lint_j4) r0 k0 = some r) (fun s h => ?_) (fun x1 r1 k1 s hx1 hk1 h hN1 => ?_) () h
  · have h : sl_IndexFunc_Lint_l1 g2 (sl_IndexFunc_Lint_j4) [] (a1).length = some r := h
    rw [sl_IndexFunc_Lint_l1.eq_1] at h
    refine W.seq ?_
    refine W.region (by kernel_rfl) ?_
    refine WO.pureK 0 (some (.bool (decide (((a1).length : Int) < (a1.length : Int))))) (v := .bool false) (by kernel_rfl) (by rw [lt_false (l := a1)]) (e1 := [(0, l35 none a1), (1, .clo F_g2 C_g2), (7, .int .i64 (a1.length : Int)), (8, .int .i64 ((a1).length : Int)), (9, .bool false)]) (by kernel_rfl) ?_
    refine WO.fin ([0, 1, 7, 8, 9]) [] [] [] (e2 := [(0, l35 none a1), (1, .clo F_g2 C_g2), (7, .int .i64 (a1.length : Int)), (8, .int .i64 ((a1).length : Int)), (9, .bool false)]) (by kernel_rfl) (fun _ h => h) ?_
    refine W.seq ?_
    refine W.condB false (by kernel_rfl) (fun h => Bool.noConfusion h) (fun _ => ?_)
    refine W.exit ?_
    refine W.weak [] [] [] [] (env' := []) (by kernel_rfl) ?_
    exact hK4 () h
  · have h : sl_IndexFunc_Lint_l1 g2 (sl_IndexFunc_Lint_j4) (x1 :: r1) k1 = some r := h
    rw [sl_IndexFunc_Lint_l1.eq_2] at h
    refine W.seq ?_
    refine W.region (by kernel_rfl) ?_
    refine WO.pureK 0 (some (.bool (decide ((k1 : Int) < (a1.length : Int))))) (v := .bool true) (by kernel_rfl) (by rw [lt_true hk1]) (e1 := [(0, l35 none a1), (1, .clo F_g2 C_g2), (7, .int .i64 (a1.length : Int)), (8, .int .i64 (k1 : Int)), (9, .bool true)]) (by kernel_rfl) ?_
    refine WO.fin ([0, 1, 7, 8, 9]) [] [] [] (e2 := [(0, l35 none a1), (1, .clo F_g2 C_g2), (7, .int .i64 (a1.length : Int)), (8, .int .i64 (k1 : Int)), (9, .bool true)]) (by kernel_rfl) (fun _ h => h) ?_
    refine W.seq ?_
    refine W.condB true (by kernel_rfl) (fun _ => ?_) (fun h => Bool.noConfusion h)
    refine W.skip ?_
    refine W.weak [0, 1, 7, 8] [] [] [] (env' := [(0, l35 none a1), (1, .clo F_g2 C_g2), (7, .int .i64 (a1.length : Int)), (8, .int .i64 (k1 : Int))]) (by kernel_rfl) ?_
    refine W.seq ?_
    refine W.block ?_
    refine W.seq ?_
    refine W.regT [0, 1, 5, 7, 8] [] [] [] (e2 := [(0, l35 none a1), (1, .clo F_g2 C_g2), (5, .int .i64 (k1 : Int)), (7, .int .i64 (a1.length : Int)), (8, .int .i64 (k1 : Int))]) (by kernel_rfl) (by kernel_rfl) (fun _ h => h) ?_
    refine W.seq ?_
    refine W.region (by kernel_rfl) ?_
    refine WO.pureK 3 (if (0 : Int) ≤ (k1 : Int) then ((List.map (encL 3 1 (AV.int .i64)) a1)[Int.toNat (k1 : Int)]?).map AV.ptr else none) (v := .ptr (l3 none x1)) (by kernel_rfl) (idx_nat (f := (encL 3 1 (AV.int .i64))) hx1) (e1 := [(0, l35 none a1), (1, .clo F_g2 C_g2), (5, .int .i64 (k1 : Int)), (7, .int .i64 (a1.length : Int)), (8, .int .i64 (k1 : Int)), (11, .clo F_g2 C_g2), (12, l35 none a1), (13, .int .i64 (k1 : Int)), (14, .ptr (l3 none x1))]) (by kernel_rfl) ?_
    obtain ⟨w9, hw9, h⟩ := bind_some h
    refine WO.callK 1 (F := F_g2) (l := [l3 none x1]) (C := C_g2) (r := .bool w9) (by kernel_rfl) hok_g2 (hrun_g2 x1 w9 hw9) (e1 := [(0, l35 none a1), (1, .clo F_g2 C_g2), (5, .int .i64 (k1 : Int)), (7, .int .i64 (a1.length : Int)), (8, .int .i64 (k1 : Int)), (11, .clo F_g2 C_g2), (12, l35 none a1), (13, .int .i64 (k1 : Int)), (14, .ptr (l3 none x1)), (15, l3 none x1), (16, .bool w9)]) (by kernel_rfl) ?_
    refine WO.fin [0, 1, 5, 7, 8, 16] [] [] [] (e2 := [(0, l35 none a1), (1, .clo F_g2 C_g2), (5, .int .i64 (k1 : Int)), (7, .int .i64 (a1.length : Int)), (8, .int .i64 (k1 : Int)), (16, .bool w9)]) (by kernel_rfl) (fun _ h => h) ?_
    refine W.condB w9 (by kernel_rfl) (fun hb => ?_) (fun hb => ?_)
    · replace h := cond_t hb h
      refine W.seq ?_
      refine W.regT [4] [] [] [] (e2 := [(4, .int .i64 (k1 : Int))]) (by kernel_rfl) (by kernel_rfl) (fun _ h => h) ?_
      refine W.weak [4] [] [] [] (env' := [(4, .int .i64 (k1 : Int))]) (by kernel_rfl) ?_
      have hr : aresults Try.prog Try.f93 [(4, .int .i64 (k1 : Int))] = some (.int .i64 (k1 : Int)) := by kernel_rfl
      cases h
      exact W.ret hr
    replace h := cond_f hb h
    refine W.skip ?_
    refine W.weak [0, 1, 7, 8] [] [] [] (env' := [(0, l35 none a1), (1, .clo F_g2 C_g2), (7, .int .i64 (a1.length : Int)), (8, .int .i64 (k1 : Int))]) (by kernel_rfl) ?_
    refine W.region (by kernel_rfl) ?_
    refine WO.pureK 0 (some (.int .i64 (IntKind.wrap .i64 ((k1 : Int) + 1)))) (v := .int .i64 ((k1 + 1 : Nat) : Int)) (by kernel_rfl) (by rw [wrap_succ hl1 hk1]) (e1 := [(0, l35 none a1), (1, .clo F_g2 C_g2), (7, .int .i64 (a1.length : Int)), (8, .int .i64 (k1 : Int)), (18, .int .i64 ((k1 + 1 : Nat) : Int))]) (by kernel_rfl) ?_
    refine WO.fin [0, 1, 7, 8] [] [] [] (e2 := [(0, l35 none a1), (1, .clo F_g2 C_g2), (7, .int .i64 (a1.length : Int)), (8, .int .i64 ((k1 + 1 : Nat) : Int))]) (by kernel_rfl) (fun _ h => h) ?_
    exact hN1 () h
def sl_ContainsFunc_Lint (a1 : (List (List Int))) (g2 : ((List Int) → Option Bool)) : Option Bool :=
  ((sl_IndexFunc_Lint a1 g2).bind fun w5 => (some (decide (w5 ≥ 0))))
theorem run_sl_ContainsFunc_Lint (a1 : (List (List Int))) (g2 : ((List Int) → Option Bool)) (F_g2 : Nat) (C_g2 : List AV) (hok_g2 : okFn Try.prog F_g2 = true) (hrun_g2 : ∀ (x0 : (List Int)) r, g2 x0 = some r → Run Try.prog (.call F_g2 ([l3 none x0] ++ C_g2) (.bool r))) (r : Bool) (h : sl_ContainsFunc_Lint a1 g2 = some r) : Run Try.prog (.call 80 [l35 none a1, .clo F_g2 C_g2] (.bool r)) := by
  refine call_of_W Try.func80 rfl (by kernel_rfl) (env0 := [(0, l35 none a1), (1, .clo F_g2 C_g2)]) (by kernel_rfl) ?_
  unfold sl_ContainsFunc_Lint at h
  refine W.seq ?_
  refine W.regT [0, 1] [] [] [] (e2 := [(0, l35 none a1), (1, .clo F_g2 C_g2)]) (by kernel_rfl) (by kernel_rfl) (fun _ h => h) ?_
  refine W.seq ?_
  refine W.region (by kernel_rfl) ?_
  obtain ⟨w5, hw5, h⟩ := bind_some h
  refine WO.callK 2 (F := 93) (l := [l35 none a1, .clo F_g2 C_g2]) (C := []) (r := .int .i64 w5) (by kernel_rfl) (by kernel_rfl) (run_sl_IndexFunc_Lint a1 g2 F_g2 C_g2 hok_g2 hrun_g2 w5 hw5) (e1 := [(0, l35 none a1), (1, .clo F_g2 C_g2), (5, l35 none a1), (6, .clo F_g2 C_g2), (7, .int .i64 w5)]) (by kernel_rfl) ?_
  refine WO.fin [4] [] [] [] (e2 := [(4, .bool (decide (w5 ≥ 0)))]) (by kernel_rfl) (fun _ h => h) ?_
  refine W.weak [4] [] [] [] (env' := [(4, .bool (decide (w5 ≥ 0)))]) (by kernel_rfl) ?_
  have hr : aresults Try.prog Try.f80 [(4, .bool (decide (w5 ≥ 0)))] = some (.bool (decide (w5 ≥ 0))) := by kernel_rfl
  cases h
  exact W.ret hr
def dp_table_1 (a1 : (List Int)) (c2 : Int) : Option Bool :=
  (some ((a1.length : Int) != c2))
theorem run_dp_table_1 (a1 : (List Int)) (c2 : Int) (r : Bool) (h : dp_table_1 a1 c2 = some r) : Run Try.prog (.call 81 [l3 none a1, .ptr (.int .i64 c2)] (.bool r)) := by
  refine call_of_W Try.func81 rfl (by kernel_rfl) (env0 := [(0, l3 none a1), (1, .ptr (.int .i64 c2))]) (by kernel_rfl) ?_
  unfold dp_table_1 at h
  refine W.seq ?_
  refine W.regT [0, 1] [] [] [] (e2 := [(0, l3 none a1), (1, .ptr (.int .i64 c2))]) (by kernel_rfl) (by kernel_rfl) (fun _ h => h) ?_
  refine W.seq ?_
  refine W.region (by kernel_rfl) ?_
  refine WO.pureK 1 (some (.int .i64 ((List.map (AV.int .i64) a1).length : Int))) (v := .int .i64 (a1.length : Int)) (by kernel_rfl) (by rw [List.length_map]) (e1 := [(0, l3 none a1), (1, .ptr (.int .i64 c2)), (4, l3 none a1), (5, .int .i64 (a1.length : Int))]) (by kernel_rfl) ?_
  refine WO.fin [3] [] [] [] (e2 := [(3, .bool ((a1.length : Int) != c2))]) (by kernel_rfl) (fun _ h => h) ?_
  refine W.weak [3] [] [] [] (env' := [(3, .bool ((a1.length : Int) != c2))]) (by kernel_rfl) ?_
  have hr : aresults Try.prog Try.f81 [(3, .bool ((a1.length : Int) != c2))] = some (.bool ((a1.length : Int) != c2)) := by kernel_rfl
  cases h
  exact W.ret hr
def dp_table_j4 (v6 : Bool) : Option Bool :=
  (some v6)
def dp_table (a1 : Int) (a2 : (List (List Int))) : Option Bool :=
  (bif (decide (a1 ≥ 1)) then (bif (decide (a1 ≤ 8)) then (bif (decide ((a2.length : Int) ≤ 60)) then ((sl_ContainsFunc_Lint a2 (fun y0 => dp_table_1 y0 a1)).bind fun w5 => ((dp_table_j4) (!w5))) else ((dp_table_j4) false)) else ((dp_table_j4) false)) else ((dp_table_j4) false))
theorem run_dp_table (a1 : Int) (a2 : (List (List Int))) (r : Bool) (h : dp_table a1 a2 = some r) : Run Try.prog (.call 65 [.int .i64 a1, l35 none a2] (.bool r)) := by
  refine call_of_W Try.func65 rfl (by kernel_rfl) (env0 := [(0, .int .i64 a1), (1, l35 none a2)]) (by kernel_rfl) ?_
  unfold dp_table at h
  refine W.seq ?_
  refine W.regT [1, 2] [2] [] [] (e2 := [(1, l35 none a2), (2, .ptr (.int .i64 a1))]) (by kernel_rfl) (by kernel_rfl) (fun _ h => h) ?_
  refine W.seq ?_
  refine W.join (σ := (Bool)) (fun s => [(4, .bool s)]) (fun s => (dp_table_j4) s = some r) (fun s h => ?_) (fun hK4 => ?_)
  · obtain ⟨v6, rfl⟩ : ∃ x, x = s := ⟨s, rfl⟩
    have h : (dp_table_j4) v6 = some r := h
    unfold dp_table_j4 at h
    refine W.weak [4] [] [] [] (env' := [(4, .bool v6)]) (by kernel_rfl) ?_
    have hr : aresults Try.prog Try.f65 [(4, .bool v6)] = some (.bool v6) := by kernel_rfl
    cases h
    exact W.ret hr
  refine W.region (by kernel_rfl) ?_
  refine WO.boolK 3 (fun b => [(1, l35 none a2), (2, .ptr (.int .i64 a1)), (5, .int .i64 a1), (6, .bool b), (7, .bool b)]) (decide (a1 ≥ 1)) (by kernel_rfl) (fun hb => ?_) (fun hb => ?_)
  · replace h := cond_t hb h
    refine WO.boolK 4 (fun b => [(1, l35 none a2), (2, .ptr (.int .i64 a1)), (5, .int .i64 a1), (6, .bool true), (7, .bool true), (8, .int .i64 a1), (9, .bool b), (10, .bool b), (11, .bool b)]) (decide (a1 ≤ 8)) (by kernel_rfl) (fun hb => ?_) (fun hb => ?_)
    · replace h := cond_t hb h
      refine WO.pureK 1 (some (.int .i64 ((List.map (encL 3 1 (AV.int .i64)) a2).length : Int))) (v := .int .i64 (a2.length : Int)) (by kernel_rfl) (by rw [List.length_map]) (e1 := [(1, l35 none a2), (2, .ptr (.int .i64 a1)), (5, .int .i64 a1), (6, .bool true), (7, .bool true), (8, .int .i64 a1), (9, .bool true), (10, .bool true), (11, .bool true), (12, l35 none a2), (13, .int .i64 (a2.length : Int))]) (by kernel_rfl) ?_
      refine WO.boolK 3 (fun b => [(1, l35 none a2), (2, .ptr (.int .i64 a1)), (5, .int .i64 a1), (6, .bool true), (7, .bool true), (8, .int .i64 a1), (9, .bool true), (10, .bool true), (11, .bool true), (12, l35 none a2), (13, .int .i64 (a2.length : Int)), (14, .bool b), (15, .bool b), (16, .bool b)]) (decide ((a2.length : Int) ≤ 60)) (by kernel_rfl) (fun hb => ?_) (fun hb => ?_)
      · replace h := cond_t hb h
        obtain ⟨w5, hw5, h⟩ := bind_some h
        refine WO.callK 2 (F := 80) (l := [l35 none a2, .clo 81 [.ptr (.int .i64 a1)]]) (C := []) (r := .bool w5) (by kernel_rfl) (by kernel_rfl) (run_sl_ContainsFunc_Lint a2 (fun y0 => dp_table_1 y0 a1) 81 [.ptr (.int .i64 a1)] (by kernel_rfl) (fun y0 r h => run_dp_table_1 y0 a1 r h) w5 hw5) (e1 := [(1, l35 none a2), (2, .ptr (.int .i64 a1)), (5, .int .i64 a1), (6, .bool true), (7, .bool true), (8, .int .i64 a1), (9, .bool true), (10, .bool true), (11, .bool true), (12, l35 none a2), (13, .int .i64 (a2.length : Int)), (14, .bool true), (15, .bool true), (16, .bool true), (17, l35 none a2), (18, .clo 81 [.ptr (.int .i64 a1)]), (19, .bool w5)]) (by kernel_rfl) ?_
        refine WO.fin [4] [] [] [] (e2 := [(4, .bool (!w5))]) (by kernel_rfl) (fun _ h => h) ?_
        exact hK4 (!w5) h
      replace h := cond_f hb h
      refine WO.fin [4] [] [] [] (e2 := [(4, .bool false)]) (by kernel_rfl) (fun _ h => h) ?_
      exact hK4 false h
    replace h := cond_f hb h
    refine WO.fin [4] [] [] [] (e2 := [(4, .bool false)]) (by kernel_rfl) (fun _ h => h) ?_
    exact hK4 false h
  replace h := cond_f hb h
  refine WO.fin [4] [] [] [] (e2 := [(4, .bool false)]) (by kernel_rfl) (fun _ h => h) ?_
  exact hK4 false h

end Go.AM
