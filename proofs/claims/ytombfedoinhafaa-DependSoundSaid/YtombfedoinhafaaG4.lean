/- PRINTED by gen.py: pure functions and the proofs that the code computes them. No statement of the seat is proved here. -/
import Derived.Test.YtombfedoinhafaaG3
set_option linter.unusedVariables false
namespace Go.AM
open Go.Proofs
def dp_Check_j13 : Option (Bool × Int) :=
  (some (true, 0))
def dp_Check_l1 (a1 : Int) (a2 : (List dpDep)) (a3 : (List dpStep)) (K13 : (Option (Bool × Int))) : List dpStep → Nat → Option (Bool × Int)
  | [], k1 => K13
  | x1 :: r1, k1 => ((sub a3 0 (k1 : Int)).bind fun e18 => ((dp_Step_right x1 a1 a2 e18).bind fun w19 => (bif (!w19) then (some (false, 0)) else (dp_Check_l1 a1 a2 a3 K13 r1 (k1 + 1)))))
def dp_Check_j10 (a1 : Int) (a2 : (List dpDep)) (a3 : (List dpStep)) (v11 : Bool) : Option (Bool × Int) :=
  (bif v11 then (some (false, 0)) else (chk (lenOk a3) (dp_Check_l1 a1 a2 a3 (dp_Check_j13) a3 0)))
def dp_Check (a1 : Int) (a2 : (List dpDep)) (a3 : (List dpStep)) : Option (Bool × Int) :=
  ((dp_valid a1 a2).bind fun w7 => (bif (!w7) then (some (false, 2)) else (bif (decide ((a3.length : Int) < 1)) then ((dp_Check_j10 a1 a2 a3) true) else ((dp_Check_j10 a1 a2 a3) (decide ((a3.length : Int) > 100))))))
theorem run_dp_Check (a1 : Int) (a2 : (List dpDep)) (a3 : (List dpStep)) (r : (Bool × Int)) (h : dp_Check a1 a2 a3 = some r) : Run Try.prog (.call 26 [.int .i64 a1, l33 none a2, l58 none a3] (.tup [.bool r.1, .int .i64 r.2])) := by
  refine call_of_W Try.func26 rfl (by kernel_rfl) (env0 := [(0, .int .i64 a1), (1, l33 none a2), (2, l58 none a3)]) (by kernel_rfl) ?_
  unfold dp_Check at h
  refine W.seq ?_
  refine W.regT [0, 1, 2] [] [] [] (e2 := [(0, .int .i64 a1), (1, l33 none a2), (2, l58 none a3)]) (by kernel_rfl) (by kernel_rfl) (fun _ h => h) ?_
  refine W.seq ?_
  refine W.seq ?_
  refine W.region (by kernel_rfl) ?_
  obtain ⟨w7, hw7, h⟩ := bind_some h
  refine WO.callK 2 (F := 57) (l := [.int .i64 a1, l33 none a2]) (C := []) (r := .bool w7) (by kernel_rfl) (by kernel_rfl) (run_dp_valid a1 a2 w7 hw7) (e1 := [(0, .int .i64 a1), (1, l33 none a2), (2, l58 none a3), (10, .int .i64 a1), (11, l33 none a2), (12, .bool w7)]) (by kernel_rfl) ?_
  refine WO.fin [0, 1, 2, 13] [] [] [] (e2 := [(0, .int .i64 a1), (1, l33 none a2), (2, l58 none a3), (13, .bool (!w7))]) (by kernel_rfl) (fun _ h => h) ?_
  refine W.condB (!w7) (by kernel_rfl) (fun hb => ?_) (fun hb => ?_)
  · replace h := cond_t hb h
    refine W.seq ?_
    refine W.regT [6, 7] [] [] [] (e2 := [(6, .bool false), (7, .int .i64 2)]) (by kernel_rfl) (by kernel_rfl) (fun _ h => h) ?_
    refine W.weak [6, 7] [] [] [] (env' := [(6, .bool false), (7, .int .i64 2)]) (by kernel_rfl) ?_
    have hr : aresults Try.prog Try.f26 [(6, .bool false), (7, .int .i64 2)] = some (.tup [.bool false, .int .i64 2]) := by kernel_rfl
    cases h
    exact W.ret hr
  replace h := cond_f hb h
  refine W.skip ?_
  refine W.weak [0, 1, 2] [] [] [] (env' := [(0, .int .i64 a1), (1, l33 none a2), (2, l58 none a3)]) (by kernel_rfl) ?_
  refine W.seq ?_
  refine W.seq ?_
  refine W.join (σ := (Bool)) (fun s => [(0, .int .i64 a1), (1, l33 none a2), (2, l58 none a3), (21, .bool s)]) (fun s => (dp_Check_j10 a1 a2 a3) s = some r) (fun s h => ?_) (fun hK10 => ?_)
  · obtain ⟨v11, rfl⟩ : ∃ x, x = s := ⟨s, rfl⟩
    have h : (dp_Check_j10 a1 a2 a3) v11 = some r := h
    unfold dp_Check_j10 at h
    refine W.condB v11 (by kernel_rfl) (fun hb => ?_) (fun hb => ?_)
    · replace h := cond_t hb h
      refine W.seq ?_
      refine W.regT [6, 7] [] [] [] (e2 := [(6, .bool false), (7, .int .i64 0)]) (by kernel_rfl) (by kernel_rfl) (fun _ h => h) ?_
      refine W.weak [6, 7] [] [] [] (env' := [(6, .bool false), (7, .int .i64 0)]) (by kernel_rfl) ?_
      have hr : aresults Try.prog Try.f26 [(6, .bool false), (7, .int .i64 0)] = some (.tup [.bool false, .int .i64 0]) := by kernel_rfl
      cases h
      exact W.ret hr
    replace h := cond_f hb h
    refine W.skip ?_
    refine W.weak [0, 1, 2] [] [] [] (env' := [(0, .int .i64 a1), (1, l33 none a2), (2, l58 none a3)]) (by kernel_rfl) ?_
    refine W.seq ?_
    refine W.join (σ := Unit) (fun s => []) (fun s => (dp_Check_j13) = some r) (fun s h => ?_) (fun hK13 => ?_)
    · have h : (dp_Check_j13) = some r := h
      unfold dp_Check_j13 at h
      refine W.seq ?_
      refine W.regT [6, 7] [] [] [] (e2 := [(6, .bool true), (7, .int .i64 0)]) (by kernel_rfl) (by kernel_rfl) (fun _ h => h) ?_
      refine W.weak [6, 7] [] [] [] (env' := [(6, .bool true), (7, .int .i64 0)]) (by kernel_rfl) ?_
      have hr : aresults Try.prog Try.f26 [(6, .bool true), (7, .int .i64 0)] = some (.tup [.bool true, .int .i64 0]) := by kernel_rfl
      cases h
      exact W.ret hr
    refine W.seq ?_
    refine W.region (by kernel_rfl) ?_
    refine WO.pureK 1 (some (.int .i64 ((List.map e_dpStep a3).length : Int))) (v := .int .i64 (a3.length : Int)) (by kernel_rfl) (by rw [List.length_map]) (e1 := [(0, .int .i64 a1), (1, l33 none a2), (2, l58 none a3), (22, l58 none a3), (23, .int .i64 (a3.length : Int))]) (by kernel_rfl) ?_
    refine WO.fin [0, 1, 2, 22, 23, 24] [] [] [] (e2 := [(0, .int .i64 a1), (1, l33 none a2), (2, l58 none a3), (22, l58 none a3), (23, .int .i64 (a3.length : Int)), (24, .int .i64 0)]) (by kernel_rfl) (fun _ h => h) ?_
    refine W.block ?_
    obtain ⟨hl1, h⟩ := chk_some h
    refine W.weak [0, 1, 2, 22, 23, 24] [] [] [] (env' := [(0, .int .i64 a1), (1, l33 none a2), (2, l58 none a3), (22, l58 none a3), (23, .int .i64 (a3.length : Int)), (24, .int .i64 ((0 : Nat) : Int))]) (by kernel_rfl) ?_
    refine W.range (σ := Unit) a3 (fun k1 s => [(0, .int .i64 a1), (1, l33 none a2), (2, l58 none a3), (22, l58 none a3), (23, .int .i64 (a3.length : Int)), (24, .int .i64 (k1 : Int))]) (fun r0 k0 s => dp_Check_l1 a1 a2 a3 (dp_Check_j13) r0 k0 = some r) (fun s h => ?_) (fun x1 r1 k1 s hx1 hk1 h hN1 => ?_) () h
    · have h : dp_Check_l1 a1 a2 a3 (dp_Check_j13) [] (a3).length = some r := h
      rw [dp_Check_l1.eq_1] at h
      refine W.seq ?_
      refine W.region (by kernel_rfl) ?_
      refine WO.pureK 0 (some (.bool (decide (((a3).length : Int) < (a3.length : Int))))) (v := .bool false) (by kernel_rfl) (by rw [lt_false (l := a3)]) (e1 := [(0, .int .i64 a1), (1, l33 none a2), (2, l58 none a3), (22, l58 none a3), (23, .int .i64 (a3.length : Int)), (24, .int .i64 ((a3).length : Int)), (25, .bool false)]) (by kernel_rfl) ?_
      refine WO.fin ([0, 1, 2, 22, 23, 24, 25]) [] [] [] (e2 := [(0, .int .i64 a1), (1, l33 none a2), (2, l58 none a3), (22, l58 none a3), (23, .int .i64 (a3.length : Int)), (24, .int .i64 ((a3).length : Int)), (25, .bool false)]) (by kernel_rfl) (fun _ h => h) ?_
      refine W.seq ?_
      refine W.condB false (by kernel_rfl) (fun h => Bool.noConfusion h) (fun _ => ?_)
      refine W.exit ?_
      refine W.weak [] [] [] [] (env' := []) (by kernel_rfl) ?_
      exact hK13 () h
    · have h : dp_Check_l1 a1 a2 a3 (dp_Check_j13) (x1 :: r1) k1 = some r := h
      rw [dp_Check_l1.eq_2] at h
      refine W.seq ?_
      refine W.region (by kernel_rfl) ?_
      refine WO.pureK 0 (some (.bool (decide ((k1 : Int) < (a3.length : Int))))) (v := .bool true) (by kernel_rfl) (by rw [lt_true hk1]) (e1 := [(0, .int .i64 a1), (1, l33 none a2), (2, l58 none a3), (22, l58 none a3), (23, .int .i64 (a3.length : Int)), (24, .int .i64 (k1 : Int)), (25, .bool true)]) (by kernel_rfl) ?_
      refine WO.fin ([0, 1, 2, 22, 23, 24, 25]) [] [] [] (e2 := [(0, .int .i64 a1), (1, l33 none a2), (2, l58 none a3), (22, l58 none a3), (23, .int .i64 (a3.length : Int)), (24, .int .i64 (k1 : Int)), (25, .bool true)]) (by kernel_rfl) (fun _ h => h) ?_
      refine W.seq ?_
      refine W.condB true (by kernel_rfl) (fun _ => ?_) (fun h => Bool.noConfusion h)
      refine W.skip ?_
      refine W.weak [0, 1, 2, 22, 23, 24] [] [] [] (env' := [(0, .int .i64 a1), (1, l33 none a2), (2, l58 none a3), (22, l58 none a3), (23, .int .i64 (a3.length : Int)), (24, .int .i64 (k1 : Int))]) (by kernel_rfl) ?_
      refine W.seq ?_
      refine W.block ?_
      refine W.seq ?_
      refine W.region (by kernel_rfl) ?_
      refine WO.pureK 1 (if (0 : Int) ≤ (k1 : Int) then ((List.map e_dpStep a3)[Int.toNat (k1 : Int)]?).map AV.ptr else none) (v := .ptr (.agg [.int .i64 x1.f_Rule, .int .i64 x1.f_I, .int .i64 x1.f_J, .int .i64 x1.f_Dep.f_From, .int .i64 x1.f_Dep.f_To])) (by kernel_rfl) (idx_nat (f := e_dpStep) hx1) (e1 := [(0, .int .i64 a1), (1, l33 none a2), (2, l58 none a3), (22, l58 none a3), (23, .int .i64 (a3.length : Int)), (24, .int .i64 (k1 : Int)), (26, .int .i64 (k1 : Int)), (27, .ptr (.agg [.int .i64 x1.f_Rule, .int .i64 x1.f_I, .int .i64 x1.f_J, .int .i64 x1.f_Dep.f_From, .int .i64 x1.f_Dep.f_To]))]) (by kernel_rfl) ?_
      refine WO.fin [0, 1, 2, 8, 9, 22, 23, 24] [9] [] [] (e2 := [(0, .int .i64 a1), (1, l33 none a2), (2, l58 none a3), (8, .int .i64 (k1 : Int)), (9, .ptr (.agg [.int .i64 x1.f_Rule, .int .i64 x1.f_I, .int .i64 x1.f_J, .int .i64 x1.f_Dep.f_From, .int .i64 x1.f_Dep.f_To])), (22, l58 none a3), (23, .int .i64 (a3.length : Int)), (24, .int .i64 (k1 : Int))]) (by kernel_rfl) (fun _ h => h) ?_
      refine W.seq ?_
      refine W.region (by kernel_rfl) ?_
      obtain ⟨e18, he18, h⟩ := bind_some h
      refine WO.pureK 5 (if (0 : Int) ≤ 0 ∧ 0 ≤ (k1 : Int) ∧ (k1 : Int) ≤ ((List.map e_dpStep a3).length : Int) then some (.lst 58 5 none (((List.map e_dpStep a3).take (Int.toNat (k1 : Int))).drop (Int.toNat 0))) else none) (v := l58 none e18) (by kernel_rfl) (sub_av he18) (e1 := [(0, .int .i64 a1), (1, l33 none a2), (2, l58 none a3), (8, .int .i64 (k1 : Int)), (9, .ptr (.agg [.int .i64 x1.f_Rule, .int .i64 x1.f_I, .int .i64 x1.f_J, .int .i64 x1.f_Dep.f_From, .int .i64 x1.f_Dep.f_To])), (22, l58 none a3), (23, .int .i64 (a3.length : Int)), (24, .int .i64 (k1 : Int)), (29, .agg [.int .i64 x1.f_Rule, .int .i64 x1.f_I, .int .i64 x1.f_J, .int .i64 x1.f_Dep.f_From, .int .i64 x1.f_Dep.f_To]), (30, .int .i64 a1), (31, l33 none a2), (32, l58 none a3), (33, .int .i64 (k1 : Int)), (34, l58 none e18)]) (by kernel_rfl) ?_
      obtain ⟨w19, hw19, h⟩ := bind_some h
      refine WO.callK 0 (F := 63) (l := [.agg [.int .i64 x1.f_Rule, .int .i64 x1.f_I, .int .i64 x1.f_J, .int .i64 x1.f_Dep.f_From, .int .i64 x1.f_Dep.f_To], .int .i64 a1, l33 none a2, l58 none e18]) (C := []) (r := .bool w19) (by kernel_rfl) (by kernel_rfl) (run_dp_Step_right x1 a1 a2 e18 w19 hw19) (e1 := [(0, .int .i64 a1), (1, l33 none a2), (2, l58 none a3), (8, .int .i64 (k1 : Int)), (9, .ptr (.agg [.int .i64 x1.f_Rule, .int .i64 x1.f_I, .int .i64 x1.f_J, .int .i64 x1.f_Dep.f_From, .int .i64 x1.f_Dep.f_To])), (22, l58 none a3), (23, .int .i64 (a3.length : Int)), (24, .int .i64 (k1 : Int)), (29, .agg [.int .i64 x1.f_Rule, .int .i64 x1.f_I, .int .i64 x1.f_J, .int .i64 x1.f_Dep.f_From, .int .i64 x1.f_Dep.f_To]), (30, .int .i64 a1), (31, l33 none a2), (32, l58 none a3), (33, .int .i64 (k1 : Int)), (34, l58 none e18), (35, .bool w19)]) (by kernel_rfl) ?_
      refine WO.fin [0, 1, 2, 22, 23, 24, 36] [] [] [] (e2 := [(0, .int .i64 a1), (1, l33 none a2), (2, l58 none a3), (22, l58 none a3), (23, .int .i64 (a3.length : Int)), (24, .int .i64 (k1 : Int)), (36, .bool (!w19))]) (by kernel_rfl) (fun _ h => h) ?_
      refine W.condB (!w19) (by kernel_rfl) (fun hb => ?_) (fun hb => ?_)
      · replace h := cond_t hb h
        refine W.seq ?_
        refine W.regT [6, 7] [] [] [] (e2 := [(6, .bool false), (7, .int .i64 0)]) (by kernel_rfl) (by kernel_rfl) (fun _ h => h) ?_
        refine W.weak [6, 7] [] [] [] (env' := [(6, .bool false), (7, .int .i64 0)]) (by kernel_rfl) ?_
        have hr : aresults Try.prog Try.f26 [(6, .bool false), (7, .int .i64 0)] = some (.tup [.bool false, .int .i64 0]) := by kernel_rfl
        cases h
        exact W.ret hr
      replace h := cond_f hb h
      refine W.skip ?_
      refine W.weak [0, 1, 2, 22, 23, 24] [] [] [] (env' := [(0, .int .i64 a1), (1, l33 none a2), (2, l58 none a3), (22, l58 none a3), (23, .int .i64 (a3.length : Int)), (24, .int .i64 (k1 : Int))]) (by kernel_rfl) ?_
      refine W.region (by kernel_rfl) ?_
      refine WO.pureK 0 (some (.int .i64 (IntKind.wrap .i64 ((k1 : Int) + 1)))) (v := .int .i64 ((k1 + 1 : Nat) : Int)) (by kernel_rfl) (by rw [wrap_succ hl1 hk1]) (e1 := [(0, .int .i64 a1), (1, l33 none a2), (2, l58 none a3), (22, l58 none a3), (23, .int .i64 (a3.length : Int)), (24, .int .i64 (k1 : Int)), (37, .int .i64 ((k1 + 1 : Nat) : Int))]) (by kernel_rfl) ?_
      refine WO.fin [0, 1, 2, 22, 23, 24] [] [] [] (e2 := [(0, .int .i64 a1), (1, l33 none a2), (2, l58 none a3), (22, l58 none a3), (23, .int .i64 (a3.length : Int)), (24, .int .i64 ((k1 + 1 : Nat) : Int))]) (by kernel_rfl) (fun _ h => h) ?_
      exact hN1 () h
  refine W.region (by kernel_rfl) ?_
  refine WO.pureK 1 (some (.int .i64 ((List.map e_dpStep a3).length : Int))) (v := .int .i64 (a3.length : Int)) (by kernel_rfl) (by rw [List.length_map]) (e1 := [(0, .int .i64 a1), (1, l33 none a2), (2, l58 none a3), (14, l58 none a3), (15, .int .i64 (a3.length : Int))]) (by kernel_rfl) ?_
  refine WO.boolK 2 (fun b => [(0, .int .i64 a1), (1, l33 none a2), (2, l58 none a3), (14, l58 none a3), (15, .int .i64 (a3.length : Int)), (16, .bool b), (17, .bool b)]) (decide ((a3.length : Int) < 1)) (by kernel_rfl) (fun hb => ?_) (fun hb => ?_)
  · replace h := cond_t hb h
    refine WO.fin [0, 1, 2, 21] [] [] [] (e2 := [(0, .int .i64 a1), (1, l33 none a2), (2, l58 none a3), (21, .bool true)]) (by kernel_rfl) (fun _ h => h) ?_
    exact hK10 true h
  replace h := cond_f hb h
  refine WO.pureK 1 (some (.int .i64 ((List.map e_dpStep a3).length : Int))) (v := .int .i64 (a3.length : Int)) (by kernel_rfl) (by rw [List.length_map]) (e1 := [(0, .int .i64 a1), (1, l33 none a2), (2, l58 none a3), (14, l58 none a3), (15, .int .i64 (a3.length : Int)), (16, .bool false), (17, .bool false), (18, l58 none a3), (19, .int .i64 (a3.length : Int))]) (by kernel_rfl) ?_
  refine WO.fin [0, 1, 2, 21] [] [] [] (e2 := [(0, .int .i64 a1), (1, l33 none a2), (2, l58 none a3), (21, .bool (decide ((a3.length : Int) > 100)))]) (by kernel_rfl) (fun _ h => h) ?_
  exact hK10 (decide ((a3.length : Int) > 100)) h
def rf1_Set_j4 (v6 : Bool) : Option Bool :=
  (some v6)
def rf1_Set (a1 : Int) (a2 : Int) : Option Bool :=
  (bif (decide (a2 ≥ 0)) then (chk (decide (0 ≤ a1)) ((rf1_Set_j4) (decide (a2 < (iShl .i64 1 a1))))) else ((rf1_Set_j4) false))
theorem run_rf1_Set (a1 : Int) (a2 : Int) (r : Bool) (h : rf1_Set a1 a2 = some r) : Run Try.prog (.call 37 [.int .i64 a1, .int .i64 a2] (.bool r)) := by
  refine call_of_W Try.func37 rfl (by kernel_rfl) (env0 := [(0, .int .i64 a1), (1, .int .i64 a2)]) (by kernel_rfl) ?_
  unfold rf1_Set at h
  refine W.seq ?_
  refine W.regT [0, 1] [] [] [] (e2 := [(0, .int .i64 a1), (1, .int .i64 a2)]) (by kernel_rfl) (by kernel_rfl) (fun _ h => h) ?_
  refine W.seq ?_
  refine W.join (σ := (Bool)) (fun s => [(4, .bool s)]) (fun s => (rf1_Set_j4) s = some r) (fun s h => ?_) (fun hK4 => ?_)
  · obtain ⟨v6, rfl⟩ : ∃ x, x = s := ⟨s, rfl⟩
    have h : (rf1_Set_j4) v6 = some r := h
    unfold rf1_Set_j4 at h
    refine W.weak [4] [] [] [] (env' := [(4, .bool v6)]) (by kernel_rfl) ?_
    have hr : aresults Try.prog Try.f37 [(4, .bool v6)] = some (.bool v6) := by kernel_rfl
    cases h
    exact W.ret hr
  refine W.region (by kernel_rfl) ?_
  refine WO.boolK 3 (fun b => [(0, .int .i64 a1), (1, .int .i64 a2), (5, .int .i64 a2), (6, .bool b), (7, .bool b)]) (decide (a2 ≥ 0)) (by kernel_rfl) (fun hb => ?_) (fun hb => ?_)
  · replace h := cond_t hb h
    obtain ⟨hc5, h⟩ := chk_some h
    refine WO.pureK 2 (if a1 < 0 then none else some (.int .i64 (iShl .i64 1 a1))) (v := .int .i64 (iShl .i64 1 a1)) (by kernel_rfl) (if_neg (not_lt_of_chk hc5)) (e1 := [(0, .int .i64 a1), (1, .int .i64 a2), (5, .int .i64 a2), (6, .bool true), (7, .bool true), (8, .int .i64 a2), (9, .int .i64 a1), (10, .int .i64 (iShl .i64 1 a1))]) (by kernel_rfl) ?_
    refine WO.fin [4] [] [] [] (e2 := [(4, .bool (decide (a2 < (iShl .i64 1 a1))))]) (by kernel_rfl) (fun _ h => h) ?_
    exact hK4 (decide (a2 < (iShl .i64 1 a1))) h
  replace h := cond_f hb h
  refine WO.fin [4] [] [] [] (e2 := [(4, .bool false)]) (by kernel_rfl) (fun _ h => h) ?_
  exact hK4 false h
def rf1_Pair_j4 (v7 : Bool) : Option Bool :=
  (some v7)
def rf1_Pair (a1 : Int) (a2 : rf1Dep) : Option Bool :=
  ((rf1_Set a1 a2.f_From).bind fun w5 => (bif w5 then ((rf1_Set a1 a2.f_To).bind fun w6 => ((rf1_Pair_j4) w6)) else ((rf1_Pair_j4) false)))
theorem run_rf1_Pair (a1 : Int) (a2 : rf1Dep) (r : Bool) (h : rf1_Pair a1 a2 = some r) : Run Try.prog (.call 31 [.int .i64 a1, .agg [.int .i64 a2.f_From, .int .i64 a2.f_To]] (.bool r)) := by
  refine call_of_W Try.func31 rfl (by kernel_rfl) (env0 := [(0, .int .i64 a1), (1, .agg [.int .i64 a2.f_From, .int .i64 a2.f_To])]) (by kernel_rfl) ?_
  unfold rf1_Pair at h
  refine W.seq ?_
  refine W.regT [0, 3] [3] [] [] (e2 := [(0, .int .i64 a1), (3, .ptr (.agg [.int .i64 a2.f_From, .int .i64 a2.f_To]))]) (by kernel_rfl) (by kernel_rfl) (fun _ h => h) ?_
  refine W.seq ?_
  refine W.join (σ := (Bool)) (fun s => [(4, .bool s)]) (fun s => (rf1_Pair_j4) s = some r) (fun s h => ?_) (fun hK4 => ?_)
  · obtain ⟨v7, rfl⟩ : ∃ x, x = s := ⟨s, rfl⟩
    have h : (rf1_Pair_j4) v7 = some r := h
    unfold rf1_Pair_j4 at h
    refine W.weak [4] [] [] [] (env' := [(4, .bool v7)]) (by kernel_rfl) ?_
    have hr : aresults Try.prog Try.f31 [(4, .bool v7)] = some (.bool v7) := by kernel_rfl
    cases h
    exact W.ret hr
  refine W.region (by kernel_rfl) ?_
  obtain ⟨w5, hw5, h⟩ := bind_some h
  refine WO.callK 3 (F := 37) (l := [.int .i64 a1, .int .i64 a2.f_From]) (C := []) (r := .bool w5) (by kernel_rfl) (by kernel_rfl) (run_rf1_Set a1 a2.f_From w5 hw5) (e1 := [(0, .int .i64 a1), (3, .ptr (.agg [.int .i64 a2.f_From, .int .i64 a2.f_To])), (5, .int .i64 a1), (6, .ptr (.int .i64 a2.f_From)), (7, .int .i64 a2.f_From), (8, .bool w5)]) (by kernel_rfl) ?_
  refine WO.boolK 1 (fun b => [(0, .int .i64 a1), (3, .ptr (.agg [.int .i64 a2.f_From, .int .i64 a2.f_To])), (5, .int .i64 a1), (6, .ptr (.int .i64 a2.f_From)), (7, .int .i64 a2.f_From), (8, .bool b), (9, .bool b)]) w5 (by kernel_rfl) (fun hb => ?_) (fun hb => ?_)
  · replace h := cond_t hb h
    obtain ⟨w6, hw6, h⟩ := bind_some h
    refine WO.callK 3 (F := 37) (l := [.int .i64 a1, .int .i64 a2.f_To]) (C := []) (r := .bool w6) (by kernel_rfl) (by kernel_rfl) (run_rf1_Set a1 a2.f_To w6 hw6) (e1 := [(0, .int .i64 a1), (3, .ptr (.agg [.int .i64 a2.f_From, .int .i64 a2.f_To])), (5, .int .i64 a1), (6, .ptr (.int .i64 a2.f_From)), (7, .int .i64 a2.f_From), (8, .bool true), (9, .bool true), (10, .int .i64 a1), (11, .ptr (.int .i64 a2.f_To)), (12, .int .i64 a2.f_To), (13, .bool w6)]) (by kernel_rfl) ?_
    refine WO.fin [4] [] [] [] (e2 := [(4, .bool w6)]) (by kernel_rfl) (fun _ h => h) ?_
    exact hK4 w6 h
  replace h := cond_f hb h
  refine WO.fin [4] [] [] [] (e2 := [(4, .bool false)]) (by kernel_rfl) (fun _ h => h) ?_
  exact hK4 false h
def rf1_Valid_j8 : Option Bool :=
  (some true)
def rf1_Valid_l1 (a1 : Int) (K8 : (Option Bool)) : List rf1Dep → Nat → Option Bool
  | [], k1 => K8
  | x1 :: r1, k1 => ((rf1_Pair a1 x1).bind fun w13 => (bif (!w13) then (some false) else (rf1_Valid_l1 a1 K8 r1 (k1 + 1))))
def rf1_Valid_j5 (a1 : Int) (a2 : (List rf1Dep)) (v6 : Bool) : Option Bool :=
  (bif v6 then (some false) else (chk (lenOk a2) (rf1_Valid_l1 a1 (rf1_Valid_j8) a2 0)))
def rf1_Valid (a1 : Int) (a2 : (List rf1Dep)) : Option Bool :=
  (bif (decide (a1 < 1)) then ((rf1_Valid_j5 a1 a2) true) else (bif (decide (a1 > 8)) then ((rf1_Valid_j5 a1 a2) true) else ((rf1_Valid_j5 a1 a2) (decide ((a2.length : Int) > 12)))))
theorem run_rf1_Valid (a1 : Int) (a2 : (List rf1Dep)) (r : Bool) (h : rf1_Valid a1 a2 = some r) : Run Try.prog (.call 28 [.int .i64 a1, l40 none a2] (.bool r)) := by
  refine call_of_W Try.func28 rfl (by kernel_rfl) (env0 := [(0, .int .i64 a1), (1, l40 none a2)]) (by kernel_rfl) ?_
  unfold rf1_Valid at h
  refine W.seq ?_
  refine W.regT [0, 1] [] [] [] (e2 := [(0, .int .i64 a1), (1, l40 none a2)]) (by kernel_rfl) (by kernel_rfl) (fun _ h => h) ?_
  refine W.seq ?_
  refine W.seq ?_
  refine W.join (σ := (Bool)) (fun s => [(0, .int .i64 a1), (1, l40 none a2), (17, .bool s)]) (fun s => (rf1_Valid_j5 a1 a2) s = some r) (fun s h => ?_) (fun hK5 => ?_)
  · obtain ⟨v6, rfl⟩ : ∃ x, x = s := ⟨s, rfl⟩
    have h : (rf1_Valid_j5 a1 a2) v6 = some r := h
    unfold rf1_Valid_j5 at h
    refine W.condB v6 (by kernel_rfl) (fun hb => ?_) (fun hb => ?_)
    · replace h := cond_t hb h
      refine W.seq ?_
      refine W.regT [4] [] [] [] (e2 := [(4, .bool false)]) (by kernel_rfl) (by kernel_rfl) (fun _ h => h) ?_
      refine W.weak [4] [] [] [] (env' := [(4, .bool false)]) (by kernel_rfl) ?_
      have hr : aresults Try.prog Try.f28 [(4, .bool false)] = some (.bool false) := by kernel_rfl
      cases h
      exact W.ret hr
    replace h := cond_f hb h
    refine W.skip ?_
    refine W.weak [0, 1] [] [] [] (env' := [(0, .int .i64 a1), (1, l40 none a2)]) (by kernel_rfl) ?_
    refine W.seq ?_
    refine W.join (σ := Unit) (fun s => []) (fun s => (rf1_Valid_j8) = some r) (fun s h => ?_) (fun hK8 => ?_)
    · have h : (rf1_Valid_j8) = some r := h
      unfold rf1_Valid_j8 at h
      refine W.seq ?_
      refine W.regT [4] [] [] [] (e2 := [(4, .bool true)]) (by kernel_rfl) (by kernel_rfl) (fun _ h => h) ?_
      refine W.weak [4] [] [] [] (env' := [(4, .bool true)]) (by kernel_rfl) ?_
      have hr : aresults Try.prog Try.f28 [(4, .bool true)] = some (.bool true) := by kernel_rfl
      cases h
      exact W.ret hr
    refine W.seq ?_
    refine W.region (by kernel_rfl) ?_
    refine WO.pureK 1 (some (.int .i64 ((List.map e_rf1Dep a2).length : Int))) (v := .int .i64 (a2.length : Int)) (by kernel_rfl) (by rw [List.length_map]) (e1 := [(0, .int .i64 a1), (1, l40 none a2), (18, l40 none a2), (19, .int .i64 (a2.length : Int))]) (by kernel_rfl) ?_
    refine WO.fin [0, 18, 19, 20] [] [] [] (e2 := [(0, .int .i64 a1), (18, l40 none a2), (19, .int .i64 (a2.length : Int)), (20, .int .i64 0)]) (by kernel_rfl) (fun _ h => h) ?_
    refine W.block ?_
    obtain ⟨hl1, h⟩ := chk_some h
    refine W.weak [0, 18, 19, 20] [] [] [] (env' := [(0, .int .i64 a1), (18, l40 none a2), (19, .int .i64 (a2.length : Int)), (20, .int .i64 ((0 : Nat) : Int))]) (by kernel_rfl) ?_
    refine W.range (σ := Unit) a2 (fun k1 s => [(0, .int .i64 a1), (18, l40 none a2), (19, .int .i64 (a2.length : Int)), (20, .int .i64 (k1 : Int))]) (fun r0 k0 s => rf1_Valid_l1 a1 (rf1_Valid_j8) r0 k0 = some r) (fun s h => ?_) (fun x1 r1 k1 s hx1 hk1 h hN1 => ?_) () h
    · have h : rf1_Valid_l1 a1 (rf1_Valid_j8) [] (a2).length = some r := h
      rw [rf1_Valid_l1.eq_1] at h
      refine W.seq ?_
      refine W.region (by kernel_rfl) ?_
      refine WO.pureK 0 (some (.bool (decide (((a2).length : Int) < (a2.length : Int))))) (v := .bool false) (by kernel_rfl) (by rw [lt_false (l := a2)]) (e1 := [(0, .int .i64 a1), (18, l40 none a2), (19, .int .i64 (a2.length : Int)), (20, .int .i64 ((a2).length : Int)), (21, .bool false)]) (by kernel_rfl) ?_
      refine WO.fin ([0, 18, 19, 20, 21]) [] [] [] (e2 := [(0, .int .i64 a1), (18, l40 none a2), (19, .int .i64 (a2.length : Int)), (20, .int .i64 ((a2).length : Int)), (21, .bool false)]) (by kernel_rfl) (fun _ h => h) ?_
      refine W.seq ?_
      refine W.condB false (by kernel_rfl) (fun h => Bool.noConfusion h) (fun _ => ?_)
      refine W.exit ?_
      refine W.weak [] [] [] [] (env' := []) (by kernel_rfl) ?_
      exact hK8 () h
    · have h : rf1_Valid_l1 a1 (rf1_Valid_j8) (x1 :: r1) k1 = some r := h
      rw [rf1_Valid_l1.eq_2] at h
      refine W.seq ?_
      refine W.region (by kernel_rfl) ?_
      refine WO.pureK 0 (some (.bool (decide ((k1 : Int) < (a2.length : Int))))) (v := .bool true) (by kernel_rfl) (by rw [lt_true hk1]) (e1 := [(0, .int .i64 a1), (18, l40 none a2), (19, .int .i64 (a2.length : Int)), (20, .int .i64 (k1 : Int)), (21, .bool true)]) (by kernel_rfl) ?_
      refine WO.fin ([0, 18, 19, 20, 21]) [] [] [] (e2 := [(0, .int .i64 a1), (18, l40 none a2), (19, .int .i64 (a2.length : Int)), (20, .int .i64 (k1 : Int)), (21, .bool true)]) (by kernel_rfl) (fun _ h => h) ?_
      refine W.seq ?_
      refine W.condB true (by kernel_rfl) (fun _ => ?_) (fun h => Bool.noConfusion h)
      refine W.skip ?_
      refine W.weak [0, 18, 19, 20] [] [] [] (env' := [(0, .int .i64 a1), (18, l40 none a2), (19, .int .i64 (a2.length : Int)), (20, .int .i64 (k1 : Int))]) (by kernel_rfl) ?_
      refine W.seq ?_
      refine W.block ?_
      refine W.seq ?_
      refine W.region (by kernel_rfl) ?_
      refine WO.pureK 0 (if (0 : Int) ≤ (k1 : Int) then ((List.map e_rf1Dep a2)[Int.toNat (k1 : Int)]?).map AV.ptr else none) (v := .ptr (.agg [.int .i64 x1.f_From, .int .i64 x1.f_To])) (by kernel_rfl) (idx_nat (f := e_rf1Dep) hx1) (e1 := [(0, .int .i64 a1), (18, l40 none a2), (19, .int .i64 (a2.length : Int)), (20, .int .i64 (k1 : Int)), (22, .ptr (.agg [.int .i64 x1.f_From, .int .i64 x1.f_To]))]) (by kernel_rfl) ?_
      refine WO.fin [0, 6, 18, 19, 20] [6] [] [] (e2 := [(0, .int .i64 a1), (6, .ptr (.agg [.int .i64 x1.f_From, .int .i64 x1.f_To])), (18, l40 none a2), (19, .int .i64 (a2.length : Int)), (20, .int .i64 (k1 : Int))]) (by kernel_rfl) (fun _ h => h) ?_
      refine W.seq ?_
      refine W.region (by kernel_rfl) ?_
      obtain ⟨w13, hw13, h⟩ := bind_some h
      refine WO.callK 2 (F := 31) (l := [.int .i64 a1, .agg [.int .i64 x1.f_From, .int .i64 x1.f_To]]) (C := []) (r := .bool w13) (by kernel_rfl) (by kernel_rfl) (run_rf1_Pair a1 x1 w13 hw13) (e1 := [(0, .int .i64 a1), (6, .ptr (.agg [.int .i64 x1.f_From, .int .i64 x1.f_To])), (18, l40 none a2), (19, .int .i64 (a2.length : Int)), (20, .int .i64 (k1 : Int)), (24, .int .i64 a1), (25, .agg [.int .i64 x1.f_From, .int .i64 x1.f_To]), (26, .bool w13)]) (by kernel_rfl) ?_
      refine WO.fin [0, 18, 19, 20, 27] [] [] [] (e2 := [(0, .int .i64 a1), (18, l40 none a2), (19, .int .i64 (a2.length : Int)), (20, .int .i64 (k1 : Int)), (27, .bool (!w13))]) (by kernel_rfl) (fun _ h => h) ?_
      refine W.condB (!w13) (by kernel_rfl) (fun hb => ?_) (fun hb => ?_)
      · replace h := cond_t hb h
        refine W.seq ?_
        refine W.regT [4] [] [] [] (e2 := [(4, .bool false)]) (by kernel_rfl) (by kernel_rfl) (fun _ h => h) ?_
        refine W.weak [4] [] [] [] (env' := [(4, .bool false)]) (by kernel_rfl) ?_
        have hr : aresults Try.prog Try.f28 [(4, .bool false)] = some (.bool false) := by kernel_rfl
        cases h
        exact W.ret hr
      replace h := cond_f hb h
      refine W.skip ?_
      refine W.weak [0, 18, 19, 20] [] [] [] (env' := [(0, .int .i64 a1), (18, l40 none a2), (19, .int .i64 (a2.length : Int)), (20, .int .i64 (k1 : Int))]) (by kernel_rfl) ?_
      refine W.region (by kernel_rfl) ?_
      refine WO.pureK 0 (some (.int .i64 (IntKind.wrap .i64 ((k1 : Int) + 1)))) (v := .int .i64 ((k1 + 1 : Nat) : Int)) (by kernel_rfl) (by rw [wrap_succ hl1 hk1]) (e1 := [(0, .int .i64 a1), (18, l40 none a2), (19, .int .i64 (a2.length : Int)), (20, .int .i64 (k1 : Int)), (28, .int .i64 ((k1 + 1 : Nat) : Int))]) (by kernel_rfl) ?_
      refine WO.fin [0, 18, 19, 20] [] [] [] (e2 := [(0, .int .i64 a1), (18, l40 none a2), (19, .int .i64 (a2.length : Int)), (20, .int .i64 ((k1 + 1 : Nat) : Int))]) (by kernel_rfl) (fun _ h => h) ?_
      exact hN1 () h
  refine W.region (by kernel_rfl) ?_
  refine WO.boolK 3 (fun b => [(0, .int .i64 a1), (1, l40 none a2), (7, .int .i64 a1), (8, .bool b), (9, .bool b)]) (decide (a1 < 1)) (by kernel_rfl) (fun hb => ?_) (fun hb => ?_)
  · replace h := cond_t hb h
    refine WO.fin [0, 1, 17] [] [] [] (e2 := [(0, .int .i64 a1), (1, l40 none a2), (17, .bool true)]) (by kernel_rfl) (fun _ h => h) ?_
    exact hK5 true h
  replace h := cond_f hb h
  refine WO.boolK 4 (fun b => [(0, .int .i64 a1), (1, l40 none a2), (7, .int .i64 a1), (8, .bool false), (9, .bool false), (10, .int .i64 a1), (11, .bool b), (12, .bool b), (13, .bool b)]) (decide (a1 > 8)) (by kernel_rfl) (fun hb => ?_) (fun hb => ?_)
  · replace h := cond_t hb h
    refine WO.fin [0, 1, 17] [] [] [] (e2 := [(0, .int .i64 a1), (1, l40 none a2), (17, .bool true)]) (by kernel_rfl) (fun _ h => h) ?_
    exact hK5 true h
  replace h := cond_f hb h
  refine WO.pureK 1 (some (.int .i64 ((List.map e_rf1Dep a2).length : Int))) (v := .int .i64 (a2.length : Int)) (by kernel_rfl) (by rw [List.length_map]) (e1 := [(0, .int .i64 a1), (1, l40 none a2), (7, .int .i64 a1), (8, .bool false), (9, .bool false), (10, .int .i64 a1), (11, .bool false), (12, .bool false), (13, .bool false), (14, l40 none a2), (15, .int .i64 (a2.length : Int))]) (by kernel_rfl) ?_
  refine WO.fin [0, 1, 17] [] [] [] (e2 := [(0, .int .i64 a1), (1, l40 none a2), (17, .bool (decide ((a2.length : Int) > 12)))]) (by kernel_rfl) (fun _ h => h) ?_
  exact hK5 (decide ((a2.length : Int) > 12)) h
def rf1_Proof_j31 (v32 : Bool) : Option Bool :=
  (some v32)
def rf1_Proof_j5 (a3 : (List rf1Step)) : Option Bool :=
  (bif (decide ((a3.length : Int) ≥ 1)) then ((rf1_Proof_j31) (decide ((a3.length : Int) ≤ 100))) else ((rf1_Proof_j31) false))
def rf1_Proof_j14 (N1 : (Option Bool)) (v28 : Bool) : Option Bool :=
  (bif (!v28) then (some false) else N1)
def rf1_Proof_l1 (a1 : Int) (a2 : (List rf1Dep)) (a3 : (List rf1Step)) (K5 : (Option Bool)) : List rf1Step → Nat → Option Bool
  | [], k1 => K5
  | x1 :: r1, k1 => ((rf1_Pair a1 x1.f_Dep).bind fun w11 => (bif (!w11) then (some false) else (bif (x1.f_Rule == 0) then (bif (decide (x1.f_I ≥ 0)) then (bif (decide (x1.f_I < (a2.length : Int))) then (bif (x1.f_J == 0) then ((idx a2 x1.f_I).bind fun e17 => ((rf1_Proof_j14 (rf1_Proof_l1 a1 a2 a3 K5 r1 (k1 + 1))) ((x1.f_Dep.f_From == e17.f_From) && ((x1.f_Dep.f_To == e17.f_To) && true)))) else ((rf1_Proof_j14 (rf1_Proof_l1 a1 a2 a3 K5 r1 (k1 + 1))) false)) else ((rf1_Proof_j14 (rf1_Proof_l1 a1 a2 a3 K5 r1 (k1 + 1))) false)) else ((rf1_Proof_j14 (rf1_Proof_l1 a1 a2 a3 K5 r1 (k1 + 1))) false)) else (bif (x1.f_Rule == 1) then (bif (x1.f_I == 0) then (bif (x1.f_J == 0) then ((rf1_Proof_j14 (rf1_Proof_l1 a1 a2 a3 K5 r1 (k1 + 1))) ((iAndNot .i64 x1.f_Dep.f_To x1.f_Dep.f_From) == 0)) else ((rf1_Proof_j14 (rf1_Proof_l1 a1 a2 a3 K5 r1 (k1 + 1))) false)) else ((rf1_Proof_j14 (rf1_Proof_l1 a1 a2 a3 K5 r1 (k1 + 1))) false)) else (bif (x1.f_Rule == 2) then (bif (decide (x1.f_I ≥ 0)) then (bif (decide (x1.f_I < (k1 : Int))) then ((rf1_Set a1 x1.f_J).bind fun w20 => (bif w20 then ((idx a3 x1.f_I).bind fun e21 => ((idx a3 x1.f_I).bind fun e22 => ((rf1_Proof_j14 (rf1_Proof_l1 a1 a2 a3 K5 r1 (k1 + 1))) ((x1.f_Dep.f_From == (iOr .i64 e21.f_Dep.f_From x1.f_J)) && ((x1.f_Dep.f_To == (iOr .i64 e22.f_Dep.f_To x1.f_J)) && true))))) else ((rf1_Proof_j14 (rf1_Proof_l1 a1 a2 a3 K5 r1 (k1 + 1))) false))) else ((rf1_Proof_j14 (rf1_Proof_l1 a1 a2 a3 K5 r1 (k1 + 1))) false)) else ((rf1_Proof_j14 (rf1_Proof_l1 a1 a2 a3 K5 r1 (k1 + 1))) false)) else (bif (x1.f_Rule == 3) then (bif (decide (x1.f_I ≥ 0)) then (bif (decide (x1.f_I < (k1 : Int))) then (bif (decide (x1.f_J ≥ 0)) then (bif (decide (x1.f_J < (k1 : Int))) then ((idx a3 x1.f_I).bind fun e24 => ((idx a3 x1.f_J).bind fun e25 => (bif (e24.f_Dep.f_To == e25.f_Dep.f_From) then ((idx a3 x1.f_I).bind fun e26 => ((idx a3 x1.f_J).bind fun e27 => ((rf1_Proof_j14 (rf1_Proof_l1 a1 a2 a3 K5 r1 (k1 + 1))) ((x1.f_Dep.f_From == e26.f_Dep.f_From) && ((x1.f_Dep.f_To == e27.f_Dep.f_To) && true))))) else ((rf1_Proof_j14 (rf1_Proof_l1 a1 a2 a3 K5 r1 (k1 + 1))) false)))) else ((rf1_Proof_j14 (rf1_Proof_l1 a1 a2 a3 K5 r1 (k1 + 1))) false)) else ((rf1_Proof_j14 (rf1_Proof_l1 a1 a2 a3 K5 r1 (k1 + 1))) false)) else ((rf1_Proof_j14 (rf1_Proof_l1 a1 a2 a3 K5 r1 (k1 + 1))) false)) else ((rf1_Proof_j14 (rf1_Proof_l1 a1 a2 a3 K5 r1 (k1 + 1))) false)) else ((rf1_Proof_j14 (rf1_Proof_l1 a1 a2 a3 K5 r1 (k1 + 1))) false)))))))
def rf1_Proof (a1 : Int) (a2 : (List rf1Dep)) (a3 : (List rf1Step)) : Option Bool :=
  (chk (lenOk a3) (rf1_Proof_l1 a1 a2 a3 (rf1_Proof_j5 a3) a3 0))
theorem run_rf1_Proof (a1 : Int) (a2 : (List rf1Dep)) (a3 : (List rf1Step)) (r : Bool) (h : rf1_Proof a1 a2 a3 = some r) : Run Try.prog (.call 29 [.int .i64 a1, l40 none a2, l98 none a3] (.bool r)) := by
  refine call_of_W Try.func29 rfl (by kernel_rfl) (env0 := [(0, .int .i64 a1), (1, l40 none a2), (2, l98 none a3)]) (by kernel_rfl) ?_
  unfold rf1_Proof at h
  refine W.seq ?_
  refine W.regT [0, 1, 2] [] [] [] (e2 := [(0, .int .i64 a1), (1, l40 none a2), (2, l98 none a3)]) (by kernel_rfl) (by kernel_rfl) (fun _ h => h) ?_
  refine W.seq ?_
  refine W.join (σ := Unit) (fun s => [(2, l98 none a3)]) (fun s => (rf1_Proof_j5 a3) = some r) (fun s h => ?_) (fun hK5 => ?_)
  · have h : (rf1_Proof_j5 a3) = some r := h
    unfold rf1_Proof_j5 at h
    refine W.seq ?_
    refine W.join (σ := (Bool)) (fun s => [(6, .bool s)]) (fun s => (rf1_Proof_j31) s = some r) (fun s h => ?_) (fun hK31 => ?_)
    · obtain ⟨v32, rfl⟩ : ∃ x, x = s := ⟨s, rfl⟩
      have h : (rf1_Proof_j31) v32 = some r := h
      unfold rf1_Proof_j31 at h
      refine W.weak [6] [] [] [] (env' := [(6, .bool v32)]) (by kernel_rfl) ?_
      have hr : aresults Try.prog Try.f29 [(6, .bool v32)] = some (.bool v32) := by kernel_rfl
      cases h
      exact W.ret hr
    refine W.region (by kernel_rfl) ?_
    refine WO.pureK 1 (some (.int .i64 ((List.map e_rf1Step a3).length : Int))) (v := .int .i64 (a3.length : Int)) (by kernel_rfl) (by rw [List.length_map]) (e1 := [(2, l98 none a3), (176, l98 none a3), (177, .int .i64 (a3.length : Int))]) (by kernel_rfl) ?_
    refine WO.boolK 2 (fun b => [(2, l98 none a3), (176, l98 none a3), (177, .int .i64 (a3.length : Int)), (178, .bool b), (179, .bool b)]) (decide ((a3.length : Int) ≥ 1)) (by kernel_rfl) (fun hb => ?_) (fun hb => ?_)
    · replace h := cond_t hb h
      refine WO.pureK 1 (some (.int .i64 ((List.map e_rf1Step a3).length : Int))) (v := .int .i64 (a3.length : Int)) (by kernel_rfl) (by rw [List.length_map]) (e1 := [(2, l98 none a3), (176, l98 none a3), (177, .int .i64 (a3.length : Int)), (178, .bool true), (179, .bool true), (180, l98 none a3), (181, .int .i64 (a3.length : Int))]) (by kernel_rfl) ?_
      refine WO.fin [6] [] [] [] (e2 := [(6, .bool (decide ((a3.length : Int) ≤ 100)))]) (by kernel_rfl) (fun _ h => h) ?_
      exact hK31 (decide ((a3.length : Int) ≤ 100)) h
    replace h := cond_f hb h
    refine WO.fin [6] [] [] [] (e2 := [(6, .bool false)]) (by kernel_rfl) (fun _ h => h) ?_
    exact hK31 false h
  refine W.seq ?_
  refine W.region (by kernel_rfl) ?_
  refine WO.pureK 1 (some (.int .i64 ((List.map e_rf1Step a3).length : Int))) (v := .int .i64 (a3.length : Int)) (by kernel_rfl) (by rw [List.length_map]) (e1 := [(0, .int .i64 a1), (1, l40 none a2), (2, l98 none a3), (10, l98 none a3), (11, .int .i64 (a3.length : Int))]) (by kernel_rfl) ?_
  refine WO.fin [0, 1, 2, 10, 11, 12] [] [] [] (e2 := [(0, .int .i64 a1), (1, l40 none a2), (2, l98 none a3), (10, l98 none a3), (11, .int .i64 (a3.length : Int)), (12, .int .i64 0)]) (by kernel_rfl) (fun _ h => h) ?_
  refine W.block ?_
  obtain ⟨hl1, h⟩ := chk_some h
  refine W.weak [0, 1, 2, 10, 11, 12] [] [] [] (env' := [(0, .int .i64 a1), (1, l40 none a2), (2, l98 none a3), (10, l98 none a3), (11, .int .i64 (a3.length : Int)), (12, .int .i64 ((0 : Nat) : Int))]) (by kernel_rfl) ?_
  refine W.range (σ := Unit) a3 (fun k1 s => [(0, .int .i64 a1), (1, l40 none a2), (2, l98 none a3), (10, l98 none a3), (11, .int .i64 (a3.length : Int)), (12, .int .i64 (k1 : Int))]) (fun r0 k0 s => rf1_Proof_l1 a1 a2 a3 (rf1_Proof_j5 a3) r0 k0 = some r) (fun s h => ?_) (fun x1 r1 k1 s hx1 hk1 h hN1 => ?_) () h
  · have h : rf1_Proof_l1 a1 a2 a3 (rf1_Proof_j5 a3) [] (a3).length = some r := h
    rw [rf1_Proof_l1.eq_1] at h
    refine W.seq ?_
    refine W.region (by kernel_rfl) ?_
    refine WO.pureK 0 (some (.bool (decide (((a3).length : Int) < (a3.length : Int))))) (v := .bool false) (by kernel_rfl) (by rw [lt_false (l := a3)]) (e1 := [(0, .int .i64 a1), (1, l40 none a2), (2, l98 none a3), (10, l98 none a3), (11, .int .i64 (a3.length : Int)), (12, .int .i64 ((a3).length : Int)), (13, .bool false)]) (by kernel_rfl) ?_
    refine WO.fin ([0, 1, 2, 10, 11, 12, 13]) [] [] [] (e2 := [(0, .int .i64 a1), (1, l40 none a2), (2, l98 none a3), (10, l98 none a3), (11, .int .i64 (a3.length : Int)), (12, .int .i64 ((a3).length : Int)), (13, .bool false)]) (by kernel_rfl) (fun _ h => h) ?_
    refine W.seq ?_
    refine W.condB false (by kernel_rfl) (fun h => Bool.noConfusion h) (fun _ => ?_)
    refine W.exit ?_
    refine W.weak [2] [] [] [] (env' := [(2, l98 none a3)]) (by kernel_rfl) ?_
    exact hK5 () h
  · have h : rf1_Proof_l1 a1 a2 a3 (rf1_Proof_j5 a3) (x1 :: r1) k1 = some r := h
    rw [rf1_Proof_l1.eq_2] at h
    refine W.seq ?_
    refine W.region (by kernel_rfl) ?_
    refine WO.pureK 0 (some (.bool (decide ((k1 : Int) < (a3.length : Int))))) (v := .bool true) (by kernel_rfl) (by rw [lt_true hk1]) (e1 := [(0, .int .i64 a1), (1, l40 none a2), (2, l98 none a3), (10, l98 none a3), (11, .int .i64 (a3.length : Int)), (12, .int .i64 (k1 : Int)), (13, .bool true)]) (by kernel_rfl) ?_
    refine WO.fin ([0, 1, 2, 10, 11, 12, 13]) [] [] [] (e2 := [(0, .int .i64 a1), (1, l40 none a2), (2, l98 none a3), (10, l98 none a3), (11, .int .i64 (a3.length : Int)), (12, .int .i64 (k1 : Int)), (13, .bool true)]) (by kernel_rfl) (fun _ h => h) ?_
    refine W.seq ?_
    refine W.condB true (by kernel_rfl) (fun _ => ?_) (fun h => Bool.noConfusion h)
    refine W.skip ?_
    refine W.weak [0, 1, 2, 10, 11, 12] [] [] [] (env' := [(0, .int .i64 a1), (1, l40 none a2), (2, l98 none a3), (10, l98 none a3), (11, .int .i64 (a3.length : Int)), (12, .int .i64 (k1 : Int))]) (by kernel_rfl) ?_
    refine W.seq ?_
    refine W.block ?_
    refine W.seq ?_
    refine W.region (by kernel_rfl) ?_
    refine WO.pureK 1 (if (0 : Int) ≤ (k1 : Int) then ((List.map e_rf1Step a3)[Int.toNat (k1 : Int)]?).map AV.ptr else none) (v := .ptr (.agg [.int .i64 x1.f_Rule, .int .i64 x1.f_I, .int .i64 x1.f_J, .int .i64 x1.f_Dep.f_From, .int .i64 x1.f_Dep.f_To])) (by kernel_rfl) (idx_nat (f := e_rf1Step) hx1) (e1 := [(0, .int .i64 a1), (1, l40 none a2), (2, l98 none a3), (10, l98 none a3), (11, .int .i64 (a3.length : Int)), (12, .int .i64 (k1 : Int)), (14, .int .i64 (k1 : Int)), (15, .ptr (.agg [.int .i64 x1.f_Rule, .int .i64 x1.f_I, .int .i64 x1.f_J, .int .i64 x1.f_Dep.f_From, .int .i64 x1.f_Dep.f_To]))]) (by kernel_rfl) ?_
    refine WO.fin [0, 1, 2, 7, 8, 10, 11, 12] [8] [] [] (e2 := [(0, .int .i64 a1), (1, l40 none a2), (2, l98 none a3), (7, .int .i64 (k1 : Int)), (8, .ptr (.agg [.int .i64 x1.f_Rule, .int .i64 x1.f_I, .int .i64 x1.f_J, .int .i64 x1.f_Dep.f_From, .int .i64 x1.f_Dep.f_To])), (10, l98 none a3), (11, .int .i64 (a3.length : Int)), (12, .int .i64 (k1 : Int))]) (by kernel_rfl) (fun _ h => h) ?_
    refine W.seq ?_
    refine W.seq ?_
    refine W.region (by kernel_rfl) ?_
    obtain ⟨w11, hw11, h⟩ := bind_some h
    refine WO.callK 3 (F := 31) (l := [.int .i64 a1, .agg [.int .i64 x1.f_Dep.f_From, .int .i64 x1.f_Dep.f_To]]) (C := []) (r := .bool w11) (by kernel_rfl) (by kernel_rfl) (run_rf1_Pair a1 x1.f_Dep w11 hw11) (e1 := [(0, .int .i64 a1), (1, l40 none a2), (2, l98 none a3), (7, .int .i64 (k1 : Int)), (8, .ptr (.agg [.int .i64 x1.f_Rule, .int .i64 x1.f_I, .int .i64 x1.f_J, .int .i64 x1.f_Dep.f_From, .int .i64 x1.f_Dep.f_To])), (10, l98 none a3), (11, .int .i64 (a3.length : Int)), (12, .int .i64 (k1 : Int)), (17, .int .i64 a1), (18, .ptr (.agg [.int .i64 x1.f_Dep.f_From, .int .i64 x1.f_Dep.f_To])), (19, .agg [.int .i64 x1.f_Dep.f_From, .int .i64 x1.f_Dep.f_To]), (20, .bool w11)]) (by kernel_rfl) ?_
    refine WO.fin [0, 1, 2, 7, 8, 10, 11, 12, 21] [] [] [] (e2 := [(0, .int .i64 a1), (1, l40 none a2), (2, l98 none a3), (7, .int .i64 (k1 : Int)), (8, .ptr (.agg [.int .i64 x1.f_Rule, .int .i64 x1.f_I, .int .i64 x1.f_J, .int .i64 x1.f_Dep.f_From, .int .i64 x1.f_Dep.f_To])), (10, l98 none a3), (11, .int .i64 (a3.length : Int)), (12, .int .i64 (k1 : Int)), (21, .bool (!w11))]) (by kernel_rfl) (fun _ h => h) ?_
    refine W.condB (!w11) (by kernel_rfl) (fun hb => ?_) (fun hb => ?_)
    · replace h := cond_t hb h
      refine W.seq ?_
      refine W.regT [6] [] [] [] (e2 := [(6, .bool false)]) (by kernel_rfl) (by kernel_rfl) (fun _ h => h) ?_
      refine W.weak [6] [] [] [] (env' := [(6, .bool false)]) (by kernel_rfl) ?_
      have hr : aresults Try.prog Try.f29 [(6, .bool false)] = some (.bool false) := by kernel_rfl
      cases h
      exact W.ret hr
    replace h := cond_f hb h
    refine W.skip ?_
    refine W.weak [0, 1, 2, 7, 8, 10, 11, 12] [] [] [] (env' := [(0, .int .i64 a1), (1, l40 none a2), (2, l98 none a3), (7, .int .i64 (k1 : Int)), (8, .ptr (.agg [.int .i64 x1.f_Rule, .int .i64 x1.f_I, .int .i64 x1.f_J, .int .i64 x1.f_Dep.f_From, .int .i64 x1.f_Dep.f_To])), (10, l98 none a3), (11, .int .i64 (a3.length : Int)), (12, .int .i64 (k1 : Int))]) (by kernel_rfl) ?_
    refine W.seq ?_
    refine W.regT [0, 1, 2, 7, 8, 9, 10, 11, 12] [] [] [] (e2 := [(0, .int .i64 a1), (1, l40 none a2), (2, l98 none a3), (7, .int .i64 (k1 : Int)), (8, .ptr (.agg [.int .i64 x1.f_Rule, .int .i64 x1.f_I, .int .i64 x1.f_J, .int .i64 x1.f_Dep.f_From, .int .i64 x1.f_Dep.f_To])), (9, .bool false), (10, l98 none a3), (11, .int .i64 (a3.length : Int)), (12, .int .i64 (k1 : Int))]) (by kernel_rfl) (by kernel_rfl) (fun _ h => h) ?_
    refine W.seq ?_
    refine W.join (σ := (Bool)) (fun s => [(0, .int .i64 a1), (1, l40 none a2), (2, l98 none a3), (9, .bool s), (10, l98 none a3), (11, .int .i64 (a3.length : Int)), (12, .int .i64 (k1 : Int))]) (fun s => (rf1_Proof_j14 (rf1_Proof_l1 a1 a2 a3 (rf1_Proof_j5 a3) r1 (k1 + 1))) s = some r) (fun s h => ?_) (fun hK14 => ?_)
    · obtain ⟨v28, rfl⟩ : ∃ x, x = s := ⟨s, rfl⟩
      have h : (rf1_Proof_j14 (rf1_Proof_l1 a1 a2 a3 (rf1_Proof_j5 a3) r1 (k1 + 1))) v28 = some r := h
      unfold rf1_Proof_j14 at h
      refine W.seq ?_
      refine W.regT [0, 1, 2, 10, 11, 12, 174] [] [] [] (e2 := [(0, .int .i64 a1), (1, l40 none a2), (2, l98 none a3), (10, l98 none a3), (11, .int .i64 (a3.length : Int)), (12, .int .i64 (k1 : Int)), (174, .bool (!v28))]) (by kernel_rfl) (by kernel_rfl) (fun _ h => h) ?_
      refine W.condB (!v28) (by kernel_rfl) (fun hb => ?_) (fun hb => ?_)
      · replace h := cond_t hb h
        refine W.seq ?_
        refine W.regT [6] [] [] [] (e2 := [(6, .bool false)]) (by kernel_rfl) (by kernel_rfl) (fun _ h => h) ?_
        refine W.weak [6] [] [] [] (env' := [(6, .bool false)]) (by kernel_rfl) ?_
        have hr : aresults Try.prog Try.f29 [(6, .bool false)] = some (.bool false) := by kernel_rfl
        cases h
        exact W.ret hr
      replace h := cond_f hb h
      refine W.skip ?_
      refine W.weak [0, 1, 2, 10, 11, 12] [] [] [] (env' := [(0, .int .i64 a1), (1, l40 none a2), (2, l98 none a3), (10, l98 none a3), (11, .int .i64 (a3.length : Int)), (12, .int .i64 (k1 : Int))]) (by kernel_rfl) ?_
      refine W.region (by kernel_rfl) ?_
      refine WO.pureK 0 (some (.int .i64 (IntKind.wrap .i64 ((k1 : Int) + 1)))) (v := .int .i64 ((k1 + 1 : Nat) : Int)) (by kernel_rfl) (by rw [wrap_succ hl1 hk1]) (e1 := [(0, .int .i64 a1), (1, l40 none a2), (2, l98 none a3), (10, l98 none a3), (11, .int .i64 (a3.length : Int)), (12, .int .i64 (k1 : Int)), (175, .int .i64 ((k1 + 1 : Nat) : Int))]) (by kernel_rfl) ?_
      refine WO.fin [0, 1, 2, 10, 11, 12] [] [] [] (e2 := [(0, .int .i64 a1), (1, l40 none a2), (2, l98 none a3), (10, l98 none a3), (11, .int .i64 (a3.length : Int)), (12, .int .i64 ((k1 + 1 : Nat) : Int))]) (by kernel_rfl) (fun _ h => h) ?_
      exact hN1 () h
    refine W.seq ?_
    refine W.regT [0, 1, 2, 7, 8, 9, 10, 11, 12, 23] [] [] [] (e2 := [(0, .int .i64 a1), (1, l40 none a2), (2, l98 none a3), (7, .int .i64 (k1 : Int)), (8, .ptr (.agg [.int .i64 x1.f_Rule, .int .i64 x1.f_I, .int .i64 x1.f_J, .int .i64 x1.f_Dep.f_From, .int .i64 x1.f_Dep.f_To])), (9, .bool false), (10, l98 none a3), (11, .int .i64 (a3.length : Int)), (12, .int .i64 (k1 : Int)), (23, .int .i64 x1.f_Rule)]) (by kernel_rfl) (by kernel_rfl) (fun _ h => h) ?_
    refine W.block ?_
    refine W.seq ?_
    refine W.regT [0, 1, 2, 7, 8, 9, 10, 11, 12, 23, 24] [] [] [] (e2 := [(0, .int .i64 a1), (1, l40 none a2), (2, l98 none a3), (7, .int .i64 (k1 : Int)), (8, .ptr (.agg [.int .i64 x1.f_Rule, .int .i64 x1.f_I, .int .i64 x1.f_J, .int .i64 x1.f_Dep.f_From, .int .i64 x1.f_Dep.f_To])), (9, .bool false), (10, l98 none a3), (11, .int .i64 (a3.length : Int)), (12, .int .i64 (k1 : Int)), (23, .int .i64 x1.f_Rule), (24, .bool (x1.f_Rule == 0))]) (by kernel_rfl) (by kernel_rfl) (fun _ h => h) ?_
    refine W.condB (x1.f_Rule == 0) (by kernel_rfl) (fun hb => ?_) (fun hb => ?_)
    · replace h := cond_t hb h
      refine W.region (by kernel_rfl) ?_
      refine WO.boolK 4 (fun b => [(0, .int .i64 a1), (1, l40 none a2), (2, l98 none a3), (7, .int .i64 (k1 : Int)), (8, .ptr (.agg [.int .i64 x1.f_Rule, .int .i64 x1.f_I, .int .i64 x1.f_J, .int .i64 x1.f_Dep.f_From, .int .i64 x1.f_Dep.f_To])), (9, .bool false), (10, l98 none a3), (11, .int .i64 (a3.length : Int)), (12, .int .i64 (k1 : Int)), (23, .int .i64 x1.f_Rule), (24, .bool (x1.f_Rule == 0)), (26, .ptr (.int .i64 x1.f_I)), (27, .int .i64 x1.f_I), (28, .bool b), (29, .bool b)]) (decide (x1.f_I ≥ 0)) (by kernel_rfl) (fun hb => ?_) (fun hb => ?_)
      · replace h := cond_t hb h
        refine WO.pureK 3 (some (.int .i64 ((List.map e_rf1Dep a2).length : Int))) (v := .int .i64 (a2.length : Int)) (by kernel_rfl) (by rw [List.length_map]) (e1 := [(0, .int .i64 a1), (1, l40 none a2), (2, l98 none a3), (7, .int .i64 (k1 : Int)), (8, .ptr (.agg [.int .i64 x1.f_Rule, .int .i64 x1.f_I, .int .i64 x1.f_J, .int .i64 x1.f_Dep.f_From, .int .i64 x1.f_Dep.f_To])), (9, .bool false), (10, l98 none a3), (11, .int .i64 (a3.length : Int)), (12, .int .i64 (k1 : Int)), (23, .int .i64 x1.f_Rule), (24, .bool (x1.f_Rule == 0)), (26, .ptr (.int .i64 x1.f_I)), (27, .int .i64 x1.f_I), (28, .bool true), (29, .bool true), (30, .ptr (.int .i64 x1.f_I)), (31, .int .i64 x1.f_I), (32, l40 none a2), (33, .int .i64 (a2.length : Int))]) (by kernel_rfl) ?_
        refine WO.boolK 3 (fun b => [(0, .int .i64 a1), (1, l40 none a2), (2, l98 none a3), (7, .int .i64 (k1 : Int)), (8, .ptr (.agg [.int .i64 x1.f_Rule, .int .i64 x1.f_I, .int .i64 x1.f_J, .int .i64 x1.f_Dep.f_From, .int .i64 x1.f_Dep.f_To])), (9, .bool false), (10, l98 none a3), (11, .int .i64 (a3.length : Int)), (12, .int .i64 (k1 : Int)), (23, .int .i64 x1.f_Rule), (24, .bool (x1.f_Rule == 0)), (26, .ptr (.int .i64 x1.f_I)), (27, .int .i64 x1.f_I), (28, .bool true), (29, .bool true), (30, .ptr (.int .i64 x1.f_I)), (31, .int .i64 x1.f_I), (32, l40 none a2), (33, .int .i64 (a2.length : Int)), (34, .bool b), (35, .bool b), (36, .bool b)]) (decide (x1.f_I < (a2.length : Int))) (by kernel_rfl) (fun hb => ?_) (fun hb => ?_)
        · replace h := cond_t hb h
          refine WO.boolK 5 (fun b => [(0, .int .i64 a1), (1, l40 none a2), (2, l98 none a3), (7, .int .i64 (k1 : Int)), (8, .ptr (.agg [.int .i64 x1.f_Rule, .int .i64 x1.f_I, .int .i64 x1.f_J, .int .i64 x1.f_Dep.f_From, .int .i64 x1.f_Dep.f_To])), (9, .bool false), (10, l98 none a3), (11, .int .i64 (a3.length : Int)), (12, .int .i64 (k1 : Int)), (23, .int .i64 x1.f_Rule), (24, .bool (x1.f_Rule == 0)), (26, .ptr (.int .i64 x1.f_I)), (27, .int .i64 x1.f_I), (28, .bool true), (29, .bool true), (30, .ptr (.int .i64 x1.f_I)), (31, .int .i64 x1.f_I), (32, l40 none a2), (33, .int .i64 (a2.length : Int)), (34, .bool true), (35, .bool true), (36, .bool true), (37, .ptr (.int .i64 x1.f_J)), (38, .int .i64 x1.f_J), (39, .bool b), (40, .bool b), (41, .bool b)]) (x1.f_J == 0) (by kernel_rfl) (fun hb => ?_) (fun hb => ?_)
          · replace h := cond_t hb h
            obtain ⟨e17, he17, h⟩ := bind_some h
            refine WO.pureK 5 (if (0 : Int) ≤ x1.f_I then ((List.map e_rf1Dep a2)[Int.toNat x1.f_I]?).map AV.ptr else none) (v := .ptr (.agg [.int .i64 e17.f_From, .int .i64 e17.f_To])) (by kernel_rfl) (idx_av (f := e_rf1Dep) he17) (e1 := [(0, .int .i64 a1), (1, l40 none a2), (2, l98 none a3), (7, .int .i64 (k1 : Int)), (8, .ptr (.agg [.int .i64 x1.f_Rule, .int .i64 x1.f_I, .int .i64 x1.f_J, .int .i64 x1.f_Dep.f_From, .int .i64 x1.f_Dep.f_To])), (9, .bool false), (10, l98 none a3), (11, .int .i64 (a3.length : Int)), (12, .int .i64 (k1 : Int)), (23, .int .i64 x1.f_Rule), (24, .bool (x1.f_Rule == 0)), (26, .ptr (.int .i64 x1.f_I)), (27, .int .i64 x1.f_I), (28, .bool true), (29, .bool true), (30, .ptr (.int .i64 x1.f_I)), (31, .int .i64 x1.f_I), (32, l40 none a2), (33, .int .i64 (a2.length : Int)), (34, .bool true), (35, .bool true), (36, .bool true), (37, .ptr (.int .i64 x1.f_J)), (38, .int .i64 x1.f_J), (39, .bool true), (40, .bool true), (41, .bool true), (42, .ptr (.agg [.int .i64 x1.f_Dep.f_From, .int .i64 x1.f_Dep.f_To])), (43, .agg [.int .i64 x1.f_Dep.f_From, .int .i64 x1.f_Dep.f_To]), (44, l40 none a2), (45, .ptr (.int .i64 x1.f_I)), (46, .int .i64 x1.f_I), (47, .ptr (.agg [.int .i64 e17.f_From, .int .i64 e17.f_To]))]) (by kernel_rfl) ?_
            refine WO.fin [0, 1, 2, 9, 10, 11, 12] [] [] [] (e2 := [(0, .int .i64 a1), (1, l40 none a2), (2, l98 none a3), (9, .bool ((x1.f_Dep.f_From == e17.f_From) && ((x1.f_Dep.f_To == e17.f_To) && true))), (10, l98 none a3), (11, .int .i64 (a3.length : Int)), (12, .int .i64 (k1 : Int))]) (by kernel_rfl) (fun _ h => h) ?_
            exact hK14 ((x1.f_Dep.f_From == e17.f_From) && ((x1.f_Dep.f_To == e17.f_To) && true)) h
          replace h := cond_f hb h
          refine WO.fin [0, 1, 2, 9, 10, 11, 12] [] [] [] (e2 := [(0, .int .i64 a1), (1, l40 none a2), (2, l98 none a3), (9, .bool false), (10, l98 none a3), (11, .int .i64 (a3.length : Int)), (12, .int .i64 (k1 : Int))]) (by kernel_rfl) (fun _ h => h) ?_
          exact hK14 false h
        replace h := cond_f hb h
        refine WO.fin [0, 1, 2, 9, 10, 11, 12] [] [] [] (e2 := [(0, .int .i64 a1), (1, l40 none a2), (2, l98 none a3), (9, .bool false), (10, l98 none a3), (11, .int .i64 (a3.length : Int)), (12, .int .i64 (k1 : Int))]) (by kernel_rfl) (fun _ h => h) ?_
        exact hK14 false h
      replace h := cond_f hb h
      refine WO.fin [0, 1, 2, 9, 10, 11, 12] [] [] [] (e2 := [(0, .int .i64 a1), (1, l40 none a2), (2, l98 none a3), (9, .bool false), (10, l98 none a3), (11, .int .i64 (a3.length : Int)), (12, .int .i64 (k1 : Int))]) (by kernel_rfl) (fun _ h => h) ?_
      exact hK14 false h
    replace h := cond_f hb h
    refine W.seq ?_
    refine W.regT [0, 1, 2, 7, 8, 9, 10, 11, 12, 23, 51] [] [] [] (e2 := [(0, .int .i64 a1), (1, l40 none a2), (2, l98 none a3), (7, .int .i64 (k1 : Int)), (8, .ptr (.agg [.int .i64 x1.f_Rule, .int .i64 x1.f_I, .int .i64 x1.f_J, .int .i64 x1.f_Dep.f_From, .int .i64 x1.f_Dep.f_To])), (9, .bool false), (10, l98 none a3), (11, .int .i64 (a3.length : Int)), (12, .int .i64 (k1 : Int)), (23, .int .i64 x1.f_Rule), (51, .bool (x1.f_Rule == 1))]) (by kernel_rfl) (by kernel_rfl) (fun _ h => h) ?_
    refine W.condB (x1.f_Rule == 1) (by kernel_rfl) (fun hb => ?_) (fun hb => ?_)
    · replace h := cond_t hb h
      refine W.region (by kernel_rfl) ?_
      refine WO.boolK 4 (fun b => [(0, .int .i64 a1), (1, l40 none a2), (2, l98 none a3), (7, .int .i64 (k1 : Int)), (8, .ptr (.agg [.int .i64 x1.f_Rule, .int .i64 x1.f_I, .int .i64 x1.f_J, .int .i64 x1.f_Dep.f_From, .int .i64 x1.f_Dep.f_To])), (9, .bool false), (10, l98 none a3), (11, .int .i64 (a3.length : Int)), (12, .int .i64 (k1 : Int)), (23, .int .i64 x1.f_Rule), (51, .bool (x1.f_Rule == 1)), (53, .ptr (.int .i64 x1.f_I)), (54, .int .i64 x1.f_I), (55, .bool b), (56, .bool b)]) (x1.f_I == 0) (by kernel_rfl) (fun hb => ?_) (fun hb => ?_)
      · replace h := cond_t hb h
        refine WO.boolK 5 (fun b => [(0, .int .i64 a1), (1, l40 none a2), (2, l98 none a3), (7, .int .i64 (k1 : Int)), (8, .ptr (.agg [.int .i64 x1.f_Rule, .int .i64 x1.f_I, .int .i64 x1.f_J, .int .i64 x1.f_Dep.f_From, .int .i64 x1.f_Dep.f_To])), (9, .bool false), (10, l98 none a3), (11, .int .i64 (a3.length : Int)), (12, .int .i64 (k1 : Int)), (23, .int .i64 x1.f_Rule), (51, .bool (x1.f_Rule == 1)), (53, .ptr (.int .i64 x1.f_I)), (54, .int .i64 x1.f_I), (55, .bool true), (56, .bool true), (57, .ptr (.int .i64 x1.f_J)), (58, .int .i64 x1.f_J), (59, .bool b), (60, .bool b), (61, .bool b)]) (x1.f_J == 0) (by kernel_rfl) (fun hb => ?_) (fun hb => ?_)
        · replace h := cond_t hb h
          refine WO.fin [0, 1, 2, 9, 10, 11, 12] [] [] [] (e2 := [(0, .int .i64 a1), (1, l40 none a2), (2, l98 none a3), (9, .bool ((iAndNot .i64 x1.f_Dep.f_To x1.f_Dep.f_From) == 0)), (10, l98 none a3), (11, .int .i64 (a3.length : Int)), (12, .int .i64 (k1 : Int))]) (by kernel_rfl) (fun _ h => h) ?_
          exact hK14 ((iAndNot .i64 x1.f_Dep.f_To x1.f_Dep.f_From) == 0) h
        replace h := cond_f hb h
        refine WO.fin [0, 1, 2, 9, 10, 11, 12] [] [] [] (e2 := [(0, .int .i64 a1), (1, l40 none a2), (2, l98 none a3), (9, .bool false), (10, l98 none a3), (11, .int .i64 (a3.length : Int)), (12, .int .i64 (k1 : Int))]) (by kernel_rfl) (fun _ h => h) ?_
        exact hK14 false h
      replace h := cond_f hb h
      refine WO.fin [0, 1, 2, 9, 10, 11, 12] [] [] [] (e2 := [(0, .int .i64 a1), (1, l40 none a2), (2, l98 none a3), (9, .bool false), (10, l98 none a3), (11, .int .i64 (a3.length : Int)), (12, .int .i64 (k1 : Int))]) (by kernel_rfl) (fun _ h => h) ?_
      exact hK14 false h
    replace h := cond_f hb h
    refine W.seq ?_
    refine W.regT [0, 1, 2, 7, 8, 9, 10, 11, 12, 23, 71] [] [] [] (e2 := [(0, .int .i64 a1), (1, l40 none a2), (2, l98 none a3), (7, .int .i64 (k1 : Int)), (8, .ptr (.agg [.int .i64 x1.f_Rule, .int .i64 x1.f_I, .int .i64 x1.f_J, .int .i64 x1.f_Dep.f_From, .int .i64 x1.f_Dep.f_To])), (9, .bool false), (10, l98 none a3), (11, .int .i64 (a3.length : Int)), (12, .int .i64 (k1 : Int)), (23, .int .i64 x1.f_Rule), (71, .bool (x1.f_Rule == 2))]) (by kernel_rfl) (by kernel_rfl) (fun _ h => h) ?_
    refine W.condB (x1.f_Rule == 2) (by kernel_rfl) (fun hb => ?_) (fun hb => ?_)
    · replace h := cond_t hb h
      refine W.region (by kernel_rfl) ?_
      refine WO.boolK 4 (fun b => [(0, .int .i64 a1), (1, l40 none a2), (2, l98 none a3), (7, .int .i64 (k1 : Int)), (8, .ptr (.agg [.int .i64 x1.f_Rule, .int .i64 x1.f_I, .int .i64 x1.f_J, .int .i64 x1.f_Dep.f_From, .int .i64 x1.f_Dep.f_To])), (9, .bool false), (10, l98 none a3), (11, .int .i64 (a3.length : Int)), (12, .int .i64 (k1 : Int)), (23, .int .i64 x1.f_Rule), (71, .bool (x1.f_Rule == 2)), (73, .ptr (.int .i64 x1.f_I)), (74, .int .i64 x1.f_I), (75, .bool b), (76, .bool b)]) (decide (x1.f_I ≥ 0)) (by kernel_rfl) (fun hb => ?_) (fun hb => ?_)
      · replace h := cond_t hb h
        refine WO.boolK 6 (fun b => [(0, .int .i64 a1), (1, l40 none a2), (2, l98 none a3), (7, .int .i64 (k1 : Int)), (8, .ptr (.agg [.int .i64 x1.f_Rule, .int .i64 x1.f_I, .int .i64 x1.f_J, .int .i64 x1.f_Dep.f_From, .int .i64 x1.f_Dep.f_To])), (9, .bool false), (10, l98 none a3), (11, .int .i64 (a3.length : Int)), (12, .int .i64 (k1 : Int)), (23, .int .i64 x1.f_Rule), (71, .bool (x1.f_Rule == 2)), (73, .ptr (.int .i64 x1.f_I)), (74, .int .i64 x1.f_I), (75, .bool true), (76, .bool true), (77, .ptr (.int .i64 x1.f_I)), (78, .int .i64 x1.f_I), (79, .int .i64 (k1 : Int)), (80, .bool b), (81, .bool b), (82, .bool b)]) (decide (x1.f_I < (k1 : Int))) (by kernel_rfl) (fun hb => ?_) (fun hb => ?_)
        · replace h := cond_t hb h
          obtain ⟨w20, hw20, h⟩ := bind_some h
          refine WO.callK 3 (F := 37) (l := [.int .i64 a1, .int .i64 x1.f_J]) (C := []) (r := .bool w20) (by kernel_rfl) (by kernel_rfl) (run_rf1_Set a1 x1.f_J w20 hw20) (e1 := [(0, .int .i64 a1), (1, l40 none a2), (2, l98 none a3), (7, .int .i64 (k1 : Int)), (8, .ptr (.agg [.int .i64 x1.f_Rule, .int .i64 x1.f_I, .int .i64 x1.f_J, .int .i64 x1.f_Dep.f_From, .int .i64 x1.f_Dep.f_To])), (9, .bool false), (10, l98 none a3), (11, .int .i64 (a3.length : Int)), (12, .int .i64 (k1 : Int)), (23, .int .i64 x1.f_Rule), (71, .bool (x1.f_Rule == 2)), (73, .ptr (.int .i64 x1.f_I)), (74, .int .i64 x1.f_I), (75, .bool true), (76, .bool true), (77, .ptr (.int .i64 x1.f_I)), (78, .int .i64 x1.f_I), (79, .int .i64 (k1 : Int)), (80, .bool true), (81, .bool true), (82, .bool true), (83, .int .i64 a1), (84, .ptr (.int .i64 x1.f_J)), (85, .int .i64 x1.f_J), (86, .bool w20)]) (by kernel_rfl) ?_
          refine WO.boolK 2 (fun b => [(0, .int .i64 a1), (1, l40 none a2), (2, l98 none a3), (7, .int .i64 (k1 : Int)), (8, .ptr (.agg [.int .i64 x1.f_Rule, .int .i64 x1.f_I, .int .i64 x1.f_J, .int .i64 x1.f_Dep.f_From, .int .i64 x1.f_Dep.f_To])), (9, .bool false), (10, l98 none a3), (11, .int .i64 (a3.length : Int)), (12, .int .i64 (k1 : Int)), (23, .int .i64 x1.f_Rule), (71, .bool (x1.f_Rule == 2)), (73, .ptr (.int .i64 x1.f_I)), (74, .int .i64 x1.f_I), (75, .bool true), (76, .bool true), (77, .ptr (.int .i64 x1.f_I)), (78, .int .i64 x1.f_I), (79, .int .i64 (k1 : Int)), (80, .bool true), (81, .bool true), (82, .bool true), (83, .int .i64 a1), (84, .ptr (.int .i64 x1.f_J)), (85, .int .i64 x1.f_J), (86, .bool b), (87, .bool b), (88, .bool b)]) w20 (by kernel_rfl) (fun hb => ?_) (fun hb => ?_)
          · replace h := cond_t hb h
            obtain ⟨e21, he21, h⟩ := bind_some h
            refine WO.pureK 5 (if (0 : Int) ≤ x1.f_I then ((List.map e_rf1Step a3)[Int.toNat x1.f_I]?).map AV.ptr else none) (v := .ptr (.agg [.int .i64 e21.f_Rule, .int .i64 e21.f_I, .int .i64 e21.f_J, .int .i64 e21.f_Dep.f_From, .int .i64 e21.f_Dep.f_To])) (by kernel_rfl) (idx_av (f := e_rf1Step) he21) (e1 := [(0, .int .i64 a1), (1, l40 none a2), (2, l98 none a3), (7, .int .i64 (k1 : Int)), (8, .ptr (.agg [.int .i64 x1.f_Rule, .int .i64 x1.f_I, .int .i64 x1.f_J, .int .i64 x1.f_Dep.f_From, .int .i64 x1.f_Dep.f_To])), (9, .bool false), (10, l98 none a3), (11, .int .i64 (a3.length : Int)), (12, .int .i64 (k1 : Int)), (23, .int .i64 x1.f_Rule), (71, .bool (x1.f_Rule == 2)), (73, .ptr (.int .i64 x1.f_I)), (74, .int .i64 x1.f_I), (75, .bool true), (76, .bool true), (77, .ptr (.int .i64 x1.f_I)), (78, .int .i64 x1.f_I), (79, .int .i64 (k1 : Int)), (80, .bool true), (81, .bool true), (82, .bool true), (83, .int .i64 a1), (84, .ptr (.int .i64 x1.f_J)), (85, .int .i64 x1.f_J), (86, .bool true), (87, .bool true), (88, .bool true), (89, .ptr (.agg [.int .i64 x1.f_Dep.f_From, .int .i64 x1.f_Dep.f_To])), (90, .agg [.int .i64 x1.f_Dep.f_From, .int .i64 x1.f_Dep.f_To]), (91, l98 none a3), (92, .ptr (.int .i64 x1.f_I)), (93, .int .i64 x1.f_I), (94, .ptr (.agg [.int .i64 e21.f_Rule, .int .i64 e21.f_I, .int .i64 e21.f_J, .int .i64 e21.f_Dep.f_From, .int .i64 e21.f_Dep.f_To]))]) (by kernel_rfl) ?_
            obtain ⟨e22, he22, h⟩ := bind_some h
            refine WO.pureK 9 (if (0 : Int) ≤ x1.f_I then ((List.map e_rf1Step a3)[Int.toNat x1.f_I]?).map AV.ptr else none) (v := .ptr (.agg [.int .i64 e22.f_Rule, .int .i64 e22.f_I, .int .i64 e22.f_J, .int .i64 e22.f_Dep.f_From, .int .i64 e22.f_Dep.f_To])) (by kernel_rfl) (idx_av (f := e_rf1Step) he22) (e1 := [(0, .int .i64 a1), (1, l40 none a2), (2, l98 none a3), (7, .int .i64 (k1 : Int)), (8, .ptr (.agg [.int .i64 x1.f_Rule, .int .i64 x1.f_I, .int .i64 x1.f_J, .int .i64 x1.f_Dep.f_From, .int .i64 x1.f_Dep.f_To])), (9, .bool false), (10, l98 none a3), (11, .int .i64 (a3.length : Int)), (12, .int .i64 (k1 : Int)), (23, .int .i64 x1.f_Rule), (71, .bool (x1.f_Rule == 2)), (73, .ptr (.int .i64 x1.f_I)), (74, .int .i64 x1.f_I), (75, .bool true), (76, .bool true), (77, .ptr (.int .i64 x1.f_I)), (78, .int .i64 x1.f_I), (79, .int .i64 (k1 : Int)), (80, .bool true), (81, .bool true), (82, .bool true), (83, .int .i64 a1), (84, .ptr (.int .i64 x1.f_J)), (85, .int .i64 x1.f_J), (86, .bool true), (87, .bool true), (88, .bool true), (89, .ptr (.agg [.int .i64 x1.f_Dep.f_From, .int .i64 x1.f_Dep.f_To])), (90, .agg [.int .i64 x1.f_Dep.f_From, .int .i64 x1.f_Dep.f_To]), (91, l98 none a3), (92, .ptr (.int .i64 x1.f_I)), (93, .int .i64 x1.f_I), (94, .ptr (.agg [.int .i64 e21.f_Rule, .int .i64 e21.f_I, .int .i64 e21.f_J, .int .i64 e21.f_Dep.f_From, .int .i64 e21.f_Dep.f_To])), (95, .ptr (.agg [.int .i64 e21.f_Dep.f_From, .int .i64 e21.f_Dep.f_To])), (96, .ptr (.int .i64 e21.f_Dep.f_From)), (97, .int .i64 e21.f_Dep.f_From), (98, .ptr (.int .i64 x1.f_J)), (99, .int .i64 x1.f_J), (100, .int .i64 (iOr .i64 e21.f_Dep.f_From x1.f_J)), (101, l98 none a3), (102, .ptr (.int .i64 x1.f_I)), (103, .int .i64 x1.f_I), (104, .ptr (.agg [.int .i64 e22.f_Rule, .int .i64 e22.f_I, .int .i64 e22.f_J, .int .i64 e22.f_Dep.f_From, .int .i64 e22.f_Dep.f_To]))]) (by kernel_rfl) ?_
            refine WO.fin [0, 1, 2, 9, 10, 11, 12] [] [] [] (e2 := [(0, .int .i64 a1), (1, l40 none a2), (2, l98 none a3), (9, .bool ((x1.f_Dep.f_From == (iOr .i64 e21.f_Dep.f_From x1.f_J)) && ((x1.f_Dep.f_To == (iOr .i64 e22.f_Dep.f_To x1.f_J)) && true))), (10, l98 none a3), (11, .int .i64 (a3.length : Int)), (12, .int .i64 (k1 : Int))]) (by kernel_rfl) (fun _ h => h) ?_
            exact hK14 ((x1.f_Dep.f_From == (iOr .i64 e21.f_Dep.f_From x1.f_J)) && ((x1.f_Dep.f_To == (iOr .i64 e22.f_Dep.f_To x1.f_J)) && true)) h
          replace h := cond_f hb h
          refine WO.fin [0, 1, 2, 9, 10, 11, 12] [] [] [] (e2 := [(0, .int .i64 a1), (1, l40 none a2), (2, l98 none a3), (9, .bool false), (10, l98 none a3), (11, .int .i64 (a3.length : Int)), (12, .int .i64 (k1 : Int))]) (by kernel_rfl) (fun _ h => h) ?_
          exact hK14 false h
        replace h := cond_f hb h
        refine WO.fin [0, 1, 2, 9, 10, 11, 12] [] [] [] (e2 := [(0, .int .i64 a1), (1, l40 none a2), (2, l98 none a3), (9, .bool false), (10, l98 none a3), (11, .int .i64 (a3.length : Int)), (12, .int .i64 (k1 : Int))]) (by kernel_rfl) (fun _ h => h) ?_
        exact hK14 false h
      replace h := cond_f hb h
      refine WO.fin [0, 1, 2, 9, 10, 11, 12] [] [] [] (e2 := [(0, .int .i64 a1), (1, l40 none a2), (2, l98 none a3), (9, .bool false), (10, l98 none a3), (11, .int .i64 (a3.length : Int)), (12, .int .i64 (k1 : Int))]) (by kernel_rfl) (fun _ h => h) ?_
      exact hK14 false h
    replace h := cond_f hb h
    refine W.seq ?_
    refine W.regT [0, 1, 2, 7, 8, 9, 10, 11, 12, 114] [] [] [] (e2 := [(0, .int .i64 a1), (1, l40 none a2), (2, l98 none a3), (7, .int .i64 (k1 : Int)), (8, .ptr (.agg [.int .i64 x1.f_Rule, .int .i64 x1.f_I, .int .i64 x1.f_J, .int .i64 x1.f_Dep.f_From, .int .i64 x1.f_Dep.f_To])), (9, .bool false), (10, l98 none a3), (11, .int .i64 (a3.length : Int)), (12, .int .i64 (k1 : Int)), (114, .bool (x1.f_Rule == 3))]) (by kernel_rfl) (by kernel_rfl) (fun _ h => h) ?_
    refine W.condB (x1.f_Rule == 3) (by kernel_rfl) (fun hb => ?_) (fun hb => ?_)
    · replace h := cond_t hb h
      refine W.region (by kernel_rfl) ?_
      refine WO.boolK 4 (fun b => [(0, .int .i64 a1), (1, l40 none a2), (2, l98 none a3), (7, .int .i64 (k1 : Int)), (8, .ptr (.agg [.int .i64 x1.f_Rule, .int .i64 x1.f_I, .int .i64 x1.f_J, .int .i64 x1.f_Dep.f_From, .int .i64 x1.f_Dep.f_To])), (9, .bool false), (10, l98 none a3), (11, .int .i64 (a3.length : Int)), (12, .int .i64 (k1 : Int)), (114, .bool (x1.f_Rule == 3)), (116, .ptr (.int .i64 x1.f_I)), (117, .int .i64 x1.f_I), (118, .bool b), (119, .bool b)]) (decide (x1.f_I ≥ 0)) (by kernel_rfl) (fun hb => ?_) (fun hb => ?_)
      · replace h := cond_t hb h
        refine WO.boolK 6 (fun b => [(0, .int .i64 a1), (1, l40 none a2), (2, l98 none a3), (7, .int .i64 (k1 : Int)), (8, .ptr (.agg [.int .i64 x1.f_Rule, .int .i64 x1.f_I, .int .i64 x1.f_J, .int .i64 x1.f_Dep.f_From, .int .i64 x1.f_Dep.f_To])), (9, .bool false), (10, l98 none a3), (11, .int .i64 (a3.length : Int)), (12, .int .i64 (k1 : Int)), (114, .bool (x1.f_Rule == 3)), (116, .ptr (.int .i64 x1.f_I)), (117, .int .i64 x1.f_I), (118, .bool true), (119, .bool true), (120, .ptr (.int .i64 x1.f_I)), (121, .int .i64 x1.f_I), (122, .int .i64 (k1 : Int)), (123, .bool b), (124, .bool b), (125, .bool b)]) (decide (x1.f_I < (k1 : Int))) (by kernel_rfl) (fun hb => ?_) (fun hb => ?_)
        · replace h := cond_t hb h
          refine WO.boolK 5 (fun b => [(0, .int .i64 a1), (1, l40 none a2), (2, l98 none a3), (7, .int .i64 (k1 : Int)), (8, .ptr (.agg [.int .i64 x1.f_Rule, .int .i64 x1.f_I, .int .i64 x1.f_J, .int .i64 x1.f_Dep.f_From, .int .i64 x1.f_Dep.f_To])), (9, .bool false), (10, l98 none a3), (11, .int .i64 (a3.length : Int)), (12, .int .i64 (k1 : Int)), (114, .bool (x1.f_Rule == 3)), (116, .ptr (.int .i64 x1.f_I)), (117, .int .i64 x1.f_I), (118, .bool true), (119, .bool true), (120, .ptr (.int .i64 x1.f_I)), (121, .int .i64 x1.f_I), (122, .int .i64 (k1 : Int)), (123, .bool true), (124, .bool true), (125, .bool true), (126, .ptr (.int .i64 x1.f_J)), (127, .int .i64 x1.f_J), (128, .bool b), (129, .bool b), (130, .bool b)]) (decide (x1.f_J ≥ 0)) (by kernel_rfl) (fun hb => ?_) (fun hb => ?_)
          · replace h := cond_t hb h
            refine WO.boolK 6 (fun b => [(0, .int .i64 a1), (1, l40 none a2), (2, l98 none a3), (7, .int .i64 (k1 : Int)), (8, .ptr (.agg [.int .i64 x1.f_Rule, .int .i64 x1.f_I, .int .i64 x1.f_J, .int .i64 x1.f_Dep.f_From, .int .i64 x1.f_Dep.f_To])), (9, .bool false), (10, l98 none a3), (11, .int .i64 (a3.length : Int)), (12, .int .i64 (k1 : Int)), (114, .bool (x1.f_Rule == 3)), (116, .ptr (.int .i64 x1.f_I)), (117, .int .i64 x1.f_I), (118, .bool true), (119, .bool true), (120, .ptr (.int .i64 x1.f_I)), (121, .int .i64 x1.f_I), (122, .int .i64 (k1 : Int)), (123, .bool true), (124, .bool true), (125, .bool true), (126, .ptr (.int .i64 x1.f_J)), (127, .int .i64 x1.f_J), (128, .bool true), (129, .bool true), (130, .bool true), (131, .ptr (.int .i64 x1.f_J)), (132, .int .i64 x1.f_J), (133, .int .i64 (k1 : Int)), (134, .bool b), (135, .bool b), (136, .bool b)]) (decide (x1.f_J < (k1 : Int))) (by kernel_rfl) (fun hb => ?_) (fun hb => ?_)
            · replace h := cond_t hb h
              obtain ⟨e24, he24, h⟩ := bind_some h
              refine WO.pureK 3 (if (0 : Int) ≤ x1.f_I then ((List.map e_rf1Step a3)[Int.toNat x1.f_I]?).map AV.ptr else none) (v := .ptr (.agg [.int .i64 e24.f_Rule, .int .i64 e24.f_I, .int .i64 e24.f_J, .int .i64 e24.f_Dep.f_From, .int .i64 e24.f_Dep.f_To])) (by kernel_rfl) (idx_av (f := e_rf1Step) he24) (e1 := [(0, .int .i64 a1), (1, l40 none a2), (2, l98 none a3), (7, .int .i64 (k1 : Int)), (8, .ptr (.agg [.int .i64 x1.f_Rule, .int .i64 x1.f_I, .int .i64 x1.f_J, .int .i64 x1.f_Dep.f_From, .int .i64 x1.f_Dep.f_To])), (9, .bool false), (10, l98 none a3), (11, .int .i64 (a3.length : Int)), (12, .int .i64 (k1 : Int)), (114, .bool (x1.f_Rule == 3)), (116, .ptr (.int .i64 x1.f_I)), (117, .int .i64 x1.f_I), (118, .bool true), (119, .bool true), (120, .ptr (.int .i64 x1.f_I)), (121, .int .i64 x1.f_I), (122, .int .i64 (k1 : Int)), (123, .bool true), (124, .bool true), (125, .bool true), (126, .ptr (.int .i64 x1.f_J)), (127, .int .i64 x1.f_J), (128, .bool true), (129, .bool true), (130, .bool true), (131, .ptr (.int .i64 x1.f_J)), (132, .int .i64 x1.f_J), (133, .int .i64 (k1 : Int)), (134, .bool true), (135, .bool true), (136, .bool true), (137, l98 none a3), (138, .ptr (.int .i64 x1.f_I)), (139, .int .i64 x1.f_I), (140, .ptr (.agg [.int .i64 e24.f_Rule, .int .i64 e24.f_I, .int .i64 e24.f_J, .int .i64 e24.f_Dep.f_From, .int .i64 e24.f_Dep.f_To]))]) (by kernel_rfl) ?_
              obtain ⟨e25, he25, h⟩ := bind_some h
              refine WO.pureK 6 (if (0 : Int) ≤ x1.f_J then ((List.map e_rf1Step a3)[Int.toNat x1.f_J]?).map AV.ptr else none) (v := .ptr (.agg [.int .i64 e25.f_Rule, .int .i64 e25.f_I, .int .i64 e25.f_J, .int .i64 e25.f_Dep.f_From, .int .i64 e25.f_Dep.f_To])) (by kernel_rfl) (idx_av (f := e_rf1Step) he25) (e1 := [(0, .int .i64 a1), (1, l40 none a2), (2, l98 none a3), (7, .int .i64 (k1 : Int)), (8, .ptr (.agg [.int .i64 x1.f_Rule, .int .i64 x1.f_I, .int .i64 x1.f_J, .int .i64 x1.f_Dep.f_From, .int .i64 x1.f_Dep.f_To])), (9, .bool false), (10, l98 none a3), (11, .int .i64 (a3.length : Int)), (12, .int .i64 (k1 : Int)), (114, .bool (x1.f_Rule == 3)), (116, .ptr (.int .i64 x1.f_I)), (117, .int .i64 x1.f_I), (118, .bool true), (119, .bool true), (120, .ptr (.int .i64 x1.f_I)), (121, .int .i64 x1.f_I), (122, .int .i64 (k1 : Int)), (123, .bool true), (124, .bool true), (125, .bool true), (126, .ptr (.int .i64 x1.f_J)), (127, .int .i64 x1.f_J), (128, .bool true), (129, .bool true), (130, .bool true), (131, .ptr (.int .i64 x1.f_J)), (132, .int .i64 x1.f_J), (133, .int .i64 (k1 : Int)), (134, .bool true), (135, .bool true), (136, .bool true), (137, l98 none a3), (138, .ptr (.int .i64 x1.f_I)), (139, .int .i64 x1.f_I), (140, .ptr (.agg [.int .i64 e24.f_Rule, .int .i64 e24.f_I, .int .i64 e24.f_J, .int .i64 e24.f_Dep.f_From, .int .i64 e24.f_Dep.f_To])), (141, .ptr (.agg [.int .i64 e24.f_Dep.f_From, .int .i64 e24.f_Dep.f_To])), (142, .ptr (.int .i64 e24.f_Dep.f_To)), (143, .int .i64 e24.f_Dep.f_To), (144, l98 none a3), (145, .ptr (.int .i64 x1.f_J)), (146, .int .i64 x1.f_J), (147, .ptr (.agg [.int .i64 e25.f_Rule, .int .i64 e25.f_I, .int .i64 e25.f_J, .int .i64 e25.f_Dep.f_From, .int .i64 e25.f_Dep.f_To]))]) (by kernel_rfl) ?_
              refine WO.boolK 6 (fun b => [(0, .int .i64 a1), (1, l40 none a2), (2, l98 none a3), (7, .int .i64 (k1 : Int)), (8, .ptr (.agg [.int .i64 x1.f_Rule, .int .i64 x1.f_I, .int .i64 x1.f_J, .int .i64 x1.f_Dep.f_From, .int .i64 x1.f_Dep.f_To])), (9, .bool false), (10, l98 none a3), (11, .int .i64 (a3.length : Int)), (12, .int .i64 (k1 : Int)), (114, .bool (x1.f_Rule == 3)), (116, .ptr (.int .i64 x1.f_I)), (117, .int .i64 x1.f_I), (118, .bool true), (119, .bool true), (120, .ptr (.int .i64 x1.f_I)), (121, .int .i64 x1.f_I), (122, .int .i64 (k1 : Int)), (123, .bool true), (124, .bool true), (125, .bool true), (126, .ptr (.int .i64 x1.f_J)), (127, .int .i64 x1.f_J), (128, .bool true), (129, .bool true), (130, .bool true), (131, .ptr (.int .i64 x1.f_J)), (132, .int .i64 x1.f_J), (133, .int .i64 (k1 : Int)), (134, .bool true), (135, .bool true), (136, .bool true), (137, l98 none a3), (138, .ptr (.int .i64 x1.f_I)), (139, .int .i64 x1.f_I), (140, .ptr (.agg [.int .i64 e24.f_Rule, .int .i64 e24.f_I, .int .i64 e24.f_J, .int .i64 e24.f_Dep.f_From, .int .i64 e24.f_Dep.f_To])), (141, .ptr (.agg [.int .i64 e24.f_Dep.f_From, .int .i64 e24.f_Dep.f_To])), (142, .ptr (.int .i64 e24.f_Dep.f_To)), (143, .int .i64 e24.f_Dep.f_To), (144, l98 none a3), (145, .ptr (.int .i64 x1.f_J)), (146, .int .i64 x1.f_J), (147, .ptr (.agg [.int .i64 e25.f_Rule, .int .i64 e25.f_I, .int .i64 e25.f_J, .int .i64 e25.f_Dep.f_From, .int .i64 e25.f_Dep.f_To])), (148, .ptr (.agg [.int .i64 e25.f_Dep.f_From, .int .i64 e25.f_Dep.f_To])), (149, .ptr (.int .i64 e25.f_Dep.f_From)), (150, .int .i64 e25.f_Dep.f_From), (151, .bool b), (152, .bool b), (153, .bool b)]) (e24.f_Dep.f_To == e25.f_Dep.f_From) (by kernel_rfl) (fun hb => ?_) (fun hb => ?_)
              · replace h := cond_t hb h
                obtain ⟨e26, he26, h⟩ := bind_some h
                refine WO.pureK 5 (if (0 : Int) ≤ x1.f_I then ((List.map e_rf1Step a3)[Int.toNat x1.f_I]?).map AV.ptr else none) (v := .ptr (.agg [.int .i64 e26.f_Rule, .int .i64 e26.f_I, .int .i64 e26.f_J, .int .i64 e26.f_Dep.f_From, .int .i64 e26.f_Dep.f_To])) (by kernel_rfl) (idx_av (f := e_rf1Step) he26) (e1 := [(0, .int .i64 a1), (1, l40 none a2), (2, l98 none a3), (7, .int .i64 (k1 : Int)), (8, .ptr (.agg [.int .i64 x1.f_Rule, .int .i64 x1.f_I, .int .i64 x1.f_J, .int .i64 x1.f_Dep.f_From, .int .i64 x1.f_Dep.f_To])), (9, .bool false), (10, l98 none a3), (11, .int .i64 (a3.length : Int)), (12, .int .i64 (k1 : Int)), (114, .bool (x1.f_Rule == 3)), (116, .ptr (.int .i64 x1.f_I)), (117, .int .i64 x1.f_I), (118, .bool true), (119, .bool true), (120, .ptr (.int .i64 x1.f_I)), (121, .int .i64 x1.f_I), (122, .int .i64 (k1 : Int)), (123, .bool true), (124, .bool true), (125, .bool true), (126, .ptr (.int .i64 x1.f_J)), (127, .int .i64 x1.f_J), (128, .bool true), (129, .bool true), (130, .bool true), (131, .ptr (.int .i64 x1.f_J)), (132, .int .i64 x1.f_J), (133, .int .i64 (k1 : Int)), (134, .bool true), (135, .bool true), (136, .bool true), (137, l98 none a3), (138, .ptr (.int .i64 x1.f_I)), (139, .int .i64 x1.f_I), (140, .ptr (.agg [.int .i64 e24.f_Rule, .int .i64 e24.f_I, .int .i64 e24.f_J, .int .i64 e24.f_Dep.f_From, .int .i64 e24.f_Dep.f_To])), (141, .ptr (.agg [.int .i64 e24.f_Dep.f_From, .int .i64 e24.f_Dep.f_To])), (142, .ptr (.int .i64 e24.f_Dep.f_To)), (143, .int .i64 e24.f_Dep.f_To), (144, l98 none a3), (145, .ptr (.int .i64 x1.f_J)), (146, .int .i64 x1.f_J), (147, .ptr (.agg [.int .i64 e25.f_Rule, .int .i64 e25.f_I, .int .i64 e25.f_J, .int .i64 e25.f_Dep.f_From, .int .i64 e25.f_Dep.f_To])), (148, .ptr (.agg [.int .i64 e25.f_Dep.f_From, .int .i64 e25.f_Dep.f_To])), (149, .ptr (.int .i64 e25.f_Dep.f_From)), (150, .int .i64 e25.f_Dep.f_From), (151, .bool true), (152, .bool true), (153, .bool true), (154, .ptr (.agg [.int .i64 x1.f_Dep.f_From, .int .i64 x1.f_Dep.f_To])), (155, .agg [.int .i64 x1.f_Dep.f_From, .int .i64 x1.f_Dep.f_To]), (156, l98 none a3), (157, .ptr (.int .i64 x1.f_I)), (158, .int .i64 x1.f_I), (159, .ptr (.agg [.int .i64 e26.f_Rule, .int .i64 e26.f_I, .int .i64 e26.f_J, .int .i64 e26.f_Dep.f_From, .int .i64 e26.f_Dep.f_To]))]) (by kernel_rfl) ?_
                obtain ⟨e27, he27, h⟩ := bind_some h
                refine WO.pureK 6 (if (0 : Int) ≤ x1.f_J then ((List.map e_rf1Step a3)[Int.toNat x1.f_J]?).map AV.ptr else none) (v := .ptr (.agg [.int .i64 e27.f_Rule, .int .i64 e27.f_I, .int .i64 e27.f_J, .int .i64 e27.f_Dep.f_From, .int .i64 e27.f_Dep.f_To])) (by kernel_rfl) (idx_av (f := e_rf1Step) he27) (e1 := [(0, .int .i64 a1), (1, l40 none a2), (2, l98 none a3), (7, .int .i64 (k1 : Int)), (8, .ptr (.agg [.int .i64 x1.f_Rule, .int .i64 x1.f_I, .int .i64 x1.f_J, .int .i64 x1.f_Dep.f_From, .int .i64 x1.f_Dep.f_To])), (9, .bool false), (10, l98 none a3), (11, .int .i64 (a3.length : Int)), (12, .int .i64 (k1 : Int)), (114, .bool (x1.f_Rule == 3)), (116, .ptr (.int .i64 x1.f_I)), (117, .int .i64 x1.f_I), (118, .bool true), (119, .bool true), (120, .ptr (.int .i64 x1.f_I)), (121, .int .i64 x1.f_I), (122, .int .i64 (k1 : Int)), (123, .bool true), (124, .bool true), (125, .bool true), (126, .ptr (.int .i64 x1.f_J)), (127, .int .i64 x1.f_J), (128, .bool true), (129, .bool true), (130, .bool true), (131, .ptr (.int .i64 x1.f_J)), (132, .int .i64 x1.f_J), (133, .int .i64 (k1 : Int)), (134, .bool true), (135, .bool true), (136, .bool true), (137, l98 none a3), (138, .ptr (.int .i64 x1.f_I)), (139, .int .i64 x1.f_I), (140, .ptr (.agg [.int .i64 e24.f_Rule, .int .i64 e24.f_I, .int .i64 e24.f_J, .int .i64 e24.f_Dep.f_From, .int .i64 e24.f_Dep.f_To])), (141, .ptr (.agg [.int .i64 e24.f_Dep.f_From, .int .i64 e24.f_Dep.f_To])), (142, .ptr (.int .i64 e24.f_Dep.f_To)), (143, .int .i64 e24.f_Dep.f_To), (144, l98 none a3), (145, .ptr (.int .i64 x1.f_J)), (146, .int .i64 x1.f_J), (147, .ptr (.agg [.int .i64 e25.f_Rule, .int .i64 e25.f_I, .int .i64 e25.f_J, .int .i64 e25.f_Dep.f_From, .int .i64 e25.f_Dep.f_To])), (148, .ptr (.agg [.int .i64 e25.f_Dep.f_From, .int .i64 e25.f_Dep.f_To])), (149, .ptr (.int .i64 e25.f_Dep.f_From)), (150, .int .i64 e25.f_Dep.f_From), (151, .bool true), (152, .bool true), (153, .bool true), (154, .ptr (.agg [.int .i64 x1.f_Dep.f_From, .int .i64 x1.f_Dep.f_To])), (155, .agg [.int .i64 x1.f_Dep.f_From, .int .i64 x1.f_Dep.f_To]), (156, l98 none a3), (157, .ptr (.int .i64 x1.f_I)), (158, .int .i64 x1.f_I), (159, .ptr (.agg [.int .i64 e26.f_Rule, .int .i64 e26.f_I, .int .i64 e26.f_J, .int .i64 e26.f_Dep.f_From, .int .i64 e26.f_Dep.f_To])), (160, .ptr (.agg [.int .i64 e26.f_Dep.f_From, .int .i64 e26.f_Dep.f_To])), (161, .ptr (.int .i64 e26.f_Dep.f_From)), (162, .int .i64 e26.f_Dep.f_From), (163, l98 none a3), (164, .ptr (.int .i64 x1.f_J)), (165, .int .i64 x1.f_J), (166, .ptr (.agg [.int .i64 e27.f_Rule, .int .i64 e27.f_I, .int .i64 e27.f_J, .int .i64 e27.f_Dep.f_From, .int .i64 e27.f_Dep.f_To]))]) (by kernel_rfl) ?_
                refine WO.fin [0, 1, 2, 9, 10, 11, 12] [] [] [] (e2 := [(0, .int .i64 a1), (1, l40 none a2), (2, l98 none a3), (9, .bool ((x1.f_Dep.f_From == e26.f_Dep.f_From) && ((x1.f_Dep.f_To == e27.f_Dep.f_To) && true))), (10, l98 none a3), (11, .int .i64 (a3.length : Int)), (12, .int .i64 (k1 : Int))]) (by kernel_rfl) (fun _ h => h) ?_
                exact hK14 ((x1.f_Dep.f_From == e26.f_Dep.f_From) && ((x1.f_Dep.f_To == e27.f_Dep.f_To) && true)) h
              replace h := cond_f hb h
              refine WO.fin [0, 1, 2, 9, 10, 11, 12] [] [] [] (e2 := [(0, .int .i64 a1), (1, l40 none a2), (2, l98 none a3), (9, .bool false), (10, l98 none a3), (11, .int .i64 (a3.length : Int)), (12, .int .i64 (k1 : Int))]) (by kernel_rfl) (fun _ h => h) ?_
              exact hK14 false h
            replace h := cond_f hb h
            refine WO.fin [0, 1, 2, 9, 10, 11, 12] [] [] [] (e2 := [(0, .int .i64 a1), (1, l40 none a2), (2, l98 none a3), (9, .bool false), (10, l98 none a3), (11, .int .i64 (a3.length : Int)), (12, .int .i64 (k1 : Int))]) (by kernel_rfl) (fun _ h => h) ?_
            exact hK14 false h
          replace h := cond_f hb h
          refine WO.fin [0, 1, 2, 9, 10, 11, 12] [] [] [] (e2 := [(0, .int .i64 a1), (1, l40 none a2), (2, l98 none a3), (9, .bool false), (10, l98 none a3), (11, .int .i64 (a3.length : Int)), (12, .int .i64 (k1 : Int))]) (by kernel_rfl) (fun _ h => h) ?_
          exact hK14 false h
        replace h := cond_f hb h
        refine WO.fin [0, 1, 2, 9, 10, 11, 12] [] [] [] (e2 := [(0, .int .i64 a1), (1, l40 none a2), (2, l98 none a3), (9, .bool false), (10, l98 none a3), (11, .int .i64 (a3.length : Int)), (12, .int .i64 (k1 : Int))]) (by kernel_rfl) (fun _ h => h) ?_
        exact hK14 false h
      replace h := cond_f hb h
      refine WO.fin [0, 1, 2, 9, 10, 11, 12] [] [] [] (e2 := [(0, .int .i64 a1), (1, l40 none a2), (2, l98 none a3), (9, .bool false), (10, l98 none a3), (11, .int .i64 (a3.length : Int)), (12, .int .i64 (k1 : Int))]) (by kernel_rfl) (fun _ h => h) ?_
      exact hK14 false h
    replace h := cond_f hb h
    refine W.skip ?_
    refine W.weak [0, 1, 2, 9, 10, 11, 12] [] [] [] (env' := [(0, .int .i64 a1), (1, l40 none a2), (2, l98 none a3), (9, .bool false), (10, l98 none a3), (11, .int .i64 (a3.length : Int)), (12, .int .i64 (k1 : Int))]) (by kernel_rfl) ?_
    exact hK14 false h
def lw1_DependChecks_j12 (v14 : Bool) : Option Bool :=
  (some v14)
def lw1_DependChecks_j15 (v18 : Bool) : Option Bool :=
  (some v18)
def lw1_DependChecks (fuel : Nat) (a1 : Int) (a2 : (List rf1Dep)) (a3 : (List rf1Step)) : Option Bool :=
  ((lw1_deps a2).bind fun w6 => ((lw1_steps a3).bind fun w7 => ((dp_Check a1 w6 w7).bind fun w8 => ((rf1_Valid a1 a2).bind fun w11 => (bif (!w11) then (bif (!w8.1) then (bif (w8.2 == 2) then ((lw1_awake fuel).bind fun w13 => ((lw1_DependChecks_j12) w13)) else ((lw1_DependChecks_j12) false)) else ((lw1_DependChecks_j12) false)) else ((rf1_Proof a1 a2 a3).bind fun w16 => (bif (w8.1 == w16) then (bif (w8.2 == 0) then ((lw1_awake fuel).bind fun w17 => ((lw1_DependChecks_j15) w17)) else ((lw1_DependChecks_j15) false)) else ((lw1_DependChecks_j15) false))))))))
theorem run_lw1_DependChecks (fuel : Nat) (a1 : Int) (a2 : (List rf1Dep)) (a3 : (List rf1Step)) (r : Bool) (h : lw1_DependChecks fuel a1 a2 a3 = some r) : Run Try.prog (.call 7 [.int .i64 a1, l40 none a2, l98 none a3] (.bool r)) := by
  refine call_of_W Try.func7 rfl (by kernel_rfl) (env0 := [(0, .int .i64 a1), (1, l40 none a2), (2, l98 none a3)]) (by kernel_rfl) ?_
  unfold lw1_DependChecks at h
  refine W.seq ?_
  refine W.regT [0, 1, 2] [] [] [] (e2 := [(0, .int .i64 a1), (1, l40 none a2), (2, l98 none a3)]) (by kernel_rfl) (by kernel_rfl) (fun _ h => h) ?_
  refine W.seq ?_
  refine W.region (by kernel_rfl) ?_
  obtain ⟨w6, hw6, h⟩ := bind_some h
  refine WO.callK 2 (F := 20) (l := [l40 none a2]) (C := []) (r := l33 (some 1) w6) (by kernel_rfl) (by kernel_rfl) (run_lw1_deps a2 w6 hw6) (e1 := [(0, .int .i64 a1), (1, l40 none a2), (2, l98 none a3), (10, .int .i64 a1), (11, l40 none a2), (12, l33 (some 12) w6)]) (by kernel_rfl) ?_
  obtain ⟨w7, hw7, h⟩ := bind_some h
  refine WO.callK 1 (F := 27) (l := [l98 none a3]) (C := []) (r := l58 (some 1) w7) (by kernel_rfl) (by kernel_rfl) (run_lw1_steps a3 w7 hw7) (e1 := [(0, .int .i64 a1), (1, l40 none a2), (2, l98 none a3), (10, .int .i64 a1), (11, l40 none a2), (12, l33 (some 12) w6), (13, l98 none a3), (14, l58 (some 14) w7)]) (by kernel_rfl) ?_
  obtain ⟨w8, hw8, h⟩ := bind_some h
  refine WO.callK 0 (F := 26) (l := [.int .i64 a1, l33 none w6, l58 none w7]) (C := []) (r := .tup [.bool w8.1, .int .i64 w8.2]) (by kernel_rfl) (by kernel_rfl) (run_dp_Check a1 w6 w7 w8 hw8) (e1 := [(0, .int .i64 a1), (1, l40 none a2), (2, l98 none a3), (10, .int .i64 a1), (11, l40 none a2), (12, l33 (some 12) w6), (13, l98 none a3), (14, l58 (some 14) w7), (15, .tup [.bool w8.1, .int .i64 w8.2])]) (by kernel_rfl) ?_
  refine WO.fin [0, 1, 2, 7, 8] [] [] [] (e2 := [(0, .int .i64 a1), (1, l40 none a2), (2, l98 none a3), (7, .bool w8.1), (8, .int .i64 w8.2)]) (by kernel_rfl) (fun _ h => h) ?_
  refine W.seq ?_
  refine W.seq ?_
  refine W.region (by kernel_rfl) ?_
  obtain ⟨w11, hw11, h⟩ := bind_some h
  refine WO.callK 2 (F := 28) (l := [.int .i64 a1, l40 none a2]) (C := []) (r := .bool w11) (by kernel_rfl) (by kernel_rfl) (run_rf1_Valid a1 a2 w11 hw11) (e1 := [(0, .int .i64 a1), (1, l40 none a2), (2, l98 none a3), (7, .bool w8.1), (8, .int .i64 w8.2), (18, .int .i64 a1), (19, l40 none a2), (20, .bool w11)]) (by kernel_rfl) ?_
  refine WO.fin [0, 1, 2, 7, 8, 21] [] [] [] (e2 := [(0, .int .i64 a1), (1, l40 none a2), (2, l98 none a3), (7, .bool w8.1), (8, .int .i64 w8.2), (21, .bool (!w11))]) (by kernel_rfl) (fun _ h => h) ?_
  refine W.condB (!w11) (by kernel_rfl) (fun hb => ?_) (fun hb => ?_)
  · replace h := cond_t hb h
    refine W.seq ?_
    refine W.join (σ := (Bool)) (fun s => [(6, .bool s)]) (fun s => (lw1_DependChecks_j12) s = some r) (fun s h => ?_) (fun hK12 => ?_)
    · obtain ⟨v14, rfl⟩ : ∃ x, x = s := ⟨s, rfl⟩
      have h : (lw1_DependChecks_j12) v14 = some r := h
      unfold lw1_DependChecks_j12 at h
      refine W.weak [6] [] [] [] (env' := [(6, .bool v14)]) (by kernel_rfl) ?_
      have hr : aresults Try.prog Try.f7 [(6, .bool v14)] = some (.bool v14) := by kernel_rfl
      cases h
      exact W.ret hr
    refine W.region (by kernel_rfl) ?_
    refine WO.boolK 3 (fun b => [(0, .int .i64 a1), (1, l40 none a2), (2, l98 none a3), (7, .bool w8.1), (8, .int .i64 w8.2), (21, .bool (!w11)), (22, .bool w8.1), (23, .bool b), (24, .bool b)]) (!w8.1) (by kernel_rfl) (fun hb => ?_) (fun hb => ?_)
    · replace h := cond_t hb h
      refine WO.boolK 4 (fun b => [(0, .int .i64 a1), (1, l40 none a2), (2, l98 none a3), (7, .bool w8.1), (8, .int .i64 w8.2), (21, .bool (!w11)), (22, .bool w8.1), (23, .bool true), (24, .bool true), (25, .int .i64 w8.2), (26, .bool b), (27, .bool b), (28, .bool b)]) (w8.2 == 2) (by kernel_rfl) (fun hb => ?_) (fun hb => ?_)
      · replace h := cond_t hb h
        obtain ⟨w13, hw13, h⟩ := bind_some h
        refine WO.callK 0 (F := 21) (l := []) (C := []) (r := .bool w13) (by kernel_rfl) (by kernel_rfl) (run_lw1_awake fuel w13 hw13) (e1 := [(0, .int .i64 a1), (1, l40 none a2), (2, l98 none a3), (7, .bool w8.1), (8, .int .i64 w8.2), (21, .bool (!w11)), (22, .bool w8.1), (23, .bool true), (24, .bool true), (25, .int .i64 w8.2), (26, .bool true), (27, .bool true), (28, .bool true), (29, .bool w13)]) (by kernel_rfl) ?_
        refine WO.fin [6] [] [] [] (e2 := [(6, .bool w13)]) (by kernel_rfl) (fun _ h => h) ?_
        exact hK12 w13 h
      replace h := cond_f hb h
      refine WO.fin [6] [] [] [] (e2 := [(6, .bool false)]) (by kernel_rfl) (fun _ h => h) ?_
      exact hK12 false h
    replace h := cond_f hb h
    refine WO.fin [6] [] [] [] (e2 := [(6, .bool false)]) (by kernel_rfl) (fun _ h => h) ?_
    exact hK12 false h
  replace h := cond_f hb h
  refine W.skip ?_
  refine W.weak [0, 1, 2, 7, 8] [] [] [] (env' := [(0, .int .i64 a1), (1, l40 none a2), (2, l98 none a3), (7, .bool w8.1), (8, .int .i64 w8.2)]) (by kernel_rfl) ?_
  refine W.seq ?_
  refine W.join (σ := (Bool)) (fun s => [(6, .bool s)]) (fun s => (lw1_DependChecks_j15) s = some r) (fun s h => ?_) (fun hK15 => ?_)
  · obtain ⟨v18, rfl⟩ : ∃ x, x = s := ⟨s, rfl⟩
    have h : (lw1_DependChecks_j15) v18 = some r := h
    unfold lw1_DependChecks_j15 at h
    refine W.weak [6] [] [] [] (env' := [(6, .bool v18)]) (by kernel_rfl) ?_
    have hr : aresults Try.prog Try.f7 [(6, .bool v18)] = some (.bool v18) := by kernel_rfl
    cases h
    exact W.ret hr
  refine W.region (by kernel_rfl) ?_
  obtain ⟨w16, hw16, h⟩ := bind_some h
  refine WO.callK 4 (F := 29) (l := [.int .i64 a1, l40 none a2, l98 none a3]) (C := []) (r := .bool w16) (by kernel_rfl) (by kernel_rfl) (run_rf1_Proof a1 a2 a3 w16 hw16) (e1 := [(0, .int .i64 a1), (1, l40 none a2), (2, l98 none a3), (7, .bool w8.1), (8, .int .i64 w8.2), (31, .bool w8.1), (32, .int .i64 a1), (33, l40 none a2), (34, l98 none a3), (35, .bool w16)]) (by kernel_rfl) ?_
  refine WO.boolK 2 (fun b => [(0, .int .i64 a1), (1, l40 none a2), (2, l98 none a3), (7, .bool w8.1), (8, .int .i64 w8.2), (31, .bool w8.1), (32, .int .i64 a1), (33, l40 none a2), (34, l98 none a3), (35, .bool w16), (36, .bool b), (37, .bool b)]) (w8.1 == w16) (by kernel_rfl) (fun hb => ?_) (fun hb => ?_)
  · replace h := cond_t hb h
    refine WO.boolK 4 (fun b => [(0, .int .i64 a1), (1, l40 none a2), (2, l98 none a3), (7, .bool w8.1), (8, .int .i64 w8.2), (31, .bool w8.1), (32, .int .i64 a1), (33, l40 none a2), (34, l98 none a3), (35, .bool w16), (36, .bool true), (37, .bool true), (38, .int .i64 w8.2), (39, .bool b), (40, .bool b), (41, .bool b)]) (w8.2 == 0) (by kernel_rfl) (fun hb => ?_) (fun hb => ?_)
    · replace h := cond_t hb h
      obtain ⟨w17, hw17, h⟩ := bind_some h
      refine WO.callK 0 (F := 21) (l := []) (C := []) (r := .bool w17) (by kernel_rfl) (by kernel_rfl) (run_lw1_awake fuel w17 hw17) (e1 := [(0, .int .i64 a1), (1, l40 none a2), (2, l98 none a3), (7, .bool w8.1), (8, .int .i64 w8.2), (31, .bool w8.1), (32, .int .i64 a1), (33, l40 none a2), (34, l98 none a3), (35, .bool w16), (36, .bool true), (37, .bool true), (38, .int .i64 w8.2), (39, .bool true), (40, .bool true), (41, .bool true), (42, .bool w17)]) (by kernel_rfl) ?_
      refine WO.fin [6] [] [] [] (e2 := [(6, .bool w17)]) (by kernel_rfl) (fun _ h => h) ?_
      exact hK15 w17 h
    replace h := cond_f hb h
    refine WO.fin [6] [] [] [] (e2 := [(6, .bool false)]) (by kernel_rfl) (fun _ h => h) ?_
    exact hK15 false h
  replace h := cond_f hb h
  refine WO.fin [6] [] [] [] (e2 := [(6, .bool false)]) (by kernel_rfl) (fun _ h => h) ?_
  exact hK15 false h

end Go.AM
