/- PRINTED by gen.py: pure functions and the proofs that the code computes them. No statement of the seat is proved here. -/
import Derived.Test.YtombfedoinhafaaK141
set_option maxRecDepth 100000
set_option linter.unusedVariables false
set_option linter.unusedSimpArgs false
namespace Go.AM
open Go.Proofs
def rf1_Closure_j4 (v15 : Int) : Option Int :=
  (some v15)
def rf1_Closure_j7 (N1 : (Int → Option Int)) (v14 : Int) : Option Int :=
  (N1 v14)
def rf1_Closure_j10 (N2 : (Int → Option Int)) (v13 : Int) : Option Int :=
  (N2 v13)
def rf1_Closure_l2 (K7 : (Int → Option Int)) : List rf1Dep → Nat → Int → Option Int
  | [], k2, v9 => (K7 v9)
  | x2 :: r2, k2, v9 => (bif ((iAndNot .i64 x2.f_From v9) == 0) then ((rf1_Closure_j10 (rf1_Closure_l2 K7 r2 (k2 + 1))) (iOr .i64 v9 x2.f_To)) else ((rf1_Closure_j10 (rf1_Closure_l2 K7 r2 (k2 + 1))) v9))
def rf1_Closure_l1 (a1 : (List rf1Dep)) (K4 : (Int → Option Int)) : List rf1Dep → Nat → Int → Option Int
  | [], k1, v6 => (K4 v6)
  | x1 :: r1, k1, v6 => (chk (lenOk a1) (rf1_Closure_l2 (rf1_Closure_j7 (rf1_Closure_l1 a1 K4 r1 (k1 + 1))) a1 0 v6))
def rf1_Closure (a1 : (List rf1Dep)) (a2 : Int) : Option Int :=
  (chk (lenOk a1) (rf1_Closure_l1 a1 (rf1_Closure_j4) a1 0 a2))
theorem run_rf1_Closure (a1 : (List rf1Dep)) (a2 : Int) (r : Int) (h : rf1_Closure a1 a2 = some r) : Run Try.prog (.call 38 [l40 none a1, .int .i64 a2] (.int .i64 r)) := by
  refine call_of_W Try.func38 rfl (by kernel_rfl) (env0 := [(0, l40 none a1), (1, .int .i64 a2)]) (by kernel_rfl) ?_
  unfold rf1_Closure at h
  refine W.seq ?_
  refine W.regT [0, 1] [] [] [] (e2 := [(0, l40 none a1), (1, .int .i64 a2)]) (by kernel_rfl) (by kernel_rfl) (fun _ h => h) ?_
  refine W.seq ?_
  refine W.join (σ := (Int)) (fun s => [(1, .int .i64 s)]) (fun s => (rf1_Closure_j4) s = some r) (fun s h => ?_) (fun hK4 => ?_)
  · obtain ⟨v15, rfl⟩ : ∃ x, x = s := ⟨s, rfl⟩
    have h : (rf1_Closure_j4) v15 = some r := h
    unfold rf1_Closure_j4 at h
    refine W.seq ?_
    refine W.regT [4] [] [] [] (e2 := [(4, .int .i64 v15)]) (by kernel_rfl) (by kernel_rfl) (fun _ h => h) ?_
    refine W.weak [4] [] [] [] (env' := [(4, .int .i64 v15)]) (by kernel_rfl) ?_
    have hr : aresults Try.prog Try.f38 [(4, .int .i64 v15)] = some (.int .i64 v15) := by kernel_rfl
    cases h
    exact W.ret hr
  refine W.seq ?_
  refine W.region (by kernel_rfl) ?_
  refine WO.pureK 1 (some (.int .i64 ((List.map e_rf1Dep a1).length : Int))) (v := .int .i64 (a1.length : Int)) (by kernel_rfl) (by rw [List.length_map]) (e1 := [(0, l40 none a1), (1, .int .i64 a2), (7, l40 none a1), (8, .int .i64 (a1.length : Int))]) (by kernel_rfl) ?_
  refine WO.fin [0, 1, 8, 9] [] [] [] (e2 := [(0, l40 none a1), (1, .int .i64 a2), (8, .int .i64 (a1.length : Int)), (9, .int .i64 0)]) (by kernel_rfl) (fun _ h => h) ?_
  refine W.block ?_
  obtain ⟨hl1, h⟩ := chk_some h
  refine W.weak [0, 1, 8, 9] [] [] [] (env' := [(0, l40 none a1), (1, .int .i64 a2), (8, .int .i64 (a1.length : Int)), (9, .int .i64 ((0 : Nat) : Int))]) (by kernel_rfl) ?_
  refine W.range (σ := (Int)) a1 (fun k1 s => [(0, l40 none a1), (1, .int .i64 s), (8, .int .i64 (a1.length : Int)), (9, .int .i64 (k1 : Int))]) (fun r0 k0 s => rf1_Closure_l1 a1 (rf1_Closure_j4) r0 k0 s = some r) (fun s h => ?_) (fun x1 r1 k1 s hx1 hk1 h hN1 => ?_) a2 h
  · obtain ⟨v6, rfl⟩ : ∃ x, x = s := ⟨s, rfl⟩
    have h : rf1_Closure_l1 a1 (rf1_Closure_j4) [] (a1).length v6 = some r := h
    rw [rf1_Closure_l1.eq_1] at h
    refine W.seq ?_
    refine W.region (by kernel_rfl) ?_
    refine WO.pureK 0 (some (.bool (decide (((a1).length : Int) < (a1.length : Int))))) (v := .bool false) (by kernel_rfl) (by rw [lt_false (l := a1)]) (e1 := [(0, l40 none a1), (1, .int .i64 v6), (8, .int .i64 (a1.length : Int)), (9, .int .i64 ((a1).length : Int)), (10, .bool false)]) (by kernel_rfl) ?_
    refine WO.fin ([0, 1, 8, 9, 10]) [] [] [] (e2 := [(0, l40 none a1), (1, .int .i64 v6), (8, .int .i64 (a1.length : Int)), (9, .int .i64 ((a1).length : Int)), (10, .bool false)]) (by kernel_rfl) (fun _ h => h) ?_
    refine W.seq ?_
    refine W.condB false (by kernel_rfl) (fun h => Bool.noConfusion h) (fun _ => ?_)
    refine W.exit ?_
    refine W.weak [1] [] [] [] (env' := [(1, .int .i64 v6)]) (by kernel_rfl) ?_
    exact hK4 v6 h
  · obtain ⟨v6, rfl⟩ : ∃ x, x = s := ⟨s, rfl⟩
    have h : rf1_Closure_l1 a1 (rf1_Closure_j4) (x1 :: r1) k1 v6 = some r := h
    rw [rf1_Closure_l1.eq_2] at h
    refine W.seq ?_
    refine W.region (by kernel_rfl) ?_
    refine WO.pureK 0 (some (.bool (decide ((k1 : Int) < (a1.length : Int))))) (v := .bool true) (by kernel_rfl) (by rw [lt_true hk1]) (e1 := [(0, l40 none a1), (1, .int .i64 v6), (8, .int .i64 (a1.length : Int)), (9, .int .i64 (k1 : Int)), (10, .bool true)]) (by kernel_rfl) ?_
    refine WO.fin ([0, 1, 8, 9, 10]) [] [] [] (e2 := [(0, l40 none a1), (1, .int .i64 v6), (8, .int .i64 (a1.length : Int)), (9, .int .i64 (k1 : Int)), (10, .bool true)]) (by kernel_rfl) (fun _ h => h) ?_
    refine W.seq ?_
    refine W.condB true (by kernel_rfl) (fun _ => ?_) (fun h => Bool.noConfusion h)
    refine W.skip ?_
    refine W.weak [0, 1, 8, 9] [] [] [] (env' := [(0, l40 none a1), (1, .int .i64 v6), (8, .int .i64 (a1.length : Int)), (9, .int .i64 (k1 : Int))]) (by kernel_rfl) ?_
    refine W.seq ?_
    refine W.join (σ := (Int)) (fun s => [(0, l40 none a1), (1, .int .i64 s), (8, .int .i64 (a1.length : Int)), (9, .int .i64 (k1 : Int))]) (fun s => (rf1_Closure_j7 (rf1_Closure_l1 a1 (rf1_Closure_j4) r1 (k1 + 1))) s = some r) (fun s h => ?_) (fun hK7 => ?_)
    · obtain ⟨v14, rfl⟩ : ∃ x, x = s := ⟨s, rfl⟩
      have h : (rf1_Closure_j7 (rf1_Closure_l1 a1 (rf1_Closure_j4) r1 (k1 + 1))) v14 = some r := h
      unfold rf1_Closure_j7 at h
      refine W.region (by kernel_rfl) ?_
      refine WO.pureK 0 (some (.int .i64 (IntKind.wrap .i64 ((k1 : Int) + 1)))) (v := .int .i64 ((k1 + 1 : Nat) : Int)) (by kernel_rfl) (by rw [wrap_succ hl1 hk1]) (e1 := [(0, l40 none a1), (1, .int .i64 v14), (8, .int .i64 (a1.length : Int)), (9, .int .i64 (k1 : Int)), (27, .int .i64 ((k1 + 1 : Nat) : Int))]) (by kernel_rfl) ?_
      refine WO.fin [0, 1, 8, 9] [] [] [] (e2 := [(0, l40 none a1), (1, .int .i64 v14), (8, .int .i64 (a1.length : Int)), (9, .int .i64 ((k1 + 1 : Nat) : Int))]) (by kernel_rfl) (fun _ h => h) ?_
      exact hN1 v14 h
    refine W.block ?_
    refine W.seq ?_
    refine W.region (by kernel_rfl) ?_
    refine WO.pureK 1 (some (.int .i64 ((List.map e_rf1Dep a1).length : Int))) (v := .int .i64 (a1.length : Int)) (by kernel_rfl) (by rw [List.length_map]) (e1 := [(0, l40 none a1), (1, .int .i64 v6), (8, .int .i64 (a1.length : Int)), (9, .int .i64 (k1 : Int)), (11, l40 none a1), (12, .int .i64 (a1.length : Int))]) (by kernel_rfl) ?_
    refine WO.fin [0, 1, 8, 9, 11, 12, 13] [] [] [] (e2 := [(0, l40 none a1), (1, .int .i64 v6), (8, .int .i64 (a1.length : Int)), (9, .int .i64 (k1 : Int)), (11, l40 none a1), (12, .int .i64 (a1.length : Int)), (13, .int .i64 0)]) (by kernel_rfl) (fun _ h => h) ?_
    refine W.block ?_
    obtain ⟨hl2, h⟩ := chk_some h
    refine W.weak [0, 1, 8, 9, 11, 12, 13] [] [] [] (env' := [(0, l40 none a1), (1, .int .i64 v6), (8, .int .i64 (a1.length : Int)), (9, .int .i64 (k1 : Int)), (11, l40 none a1), (12, .int .i64 (a1.length : Int)), (13, .int .i64 ((0 : Nat) : Int))]) (by kernel_rfl) ?_
    refine W.range (σ := (Int)) a1 (fun k2 s => [(0, l40 none a1), (1, .int .i64 s), (8, .int .i64 (a1.length : Int)), (9, .int .i64 (k1 : Int)), (11, l40 none a1), (12, .int .i64 (a1.length : Int)), (13, .int .i64 (k2 : Int))]) (fun r0 k0 s => rf1_Closure_l2 (rf1_Closure_j7 (rf1_Closure_l1 a1 (rf1_Closure_j4) r1 (k1 + 1))) r0 k0 s = some r) (fun s h => ?_) (fun x2 r2 k2 s hx2 hk2 h hN2 => ?_) v6 h
    · obtain ⟨v9, rfl⟩ : ∃ x, x = s := ⟨s, rfl⟩
      have h : rf1_Closure_l2 (rf1_Closure_j7 (rf1_Closure_l1 a1 (rf1_Closure_j4) r1 (k1 + 1))) [] (a1).length v9 = some r := h
      rw [rf1_Closure_l2.eq_1] at h
      refine W.seq ?_
      refine W.region (by kernel_rfl) ?_
      refine WO.pureK 0 (some (.bool (decide (((a1).length : Int) < (a1.length : Int))))) (v := .bool false) (by kernel_rfl) (by rw [lt_false (l := a1)]) (e1 := [(0, l40 none a1), (1, .int .i64 v9), (8, .int .i64 (a1.length : Int)), (9, .int .i64 (k1 : Int)), (11, l40 none a1), (12, .int .i64 (a1.length : Int)), (13, .int .i64 ((a1).length : Int)), (14, .bool false)]) (by kernel_rfl) ?_
      refine WO.fin ([0, 1, 8, 9, 11, 12, 13, 14]) [] [] [] (e2 := [(0, l40 none a1), (1, .int .i64 v9), (8, .int .i64 (a1.length : Int)), (9, .int .i64 (k1 : Int)), (11, l40 none a1), (12, .int .i64 (a1.length : Int)), (13, .int .i64 ((a1).length : Int)), (14, .bool false)]) (by kernel_rfl) (fun _ h => h) ?_
      refine W.seq ?_
      refine W.condB false (by kernel_rfl) (fun h => Bool.noConfusion h) (fun _ => ?_)
      refine W.exit ?_
      refine W.weak [0, 1, 8, 9] [] [] [] (env' := [(0, l40 none a1), (1, .int .i64 v9), (8, .int .i64 (a1.length : Int)), (9, .int .i64 (k1 : Int))]) (by kernel_rfl) ?_
      exact hK7 v9 h
    · obtain ⟨v9, rfl⟩ : ∃ x, x = s := ⟨s, rfl⟩
      have h : rf1_Closure_l2 (rf1_Closure_j7 (rf1_Closure_l1 a1 (rf1_Closure_j4) r1 (k1 + 1))) (x2 :: r2) k2 v9 = some r := h
      rw [rf1_Closure_l2.eq_2] at h
      refine W.seq ?_
      refine W.region (by kernel_rfl) ?_
      refine WO.pureK 0 (some (.bool (decide ((k2 : Int) < (a1.length : Int))))) (v := .bool true) (by kernel_rfl) (by rw [lt_true hk2]) (e1 := [(0, l40 none a1), (1, .int .i64 v9), (8, .int .i64 (a1.length : Int)), (9, .int .i64 (k1 : Int)), (11, l40 none a1), (12, .int .i64 (a1.length : Int)), (13, .int .i64 (k2 : Int)), (14, .bool true)]) (by kernel_rfl) ?_
      refine WO.fin ([0, 1, 8, 9, 11, 12, 13, 14]) [] [] [] (e2 := [(0, l40 none a1), (1, .int .i64 v9), (8, .int .i64 (a1.length : Int)), (9, .int .i64 (k1 : Int)), (11, l40 none a1), (12, .int .i64 (a1.length : Int)), (13, .int .i64 (k2 : Int)), (14, .bool true)]) (by kernel_rfl) (fun _ h => h) ?_
      refine W.seq ?_
      refine W.condB true (by kernel_rfl) (fun _ => ?_) (fun h => Bool.noConfusion h)
      refine W.skip ?_
      refine W.weak [0, 1, 8, 9, 11, 12, 13] [] [] [] (env' := [(0, l40 none a1), (1, .int .i64 v9), (8, .int .i64 (a1.length : Int)), (9, .int .i64 (k1 : Int)), (11, l40 none a1), (12, .int .i64 (a1.length : Int)), (13, .int .i64 (k2 : Int))]) (by kernel_rfl) ?_
      refine W.seq ?_
      refine W.join (σ := (Int)) (fun s => [(0, l40 none a1), (1, .int .i64 s), (8, .int .i64 (a1.length : Int)), (9, .int .i64 (k1 : Int)), (11, l40 none a1), (12, .int .i64 (a1.length : Int)), (13, .int .i64 (k2 : Int))]) (fun s => (rf1_Closure_j10 (rf1_Closure_l2 (rf1_Closure_j7 (rf1_Closure_l1 a1 (rf1_Closure_j4) r1 (k1 + 1))) r2 (k2 + 1))) s = some r) (fun s h => ?_) (fun hK10 => ?_)
      · obtain ⟨v13, rfl⟩ : ∃ x, x = s := ⟨s, rfl⟩
        have h : (rf1_Closure_j10 (rf1_Closure_l2 (rf1_Closure_j7 (rf1_Closure_l1 a1 (rf1_Closure_j4) r1 (k1 + 1))) r2 (k2 + 1))) v13 = some r := h
        unfold rf1_Closure_j10 at h
        refine W.region (by kernel_rfl) ?_
        refine WO.pureK 0 (some (.int .i64 (IntKind.wrap .i64 ((k2 : Int) + 1)))) (v := .int .i64 ((k2 + 1 : Nat) : Int)) (by kernel_rfl) (by rw [wrap_succ hl2 hk2]) (e1 := [(0, l40 none a1), (1, .int .i64 v13), (8, .int .i64 (a1.length : Int)), (9, .int .i64 (k1 : Int)), (11, l40 none a1), (12, .int .i64 (a1.length : Int)), (13, .int .i64 (k2 : Int)), (26, .int .i64 ((k2 + 1 : Nat) : Int))]) (by kernel_rfl) ?_
        refine WO.fin [0, 1, 8, 9, 11, 12, 13] [] [] [] (e2 := [(0, l40 none a1), (1, .int .i64 v13), (8, .int .i64 (a1.length : Int)), (9, .int .i64 (k1 : Int)), (11, l40 none a1), (12, .int .i64 (a1.length : Int)), (13, .int .i64 ((k2 + 1 : Nat) : Int))]) (by kernel_rfl) (fun _ h => h) ?_
        exact hN2 v13 h
      refine W.block ?_
      refine W.seq ?_
      refine W.region (by kernel_rfl) ?_
      refine WO.pureK 0 (if (0 : Int) ≤ (k2 : Int) then ((List.map e_rf1Dep a1)[Int.toNat (k2 : Int)]?).map AV.ptr else none) (v := .ptr (.agg [.int .i64 x2.f_From, .int .i64 x2.f_To])) (by kernel_rfl) (idx_nat (f := e_rf1Dep) hx2) (e1 := [(0, l40 none a1), (1, .int .i64 v9), (8, .int .i64 (a1.length : Int)), (9, .int .i64 (k1 : Int)), (11, l40 none a1), (12, .int .i64 (a1.length : Int)), (13, .int .i64 (k2 : Int)), (15, .ptr (.agg [.int .i64 x2.f_From, .int .i64 x2.f_To]))]) (by kernel_rfl) ?_
      refine WO.fin [0, 1, 6, 8, 9, 11, 12, 13] [6] [] [] (e2 := [(0, l40 none a1), (1, .int .i64 v9), (6, .ptr (.agg [.int .i64 x2.f_From, .int .i64 x2.f_To])), (8, .int .i64 (a1.length : Int)), (9, .int .i64 (k1 : Int)), (11, l40 none a1), (12, .int .i64 (a1.length : Int)), (13, .int .i64 (k2 : Int))]) (by kernel_rfl) (fun _ h => h) ?_
      refine W.seq ?_
      refine W.regT [0, 1, 6, 8, 9, 11, 12, 13, 21] [] [] [] (e2 := [(0, l40 none a1), (1, .int .i64 v9), (6, .ptr (.agg [.int .i64 x2.f_From, .int .i64 x2.f_To])), (8, .int .i64 (a1.length : Int)), (9, .int .i64 (k1 : Int)), (11, l40 none a1), (12, .int .i64 (a1.length : Int)), (13, .int .i64 (k2 : Int)), (21, .bool ((iAndNot .i64 x2.f_From v9) == 0))]) (by kernel_rfl) (by kernel_rfl) (fun _ h => h) ?_
      refine W.condB ((iAndNot .i64 x2.f_From v9) == 0) (by kernel_rfl) (fun hb => ?_) (fun hb => ?_)
      · replace h := cond_t hb h
        refine W.regT [0, 1, 8, 9, 11, 12, 13] [] [] [] (e2 := [(0, l40 none a1), (1, .int .i64 (iOr .i64 v9 x2.f_To)), (8, .int .i64 (a1.length : Int)), (9, .int .i64 (k1 : Int)), (11, l40 none a1), (12, .int .i64 (a1.length : Int)), (13, .int .i64 (k2 : Int))]) (by kernel_rfl) (by kernel_rfl) (fun _ h => h) ?_
        exact hK10 (iOr .i64 v9 x2.f_To) h
      replace h := cond_f hb h
      refine W.skip ?_
      refine W.weak [0, 1, 8, 9, 11, 12, 13] [] [] [] (env' := [(0, l40 none a1), (1, .int .i64 v9), (8, .int .i64 (a1.length : Int)), (9, .int .i64 (k1 : Int)), (11, l40 none a1), (12, .int .i64 (a1.length : Int)), (13, .int .i64 (k2 : Int))]) (by kernel_rfl) ?_
      exact hK10 v9 h
def rf1_Violation_j4 (v15 : Int) (v16 : Int) : Option (rf1Dep × Int) :=
  (some ((rf1Dep.mk 0 0), 5))
def rf1_Violation_j12 (k1 : Nat) (a2 : Int) (v6 : Int) (v7 : Int) (w11 : Int) (N1 : (Int → Int → Option (rf1Dep × Int))) (v13 : Bool) : Option (rf1Dep × Int) :=
  (bif v13 then (some ((rf1Dep.mk (k1 : Int) (iAndNot .i64 (iAnd .i64 w11 a2) (k1 : Int))), 0)) else (N1 v6 v7))
def rf1_Violation_l1 (a1 : (List rf1Dep)) (a2 : Int) (K4 : (Int → Int → Option (rf1Dep × Int))) : List Nat → Nat → Int → Int → Option (rf1Dep × Int)
  | [], k1, v6, v7 => (K4 v6 v7)
  | x1 :: r1, k1, v6, v7 => ((rf1_Closure a1 (k1 : Int)).bind fun w11 => (bif ((iAndNot .i64 (k1 : Int) a2) == 0) then (bif ((iAndNot .i64 a2 w11) != 0) then ((rf1_Violation_j12 k1 a2 v6 v7 w11 (rf1_Violation_l1 a1 a2 K4 r1 (k1 + 1))) ((iAndNot .i64 (iAnd .i64 w11 a2) (k1 : Int)) != 0)) else ((rf1_Violation_j12 k1 a2 v6 v7 w11 (rf1_Violation_l1 a1 a2 K4 r1 (k1 + 1))) false)) else ((rf1_Violation_j12 k1 a2 v6 v7 w11 (rf1_Violation_l1 a1 a2 K4 r1 (k1 + 1))) false)))
def rf1_Violation (a1 : (List rf1Dep)) (a2 : Int) : Option (rf1Dep × Int) :=
  (chk (lenOk (List.range (Int.toNat (IntKind.wrap .i64 (a2 + 1))))) (rf1_Violation_l1 a1 a2 (rf1_Violation_j4) (List.range (Int.toNat (IntKind.wrap .i64 (a2 + 1)))) 0 0 0))
theorem run_rf1_Violation (a1 : (List rf1Dep)) (a2 : Int) (r : (rf1Dep × Int)) (h : rf1_Violation a1 a2 = some r) : Run Try.prog (.call 47 [l40 none a1, .int .i64 a2] (.tup [.agg [.int .i64 r.1.f_From, .int .i64 r.1.f_To], .int .i64 r.2])) := by
  refine call_of_W Try.func47 rfl (by kernel_rfl) (env0 := [(0, l40 none a1), (1, .int .i64 a2)]) (by kernel_rfl) ?_
  unfold rf1_Violation at h
  refine W.seq ?_
  refine W.regT [0, 1, 4] [] [] [] (e2 := [(0, l40 none a1), (1, .int .i64 a2), (4, .box [.int .i64 0, .int .i64 0])]) (by kernel_rfl) (by kernel_rfl) (fun _ h => h) ?_
  refine W.seq ?_
  refine W.join (σ := (Int × Int)) (fun s => [(4, .box [.int .i64 s.1, .int .i64 s.2])]) (fun s => (rf1_Violation_j4) s.1 s.2 = some r) (fun s h => ?_) (fun hK4 => ?_)
  · obtain ⟨v15, v16⟩ := s
    have h : (rf1_Violation_j4) v15 v16 = some r := h
    unfold rf1_Violation_j4 at h
    refine W.seq ?_
    refine W.regT [4, 5] [] [] [] (e2 := [(4, .box [.int .i64 0, .int .i64 0]), (5, .int .i64 5)]) (by kernel_rfl) (by kernel_rfl) (fun _ h => h) ?_
    refine W.weak [4, 5] [] [] [] (env' := [(4, .box [.int .i64 0, .int .i64 0]), (5, .int .i64 5)]) (by kernel_rfl) ?_
    have hr : aresults Try.prog Try.f47 [(4, .box [.int .i64 0, .int .i64 0]), (5, .int .i64 5)] = some (.tup [.agg [.int .i64 0, .int .i64 0], .int .i64 5]) := by kernel_rfl
    cases h
    exact W.ret hr
  refine W.seq ?_
  refine W.regT [0, 1, 4, 9, 10] [] [] [] (e2 := [(0, l40 none a1), (1, .int .i64 a2), (4, .box [.int .i64 0, .int .i64 0]), (9, .int .i64 (IntKind.wrap .i64 (a2 + 1))), (10, .int .i64 0)]) (by kernel_rfl) (by kernel_rfl) (fun _ h => h) ?_
  refine W.block ?_
  obtain ⟨hl1, h⟩ := chk_some h
  refine W.weak [0, 1, 4, 9, 10] [] [] [] (env' := [(0, l40 none a1), (1, .int .i64 a2), (4, .box [.int .i64 0, .int .i64 0]), (9, .int .i64 (IntKind.wrap .i64 (a2 + 1))), (10, .int .i64 ((0 : Nat) : Int))]) (by kernel_rfl) ?_
  refine W.range (σ := (Int × Int)) (List.range (Int.toNat (IntKind.wrap .i64 (a2 + 1)))) (fun k1 s => [(0, l40 none a1), (1, .int .i64 a2), (4, .box [.int .i64 s.1, .int .i64 s.2]), (9, .int .i64 (IntKind.wrap .i64 (a2 + 1))), (10, .int .i64 (k1 : Int))]) (fun r0 k0 s => rf1_Violation_l1 a1 a2 (rf1_Violation_j4) r0 k0 s.1 s.2 = some r) (fun s h => ?_) (fun x1 r1 k1 s hx1 hk1 h hN1 => ?_) (0, 0) h
  · obtain ⟨v6, v7⟩ := s
    have h : rf1_Violation_l1 a1 a2 (rf1_Violation_j4) [] ((List.range (Int.toNat (IntKind.wrap .i64 (a2 + 1))))).length v6 v7 = some r := h
    rw [rf1_Violation_l1.eq_1] at h
    refine W.seq ?_
    refine W.region (by kernel_rfl) ?_
    refine WO.pureK 0 (some (.bool (decide ((((List.range (Int.toNat (IntKind.wrap .i64 (a2 + 1))))).length : Int) < (IntKind.wrap .i64 (a2 + 1)))))) (v := .bool false) (by kernel_rfl) (by rw [ltr_false (n := (IntKind.wrap .i64 (a2 + 1)))]) (e1 := [(0, l40 none a1), (1, .int .i64 a2), (4, .box [.int .i64 v6, .int .i64 v7]), (9, .int .i64 (IntKind.wrap .i64 (a2 + 1))), (10, .int .i64 (((List.range (Int.toNat (IntKind.wrap .i64 (a2 + 1))))).length : Int)), (11, .bool false)]) (by kernel_rfl) ?_
    refine WO.fin ([0, 1, 4, 9, 10, 11]) [] [] [] (e2 := [(0, l40 none a1), (1, .int .i64 a2), (4, .box [.int .i64 v6, .int .i64 v7]), (9, .int .i64 (IntKind.wrap .i64 (a2 + 1))), (10, .int .i64 (((List.range (Int.toNat (IntKind.wrap .i64 (a2 + 1))))).length : Int)), (11, .bool false)]) (by kernel_rfl) (fun _ h => h) ?_
    refine W.seq ?_
    refine W.condB false (by kernel_rfl) (fun h => Bool.noConfusion h) (fun _ => ?_)
    refine W.exit ?_
    refine W.weak [4] [] [] [] (env' := [(4, .box [.int .i64 v6, .int .i64 v7])]) (by kernel_rfl) ?_
    exact hK4 (v6, v7) h
  · obtain ⟨v6, v7⟩ := s
    have h : rf1_Violation_l1 a1 a2 (rf1_Violation_j4) (x1 :: r1) k1 v6 v7 = some r := h
    rw [rf1_Violation_l1.eq_2] at h
    refine W.seq ?_
    refine W.region (by kernel_rfl) ?_
    refine WO.pureK 0 (some (.bool (decide ((k1 : Int) < (IntKind.wrap .i64 (a2 + 1)))))) (v := .bool true) (by kernel_rfl) (by rw [ltr_true hk1]) (e1 := [(0, l40 none a1), (1, .int .i64 a2), (4, .box [.int .i64 v6, .int .i64 v7]), (9, .int .i64 (IntKind.wrap .i64 (a2 + 1))), (10, .int .i64 (k1 : Int)), (11, .bool true)]) (by kernel_rfl) ?_
    refine WO.fin ([0, 1, 4, 9, 10, 11]) [] [] [] (e2 := [(0, l40 none a1), (1, .int .i64 a2), (4, .box [.int .i64 v6, .int .i64 v7]), (9, .int .i64 (IntKind.wrap .i64 (a2 + 1))), (10, .int .i64 (k1 : Int)), (11, .bool true)]) (by kernel_rfl) (fun _ h => h) ?_
    refine W.seq ?_
    refine W.condB true (by kernel_rfl) (fun _ => ?_) (fun h => Bool.noConfusion h)
    refine W.skip ?_
    refine W.weak [0, 1, 4, 9, 10] [] [] [] (env' := [(0, l40 none a1), (1, .int .i64 a2), (4, .box [.int .i64 v6, .int .i64 v7]), (9, .int .i64 (IntKind.wrap .i64 (a2 + 1))), (10, .int .i64 (k1 : Int))]) (by kernel_rfl) ?_
    refine W.seq ?_
    refine W.block ?_
    refine W.seq ?_
    refine W.regT [0, 1, 4, 6, 9, 10] [] [] [] (e2 := [(0, l40 none a1), (1, .int .i64 a2), (4, .box [.int .i64 v6, .int .i64 v7]), (6, .int .i64 (k1 : Int)), (9, .int .i64 (IntKind.wrap .i64 (a2 + 1))), (10, .int .i64 (k1 : Int))]) (by kernel_rfl) (by kernel_rfl) (fun _ h => h) ?_
    refine W.seq ?_
    refine W.region (by kernel_rfl) ?_
    obtain ⟨w11, hw11, h⟩ := bind_some h
    refine WO.callK 2 (F := 38) (l := [l40 none a1, .int .i64 (k1 : Int)]) (C := []) (r := .int .i64 w11) (by kernel_rfl) (by kernel_rfl) (run_rf1_Closure a1 (k1 : Int) w11 hw11) (e1 := [(0, l40 none a1), (1, .int .i64 a2), (4, .box [.int .i64 v6, .int .i64 v7]), (6, .int .i64 (k1 : Int)), (9, .int .i64 (IntKind.wrap .i64 (a2 + 1))), (10, .int .i64 (k1 : Int)), (13, l40 none a1), (14, .int .i64 (k1 : Int)), (15, .int .i64 w11)]) (by kernel_rfl) ?_
    refine WO.fin [0, 1, 4, 6, 7, 9, 10] [] [] [] (e2 := [(0, l40 none a1), (1, .int .i64 a2), (4, .box [.int .i64 v6, .int .i64 v7]), (6, .int .i64 (k1 : Int)), (7, .int .i64 w11), (9, .int .i64 (IntKind.wrap .i64 (a2 + 1))), (10, .int .i64 (k1 : Int))]) (by kernel_rfl) (fun _ h => h) ?_
    refine W.seq ?_
    refine W.join (σ := (Bool)) (fun s => [(0, l40 none a1), (1, .int .i64 a2), (4, .box [.int .i64 v6, .int .i64 v7]), (6, .int .i64 (k1 : Int)), (7, .int .i64 w11), (9, .int .i64 (IntKind.wrap .i64 (a2 + 1))), (10, .int .i64 (k1 : Int)), (33, .bool s)]) (fun s => (rf1_Violation_j12 k1 a2 v6 v7 w11 (rf1_Violation_l1 a1 a2 (rf1_Violation_j4) r1 (k1 + 1))) s = some r) (fun s h => ?_) (fun hK12 => ?_)
    · obtain ⟨v13, rfl⟩ : ∃ x, x = s := ⟨s, rfl⟩
      have h : (rf1_Violation_j12 k1 a2 v6 v7 w11 (rf1_Violation_l1 a1 a2 (rf1_Violation_j4) r1 (k1 + 1))) v13 = some r := h
      unfold rf1_Violation_j12 at h
      refine W.condB v13 (by kernel_rfl) (fun hb => ?_) (fun hb => ?_)
      · replace h := cond_t hb h
        refine W.seq ?_
        refine W.regT [4, 5] [] [] [] (e2 := [(4, .box [.int .i64 (k1 : Int), .int .i64 (iAndNot .i64 (iAnd .i64 w11 a2) (k1 : Int))]), (5, .int .i64 0)]) (by kernel_rfl) (by kernel_rfl) (fun _ h => h) ?_
        refine W.weak [4, 5] [] [] [] (env' := [(4, .box [.int .i64 (k1 : Int), .int .i64 (iAndNot .i64 (iAnd .i64 w11 a2) (k1 : Int))]), (5, .int .i64 0)]) (by kernel_rfl) ?_
        have hr : aresults Try.prog Try.f47 [(4, .box [.int .i64 (k1 : Int), .int .i64 (iAndNot .i64 (iAnd .i64 w11 a2) (k1 : Int))]), (5, .int .i64 0)] = some (.tup [.agg [.int .i64 (k1 : Int), .int .i64 (iAndNot .i64 (iAnd .i64 w11 a2) (k1 : Int))], .int .i64 0]) := by kernel_rfl
        cases h
        exact W.ret hr
      replace h := cond_f hb h
      refine W.skip ?_
      refine W.weak [0, 1, 4, 9, 10] [] [] [] (env' := [(0, l40 none a1), (1, .int .i64 a2), (4, .box [.int .i64 v6, .int .i64 v7]), (9, .int .i64 (IntKind.wrap .i64 (a2 + 1))), (10, .int .i64 (k1 : Int))]) (by kernel_rfl) ?_
      refine W.region (by kernel_rfl) ?_
      refine WO.pureK 0 (some (.int .i64 (IntKind.wrap .i64 ((k1 : Int) + 1)))) (v := .int .i64 ((k1 + 1 : Nat) : Int)) (by kernel_rfl) (by rw [wrap_succ hl1 hk1]) (e1 := [(0, l40 none a1), (1, .int .i64 a2), (4, .box [.int .i64 v6, .int .i64 v7]), (9, .int .i64 (IntKind.wrap .i64 (a2 + 1))), (10, .int .i64 (k1 : Int)), (41, .int .i64 ((k1 + 1 : Nat) : Int))]) (by kernel_rfl) ?_
      refine WO.fin [0, 1, 4, 9, 10] [] [] [] (e2 := [(0, l40 none a1), (1, .int .i64 a2), (4, .box [.int .i64 v6, .int .i64 v7]), (9, .int .i64 (IntKind.wrap .i64 (a2 + 1))), (10, .int .i64 ((k1 + 1 : Nat) : Int))]) (by kernel_rfl) (fun _ h => h) ?_
      exact hN1 (v6, v7) h
    refine W.region (by kernel_rfl) ?_
    refine WO.boolK 5 (fun b => [(0, l40 none a1), (1, .int .i64 a2), (4, .box [.int .i64 v6, .int .i64 v7]), (6, .int .i64 (k1 : Int)), (7, .int .i64 w11), (9, .int .i64 (IntKind.wrap .i64 (a2 + 1))), (10, .int .i64 (k1 : Int)), (16, .int .i64 (k1 : Int)), (17, .int .i64 a2), (18, .int .i64 (iAndNot .i64 (k1 : Int) a2)), (19, .bool b), (20, .bool b)]) ((iAndNot .i64 (k1 : Int) a2) == 0) (by kernel_rfl) (fun hb => ?_) (fun hb => ?_)
    · replace h := cond_t hb h
      refine WO.boolK 6 (fun b => [(0, l40 none a1), (1, .int .i64 a2), (4, .box [.int .i64 v6, .int .i64 v7]), (6, .int .i64 (k1 : Int)), (7, .int .i64 w11), (9, .int .i64 (IntKind.wrap .i64 (a2 + 1))), (10, .int .i64 (k1 : Int)), (16, .int .i64 (k1 : Int)), (17, .int .i64 a2), (18, .int .i64 (iAndNot .i64 (k1 : Int) a2)), (19, .bool true), (20, .bool true), (21, .int .i64 a2), (22, .int .i64 w11), (23, .int .i64 (iAndNot .i64 a2 w11)), (24, .bool b), (25, .bool b), (26, .bool b)]) ((iAndNot .i64 a2 w11) != 0) (by kernel_rfl) (fun hb => ?_) (fun hb => ?_)
      · replace h := cond_t hb h
        refine WO.fin [0, 1, 4, 6, 7, 9, 10, 33] [] [] [] (e2 := [(0, l40 none a1), (1, .int .i64 a2), (4, .box [.int .i64 v6, .int .i64 v7]), (6, .int .i64 (k1 : Int)), (7, .int .i64 w11), (9, .int .i64 (IntKind.wrap .i64 (a2 + 1))), (10, .int .i64 (k1 : Int)), (33, .bool ((iAndNot .i64 (iAnd .i64 w11 a2) (k1 : Int)) != 0))]) (by kernel_rfl) (fun _ h => h) ?_
        exact hK12 ((iAndNot .i64 (iAnd .i64 w11 a2) (k1 : Int)) != 0) h
      replace h := cond_f hb h
      refine WO.fin [0, 1, 4, 6, 7, 9, 10, 33] [] [] [] (e2 := [(0, l40 none a1), (1, .int .i64 a2), (4, .box [.int .i64 v6, .int .i64 v7]), (6, .int .i64 (k1 : Int)), (7, .int .i64 w11), (9, .int .i64 (IntKind.wrap .i64 (a2 + 1))), (10, .int .i64 (k1 : Int)), (33, .bool false)]) (by kernel_rfl) (fun _ h => h) ?_
      exact hK12 false h
    replace h := cond_f hb h
    refine WO.fin [0, 1, 4, 6, 7, 9, 10, 33] [] [] [] (e2 := [(0, l40 none a1), (1, .int .i64 a2), (4, .box [.int .i64 v6, .int .i64 v7]), (6, .int .i64 (k1 : Int)), (7, .int .i64 w11), (9, .int .i64 (IntKind.wrap .i64 (a2 + 1))), (10, .int .i64 (k1 : Int)), (33, .bool false)]) (by kernel_rfl) (fun _ h => h) ?_
    exact hK12 false h
def rf1_Decompose_j6 (v27 : (List Int)) : Option (List Int) :=
  (some v27)
def rf1_Decompose_l1 (a2 : (List rf1Dep)) (K6 : ((List Int) → Option (List Int))) : Nat → (List Int) → Int → Option (List Int)
  | 0, _, _ => none
  | m1 + 1, v8, v9 => (bif (decide (v9 < (v8.length : Int))) then ((idx v8 v9).bind fun e13 => ((rf1_Violation a2 e13).bind fun w14 => (bif (w14.2 != 0) then ((rf1_Decompose_l1 a2 K6 m1) v8 (IntKind.wrap .i64 (v9 + 1))) else ((sub v8 0 v9).bind fun e19 => (chk (capOk 8 ((([] : (List Int)) ++ e19)).length) ((idx v8 v9).bind fun e22 => (chk (capOk 8 (((([] : (List Int)) ++ e19) ++ [(iOr .i64 w14.1.f_From w14.1.f_To), (iAndNot .i64 e22 w14.1.f_To)])).length) ((sub v8 (IntKind.wrap .i64 (v9 + 1)) (v8.length : Int)).bind fun e25 => (chk (capOk 8 ((((([] : (List Int)) ++ e19) ++ [(iOr .i64 w14.1.f_From w14.1.f_To), (iAndNot .i64 e22 w14.1.f_To)]) ++ e25)).length) ((rf1_Decompose_l1 a2 K6 m1) (((([] : (List Int)) ++ e19) ++ [(iOr .i64 w14.1.f_From w14.1.f_To), (iAndNot .i64 e22 w14.1.f_To)]) ++ e25) 0)))))))))) else (K6 v8))
def rf1_Decompose (fuel : Nat) (a1 : Int) (a2 : (List rf1Dep)) : Option (List Int) :=
  (chk (decide (0 ≤ a1)) (rf1_Decompose_l1 a2 (rf1_Decompose_j6) fuel [(IntKind.wrap .i64 ((iShl .i64 1 a1) - 1))] 0))
theorem run_rf1_Decompose (fuel : Nat) (a1 : Int) (a2 : (List rf1Dep)) (r : (List Int)) (h : rf1_Decompose fuel a1 a2 = some r) : Run Try.prog (.call 46 [.int .i64 a1, l40 none a2] (l3 (some 1) r)) := by
  refine call_of_W Try.func46 rfl (by kernel_rfl) (env0 := [(0, .int .i64 a1), (1, l40 none a2)]) (by kernel_rfl) ?_
  unfold rf1_Decompose at h
  refine W.seq ?_
  refine W.regT [0, 1] [] [] [] (e2 := [(0, .int .i64 a1), (1, l40 none a2)]) (by kernel_rfl) (by kernel_rfl) (fun _ h => h) ?_
  refine W.seq ?_
  refine W.region (by kernel_rfl) ?_
  obtain ⟨hc5, h⟩ := chk_some h
  refine WO.pureK 1 (if a1 < 0 then none else some (.int .i64 (iShl .i64 1 a1))) (v := .int .i64 (iShl .i64 1 a1)) (by kernel_rfl) (if_neg (not_lt_of_chk hc5)) (e1 := [(0, .int .i64 a1), (1, l40 none a2), (10, .int .i64 a1), (11, .int .i64 (iShl .i64 1 a1))]) (by kernel_rfl) ?_
  refine WO.fin [1, 5] [] [] [] (e2 := [(1, l40 none a2), (5, l3 (some 13) [(IntKind.wrap .i64 ((iShl .i64 1 a1) - 1))])]) (by kernel_rfl) (fun _ h => h) ?_
  refine W.seq ?_
  refine W.join (σ := ((List Int))) (fun s => [(5, l3 (some 10500) s)]) (fun s => (rf1_Decompose_j6) s = some r) (fun s h => ?_) (fun hK6 => ?_)
  · obtain ⟨v27, rfl⟩ : ∃ x, x = s := ⟨s, rfl⟩
    have h : (rf1_Decompose_j6) v27 = some r := h
    unfold rf1_Decompose_j6 at h
    refine W.seq ?_
    refine W.regT [4] [] [] [] (e2 := [(4, l3 (some 10500) v27)]) (by kernel_rfl) (by kernel_rfl) (fun _ h => h) ?_
    refine W.weak [4] [] [] [(10500, some 1)] (env' := [(4, l3 (some 1) v27)]) (by kernel_rfl) ?_
    have hr : aresults Try.prog Try.f46 [(4, l3 (some 1) v27)] = some (l3 (some 1) v27) := by kernel_rfl
    cases h
    exact W.ret hr
  refine W.seq ?_
  refine W.regT [1, 5, 6] [] [] [] (e2 := [(1, l40 none a2), (5, l3 (some 13) [(IntKind.wrap .i64 ((iShl .i64 1 a1) - 1))]), (6, .int .i64 0)]) (by kernel_rfl) (by kernel_rfl) (fun _ h => h) ?_
  refine W.block ?_
  refine W.weak [1, 5, 6] [] [] [(13, some 10500)] (env' := [(1, l40 none a2), (5, l3 (some 10500) [(IntKind.wrap .i64 ((iShl .i64 1 a1) - 1))]), (6, .int .i64 0)]) (by kernel_rfl) ?_
  refine W.fuel (σ := ((List Int) × Int)) (fun s => [(1, l40 none a2), (5, l3 (some 10500) s.1), (6, .int .i64 s.2)]) (fun m0 s => rf1_Decompose_l1 a2 (rf1_Decompose_j6) m0 s.1 s.2 = some r) (fun s h => ?_) (fun m1 s h hN1 => ?_) fuel ([(IntKind.wrap .i64 ((iShl .i64 1 a1) - 1))], 0) h
  · obtain ⟨v8, v9⟩ := s
    have h : rf1_Decompose_l1 a2 (rf1_Decompose_j6) 0 v8 v9 = some r := h
    rw [rf1_Decompose_l1.eq_1] at h
    cases h
  · obtain ⟨v8, v9⟩ := s
    have h : rf1_Decompose_l1 a2 (rf1_Decompose_j6) (m1 + 1) v8 v9 = some r := h
    rw [rf1_Decompose_l1.eq_2] at h
    refine W.seq ?_
    refine W.seq ?_
    refine W.region (by kernel_rfl) ?_
    refine WO.pureK 2 (some (.int .i64 ((List.map (AV.int .i64) v8).length : Int))) (v := .int .i64 (v8.length : Int)) (by kernel_rfl) (by rw [List.length_map]) (e1 := [(1, l40 none a2), (5, l3 (some 10500) v8), (6, .int .i64 v9), (14, .int .i64 v9), (15, l3 (some 10500) v8), (16, .int .i64 (v8.length : Int))]) (by kernel_rfl) ?_
    refine WO.fin [1, 5, 6, 17] [] [] [] (e2 := [(1, l40 none a2), (5, l3 (some 10500) v8), (6, .int .i64 v9), (17, .bool (decide (v9 < (v8.length : Int))))]) (by kernel_rfl) (fun _ h => h) ?_
    refine W.condB (decide (v9 < (v8.length : Int))) (by kernel_rfl) (fun hb => ?_) (fun hb => ?_)
    · replace h := cond_t hb h
      refine W.skip ?_
      refine W.weak [1, 5, 6] [] [] [] (env' := [(1, l40 none a2), (5, l3 (some 10500) v8), (6, .int .i64 v9)]) (by kernel_rfl) ?_
      refine W.block ?_
      refine W.seq ?_
      refine W.region (by kernel_rfl) ?_
      obtain ⟨e13, he13, h⟩ := bind_some h
      refine WO.pureK 3 (if (0 : Int) ≤ v9 then ((List.map (AV.int .i64) v8)[Int.toNat v9]?).map AV.ptr else none) (v := .ptr (.int .i64 e13)) (by kernel_rfl) (idx_av (f := (AV.int .i64)) he13) (e1 := [(1, l40 none a2), (5, l3 (some 10500) v8), (6, .int .i64 v9), (19, l40 none a2), (20, l3 (some 10500) v8), (21, .int .i64 v9), (22, .ptr (.int .i64 e13))]) (by kernel_rfl) ?_
      obtain ⟨w14, hw14, h⟩ := bind_some h
      refine WO.callK 1 (F := 47) (l := [l40 none a2, .int .i64 e13]) (C := []) (r := .tup [.agg [.int .i64 w14.1.f_From, .int .i64 w14.1.f_To], .int .i64 w14.2]) (by kernel_rfl) (by kernel_rfl) (run_rf1_Violation a2 e13 w14 hw14) (e1 := [(1, l40 none a2), (5, l3 (some 10500) v8), (6, .int .i64 v9), (19, l40 none a2), (20, l3 (some 10500) v8), (21, .int .i64 v9), (22, .ptr (.int .i64 e13)), (23, .int .i64 e13), (24, .tup [.agg [.int .i64 w14.1.f_From, .int .i64 w14.1.f_To], .int .i64 w14.2])]) (by kernel_rfl) ?_
      refine WO.fin [1, 5, 6, 7, 8] [7] [] [] (e2 := [(1, l40 none a2), (5, l3 (some 10500) v8), (6, .int .i64 v9), (7, .ptr (.agg [.int .i64 w14.1.f_From, .int .i64 w14.1.f_To])), (8, .int .i64 w14.2)]) (by kernel_rfl) (fun _ h => h) ?_
      refine W.seq ?_
      refine W.seq ?_
      refine W.regT [1, 5, 6, 7, 28] [] [] [] (e2 := [(1, l40 none a2), (5, l3 (some 10500) v8), (6, .int .i64 v9), (7, .ptr (.agg [.int .i64 w14.1.f_From, .int .i64 w14.1.f_To])), (28, .bool (w14.2 != 0))]) (by kernel_rfl) (by kernel_rfl) (fun _ h => h) ?_
      refine W.condB (w14.2 != 0) (by kernel_rfl) (fun hb => ?_) (fun hb => ?_)
      · replace h := cond_t hb h
        refine W.seq ?_
        refine W.regT [1, 5, 6] [] [] [] (e2 := [(1, l40 none a2), (5, l3 (some 10500) v8), (6, .int .i64 (IntKind.wrap .i64 (v9 + 1)))]) (by kernel_rfl) (by kernel_rfl) (fun _ h => h) ?_
        refine W.exit ?_
        refine W.weak [1, 5, 6] [] [] [] (env' := [(1, l40 none a2), (5, l3 (some 10500) v8), (6, .int .i64 (IntKind.wrap .i64 (v9 + 1)))]) (by kernel_rfl) ?_
        exact hN1 (v8, (IntKind.wrap .i64 (v9 + 1))) h
      replace h := cond_f hb h
      refine W.skip ?_
      refine W.weak [1, 5, 6, 7] [] [] [] (env' := [(1, l40 none a2), (5, l3 (some 10500) v8), (6, .int .i64 v9), (7, .ptr (.agg [.int .i64 w14.1.f_From, .int .i64 w14.1.f_To]))]) (by kernel_rfl) ?_
      refine W.seq ?_
      refine W.region (by kernel_rfl) ?_
      obtain ⟨e19, he19, h⟩ := bind_some h
      refine WO.pureK 3 (if (0 : Int) ≤ 0 ∧ 0 ≤ v9 ∧ v9 ≤ ((List.map (AV.int .i64) v8).length : Int) then some (.lst 3 1 none (((List.map (AV.int .i64) v8).take (Int.toNat v9)).drop (Int.toNat 0))) else none) (v := l3 none e19) (by kernel_rfl) (sub_av he19) (e1 := [(1, l40 none a2), (5, l3 (some 10500) v8), (6, .int .i64 v9), (7, .ptr (.agg [.int .i64 w14.1.f_From, .int .i64 w14.1.f_To])), (31, l3 (some 31) ([] : (List Int))), (32, l3 (some 10500) v8), (33, .int .i64 v9), (34, l3 none e19)]) (by kernel_rfl) ?_
      obtain ⟨hc20, h⟩ := chk_some h
      refine WO.appendK 0 (d := 35) (e := 3) (s := 1) (bytes := 8) (xs := (List.map (AV.int .i64) ([] : (List Int)))) (ys := (List.map (AV.int .i64) e19)) (zs := (List.map (AV.int .i64) (([] : (List Int)) ++ e19))) (env1 := [(1, l40 none a2), (5, l3 (some 10500) v8), (6, .int .i64 v9), (7, .ptr (.agg [.int .i64 w14.1.f_From, .int .i64 w14.1.f_To])), (31, l3 none ([] : (List Int))), (32, l3 (some 10500) v8), (33, .int .i64 v9), (34, l3 none e19)]) (by kernel_rfl) (List.map_append.symm) (by rw [List.length_map]; exact hc20) (e1 := [(1, l40 none a2), (5, l3 (some 10500) v8), (6, .int .i64 v9), (7, .ptr (.agg [.int .i64 w14.1.f_From, .int .i64 w14.1.f_To])), (31, l3 none ([] : (List Int))), (32, l3 (some 10500) v8), (33, .int .i64 v9), (34, l3 none e19), (35, l3 (some 35) (([] : (List Int)) ++ e19))]) (by kernel_rfl) ?_
      refine WO.fin [1, 5, 6, 7, 9] [] [] [] (e2 := [(1, l40 none a2), (5, l3 (some 10500) v8), (6, .int .i64 v9), (7, .ptr (.agg [.int .i64 w14.1.f_From, .int .i64 w14.1.f_To])), (9, l3 (some 35) (([] : (List Int)) ++ e19))]) (by kernel_rfl) (fun _ h => h) ?_
      refine W.seq ?_
      refine W.region (by kernel_rfl) ?_
      obtain ⟨e22, he22, h⟩ := bind_some h
      refine WO.pureK 8 (if (0 : Int) ≤ v9 then ((List.map (AV.int .i64) v8)[Int.toNat v9]?).map AV.ptr else none) (v := .ptr (.int .i64 e22)) (by kernel_rfl) (idx_av (f := (AV.int .i64)) he22) (e1 := [(1, l40 none a2), (5, l3 (some 10500) v8), (6, .int .i64 v9), (7, .ptr (.agg [.int .i64 w14.1.f_From, .int .i64 w14.1.f_To])), (9, l3 (some 35) (([] : (List Int)) ++ e19)), (36, l3 (some 35) (([] : (List Int)) ++ e19)), (37, .ptr (.int .i64 w14.1.f_From)), (38, .int .i64 w14.1.f_From), (39, .ptr (.int .i64 w14.1.f_To)), (40, .int .i64 w14.1.f_To), (41, .int .i64 (iOr .i64 w14.1.f_From w14.1.f_To)), (42, l3 (some 10500) v8), (43, .int .i64 v9), (44, .ptr (.int .i64 e22))]) (by kernel_rfl) ?_
      obtain ⟨hc23, h⟩ := chk_some h
      refine WO.appendK 5 (d := 50) (e := 3) (s := 1) (bytes := 8) (xs := (List.map (AV.int .i64) (([] : (List Int)) ++ e19))) (ys := (List.map (AV.int .i64) [(iOr .i64 w14.1.f_From w14.1.f_To), (iAndNot .i64 e22 w14.1.f_To)])) (zs := (List.map (AV.int .i64) ((([] : (List Int)) ++ e19) ++ [(iOr .i64 w14.1.f_From w14.1.f_To), (iAndNot .i64 e22 w14.1.f_To)]))) (env1 := [(1, l40 none a2), (5, l3 (some 10500) v8), (6, .int .i64 v9), (7, .ptr (.agg [.int .i64 w14.1.f_From, .int .i64 w14.1.f_To])), (9, l3 none (([] : (List Int)) ++ e19)), (36, l3 none (([] : (List Int)) ++ e19)), (37, .ptr (.int .i64 w14.1.f_From)), (38, .int .i64 w14.1.f_From), (39, .ptr (.int .i64 w14.1.f_To)), (40, .int .i64 w14.1.f_To), (41, .int .i64 (iOr .i64 w14.1.f_From w14.1.f_To)), (42, l3 (some 10500) v8), (43, .int .i64 v9), (44, .ptr (.int .i64 e22)), (45, .int .i64 e22), (46, .ptr (.int .i64 w14.1.f_To)), (47, .int .i64 w14.1.f_To), (48, .int .i64 (iAndNot .i64 e22 w14.1.f_To)), (49, l3 none [(iOr .i64 w14.1.f_From w14.1.f_To), (iAndNot .i64 e22 w14.1.f_To)])]) (by kernel_rfl) (List.map_append.symm) (by rw [List.length_map]; exact hc23) (e1 := [(1, l40 none a2), (5, l3 (some 10500) v8), (6, .int .i64 v9), (7, .ptr (.agg [.int .i64 w14.1.f_From, .int .i64 w14.1.f_To])), (9, l3 none (([] : (List Int)) ++ e19)), (36, l3 none (([] : (List Int)) ++ e19)), (37, .ptr (.int .i64 w14.1.f_From)), (38, .int .i64 w14.1.f_From), (39, .ptr (.int .i64 w14.1.f_To)), (40, .int .i64 w14.1.f_To), (41, .int .i64 (iOr .i64 w14.1.f_From w14.1.f_To)), (42, l3 (some 10500) v8), (43, .int .i64 v9), (44, .ptr (.int .i64 e22)), (45, .int .i64 e22), (46, .ptr (.int .i64 w14.1.f_To)), (47, .int .i64 w14.1.f_To), (48, .int .i64 (iAndNot .i64 e22 w14.1.f_To)), (49, l3 none [(iOr .i64 w14.1.f_From w14.1.f_To), (iAndNot .i64 e22 w14.1.f_To)]), (50, l3 (some 50) ((([] : (List Int)) ++ e19) ++ [(iOr .i64 w14.1.f_From w14.1.f_To), (iAndNot .i64 e22 w14.1.f_To)]))]) (by kernel_rfl) ?_
      refine WO.fin [1, 5, 6, 9] [] [] [] (e2 := [(1, l40 none a2), (5, l3 (some 10500) v8), (6, .int .i64 v9), (9, l3 (some 50) ((([] : (List Int)) ++ e19) ++ [(iOr .i64 w14.1.f_From w14.1.f_To), (iAndNot .i64 e22 w14.1.f_To)]))]) (by kernel_rfl) (fun _ h => h) ?_
      refine W.seq ?_
      refine W.region (by kernel_rfl) ?_
      obtain ⟨e25, he25, h⟩ := bind_some h
      refine WO.pureK 4 (if (0 : Int) ≤ (IntKind.wrap .i64 (v9 + 1)) ∧ (IntKind.wrap .i64 (v9 + 1)) ≤ ((List.map (AV.int .i64) v8).length : Int) ∧ ((List.map (AV.int .i64) v8).length : Int) ≤ ((List.map (AV.int .i64) v8).length : Int) then some (.lst 3 1 (some 10500) (((List.map (AV.int .i64) v8).take (Int.toNat ((List.map (AV.int .i64) v8).length : Int))).drop (Int.toNat (IntKind.wrap .i64 (v9 + 1))))) else none) (v := l3 (some 10500) e25) (by kernel_rfl) (sub_av_len he25) (e1 := [(1, l40 none a2), (5, l3 (some 10500) v8), (6, .int .i64 v9), (9, l3 (some 50) ((([] : (List Int)) ++ e19) ++ [(iOr .i64 w14.1.f_From w14.1.f_To), (iAndNot .i64 e22 w14.1.f_To)])), (51, l3 (some 50) ((([] : (List Int)) ++ e19) ++ [(iOr .i64 w14.1.f_From w14.1.f_To), (iAndNot .i64 e22 w14.1.f_To)])), (52, l3 (some 10500) v8), (53, .int .i64 v9), (54, .int .i64 (IntKind.wrap .i64 (v9 + 1))), (55, l3 (some 10500) e25)]) (by kernel_rfl) ?_
      obtain ⟨hc26, h⟩ := chk_some h
      refine WO.appendK 0 (d := 56) (e := 3) (s := 1) (bytes := 8) (xs := (List.map (AV.int .i64) ((([] : (List Int)) ++ e19) ++ [(iOr .i64 w14.1.f_From w14.1.f_To), (iAndNot .i64 e22 w14.1.f_To)]))) (ys := (List.map (AV.int .i64) e25)) (zs := (List.map (AV.int .i64) (((([] : (List Int)) ++ e19) ++ [(iOr .i64 w14.1.f_From w14.1.f_To), (iAndNot .i64 e22 w14.1.f_To)]) ++ e25))) (env1 := [(1, l40 none a2), (5, l3 (some 10500) v8), (6, .int .i64 v9), (9, l3 none ((([] : (List Int)) ++ e19) ++ [(iOr .i64 w14.1.f_From w14.1.f_To), (iAndNot .i64 e22 w14.1.f_To)])), (51, l3 none ((([] : (List Int)) ++ e19) ++ [(iOr .i64 w14.1.f_From w14.1.f_To), (iAndNot .i64 e22 w14.1.f_To)])), (52, l3 (some 10500) v8), (53, .int .i64 v9), (54, .int .i64 (IntKind.wrap .i64 (v9 + 1))), (55, l3 (some 10500) e25)]) (by kernel_rfl) (List.map_append.symm) (by rw [List.length_map]; exact hc26) (e1 := [(1, l40 none a2), (5, l3 (some 10500) v8), (6, .int .i64 v9), (9, l3 none ((([] : (List Int)) ++ e19) ++ [(iOr .i64 w14.1.f_From w14.1.f_To), (iAndNot .i64 e22 w14.1.f_To)])), (51, l3 none ((([] : (List Int)) ++ e19) ++ [(iOr .i64 w14.1.f_From w14.1.f_To), (iAndNot .i64 e22 w14.1.f_To)])), (52, l3 (some 10500) v8), (53, .int .i64 v9), (54, .int .i64 (IntKind.wrap .i64 (v9 + 1))), (55, l3 (some 10500) e25), (56, l3 (some 56) (((([] : (List Int)) ++ e19) ++ [(iOr .i64 w14.1.f_From w14.1.f_To), (iAndNot .i64 e22 w14.1.f_To)]) ++ e25))]) (by kernel_rfl) ?_
      refine WO.fin [1, 5] [] [] [] (e2 := [(1, l40 none a2), (5, l3 (some 56) (((([] : (List Int)) ++ e19) ++ [(iOr .i64 w14.1.f_From w14.1.f_To), (iAndNot .i64 e22 w14.1.f_To)]) ++ e25))]) (by kernel_rfl) (fun _ h => h) ?_
      refine W.regT [1, 5, 6] [] [] [(56, some 10500)] (e2 := [(1, l40 none a2), (5, l3 (some 10500) (((([] : (List Int)) ++ e19) ++ [(iOr .i64 w14.1.f_From w14.1.f_To), (iAndNot .i64 e22 w14.1.f_To)]) ++ e25)), (6, .int .i64 0)]) (by kernel_rfl) (by kernel_rfl) (fun _ h => h) ?_
      exact hN1 ((((([] : (List Int)) ++ e19) ++ [(iOr .i64 w14.1.f_From w14.1.f_To), (iAndNot .i64 e22 w14.1.f_To)]) ++ e25), 0) h
    replace h := cond_f hb h
    refine W.exit ?_
    refine W.weak [5] [] [] [] (env' := [(5, l3 (some 10500) v8)]) (by kernel_rfl) ?_
    exact hK6 v8 h
def sl_Equal_int_j7 : Option Bool :=
  (some true)
def sl_Equal_int_l1 (a2 : (List Int)) (K7 : (Option Bool)) : List Int → Nat → Option Bool
  | [], k1 => K7
  | x1 :: r1, k1 => ((idx a2 (k1 : Int)).bind fun e12 => (bif (x1 != e12) then (some false) else (sl_Equal_int_l1 a2 K7 r1 (k1 + 1))))
def sl_Equal_int (a1 : (List Int)) (a2 : (List Int)) : Option Bool :=
  (bif ((a1.length : Int) != (a2.length : Int)) then (some false) else (chk (lenOk a1) (sl_Equal_int_l1 a2 (sl_Equal_int_j7) a1 0)))
theorem run_sl_Equal_int (a1 : (List Int)) (a2 : (List Int)) (r : Bool) (h : sl_Equal_int a1 a2 = some r) : Run Try.prog (.call 45 [l3 none a1, l3 none a2] (.bool r)) := by
  refine call_of_W Try.func45 rfl (by kernel_rfl) (env0 := [(0, l3 none a1), (1, l3 none a2)]) (by kernel_rfl) ?_
  unfold sl_Equal_int at h
  refine W.seq ?_
  refine W.regT [0, 1] [] [] [] (e2 := [(0, l3 none a1), (1, l3 none a2)]) (by kernel_rfl) (by kernel_rfl) (fun _ h => h) ?_
  refine W.seq ?_
  refine W.seq ?_
  refine W.region (by kernel_rfl) ?_
  refine WO.pureK 1 (some (.int .i64 ((List.map (AV.int .i64) a1).length : Int))) (v := .int .i64 (a1.length : Int)) (by kernel_rfl) (by rw [List.length_map]) (e1 := [(0, l3 none a1), (1, l3 none a2), (6, l3 none a1), (7, .int .i64 (a1.length : Int))]) (by kernel_rfl) ?_
  refine WO.pureK 1 (some (.int .i64 ((List.map (AV.int .i64) a2).length : Int))) (v := .int .i64 (a2.length : Int)) (by kernel_rfl) (by rw [List.length_map]) (e1 := [(0, l3 none a1), (1, l3 none a2), (6, l3 none a1), (7, .int .i64 (a1.length : Int)), (8, l3 none a2), (9, .int .i64 (a2.length : Int))]) (by kernel_rfl) ?_
  refine WO.fin [0, 1, 10] [] [] [] (e2 := [(0, l3 none a1), (1, l3 none a2), (10, .bool ((a1.length : Int) != (a2.length : Int)))]) (by kernel_rfl) (fun _ h => h) ?_
  refine W.condB ((a1.length : Int) != (a2.length : Int)) (by kernel_rfl) (fun hb => ?_) (fun hb => ?_)
  · replace h := cond_t hb h
    refine W.seq ?_
    refine W.regT [4] [] [] [] (e2 := [(4, .bool false)]) (by kernel_rfl) (by kernel_rfl) (fun _ h => h) ?_
    refine W.weak [4] [] [] [] (env' := [(4, .bool false)]) (by kernel_rfl) ?_
    have hr : aresults Try.prog Try.f45 [(4, .bool false)] = some (.bool false) := by kernel_rfl
    cases h
    exact W.ret hr
  replace h := cond_f hb h
  refine W.skip ?_
  refine W.weak [0, 1] [] [] [] (env' := [(0, l3 none a1), (1, l3 none a2)]) (by kernel_rfl) ?_
  refine W.seq ?_
  refine W.join (σ := Unit) (fun s => []) (fun s => (sl_Equal_int_j7) = some r) (fun s h => ?_) (fun hK7 => ?_)
  · have h : (sl_Equal_int_j7) = some r := h
    unfold sl_Equal_int_j7 at h
    refine W.seq ?_
    refine W.regT [4] [] [] [] (e2 := [(4, .bool true)]) (by kernel_rfl) (by kernel_rfl) (fun _ h => h) ?_
    refine W.weak [4] [] [] [] (env' := [(4, .bool true)]) (by kernel_rfl) ?_
    have hr : aresults Try.prog Try.f45 [(4, .bool true)] = some (.bool true) := by kernel_rfl
    cases h
    exact W.ret hr
  refine W.seq ?_
  refine W.region (by kernel_rfl) ?_
  refine WO.pureK 1 (some (.int .i64 ((List.map (AV.int .i64) a1).length : Int))) (v := .int .i64 (a1.length : Int)) (by kernel_rfl) (by rw [List.length_map]) (e1 := [(0, l3 none a1), (1, l3 none a2), (11, l3 none a1), (12, .int .i64 (a1.length : Int))]) (by kernel_rfl) ?_
  refine WO.fin [0, 1, 12, 13] [] [] [] (e2 := [(0, l3 none a1), (1, l3 none a2), (12, .int .i64 (a1.length : Int)), (13, .int .i64 0)]) (by kernel_rfl) (fun _ h => h) ?_
  refine W.block ?_
  obtain ⟨hl1, h⟩ := chk_some h
  refine W.weak [0, 1, 12, 13] [] [] [] (env' := [(0, l3 none a1), (1, l3 none a2), (12, .int .i64 (a1.length : Int)), (13, .int .i64 ((0 : Nat) : Int))]) (by kernel_rfl) ?_
  refine W.range (σ := Unit) a1 (fun k1 s => [(0, l3 none a1), (1, l3 none a2), (12, .int .i64 (a1.length : Int)), (13, .int .i64 (k1 : Int))]) (fun r0 k0 s => sl_Equal_int_l1 a2 (sl_Equal_int_j7) r0 k0 = some r) (fun s h => ?_) (fun x1 r1 k1 s hx1 hk1 h hN1 => ?_) () h
  · have h : sl_Equal_int_l1 a2 (sl_Equal_int_j7) [] (a1).length = some r := h
    rw [sl_Equal_int_l1.eq_1] at h
    refine W.seq ?_
    refine W.region (by kernel_rfl) ?_
    refine WO.pureK 0 (some (.bool (decide (((a1).length : Int) < (a1.length : Int))))) (v := .bool false) (by kernel_rfl) (by rw [lt_false (l := a1)]) (e1 := [(0, l3 none a1), (1, l3 none a2), (12, .int .i64 (a1.length : Int)), (13, .int .i64 ((a1).length : Int)), (14, .bool false)]) (by kernel_rfl) ?_
    refine WO.fin ([0, 1, 12, 13, 14]) [] [] [] (e2 := [(0, l3 none a1), (1, l3 none a2), (12, .int .i64 (a1.length : Int)), (13, .int .i64 ((a1).length : Int)), (14, .bool false)]) (by kernel_rfl) (fun _ h => h) ?_
    refine W.seq ?_
    refine W.condB false (by kernel_rfl) (fun h => Bool.noConfusion h) (fun _ => ?_)
    refine W.exit ?_
    refine W.weak [] [] [] [] (env' := []) (by kernel_rfl) ?_
    exact hK7 () h
  · have h : sl_Equal_int_l1 a2 (sl_Equal_int_j7) (x1 :: r1) k1 = some r := h
    rw [sl_Equal_int_l1.eq_2] at h
    refine W.seq ?_
    refine W.region (by kernel_rfl) ?_
    refine WO.pureK 0 (some (.bool (decide ((k1 : Int) < (a1.length : Int))))) (v := .bool true) (by kernel_rfl) (by rw [lt_true hk1]) (e1 := [(0, l3 none a1), (1, l3 none a2), (12, .int .i64 (a1.length : Int)), (13, .int .i64 (k1 : Int)), (14, .bool true)]) (by kernel_rfl) ?_
    refine WO.fin ([0, 1, 12, 13, 14]) [] [] [] (e2 := [(0, l3 none a1), (1, l3 none a2), (12, .int .i64 (a1.length : Int)), (13, .int .i64 (k1 : Int)), (14, .bool true)]) (by kernel_rfl) (fun _ h => h) ?_
    refine W.seq ?_
    refine W.condB true (by kernel_rfl) (fun _ => ?_) (fun h => Bool.noConfusion h)
    refine W.skip ?_
    refine W.weak [0, 1, 12, 13] [] [] [] (env' := [(0, l3 none a1), (1, l3 none a2), (12, .int .i64 (a1.length : Int)), (13, .int .i64 (k1 : Int))]) (by kernel_rfl) ?_
    refine W.seq ?_
    refine W.block ?_
    refine W.seq ?_
    refine W.regT [0, 1, 5, 12, 13] [] [] [] (e2 := [(0, l3 none a1), (1, l3 none a2), (5, .int .i64 (k1 : Int)), (12, .int .i64 (a1.length : Int)), (13, .int .i64 (k1 : Int))]) (by kernel_rfl) (by kernel_rfl) (fun _ h => h) ?_
    refine W.seq ?_
    refine W.region (by kernel_rfl) ?_
    refine WO.pureK 2 (if (0 : Int) ≤ (k1 : Int) then ((List.map (AV.int .i64) a1)[Int.toNat (k1 : Int)]?).map AV.ptr else none) (v := .ptr (.int .i64 x1)) (by kernel_rfl) (idx_nat (f := (AV.int .i64)) hx1) (e1 := [(0, l3 none a1), (1, l3 none a2), (5, .int .i64 (k1 : Int)), (12, .int .i64 (a1.length : Int)), (13, .int .i64 (k1 : Int)), (16, l3 none a1), (17, .int .i64 (k1 : Int)), (18, .ptr (.int .i64 x1))]) (by kernel_rfl) ?_
    obtain ⟨e12, he12, h⟩ := bind_some h
    refine WO.pureK 3 (if (0 : Int) ≤ (k1 : Int) then ((List.map (AV.int .i64) a2)[Int.toNat (k1 : Int)]?).map AV.ptr else none) (v := .ptr (.int .i64 e12)) (by kernel_rfl) (idx_av (f := (AV.int .i64)) he12) (e1 := [(0, l3 none a1), (1, l3 none a2), (5, .int .i64 (k1 : Int)), (12, .int .i64 (a1.length : Int)), (13, .int .i64 (k1 : Int)), (16, l3 none a1), (17, .int .i64 (k1 : Int)), (18, .ptr (.int .i64 x1)), (19, .int .i64 x1), (20, l3 none a2), (21, .int .i64 (k1 : Int)), (22, .ptr (.int .i64 e12))]) (by kernel_rfl) ?_
    refine WO.fin [0, 1, 12, 13, 24] [] [] [] (e2 := [(0, l3 none a1), (1, l3 none a2), (12, .int .i64 (a1.length : Int)), (13, .int .i64 (k1 : Int)), (24, .bool (x1 != e12))]) (by kernel_rfl) (fun _ h => h) ?_
    refine W.condB (x1 != e12) (by kernel_rfl) (fun hb => ?_) (fun hb => ?_)
    · replace h := cond_t hb h
      refine W.seq ?_
      refine W.regT [4] [] [] [] (e2 := [(4, .bool false)]) (by kernel_rfl) (by kernel_rfl) (fun _ h => h) ?_
      refine W.weak [4] [] [] [] (env' := [(4, .bool false)]) (by kernel_rfl) ?_
      have hr : aresults Try.prog Try.f45 [(4, .bool false)] = some (.bool false) := by kernel_rfl
      cases h
      exact W.ret hr
    replace h := cond_f hb h
    refine W.skip ?_
    refine W.weak [0, 1, 12, 13] [] [] [] (env' := [(0, l3 none a1), (1, l3 none a2), (12, .int .i64 (a1.length : Int)), (13, .int .i64 (k1 : Int))]) (by kernel_rfl) ?_
    refine W.region (by kernel_rfl) ?_
    refine WO.pureK 0 (some (.int .i64 (IntKind.wrap .i64 ((k1 : Int) + 1)))) (v := .int .i64 ((k1 + 1 : Nat) : Int)) (by kernel_rfl) (by rw [wrap_succ hl1 hk1]) (e1 := [(0, l3 none a1), (1, l3 none a2), (12, .int .i64 (a1.length : Int)), (13, .int .i64 (k1 : Int)), (25, .int .i64 ((k1 + 1 : Nat) : Int))]) (by kernel_rfl) ?_
    refine WO.fin [0, 1, 12, 13] [] [] [] (e2 := [(0, l3 none a1), (1, l3 none a2), (12, .int .i64 (a1.length : Int)), (13, .int .i64 ((k1 + 1 : Nat) : Int))]) (by kernel_rfl) (fun _ h => h) ?_
    exact hN1 () h
def lw1_dep (a1 : rf1Dep) : Option dpDep :=
  (some (dpDep.mk a1.f_From a1.f_To))
theorem run_lw1_dep (a1 : rf1Dep) (r : dpDep) (h : lw1_dep a1 = some r) : Run Try.prog (.call 25 [.agg [.int .i64 a1.f_From, .int .i64 a1.f_To]] (.agg [.int .i64 r.f_From, .int .i64 r.f_To])) := by
  refine call_of_W Try.func25 rfl (by kernel_rfl) (env0 := [(0, .agg [.int .i64 a1.f_From, .int .i64 a1.f_To])]) (by kernel_rfl) ?_
  unfold lw1_dep at h
  refine W.seq ?_
  refine W.regT [1, 2] [1] [] [] (e2 := [(1, .ptr (.agg [.int .i64 a1.f_From, .int .i64 a1.f_To])), (2, .box [.int .i64 0, .int .i64 0])]) (by kernel_rfl) (by kernel_rfl) (fun _ h => h) ?_
  refine W.seq ?_
  refine W.regT [2] [] [] [] (e2 := [(2, .box [.int .i64 a1.f_From, .int .i64 a1.f_To])]) (by kernel_rfl) (by kernel_rfl) (fun _ h => h) ?_
  refine W.weak [2] [] [] [] (env' := [(2, .box [.int .i64 a1.f_From, .int .i64 a1.f_To])]) (by kernel_rfl) ?_
  have hr : aresults Try.prog Try.f25 [(2, .box [.int .i64 a1.f_From, .int .i64 a1.f_To])] = some (.agg [.int .i64 a1.f_From, .int .i64 a1.f_To]) := by kernel_rfl
  cases h
  exact W.ret hr
def lw1_DependDecomposes_j14 (v16 : Bool) : Option Bool :=
  (some v16)
def lw1_DependDecomposes_j26 (v28 : Bool) : Option Bool :=
  (some v28)
def lw1_DependDecomposes_j31 (v34 : Bool) : Option Bool :=
  (some v34)
def lw1_DependDecomposes_j18 (fuel : Nat) (a1 : Int) (a2 : (List rf1Dep)) (a3 : Int) (w7 : (dpDep × Int)) (v21 : Bool) : Option Bool :=
  (bif v21 then (some false) else ((rf1_Set a1 a3).bind fun w25 => (bif (!w25) then (bif ((w7.1.f_From == 0) && ((w7.1.f_To == 0) && true)) then (bif (w7.2 == 2) then ((lw1_awake fuel).bind fun w27 => ((lw1_DependDecomposes_j26) w27)) else ((lw1_DependDecomposes_j26) false)) else ((lw1_DependDecomposes_j26) false)) else ((rf1_Violation a2 a3).bind fun w30 => ((lw1_dep w30.1).bind fun w32 => (bif ((w7.1.f_From == w32.f_From) && ((w7.1.f_To == w32.f_To) && true)) then (bif (w7.2 == w30.2) then ((lw1_awake fuel).bind fun w33 => ((lw1_DependDecomposes_j31) w33)) else ((lw1_DependDecomposes_j31) false)) else ((lw1_DependDecomposes_j31) false)))))))
def lw1_DependDecomposes (fuel : Nat) (a1 : Int) (a2 : (List rf1Dep)) (a3 : Int) : Option Bool :=
  ((lw1_deps a2).bind fun w6 => ((dp_Violation fuel a1 w6 a3).bind fun w7 => ((lw1_deps a2).bind fun w9 => ((dp_Decompose fuel a1 w9).bind fun w10 => ((rf1_Valid a1 a2).bind fun w13 => (bif (!w13) then (bif ((w7.1.f_From == 0) && ((w7.1.f_To == 0) && true)) then (bif ((w10.1.length : Int) == 0) then (bif (w7.2 == 2) then (bif (w10.2 == 2) then ((lw1_awake fuel).bind fun w15 => ((lw1_DependDecomposes_j14) w15)) else ((lw1_DependDecomposes_j14) false)) else ((lw1_DependDecomposes_j14) false)) else ((lw1_DependDecomposes_j14) false)) else ((lw1_DependDecomposes_j14) false)) else ((rf1_Decompose fuel a1 a2).bind fun w19 => ((sl_Equal_int w10.1 w19).bind fun w20 => (bif (!w20) then ((lw1_DependDecomposes_j18 fuel a1 a2 a3 w7) true) else ((lw1_DependDecomposes_j18 fuel a1 a2 a3 w7) (w10.2 != 0)))))))))))
theorem run_lw1_DependDecomposes (fuel : Nat) (a1 : Int) (a2 : (List rf1Dep)) (a3 : Int) (r : Bool) (h : lw1_DependDecomposes fuel a1 a2 a3 = some r) : Run Try.prog (.call 14 [.int .i64 a1, l40 none a2, .int .i64 a3] (.bool r)) := by
  refine call_of_W Try.func14 rfl (by kernel_rfl) (env0 := [(0, .int .i64 a1), (1, l40 none a2), (2, .int .i64 a3)]) (by kernel_rfl) ?_
  unfold lw1_DependDecomposes at h
  refine W.seq ?_
  refine W.regT [0, 1, 2] [] [] [] (e2 := [(0, .int .i64 a1), (1, l40 none a2), (2, .int .i64 a3)]) (by kernel_rfl) (by kernel_rfl) (fun _ h => h) ?_
  refine W.seq ?_
  refine W.region (by kernel_rfl) ?_
  obtain ⟨w6, hw6, h⟩ := bind_some h
  refine WO.callK 2 (F := 20) (l := [l40 none a2]) (C := []) (r := l33 (some 1) w6) (by kernel_rfl) (by kernel_rfl) (run_lw1_deps a2 w6 hw6) (e1 := [(0, .int .i64 a1), (1, l40 none a2), (2, .int .i64 a3), (14, .int .i64 a1), (15, l40 none a2), (16, l33 (some 16) w6)]) (by kernel_rfl) ?_
  obtain ⟨w7, hw7, h⟩ := bind_some h
  refine WO.callK 1 (F := 43) (l := [.int .i64 a1, l33 none w6, .int .i64 a3]) (C := []) (r := .tup [.agg [.int .i64 w7.1.f_From, .int .i64 w7.1.f_To], .int .i64 w7.2]) (by kernel_rfl) (by kernel_rfl) (run_dp_Violation fuel a1 w6 a3 w7 hw7) (e1 := [(0, .int .i64 a1), (1, l40 none a2), (2, .int .i64 a3), (14, .int .i64 a1), (15, l40 none a2), (16, l33 (some 16) w6), (17, .int .i64 a3), (18, .tup [.agg [.int .i64 w7.1.f_From, .int .i64 w7.1.f_To], .int .i64 w7.2])]) (by kernel_rfl) ?_
  refine WO.fin [0, 1, 2, 7, 8] [7] [] [] (e2 := [(0, .int .i64 a1), (1, l40 none a2), (2, .int .i64 a3), (7, .ptr (.agg [.int .i64 w7.1.f_From, .int .i64 w7.1.f_To])), (8, .int .i64 w7.2)]) (by kernel_rfl) (fun _ h => h) ?_
  refine W.seq ?_
  refine W.region (by kernel_rfl) ?_
  obtain ⟨w9, hw9, h⟩ := bind_some h
  refine WO.callK 2 (F := 20) (l := [l40 none a2]) (C := []) (r := l33 (some 1) w9) (by kernel_rfl) (by kernel_rfl) (run_lw1_deps a2 w9 hw9) (e1 := [(0, .int .i64 a1), (1, l40 none a2), (2, .int .i64 a3), (7, .ptr (.agg [.int .i64 w7.1.f_From, .int .i64 w7.1.f_To])), (8, .int .i64 w7.2), (22, .int .i64 a1), (23, l40 none a2), (24, l33 (some 24) w9)]) (by kernel_rfl) ?_
  obtain ⟨w10, hw10, h⟩ := bind_some h
  refine WO.callK 0 (F := 44) (l := [.int .i64 a1, l33 none w9]) (C := []) (r := .tup [l3 none w10.1, .int .i64 w10.2]) (by kernel_rfl) (by kernel_rfl) (run_dp_Decompose fuel a1 w9 w10 hw10) (e1 := [(0, .int .i64 a1), (1, l40 none a2), (2, .int .i64 a3), (7, .ptr (.agg [.int .i64 w7.1.f_From, .int .i64 w7.1.f_To])), (8, .int .i64 w7.2), (22, .int .i64 a1), (23, l40 none a2), (24, l33 (some 24) w9), (25, .tup [l3 none w10.1, .int .i64 w10.2])]) (by kernel_rfl) ?_
  refine WO.fin [0, 1, 2, 7, 8, 9, 10] [] [] [] (e2 := [(0, .int .i64 a1), (1, l40 none a2), (2, .int .i64 a3), (7, .ptr (.agg [.int .i64 w7.1.f_From, .int .i64 w7.1.f_To])), (8, .int .i64 w7.2), (9, l3 none w10.1), (10, .int .i64 w10.2)]) (by kernel_rfl) (fun _ h => h) ?_
  refine W.seq ?_
  refine W.seq ?_
  refine W.region (by kernel_rfl) ?_
  obtain ⟨w13, hw13, h⟩ := bind_some h
  refine WO.callK 2 (F := 28) (l := [.int .i64 a1, l40 none a2]) (C := []) (r := .bool w13) (by kernel_rfl) (by kernel_rfl) (run_rf1_Valid a1 a2 w13 hw13) (e1 := [(0, .int .i64 a1), (1, l40 none a2), (2, .int .i64 a3), (7, .ptr (.agg [.int .i64 w7.1.f_From, .int .i64 w7.1.f_To])), (8, .int .i64 w7.2), (9, l3 none w10.1), (10, .int .i64 w10.2), (28, .int .i64 a1), (29, l40 none a2), (30, .bool w13)]) (by kernel_rfl) ?_
  refine WO.fin [0, 1, 2, 7, 8, 9, 10, 31] [] [] [] (e2 := [(0, .int .i64 a1), (1, l40 none a2), (2, .int .i64 a3), (7, .ptr (.agg [.int .i64 w7.1.f_From, .int .i64 w7.1.f_To])), (8, .int .i64 w7.2), (9, l3 none w10.1), (10, .int .i64 w10.2), (31, .bool (!w13))]) (by kernel_rfl) (fun _ h => h) ?_
  refine W.condB (!w13) (by kernel_rfl) (fun hb => ?_) (fun hb => ?_)
  · replace h := cond_t hb h
    refine W.seq ?_
    refine W.join (σ := (Bool)) (fun s => [(6, .bool s)]) (fun s => (lw1_DependDecomposes_j14) s = some r) (fun s h => ?_) (fun hK14 => ?_)
    · obtain ⟨v16, rfl⟩ : ∃ x, x = s := ⟨s, rfl⟩
      have h : (lw1_DependDecomposes_j14) v16 = some r := h
      unfold lw1_DependDecomposes_j14 at h
      refine W.weak [6] [] [] [] (env' := [(6, .bool v16)]) (by kernel_rfl) ?_
      have hr : aresults Try.prog Try.f14 [(6, .bool v16)] = some (.bool v16) := by kernel_rfl
      cases h
      exact W.ret hr
    refine W.region (by kernel_rfl) ?_
    refine WO.boolK 4 (fun b => [(0, .int .i64 a1), (1, l40 none a2), (2, .int .i64 a3), (7, .ptr (.agg [.int .i64 w7.1.f_From, .int .i64 w7.1.f_To])), (8, .int .i64 w7.2), (9, l3 none w10.1), (10, .int .i64 w10.2), (31, .bool (!w13)), (32, .agg [.int .i64 w7.1.f_From, .int .i64 w7.1.f_To]), (33, .agg [.int .i64 0, .int .i64 0]), (34, .bool b), (35, .bool b)]) ((w7.1.f_From == 0) && ((w7.1.f_To == 0) && true)) (by kernel_rfl) (fun hb => ?_) (fun hb => ?_)
    · replace h := cond_t hb h
      refine WO.pureK 1 (some (.int .i64 ((List.map (AV.int .i64) w10.1).length : Int))) (v := .int .i64 (w10.1.length : Int)) (by kernel_rfl) (by rw [List.length_map]) (e1 := [(0, .int .i64 a1), (1, l40 none a2), (2, .int .i64 a3), (7, .ptr (.agg [.int .i64 w7.1.f_From, .int .i64 w7.1.f_To])), (8, .int .i64 w7.2), (9, l3 none w10.1), (10, .int .i64 w10.2), (31, .bool (!w13)), (32, .agg [.int .i64 w7.1.f_From, .int .i64 w7.1.f_To]), (33, .agg [.int .i64 0, .int .i64 0]), (34, .bool true), (35, .bool true), (36, l3 none w10.1), (37, .int .i64 (w10.1.length : Int))]) (by kernel_rfl) ?_
      refine WO.boolK 3 (fun b => [(0, .int .i64 a1), (1, l40 none a2), (2, .int .i64 a3), (7, .ptr (.agg [.int .i64 w7.1.f_From, .int .i64 w7.1.f_To])), (8, .int .i64 w7.2), (9, l3 none w10.1), (10, .int .i64 w10.2), (31, .bool (!w13)), (32, .agg [.int .i64 w7.1.f_From, .int .i64 w7.1.f_To]), (33, .agg [.int .i64 0, .int .i64 0]), (34, .bool true), (35, .bool true), (36, l3 none w10.1), (37, .int .i64 (w10.1.length : Int)), (38, .bool b), (39, .bool b), (40, .bool b)]) ((w10.1.length : Int) == 0) (by kernel_rfl) (fun hb => ?_) (fun hb => ?_)
      · replace h := cond_t hb h
        refine WO.boolK 4 (fun b => [(0, .int .i64 a1), (1, l40 none a2), (2, .int .i64 a3), (7, .ptr (.agg [.int .i64 w7.1.f_From, .int .i64 w7.1.f_To])), (8, .int .i64 w7.2), (9, l3 none w10.1), (10, .int .i64 w10.2), (31, .bool (!w13)), (32, .agg [.int .i64 w7.1.f_From, .int .i64 w7.1.f_To]), (33, .agg [.int .i64 0, .int .i64 0]), (34, .bool true), (35, .bool true), (36, l3 none w10.1), (37, .int .i64 (w10.1.length : Int)), (38, .bool true), (39, .bool true), (40, .bool true), (41, .int .i64 w7.2), (42, .bool b), (43, .bool b), (44, .bool b)]) (w7.2 == 2) (by kernel_rfl) (fun hb => ?_) (fun hb => ?_)
        · replace h := cond_t hb h
          refine WO.boolK 4 (fun b => [(0, .int .i64 a1), (1, l40 none a2), (2, .int .i64 a3), (7, .ptr (.agg [.int .i64 w7.1.f_From, .int .i64 w7.1.f_To])), (8, .int .i64 w7.2), (9, l3 none w10.1), (10, .int .i64 w10.2), (31, .bool (!w13)), (32, .agg [.int .i64 w7.1.f_From, .int .i64 w7.1.f_To]), (33, .agg [.int .i64 0, .int .i64 0]), (34, .bool true), (35, .bool true), (36, l3 none w10.1), (37, .int .i64 (w10.1.length : Int)), (38, .bool true), (39, .bool true), (40, .bool true), (41, .int .i64 w7.2), (42, .bool true), (43, .bool true), (44, .bool true), (45, .int .i64 w10.2), (46, .bool b), (47, .bool b), (48, .bool b)]) (w10.2 == 2) (by kernel_rfl) (fun hb => ?_) (fun hb => ?_)
          · replace h := cond_t hb h
            obtain ⟨w15, hw15, h⟩ := bind_some h
            refine WO.callK 0 (F := 21) (l := []) (C := []) (r := .bool w15) (by kernel_rfl) (by kernel_rfl) (run_lw1_awake fuel w15 hw15) (e1 := [(0, .int .i64 a1), (1, l40 none a2), (2, .int .i64 a3), (7, .ptr (.agg [.int .i64 w7.1.f_From, .int .i64 w7.1.f_To])), (8, .int .i64 w7.2), (9, l3 none w10.1), (10, .int .i64 w10.2), (31, .bool (!w13)), (32, .agg [.int .i64 w7.1.f_From, .int .i64 w7.1.f_To]), (33, .agg [.int .i64 0, .int .i64 0]), (34, .bool true), (35, .bool true), (36, l3 none w10.1), (37, .int .i64 (w10.1.length : Int)), (38, .bool true), (39, .bool true), (40, .bool true), (41, .int .i64 w7.2), (42, .bool true), (43, .bool true), (44, .bool true), (45, .int .i64 w10.2), (46, .bool true), (47, .bool true), (48, .bool true), (49, .bool w15)]) (by kernel_rfl) ?_
            refine WO.fin [6] [] [] [] (e2 := [(6, .bool w15)]) (by kernel_rfl) (fun _ h => h) ?_
            exact hK14 w15 h
          replace h := cond_f hb h
          refine WO.fin [6] [] [] [] (e2 := [(6, .bool false)]) (by kernel_rfl) (fun _ h => h) ?_
          exact hK14 false h
        replace h := cond_f hb h
        refine WO.fin [6] [] [] [] (e2 := [(6, .bool false)]) (by kernel_rfl) (fun _ h => h) ?_
        exact hK14 false h
      replace h := cond_f hb h
      refine WO.fin [6] [] [] [] (e2 := [(6, .bool false)]) (by kernel_rfl) (fun _ h => h) ?_
      exact hK14 false h
    replace h := cond_f hb h
    refine WO.fin [6] [] [] [] (e2 := [(6, .bool false)]) (by kernel_rfl) (fun _ h => h) ?_
    exact hK14 false h
  replace h := cond_f hb h
  refine W.skip ?_
  refine W.weak [0, 1, 2, 7, 8, 9, 10] [] [] [] (env' := [(0, .int .i64 a1), (1, l40 none a2), (2, .int .i64 a3), (7, .ptr (.agg [.int .i64 w7.1.f_From, .int .i64 w7.1.f_To])), (8, .int .i64 w7.2), (9, l3 none w10.1), (10, .int .i64 w10.2)]) (by kernel_rfl) ?_
  refine W.seq ?_
  refine W.seq ?_
  refine W.join (σ := (Bool)) (fun s => [(0, .int .i64 a1), (1, l40 none a2), (2, .int .i64 a3), (7, .ptr (.agg [.int .i64 w7.1.f_From, .int .i64 w7.1.f_To])), (8, .int .i64 w7.2), (60, .bool s)]) (fun s => (lw1_DependDecomposes_j18 fuel a1 a2 a3 w7) s = some r) (fun s h => ?_) (fun hK18 => ?_)
  · obtain ⟨v21, rfl⟩ : ∃ x, x = s := ⟨s, rfl⟩
    have h : (lw1_DependDecomposes_j18 fuel a1 a2 a3 w7) v21 = some r := h
    unfold lw1_DependDecomposes_j18 at h
    refine W.condB v21 (by kernel_rfl) (fun hb => ?_) (fun hb => ?_)
    · replace h := cond_t hb h
      refine W.seq ?_
      refine W.regT [6] [] [] [] (e2 := [(6, .bool false)]) (by kernel_rfl) (by kernel_rfl) (fun _ h => h) ?_
      refine W.weak [6] [] [] [] (env' := [(6, .bool false)]) (by kernel_rfl) ?_
      have hr : aresults Try.prog Try.f14 [(6, .bool false)] = some (.bool false) := by kernel_rfl
      cases h
      exact W.ret hr
    replace h := cond_f hb h
    refine W.skip ?_
    refine W.weak [0, 1, 2, 7, 8] [] [] [] (env' := [(0, .int .i64 a1), (1, l40 none a2), (2, .int .i64 a3), (7, .ptr (.agg [.int .i64 w7.1.f_From, .int .i64 w7.1.f_To])), (8, .int .i64 w7.2)]) (by kernel_rfl) ?_
    refine W.seq ?_
    refine W.seq ?_
    refine W.region (by kernel_rfl) ?_
    obtain ⟨w25, hw25, h⟩ := bind_some h
    refine WO.callK 2 (F := 37) (l := [.int .i64 a1, .int .i64 a3]) (C := []) (r := .bool w25) (by kernel_rfl) (by kernel_rfl) (run_rf1_Set a1 a3 w25 hw25) (e1 := [(0, .int .i64 a1), (1, l40 none a2), (2, .int .i64 a3), (7, .ptr (.agg [.int .i64 w7.1.f_From, .int .i64 w7.1.f_To])), (8, .int .i64 w7.2), (61, .int .i64 a1), (62, .int .i64 a3), (63, .bool w25)]) (by kernel_rfl) ?_
    refine WO.fin [1, 2, 7, 8, 64] [] [] [] (e2 := [(1, l40 none a2), (2, .int .i64 a3), (7, .ptr (.agg [.int .i64 w7.1.f_From, .int .i64 w7.1.f_To])), (8, .int .i64 w7.2), (64, .bool (!w25))]) (by kernel_rfl) (fun _ h => h) ?_
    refine W.condB (!w25) (by kernel_rfl) (fun hb => ?_) (fun hb => ?_)
    · replace h := cond_t hb h
      refine W.seq ?_
      refine W.join (σ := (Bool)) (fun s => [(6, .bool s)]) (fun s => (lw1_DependDecomposes_j26) s = some r) (fun s h => ?_) (fun hK26 => ?_)
      · obtain ⟨v28, rfl⟩ : ∃ x, x = s := ⟨s, rfl⟩
        have h : (lw1_DependDecomposes_j26) v28 = some r := h
        unfold lw1_DependDecomposes_j26 at h
        refine W.weak [6] [] [] [] (env' := [(6, .bool v28)]) (by kernel_rfl) ?_
        have hr : aresults Try.prog Try.f14 [(6, .bool v28)] = some (.bool v28) := by kernel_rfl
        cases h
        exact W.ret hr
      refine W.region (by kernel_rfl) ?_
      refine WO.boolK 4 (fun b => [(1, l40 none a2), (2, .int .i64 a3), (7, .ptr (.agg [.int .i64 w7.1.f_From, .int .i64 w7.1.f_To])), (8, .int .i64 w7.2), (64, .bool (!w25)), (65, .agg [.int .i64 w7.1.f_From, .int .i64 w7.1.f_To]), (66, .agg [.int .i64 0, .int .i64 0]), (67, .bool b), (68, .bool b)]) ((w7.1.f_From == 0) && ((w7.1.f_To == 0) && true)) (by kernel_rfl) (fun hb => ?_) (fun hb => ?_)
      · replace h := cond_t hb h
        refine WO.boolK 4 (fun b => [(1, l40 none a2), (2, .int .i64 a3), (7, .ptr (.agg [.int .i64 w7.1.f_From, .int .i64 w7.1.f_To])), (8, .int .i64 w7.2), (64, .bool (!w25)), (65, .agg [.int .i64 w7.1.f_From, .int .i64 w7.1.f_To]), (66, .agg [.int .i64 0, .int .i64 0]), (67, .bool true), (68, .bool true), (69, .int .i64 w7.2), (70, .bool b), (71, .bool b), (72, .bool b)]) (w7.2 == 2) (by kernel_rfl) (fun hb => ?_) (fun hb => ?_)
        · replace h := cond_t hb h
          obtain ⟨w27, hw27, h⟩ := bind_some h
          refine WO.callK 0 (F := 21) (l := []) (C := []) (r := .bool w27) (by kernel_rfl) (by kernel_rfl) (run_lw1_awake fuel w27 hw27) (e1 := [(1, l40 none a2), (2, .int .i64 a3), (7, .ptr (.agg [.int .i64 w7.1.f_From, .int .i64 w7.1.f_To])), (8, .int .i64 w7.2), (64, .bool (!w25)), (65, .agg [.int .i64 w7.1.f_From, .int .i64 w7.1.f_To]), (66, .agg [.int .i64 0, .int .i64 0]), (67, .bool true), (68, .bool true), (69, .int .i64 w7.2), (70, .bool true), (71, .bool true), (72, .bool true), (73, .bool w27)]) (by kernel_rfl) ?_
          refine WO.fin [6] [] [] [] (e2 := [(6, .bool w27)]) (by kernel_rfl) (fun _ h => h) ?_
          exact hK26 w27 h
        replace h := cond_f hb h
        refine WO.fin [6] [] [] [] (e2 := [(6, .bool false)]) (by kernel_rfl) (fun _ h => h) ?_
        exact hK26 false h
      replace h := cond_f hb h
      refine WO.fin [6] [] [] [] (e2 := [(6, .bool false)]) (by kernel_rfl) (fun _ h => h) ?_
      exact hK26 false h
    replace h := cond_f hb h
    refine W.skip ?_
    refine W.weak [1, 2, 7, 8] [] [] [] (env' := [(1, l40 none a2), (2, .int .i64 a3), (7, .ptr (.agg [.int .i64 w7.1.f_From, .int .i64 w7.1.f_To])), (8, .int .i64 w7.2)]) (by kernel_rfl) ?_
    refine W.seq ?_
    refine W.region (by kernel_rfl) ?_
    obtain ⟨w30, hw30, h⟩ := bind_some h
    refine WO.callK 2 (F := 47) (l := [l40 none a2, .int .i64 a3]) (C := []) (r := .tup [.agg [.int .i64 w30.1.f_From, .int .i64 w30.1.f_To], .int .i64 w30.2]) (by kernel_rfl) (by kernel_rfl) (run_rf1_Violation a2 a3 w30 hw30) (e1 := [(1, l40 none a2), (2, .int .i64 a3), (7, .ptr (.agg [.int .i64 w7.1.f_From, .int .i64 w7.1.f_To])), (8, .int .i64 w7.2), (76, l40 none a2), (77, .int .i64 a3), (78, .tup [.agg [.int .i64 w30.1.f_From, .int .i64 w30.1.f_To], .int .i64 w30.2])]) (by kernel_rfl) ?_
    refine WO.fin [7, 8, 11, 12] [11] [] [] (e2 := [(7, .ptr (.agg [.int .i64 w7.1.f_From, .int .i64 w7.1.f_To])), (8, .int .i64 w7.2), (11, .ptr (.agg [.int .i64 w30.1.f_From, .int .i64 w30.1.f_To])), (12, .int .i64 w30.2)]) (by kernel_rfl) (fun _ h => h) ?_
    refine W.seq ?_
    refine W.join (σ := (Bool)) (fun s => [(6, .bool s)]) (fun s => (lw1_DependDecomposes_j31) s = some r) (fun s h => ?_) (fun hK31 => ?_)
    · obtain ⟨v34, rfl⟩ : ∃ x, x = s := ⟨s, rfl⟩
      have h : (lw1_DependDecomposes_j31) v34 = some r := h
      unfold lw1_DependDecomposes_j31 at h
      refine W.weak [6] [] [] [] (env' := [(6, .bool v34)]) (by kernel_rfl) ?_
      have hr : aresults Try.prog Try.f14 [(6, .bool v34)] = some (.bool v34) := by kernel_rfl
      cases h
      exact W.ret hr
    refine W.region (by kernel_rfl) ?_
    obtain ⟨w32, hw32, h⟩ := bind_some h
    refine WO.callK 2 (F := 25) (l := [.agg [.int .i64 w30.1.f_From, .int .i64 w30.1.f_To]]) (C := []) (r := .agg [.int .i64 w32.f_From, .int .i64 w32.f_To]) (by kernel_rfl) (by kernel_rfl) (run_lw1_dep w30.1 w32 hw32) (e1 := [(7, .ptr (.agg [.int .i64 w7.1.f_From, .int .i64 w7.1.f_To])), (8, .int .i64 w7.2), (11, .ptr (.agg [.int .i64 w30.1.f_From, .int .i64 w30.1.f_To])), (12, .int .i64 w30.2), (81, .agg [.int .i64 w7.1.f_From, .int .i64 w7.1.f_To]), (82, .agg [.int .i64 w30.1.f_From, .int .i64 w30.1.f_To]), (83, .agg [.int .i64 w32.f_From, .int .i64 w32.f_To])]) (by kernel_rfl) ?_
    refine WO.boolK 2 (fun b => [(7, .ptr (.agg [.int .i64 w7.1.f_From, .int .i64 w7.1.f_To])), (8, .int .i64 w7.2), (11, .ptr (.agg [.int .i64 w30.1.f_From, .int .i64 w30.1.f_To])), (12, .int .i64 w30.2), (81, .agg [.int .i64 w7.1.f_From, .int .i64 w7.1.f_To]), (82, .agg [.int .i64 w30.1.f_From, .int .i64 w30.1.f_To]), (83, .agg [.int .i64 w32.f_From, .int .i64 w32.f_To]), (84, .bool b), (85, .bool b)]) ((w7.1.f_From == w32.f_From) && ((w7.1.f_To == w32.f_To) && true)) (by kernel_rfl) (fun hb => ?_) (fun hb => ?_)
    · replace h := cond_t hb h
      refine WO.boolK 5 (fun b => [(7, .ptr (.agg [.int .i64 w7.1.f_From, .int .i64 w7.1.f_To])), (8, .int .i64 w7.2), (11, .ptr (.agg [.int .i64 w30.1.f_From, .int .i64 w30.1.f_To])), (12, .int .i64 w30.2), (81, .agg [.int .i64 w7.1.f_From, .int .i64 w7.1.f_To]), (82, .agg [.int .i64 w30.1.f_From, .int .i64 w30.1.f_To]), (83, .agg [.int .i64 w32.f_From, .int .i64 w32.f_To]), (84, .bool true), (85, .bool true), (86, .int .i64 w7.2), (87, .int .i64 w30.2), (88, .bool b), (89, .bool b), (90, .bool b)]) (w7.2 == w30.2) (by kernel_rfl) (fun hb => ?_) (fun hb => ?_)
      · replace h := cond_t hb h
        obtain ⟨w33, hw33, h⟩ := bind_some h
        refine WO.callK 0 (F := 21) (l := []) (C := []) (r := .bool w33) (by kernel_rfl) (by kernel_rfl) (run_lw1_awake fuel w33 hw33) (e1 := [(7, .ptr (.agg [.int .i64 w7.1.f_From, .int .i64 w7.1.f_To])), (8, .int .i64 w7.2), (11, .ptr (.agg [.int .i64 w30.1.f_From, .int .i64 w30.1.f_To])), (12, .int .i64 w30.2), (81, .agg [.int .i64 w7.1.f_From, .int .i64 w7.1.f_To]), (82, .agg [.int .i64 w30.1.f_From, .int .i64 w30.1.f_To]), (83, .agg [.int .i64 w32.f_From, .int .i64 w32.f_To]), (84, .bool true), (85, .bool true), (86, .int .i64 w7.2), (87, .int .i64 w30.2), (88, .bool true), (89, .bool true), (90, .bool true), (91, .bool w33)]) (by kernel_rfl) ?_
        refine WO.fin [6] [] [] [] (e2 := [(6, .bool w33)]) (by kernel_rfl) (fun _ h => h) ?_
        exact hK31 w33 h
      replace h := cond_f hb h
      refine WO.fin [6] [] [] [] (e2 := [(6, .bool false)]) (by kernel_rfl) (fun _ h => h) ?_
      exact hK31 false h
    replace h := cond_f hb h
    refine WO.fin [6] [] [] [] (e2 := [(6, .bool false)]) (by kernel_rfl) (fun _ h => h) ?_
    exact hK31 false h
  refine W.region (by kernel_rfl) ?_
  obtain ⟨w19, hw19, h⟩ := bind_some h
  refine WO.callK 3 (F := 46) (l := [.int .i64 a1, l40 none a2]) (C := []) (r := l3 (some 1) w19) (by kernel_rfl) (by kernel_rfl) (run_rf1_Decompose fuel a1 a2 w19 hw19) (e1 := [(0, .int .i64 a1), (1, l40 none a2), (2, .int .i64 a3), (7, .ptr (.agg [.int .i64 w7.1.f_From, .int .i64 w7.1.f_To])), (8, .int .i64 w7.2), (9, l3 none w10.1), (10, .int .i64 w10.2), (51, l3 none w10.1), (52, .int .i64 a1), (53, l40 none a2), (54, l3 (some 54) w19)]) (by kernel_rfl) ?_
  obtain ⟨w20, hw20, h⟩ := bind_some h
  refine WO.callK 0 (F := 45) (l := [l3 none w10.1, l3 none w19]) (C := []) (r := .bool w20) (by kernel_rfl) (by kernel_rfl) (run_sl_Equal_int w10.1 w19 w20 hw20) (e1 := [(0, .int .i64 a1), (1, l40 none a2), (2, .int .i64 a3), (7, .ptr (.agg [.int .i64 w7.1.f_From, .int .i64 w7.1.f_To])), (8, .int .i64 w7.2), (9, l3 none w10.1), (10, .int .i64 w10.2), (51, l3 none w10.1), (52, .int .i64 a1), (53, l40 none a2), (54, l3 (some 54) w19), (55, .bool w20)]) (by kernel_rfl) ?_
  refine WO.boolK 2 (fun b => [(0, .int .i64 a1), (1, l40 none a2), (2, .int .i64 a3), (7, .ptr (.agg [.int .i64 w7.1.f_From, .int .i64 w7.1.f_To])), (8, .int .i64 w7.2), (9, l3 none w10.1), (10, .int .i64 w10.2), (51, l3 none w10.1), (52, .int .i64 a1), (53, l40 none a2), (54, l3 (some 54) w19), (55, .bool w20), (56, .bool b), (57, .bool b)]) (!w20) (by kernel_rfl) (fun hb => ?_) (fun hb => ?_)
  · replace h := cond_t hb h
    refine WO.fin [0, 1, 2, 7, 8, 60] [] [] [] (e2 := [(0, .int .i64 a1), (1, l40 none a2), (2, .int .i64 a3), (7, .ptr (.agg [.int .i64 w7.1.f_From, .int .i64 w7.1.f_To])), (8, .int .i64 w7.2), (60, .bool true)]) (by kernel_rfl) (fun _ h => h) ?_
    exact hK18 true h
  replace h := cond_f hb h
  refine WO.fin [0, 1, 2, 7, 8, 60] [] [] [] (e2 := [(0, .int .i64 a1), (1, l40 none a2), (2, .int .i64 a3), (7, .ptr (.agg [.int .i64 w7.1.f_From, .int .i64 w7.1.f_To])), (8, .int .i64 w7.2), (60, .bool (w10.2 != 0))]) (by kernel_rfl) (fun _ h => h) ?_
  exact hK18 (w10.2 != 0) h

end Go.AM
