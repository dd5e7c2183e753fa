/- PRINTED by gen.py: pure functions and the proofs that the code computes them. No statement of the seat is proved here. -/
import Derived.Test.YtombfedoinhafaaG1
set_option linter.unusedVariables false
namespace Go.AM
open Go.Proofs
def lw1_DependMinimal_j11 (v13 : Bool) : Option Bool :=
  (some v13)
def lw1_DependMinimal_j44 (v47 : Bool) : Option Bool :=
  (some v47)
def lw1_DependMinimal_j21 (fuel : Nat) (a1 : Int) (w19 : (Int × Int)) (v43 : Bool) : Option Bool :=
  (bif (w19.2 == 0) then (chk (decide (0 ≤ a1)) (bif (v43 == (w19.1 == (IntKind.wrap .i64 ((iShl .i64 1 a1) - 1)))) then ((lw1_awake fuel).bind fun w46 => ((lw1_DependMinimal_j44) w46)) else ((lw1_DependMinimal_j44) false))) else ((lw1_DependMinimal_j44) false))
def lw1_DependMinimal_j24 (N1 : (Bool → Option Bool)) (v42 : Bool) : Option Bool :=
  (N1 v42)
def lw1_DependMinimal_j34 (a1 : Int) (x1 : Int) (a3 : Int) (v23 : Bool) (K24 : (Bool → Option Bool)) : Option Bool :=
  (bif v23 then (K24 true) else (K24 ((iAndNot .i64 x1 (IntKind.wrap .i64 (((IntKind.wrap .u64 a3)).tmod (iShl .u64 1 (IntKind.wrap .u64 a1))))) == 0)))
def lw1_DependMinimal_j39 (N2 : (Option Bool)) (v40 : Bool) : Option Bool :=
  (bif v40 then (some false) else N2)
def lw1_DependMinimal_l2 (x1 : Int) (K34 : (Option Bool)) : List Int → Nat → Option Bool
  | [], k2 => K34
  | x2 :: r2, k2 => (bif ((iAndNot .i64 x1 x2) == 0) then ((lw1_DependMinimal_j39 (lw1_DependMinimal_l2 x1 K34 r2 (k2 + 1))) true) else ((lw1_DependMinimal_j39 (lw1_DependMinimal_l2 x1 K34 r2 (k2 + 1))) ((iAndNot .i64 x2 x1) == 0)))
def lw1_DependMinimal_j30 (a1 : Int) (k1 : Nat) (x1 : Int) (a3 : Int) (w7 : ((List Int) × Int)) (v23 : Bool) (K24 : (Bool → Option Bool)) (v32 : Bool) : Option Bool :=
  (bif v32 then (some false) else ((sub w7.1 0 (k1 : Int)).bind fun e36 => (chk (lenOk e36) (lw1_DependMinimal_l2 x1 (lw1_DependMinimal_j34 a1 x1 a3 v23 K24) e36 0))))
def lw1_DependMinimal_l1 (fuel : Nat) (a1 : Int) (a2 : (List rf1Dep)) (a3 : Int) (w7 : ((List Int) × Int)) (K21 : (Bool → Option Bool)) : List Int → Nat → Bool → Option Bool
  | [], k1, v23 => (K21 v23)
  | x1 :: r1, k1, v23 => ((lw1_deps a2).bind fun w27 => ((dp_Closure fuel a1 w27 x1).bind fun w28 => (bif (w28.2 != 0) then ((lw1_DependMinimal_j30 a1 k1 x1 a3 w7 v23 (lw1_DependMinimal_j24 (lw1_DependMinimal_l1 fuel a1 a2 a3 w7 K21 r1 (k1 + 1)))) true) else (chk (decide (0 ≤ a1)) ((lw1_DependMinimal_j30 a1 k1 x1 a3 w7 v23 (lw1_DependMinimal_j24 (lw1_DependMinimal_l1 fuel a1 a2 a3 w7 K21 r1 (k1 + 1)))) (w28.1 != (IntKind.wrap .i64 ((iShl .i64 1 a1) - 1))))))))
def lw1_DependMinimal_j9 (fuel : Nat) (a1 : Int) (a2 : (List rf1Dep)) (a3 : Int) (w7 : ((List Int) × Int)) (v10 : Bool) : Option Bool :=
  (bif v10 then (bif (w7.2 == 2) then ((lw1_awake fuel).bind fun w12 => ((lw1_DependMinimal_j11) w12)) else ((lw1_DependMinimal_j11) false)) else (chk (decide (0 ≤ (IntKind.wrap .u64 a1))) (chk (decide ((iShl .u64 1 (IntKind.wrap .u64 a1)) ≠ 0)) ((lw1_deps a2).bind fun w18 => ((dp_Closure fuel a1 w18 (IntKind.wrap .i64 (((IntKind.wrap .u64 a3)).tmod (iShl .u64 1 (IntKind.wrap .u64 a1))))).bind fun w19 => (chk (lenOk w7.1) (lw1_DependMinimal_l1 fuel a1 a2 a3 w7 (lw1_DependMinimal_j21 fuel a1 w19) w7.1 0 false)))))))
def lw1_DependMinimal (fuel : Nat) (a1 : Int) (a2 : (List rf1Dep)) (a3 : Int) : Option Bool :=
  ((lw1_deps a2).bind fun w6 => ((dp_Keys fuel a1 w6).bind fun w7 => (bif (w7.2 != 0) then ((lw1_DependMinimal_j9 fuel a1 a2 a3 w7) true) else (bif (decide (a1 < 1)) then ((lw1_DependMinimal_j9 fuel a1 a2 a3 w7) true) else ((lw1_DependMinimal_j9 fuel a1 a2 a3 w7) (decide (a1 > 8)))))))
theorem run_lw1_DependMinimal (fuel : Nat) (a1 : Int) (a2 : (List rf1Dep)) (a3 : Int) (r : Bool) (h : lw1_DependMinimal fuel a1 a2 a3 = some r) : Run Try.prog (.call 5 [.int .i64 a1, l40 none a2, .int .i64 a3] (.bool r)) := by
  refine call_of_W Try.func5 rfl (by kernel_rfl) (env0 := [(0, .int .i64 a1), (1, l40 none a2), (2, .int .i64 a3)]) (by kernel_rfl) ?_
  unfold lw1_DependMinimal at h
  refine W.seq ?_
  refine W.regT [0, 1, 2] [] [] [] (e2 := [(0, .int .i64 a1), (1, l40 none a2), (2, .int .i64 a3)]) (by kernel_rfl) (by kernel_rfl) (fun _ h => h) ?_
  refine W.seq ?_
  refine W.region (by kernel_rfl) ?_
  obtain ⟨w6, hw6, h⟩ := bind_some h
  refine WO.callK 2 (F := 20) (l := [l40 none a2]) (C := []) (r := l33 (some 1) w6) (by kernel_rfl) (by kernel_rfl) (run_lw1_deps a2 w6 hw6) (e1 := [(0, .int .i64 a1), (1, l40 none a2), (2, .int .i64 a3), (18, .int .i64 a1), (19, l40 none a2), (20, l33 (some 20) w6)]) (by kernel_rfl) ?_
  obtain ⟨w7, hw7, h⟩ := bind_some h
  refine WO.callK 0 (F := 23) (l := [.int .i64 a1, l33 none w6]) (C := []) (r := .tup [l3 none w7.1, .int .i64 w7.2]) (by kernel_rfl) (by kernel_rfl) (run_dp_Keys fuel a1 w6 w7 hw7) (e1 := [(0, .int .i64 a1), (1, l40 none a2), (2, .int .i64 a3), (18, .int .i64 a1), (19, l40 none a2), (20, l33 (some 20) w6), (21, .tup [l3 none w7.1, .int .i64 w7.2])]) (by kernel_rfl) ?_
  refine WO.fin [0, 1, 2, 7, 8] [] [] [] (e2 := [(0, .int .i64 a1), (1, l40 none a2), (2, .int .i64 a3), (7, l3 none w7.1), (8, .int .i64 w7.2)]) (by kernel_rfl) (fun _ h => h) ?_
  refine W.seq ?_
  refine W.seq ?_
  refine W.join (σ := (Bool)) (fun s => [(0, .int .i64 a1), (1, l40 none a2), (2, .int .i64 a3), (7, l3 none w7.1), (8, .int .i64 w7.2), (33, .bool s)]) (fun s => (lw1_DependMinimal_j9 fuel a1 a2 a3 w7) s = some r) (fun s h => ?_) (fun hK9 => ?_)
  · obtain ⟨v10, rfl⟩ : ∃ x, x = s := ⟨s, rfl⟩
    have h : (lw1_DependMinimal_j9 fuel a1 a2 a3 w7) v10 = some r := h
    unfold lw1_DependMinimal_j9 at h
    refine W.condB v10 (by kernel_rfl) (fun hb => ?_) (fun hb => ?_)
    · replace h := cond_t hb h
      refine W.seq ?_
      refine W.join (σ := (Bool)) (fun s => [(6, .bool s)]) (fun s => (lw1_DependMinimal_j11) s = some r) (fun s h => ?_) (fun hK11 => ?_)
      · obtain ⟨v13, rfl⟩ : ∃ x, x = s := ⟨s, rfl⟩
        have h : (lw1_DependMinimal_j11) v13 = some r := h
        unfold lw1_DependMinimal_j11 at h
        refine W.weak [6] [] [] [] (env' := [(6, .bool v13)]) (by kernel_rfl) ?_
        have hr : aresults Try.prog Try.f5 [(6, .bool v13)] = some (.bool v13) := by kernel_rfl
        cases h
        exact W.ret hr
      refine W.region (by kernel_rfl) ?_
      refine WO.boolK 3 (fun b => [(0, .int .i64 a1), (1, l40 none a2), (2, .int .i64 a3), (7, l3 none w7.1), (8, .int .i64 w7.2), (33, .bool v10), (34, .int .i64 w7.2), (35, .bool b), (36, .bool b)]) (w7.2 == 2) (by kernel_rfl) (fun hb => ?_) (fun hb => ?_)
      · replace h := cond_t hb h
        obtain ⟨w12, hw12, h⟩ := bind_some h
        refine WO.callK 0 (F := 21) (l := []) (C := []) (r := .bool w12) (by kernel_rfl) (by kernel_rfl) (run_lw1_awake fuel w12 hw12) (e1 := [(0, .int .i64 a1), (1, l40 none a2), (2, .int .i64 a3), (7, l3 none w7.1), (8, .int .i64 w7.2), (33, .bool v10), (34, .int .i64 w7.2), (35, .bool true), (36, .bool true), (37, .bool w12)]) (by kernel_rfl) ?_
        refine WO.fin [6] [] [] [] (e2 := [(6, .bool w12)]) (by kernel_rfl) (fun _ h => h) ?_
        exact hK11 w12 h
      replace h := cond_f hb h
      refine WO.fin [6] [] [] [] (e2 := [(6, .bool false)]) (by kernel_rfl) (fun _ h => h) ?_
      exact hK11 false h
    replace h := cond_f hb h
    refine W.skip ?_
    refine W.weak [0, 1, 2, 7] [] [] [] (env' := [(0, .int .i64 a1), (1, l40 none a2), (2, .int .i64 a3), (7, l3 none w7.1)]) (by kernel_rfl) ?_
    refine W.seq ?_
    refine W.region (by kernel_rfl) ?_
    obtain ⟨hc15, h⟩ := chk_some h
    refine WO.pureK 4 (if (IntKind.wrap .u64 a1) < 0 then none else some (.int .u64 (iShl .u64 1 (IntKind.wrap .u64 a1)))) (v := .int .u64 (iShl .u64 1 (IntKind.wrap .u64 a1))) (by kernel_rfl) (if_neg (not_lt_of_chk hc15)) (e1 := [(0, .int .i64 a1), (1, l40 none a2), (2, .int .i64 a3), (7, l3 none w7.1), (39, .int .i64 a3), (40, .int .u64 (IntKind.wrap .u64 a3)), (41, .int .i64 a1), (42, .int .u64 (IntKind.wrap .u64 a1)), (43, .int .u64 (iShl .u64 1 (IntKind.wrap .u64 a1)))]) (by kernel_rfl) ?_
    obtain ⟨hc16, h⟩ := chk_some h
    refine WO.pureK 0 (Option.map (AV.int .u64) (if (iShl .u64 1 (IntKind.wrap .u64 a1)) = 0 then none else some (((IntKind.wrap .u64 a3)).tmod (iShl .u64 1 (IntKind.wrap .u64 a1))))) (v := .int .u64 (((IntKind.wrap .u64 a3)).tmod (iShl .u64 1 (IntKind.wrap .u64 a1)))) (by kernel_rfl) (by rw [if_neg (ne_of_chk hc16)]; rfl) (e1 := [(0, .int .i64 a1), (1, l40 none a2), (2, .int .i64 a3), (7, l3 none w7.1), (39, .int .i64 a3), (40, .int .u64 (IntKind.wrap .u64 a3)), (41, .int .i64 a1), (42, .int .u64 (IntKind.wrap .u64 a1)), (43, .int .u64 (iShl .u64 1 (IntKind.wrap .u64 a1))), (44, .int .u64 (((IntKind.wrap .u64 a3)).tmod (iShl .u64 1 (IntKind.wrap .u64 a1))))]) (by kernel_rfl) ?_
    refine WO.fin [0, 1, 2, 7] [] [] [] (e2 := [(0, .int .i64 a1), (1, l40 none a2), (2, .int .i64 (IntKind.wrap .i64 (((IntKind.wrap .u64 a3)).tmod (iShl .u64 1 (IntKind.wrap .u64 a1))))), (7, l3 none w7.1)]) (by kernel_rfl) (fun _ h => h) ?_
    refine W.seq ?_
    refine W.region (by kernel_rfl) ?_
    obtain ⟨w18, hw18, h⟩ := bind_some h
    refine WO.callK 2 (F := 20) (l := [l40 none a2]) (C := []) (r := l33 (some 1) w18) (by kernel_rfl) (by kernel_rfl) (run_lw1_deps a2 w18 hw18) (e1 := [(0, .int .i64 a1), (1, l40 none a2), (2, .int .i64 (IntKind.wrap .i64 (((IntKind.wrap .u64 a3)).tmod (iShl .u64 1 (IntKind.wrap .u64 a1))))), (7, l3 none w7.1), (47, .int .i64 a1), (48, l40 none a2), (49, l33 (some 49) w18)]) (by kernel_rfl) ?_
    obtain ⟨w19, hw19, h⟩ := bind_some h
    refine WO.callK 1 (F := 19) (l := [.int .i64 a1, l33 none w18, .int .i64 (IntKind.wrap .i64 (((IntKind.wrap .u64 a3)).tmod (iShl .u64 1 (IntKind.wrap .u64 a1))))]) (C := []) (r := .tup [.int .i64 w19.1, .int .i64 w19.2]) (by kernel_rfl) (by kernel_rfl) (run_dp_Closure fuel a1 w18 (IntKind.wrap .i64 (((IntKind.wrap .u64 a3)).tmod (iShl .u64 1 (IntKind.wrap .u64 a1)))) w19 hw19) (e1 := [(0, .int .i64 a1), (1, l40 none a2), (2, .int .i64 (IntKind.wrap .i64 (((IntKind.wrap .u64 a3)).tmod (iShl .u64 1 (IntKind.wrap .u64 a1))))), (7, l3 none w7.1), (47, .int .i64 a1), (48, l40 none a2), (49, l33 (some 49) w18), (50, .int .i64 (IntKind.wrap .i64 (((IntKind.wrap .u64 a3)).tmod (iShl .u64 1 (IntKind.wrap .u64 a1))))), (51, .tup [.int .i64 w19.1, .int .i64 w19.2])]) (by kernel_rfl) ?_
    refine WO.fin [0, 1, 2, 7, 8, 9] [] [] [] (e2 := [(0, .int .i64 a1), (1, l40 none a2), (2, .int .i64 (IntKind.wrap .i64 (((IntKind.wrap .u64 a3)).tmod (iShl .u64 1 (IntKind.wrap .u64 a1))))), (7, l3 none w7.1), (8, .int .i64 w19.2), (9, .int .i64 w19.1)]) (by kernel_rfl) (fun _ h => h) ?_
    refine W.seq ?_
    refine W.regT [0, 1, 2, 7, 8, 9, 10] [] [] [] (e2 := [(0, .int .i64 a1), (1, l40 none a2), (2, .int .i64 (IntKind.wrap .i64 (((IntKind.wrap .u64 a3)).tmod (iShl .u64 1 (IntKind.wrap .u64 a1))))), (7, l3 none w7.1), (8, .int .i64 w19.2), (9, .int .i64 w19.1), (10, .bool false)]) (by kernel_rfl) (by kernel_rfl) (fun _ h => h) ?_
    refine W.seq ?_
    refine W.join (σ := (Bool)) (fun s => [(0, .int .i64 a1), (8, .int .i64 w19.2), (9, .int .i64 w19.1), (10, .bool s)]) (fun s => (lw1_DependMinimal_j21 fuel a1 w19) s = some r) (fun s h => ?_) (fun hK21 => ?_)
    · obtain ⟨v43, rfl⟩ : ∃ x, x = s := ⟨s, rfl⟩
      have h : (lw1_DependMinimal_j21 fuel a1 w19) v43 = some r := h
      unfold lw1_DependMinimal_j21 at h
      refine W.seq ?_
      refine W.join (σ := (Bool)) (fun s => [(6, .bool s)]) (fun s => (lw1_DependMinimal_j44) s = some r) (fun s h => ?_) (fun hK44 => ?_)
      · obtain ⟨v47, rfl⟩ : ∃ x, x = s := ⟨s, rfl⟩
        have h : (lw1_DependMinimal_j44) v47 = some r := h
        unfold lw1_DependMinimal_j44 at h
        refine W.weak [6] [] [] [] (env' := [(6, .bool v47)]) (by kernel_rfl) ?_
        have hr : aresults Try.prog Try.f5 [(6, .bool v47)] = some (.bool v47) := by kernel_rfl
        cases h
        exact W.ret hr
      refine W.region (by kernel_rfl) ?_
      refine WO.boolK 3 (fun b => [(0, .int .i64 a1), (8, .int .i64 w19.2), (9, .int .i64 w19.1), (10, .bool v43), (105, .int .i64 w19.2), (106, .bool b), (107, .bool b)]) (w19.2 == 0) (by kernel_rfl) (fun hb => ?_) (fun hb => ?_)
      · replace h := cond_t hb h
        obtain ⟨hc45, h⟩ := chk_some h
        refine WO.pureK 3 (if a1 < 0 then none else some (.int .i64 (iShl .i64 1 a1))) (v := .int .i64 (iShl .i64 1 a1)) (by kernel_rfl) (if_neg (not_lt_of_chk hc45)) (e1 := [(0, .int .i64 a1), (8, .int .i64 w19.2), (9, .int .i64 w19.1), (10, .bool v43), (105, .int .i64 w19.2), (106, .bool true), (107, .bool true), (108, .bool v43), (109, .int .i64 w19.1), (110, .int .i64 a1), (111, .int .i64 (iShl .i64 1 a1))]) (by kernel_rfl) ?_
        refine WO.boolK 5 (fun b => [(0, .int .i64 a1), (8, .int .i64 w19.2), (9, .int .i64 w19.1), (10, .bool v43), (105, .int .i64 w19.2), (106, .bool true), (107, .bool true), (108, .bool v43), (109, .int .i64 w19.1), (110, .int .i64 a1), (111, .int .i64 (iShl .i64 1 a1)), (112, .int .i64 (IntKind.wrap .i64 ((iShl .i64 1 a1) - 1))), (113, .bool (w19.1 == (IntKind.wrap .i64 ((iShl .i64 1 a1) - 1)))), (114, .bool b), (115, .bool b), (116, .bool b)]) (v43 == (w19.1 == (IntKind.wrap .i64 ((iShl .i64 1 a1) - 1)))) (by kernel_rfl) (fun hb => ?_) (fun hb => ?_)
        · replace h := cond_t hb h
          obtain ⟨w46, hw46, h⟩ := bind_some h
          refine WO.callK 0 (F := 21) (l := []) (C := []) (r := .bool w46) (by kernel_rfl) (by kernel_rfl) (run_lw1_awake fuel w46 hw46) (e1 := [(0, .int .i64 a1), (8, .int .i64 w19.2), (9, .int .i64 w19.1), (10, .bool v43), (105, .int .i64 w19.2), (106, .bool true), (107, .bool true), (108, .bool v43), (109, .int .i64 w19.1), (110, .int .i64 a1), (111, .int .i64 (iShl .i64 1 a1)), (112, .int .i64 (IntKind.wrap .i64 ((iShl .i64 1 a1) - 1))), (113, .bool (w19.1 == (IntKind.wrap .i64 ((iShl .i64 1 a1) - 1)))), (114, .bool true), (115, .bool true), (116, .bool true), (117, .bool w46)]) (by kernel_rfl) ?_
          refine WO.fin [6] [] [] [] (e2 := [(6, .bool w46)]) (by kernel_rfl) (fun _ h => h) ?_
          exact hK44 w46 h
        replace h := cond_f hb h
        refine WO.fin [6] [] [] [] (e2 := [(6, .bool false)]) (by kernel_rfl) (fun _ h => h) ?_
        exact hK44 false h
      replace h := cond_f hb h
      refine WO.fin [6] [] [] [] (e2 := [(6, .bool false)]) (by kernel_rfl) (fun _ h => h) ?_
      exact hK44 false h
    refine W.seq ?_
    refine W.region (by kernel_rfl) ?_
    refine WO.pureK 1 (some (.int .i64 ((List.map (AV.int .i64) w7.1).length : Int))) (v := .int .i64 (w7.1.length : Int)) (by kernel_rfl) (by rw [List.length_map]) (e1 := [(0, .int .i64 a1), (1, l40 none a2), (2, .int .i64 (IntKind.wrap .i64 (((IntKind.wrap .u64 a3)).tmod (iShl .u64 1 (IntKind.wrap .u64 a1))))), (7, l3 none w7.1), (8, .int .i64 w19.2), (9, .int .i64 w19.1), (10, .bool false), (54, l3 none w7.1), (55, .int .i64 (w7.1.length : Int))]) (by kernel_rfl) ?_
    refine WO.fin [0, 1, 2, 7, 8, 9, 10, 54, 55, 56] [] [] [] (e2 := [(0, .int .i64 a1), (1, l40 none a2), (2, .int .i64 (IntKind.wrap .i64 (((IntKind.wrap .u64 a3)).tmod (iShl .u64 1 (IntKind.wrap .u64 a1))))), (7, l3 none w7.1), (8, .int .i64 w19.2), (9, .int .i64 w19.1), (10, .bool false), (54, l3 none w7.1), (55, .int .i64 (w7.1.length : Int)), (56, .int .i64 0)]) (by kernel_rfl) (fun _ h => h) ?_
    refine W.block ?_
    obtain ⟨hl1, h⟩ := chk_some h
    refine W.weak [0, 1, 2, 7, 8, 9, 10, 54, 55, 56] [] [] [] (env' := [(0, .int .i64 a1), (1, l40 none a2), (2, .int .i64 (IntKind.wrap .i64 (((IntKind.wrap .u64 a3)).tmod (iShl .u64 1 (IntKind.wrap .u64 a1))))), (7, l3 none w7.1), (8, .int .i64 w19.2), (9, .int .i64 w19.1), (10, .bool false), (54, l3 none w7.1), (55, .int .i64 (w7.1.length : Int)), (56, .int .i64 ((0 : Nat) : Int))]) (by kernel_rfl) ?_
    refine W.range (σ := (Bool)) w7.1 (fun k1 s => [(0, .int .i64 a1), (1, l40 none a2), (2, .int .i64 (IntKind.wrap .i64 (((IntKind.wrap .u64 a3)).tmod (iShl .u64 1 (IntKind.wrap .u64 a1))))), (7, l3 none w7.1), (8, .int .i64 w19.2), (9, .int .i64 w19.1), (10, .bool s), (54, l3 none w7.1), (55, .int .i64 (w7.1.length : Int)), (56, .int .i64 (k1 : Int))]) (fun r0 k0 s => lw1_DependMinimal_l1 fuel a1 a2 a3 w7 (lw1_DependMinimal_j21 fuel a1 w19) r0 k0 s = some r) (fun s h => ?_) (fun x1 r1 k1 s hx1 hk1 h hN1 => ?_) false h
    · obtain ⟨v23, rfl⟩ : ∃ x, x = s := ⟨s, rfl⟩
      have h : lw1_DependMinimal_l1 fuel a1 a2 a3 w7 (lw1_DependMinimal_j21 fuel a1 w19) [] (w7.1).length v23 = some r := h
      rw [lw1_DependMinimal_l1.eq_1] at h
      refine W.seq ?_
      refine W.region (by kernel_rfl) ?_
      refine WO.pureK 0 (some (.bool (decide (((w7.1).length : Int) < (w7.1.length : Int))))) (v := .bool false) (by kernel_rfl) (by rw [lt_false (l := w7.1)]) (e1 := [(0, .int .i64 a1), (1, l40 none a2), (2, .int .i64 (IntKind.wrap .i64 (((IntKind.wrap .u64 a3)).tmod (iShl .u64 1 (IntKind.wrap .u64 a1))))), (7, l3 none w7.1), (8, .int .i64 w19.2), (9, .int .i64 w19.1), (10, .bool v23), (54, l3 none w7.1), (55, .int .i64 (w7.1.length : Int)), (56, .int .i64 ((w7.1).length : Int)), (57, .bool false)]) (by kernel_rfl) ?_
      refine WO.fin ([0, 1, 2, 7, 8, 9, 10, 54, 55, 56, 57]) [] [] [] (e2 := [(0, .int .i64 a1), (1, l40 none a2), (2, .int .i64 (IntKind.wrap .i64 (((IntKind.wrap .u64 a3)).tmod (iShl .u64 1 (IntKind.wrap .u64 a1))))), (7, l3 none w7.1), (8, .int .i64 w19.2), (9, .int .i64 w19.1), (10, .bool v23), (54, l3 none w7.1), (55, .int .i64 (w7.1.length : Int)), (56, .int .i64 ((w7.1).length : Int)), (57, .bool false)]) (by kernel_rfl) (fun _ h => h) ?_
      refine W.seq ?_
      refine W.condB false (by kernel_rfl) (fun h => Bool.noConfusion h) (fun _ => ?_)
      refine W.exit ?_
      refine W.weak [0, 8, 9, 10] [] [] [] (env' := [(0, .int .i64 a1), (8, .int .i64 w19.2), (9, .int .i64 w19.1), (10, .bool v23)]) (by kernel_rfl) ?_
      exact hK21 v23 h
    · obtain ⟨v23, rfl⟩ : ∃ x, x = s := ⟨s, rfl⟩
      have h : lw1_DependMinimal_l1 fuel a1 a2 a3 w7 (lw1_DependMinimal_j21 fuel a1 w19) (x1 :: r1) k1 v23 = some r := h
      rw [lw1_DependMinimal_l1.eq_2] at h
      refine W.seq ?_
      refine W.region (by kernel_rfl) ?_
      refine WO.pureK 0 (some (.bool (decide ((k1 : Int) < (w7.1.length : Int))))) (v := .bool true) (by kernel_rfl) (by rw [lt_true hk1]) (e1 := [(0, .int .i64 a1), (1, l40 none a2), (2, .int .i64 (IntKind.wrap .i64 (((IntKind.wrap .u64 a3)).tmod (iShl .u64 1 (IntKind.wrap .u64 a1))))), (7, l3 none w7.1), (8, .int .i64 w19.2), (9, .int .i64 w19.1), (10, .bool v23), (54, l3 none w7.1), (55, .int .i64 (w7.1.length : Int)), (56, .int .i64 (k1 : Int)), (57, .bool true)]) (by kernel_rfl) ?_
      refine WO.fin ([0, 1, 2, 7, 8, 9, 10, 54, 55, 56, 57]) [] [] [] (e2 := [(0, .int .i64 a1), (1, l40 none a2), (2, .int .i64 (IntKind.wrap .i64 (((IntKind.wrap .u64 a3)).tmod (iShl .u64 1 (IntKind.wrap .u64 a1))))), (7, l3 none w7.1), (8, .int .i64 w19.2), (9, .int .i64 w19.1), (10, .bool v23), (54, l3 none w7.1), (55, .int .i64 (w7.1.length : Int)), (56, .int .i64 (k1 : Int)), (57, .bool true)]) (by kernel_rfl) (fun _ h => h) ?_
      refine W.seq ?_
      refine W.condB true (by kernel_rfl) (fun _ => ?_) (fun h => Bool.noConfusion h)
      refine W.skip ?_
      refine W.weak [0, 1, 2, 7, 8, 9, 10, 54, 55, 56] [] [] [] (env' := [(0, .int .i64 a1), (1, l40 none a2), (2, .int .i64 (IntKind.wrap .i64 (((IntKind.wrap .u64 a3)).tmod (iShl .u64 1 (IntKind.wrap .u64 a1))))), (7, l3 none w7.1), (8, .int .i64 w19.2), (9, .int .i64 w19.1), (10, .bool v23), (54, l3 none w7.1), (55, .int .i64 (w7.1.length : Int)), (56, .int .i64 (k1 : Int))]) (by kernel_rfl) ?_
      refine W.seq ?_
      refine W.join (σ := (Bool)) (fun s => [(0, .int .i64 a1), (1, l40 none a2), (2, .int .i64 (IntKind.wrap .i64 (((IntKind.wrap .u64 a3)).tmod (iShl .u64 1 (IntKind.wrap .u64 a1))))), (7, l3 none w7.1), (8, .int .i64 w19.2), (9, .int .i64 w19.1), (10, .bool s), (54, l3 none w7.1), (55, .int .i64 (w7.1.length : Int)), (56, .int .i64 (k1 : Int))]) (fun s => (lw1_DependMinimal_j24 (lw1_DependMinimal_l1 fuel a1 a2 a3 w7 (lw1_DependMinimal_j21 fuel a1 w19) r1 (k1 + 1))) s = some r) (fun s h => ?_) (fun hK24 => ?_)
      · obtain ⟨v42, rfl⟩ : ∃ x, x = s := ⟨s, rfl⟩
        have h : (lw1_DependMinimal_j24 (lw1_DependMinimal_l1 fuel a1 a2 a3 w7 (lw1_DependMinimal_j21 fuel a1 w19) r1 (k1 + 1))) v42 = some r := h
        unfold lw1_DependMinimal_j24 at h
        refine W.region (by kernel_rfl) ?_
        refine WO.pureK 0 (some (.int .i64 (IntKind.wrap .i64 ((k1 : Int) + 1)))) (v := .int .i64 ((k1 + 1 : Nat) : Int)) (by kernel_rfl) (by rw [wrap_succ hl1 hk1]) (e1 := [(0, .int .i64 a1), (1, l40 none a2), (2, .int .i64 (IntKind.wrap .i64 (((IntKind.wrap .u64 a3)).tmod (iShl .u64 1 (IntKind.wrap .u64 a1))))), (7, l3 none w7.1), (8, .int .i64 w19.2), (9, .int .i64 w19.1), (10, .bool v42), (54, l3 none w7.1), (55, .int .i64 (w7.1.length : Int)), (56, .int .i64 (k1 : Int)), (104, .int .i64 ((k1 + 1 : Nat) : Int))]) (by kernel_rfl) ?_
        refine WO.fin [0, 1, 2, 7, 8, 9, 10, 54, 55, 56] [] [] [] (e2 := [(0, .int .i64 a1), (1, l40 none a2), (2, .int .i64 (IntKind.wrap .i64 (((IntKind.wrap .u64 a3)).tmod (iShl .u64 1 (IntKind.wrap .u64 a1))))), (7, l3 none w7.1), (8, .int .i64 w19.2), (9, .int .i64 w19.1), (10, .bool v42), (54, l3 none w7.1), (55, .int .i64 (w7.1.length : Int)), (56, .int .i64 ((k1 + 1 : Nat) : Int))]) (by kernel_rfl) (fun _ h => h) ?_
        exact hN1 v42 h
      refine W.block ?_
      refine W.seq ?_
      refine W.region (by kernel_rfl) ?_
      refine WO.pureK 1 (if (0 : Int) ≤ (k1 : Int) then ((List.map (AV.int .i64) w7.1)[Int.toNat (k1 : Int)]?).map AV.ptr else none) (v := .ptr (.int .i64 x1)) (by kernel_rfl) (idx_nat (f := (AV.int .i64)) hx1) (e1 := [(0, .int .i64 a1), (1, l40 none a2), (2, .int .i64 (IntKind.wrap .i64 (((IntKind.wrap .u64 a3)).tmod (iShl .u64 1 (IntKind.wrap .u64 a1))))), (7, l3 none w7.1), (8, .int .i64 w19.2), (9, .int .i64 w19.1), (10, .bool v23), (54, l3 none w7.1), (55, .int .i64 (w7.1.length : Int)), (56, .int .i64 (k1 : Int)), (58, .int .i64 (k1 : Int)), (59, .ptr (.int .i64 x1))]) (by kernel_rfl) ?_
      refine WO.fin [0, 1, 2, 7, 8, 9, 10, 11, 12, 54, 55, 56] [] [] [] (e2 := [(0, .int .i64 a1), (1, l40 none a2), (2, .int .i64 (IntKind.wrap .i64 (((IntKind.wrap .u64 a3)).tmod (iShl .u64 1 (IntKind.wrap .u64 a1))))), (7, l3 none w7.1), (8, .int .i64 w19.2), (9, .int .i64 w19.1), (10, .bool v23), (11, .int .i64 (k1 : Int)), (12, .int .i64 x1), (54, l3 none w7.1), (55, .int .i64 (w7.1.length : Int)), (56, .int .i64 (k1 : Int))]) (by kernel_rfl) (fun _ h => h) ?_
      refine W.seq ?_
      refine W.region (by kernel_rfl) ?_
      obtain ⟨w27, hw27, h⟩ := bind_some h
      refine WO.callK 2 (F := 20) (l := [l40 none a2]) (C := []) (r := l33 (some 1) w27) (by kernel_rfl) (by kernel_rfl) (run_lw1_deps a2 w27 hw27) (e1 := [(0, .int .i64 a1), (1, l40 none a2), (2, .int .i64 (IntKind.wrap .i64 (((IntKind.wrap .u64 a3)).tmod (iShl .u64 1 (IntKind.wrap .u64 a1))))), (7, l3 none w7.1), (8, .int .i64 w19.2), (9, .int .i64 w19.1), (10, .bool v23), (11, .int .i64 (k1 : Int)), (12, .int .i64 x1), (54, l3 none w7.1), (55, .int .i64 (w7.1.length : Int)), (56, .int .i64 (k1 : Int)), (62, .int .i64 a1), (63, l40 none a2), (64, l33 (some 64) w27)]) (by kernel_rfl) ?_
      obtain ⟨w28, hw28, h⟩ := bind_some h
      refine WO.callK 1 (F := 19) (l := [.int .i64 a1, l33 none w27, .int .i64 x1]) (C := []) (r := .tup [.int .i64 w28.1, .int .i64 w28.2]) (by kernel_rfl) (by kernel_rfl) (run_dp_Closure fuel a1 w27 x1 w28 hw28) (e1 := [(0, .int .i64 a1), (1, l40 none a2), (2, .int .i64 (IntKind.wrap .i64 (((IntKind.wrap .u64 a3)).tmod (iShl .u64 1 (IntKind.wrap .u64 a1))))), (7, l3 none w7.1), (8, .int .i64 w19.2), (9, .int .i64 w19.1), (10, .bool v23), (11, .int .i64 (k1 : Int)), (12, .int .i64 x1), (54, l3 none w7.1), (55, .int .i64 (w7.1.length : Int)), (56, .int .i64 (k1 : Int)), (62, .int .i64 a1), (63, l40 none a2), (64, l33 (some 64) w27), (65, .int .i64 x1), (66, .tup [.int .i64 w28.1, .int .i64 w28.2])]) (by kernel_rfl) ?_
      refine WO.fin [0, 1, 2, 7, 8, 9, 10, 11, 12, 13, 14, 54, 55, 56] [] [] [] (e2 := [(0, .int .i64 a1), (1, l40 none a2), (2, .int .i64 (IntKind.wrap .i64 (((IntKind.wrap .u64 a3)).tmod (iShl .u64 1 (IntKind.wrap .u64 a1))))), (7, l3 none w7.1), (8, .int .i64 w19.2), (9, .int .i64 w19.1), (10, .bool v23), (11, .int .i64 (k1 : Int)), (12, .int .i64 x1), (13, .int .i64 w28.1), (14, .int .i64 w28.2), (54, l3 none w7.1), (55, .int .i64 (w7.1.length : Int)), (56, .int .i64 (k1 : Int))]) (by kernel_rfl) (fun _ h => h) ?_
      refine W.seq ?_
      refine W.seq ?_
      refine W.join (σ := (Bool)) (fun s => [(0, .int .i64 a1), (1, l40 none a2), (2, .int .i64 (IntKind.wrap .i64 (((IntKind.wrap .u64 a3)).tmod (iShl .u64 1 (IntKind.wrap .u64 a1))))), (7, l3 none w7.1), (8, .int .i64 w19.2), (9, .int .i64 w19.1), (10, .bool v23), (11, .int .i64 (k1 : Int)), (12, .int .i64 x1), (54, l3 none w7.1), (55, .int .i64 (w7.1.length : Int)), (56, .int .i64 (k1 : Int)), (77, .bool s)]) (fun s => (lw1_DependMinimal_j30 a1 k1 x1 a3 w7 v23 (lw1_DependMinimal_j24 (lw1_DependMinimal_l1 fuel a1 a2 a3 w7 (lw1_DependMinimal_j21 fuel a1 w19) r1 (k1 + 1)))) s = some r) (fun s h => ?_) (fun hK30 => ?_)
      · obtain ⟨v32, rfl⟩ : ∃ x, x = s := ⟨s, rfl⟩
        have h : (lw1_DependMinimal_j30 a1 k1 x1 a3 w7 v23 (lw1_DependMinimal_j24 (lw1_DependMinimal_l1 fuel a1 a2 a3 w7 (lw1_DependMinimal_j21 fuel a1 w19) r1 (k1 + 1)))) v32 = some r := h
        unfold lw1_DependMinimal_j30 at h
        refine W.condB v32 (by kernel_rfl) (fun hb => ?_) (fun hb => ?_)
        · replace h := cond_t hb h
          refine W.seq ?_
          refine W.regT [6] [] [] [] (e2 := [(6, .bool false)]) (by kernel_rfl) (by kernel_rfl) (fun _ h => h) ?_
          refine W.weak [6] [] [] [] (env' := [(6, .bool false)]) (by kernel_rfl) ?_
          have hr : aresults Try.prog Try.f5 [(6, .bool false)] = some (.bool false) := by kernel_rfl
          cases h
          exact W.ret hr
        replace h := cond_f hb h
        refine W.skip ?_
        refine W.weak [0, 1, 2, 7, 8, 9, 10, 11, 12, 54, 55, 56] [] [] [] (env' := [(0, .int .i64 a1), (1, l40 none a2), (2, .int .i64 (IntKind.wrap .i64 (((IntKind.wrap .u64 a3)).tmod (iShl .u64 1 (IntKind.wrap .u64 a1))))), (7, l3 none w7.1), (8, .int .i64 w19.2), (9, .int .i64 w19.1), (10, .bool v23), (11, .int .i64 (k1 : Int)), (12, .int .i64 x1), (54, l3 none w7.1), (55, .int .i64 (w7.1.length : Int)), (56, .int .i64 (k1 : Int))]) (by kernel_rfl) ?_
        refine W.seq ?_
        refine W.join (σ := Unit) (fun s => [(0, .int .i64 a1), (1, l40 none a2), (2, .int .i64 (IntKind.wrap .i64 (((IntKind.wrap .u64 a3)).tmod (iShl .u64 1 (IntKind.wrap .u64 a1))))), (7, l3 none w7.1), (8, .int .i64 w19.2), (9, .int .i64 w19.1), (10, .bool v23), (12, .int .i64 x1), (54, l3 none w7.1), (55, .int .i64 (w7.1.length : Int)), (56, .int .i64 (k1 : Int))]) (fun s => (lw1_DependMinimal_j34 a1 x1 a3 v23 (lw1_DependMinimal_j24 (lw1_DependMinimal_l1 fuel a1 a2 a3 w7 (lw1_DependMinimal_j21 fuel a1 w19) r1 (k1 + 1)))) = some r) (fun s h => ?_) (fun hK34 => ?_)
        · have h : (lw1_DependMinimal_j34 a1 x1 a3 v23 (lw1_DependMinimal_j24 (lw1_DependMinimal_l1 fuel a1 a2 a3 w7 (lw1_DependMinimal_j21 fuel a1 w19) r1 (k1 + 1)))) = some r := h
          unfold lw1_DependMinimal_j34 at h
          refine W.region (by kernel_rfl) ?_
          refine WO.boolK 2 (fun b => [(0, .int .i64 a1), (1, l40 none a2), (2, .int .i64 (IntKind.wrap .i64 (((IntKind.wrap .u64 a3)).tmod (iShl .u64 1 (IntKind.wrap .u64 a1))))), (7, l3 none w7.1), (8, .int .i64 w19.2), (9, .int .i64 w19.1), (10, .bool b), (12, .int .i64 x1), (54, l3 none w7.1), (55, .int .i64 (w7.1.length : Int)), (56, .int .i64 (k1 : Int)), (97, .bool b), (98, .bool b)]) v23 (by kernel_rfl) (fun hb => ?_) (fun hb => ?_)
          · replace h := cond_t hb h
            refine WO.fin [0, 1, 2, 7, 8, 9, 10, 54, 55, 56] [] [] [] (e2 := [(0, .int .i64 a1), (1, l40 none a2), (2, .int .i64 (IntKind.wrap .i64 (((IntKind.wrap .u64 a3)).tmod (iShl .u64 1 (IntKind.wrap .u64 a1))))), (7, l3 none w7.1), (8, .int .i64 w19.2), (9, .int .i64 w19.1), (10, .bool true), (54, l3 none w7.1), (55, .int .i64 (w7.1.length : Int)), (56, .int .i64 (k1 : Int))]) (by kernel_rfl) (fun _ h => h) ?_
            exact hK24 true h
          replace h := cond_f hb h
          refine WO.fin [0, 1, 2, 7, 8, 9, 10, 54, 55, 56] [] [] [] (e2 := [(0, .int .i64 a1), (1, l40 none a2), (2, .int .i64 (IntKind.wrap .i64 (((IntKind.wrap .u64 a3)).tmod (iShl .u64 1 (IntKind.wrap .u64 a1))))), (7, l3 none w7.1), (8, .int .i64 w19.2), (9, .int .i64 w19.1), (10, .bool ((iAndNot .i64 x1 (IntKind.wrap .i64 (((IntKind.wrap .u64 a3)).tmod (iShl .u64 1 (IntKind.wrap .u64 a1))))) == 0)), (54, l3 none w7.1), (55, .int .i64 (w7.1.length : Int)), (56, .int .i64 (k1 : Int))]) (by kernel_rfl) (fun _ h => h) ?_
          exact hK24 ((iAndNot .i64 x1 (IntKind.wrap .i64 (((IntKind.wrap .u64 a3)).tmod (iShl .u64 1 (IntKind.wrap .u64 a1))))) == 0) h
        refine W.seq ?_
        refine W.region (by kernel_rfl) ?_
        obtain ⟨e36, he36, h⟩ := bind_some h
        refine WO.pureK 2 (if (0 : Int) ≤ 0 ∧ 0 ≤ (k1 : Int) ∧ (k1 : Int) ≤ ((List.map (AV.int .i64) w7.1).length : Int) then some (.lst 3 1 none (((List.map (AV.int .i64) w7.1).take (Int.toNat (k1 : Int))).drop (Int.toNat 0))) else none) (v := l3 none e36) (by kernel_rfl) (sub_av he36) (e1 := [(0, .int .i64 a1), (1, l40 none a2), (2, .int .i64 (IntKind.wrap .i64 (((IntKind.wrap .u64 a3)).tmod (iShl .u64 1 (IntKind.wrap .u64 a1))))), (7, l3 none w7.1), (8, .int .i64 w19.2), (9, .int .i64 w19.1), (10, .bool v23), (11, .int .i64 (k1 : Int)), (12, .int .i64 x1), (54, l3 none w7.1), (55, .int .i64 (w7.1.length : Int)), (56, .int .i64 (k1 : Int)), (78, l3 none w7.1), (79, .int .i64 (k1 : Int)), (80, l3 none e36)]) (by kernel_rfl) ?_
        refine WO.pureK 0 (some (.int .i64 ((List.map (AV.int .i64) e36).length : Int))) (v := .int .i64 (e36.length : Int)) (by kernel_rfl) (by rw [List.length_map]) (e1 := [(0, .int .i64 a1), (1, l40 none a2), (2, .int .i64 (IntKind.wrap .i64 (((IntKind.wrap .u64 a3)).tmod (iShl .u64 1 (IntKind.wrap .u64 a1))))), (7, l3 none w7.1), (8, .int .i64 w19.2), (9, .int .i64 w19.1), (10, .bool v23), (11, .int .i64 (k1 : Int)), (12, .int .i64 x1), (54, l3 none w7.1), (55, .int .i64 (w7.1.length : Int)), (56, .int .i64 (k1 : Int)), (78, l3 none w7.1), (79, .int .i64 (k1 : Int)), (80, l3 none e36), (81, .int .i64 (e36.length : Int))]) (by kernel_rfl) ?_
        refine WO.fin [0, 1, 2, 7, 8, 9, 10, 12, 54, 55, 56, 80, 81, 82] [] [] [] (e2 := [(0, .int .i64 a1), (1, l40 none a2), (2, .int .i64 (IntKind.wrap .i64 (((IntKind.wrap .u64 a3)).tmod (iShl .u64 1 (IntKind.wrap .u64 a1))))), (7, l3 none w7.1), (8, .int .i64 w19.2), (9, .int .i64 w19.1), (10, .bool v23), (12, .int .i64 x1), (54, l3 none w7.1), (55, .int .i64 (w7.1.length : Int)), (56, .int .i64 (k1 : Int)), (80, l3 none e36), (81, .int .i64 (e36.length : Int)), (82, .int .i64 0)]) (by kernel_rfl) (fun _ h => h) ?_
        refine W.block ?_
        obtain ⟨hl2, h⟩ := chk_some h
        refine W.weak [0, 1, 2, 7, 8, 9, 10, 12, 54, 55, 56, 80, 81, 82] [] [] [] (env' := [(0, .int .i64 a1), (1, l40 none a2), (2, .int .i64 (IntKind.wrap .i64 (((IntKind.wrap .u64 a3)).tmod (iShl .u64 1 (IntKind.wrap .u64 a1))))), (7, l3 none w7.1), (8, .int .i64 w19.2), (9, .int .i64 w19.1), (10, .bool v23), (12, .int .i64 x1), (54, l3 none w7.1), (55, .int .i64 (w7.1.length : Int)), (56, .int .i64 (k1 : Int)), (80, l3 none e36), (81, .int .i64 (e36.length : Int)), (82, .int .i64 ((0 : Nat) : Int))]) (by kernel_rfl) ?_
        refine W.range (σ := Unit) e36 (fun k2 s => [(0, .int .i64 a1), (1, l40 none a2), (2, .int .i64 (IntKind.wrap .i64 (((IntKind.wrap .u64 a3)).tmod (iShl .u64 1 (IntKind.wrap .u64 a1))))), (7, l3 none w7.1), (8, .int .i64 w19.2), (9, .int .i64 w19.1), (10, .bool v23), (12, .int .i64 x1), (54, l3 none w7.1), (55, .int .i64 (w7.1.length : Int)), (56, .int .i64 (k1 : Int)), (80, l3 none e36), (81, .int .i64 (e36.length : Int)), (82, .int .i64 (k2 : Int))]) (fun r0 k0 s => lw1_DependMinimal_l2 x1 (lw1_DependMinimal_j34 a1 x1 a3 v23 (lw1_DependMinimal_j24 (lw1_DependMinimal_l1 fuel a1 a2 a3 w7 (lw1_DependMinimal_j21 fuel a1 w19) r1 (k1 + 1)))) r0 k0 = some r) (fun s h => ?_) (fun x2 r2 k2 s hx2 hk2 h hN2 => ?_) () h
        · have h : lw1_DependMinimal_l2 x1 (lw1_DependMinimal_j34 a1 x1 a3 v23 (lw1_DependMinimal_j24 (lw1_DependMinimal_l1 fuel a1 a2 a3 w7 (lw1_DependMinimal_j21 fuel a1 w19) r1 (k1 + 1)))) [] (e36).length = some r := h
          rw [lw1_DependMinimal_l2.eq_1] at h
          refine W.seq ?_
          refine W.region (by kernel_rfl) ?_
          refine WO.pureK 0 (some (.bool (decide (((e36).length : Int) < (e36.length : Int))))) (v := .bool false) (by kernel_rfl) (by rw [lt_false (l := e36)]) (e1 := [(0, .int .i64 a1), (1, l40 none a2), (2, .int .i64 (IntKind.wrap .i64 (((IntKind.wrap .u64 a3)).tmod (iShl .u64 1 (IntKind.wrap .u64 a1))))), (7, l3 none w7.1), (8, .int .i64 w19.2), (9, .int .i64 w19.1), (10, .bool v23), (12, .int .i64 x1), (54, l3 none w7.1), (55, .int .i64 (w7.1.length : Int)), (56, .int .i64 (k1 : Int)), (80, l3 none e36), (81, .int .i64 (e36.length : Int)), (82, .int .i64 ((e36).length : Int)), (83, .bool false)]) (by kernel_rfl) ?_
          refine WO.fin ([0, 1, 2, 7, 8, 9, 10, 12, 54, 55, 56, 80, 81, 82, 83]) [] [] [] (e2 := [(0, .int .i64 a1), (1, l40 none a2), (2, .int .i64 (IntKind.wrap .i64 (((IntKind.wrap .u64 a3)).tmod (iShl .u64 1 (IntKind.wrap .u64 a1))))), (7, l3 none w7.1), (8, .int .i64 w19.2), (9, .int .i64 w19.1), (10, .bool v23), (12, .int .i64 x1), (54, l3 none w7.1), (55, .int .i64 (w7.1.length : Int)), (56, .int .i64 (k1 : Int)), (80, l3 none e36), (81, .int .i64 (e36.length : Int)), (82, .int .i64 ((e36).length : Int)), (83, .bool false)]) (by kernel_rfl) (fun _ h => h) ?_
          refine W.seq ?_
          refine W.condB false (by kernel_rfl) (fun h => Bool.noConfusion h) (fun _ => ?_)
          refine W.exit ?_
          refine W.weak [0, 1, 2, 7, 8, 9, 10, 12, 54, 55, 56] [] [] [] (env' := [(0, .int .i64 a1), (1, l40 none a2), (2, .int .i64 (IntKind.wrap .i64 (((IntKind.wrap .u64 a3)).tmod (iShl .u64 1 (IntKind.wrap .u64 a1))))), (7, l3 none w7.1), (8, .int .i64 w19.2), (9, .int .i64 w19.1), (10, .bool v23), (12, .int .i64 x1), (54, l3 none w7.1), (55, .int .i64 (w7.1.length : Int)), (56, .int .i64 (k1 : Int))]) (by kernel_rfl) ?_
          exact hK34 () h
        · have h : lw1_DependMinimal_l2 x1 (lw1_DependMinimal_j34 a1 x1 a3 v23 (lw1_DependMinimal_j24 (lw1_DependMinimal_l1 fuel a1 a2 a3 w7 (lw1_DependMinimal_j21 fuel a1 w19) r1 (k1 + 1)))) (x2 :: r2) k2 = some r := h
          rw [lw1_DependMinimal_l2.eq_2] at h
          refine W.seq ?_
          refine W.region (by kernel_rfl) ?_
          refine WO.pureK 0 (some (.bool (decide ((k2 : Int) < (e36.length : Int))))) (v := .bool true) (by kernel_rfl) (by rw [lt_true hk2]) (e1 := [(0, .int .i64 a1), (1, l40 none a2), (2, .int .i64 (IntKind.wrap .i64 (((IntKind.wrap .u64 a3)).tmod (iShl .u64 1 (IntKind.wrap .u64 a1))))), (7, l3 none w7.1), (8, .int .i64 w19.2), (9, .int .i64 w19.1), (10, .bool v23), (12, .int .i64 x1), (54, l3 none w7.1), (55, .int .i64 (w7.1.length : Int)), (56, .int .i64 (k1 : Int)), (80, l3 none e36), (81, .int .i64 (e36.length : Int)), (82, .int .i64 (k2 : Int)), (83, .bool true)]) (by kernel_rfl) ?_
          refine WO.fin ([0, 1, 2, 7, 8, 9, 10, 12, 54, 55, 56, 80, 81, 82, 83]) [] [] [] (e2 := [(0, .int .i64 a1), (1, l40 none a2), (2, .int .i64 (IntKind.wrap .i64 (((IntKind.wrap .u64 a3)).tmod (iShl .u64 1 (IntKind.wrap .u64 a1))))), (7, l3 none w7.1), (8, .int .i64 w19.2), (9, .int .i64 w19.1), (10, .bool v23), (12, .int .i64 x1), (54, l3 none w7.1), (55, .int .i64 (w7.1.length : Int)), (56, .int .i64 (k1 : Int)), (80, l3 none e36), (81, .int .i64 (e36.length : Int)), (82, .int .i64 (k2 : Int)), (83, .bool true)]) (by kernel_rfl) (fun _ h => h) ?_
          refine W.seq ?_
          refine W.condB true (by kernel_rfl) (fun _ => ?_) (fun h => Bool.noConfusion h)
          refine W.skip ?_
          refine W.weak [0, 1, 2, 7, 8, 9, 10, 12, 54, 55, 56, 80, 81, 82] [] [] [] (env' := [(0, .int .i64 a1), (1, l40 none a2), (2, .int .i64 (IntKind.wrap .i64 (((IntKind.wrap .u64 a3)).tmod (iShl .u64 1 (IntKind.wrap .u64 a1))))), (7, l3 none w7.1), (8, .int .i64 w19.2), (9, .int .i64 w19.1), (10, .bool v23), (12, .int .i64 x1), (54, l3 none w7.1), (55, .int .i64 (w7.1.length : Int)), (56, .int .i64 (k1 : Int)), (80, l3 none e36), (81, .int .i64 (e36.length : Int)), (82, .int .i64 (k2 : Int))]) (by kernel_rfl) ?_
          refine W.seq ?_
          refine W.block ?_
          refine W.seq ?_
          refine W.region (by kernel_rfl) ?_
          refine WO.pureK 0 (if (0 : Int) ≤ (k2 : Int) then ((List.map (AV.int .i64) e36)[Int.toNat (k2 : Int)]?).map AV.ptr else none) (v := .ptr (.int .i64 x2)) (by kernel_rfl) (idx_nat (f := (AV.int .i64)) hx2) (e1 := [(0, .int .i64 a1), (1, l40 none a2), (2, .int .i64 (IntKind.wrap .i64 (((IntKind.wrap .u64 a3)).tmod (iShl .u64 1 (IntKind.wrap .u64 a1))))), (7, l3 none w7.1), (8, .int .i64 w19.2), (9, .int .i64 w19.1), (10, .bool v23), (12, .int .i64 x1), (54, l3 none w7.1), (55, .int .i64 (w7.1.length : Int)), (56, .int .i64 (k1 : Int)), (80, l3 none e36), (81, .int .i64 (e36.length : Int)), (82, .int .i64 (k2 : Int)), (84, .ptr (.int .i64 x2))]) (by kernel_rfl) ?_
          refine WO.fin [0, 1, 2, 7, 8, 9, 10, 12, 16, 54, 55, 56, 80, 81, 82] [] [] [] (e2 := [(0, .int .i64 a1), (1, l40 none a2), (2, .int .i64 (IntKind.wrap .i64 (((IntKind.wrap .u64 a3)).tmod (iShl .u64 1 (IntKind.wrap .u64 a1))))), (7, l3 none w7.1), (8, .int .i64 w19.2), (9, .int .i64 w19.1), (10, .bool v23), (12, .int .i64 x1), (16, .int .i64 x2), (54, l3 none w7.1), (55, .int .i64 (w7.1.length : Int)), (56, .int .i64 (k1 : Int)), (80, l3 none e36), (81, .int .i64 (e36.length : Int)), (82, .int .i64 (k2 : Int))]) (by kernel_rfl) (fun _ h => h) ?_
          refine W.seq ?_
          refine W.join (σ := (Bool)) (fun s => [(0, .int .i64 a1), (1, l40 none a2), (2, .int .i64 (IntKind.wrap .i64 (((IntKind.wrap .u64 a3)).tmod (iShl .u64 1 (IntKind.wrap .u64 a1))))), (7, l3 none w7.1), (8, .int .i64 w19.2), (9, .int .i64 w19.1), (10, .bool v23), (12, .int .i64 x1), (54, l3 none w7.1), (55, .int .i64 (w7.1.length : Int)), (56, .int .i64 (k1 : Int)), (80, l3 none e36), (81, .int .i64 (e36.length : Int)), (82, .int .i64 (k2 : Int)), (95, .bool s)]) (fun s => (lw1_DependMinimal_j39 (lw1_DependMinimal_l2 x1 (lw1_DependMinimal_j34 a1 x1 a3 v23 (lw1_DependMinimal_j24 (lw1_DependMinimal_l1 fuel a1 a2 a3 w7 (lw1_DependMinimal_j21 fuel a1 w19) r1 (k1 + 1)))) r2 (k2 + 1))) s = some r) (fun s h => ?_) (fun hK39 => ?_)
          · obtain ⟨v40, rfl⟩ : ∃ x, x = s := ⟨s, rfl⟩
            have h : (lw1_DependMinimal_j39 (lw1_DependMinimal_l2 x1 (lw1_DependMinimal_j34 a1 x1 a3 v23 (lw1_DependMinimal_j24 (lw1_DependMinimal_l1 fuel a1 a2 a3 w7 (lw1_DependMinimal_j21 fuel a1 w19) r1 (k1 + 1)))) r2 (k2 + 1))) v40 = some r := h
            unfold lw1_DependMinimal_j39 at h
            refine W.condB v40 (by kernel_rfl) (fun hb => ?_) (fun hb => ?_)
            · replace h := cond_t hb h
              refine W.seq ?_
              refine W.regT [6] [] [] [] (e2 := [(6, .bool false)]) (by kernel_rfl) (by kernel_rfl) (fun _ h => h) ?_
              refine W.weak [6] [] [] [] (env' := [(6, .bool false)]) (by kernel_rfl) ?_
              have hr : aresults Try.prog Try.f5 [(6, .bool false)] = some (.bool false) := by kernel_rfl
              cases h
              exact W.ret hr
            replace h := cond_f hb h
            refine W.skip ?_
            refine W.weak [0, 1, 2, 7, 8, 9, 10, 12, 54, 55, 56, 80, 81, 82] [] [] [] (env' := [(0, .int .i64 a1), (1, l40 none a2), (2, .int .i64 (IntKind.wrap .i64 (((IntKind.wrap .u64 a3)).tmod (iShl .u64 1 (IntKind.wrap .u64 a1))))), (7, l3 none w7.1), (8, .int .i64 w19.2), (9, .int .i64 w19.1), (10, .bool v23), (12, .int .i64 x1), (54, l3 none w7.1), (55, .int .i64 (w7.1.length : Int)), (56, .int .i64 (k1 : Int)), (80, l3 none e36), (81, .int .i64 (e36.length : Int)), (82, .int .i64 (k2 : Int))]) (by kernel_rfl) ?_
            refine W.region (by kernel_rfl) ?_
            refine WO.pureK 0 (some (.int .i64 (IntKind.wrap .i64 ((k2 : Int) + 1)))) (v := .int .i64 ((k2 + 1 : Nat) : Int)) (by kernel_rfl) (by rw [wrap_succ hl2 hk2]) (e1 := [(0, .int .i64 a1), (1, l40 none a2), (2, .int .i64 (IntKind.wrap .i64 (((IntKind.wrap .u64 a3)).tmod (iShl .u64 1 (IntKind.wrap .u64 a1))))), (7, l3 none w7.1), (8, .int .i64 w19.2), (9, .int .i64 w19.1), (10, .bool v23), (12, .int .i64 x1), (54, l3 none w7.1), (55, .int .i64 (w7.1.length : Int)), (56, .int .i64 (k1 : Int)), (80, l3 none e36), (81, .int .i64 (e36.length : Int)), (82, .int .i64 (k2 : Int)), (96, .int .i64 ((k2 + 1 : Nat) : Int))]) (by kernel_rfl) ?_
            refine WO.fin [0, 1, 2, 7, 8, 9, 10, 12, 54, 55, 56, 80, 81, 82] [] [] [] (e2 := [(0, .int .i64 a1), (1, l40 none a2), (2, .int .i64 (IntKind.wrap .i64 (((IntKind.wrap .u64 a3)).tmod (iShl .u64 1 (IntKind.wrap .u64 a1))))), (7, l3 none w7.1), (8, .int .i64 w19.2), (9, .int .i64 w19.1), (10, .bool v23), (12, .int .i64 x1), (54, l3 none w7.1), (55, .int .i64 (w7.1.length : Int)), (56, .int .i64 (k1 : Int)), (80, l3 none e36), (81, .int .i64 (e36.length : Int)), (82, .int .i64 ((k2 + 1 : Nat) : Int))]) (by kernel_rfl) (fun _ h => h) ?_
            exact hN2 () h
          refine W.region (by kernel_rfl) ?_
          refine WO.boolK 5 (fun b => [(0, .int .i64 a1), (1, l40 none a2), (2, .int .i64 (IntKind.wrap .i64 (((IntKind.wrap .u64 a3)).tmod (iShl .u64 1 (IntKind.wrap .u64 a1))))), (7, l3 none w7.1), (8, .int .i64 w19.2), (9, .int .i64 w19.1), (10, .bool v23), (12, .int .i64 x1), (16, .int .i64 x2), (54, l3 none w7.1), (55, .int .i64 (w7.1.length : Int)), (56, .int .i64 (k1 : Int)), (80, l3 none e36), (81, .int .i64 (e36.length : Int)), (82, .int .i64 (k2 : Int)), (86, .int .i64 x1), (87, .int .i64 x2), (88, .int .i64 (iAndNot .i64 x1 x2)), (89, .bool b), (90, .bool b)]) ((iAndNot .i64 x1 x2) == 0) (by kernel_rfl) (fun hb => ?_) (fun hb => ?_)
          · replace h := cond_t hb h
            refine WO.fin [0, 1, 2, 7, 8, 9, 10, 12, 54, 55, 56, 80, 81, 82, 95] [] [] [] (e2 := [(0, .int .i64 a1), (1, l40 none a2), (2, .int .i64 (IntKind.wrap .i64 (((IntKind.wrap .u64 a3)).tmod (iShl .u64 1 (IntKind.wrap .u64 a1))))), (7, l3 none w7.1), (8, .int .i64 w19.2), (9, .int .i64 w19.1), (10, .bool v23), (12, .int .i64 x1), (54, l3 none w7.1), (55, .int .i64 (w7.1.length : Int)), (56, .int .i64 (k1 : Int)), (80, l3 none e36), (81, .int .i64 (e36.length : Int)), (82, .int .i64 (k2 : Int)), (95, .bool true)]) (by kernel_rfl) (fun _ h => h) ?_
            exact hK39 true h
          replace h := cond_f hb h
          refine WO.fin [0, 1, 2, 7, 8, 9, 10, 12, 54, 55, 56, 80, 81, 82, 95] [] [] [] (e2 := [(0, .int .i64 a1), (1, l40 none a2), (2, .int .i64 (IntKind.wrap .i64 (((IntKind.wrap .u64 a3)).tmod (iShl .u64 1 (IntKind.wrap .u64 a1))))), (7, l3 none w7.1), (8, .int .i64 w19.2), (9, .int .i64 w19.1), (10, .bool v23), (12, .int .i64 x1), (54, l3 none w7.1), (55, .int .i64 (w7.1.length : Int)), (56, .int .i64 (k1 : Int)), (80, l3 none e36), (81, .int .i64 (e36.length : Int)), (82, .int .i64 (k2 : Int)), (95, .bool ((iAndNot .i64 x2 x1) == 0))]) (by kernel_rfl) (fun _ h => h) ?_
          exact hK39 ((iAndNot .i64 x2 x1) == 0) h
      refine W.region (by kernel_rfl) ?_
      refine WO.boolK 3 (fun b => [(0, .int .i64 a1), (1, l40 none a2), (2, .int .i64 (IntKind.wrap .i64 (((IntKind.wrap .u64 a3)).tmod (iShl .u64 1 (IntKind.wrap .u64 a1))))), (7, l3 none w7.1), (8, .int .i64 w19.2), (9, .int .i64 w19.1), (10, .bool v23), (11, .int .i64 (k1 : Int)), (12, .int .i64 x1), (13, .int .i64 w28.1), (14, .int .i64 w28.2), (54, l3 none w7.1), (55, .int .i64 (w7.1.length : Int)), (56, .int .i64 (k1 : Int)), (69, .int .i64 w28.2), (70, .bool b), (71, .bool b)]) (w28.2 != 0) (by kernel_rfl) (fun hb => ?_) (fun hb => ?_)
      · replace h := cond_t hb h
        refine WO.fin [0, 1, 2, 7, 8, 9, 10, 11, 12, 54, 55, 56, 77] [] [] [] (e2 := [(0, .int .i64 a1), (1, l40 none a2), (2, .int .i64 (IntKind.wrap .i64 (((IntKind.wrap .u64 a3)).tmod (iShl .u64 1 (IntKind.wrap .u64 a1))))), (7, l3 none w7.1), (8, .int .i64 w19.2), (9, .int .i64 w19.1), (10, .bool v23), (11, .int .i64 (k1 : Int)), (12, .int .i64 x1), (54, l3 none w7.1), (55, .int .i64 (w7.1.length : Int)), (56, .int .i64 (k1 : Int)), (77, .bool true)]) (by kernel_rfl) (fun _ h => h) ?_
        exact hK30 true h
      replace h := cond_f hb h
      obtain ⟨hc31, h⟩ := chk_some h
      refine WO.pureK 2 (if a1 < 0 then none else some (.int .i64 (iShl .i64 1 a1))) (v := .int .i64 (iShl .i64 1 a1)) (by kernel_rfl) (if_neg (not_lt_of_chk hc31)) (e1 := [(0, .int .i64 a1), (1, l40 none a2), (2, .int .i64 (IntKind.wrap .i64 (((IntKind.wrap .u64 a3)).tmod (iShl .u64 1 (IntKind.wrap .u64 a1))))), (7, l3 none w7.1), (8, .int .i64 w19.2), (9, .int .i64 w19.1), (10, .bool v23), (11, .int .i64 (k1 : Int)), (12, .int .i64 x1), (13, .int .i64 w28.1), (14, .int .i64 w28.2), (54, l3 none w7.1), (55, .int .i64 (w7.1.length : Int)), (56, .int .i64 (k1 : Int)), (69, .int .i64 w28.2), (70, .bool false), (71, .bool false), (72, .int .i64 w28.1), (73, .int .i64 a1), (74, .int .i64 (iShl .i64 1 a1))]) (by kernel_rfl) ?_
      refine WO.fin [0, 1, 2, 7, 8, 9, 10, 11, 12, 54, 55, 56, 77] [] [] [] (e2 := [(0, .int .i64 a1), (1, l40 none a2), (2, .int .i64 (IntKind.wrap .i64 (((IntKind.wrap .u64 a3)).tmod (iShl .u64 1 (IntKind.wrap .u64 a1))))), (7, l3 none w7.1), (8, .int .i64 w19.2), (9, .int .i64 w19.1), (10, .bool v23), (11, .int .i64 (k1 : Int)), (12, .int .i64 x1), (54, l3 none w7.1), (55, .int .i64 (w7.1.length : Int)), (56, .int .i64 (k1 : Int)), (77, .bool (w28.1 != (IntKind.wrap .i64 ((iShl .i64 1 a1) - 1))))]) (by kernel_rfl) (fun _ h => h) ?_
      exact hK30 (w28.1 != (IntKind.wrap .i64 ((iShl .i64 1 a1) - 1))) h
  refine W.region (by kernel_rfl) ?_
  refine WO.boolK 3 (fun b => [(0, .int .i64 a1), (1, l40 none a2), (2, .int .i64 a3), (7, l3 none w7.1), (8, .int .i64 w7.2), (24, .int .i64 w7.2), (25, .bool b), (26, .bool b)]) (w7.2 != 0) (by kernel_rfl) (fun hb => ?_) (fun hb => ?_)
  · replace h := cond_t hb h
    refine WO.fin [0, 1, 2, 7, 8, 33] [] [] [] (e2 := [(0, .int .i64 a1), (1, l40 none a2), (2, .int .i64 a3), (7, l3 none w7.1), (8, .int .i64 w7.2), (33, .bool true)]) (by kernel_rfl) (fun _ h => h) ?_
    exact hK9 true h
  replace h := cond_f hb h
  refine WO.boolK 4 (fun b => [(0, .int .i64 a1), (1, l40 none a2), (2, .int .i64 a3), (7, l3 none w7.1), (8, .int .i64 w7.2), (24, .int .i64 w7.2), (25, .bool false), (26, .bool false), (27, .int .i64 a1), (28, .bool b), (29, .bool b), (30, .bool b)]) (decide (a1 < 1)) (by kernel_rfl) (fun hb => ?_) (fun hb => ?_)
  · replace h := cond_t hb h
    refine WO.fin [0, 1, 2, 7, 8, 33] [] [] [] (e2 := [(0, .int .i64 a1), (1, l40 none a2), (2, .int .i64 a3), (7, l3 none w7.1), (8, .int .i64 w7.2), (33, .bool true)]) (by kernel_rfl) (fun _ h => h) ?_
    exact hK9 true h
  replace h := cond_f hb h
  refine WO.fin [0, 1, 2, 7, 8, 33] [] [] [] (e2 := [(0, .int .i64 a1), (1, l40 none a2), (2, .int .i64 a3), (7, l3 none w7.1), (8, .int .i64 w7.2), (33, .bool (decide (a1 > 8)))]) (by kernel_rfl) (fun _ h => h) ?_
  exact hK9 (decide (a1 > 8)) h
def dp_row_j6 (v13 : (List Int)) : Option (List Int) :=
  (some v13)
def dp_row_l1 (a2 : Int) (a3 : Int) (K6 : ((List Int) → Option (List Int))) : List Nat → Nat → (List Int) → Option (List Int)
  | [], k1, v8 => (K6 v8)
  | x1 :: r1, k1, v8 => (chk (decide (0 ≤ (k1 : Int))) (chk (capOk 8 ((v8 ++ [(IntKind.wrap .i64 (a3 * (IntKind.wrap .i64 (1 - (iAnd .i64 (iShr .i64 a2 (k1 : Int)) 1)))))])).length) ((dp_row_l1 a2 a3 K6 r1 (k1 + 1)) (v8 ++ [(IntKind.wrap .i64 (a3 * (IntKind.wrap .i64 (1 - (iAnd .i64 (iShr .i64 a2 (k1 : Int)) 1)))))]))))
def dp_row (a1 : Int) (a2 : Int) (a3 : Int) : Option (List Int) :=
  (chk (lenOk (List.range (Int.toNat a1))) (dp_row_l1 a2 a3 (dp_row_j6) (List.range (Int.toNat a1)) 0 ([] : (List Int))))
theorem run_dp_row (a1 : Int) (a2 : Int) (a3 : Int) (r : (List Int)) (h : dp_row a1 a2 a3 = some r) : Run Try.prog (.call 62 [.int .i64 a1, .int .i64 a2, .int .i64 a3] (l3 (some 1) r)) := by
  refine call_of_W Try.func62 rfl (by kernel_rfl) (env0 := [(0, .int .i64 a1), (1, .int .i64 a2), (2, .int .i64 a3)]) (by kernel_rfl) ?_
  unfold dp_row at h
  refine W.seq ?_
  refine W.regT [0, 1, 2] [] [] [] (e2 := [(0, .int .i64 a1), (1, .int .i64 a2), (2, .int .i64 a3)]) (by kernel_rfl) (by kernel_rfl) (fun _ h => h) ?_
  refine W.seq ?_
  refine W.regT [0, 1, 2, 7] [] [] [] (e2 := [(0, .int .i64 a1), (1, .int .i64 a2), (2, .int .i64 a3), (7, .nils)]) (by kernel_rfl) (by kernel_rfl) (fun _ h => h) ?_
  refine W.seq ?_
  refine W.join (σ := ((List Int))) (fun s => [(7, l3 (some 10700) s)]) (fun s => (dp_row_j6) s = some r) (fun s h => ?_) (fun hK6 => ?_)
  · obtain ⟨v13, rfl⟩ : ∃ x, x = s := ⟨s, rfl⟩
    have h : (dp_row_j6) v13 = some r := h
    unfold dp_row_j6 at h
    refine W.seq ?_
    refine W.regT [6] [] [] [] (e2 := [(6, l3 (some 10700) v13)]) (by kernel_rfl) (by kernel_rfl) (fun _ h => h) ?_
    refine W.weak [6] [] [] [(10700, some 1)] (env' := [(6, l3 (some 1) v13)]) (by kernel_rfl) ?_
    have hr : aresults Try.prog Try.f62 [(6, l3 (some 1) v13)] = some (l3 (some 1) v13) := by kernel_rfl
    cases h
    exact W.ret hr
  refine W.seq ?_
  refine W.regT [1, 2, 7, 9, 10] [] [] [] (e2 := [(1, .int .i64 a2), (2, .int .i64 a3), (7, .nils), (9, .int .i64 a1), (10, .int .i64 0)]) (by kernel_rfl) (by kernel_rfl) (fun _ h => h) ?_
  refine W.block ?_
  obtain ⟨hl1, h⟩ := chk_some h
  refine W.weak [1, 2, 7, 9, 10] [] [(7, 0, 3, 1, 10700)] [] (env' := [(1, .int .i64 a2), (2, .int .i64 a3), (7, l3 (some 10700) ([] : (List Int))), (9, .int .i64 a1), (10, .int .i64 ((0 : Nat) : Int))]) (by kernel_rfl) ?_
  refine W.range (σ := ((List Int))) (List.range (Int.toNat a1)) (fun k1 s => [(1, .int .i64 a2), (2, .int .i64 a3), (7, l3 (some 10700) s), (9, .int .i64 a1), (10, .int .i64 (k1 : Int))]) (fun r0 k0 s => dp_row_l1 a2 a3 (dp_row_j6) r0 k0 s = some r) (fun s h => ?_) (fun x1 r1 k1 s hx1 hk1 h hN1 => ?_) ([] : (List Int)) h
  · obtain ⟨v8, rfl⟩ : ∃ x, x = s := ⟨s, rfl⟩
    have h : dp_row_l1 a2 a3 (dp_row_j6) [] ((List.range (Int.toNat a1))).length v8 = some r := h
    rw [dp_row_l1.eq_1] at h
    refine W.seq ?_
    refine W.region (by kernel_rfl) ?_
    refine WO.pureK 0 (some (.bool (decide ((((List.range (Int.toNat a1))).length : Int) < a1)))) (v := .bool false) (by kernel_rfl) (by rw [ltr_false (n := a1)]) (e1 := [(1, .int .i64 a2), (2, .int .i64 a3), (7, l3 (some 10700) v8), (9, .int .i64 a1), (10, .int .i64 (((List.range (Int.toNat a1))).length : Int)), (11, .bool false)]) (by kernel_rfl) ?_
    refine WO.fin ([1, 2, 7, 9, 10, 11]) [] [] [] (e2 := [(1, .int .i64 a2), (2, .int .i64 a3), (7, l3 (some 10700) v8), (9, .int .i64 a1), (10, .int .i64 (((List.range (Int.toNat a1))).length : Int)), (11, .bool false)]) (by kernel_rfl) (fun _ h => h) ?_
    refine W.seq ?_
    refine W.condB false (by kernel_rfl) (fun h => Bool.noConfusion h) (fun _ => ?_)
    refine W.exit ?_
    refine W.weak [7] [] [] [] (env' := [(7, l3 (some 10700) v8)]) (by kernel_rfl) ?_
    exact hK6 v8 h
  · obtain ⟨v8, rfl⟩ : ∃ x, x = s := ⟨s, rfl⟩
    have h : dp_row_l1 a2 a3 (dp_row_j6) (x1 :: r1) k1 v8 = some r := h
    rw [dp_row_l1.eq_2] at h
    refine W.seq ?_
    refine W.region (by kernel_rfl) ?_
    refine WO.pureK 0 (some (.bool (decide ((k1 : Int) < a1)))) (v := .bool true) (by kernel_rfl) (by rw [ltr_true hk1]) (e1 := [(1, .int .i64 a2), (2, .int .i64 a3), (7, l3 (some 10700) v8), (9, .int .i64 a1), (10, .int .i64 (k1 : Int)), (11, .bool true)]) (by kernel_rfl) ?_
    refine WO.fin ([1, 2, 7, 9, 10, 11]) [] [] [] (e2 := [(1, .int .i64 a2), (2, .int .i64 a3), (7, l3 (some 10700) v8), (9, .int .i64 a1), (10, .int .i64 (k1 : Int)), (11, .bool true)]) (by kernel_rfl) (fun _ h => h) ?_
    refine W.seq ?_
    refine W.condB true (by kernel_rfl) (fun _ => ?_) (fun h => Bool.noConfusion h)
    refine W.skip ?_
    refine W.weak [1, 2, 7, 9, 10] [] [] [] (env' := [(1, .int .i64 a2), (2, .int .i64 a3), (7, l3 (some 10700) v8), (9, .int .i64 a1), (10, .int .i64 (k1 : Int))]) (by kernel_rfl) ?_
    refine W.seq ?_
    refine W.block ?_
    refine W.seq ?_
    refine W.regT [1, 2, 7, 8, 9, 10] [] [] [] (e2 := [(1, .int .i64 a2), (2, .int .i64 a3), (7, l3 (some 10700) v8), (8, .int .i64 (k1 : Int)), (9, .int .i64 a1), (10, .int .i64 (k1 : Int))]) (by kernel_rfl) (by kernel_rfl) (fun _ h => h) ?_
    refine W.region (by kernel_rfl) ?_
    obtain ⟨hc11, h⟩ := chk_some h
    refine WO.pureK 4 (if (k1 : Int) < 0 then none else some (.int .i64 (iShr .i64 a2 (k1 : Int)))) (v := .int .i64 (iShr .i64 a2 (k1 : Int))) (by kernel_rfl) (if_neg (not_lt_of_chk hc11)) (e1 := [(1, .int .i64 a2), (2, .int .i64 a3), (7, l3 (some 10700) v8), (8, .int .i64 (k1 : Int)), (9, .int .i64 a1), (10, .int .i64 (k1 : Int)), (13, l3 (some 10700) v8), (14, .int .i64 a3), (15, .int .i64 a2), (16, .int .i64 (k1 : Int)), (17, .int .i64 (iShr .i64 a2 (k1 : Int)))]) (by kernel_rfl) ?_
    obtain ⟨hc12, h⟩ := chk_some h
    refine WO.appendK 4 (d := 22) (e := 3) (s := 1) (bytes := 8) (xs := (List.map (AV.int .i64) v8)) (ys := (List.map (AV.int .i64) [(IntKind.wrap .i64 (a3 * (IntKind.wrap .i64 (1 - (iAnd .i64 (iShr .i64 a2 (k1 : Int)) 1)))))])) (zs := (List.map (AV.int .i64) (v8 ++ [(IntKind.wrap .i64 (a3 * (IntKind.wrap .i64 (1 - (iAnd .i64 (iShr .i64 a2 (k1 : Int)) 1)))))]))) (env1 := [(1, .int .i64 a2), (2, .int .i64 a3), (7, l3 none v8), (8, .int .i64 (k1 : Int)), (9, .int .i64 a1), (10, .int .i64 (k1 : Int)), (13, l3 none v8), (14, .int .i64 a3), (15, .int .i64 a2), (16, .int .i64 (k1 : Int)), (17, .int .i64 (iShr .i64 a2 (k1 : Int))), (18, .int .i64 (iAnd .i64 (iShr .i64 a2 (k1 : Int)) 1)), (19, .int .i64 (IntKind.wrap .i64 (1 - (iAnd .i64 (iShr .i64 a2 (k1 : Int)) 1)))), (20, .int .i64 (IntKind.wrap .i64 (a3 * (IntKind.wrap .i64 (1 - (iAnd .i64 (iShr .i64 a2 (k1 : Int)) 1)))))), (21, l3 (some 21) [(IntKind.wrap .i64 (a3 * (IntKind.wrap .i64 (1 - (iAnd .i64 (iShr .i64 a2 (k1 : Int)) 1)))))])]) (by kernel_rfl) (List.map_append.symm) (by rw [List.length_map]; exact hc12) (e1 := [(1, .int .i64 a2), (2, .int .i64 a3), (7, l3 none v8), (8, .int .i64 (k1 : Int)), (9, .int .i64 a1), (10, .int .i64 (k1 : Int)), (13, l3 none v8), (14, .int .i64 a3), (15, .int .i64 a2), (16, .int .i64 (k1 : Int)), (17, .int .i64 (iShr .i64 a2 (k1 : Int))), (18, .int .i64 (iAnd .i64 (iShr .i64 a2 (k1 : Int)) 1)), (19, .int .i64 (IntKind.wrap .i64 (1 - (iAnd .i64 (iShr .i64 a2 (k1 : Int)) 1)))), (20, .int .i64 (IntKind.wrap .i64 (a3 * (IntKind.wrap .i64 (1 - (iAnd .i64 (iShr .i64 a2 (k1 : Int)) 1)))))), (21, l3 (some 21) [(IntKind.wrap .i64 (a3 * (IntKind.wrap .i64 (1 - (iAnd .i64 (iShr .i64 a2 (k1 : Int)) 1)))))]), (22, l3 (some 22) (v8 ++ [(IntKind.wrap .i64 (a3 * (IntKind.wrap .i64 (1 - (iAnd .i64 (iShr .i64 a2 (k1 : Int)) 1)))))]))]) (by kernel_rfl) ?_
    refine WO.fin [1, 2, 7, 9, 10] [] [] [] (e2 := [(1, .int .i64 a2), (2, .int .i64 a3), (7, l3 (some 22) (v8 ++ [(IntKind.wrap .i64 (a3 * (IntKind.wrap .i64 (1 - (iAnd .i64 (iShr .i64 a2 (k1 : Int)) 1)))))])), (9, .int .i64 a1), (10, .int .i64 (k1 : Int))]) (by kernel_rfl) (fun _ h => h) ?_
    refine W.region (by kernel_rfl) ?_
    refine WO.pureK 0 (some (.int .i64 (IntKind.wrap .i64 ((k1 : Int) + 1)))) (v := .int .i64 ((k1 + 1 : Nat) : Int)) (by kernel_rfl) (by rw [wrap_succ hl1 hk1]) (e1 := [(1, .int .i64 a2), (2, .int .i64 a3), (7, l3 (some 22) (v8 ++ [(IntKind.wrap .i64 (a3 * (IntKind.wrap .i64 (1 - (iAnd .i64 (iShr .i64 a2 (k1 : Int)) 1)))))])), (9, .int .i64 a1), (10, .int .i64 (k1 : Int)), (23, .int .i64 ((k1 + 1 : Nat) : Int))]) (by kernel_rfl) ?_
    refine WO.fin [1, 2, 7, 9, 10] [] [] [(22, some 10700)] (e2 := [(1, .int .i64 a2), (2, .int .i64 a3), (7, l3 (some 10700) (v8 ++ [(IntKind.wrap .i64 (a3 * (IntKind.wrap .i64 (1 - (iAnd .i64 (iShr .i64 a2 (k1 : Int)) 1)))))])), (9, .int .i64 a1), (10, .int .i64 ((k1 + 1 : Nat) : Int))]) (by kernel_rfl) (fun _ h => h) ?_
    exact hN1 (v8 ++ [(IntKind.wrap .i64 (a3 * (IntKind.wrap .i64 (1 - (iAnd .i64 (iShr .i64 a2 (k1 : Int)) 1)))))]) h
def dp_Armstrong_j12 (v23 : (List (List Int))) : Option ((List (List Int)) × Int) :=
  (some (v23, 0))
def dp_Armstrong_j16 (N1 : ((List (List Int)) → Option ((List (List Int)) × Int))) (v22 : (List (List Int))) : Option ((List (List Int)) × Int) :=
  (N1 v22)
def dp_Armstrong_l1 (fuel : Nat) (a1 : Int) (w9 : ((List dpDep))) (K12 : ((List (List Int)) → Option ((List (List Int)) × Int))) : List Nat → Nat → (List (List Int)) → Option ((List (List Int)) × Int)
  | [], k1, v15 => (K12 v15)
  | x1 :: r1, k1, v15 => ((dp_closure_1 fuel (k1 : Int) w9).bind fun w19 => (bif (w19 == (k1 : Int)) then ((dp_row a1 (k1 : Int) (v15.length : Int)).bind fun w20 => (chk (capOk 24 ((v15 ++ [w20])).length) ((dp_Armstrong_j16 (dp_Armstrong_l1 fuel a1 w9 K12 r1 (k1 + 1))) (v15 ++ [w20])))) else ((dp_Armstrong_j16 (dp_Armstrong_l1 fuel a1 w9 K12 r1 (k1 + 1))) v15)))
def dp_Armstrong (fuel : Nat) (a1 : Int) (a2 : (List dpDep)) : Option ((List (List Int)) × Int) :=
  ((dp_valid a1 a2).bind fun w6 => (bif (!w6) then (some (([] : (List (List Int))), 2)) else ((dp_closure a2).bind fun w9 => ((dp_row a1 0 0).bind fun w11 => (chk (decide (0 ≤ a1)) (chk (lenOk (List.range (Int.toNat (IntKind.wrap .i64 ((iShl .i64 1 a1) - 1))))) (dp_Armstrong_l1 fuel a1 w9 (dp_Armstrong_j12) (List.range (Int.toNat (IntKind.wrap .i64 ((iShl .i64 1 a1) - 1)))) 0 [w11])))))))
theorem run_dp_Armstrong (fuel : Nat) (a1 : Int) (a2 : (List dpDep)) (r : ((List (List Int)) × Int)) (h : dp_Armstrong fuel a1 a2 = some r) : Run Try.prog (.call 24 [.int .i64 a1, l33 none a2] (.tup [l35 none r.1, .int .i64 r.2])) := by
  refine call_of_W Try.func24 rfl (by kernel_rfl) (env0 := [(0, .int .i64 a1), (1, l33 none a2)]) (by kernel_rfl) ?_
  unfold dp_Armstrong at h
  refine W.seq ?_
  refine W.regT [0, 1] [] [] [] (e2 := [(0, .int .i64 a1), (1, l33 none a2)]) (by kernel_rfl) (by kernel_rfl) (fun _ h => h) ?_
  refine W.seq ?_
  refine W.seq ?_
  refine W.region (by kernel_rfl) ?_
  obtain ⟨w6, hw6, h⟩ := bind_some h
  refine WO.callK 2 (F := 57) (l := [.int .i64 a1, l33 none a2]) (C := []) (r := .bool w6) (by kernel_rfl) (by kernel_rfl) (run_dp_valid a1 a2 w6 hw6) (e1 := [(0, .int .i64 a1), (1, l33 none a2), (9, .int .i64 a1), (10, l33 none a2), (11, .bool w6)]) (by kernel_rfl) ?_
  refine WO.fin [0, 1, 12] [] [] [] (e2 := [(0, .int .i64 a1), (1, l33 none a2), (12, .bool (!w6))]) (by kernel_rfl) (fun _ h => h) ?_
  refine W.condB (!w6) (by kernel_rfl) (fun hb => ?_) (fun hb => ?_)
  · replace h := cond_t hb h
    refine W.seq ?_
    refine W.regT [4, 5] [] [] [] (e2 := [(4, .nils), (5, .int .i64 2)]) (by kernel_rfl) (by kernel_rfl) (fun _ h => h) ?_
    refine W.weak [4, 5] [] [(4, 0, 35, 1, 70004)] [] (env' := [(4, l35 (some 70004) ([] : (List (List Int)))), (5, .int .i64 2)]) (by kernel_rfl) ?_
    have hr : aresults Try.prog Try.f24 [(4, l35 (some 70004) ([] : (List (List Int)))), (5, .int .i64 2)] = some (.tup [l35 none ([] : (List (List Int))), .int .i64 2]) := by kernel_rfl
    cases h
    exact W.ret hr
  replace h := cond_f hb h
  refine W.skip ?_
  refine W.weak [0, 1] [] [] [] (env' := [(0, .int .i64 a1), (1, l33 none a2)]) (by kernel_rfl) ?_
  refine W.seq ?_
  refine W.region (by kernel_rfl) ?_
  obtain ⟨w9, hw9, h⟩ := bind_some h
  refine WO.callK 1 (F := 59) (l := [l33 none a2]) (C := []) (r := .clo 77 [.ptr (l33 none w9)]) (by kernel_rfl) (by kernel_rfl) (run_dp_closure a2 w9 hw9) (e1 := [(0, .int .i64 a1), (1, l33 none a2), (13, l33 none a2), (14, .clo 77 [.ptr (l33 none w9)])]) (by kernel_rfl) ?_
  refine WO.fin [0, 6] [] [] [] (e2 := [(0, .int .i64 a1), (6, .clo 77 [.ptr (l33 none w9)])]) (by kernel_rfl) (fun _ h => h) ?_
  refine W.seq ?_
  refine W.region (by kernel_rfl) ?_
  obtain ⟨w11, hw11, h⟩ := bind_some h
  refine WO.callK 1 (F := 62) (l := [.int .i64 a1, .int .i64 0, .int .i64 0]) (C := []) (r := l3 (some 1) w11) (by kernel_rfl) (by kernel_rfl) (run_dp_row a1 0 0 w11 hw11) (e1 := [(0, .int .i64 a1), (6, .clo 77 [.ptr (l33 none w9)]), (15, .int .i64 a1), (16, l3 (some 16) w11)]) (by kernel_rfl) ?_
  refine WO.fin [0, 6, 7] [] [] [] (e2 := [(0, .int .i64 a1), (6, .clo 77 [.ptr (l33 none w9)]), (7, l35 (some 17) [w11])]) (by kernel_rfl) (fun _ h => h) ?_
  refine W.seq ?_
  refine W.join (σ := ((List (List Int)))) (fun s => [(7, l35 (some 10700) s)]) (fun s => (dp_Armstrong_j12) s = some r) (fun s h => ?_) (fun hK12 => ?_)
  · obtain ⟨v23, rfl⟩ : ∃ x, x = s := ⟨s, rfl⟩
    have h : (dp_Armstrong_j12) v23 = some r := h
    unfold dp_Armstrong_j12 at h
    refine W.seq ?_
    refine W.regT [4, 5] [] [] [] (e2 := [(4, l35 (some 10700) v23), (5, .int .i64 0)]) (by kernel_rfl) (by kernel_rfl) (fun _ h => h) ?_
    refine W.weak [4, 5] [] [] [] (env' := [(4, l35 (some 10700) v23), (5, .int .i64 0)]) (by kernel_rfl) ?_
    have hr : aresults Try.prog Try.f24 [(4, l35 (some 10700) v23), (5, .int .i64 0)] = some (.tup [l35 none v23, .int .i64 0]) := by kernel_rfl
    cases h
    exact W.ret hr
  refine W.seq ?_
  refine W.region (by kernel_rfl) ?_
  obtain ⟨hc14, h⟩ := chk_some h
  refine WO.pureK 1 (if a1 < 0 then none else some (.int .i64 (iShl .i64 1 a1))) (v := .int .i64 (iShl .i64 1 a1)) (by kernel_rfl) (if_neg (not_lt_of_chk hc14)) (e1 := [(0, .int .i64 a1), (6, .clo 77 [.ptr (l33 none w9)]), (7, l35 (some 17) [w11]), (18, .int .i64 a1), (19, .int .i64 (iShl .i64 1 a1))]) (by kernel_rfl) ?_
  refine WO.fin [0, 6, 7, 20, 21] [] [] [] (e2 := [(0, .int .i64 a1), (6, .clo 77 [.ptr (l33 none w9)]), (7, l35 (some 17) [w11]), (20, .int .i64 (IntKind.wrap .i64 ((iShl .i64 1 a1) - 1))), (21, .int .i64 0)]) (by kernel_rfl) (fun _ h => h) ?_
  refine W.block ?_
  obtain ⟨hl1, h⟩ := chk_some h
  refine W.weak [0, 6, 7, 20, 21] [] [] [(17, some 10700)] (env' := [(0, .int .i64 a1), (6, .clo 77 [.ptr (l33 none w9)]), (7, l35 (some 10700) [w11]), (20, .int .i64 (IntKind.wrap .i64 ((iShl .i64 1 a1) - 1))), (21, .int .i64 ((0 : Nat) : Int))]) (by kernel_rfl) ?_
  refine W.range (σ := ((List (List Int)))) (List.range (Int.toNat (IntKind.wrap .i64 ((iShl .i64 1 a1) - 1)))) (fun k1 s => [(0, .int .i64 a1), (6, .clo 77 [.ptr (l33 none w9)]), (7, l35 (some 10700) s), (20, .int .i64 (IntKind.wrap .i64 ((iShl .i64 1 a1) - 1))), (21, .int .i64 (k1 : Int))]) (fun r0 k0 s => dp_Armstrong_l1 fuel a1 w9 (dp_Armstrong_j12) r0 k0 s = some r) (fun s h => ?_) (fun x1 r1 k1 s hx1 hk1 h hN1 => ?_) [w11] h
  · obtain ⟨v15, rfl⟩ : ∃ x, x = s := ⟨s, rfl⟩
    have h : dp_Armstrong_l1 fuel a1 w9 (dp_Armstrong_j12) [] ((List.range (Int.toNat (IntKind.wrap .i64 ((iShl .i64 1 a1) - 1))))).length v15 = some r := h
    rw [dp_Armstrong_l1.eq_1] at h
    refine W.seq ?_
    refine W.region (by kernel_rfl) ?_
    refine WO.pureK 0 (some (.bool (decide ((((List.range (Int.toNat (IntKind.wrap .i64 ((iShl .i64 1 a1) - 1))))).length : Int) < (IntKind.wrap .i64 ((iShl .i64 1 a1) - 1)))))) (v := .bool false) (by kernel_rfl) (by rw [ltr_false (n := (IntKind.wrap .i64 ((iShl .i64 1 a1) - 1)))]) (e1 := [(0, .int .i64 a1), (6, .clo 77 [.ptr (l33 none w9)]), (7, l35 (some 10700) v15), (20, .int .i64 (IntKind.wrap .i64 ((iShl .i64 1 a1) - 1))), (21, .int .i64 (((List.range (Int.toNat (IntKind.wrap .i64 ((iShl .i64 1 a1) - 1))))).length : Int)), (22, .bool false)]) (by kernel_rfl) ?_
    refine WO.fin ([0, 6, 7, 20, 21, 22]) [] [] [] (e2 := [(0, .int .i64 a1), (6, .clo 77 [.ptr (l33 none w9)]), (7, l35 (some 10700) v15), (20, .int .i64 (IntKind.wrap .i64 ((iShl .i64 1 a1) - 1))), (21, .int .i64 (((List.range (Int.toNat (IntKind.wrap .i64 ((iShl .i64 1 a1) - 1))))).length : Int)), (22, .bool false)]) (by kernel_rfl) (fun _ h => h) ?_
    refine W.seq ?_
    refine W.condB false (by kernel_rfl) (fun h => Bool.noConfusion h) (fun _ => ?_)
    refine W.exit ?_
    refine W.weak [7] [] [] [] (env' := [(7, l35 (some 10700) v15)]) (by kernel_rfl) ?_
    exact hK12 v15 h
  · obtain ⟨v15, rfl⟩ : ∃ x, x = s := ⟨s, rfl⟩
    have h : dp_Armstrong_l1 fuel a1 w9 (dp_Armstrong_j12) (x1 :: r1) k1 v15 = some r := h
    rw [dp_Armstrong_l1.eq_2] at h
    refine W.seq ?_
    refine W.region (by kernel_rfl) ?_
    refine WO.pureK 0 (some (.bool (decide ((k1 : Int) < (IntKind.wrap .i64 ((iShl .i64 1 a1) - 1)))))) (v := .bool true) (by kernel_rfl) (by rw [ltr_true hk1]) (e1 := [(0, .int .i64 a1), (6, .clo 77 [.ptr (l33 none w9)]), (7, l35 (some 10700) v15), (20, .int .i64 (IntKind.wrap .i64 ((iShl .i64 1 a1) - 1))), (21, .int .i64 (k1 : Int)), (22, .bool true)]) (by kernel_rfl) ?_
    refine WO.fin ([0, 6, 7, 20, 21, 22]) [] [] [] (e2 := [(0, .int .i64 a1), (6, .clo 77 [.ptr (l33 none w9)]), (7, l35 (some 10700) v15), (20, .int .i64 (IntKind.wrap .i64 ((iShl .i64 1 a1) - 1))), (21, .int .i64 (k1 : Int)), (22, .bool true)]) (by kernel_rfl) (fun _ h => h) ?_
    refine W.seq ?_
    refine W.condB true (by kernel_rfl) (fun _ => ?_) (fun h => Bool.noConfusion h)
    refine W.skip ?_
    refine W.weak [0, 6, 7, 20, 21] [] [] [] (env' := [(0, .int .i64 a1), (6, .clo 77 [.ptr (l33 none w9)]), (7, l35 (some 10700) v15), (20, .int .i64 (IntKind.wrap .i64 ((iShl .i64 1 a1) - 1))), (21, .int .i64 (k1 : Int))]) (by kernel_rfl) ?_
    refine W.seq ?_
    refine W.join (σ := ((List (List Int)))) (fun s => [(0, .int .i64 a1), (6, .clo 77 [.ptr (l33 none w9)]), (7, l35 (some 10700) s), (20, .int .i64 (IntKind.wrap .i64 ((iShl .i64 1 a1) - 1))), (21, .int .i64 (k1 : Int))]) (fun s => (dp_Armstrong_j16 (dp_Armstrong_l1 fuel a1 w9 (dp_Armstrong_j12) r1 (k1 + 1))) s = some r) (fun s h => ?_) (fun hK16 => ?_)
    · obtain ⟨v22, rfl⟩ : ∃ x, x = s := ⟨s, rfl⟩
      have h : (dp_Armstrong_j16 (dp_Armstrong_l1 fuel a1 w9 (dp_Armstrong_j12) r1 (k1 + 1))) v22 = some r := h
      unfold dp_Armstrong_j16 at h
      refine W.region (by kernel_rfl) ?_
      refine WO.pureK 0 (some (.int .i64 (IntKind.wrap .i64 ((k1 : Int) + 1)))) (v := .int .i64 ((k1 + 1 : Nat) : Int)) (by kernel_rfl) (by rw [wrap_succ hl1 hk1]) (e1 := [(0, .int .i64 a1), (6, .clo 77 [.ptr (l33 none w9)]), (7, l35 (some 10700) v22), (20, .int .i64 (IntKind.wrap .i64 ((iShl .i64 1 a1) - 1))), (21, .int .i64 (k1 : Int)), (37, .int .i64 ((k1 + 1 : Nat) : Int))]) (by kernel_rfl) ?_
      refine WO.fin [0, 6, 7, 20, 21] [] [] [] (e2 := [(0, .int .i64 a1), (6, .clo 77 [.ptr (l33 none w9)]), (7, l35 (some 10700) v22), (20, .int .i64 (IntKind.wrap .i64 ((iShl .i64 1 a1) - 1))), (21, .int .i64 ((k1 + 1 : Nat) : Int))]) (by kernel_rfl) (fun _ h => h) ?_
      exact hN1 v22 h
    refine W.block ?_
    refine W.seq ?_
    refine W.regT [0, 6, 7, 8, 20, 21] [] [] [] (e2 := [(0, .int .i64 a1), (6, .clo 77 [.ptr (l33 none w9)]), (7, l35 (some 10700) v15), (8, .int .i64 (k1 : Int)), (20, .int .i64 (IntKind.wrap .i64 ((iShl .i64 1 a1) - 1))), (21, .int .i64 (k1 : Int))]) (by kernel_rfl) (by kernel_rfl) (fun _ h => h) ?_
    refine W.seq ?_
    refine W.region (by kernel_rfl) ?_
    obtain ⟨w19, hw19, h⟩ := bind_some h
    refine WO.callK 2 (F := 77) (l := [.int .i64 (k1 : Int)]) (C := [.ptr (l33 none w9)]) (r := .int .i64 w19) (by kernel_rfl) (by kernel_rfl) (run_dp_closure_1 fuel (k1 : Int) w9 w19 hw19) (e1 := [(0, .int .i64 a1), (6, .clo 77 [.ptr (l33 none w9)]), (7, l35 (some 10700) v15), (8, .int .i64 (k1 : Int)), (20, .int .i64 (IntKind.wrap .i64 ((iShl .i64 1 a1) - 1))), (21, .int .i64 (k1 : Int)), (24, .clo 77 [.ptr (l33 none w9)]), (25, .int .i64 (k1 : Int)), (26, .int .i64 w19)]) (by kernel_rfl) ?_
    refine WO.fin [0, 6, 7, 8, 20, 21, 28] [] [] [] (e2 := [(0, .int .i64 a1), (6, .clo 77 [.ptr (l33 none w9)]), (7, l35 (some 10700) v15), (8, .int .i64 (k1 : Int)), (20, .int .i64 (IntKind.wrap .i64 ((iShl .i64 1 a1) - 1))), (21, .int .i64 (k1 : Int)), (28, .bool (w19 == (k1 : Int)))]) (by kernel_rfl) (fun _ h => h) ?_
    refine W.condB (w19 == (k1 : Int)) (by kernel_rfl) (fun hb => ?_) (fun hb => ?_)
    · replace h := cond_t hb h
      refine W.region (by kernel_rfl) ?_
      refine WO.pureK 4 (some (.int .i64 ((List.map (encL 3 1 (AV.int .i64)) v15).length : Int))) (v := .int .i64 (v15.length : Int)) (by kernel_rfl) (by rw [List.length_map]) (e1 := [(0, .int .i64 a1), (6, .clo 77 [.ptr (l33 none w9)]), (7, l35 (some 10700) v15), (8, .int .i64 (k1 : Int)), (20, .int .i64 (IntKind.wrap .i64 ((iShl .i64 1 a1) - 1))), (21, .int .i64 (k1 : Int)), (28, .bool (w19 == (k1 : Int))), (29, l35 (some 10700) v15), (30, .int .i64 a1), (31, .int .i64 (k1 : Int)), (32, l35 (some 10700) v15), (33, .int .i64 (v15.length : Int))]) (by kernel_rfl) ?_
      obtain ⟨w20, hw20, h⟩ := bind_some h
      refine WO.callK 0 (F := 62) (l := [.int .i64 a1, .int .i64 (k1 : Int), .int .i64 (v15.length : Int)]) (C := []) (r := l3 (some 1) w20) (by kernel_rfl) (by kernel_rfl) (run_dp_row a1 (k1 : Int) (v15.length : Int) w20 hw20) (e1 := [(0, .int .i64 a1), (6, .clo 77 [.ptr (l33 none w9)]), (7, l35 (some 10700) v15), (8, .int .i64 (k1 : Int)), (20, .int .i64 (IntKind.wrap .i64 ((iShl .i64 1 a1) - 1))), (21, .int .i64 (k1 : Int)), (28, .bool (w19 == (k1 : Int))), (29, l35 (some 10700) v15), (30, .int .i64 a1), (31, .int .i64 (k1 : Int)), (32, l35 (some 10700) v15), (33, .int .i64 (v15.length : Int)), (34, l3 (some 34) w20)]) (by kernel_rfl) ?_
      obtain ⟨hc21, h⟩ := chk_some h
      refine WO.appendK 1 (d := 36) (e := 35) (s := 1) (bytes := 24) (xs := (List.map (encL 3 1 (AV.int .i64)) v15)) (ys := (List.map (encL 3 1 (AV.int .i64)) [w20])) (zs := (List.map (encL 3 1 (AV.int .i64)) (v15 ++ [w20]))) (env1 := [(0, .int .i64 a1), (6, .clo 77 [.ptr (l33 none w9)]), (7, l35 none v15), (8, .int .i64 (k1 : Int)), (20, .int .i64 (IntKind.wrap .i64 ((iShl .i64 1 a1) - 1))), (21, .int .i64 (k1 : Int)), (28, .bool (w19 == (k1 : Int))), (29, l35 none v15), (30, .int .i64 a1), (31, .int .i64 (k1 : Int)), (32, l35 none v15), (33, .int .i64 (v15.length : Int)), (34, l3 (some 34) w20), (35, l35 (some 35) [w20])]) (by kernel_rfl) (List.map_append.symm) (by rw [List.length_map]; exact hc21) (e1 := [(0, .int .i64 a1), (6, .clo 77 [.ptr (l33 none w9)]), (7, l35 none v15), (8, .int .i64 (k1 : Int)), (20, .int .i64 (IntKind.wrap .i64 ((iShl .i64 1 a1) - 1))), (21, .int .i64 (k1 : Int)), (28, .bool (w19 == (k1 : Int))), (29, l35 none v15), (30, .int .i64 a1), (31, .int .i64 (k1 : Int)), (32, l35 none v15), (33, .int .i64 (v15.length : Int)), (34, l3 (some 34) w20), (35, l35 (some 35) [w20]), (36, l35 (some 36) (v15 ++ [w20]))]) (by kernel_rfl) ?_
      refine WO.fin [0, 6, 7, 20, 21] [] [] [(36, some 10700)] (e2 := [(0, .int .i64 a1), (6, .clo 77 [.ptr (l33 none w9)]), (7, l35 (some 10700) (v15 ++ [w20])), (20, .int .i64 (IntKind.wrap .i64 ((iShl .i64 1 a1) - 1))), (21, .int .i64 (k1 : Int))]) (by kernel_rfl) (fun _ h => h) ?_
      exact hK16 (v15 ++ [w20]) h
    replace h := cond_f hb h
    refine W.skip ?_
    refine W.weak [0, 6, 7, 20, 21] [] [] [] (env' := [(0, .int .i64 a1), (6, .clo 77 [.ptr (l33 none w9)]), (7, l35 (some 10700) v15), (20, .int .i64 (IntKind.wrap .i64 ((iShl .i64 1 a1) - 1))), (21, .int .i64 (k1 : Int))]) (by kernel_rfl) ?_
    exact hK16 v15 h
def lw1_dep (a1 : rf1Dep) : Option dpDep :=
  (some (dpDep.mk a1.f_From a1.f_To))
theorem run_lw1_dep (a1 : rf1Dep) (r : dpDep) (h : lw1_dep a1 = some r) : Run Try.prog (.call 25 [.agg [.int .i64 a1.f_From, .int .i64 a1.f_To]] (.agg [.int .i64 r.f_From, .int .i64 r.f_To])) := by
  refine call_of_W Try.func25 rfl (by kernel_rfl) (env0 := [(0, .agg [.int .i64 a1.f_From, .int .i64 a1.f_To])]) (by kernel_rfl) ?_
  unfold lw1_dep at h
  refine W.seq ?_
  refine W.regT [1, 2] [1] [] [] (e2 := [(1, .ptr (.agg [.int .i64 a1.f_From, .int .i64 a1.f_To])), (2, .box [.int .i64 0, .int .i64 0])]) (by kernel_rfl) (by kernel_rfl) (fun _ h => h) ?_
  refine W.seq ?_
  refine W.regT [2] [] [] [] (e2 := [(2, .box [.int .i64 a1.f_From, .int .i64 a1.f_To])]) (by kernel_rfl) (by kernel_rfl) (fun _ h => h) ?_
  refine W.weak [2] [] [] [] (env' := [(2, .box [.int .i64 a1.f_From, .int .i64 a1.f_To])]) (by kernel_rfl) ?_
  have hr : aresults Try.prog Try.f25 [(2, .box [.int .i64 a1.f_From, .int .i64 a1.f_To])] = some (.agg [.int .i64 a1.f_From, .int .i64 a1.f_To]) := by kernel_rfl
  cases h
  exact W.ret hr

end Go.AM
