/- PRINTED by gen.py: pure functions and the proofs that the code computes them. No statement of the seat is proved here. -/
import Derived.Test.YtombfedoinhafaaK158
set_option maxRecDepth 100000
set_option linter.unusedVariables false
set_option linter.unusedSimpArgs false
namespace Go.AM
open Go.Proofs
def lw1_alike_j5 : Option (Bool × Bool) :=
  (some (true, true))
def lw1_alike_j15 (w11 : (Int × Int)) (w13 : (Int × Int)) (N1 : (Option (Bool × Bool))) (v16 : Bool) : Option (Bool × Bool) :=
  (bif v16 then (some (false, false)) else (bif (w11.1 != w13.1) then (some (false, true)) else N1))
def lw1_alike_l1 (fuel : Nat) (a1 : Int) (a2 : (List dpDep)) (a3 : (List dpDep)) (K5 : (Option (Bool × Bool))) : List Nat → Nat → Option (Bool × Bool)
  | [], k1 => K5
  | x1 :: r1, k1 => ((dp_Closure fuel a1 a2 (k1 : Int)).bind fun w11 => ((dp_Closure fuel a1 a3 (k1 : Int)).bind fun w13 => (bif (w11.2 != 0) then ((lw1_alike_j15 w11 w13 (lw1_alike_l1 fuel a1 a2 a3 K5 r1 (k1 + 1))) true) else ((lw1_alike_j15 w11 w13 (lw1_alike_l1 fuel a1 a2 a3 K5 r1 (k1 + 1))) (w13.2 != 0)))))
def lw1_alike (fuel : Nat) (a1 : Int) (a2 : (List dpDep)) (a3 : (List dpDep)) : Option (Bool × Bool) :=
  (chk (decide (0 ≤ a1)) (chk (lenOk (List.range (Int.toNat (iShl .i64 1 a1)))) (lw1_alike_l1 fuel a1 a2 a3 (lw1_alike_j5) (List.range (Int.toNat (iShl .i64 1 a1))) 0)))
theorem run_lw1_alike (fuel : Nat) (a1 : Int) (a2 : (List dpDep)) (a3 : (List dpDep)) (r : (Bool × Bool)) (h : lw1_alike fuel a1 a2 a3 = some r) : Run Try.prog (.call 49 [.int .i64 a1, l33 none a2, l33 none a3] (.tup [.bool r.1, .bool r.2])) := by
  refine call_of_W Try.func49 rfl (by kernel_rfl) (env0 := [(0, .int .i64 a1), (1, l33 none a2), (2, l33 none a3)]) (by kernel_rfl) ?_
  unfold lw1_alike at h
  refine W.seq ?_
  refine W.regT [0, 1, 2] [] [] [] (e2 := [(0, .int .i64 a1), (1, l33 none a2), (2, l33 none a3)]) (by kernel_rfl) (by kernel_rfl) (fun _ h => h) ?_
  refine W.seq ?_
  refine W.join (σ := Unit) (fun s => []) (fun s => (lw1_alike_j5) = some r) (fun s h => ?_) (fun hK5 => ?_)
  · have h : (lw1_alike_j5) = some r := h
    unfold lw1_alike_j5 at h
    refine W.seq ?_
    refine W.regT [6, 7] [] [] [] (e2 := [(6, .bool true), (7, .bool true)]) (by kernel_rfl) (by kernel_rfl) (fun _ h => h) ?_
    refine W.weak [6, 7] [] [] [] (env' := [(6, .bool true), (7, .bool true)]) (by kernel_rfl) ?_
    have hr : aresults Try.prog Try.f49 [(6, .bool true), (7, .bool true)] = some (.tup [.bool true, .bool true]) := by kernel_rfl
    cases h
    exact W.ret hr
  refine W.seq ?_
  refine W.region (by kernel_rfl) ?_
  obtain ⟨hc7, h⟩ := chk_some h
  refine WO.pureK 1 (if a1 < 0 then none else some (.int .i64 (iShl .i64 1 a1))) (v := .int .i64 (iShl .i64 1 a1)) (by kernel_rfl) (if_neg (not_lt_of_chk hc7)) (e1 := [(0, .int .i64 a1), (1, l33 none a2), (2, l33 none a3), (13, .int .i64 a1), (14, .int .i64 (iShl .i64 1 a1))]) (by kernel_rfl) ?_
  refine WO.fin [0, 1, 2, 14, 15] [] [] [] (e2 := [(0, .int .i64 a1), (1, l33 none a2), (2, l33 none a3), (14, .int .i64 (iShl .i64 1 a1)), (15, .int .i64 0)]) (by kernel_rfl) (fun _ h => h) ?_
  refine W.block ?_
  obtain ⟨hl1, h⟩ := chk_some h
  refine W.weak [0, 1, 2, 14, 15] [] [] [] (env' := [(0, .int .i64 a1), (1, l33 none a2), (2, l33 none a3), (14, .int .i64 (iShl .i64 1 a1)), (15, .int .i64 ((0 : Nat) : Int))]) (by kernel_rfl) ?_
  refine W.range (σ := Unit) (List.range (Int.toNat (iShl .i64 1 a1))) (fun k1 s => [(0, .int .i64 a1), (1, l33 none a2), (2, l33 none a3), (14, .int .i64 (iShl .i64 1 a1)), (15, .int .i64 (k1 : Int))]) (fun r0 k0 s => lw1_alike_l1 fuel a1 a2 a3 (lw1_alike_j5) r0 k0 = some r) (fun s h => ?_) (fun x1 r1 k1 s hx1 hk1 h hN1 => ?_) () h
  · have h : lw1_alike_l1 fuel a1 a2 a3 (lw1_alike_j5) [] ((List.range (Int.toNat (iShl .i64 1 a1)))).length = some r := h
    rw [lw1_alike_l1.eq_1] at h
    refine W.seq ?_
    refine W.region (by kernel_rfl) ?_
    refine WO.pureK 0 (some (.bool (decide ((((List.range (Int.toNat (iShl .i64 1 a1)))).length : Int) < (iShl .i64 1 a1))))) (v := .bool false) (by kernel_rfl) (by rw [ltr_false (n := (iShl .i64 1 a1))]) (e1 := [(0, .int .i64 a1), (1, l33 none a2), (2, l33 none a3), (14, .int .i64 (iShl .i64 1 a1)), (15, .int .i64 (((List.range (Int.toNat (iShl .i64 1 a1)))).length : Int)), (16, .bool false)]) (by kernel_rfl) ?_
    refine WO.fin ([0, 1, 2, 14, 15, 16]) [] [] [] (e2 := [(0, .int .i64 a1), (1, l33 none a2), (2, l33 none a3), (14, .int .i64 (iShl .i64 1 a1)), (15, .int .i64 (((List.range (Int.toNat (iShl .i64 1 a1)))).length : Int)), (16, .bool false)]) (by kernel_rfl) (fun _ h => h) ?_
    refine W.seq ?_
    refine W.condB false (by kernel_rfl) (fun h => Bool.noConfusion h) (fun _ => ?_)
    refine W.exit ?_
    refine W.weak [] [] [] [] (env' := []) (by kernel_rfl) ?_
    exact hK5 () h
  · have h : lw1_alike_l1 fuel a1 a2 a3 (lw1_alike_j5) (x1 :: r1) k1 = some r := h
    rw [lw1_alike_l1.eq_2] at h
    refine W.seq ?_
    refine W.region (by kernel_rfl) ?_
    refine WO.pureK 0 (some (.bool (decide ((k1 : Int) < (iShl .i64 1 a1))))) (v := .bool true) (by kernel_rfl) (by rw [ltr_true hk1]) (e1 := [(0, .int .i64 a1), (1, l33 none a2), (2, l33 none a3), (14, .int .i64 (iShl .i64 1 a1)), (15, .int .i64 (k1 : Int)), (16, .bool true)]) (by kernel_rfl) ?_
    refine WO.fin ([0, 1, 2, 14, 15, 16]) [] [] [] (e2 := [(0, .int .i64 a1), (1, l33 none a2), (2, l33 none a3), (14, .int .i64 (iShl .i64 1 a1)), (15, .int .i64 (k1 : Int)), (16, .bool true)]) (by kernel_rfl) (fun _ h => h) ?_
    refine W.seq ?_
    refine W.condB true (by kernel_rfl) (fun _ => ?_) (fun h => Bool.noConfusion h)
    refine W.skip ?_
    refine W.weak [0, 1, 2, 14, 15] [] [] [] (env' := [(0, .int .i64 a1), (1, l33 none a2), (2, l33 none a3), (14, .int .i64 (iShl .i64 1 a1)), (15, .int .i64 (k1 : Int))]) (by kernel_rfl) ?_
    refine W.seq ?_
    refine W.block ?_
    refine W.seq ?_
    refine W.regT [0, 1, 2, 8, 14, 15] [] [] [] (e2 := [(0, .int .i64 a1), (1, l33 none a2), (2, l33 none a3), (8, .int .i64 (k1 : Int)), (14, .int .i64 (iShl .i64 1 a1)), (15, .int .i64 (k1 : Int))]) (by kernel_rfl) (by kernel_rfl) (fun _ h => h) ?_
    refine W.seq ?_
    refine W.region (by kernel_rfl) ?_
    obtain ⟨w11, hw11, h⟩ := bind_some h
    refine WO.callK 3 (F := 19) (l := [.int .i64 a1, l33 none a2, .int .i64 (k1 : Int)]) (C := []) (r := .tup [.int .i64 w11.1, .int .i64 w11.2]) (by kernel_rfl) (by kernel_rfl) (run_dp_Closure fuel a1 a2 (k1 : Int) w11 hw11) (e1 := [(0, .int .i64 a1), (1, l33 none a2), (2, l33 none a3), (8, .int .i64 (k1 : Int)), (14, .int .i64 (iShl .i64 1 a1)), (15, .int .i64 (k1 : Int)), (19, .int .i64 a1), (20, l33 none a2), (21, .int .i64 (k1 : Int)), (22, .tup [.int .i64 w11.1, .int .i64 w11.2])]) (by kernel_rfl) ?_
    refine WO.fin [0, 1, 2, 8, 9, 10, 14, 15] [] [] [] (e2 := [(0, .int .i64 a1), (1, l33 none a2), (2, l33 none a3), (8, .int .i64 (k1 : Int)), (9, .int .i64 w11.1), (10, .int .i64 w11.2), (14, .int .i64 (iShl .i64 1 a1)), (15, .int .i64 (k1 : Int))]) (by kernel_rfl) (fun _ h => h) ?_
    refine W.seq ?_
    refine W.region (by kernel_rfl) ?_
    obtain ⟨w13, hw13, h⟩ := bind_some h
    refine WO.callK 3 (F := 19) (l := [.int .i64 a1, l33 none a3, .int .i64 (k1 : Int)]) (C := []) (r := .tup [.int .i64 w13.1, .int .i64 w13.2]) (by kernel_rfl) (by kernel_rfl) (run_dp_Closure fuel a1 a3 (k1 : Int) w13 hw13) (e1 := [(0, .int .i64 a1), (1, l33 none a2), (2, l33 none a3), (8, .int .i64 (k1 : Int)), (9, .int .i64 w11.1), (10, .int .i64 w11.2), (14, .int .i64 (iShl .i64 1 a1)), (15, .int .i64 (k1 : Int)), (26, .int .i64 a1), (27, l33 none a3), (28, .int .i64 (k1 : Int)), (29, .tup [.int .i64 w13.1, .int .i64 w13.2])]) (by kernel_rfl) ?_
    refine WO.fin [0, 1, 2, 9, 10, 11, 12, 14, 15] [] [] [] (e2 := [(0, .int .i64 a1), (1, l33 none a2), (2, l33 none a3), (9, .int .i64 w11.1), (10, .int .i64 w11.2), (11, .int .i64 w13.1), (12, .int .i64 w13.2), (14, .int .i64 (iShl .i64 1 a1)), (15, .int .i64 (k1 : Int))]) (by kernel_rfl) (fun _ h => h) ?_
    refine W.seq ?_
    refine W.seq ?_
    refine W.join (σ := (Bool)) (fun s => [(0, .int .i64 a1), (1, l33 none a2), (2, l33 none a3), (9, .int .i64 w11.1), (11, .int .i64 w13.1), (14, .int .i64 (iShl .i64 1 a1)), (15, .int .i64 (k1 : Int)), (37, .bool s)]) (fun s => (lw1_alike_j15 w11 w13 (lw1_alike_l1 fuel a1 a2 a3 (lw1_alike_j5) r1 (k1 + 1))) s = some r) (fun s h => ?_) (fun hK15 => ?_)
    · obtain ⟨v16, rfl⟩ : ∃ x, x = s := ⟨s, rfl⟩
      have h : (lw1_alike_j15 w11 w13 (lw1_alike_l1 fuel a1 a2 a3 (lw1_alike_j5) r1 (k1 + 1))) v16 = some r := h
      unfold lw1_alike_j15 at h
      refine W.condB v16 (by kernel_rfl) (fun hb => ?_) (fun hb => ?_)
      · replace h := cond_t hb h
        refine W.seq ?_
        refine W.regT [6, 7] [] [] [] (e2 := [(6, .bool false), (7, .bool false)]) (by kernel_rfl) (by kernel_rfl) (fun _ h => h) ?_
        refine W.weak [6, 7] [] [] [] (env' := [(6, .bool false), (7, .bool false)]) (by kernel_rfl) ?_
        have hr : aresults Try.prog Try.f49 [(6, .bool false), (7, .bool false)] = some (.tup [.bool false, .bool false]) := by kernel_rfl
        cases h
        exact W.ret hr
      replace h := cond_f hb h
      refine W.skip ?_
      refine W.weak [0, 1, 2, 9, 11, 14, 15] [] [] [] (env' := [(0, .int .i64 a1), (1, l33 none a2), (2, l33 none a3), (9, .int .i64 w11.1), (11, .int .i64 w13.1), (14, .int .i64 (iShl .i64 1 a1)), (15, .int .i64 (k1 : Int))]) (by kernel_rfl) ?_
      refine W.seq ?_
      refine W.regT [0, 1, 2, 14, 15, 40] [] [] [] (e2 := [(0, .int .i64 a1), (1, l33 none a2), (2, l33 none a3), (14, .int .i64 (iShl .i64 1 a1)), (15, .int .i64 (k1 : Int)), (40, .bool (w11.1 != w13.1))]) (by kernel_rfl) (by kernel_rfl) (fun _ h => h) ?_
      refine W.condB (w11.1 != w13.1) (by kernel_rfl) (fun hb => ?_) (fun hb => ?_)
      · replace h := cond_t hb h
        refine W.seq ?_
        refine W.regT [6, 7] [] [] [] (e2 := [(6, .bool false), (7, .bool true)]) (by kernel_rfl) (by kernel_rfl) (fun _ h => h) ?_
        refine W.weak [6, 7] [] [] [] (env' := [(6, .bool false), (7, .bool true)]) (by kernel_rfl) ?_
        have hr : aresults Try.prog Try.f49 [(6, .bool false), (7, .bool true)] = some (.tup [.bool false, .bool true]) := by kernel_rfl
        cases h
        exact W.ret hr
      replace h := cond_f hb h
      refine W.skip ?_
      refine W.weak [0, 1, 2, 14, 15] [] [] [] (env' := [(0, .int .i64 a1), (1, l33 none a2), (2, l33 none a3), (14, .int .i64 (iShl .i64 1 a1)), (15, .int .i64 (k1 : Int))]) (by kernel_rfl) ?_
      refine W.region (by kernel_rfl) ?_
      refine WO.pureK 0 (some (.int .i64 (IntKind.wrap .i64 ((k1 : Int) + 1)))) (v := .int .i64 ((k1 + 1 : Nat) : Int)) (by kernel_rfl) (by rw [wrap_succ hl1 hk1]) (e1 := [(0, .int .i64 a1), (1, l33 none a2), (2, l33 none a3), (14, .int .i64 (iShl .i64 1 a1)), (15, .int .i64 (k1 : Int)), (41, .int .i64 ((k1 + 1 : Nat) : Int))]) (by kernel_rfl) ?_
      refine WO.fin [0, 1, 2, 14, 15] [] [] [] (e2 := [(0, .int .i64 a1), (1, l33 none a2), (2, l33 none a3), (14, .int .i64 (iShl .i64 1 a1)), (15, .int .i64 ((k1 + 1 : Nat) : Int))]) (by kernel_rfl) (fun _ h => h) ?_
      exact hN1 () h
    refine W.region (by kernel_rfl) ?_
    refine WO.boolK 3 (fun b => [(0, .int .i64 a1), (1, l33 none a2), (2, l33 none a3), (9, .int .i64 w11.1), (10, .int .i64 w11.2), (11, .int .i64 w13.1), (12, .int .i64 w13.2), (14, .int .i64 (iShl .i64 1 a1)), (15, .int .i64 (k1 : Int)), (32, .int .i64 w11.2), (33, .bool b), (34, .bool b)]) (w11.2 != 0) (by kernel_rfl) (fun hb => ?_) (fun hb => ?_)
    · replace h := cond_t hb h
      refine WO.fin [0, 1, 2, 9, 11, 14, 15, 37] [] [] [] (e2 := [(0, .int .i64 a1), (1, l33 none a2), (2, l33 none a3), (9, .int .i64 w11.1), (11, .int .i64 w13.1), (14, .int .i64 (iShl .i64 1 a1)), (15, .int .i64 (k1 : Int)), (37, .bool true)]) (by kernel_rfl) (fun _ h => h) ?_
      exact hK15 true h
    replace h := cond_f hb h
    refine WO.fin [0, 1, 2, 9, 11, 14, 15, 37] [] [] [] (e2 := [(0, .int .i64 a1), (1, l33 none a2), (2, l33 none a3), (9, .int .i64 w11.1), (11, .int .i64 w13.1), (14, .int .i64 (iShl .i64 1 a1)), (15, .int .i64 (k1 : Int)), (37, .bool (w13.2 != 0))]) (by kernel_rfl) (fun _ h => h) ?_
    exact hK15 (w13.2 != 0) h
def lw1_DependBase_j11 (v13 : Bool) : Option Bool :=
  (some v13)
def lw1_DependBase_j29 (v33 : Bool) : Option Bool :=
  (some v33)
def lw1_DependBase_j22 (fuel : Nat) (a1 : Int) (a2 : (List rf1Dep)) (a3 : (List rf1Dep)) (w7 : ((List dpDep) × Int)) (v23 : Bool) : Option Bool :=
  (bif v23 then (some false) else ((lw1_deps a3).bind fun w26 => ((lw1_deps a2).bind fun w27 => ((lw1_alike fuel a1 w26 w27).bind fun w28 => (bif (!w28.2) then ((lw1_awake fuel).bind fun w30 => ((lw1_DependBase_j29) w30)) else (bif (!w28.1) then ((lw1_awake fuel).bind fun w31 => ((lw1_DependBase_j29) w31)) else (bif (decide ((w7.1.length : Int) ≤ (a3.length : Int))) then ((lw1_awake fuel).bind fun w32 => ((lw1_DependBase_j29) w32)) else ((lw1_DependBase_j29) false))))))))
def lw1_DependBase_j15 (fuel : Nat) (a1 : Int) (a2 : (List rf1Dep)) (a3 : (List rf1Dep)) (w7 : ((List dpDep) × Int)) (v19 : Bool) (v20 : Bool) : Option Bool :=
  (bif (!v19) then ((lw1_DependBase_j22 fuel a1 a2 a3 w7) true) else (bif (!v20) then ((lw1_DependBase_j22 fuel a1 a2 a3 w7) true) else ((lw1_DependBase_j22 fuel a1 a2 a3 w7) (decide ((w7.1.length : Int) > (a2.length : Int))))))
def lw1_DependBase_j9 (fuel : Nat) (a1 : Int) (a2 : (List rf1Dep)) (a3 : (List rf1Dep)) (w7 : ((List dpDep) × Int)) (v10 : Bool) : Option Bool :=
  (bif v10 then (bif (w7.2 == 2) then ((lw1_awake fuel).bind fun w12 => ((lw1_DependBase_j11) w12)) else ((lw1_DependBase_j11) false)) else (bif (decide ((w7.1.length : Int) ≤ 12)) then ((lw1_deps a2).bind fun w17 => ((lw1_alike fuel a1 w7.1 w17).bind fun w18 => ((lw1_DependBase_j15 fuel a1 a2 a3 w7) w18.1 w18.2))) else ((lw1_DependBase_j15 fuel a1 a2 a3 w7) true true)))
def lw1_DependBase (fuel : Nat) (a1 : Int) (a2 : (List rf1Dep)) (a3 : (List rf1Dep)) : Option Bool :=
  ((lw1_deps a2).bind fun w6 => ((dp_Critical fuel a1 w6).bind fun w7 => (bif (w7.2 != 0) then ((lw1_DependBase_j9 fuel a1 a2 a3 w7) true) else (bif (decide (a1 < 1)) then ((lw1_DependBase_j9 fuel a1 a2 a3 w7) true) else ((lw1_DependBase_j9 fuel a1 a2 a3 w7) (decide (a1 > 8)))))))
theorem run_lw1_DependBase (fuel : Nat) (a1 : Int) (a2 : (List rf1Dep)) (a3 : (List rf1Dep)) (r : Bool) (h : lw1_DependBase fuel a1 a2 a3 = some r) : Run Try.prog (.call 15 [.int .i64 a1, l40 none a2, l40 none a3] (.bool r)) := by
  refine call_of_W Try.func15 rfl (by kernel_rfl) (env0 := [(0, .int .i64 a1), (1, l40 none a2), (2, l40 none a3)]) (by kernel_rfl) ?_
  unfold lw1_DependBase at h
  refine W.seq ?_
  refine W.regT [0, 1, 2] [] [] [] (e2 := [(0, .int .i64 a1), (1, l40 none a2), (2, l40 none a3)]) (by kernel_rfl) (by kernel_rfl) (fun _ h => h) ?_
  refine W.seq ?_
  refine W.region (by kernel_rfl) ?_
  obtain ⟨w6, hw6, h⟩ := bind_some h
  refine WO.callK 2 (F := 20) (l := [l40 none a2]) (C := []) (r := l33 (some 1) w6) (by kernel_rfl) (by kernel_rfl) (run_lw1_deps a2 w6 hw6) (e1 := [(0, .int .i64 a1), (1, l40 none a2), (2, l40 none a3), (12, .int .i64 a1), (13, l40 none a2), (14, l33 (some 14) w6)]) (by kernel_rfl) ?_
  obtain ⟨w7, hw7, h⟩ := bind_some h
  refine WO.callK 0 (F := 48) (l := [.int .i64 a1, l33 none w6]) (C := []) (r := .tup [l33 none w7.1, .int .i64 w7.2]) (by kernel_rfl) (by kernel_rfl) (run_dp_Critical fuel a1 w6 w7 hw7) (e1 := [(0, .int .i64 a1), (1, l40 none a2), (2, l40 none a3), (12, .int .i64 a1), (13, l40 none a2), (14, l33 (some 14) w6), (15, .tup [l33 none w7.1, .int .i64 w7.2])]) (by kernel_rfl) ?_
  refine WO.fin [0, 1, 2, 7, 8] [] [] [] (e2 := [(0, .int .i64 a1), (1, l40 none a2), (2, l40 none a3), (7, l33 none w7.1), (8, .int .i64 w7.2)]) (by kernel_rfl) (fun _ h => h) ?_
  refine W.seq ?_
  refine W.seq ?_
  refine W.join (σ := (Bool)) (fun s => [(0, .int .i64 a1), (1, l40 none a2), (2, l40 none a3), (7, l33 none w7.1), (8, .int .i64 w7.2), (27, .bool s)]) (fun s => (lw1_DependBase_j9 fuel a1 a2 a3 w7) s = some r) (fun s h => ?_) (fun hK9 => ?_)
  · obtain ⟨v10, rfl⟩ : ∃ x, x = s := ⟨s, rfl⟩
    have h : (lw1_DependBase_j9 fuel a1 a2 a3 w7) v10 = some r := h
    unfold lw1_DependBase_j9 at h
    refine W.condB v10 (by kernel_rfl) (fun hb => ?_) (fun hb => ?_)
    · replace h := cond_t hb h
      refine W.seq ?_
      refine W.join (σ := (Bool)) (fun s => [(6, .bool s)]) (fun s => (lw1_DependBase_j11) s = some r) (fun s h => ?_) (fun hK11 => ?_)
      · obtain ⟨v13, rfl⟩ : ∃ x, x = s := ⟨s, rfl⟩
        have h : (lw1_DependBase_j11) v13 = some r := h
        unfold lw1_DependBase_j11 at h
        refine W.weak [6] [] [] [] (env' := [(6, .bool v13)]) (by kernel_rfl) ?_
        have hr : aresults Try.prog Try.f15 [(6, .bool v13)] = some (.bool v13) := by kernel_rfl
        cases h
        exact W.ret hr
      refine W.region (by kernel_rfl) ?_
      refine WO.boolK 3 (fun b => [(0, .int .i64 a1), (1, l40 none a2), (2, l40 none a3), (7, l33 none w7.1), (8, .int .i64 w7.2), (27, .bool v10), (28, .int .i64 w7.2), (29, .bool b), (30, .bool b)]) (w7.2 == 2) (by kernel_rfl) (fun hb => ?_) (fun hb => ?_)
      · replace h := cond_t hb h
        obtain ⟨w12, hw12, h⟩ := bind_some h
        refine WO.callK 0 (F := 21) (l := []) (C := []) (r := .bool w12) (by kernel_rfl) (by kernel_rfl) (run_lw1_awake fuel w12 hw12) (e1 := [(0, .int .i64 a1), (1, l40 none a2), (2, l40 none a3), (7, l33 none w7.1), (8, .int .i64 w7.2), (27, .bool v10), (28, .int .i64 w7.2), (29, .bool true), (30, .bool true), (31, .bool w12)]) (by kernel_rfl) ?_
        refine WO.fin [6] [] [] [] (e2 := [(6, .bool w12)]) (by kernel_rfl) (fun _ h => h) ?_
        exact hK11 w12 h
      replace h := cond_f hb h
      refine WO.fin [6] [] [] [] (e2 := [(6, .bool false)]) (by kernel_rfl) (fun _ h => h) ?_
      exact hK11 false h
    replace h := cond_f hb h
    refine W.skip ?_
    refine W.weak [0, 1, 2, 7] [] [] [] (env' := [(0, .int .i64 a1), (1, l40 none a2), (2, l40 none a3), (7, l33 none w7.1)]) (by kernel_rfl) ?_
    refine W.seq ?_
    refine W.regT [0, 1, 2, 7, 9, 10] [] [] [] (e2 := [(0, .int .i64 a1), (1, l40 none a2), (2, l40 none a3), (7, l33 none w7.1), (9, .bool true), (10, .bool true)]) (by kernel_rfl) (by kernel_rfl) (fun _ h => h) ?_
    refine W.seq ?_
    refine W.join (σ := (Bool × Bool)) (fun s => [(0, .int .i64 a1), (1, l40 none a2), (2, l40 none a3), (7, l33 none w7.1), (9, .bool s.1), (10, .bool s.2)]) (fun s => (lw1_DependBase_j15 fuel a1 a2 a3 w7) s.1 s.2 = some r) (fun s h => ?_) (fun hK15 => ?_)
    · obtain ⟨v19, v20⟩ := s
      have h : (lw1_DependBase_j15 fuel a1 a2 a3 w7) v19 v20 = some r := h
      unfold lw1_DependBase_j15 at h
      refine W.seq ?_
      refine W.seq ?_
      refine W.join (σ := (Bool)) (fun s => [(0, .int .i64 a1), (1, l40 none a2), (2, l40 none a3), (7, l33 none w7.1), (56, .bool s)]) (fun s => (lw1_DependBase_j22 fuel a1 a2 a3 w7) s = some r) (fun s h => ?_) (fun hK22 => ?_)
      · obtain ⟨v23, rfl⟩ : ∃ x, x = s := ⟨s, rfl⟩
        have h : (lw1_DependBase_j22 fuel a1 a2 a3 w7) v23 = some r := h
        unfold lw1_DependBase_j22 at h
        refine W.condB v23 (by kernel_rfl) (fun hb => ?_) (fun hb => ?_)
        · replace h := cond_t hb h
          refine W.seq ?_
          refine W.regT [6] [] [] [] (e2 := [(6, .bool false)]) (by kernel_rfl) (by kernel_rfl) (fun _ h => h) ?_
          refine W.weak [6] [] [] [] (env' := [(6, .bool false)]) (by kernel_rfl) ?_
          have hr : aresults Try.prog Try.f15 [(6, .bool false)] = some (.bool false) := by kernel_rfl
          cases h
          exact W.ret hr
        replace h := cond_f hb h
        refine W.skip ?_
        refine W.weak [0, 1, 2, 7] [] [] [] (env' := [(0, .int .i64 a1), (1, l40 none a2), (2, l40 none a3), (7, l33 none w7.1)]) (by kernel_rfl) ?_
        refine W.seq ?_
        refine W.region (by kernel_rfl) ?_
        obtain ⟨w26, hw26, h⟩ := bind_some h
        refine WO.callK 2 (F := 20) (l := [l40 none a3]) (C := []) (r := l33 (some 1) w26) (by kernel_rfl) (by kernel_rfl) (run_lw1_deps a3 w26 hw26) (e1 := [(0, .int .i64 a1), (1, l40 none a2), (2, l40 none a3), (7, l33 none w7.1), (58, .int .i64 a1), (59, l40 none a3), (60, l33 (some 60) w26)]) (by kernel_rfl) ?_
        obtain ⟨w27, hw27, h⟩ := bind_some h
        refine WO.callK 1 (F := 20) (l := [l40 none a2]) (C := []) (r := l33 (some 1) w27) (by kernel_rfl) (by kernel_rfl) (run_lw1_deps a2 w27 hw27) (e1 := [(0, .int .i64 a1), (1, l40 none a2), (2, l40 none a3), (7, l33 none w7.1), (58, .int .i64 a1), (59, l40 none a3), (60, l33 (some 60) w26), (61, l40 none a2), (62, l33 (some 62) w27)]) (by kernel_rfl) ?_
        obtain ⟨w28, hw28, h⟩ := bind_some h
        refine WO.callK 0 (F := 49) (l := [.int .i64 a1, l33 none w26, l33 none w27]) (C := []) (r := .tup [.bool w28.1, .bool w28.2]) (by kernel_rfl) (by kernel_rfl) (run_lw1_alike fuel a1 w26 w27 w28 hw28) (e1 := [(0, .int .i64 a1), (1, l40 none a2), (2, l40 none a3), (7, l33 none w7.1), (58, .int .i64 a1), (59, l40 none a3), (60, l33 (some 60) w26), (61, l40 none a2), (62, l33 (some 62) w27), (63, .tup [.bool w28.1, .bool w28.2])]) (by kernel_rfl) ?_
        refine WO.fin [2, 7, 9, 10] [] [] [] (e2 := [(2, l40 none a3), (7, l33 none w7.1), (9, .bool w28.1), (10, .bool w28.2)]) (by kernel_rfl) (fun _ h => h) ?_
        refine W.seq ?_
        refine W.join (σ := (Bool)) (fun s => [(6, .bool s)]) (fun s => (lw1_DependBase_j29) s = some r) (fun s h => ?_) (fun hK29 => ?_)
        · obtain ⟨v33, rfl⟩ : ∃ x, x = s := ⟨s, rfl⟩
          have h : (lw1_DependBase_j29) v33 = some r := h
          unfold lw1_DependBase_j29 at h
          refine W.weak [6] [] [] [] (env' := [(6, .bool v33)]) (by kernel_rfl) ?_
          have hr : aresults Try.prog Try.f15 [(6, .bool v33)] = some (.bool v33) := by kernel_rfl
          cases h
          exact W.ret hr
        refine W.region (by kernel_rfl) ?_
        refine WO.boolK 3 (fun b => [(2, l40 none a3), (7, l33 none w7.1), (9, .bool w28.1), (10, .bool w28.2), (66, .bool w28.2), (67, .bool b), (68, .bool b)]) (!w28.2) (by kernel_rfl) (fun hb => ?_) (fun hb => ?_)
        · replace h := cond_t hb h
          obtain ⟨w30, hw30, h⟩ := bind_some h
          refine WO.callK 11 (F := 21) (l := []) (C := []) (r := .bool w30) (by kernel_rfl) (by kernel_rfl) (run_lw1_awake fuel w30 hw30) (e1 := [(2, l40 none a3), (7, l33 none w7.1), (9, .bool w28.1), (10, .bool w28.2), (66, .bool w28.2), (67, .bool true), (68, .bool true), (69, .und), (70, .und), (71, .bool true), (72, .bool true), (73, .und), (74, .und), (75, .und), (76, .und), (77, .und), (78, .bool true), (79, .bool true), (80, .bool w30)]) (by kernel_rfl) ?_
          refine WO.fin [6] [] [] [] (e2 := [(6, .bool w30)]) (by kernel_rfl) (fun _ h => h) ?_
          exact hK29 w30 h
        replace h := cond_f hb h
        refine WO.boolK 4 (fun b => [(2, l40 none a3), (7, l33 none w7.1), (9, .bool w28.1), (10, .bool w28.2), (66, .bool w28.2), (67, .bool false), (68, .bool false), (69, .bool w28.1), (70, .bool b), (71, .bool b), (72, .bool b)]) (!w28.1) (by kernel_rfl) (fun hb => ?_) (fun hb => ?_)
        · replace h := cond_t hb h
          obtain ⟨w31, hw31, h⟩ := bind_some h
          refine WO.callK 7 (F := 21) (l := []) (C := []) (r := .bool w31) (by kernel_rfl) (by kernel_rfl) (run_lw1_awake fuel w31 hw31) (e1 := [(2, l40 none a3), (7, l33 none w7.1), (9, .bool w28.1), (10, .bool w28.2), (66, .bool w28.2), (67, .bool false), (68, .bool false), (69, .bool w28.1), (70, .bool true), (71, .bool true), (72, .bool true), (73, .und), (74, .und), (75, .und), (76, .und), (77, .und), (78, .bool true), (79, .bool true), (80, .bool w31)]) (by kernel_rfl) ?_
          refine WO.fin [6] [] [] [] (e2 := [(6, .bool w31)]) (by kernel_rfl) (fun _ h => h) ?_
          exact hK29 w31 h
        replace h := cond_f hb h
        refine WO.pureK 1 (some (.int .i64 ((List.map e_dpDep w7.1).length : Int))) (v := .int .i64 (w7.1.length : Int)) (by kernel_rfl) (by rw [List.length_map]) (e1 := [(2, l40 none a3), (7, l33 none w7.1), (9, .bool w28.1), (10, .bool w28.2), (66, .bool w28.2), (67, .bool false), (68, .bool false), (69, .bool w28.1), (70, .bool false), (71, .bool false), (72, .bool false), (73, l33 none w7.1), (74, .int .i64 (w7.1.length : Int))]) (by kernel_rfl) ?_
        refine WO.pureK 1 (some (.int .i64 ((List.map e_rf1Dep a3).length : Int))) (v := .int .i64 (a3.length : Int)) (by kernel_rfl) (by rw [List.length_map]) (e1 := [(2, l40 none a3), (7, l33 none w7.1), (9, .bool w28.1), (10, .bool w28.2), (66, .bool w28.2), (67, .bool false), (68, .bool false), (69, .bool w28.1), (70, .bool false), (71, .bool false), (72, .bool false), (73, l33 none w7.1), (74, .int .i64 (w7.1.length : Int)), (75, l40 none a3), (76, .int .i64 (a3.length : Int))]) (by kernel_rfl) ?_
        refine WO.boolK 3 (fun b => [(2, l40 none a3), (7, l33 none w7.1), (9, .bool w28.1), (10, .bool w28.2), (66, .bool w28.2), (67, .bool false), (68, .bool false), (69, .bool w28.1), (70, .bool false), (71, .bool false), (72, .bool false), (73, l33 none w7.1), (74, .int .i64 (w7.1.length : Int)), (75, l40 none a3), (76, .int .i64 (a3.length : Int)), (77, .bool b), (78, .bool b), (79, .bool b)]) (decide ((w7.1.length : Int) ≤ (a3.length : Int))) (by kernel_rfl) (fun hb => ?_) (fun hb => ?_)
        · replace h := cond_t hb h
          obtain ⟨w32, hw32, h⟩ := bind_some h
          refine WO.callK 0 (F := 21) (l := []) (C := []) (r := .bool w32) (by kernel_rfl) (by kernel_rfl) (run_lw1_awake fuel w32 hw32) (e1 := [(2, l40 none a3), (7, l33 none w7.1), (9, .bool w28.1), (10, .bool w28.2), (66, .bool w28.2), (67, .bool false), (68, .bool false), (69, .bool w28.1), (70, .bool false), (71, .bool false), (72, .bool false), (73, l33 none w7.1), (74, .int .i64 (w7.1.length : Int)), (75, l40 none a3), (76, .int .i64 (a3.length : Int)), (77, .bool true), (78, .bool true), (79, .bool true), (80, .bool w32)]) (by kernel_rfl) ?_
          refine WO.fin [6] [] [] [] (e2 := [(6, .bool w32)]) (by kernel_rfl) (fun _ h => h) ?_
          exact hK29 w32 h
        replace h := cond_f hb h
        refine WO.fin [6] [] [] [] (e2 := [(6, .bool false)]) (by kernel_rfl) (fun _ h => h) ?_
        exact hK29 false h
      refine W.region (by kernel_rfl) ?_
      refine WO.boolK 3 (fun b => [(0, .int .i64 a1), (1, l40 none a2), (2, l40 none a3), (7, l33 none w7.1), (9, .bool v19), (10, .bool v20), (44, .bool v19), (45, .bool b), (46, .bool b)]) (!v19) (by kernel_rfl) (fun hb => ?_) (fun hb => ?_)
      · replace h := cond_t hb h
        refine WO.fin [0, 1, 2, 7, 56] [] [] [] (e2 := [(0, .int .i64 a1), (1, l40 none a2), (2, l40 none a3), (7, l33 none w7.1), (56, .bool true)]) (by kernel_rfl) (fun _ h => h) ?_
        exact hK22 true h
      replace h := cond_f hb h
      refine WO.boolK 4 (fun b => [(0, .int .i64 a1), (1, l40 none a2), (2, l40 none a3), (7, l33 none w7.1), (9, .bool v19), (10, .bool v20), (44, .bool v19), (45, .bool false), (46, .bool false), (47, .bool v20), (48, .bool b), (49, .bool b), (50, .bool b)]) (!v20) (by kernel_rfl) (fun hb => ?_) (fun hb => ?_)
      · replace h := cond_t hb h
        refine WO.fin [0, 1, 2, 7, 56] [] [] [] (e2 := [(0, .int .i64 a1), (1, l40 none a2), (2, l40 none a3), (7, l33 none w7.1), (56, .bool true)]) (by kernel_rfl) (fun _ h => h) ?_
        exact hK22 true h
      replace h := cond_f hb h
      refine WO.pureK 1 (some (.int .i64 ((List.map e_dpDep w7.1).length : Int))) (v := .int .i64 (w7.1.length : Int)) (by kernel_rfl) (by rw [List.length_map]) (e1 := [(0, .int .i64 a1), (1, l40 none a2), (2, l40 none a3), (7, l33 none w7.1), (9, .bool v19), (10, .bool v20), (44, .bool v19), (45, .bool false), (46, .bool false), (47, .bool v20), (48, .bool false), (49, .bool false), (50, .bool false), (51, l33 none w7.1), (52, .int .i64 (w7.1.length : Int))]) (by kernel_rfl) ?_
      refine WO.pureK 1 (some (.int .i64 ((List.map e_rf1Dep a2).length : Int))) (v := .int .i64 (a2.length : Int)) (by kernel_rfl) (by rw [List.length_map]) (e1 := [(0, .int .i64 a1), (1, l40 none a2), (2, l40 none a3), (7, l33 none w7.1), (9, .bool v19), (10, .bool v20), (44, .bool v19), (45, .bool false), (46, .bool false), (47, .bool v20), (48, .bool false), (49, .bool false), (50, .bool false), (51, l33 none w7.1), (52, .int .i64 (w7.1.length : Int)), (53, l40 none a2), (54, .int .i64 (a2.length : Int))]) (by kernel_rfl) ?_
      refine WO.fin [0, 1, 2, 7, 56] [] [] [] (e2 := [(0, .int .i64 a1), (1, l40 none a2), (2, l40 none a3), (7, l33 none w7.1), (56, .bool (decide ((w7.1.length : Int) > (a2.length : Int))))]) (by kernel_rfl) (fun _ h => h) ?_
      exact hK22 (decide ((w7.1.length : Int) > (a2.length : Int))) h
    refine W.seq ?_
    refine W.region (by kernel_rfl) ?_
    refine WO.pureK 1 (some (.int .i64 ((List.map e_dpDep w7.1).length : Int))) (v := .int .i64 (w7.1.length : Int)) (by kernel_rfl) (by rw [List.length_map]) (e1 := [(0, .int .i64 a1), (1, l40 none a2), (2, l40 none a3), (7, l33 none w7.1), (9, .bool true), (10, .bool true), (33, l33 none w7.1), (34, .int .i64 (w7.1.length : Int))]) (by kernel_rfl) ?_
    refine WO.fin [0, 1, 2, 7, 9, 10, 35] [] [] [] (e2 := [(0, .int .i64 a1), (1, l40 none a2), (2, l40 none a3), (7, l33 none w7.1), (9, .bool true), (10, .bool true), (35, .bool (decide ((w7.1.length : Int) ≤ 12)))]) (by kernel_rfl) (fun _ h => h) ?_
    refine W.condB (decide ((w7.1.length : Int) ≤ 12)) (by kernel_rfl) (fun hb => ?_) (fun hb => ?_)
    · replace h := cond_t hb h
      refine W.region (by kernel_rfl) ?_
      obtain ⟨w17, hw17, h⟩ := bind_some h
      refine WO.callK 3 (F := 20) (l := [l40 none a2]) (C := []) (r := l33 (some 1) w17) (by kernel_rfl) (by kernel_rfl) (run_lw1_deps a2 w17 hw17) (e1 := [(0, .int .i64 a1), (1, l40 none a2), (2, l40 none a3), (7, l33 none w7.1), (9, .bool true), (10, .bool true), (35, .bool (decide ((w7.1.length : Int) ≤ 12))), (37, .int .i64 a1), (38, l33 none w7.1), (39, l40 none a2), (40, l33 (some 40) w17)]) (by kernel_rfl) ?_
      obtain ⟨w18, hw18, h⟩ := bind_some h
      refine WO.callK 0 (F := 49) (l := [.int .i64 a1, l33 none w7.1, l33 none w17]) (C := []) (r := .tup [.bool w18.1, .bool w18.2]) (by kernel_rfl) (by kernel_rfl) (run_lw1_alike fuel a1 w7.1 w17 w18 hw18) (e1 := [(0, .int .i64 a1), (1, l40 none a2), (2, l40 none a3), (7, l33 none w7.1), (9, .bool true), (10, .bool true), (35, .bool (decide ((w7.1.length : Int) ≤ 12))), (37, .int .i64 a1), (38, l33 none w7.1), (39, l40 none a2), (40, l33 (some 40) w17), (41, .tup [.bool w18.1, .bool w18.2])]) (by kernel_rfl) ?_
      refine WO.fin [0, 1, 2, 7, 9, 10] [] [] [] (e2 := [(0, .int .i64 a1), (1, l40 none a2), (2, l40 none a3), (7, l33 none w7.1), (9, .bool w18.1), (10, .bool w18.2)]) (by kernel_rfl) (fun _ h => h) ?_
      exact hK15 (w18.1, w18.2) h
    replace h := cond_f hb h
    refine W.skip ?_
    refine W.weak [0, 1, 2, 7, 9, 10] [] [] [] (env' := [(0, .int .i64 a1), (1, l40 none a2), (2, l40 none a3), (7, l33 none w7.1), (9, .bool true), (10, .bool true)]) (by kernel_rfl) ?_
    exact hK15 (true, true) h
  refine W.region (by kernel_rfl) ?_
  refine WO.boolK 3 (fun b => [(0, .int .i64 a1), (1, l40 none a2), (2, l40 none a3), (7, l33 none w7.1), (8, .int .i64 w7.2), (18, .int .i64 w7.2), (19, .bool b), (20, .bool b)]) (w7.2 != 0) (by kernel_rfl) (fun hb => ?_) (fun hb => ?_)
  · replace h := cond_t hb h
    refine WO.fin [0, 1, 2, 7, 8, 27] [] [] [] (e2 := [(0, .int .i64 a1), (1, l40 none a2), (2, l40 none a3), (7, l33 none w7.1), (8, .int .i64 w7.2), (27, .bool true)]) (by kernel_rfl) (fun _ h => h) ?_
    exact hK9 true h
  replace h := cond_f hb h
  refine WO.boolK 4 (fun b => [(0, .int .i64 a1), (1, l40 none a2), (2, l40 none a3), (7, l33 none w7.1), (8, .int .i64 w7.2), (18, .int .i64 w7.2), (19, .bool false), (20, .bool false), (21, .int .i64 a1), (22, .bool b), (23, .bool b), (24, .bool b)]) (decide (a1 < 1)) (by kernel_rfl) (fun hb => ?_) (fun hb => ?_)
  · replace h := cond_t hb h
    refine WO.fin [0, 1, 2, 7, 8, 27] [] [] [] (e2 := [(0, .int .i64 a1), (1, l40 none a2), (2, l40 none a3), (7, l33 none w7.1), (8, .int .i64 w7.2), (27, .bool true)]) (by kernel_rfl) (fun _ h => h) ?_
    exact hK9 true h
  replace h := cond_f hb h
  refine WO.fin [0, 1, 2, 7, 8, 27] [] [] [] (e2 := [(0, .int .i64 a1), (1, l40 none a2), (2, l40 none a3), (7, l33 none w7.1), (8, .int .i64 w7.2), (27, .bool (decide (a1 > 8)))]) (by kernel_rfl) (fun _ h => h) ?_
  exact hK9 (decide (a1 > 8)) h

end Go.AM
