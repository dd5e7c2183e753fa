/- PRINTED by gen.py: pure functions and the proofs that the code computes them. No statement of the seat is proved here. -/
import Derived.Test.YtombfedoinhafaaH1
set_option maxRecDepth 100000
set_option linter.unusedVariables false
set_option linter.unusedSimpArgs false
namespace Go.AM
open Go.Proofs
def lw1_few_j4 (v14 : (List (List Int))) : Option (List (List Int)) :=
  (some v14)
def lw1_few_l1 (K4 : ((List (List Int)) → Option (List (List Int)))) : List (List Int) → Nat → (List (List Int)) → Option (List (List Int))
  | [], k1, v6 => (K4 v6)
  | x1 :: r1, k1, v6 => (bif (decide ((k1 : Int) > 61)) then (K4 v6) else ((sub x1 0 (if 10 < (x1.length : Int) then 10 else (x1.length : Int))).bind fun e11 => ((sl_Clone_int e11).bind fun w12 => (chk (capOk 24 ((v6 ++ [w12])).length) ((lw1_few_l1 K4 r1 (k1 + 1)) (v6 ++ [w12]))))))
def lw1_few (a1 : (List (List Int))) : Option (List (List Int)) :=
  (chk (lenOk a1) (lw1_few_l1 (lw1_few_j4) a1 0 ([] : (List (List Int)))))
theorem run_lw1_few (a1 : (List (List Int))) (r : (List (List Int))) (h : lw1_few a1 = some r) : Run Try.prog (.call 42 [l35 none a1] (l35 (some 1) r)) := by
  refine call_of_W Try.func42 rfl (by kernel_rfl) (env0 := [(0, l35 none a1)]) (by kernel_rfl) ?_
  unfold lw1_few at h
  refine W.seq ?_
  refine W.regT [0] [] [] [] (e2 := [(0, l35 none a1)]) (by kernel_rfl) (by kernel_rfl) (fun _ h => h) ?_
  refine W.seq ?_
  refine W.regT [0, 3] [] [] [] (e2 := [(0, l35 none a1), (3, .nils)]) (by kernel_rfl) (by kernel_rfl) (fun _ h => h) ?_
  refine W.seq ?_
  refine W.join (σ := ((List (List Int)))) (fun s => [(3, l35 (some 10300) s)]) (fun s => (lw1_few_j4) s = some r) (fun s h => ?_) (fun hK4 => ?_)
  · obtain ⟨v14, rfl⟩ : ∃ x, x = s := ⟨s, rfl⟩
    have h : (lw1_few_j4) v14 = some r := h
    unfold lw1_few_j4 at h
    refine W.seq ?_
    refine W.regT [2] [] [] [] (e2 := [(2, l35 (some 10300) v14)]) (by kernel_rfl) (by kernel_rfl) (fun _ h => h) ?_
    refine W.weak [2] [] [] [(10300, some 1)] (env' := [(2, l35 (some 1) v14)]) (by kernel_rfl) ?_
    have hr : aresults Try.prog Try.f42 [(2, l35 (some 1) v14)] = some (l35 (some 1) v14) := by kernel_rfl
    cases h
    exact W.ret hr
  refine W.seq ?_
  refine W.region (by kernel_rfl) ?_
  refine WO.pureK 1 (some (.int .i64 ((List.map (encL 3 1 (AV.int .i64)) a1).length : Int))) (v := .int .i64 (a1.length : Int)) (by kernel_rfl) (by rw [List.length_map]) (e1 := [(0, l35 none a1), (3, .nils), (6, l35 none a1), (7, .int .i64 (a1.length : Int))]) (by kernel_rfl) ?_
  refine WO.fin [3, 6, 7, 8] [] [] [] (e2 := [(3, .nils), (6, l35 none a1), (7, .int .i64 (a1.length : Int)), (8, .int .i64 0)]) (by kernel_rfl) (fun _ h => h) ?_
  refine W.block ?_
  obtain ⟨hl1, h⟩ := chk_some h
  refine W.weak [3, 6, 7, 8] [] [(3, 0, 35, 1, 10300)] [] (env' := [(3, l35 (some 10300) ([] : (List (List Int)))), (6, l35 none a1), (7, .int .i64 (a1.length : Int)), (8, .int .i64 ((0 : Nat) : Int))]) (by kernel_rfl) ?_
  refine W.range (σ := ((List (List Int)))) a1 (fun k1 s => [(3, l35 (some 10300) s), (6, l35 none a1), (7, .int .i64 (a1.length : Int)), (8, .int .i64 (k1 : Int))]) (fun r0 k0 s => lw1_few_l1 (lw1_few_j4) r0 k0 s = some r) (fun s h => ?_) (fun x1 r1 k1 s hx1 hk1 h hN1 => ?_) ([] : (List (List Int))) h
  · obtain ⟨v6, rfl⟩ : ∃ x, x = s := ⟨s, rfl⟩
    have h : lw1_few_l1 (lw1_few_j4) [] (a1).length v6 = some r := h
    rw [lw1_few_l1.eq_1] at h
    refine W.seq ?_
    refine W.region (by kernel_rfl) ?_
    refine WO.pureK 0 (some (.bool (decide (((a1).length : Int) < (a1.length : Int))))) (v := .bool false) (by kernel_rfl) (by rw [lt_false (l := a1)]) (e1 := [(3, l35 (some 10300) v6), (6, l35 none a1), (7, .int .i64 (a1.length : Int)), (8, .int .i64 ((a1).length : Int)), (9, .bool false)]) (by kernel_rfl) ?_
    refine WO.fin ([3, 6, 7, 8, 9]) [] [] [] (e2 := [(3, l35 (some 10300) v6), (6, l35 none a1), (7, .int .i64 (a1.length : Int)), (8, .int .i64 ((a1).length : Int)), (9, .bool false)]) (by kernel_rfl) (fun _ h => h) ?_
    refine W.seq ?_
    refine W.condB false (by kernel_rfl) (fun h => Bool.noConfusion h) (fun _ => ?_)
    refine W.exit ?_
    refine W.weak [3] [] [] [] (env' := [(3, l35 (some 10300) v6)]) (by kernel_rfl) ?_
    exact hK4 v6 h
  · obtain ⟨v6, rfl⟩ : ∃ x, x = s := ⟨s, rfl⟩
    have h : lw1_few_l1 (lw1_few_j4) (x1 :: r1) k1 v6 = some r := h
    rw [lw1_few_l1.eq_2] at h
    refine W.seq ?_
    refine W.region (by kernel_rfl) ?_
    refine WO.pureK 0 (some (.bool (decide ((k1 : Int) < (a1.length : Int))))) (v := .bool true) (by kernel_rfl) (by rw [lt_true hk1]) (e1 := [(3, l35 (some 10300) v6), (6, l35 none a1), (7, .int .i64 (a1.length : Int)), (8, .int .i64 (k1 : Int)), (9, .bool true)]) (by kernel_rfl) ?_
    refine WO.fin ([3, 6, 7, 8, 9]) [] [] [] (e2 := [(3, l35 (some 10300) v6), (6, l35 none a1), (7, .int .i64 (a1.length : Int)), (8, .int .i64 (k1 : Int)), (9, .bool true)]) (by kernel_rfl) (fun _ h => h) ?_
    refine W.seq ?_
    refine W.condB true (by kernel_rfl) (fun _ => ?_) (fun h => Bool.noConfusion h)
    refine W.skip ?_
    refine W.weak [3, 6, 7, 8] [] [] [] (env' := [(3, l35 (some 10300) v6), (6, l35 none a1), (7, .int .i64 (a1.length : Int)), (8, .int .i64 (k1 : Int))]) (by kernel_rfl) ?_
    refine W.seq ?_
    refine W.block ?_
    refine W.seq ?_
    refine W.region (by kernel_rfl) ?_
    refine WO.pureK 1 (if (0 : Int) ≤ (k1 : Int) then ((List.map (encL 3 1 (AV.int .i64)) a1)[Int.toNat (k1 : Int)]?).map AV.ptr else none) (v := .ptr (l3 none x1)) (by kernel_rfl) (idx_nat (f := (encL 3 1 (AV.int .i64))) hx1) (e1 := [(3, l35 (some 10300) v6), (6, l35 none a1), (7, .int .i64 (a1.length : Int)), (8, .int .i64 (k1 : Int)), (10, .int .i64 (k1 : Int)), (11, .ptr (l3 none x1))]) (by kernel_rfl) ?_
    refine WO.fin [3, 4, 5, 6, 7, 8] [] [] [] (e2 := [(3, l35 (some 10300) v6), (4, .int .i64 (k1 : Int)), (5, l3 none x1), (6, l35 none a1), (7, .int .i64 (a1.length : Int)), (8, .int .i64 (k1 : Int))]) (by kernel_rfl) (fun _ h => h) ?_
    refine W.seq ?_
    refine W.seq ?_
    refine W.regT [3, 5, 6, 7, 8, 14] [] [] [] (e2 := [(3, l35 (some 10300) v6), (5, l3 none x1), (6, l35 none a1), (7, .int .i64 (a1.length : Int)), (8, .int .i64 (k1 : Int)), (14, .bool (decide ((k1 : Int) > 61)))]) (by kernel_rfl) (by kernel_rfl) (fun _ h => h) ?_
    refine W.condB (decide ((k1 : Int) > 61)) (by kernel_rfl) (fun hb => ?_) (fun hb => ?_)
    · replace h := cond_t hb h
      refine W.exit ?_
      refine W.weak [3] [] [] [] (env' := [(3, l35 (some 10300) v6)]) (by kernel_rfl) ?_
      exact hK4 v6 h
    replace h := cond_f hb h
    refine W.skip ?_
    refine W.weak [3, 5, 6, 7, 8] [] [] [] (env' := [(3, l35 (some 10300) v6), (5, l3 none x1), (6, l35 none a1), (7, .int .i64 (a1.length : Int)), (8, .int .i64 (k1 : Int))]) (by kernel_rfl) ?_
    refine W.region (by kernel_rfl) ?_
    refine WO.pureK 3 (some (.int .i64 ((List.map (AV.int .i64) x1).length : Int))) (v := .int .i64 (x1.length : Int)) (by kernel_rfl) (by rw [List.length_map]) (e1 := [(3, l35 (some 10300) v6), (5, l3 none x1), (6, l35 none a1), (7, .int .i64 (a1.length : Int)), (8, .int .i64 (k1 : Int)), (15, l35 (some 10300) v6), (16, l3 none x1), (17, l3 none x1), (18, .int .i64 (x1.length : Int))]) (by kernel_rfl) ?_
    obtain ⟨e11, he11, h⟩ := bind_some h
    refine WO.pureK 1 (if (0 : Int) ≤ 0 ∧ 0 ≤ (if 10 < (x1.length : Int) then 10 else (x1.length : Int)) ∧ (if 10 < (x1.length : Int) then 10 else (x1.length : Int)) ≤ ((List.map (AV.int .i64) x1).length : Int) then some (.lst 3 1 none (((List.map (AV.int .i64) x1).take (Int.toNat (if 10 < (x1.length : Int) then 10 else (x1.length : Int)))).drop (Int.toNat 0))) else none) (v := l3 none e11) (by kernel_rfl) (sub_av he11) (e1 := [(3, l35 (some 10300) v6), (5, l3 none x1), (6, l35 none a1), (7, .int .i64 (a1.length : Int)), (8, .int .i64 (k1 : Int)), (15, l35 (some 10300) v6), (16, l3 none x1), (17, l3 none x1), (18, .int .i64 (x1.length : Int)), (19, .int .i64 (if 10 < (x1.length : Int) then 10 else (x1.length : Int))), (20, l3 none e11)]) (by kernel_rfl) ?_
    obtain ⟨w12, hw12, h⟩ := bind_some h
    refine WO.callK 0 (F := 67) (l := [l3 none e11]) (C := []) (r := l3 (some 1) w12) (by kernel_rfl) (by kernel_rfl) (run_sl_Clone_int e11 w12 hw12) (e1 := [(3, l35 (some 10300) v6), (5, l3 none x1), (6, l35 none a1), (7, .int .i64 (a1.length : Int)), (8, .int .i64 (k1 : Int)), (15, l35 (some 10300) v6), (16, l3 none x1), (17, l3 none x1), (18, .int .i64 (x1.length : Int)), (19, .int .i64 (if 10 < (x1.length : Int) then 10 else (x1.length : Int))), (20, l3 none e11), (21, l3 (some 21) w12)]) (by kernel_rfl) ?_
    obtain ⟨hc13, h⟩ := chk_some h
    refine WO.appendK 1 (d := 23) (e := 35) (s := 1) (bytes := 24) (xs := (List.map (encL 3 1 (AV.int .i64)) v6)) (ys := (List.map (encL 3 1 (AV.int .i64)) [w12])) (zs := (List.map (encL 3 1 (AV.int .i64)) (v6 ++ [w12]))) (env1 := [(3, l35 none v6), (5, l3 none x1), (6, l35 none a1), (7, .int .i64 (a1.length : Int)), (8, .int .i64 (k1 : Int)), (15, l35 none v6), (16, l3 none x1), (17, l3 none x1), (18, .int .i64 (x1.length : Int)), (19, .int .i64 (if 10 < (x1.length : Int) then 10 else (x1.length : Int))), (20, l3 none e11), (21, l3 (some 21) w12), (22, l35 (some 22) [w12])]) (by kernel_rfl) (List.map_append.symm) (by rw [List.length_map]; exact hc13) (e1 := [(3, l35 none v6), (5, l3 none x1), (6, l35 none a1), (7, .int .i64 (a1.length : Int)), (8, .int .i64 (k1 : Int)), (15, l35 none v6), (16, l3 none x1), (17, l3 none x1), (18, .int .i64 (x1.length : Int)), (19, .int .i64 (if 10 < (x1.length : Int) then 10 else (x1.length : Int))), (20, l3 none e11), (21, l3 (some 21) w12), (22, l35 (some 22) [w12]), (23, l35 (some 23) (v6 ++ [w12]))]) (by kernel_rfl) ?_
    refine WO.fin [3, 6, 7, 8] [] [] [] (e2 := [(3, l35 (some 23) (v6 ++ [w12])), (6, l35 none a1), (7, .int .i64 (a1.length : Int)), (8, .int .i64 (k1 : Int))]) (by kernel_rfl) (fun _ h => h) ?_
    refine W.region (by kernel_rfl) ?_
    refine WO.pureK 0 (some (.int .i64 (IntKind.wrap .i64 ((k1 : Int) + 1)))) (v := .int .i64 ((k1 + 1 : Nat) : Int)) (by kernel_rfl) (by rw [wrap_succ hl1 hk1]) (e1 := [(3, l35 (some 23) (v6 ++ [w12])), (6, l35 none a1), (7, .int .i64 (a1.length : Int)), (8, .int .i64 (k1 : Int)), (24, .int .i64 ((k1 + 1 : Nat) : Int))]) (by kernel_rfl) ?_
    refine WO.fin [3, 6, 7, 8] [] [] [(23, some 10300)] (e2 := [(3, l35 (some 10300) (v6 ++ [w12])), (6, l35 none a1), (7, .int .i64 (a1.length : Int)), (8, .int .i64 ((k1 + 1 : Nat) : Int))]) (by kernel_rfl) (fun _ h => h) ?_
    exact hN1 (v6 ++ [w12]) h
def lw1_DependRows_j12 (v15 : Bool) : Option Bool :=
  (some v15)
def lw1_DependRows_j40 (v42 : Bool) : Option Bool :=
  (some v42)
def lw1_DependRows_j29 (fuel : Nat) (w7 : ((List Int) × Int)) : Option Bool :=
  (bif (decide ((w7.1.length : Int) > 0)) then ((lw1_awake fuel).bind fun w41 => ((lw1_DependRows_j40) w41)) else ((lw1_DependRows_j40) false))
def lw1_DependRows_j37 (N2 : (Option Bool)) (v38 : Bool) : Option Bool :=
  (bif v38 then (some false) else N2)
def lw1_DependRows_l2 (a1 : Int) (a3 : (List (List Int))) (K29 : (Option Bool)) : List Int → Nat → Option Bool
  | [], k2 => K29
  | x2 :: r2, k2 => ((lw1_few a3).bind fun w34 => (chk (decide (0 ≤ a1)) ((dp_Holds a1 w34 (dpDep.mk x2 (IntKind.wrap .i64 ((iShl .i64 1 a1) - 1)))).bind fun w36 => (bif (!w36.1) then ((lw1_DependRows_j37 (lw1_DependRows_l2 a1 a3 K29 r2 (k2 + 1))) true) else ((lw1_DependRows_j37 (lw1_DependRows_l2 a1 a3 K29 r2 (k2 + 1))) (w36.2 != 0))))))
def lw1_DependRows_j16 (fuel : Nat) (a1 : Int) (a3 : (List (List Int))) (w7 : ((List Int) × Int)) : Option Bool :=
  (chk (lenOk w7.1) (lw1_DependRows_l2 a1 a3 (lw1_DependRows_j29 fuel w7) w7.1 0))
def lw1_DependRows_j26 (v28 : Bool) : Option Bool :=
  (some v28)
def lw1_DependRows_j24 (fuel : Nat) (w23 : (Bool × Int)) (N1 : (Option Bool)) (v25 : Bool) : Option Bool :=
  (bif v25 then (bif (w23.2 == 0) then ((lw1_awake fuel).bind fun w27 => ((lw1_DependRows_j26) w27)) else ((lw1_DependRows_j26) false)) else N1)
def lw1_DependRows_l1 (fuel : Nat) (a1 : Int) (a3 : (List (List Int))) (K16 : (Option Bool)) : List dpDep → Nat → Option Bool
  | [], k1 => K16
  | x1 :: r1, k1 => ((lw1_few a3).bind fun w22 => ((dp_Holds a1 w22 x1).bind fun w23 => (bif (w23.2 != 0) then ((lw1_DependRows_j24 fuel w23 (lw1_DependRows_l1 fuel a1 a3 K16 r1 (k1 + 1))) true) else ((lw1_DependRows_j24 fuel w23 (lw1_DependRows_l1 fuel a1 a3 K16 r1 (k1 + 1))) (!w23.1)))))
def lw1_DependRows_j9 (fuel : Nat) (a1 : Int) (a2 : (List rf1Dep)) (a3 : (List (List Int))) (w7 : ((List Int) × Int)) (v11 : Bool) : Option Bool :=
  (bif v11 then (bif (w7.2 == 0) then ((lw1_awake fuel).bind fun w13 => ((lw1_DependRows_j12) w13)) else (bif (w7.2 == 2) then ((lw1_awake fuel).bind fun w14 => ((lw1_DependRows_j12) w14)) else ((lw1_DependRows_j12) false))) else ((lw1_deps a2).bind fun w18 => (chk (lenOk w18) (lw1_DependRows_l1 fuel a1 a3 (lw1_DependRows_j16 fuel a1 a3 w7) w18 0))))
def lw1_DependRows (fuel : Nat) (a1 : Int) (a2 : (List rf1Dep)) (a3 : (List (List Int))) : Option Bool :=
  ((lw1_deps a2).bind fun w6 => ((dp_Keys fuel a1 w6).bind fun w7 => (bif (w7.2 != 0) then ((lw1_DependRows_j9 fuel a1 a2 a3 w7) true) else ((rf1_Table a1 a3).bind fun w10 => ((lw1_DependRows_j9 fuel a1 a2 a3 w7) (!w10))))))
theorem run_lw1_DependRows (fuel : Nat) (a1 : Int) (a2 : (List rf1Dep)) (a3 : (List (List Int))) (r : Bool) (h : lw1_DependRows fuel a1 a2 a3 = some r) : Run Try.prog (.call 11 [.int .i64 a1, l40 none a2, l35 none a3] (.bool r)) := by
  refine call_of_W Try.func11 rfl (by kernel_rfl) (env0 := [(0, .int .i64 a1), (1, l40 none a2), (2, l35 none a3)]) (by kernel_rfl) ?_
  unfold lw1_DependRows at h
  refine W.seq ?_
  refine W.regT [0, 1, 2] [] [] [] (e2 := [(0, .int .i64 a1), (1, l40 none a2), (2, l35 none a3)]) (by kernel_rfl) (by kernel_rfl) (fun _ h => h) ?_
  refine W.seq ?_
  refine W.region (by kernel_rfl) ?_
  obtain ⟨w6, hw6, h⟩ := bind_some h
  refine WO.callK 2 (F := 20) (l := [l40 none a2]) (C := []) (r := l33 (some 1) w6) (by kernel_rfl) (by kernel_rfl) (run_lw1_deps a2 w6 hw6) (e1 := [(0, .int .i64 a1), (1, l40 none a2), (2, l35 none a3), (18, .int .i64 a1), (19, l40 none a2), (20, l33 (some 20) w6)]) (by kernel_rfl) ?_
  obtain ⟨w7, hw7, h⟩ := bind_some h
  refine WO.callK 0 (F := 23) (l := [.int .i64 a1, l33 none w6]) (C := []) (r := .tup [l3 none w7.1, .int .i64 w7.2]) (by kernel_rfl) (by kernel_rfl) (run_dp_Keys fuel a1 w6 w7 hw7) (e1 := [(0, .int .i64 a1), (1, l40 none a2), (2, l35 none a3), (18, .int .i64 a1), (19, l40 none a2), (20, l33 (some 20) w6), (21, .tup [l3 none w7.1, .int .i64 w7.2])]) (by kernel_rfl) ?_
  refine WO.fin [0, 1, 2, 7, 8] [] [] [] (e2 := [(0, .int .i64 a1), (1, l40 none a2), (2, l35 none a3), (7, l3 none w7.1), (8, .int .i64 w7.2)]) (by kernel_rfl) (fun _ h => h) ?_
  refine W.seq ?_
  refine W.seq ?_
  refine W.join (σ := (Bool)) (fun s => [(0, .int .i64 a1), (1, l40 none a2), (2, l35 none a3), (7, l3 none w7.1), (8, .int .i64 w7.2), (31, .bool s)]) (fun s => (lw1_DependRows_j9 fuel a1 a2 a3 w7) s = some r) (fun s h => ?_) (fun hK9 => ?_)
  · obtain ⟨v11, rfl⟩ : ∃ x, x = s := ⟨s, rfl⟩
    have h : (lw1_DependRows_j9 fuel a1 a2 a3 w7) v11 = some r := h
    unfold lw1_DependRows_j9 at h
    refine W.condB v11 (by kernel_rfl) (fun hb => ?_) (fun hb => ?_)
    · replace h := cond_t hb h
      refine W.seq ?_
      refine W.join (σ := (Bool)) (fun s => [(6, .bool s)]) (fun s => (lw1_DependRows_j12) s = some r) (fun s h => ?_) (fun hK12 => ?_)
      · obtain ⟨v15, rfl⟩ : ∃ x, x = s := ⟨s, rfl⟩
        have h : (lw1_DependRows_j12) v15 = some r := h
        unfold lw1_DependRows_j12 at h
        refine W.weak [6] [] [] [] (env' := [(6, .bool v15)]) (by kernel_rfl) ?_
        have hr : aresults Try.prog Try.f11 [(6, .bool v15)] = some (.bool v15) := by kernel_rfl
        cases h
        exact W.ret hr
      refine W.region (by kernel_rfl) ?_
      refine WO.boolK 3 (fun b => [(0, .int .i64 a1), (1, l40 none a2), (2, l35 none a3), (7, l3 none w7.1), (8, .int .i64 w7.2), (31, .bool v11), (32, .int .i64 w7.2), (33, .bool b), (34, .bool b)]) (w7.2 == 0) (by kernel_rfl) (fun hb => ?_) (fun hb => ?_)
      · replace h := cond_t hb h
        obtain ⟨w13, hw13, h⟩ := bind_some h
        refine WO.callK 4 (F := 21) (l := []) (C := []) (r := .bool w13) (by kernel_rfl) (by kernel_rfl) (run_lw1_awake fuel w13 hw13) (e1 := [(0, .int .i64 a1), (1, l40 none a2), (2, l35 none a3), (7, l3 none w7.1), (8, .int .i64 w7.2), (31, .bool v11), (32, .int .i64 w7.2), (33, .bool true), (34, .bool true), (35, .und), (36, .und), (37, .bool true), (38, .bool true), (39, .bool w13)]) (by kernel_rfl) ?_
        refine WO.fin [6] [] [] [] (e2 := [(6, .bool w13)]) (by kernel_rfl) (fun _ h => h) ?_
        exact hK12 w13 h
      replace h := cond_f hb h
      refine WO.boolK 4 (fun b => [(0, .int .i64 a1), (1, l40 none a2), (2, l35 none a3), (7, l3 none w7.1), (8, .int .i64 w7.2), (31, .bool v11), (32, .int .i64 w7.2), (33, .bool false), (34, .bool false), (35, .int .i64 w7.2), (36, .bool b), (37, .bool b), (38, .bool b)]) (w7.2 == 2) (by kernel_rfl) (fun hb => ?_) (fun hb => ?_)
      · replace h := cond_t hb h
        obtain ⟨w14, hw14, h⟩ := bind_some h
        refine WO.callK 0 (F := 21) (l := []) (C := []) (r := .bool w14) (by kernel_rfl) (by kernel_rfl) (run_lw1_awake fuel w14 hw14) (e1 := [(0, .int .i64 a1), (1, l40 none a2), (2, l35 none a3), (7, l3 none w7.1), (8, .int .i64 w7.2), (31, .bool v11), (32, .int .i64 w7.2), (33, .bool false), (34, .bool false), (35, .int .i64 w7.2), (36, .bool true), (37, .bool true), (38, .bool true), (39, .bool w14)]) (by kernel_rfl) ?_
        refine WO.fin [6] [] [] [] (e2 := [(6, .bool w14)]) (by kernel_rfl) (fun _ h => h) ?_
        exact hK12 w14 h
      replace h := cond_f hb h
      refine WO.fin [6] [] [] [] (e2 := [(6, .bool false)]) (by kernel_rfl) (fun _ h => h) ?_
      exact hK12 false h
    replace h := cond_f hb h
    refine W.skip ?_
    refine W.weak [0, 1, 2, 7] [] [] [] (env' := [(0, .int .i64 a1), (1, l40 none a2), (2, l35 none a3), (7, l3 none w7.1)]) (by kernel_rfl) ?_
    refine W.seq ?_
    refine W.join (σ := Unit) (fun s => [(0, .int .i64 a1), (2, l35 none a3), (7, l3 none w7.1)]) (fun s => (lw1_DependRows_j16 fuel a1 a3 w7) = some r) (fun s h => ?_) (fun hK16 => ?_)
    · have h : (lw1_DependRows_j16 fuel a1 a3 w7) = some r := h
      unfold lw1_DependRows_j16 at h
      refine W.seq ?_
      refine W.join (σ := Unit) (fun s => [(7, l3 none w7.1)]) (fun s => (lw1_DependRows_j29 fuel w7) = some r) (fun s h => ?_) (fun hK29 => ?_)
      · have h : (lw1_DependRows_j29 fuel w7) = some r := h
        unfold lw1_DependRows_j29 at h
        refine W.seq ?_
        refine W.join (σ := (Bool)) (fun s => [(6, .bool s)]) (fun s => (lw1_DependRows_j40) s = some r) (fun s h => ?_) (fun hK40 => ?_)
        · obtain ⟨v42, rfl⟩ : ∃ x, x = s := ⟨s, rfl⟩
          have h : (lw1_DependRows_j40) v42 = some r := h
          unfold lw1_DependRows_j40 at h
          refine W.weak [6] [] [] [] (env' := [(6, .bool v42)]) (by kernel_rfl) ?_
          have hr : aresults Try.prog Try.f11 [(6, .bool v42)] = some (.bool v42) := by kernel_rfl
          cases h
          exact W.ret hr
        refine W.region (by kernel_rfl) ?_
        refine WO.pureK 1 (some (.int .i64 ((List.map (AV.int .i64) w7.1).length : Int))) (v := .int .i64 (w7.1.length : Int)) (by kernel_rfl) (by rw [List.length_map]) (e1 := [(7, l3 none w7.1), (93, l3 none w7.1), (94, .int .i64 (w7.1.length : Int))]) (by kernel_rfl) ?_
        refine WO.boolK 2 (fun b => [(7, l3 none w7.1), (93, l3 none w7.1), (94, .int .i64 (w7.1.length : Int)), (95, .bool b), (96, .bool b)]) (decide ((w7.1.length : Int) > 0)) (by kernel_rfl) (fun hb => ?_) (fun hb => ?_)
        · replace h := cond_t hb h
          obtain ⟨w41, hw41, h⟩ := bind_some h
          refine WO.callK 0 (F := 21) (l := []) (C := []) (r := .bool w41) (by kernel_rfl) (by kernel_rfl) (run_lw1_awake fuel w41 hw41) (e1 := [(7, l3 none w7.1), (93, l3 none w7.1), (94, .int .i64 (w7.1.length : Int)), (95, .bool true), (96, .bool true), (97, .bool w41)]) (by kernel_rfl) ?_
          refine WO.fin [6] [] [] [] (e2 := [(6, .bool w41)]) (by kernel_rfl) (fun _ h => h) ?_
          exact hK40 w41 h
        replace h := cond_f hb h
        refine WO.fin [6] [] [] [] (e2 := [(6, .bool false)]) (by kernel_rfl) (fun _ h => h) ?_
        exact hK40 false h
      refine W.seq ?_
      refine W.region (by kernel_rfl) ?_
      refine WO.pureK 1 (some (.int .i64 ((List.map (AV.int .i64) w7.1).length : Int))) (v := .int .i64 (w7.1.length : Int)) (by kernel_rfl) (by rw [List.length_map]) (e1 := [(0, .int .i64 a1), (2, l35 none a3), (7, l3 none w7.1), (68, l3 none w7.1), (69, .int .i64 (w7.1.length : Int))]) (by kernel_rfl) ?_
      refine WO.fin [0, 2, 7, 68, 69, 70] [] [] [] (e2 := [(0, .int .i64 a1), (2, l35 none a3), (7, l3 none w7.1), (68, l3 none w7.1), (69, .int .i64 (w7.1.length : Int)), (70, .int .i64 0)]) (by kernel_rfl) (fun _ h => h) ?_
      refine W.block ?_
      obtain ⟨hl2, h⟩ := chk_some h
      refine W.weak [0, 2, 7, 68, 69, 70] [] [] [] (env' := [(0, .int .i64 a1), (2, l35 none a3), (7, l3 none w7.1), (68, l3 none w7.1), (69, .int .i64 (w7.1.length : Int)), (70, .int .i64 ((0 : Nat) : Int))]) (by kernel_rfl) ?_
      refine W.range (σ := Unit) w7.1 (fun k2 s => [(0, .int .i64 a1), (2, l35 none a3), (7, l3 none w7.1), (68, l3 none w7.1), (69, .int .i64 (w7.1.length : Int)), (70, .int .i64 (k2 : Int))]) (fun r0 k0 s => lw1_DependRows_l2 a1 a3 (lw1_DependRows_j29 fuel w7) r0 k0 = some r) (fun s h => ?_) (fun x2 r2 k2 s hx2 hk2 h hN2 => ?_) () h
      · have h : lw1_DependRows_l2 a1 a3 (lw1_DependRows_j29 fuel w7) [] (w7.1).length = some r := h
        rw [lw1_DependRows_l2.eq_1] at h
        refine W.seq ?_
        refine W.region (by kernel_rfl) ?_
        refine WO.pureK 0 (some (.bool (decide (((w7.1).length : Int) < (w7.1.length : Int))))) (v := .bool false) (by kernel_rfl) (by rw [lt_false (l := w7.1)]) (e1 := [(0, .int .i64 a1), (2, l35 none a3), (7, l3 none w7.1), (68, l3 none w7.1), (69, .int .i64 (w7.1.length : Int)), (70, .int .i64 ((w7.1).length : Int)), (71, .bool false)]) (by kernel_rfl) ?_
        refine WO.fin ([0, 2, 7, 68, 69, 70, 71]) [] [] [] (e2 := [(0, .int .i64 a1), (2, l35 none a3), (7, l3 none w7.1), (68, l3 none w7.1), (69, .int .i64 (w7.1.length : Int)), (70, .int .i64 ((w7.1).length : Int)), (71, .bool false)]) (by kernel_rfl) (fun _ h => h) ?_
        refine W.seq ?_
        refine W.condB false (by kernel_rfl) (fun h => Bool.noConfusion h) (fun _ => ?_)
        refine W.exit ?_
        refine W.weak [7] [] [] [] (env' := [(7, l3 none w7.1)]) (by kernel_rfl) ?_
        exact hK29 () h
      · have h : lw1_DependRows_l2 a1 a3 (lw1_DependRows_j29 fuel w7) (x2 :: r2) k2 = some r := h
        rw [lw1_DependRows_l2.eq_2] at h
        refine W.seq ?_
        refine W.region (by kernel_rfl) ?_
        refine WO.pureK 0 (some (.bool (decide ((k2 : Int) < (w7.1.length : Int))))) (v := .bool true) (by kernel_rfl) (by rw [lt_true hk2]) (e1 := [(0, .int .i64 a1), (2, l35 none a3), (7, l3 none w7.1), (68, l3 none w7.1), (69, .int .i64 (w7.1.length : Int)), (70, .int .i64 (k2 : Int)), (71, .bool true)]) (by kernel_rfl) ?_
        refine WO.fin ([0, 2, 7, 68, 69, 70, 71]) [] [] [] (e2 := [(0, .int .i64 a1), (2, l35 none a3), (7, l3 none w7.1), (68, l3 none w7.1), (69, .int .i64 (w7.1.length : Int)), (70, .int .i64 (k2 : Int)), (71, .bool true)]) (by kernel_rfl) (fun _ h => h) ?_
        refine W.seq ?_
        refine W.condB true (by kernel_rfl) (fun _ => ?_) (fun h => Bool.noConfusion h)
        refine W.skip ?_
        refine W.weak [0, 2, 7, 68, 69, 70] [] [] [] (env' := [(0, .int .i64 a1), (2, l35 none a3), (7, l3 none w7.1), (68, l3 none w7.1), (69, .int .i64 (w7.1.length : Int)), (70, .int .i64 (k2 : Int))]) (by kernel_rfl) ?_
        refine W.seq ?_
        refine W.block ?_
        refine W.seq ?_
        refine W.region (by kernel_rfl) ?_
        refine WO.pureK 0 (if (0 : Int) ≤ (k2 : Int) then ((List.map (AV.int .i64) w7.1)[Int.toNat (k2 : Int)]?).map AV.ptr else none) (v := .ptr (.int .i64 x2)) (by kernel_rfl) (idx_nat (f := (AV.int .i64)) hx2) (e1 := [(0, .int .i64 a1), (2, l35 none a3), (7, l3 none w7.1), (68, l3 none w7.1), (69, .int .i64 (w7.1.length : Int)), (70, .int .i64 (k2 : Int)), (72, .ptr (.int .i64 x2))]) (by kernel_rfl) ?_
        refine WO.fin [0, 2, 7, 14, 68, 69, 70] [] [] [] (e2 := [(0, .int .i64 a1), (2, l35 none a3), (7, l3 none w7.1), (14, .int .i64 x2), (68, l3 none w7.1), (69, .int .i64 (w7.1.length : Int)), (70, .int .i64 (k2 : Int))]) (by kernel_rfl) (fun _ h => h) ?_
        refine W.seq ?_
        refine W.region (by kernel_rfl) ?_
        obtain ⟨w34, hw34, h⟩ := bind_some h
        refine WO.callK 2 (F := 42) (l := [l35 none a3]) (C := []) (r := l35 (some 1) w34) (by kernel_rfl) (by kernel_rfl) (run_lw1_few a3 w34 hw34) (e1 := [(0, .int .i64 a1), (2, l35 none a3), (7, l3 none w7.1), (14, .int .i64 x2), (68, l3 none w7.1), (69, .int .i64 (w7.1.length : Int)), (70, .int .i64 (k2 : Int)), (75, .int .i64 a1), (76, l35 none a3), (77, l35 none w34)]) (by kernel_rfl) ?_
        obtain ⟨hc35, h⟩ := chk_some h
        refine WO.pureK 2 (if a1 < 0 then none else some (.int .i64 (iShl .i64 1 a1))) (v := .int .i64 (iShl .i64 1 a1)) (by kernel_rfl) (if_neg (not_lt_of_chk hc35)) (e1 := [(0, .int .i64 a1), (2, l35 none a3), (7, l3 none w7.1), (14, .int .i64 x2), (68, l3 none w7.1), (69, .int .i64 (w7.1.length : Int)), (70, .int .i64 (k2 : Int)), (75, .int .i64 a1), (76, l35 none a3), (77, l35 none w34), (78, .int .i64 x2), (79, .int .i64 a1), (80, .int .i64 (iShl .i64 1 a1))]) (by kernel_rfl) ?_
        obtain ⟨w36, hw36, h⟩ := bind_some h
        refine WO.callK 2 (F := 41) (l := [.int .i64 a1, l35 none w34, .agg [.int .i64 x2, .int .i64 (IntKind.wrap .i64 ((iShl .i64 1 a1) - 1))]]) (C := []) (r := .tup [.bool w36.1, .int .i64 w36.2]) (by kernel_rfl) (by kernel_rfl) (run_dp_Holds a1 w34 (dpDep.mk x2 (IntKind.wrap .i64 ((iShl .i64 1 a1) - 1))) w36 hw36) (e1 := [(0, .int .i64 a1), (2, l35 none a3), (7, l3 none w7.1), (14, .int .i64 x2), (68, l3 none w7.1), (69, .int .i64 (w7.1.length : Int)), (70, .int .i64 (k2 : Int)), (75, .int .i64 a1), (76, l35 none a3), (77, l35 none w34), (78, .int .i64 x2), (79, .int .i64 a1), (80, .int .i64 (iShl .i64 1 a1)), (81, .int .i64 (IntKind.wrap .i64 ((iShl .i64 1 a1) - 1))), (82, .agg [.int .i64 x2, .int .i64 (IntKind.wrap .i64 ((iShl .i64 1 a1) - 1))]), (83, .tup [.bool w36.1, .int .i64 w36.2])]) (by kernel_rfl) ?_
        refine WO.fin [0, 2, 7, 15, 16, 68, 69, 70] [] [] [] (e2 := [(0, .int .i64 a1), (2, l35 none a3), (7, l3 none w7.1), (15, .bool w36.1), (16, .int .i64 w36.2), (68, l3 none w7.1), (69, .int .i64 (w7.1.length : Int)), (70, .int .i64 (k2 : Int))]) (by kernel_rfl) (fun _ h => h) ?_
        refine W.seq ?_
        refine W.join (σ := (Bool)) (fun s => [(0, .int .i64 a1), (2, l35 none a3), (7, l3 none w7.1), (68, l3 none w7.1), (69, .int .i64 (w7.1.length : Int)), (70, .int .i64 (k2 : Int)), (91, .bool s)]) (fun s => (lw1_DependRows_j37 (lw1_DependRows_l2 a1 a3 (lw1_DependRows_j29 fuel w7) r2 (k2 + 1))) s = some r) (fun s h => ?_) (fun hK37 => ?_)
        · obtain ⟨v38, rfl⟩ : ∃ x, x = s := ⟨s, rfl⟩
          have h : (lw1_DependRows_j37 (lw1_DependRows_l2 a1 a3 (lw1_DependRows_j29 fuel w7) r2 (k2 + 1))) v38 = some r := h
          unfold lw1_DependRows_j37 at h
          refine W.condB v38 (by kernel_rfl) (fun hb => ?_) (fun hb => ?_)
          · replace h := cond_t hb h
            refine W.seq ?_
            refine W.regT [6] [] [] [] (e2 := [(6, .bool false)]) (by kernel_rfl) (by kernel_rfl) (fun _ h => h) ?_
            refine W.weak [6] [] [] [] (env' := [(6, .bool false)]) (by kernel_rfl) ?_
            have hr : aresults Try.prog Try.f11 [(6, .bool false)] = some (.bool false) := by kernel_rfl
            cases h
            exact W.ret hr
          replace h := cond_f hb h
          refine W.skip ?_
          refine W.weak [0, 2, 7, 68, 69, 70] [] [] [] (env' := [(0, .int .i64 a1), (2, l35 none a3), (7, l3 none w7.1), (68, l3 none w7.1), (69, .int .i64 (w7.1.length : Int)), (70, .int .i64 (k2 : Int))]) (by kernel_rfl) ?_
          refine W.region (by kernel_rfl) ?_
          refine WO.pureK 0 (some (.int .i64 (IntKind.wrap .i64 ((k2 : Int) + 1)))) (v := .int .i64 ((k2 + 1 : Nat) : Int)) (by kernel_rfl) (by rw [wrap_succ hl2 hk2]) (e1 := [(0, .int .i64 a1), (2, l35 none a3), (7, l3 none w7.1), (68, l3 none w7.1), (69, .int .i64 (w7.1.length : Int)), (70, .int .i64 (k2 : Int)), (92, .int .i64 ((k2 + 1 : Nat) : Int))]) (by kernel_rfl) ?_
          refine WO.fin [0, 2, 7, 68, 69, 70] [] [] [] (e2 := [(0, .int .i64 a1), (2, l35 none a3), (7, l3 none w7.1), (68, l3 none w7.1), (69, .int .i64 (w7.1.length : Int)), (70, .int .i64 ((k2 + 1 : Nat) : Int))]) (by kernel_rfl) (fun _ h => h) ?_
          exact hN2 () h
        refine W.region (by kernel_rfl) ?_
        refine WO.boolK 3 (fun b => [(0, .int .i64 a1), (2, l35 none a3), (7, l3 none w7.1), (15, .bool w36.1), (16, .int .i64 w36.2), (68, l3 none w7.1), (69, .int .i64 (w7.1.length : Int)), (70, .int .i64 (k2 : Int)), (86, .bool w36.1), (87, .bool b), (88, .bool b)]) (!w36.1) (by kernel_rfl) (fun hb => ?_) (fun hb => ?_)
        · replace h := cond_t hb h
          refine WO.fin [0, 2, 7, 68, 69, 70, 91] [] [] [] (e2 := [(0, .int .i64 a1), (2, l35 none a3), (7, l3 none w7.1), (68, l3 none w7.1), (69, .int .i64 (w7.1.length : Int)), (70, .int .i64 (k2 : Int)), (91, .bool true)]) (by kernel_rfl) (fun _ h => h) ?_
          exact hK37 true h
        replace h := cond_f hb h
        refine WO.fin [0, 2, 7, 68, 69, 70, 91] [] [] [] (e2 := [(0, .int .i64 a1), (2, l35 none a3), (7, l3 none w7.1), (68, l3 none w7.1), (69, .int .i64 (w7.1.length : Int)), (70, .int .i64 (k2 : Int)), (91, .bool (w36.2 != 0))]) (by kernel_rfl) (fun _ h => h) ?_
        exact hK37 (w36.2 != 0) h
    refine W.seq ?_
    refine W.region (by kernel_rfl) ?_
    obtain ⟨w18, hw18, h⟩ := bind_some h
    refine WO.callK 1 (F := 20) (l := [l40 none a2]) (C := []) (r := l33 (some 1) w18) (by kernel_rfl) (by kernel_rfl) (run_lw1_deps a2 w18 hw18) (e1 := [(0, .int .i64 a1), (1, l40 none a2), (2, l35 none a3), (7, l3 none w7.1), (41, l40 none a2), (42, l33 (some 42) w18)]) (by kernel_rfl) ?_
    refine WO.pureK 0 (some (.int .i64 ((List.map e_dpDep w18).length : Int))) (v := .int .i64 (w18.length : Int)) (by kernel_rfl) (by rw [List.length_map]) (e1 := [(0, .int .i64 a1), (1, l40 none a2), (2, l35 none a3), (7, l3 none w7.1), (41, l40 none a2), (42, l33 (some 42) w18), (43, .int .i64 (w18.length : Int))]) (by kernel_rfl) ?_
    refine WO.fin [0, 2, 7, 42, 43, 44] [] [] [] (e2 := [(0, .int .i64 a1), (2, l35 none a3), (7, l3 none w7.1), (42, l33 (some 42) w18), (43, .int .i64 (w18.length : Int)), (44, .int .i64 0)]) (by kernel_rfl) (fun _ h => h) ?_
    refine W.block ?_
    obtain ⟨hl1, h⟩ := chk_some h
    refine W.weak [0, 2, 7, 42, 43, 44] [] [] [] (env' := [(0, .int .i64 a1), (2, l35 none a3), (7, l3 none w7.1), (42, l33 (some 42) w18), (43, .int .i64 (w18.length : Int)), (44, .int .i64 ((0 : Nat) : Int))]) (by kernel_rfl) ?_
    refine W.range (σ := Unit) w18 (fun k1 s => [(0, .int .i64 a1), (2, l35 none a3), (7, l3 none w7.1), (42, l33 (some 42) w18), (43, .int .i64 (w18.length : Int)), (44, .int .i64 (k1 : Int))]) (fun r0 k0 s => lw1_DependRows_l1 fuel a1 a3 (lw1_DependRows_j16 fuel a1 a3 w7) r0 k0 = some r) (fun s h => ?_) (fun x1 r1 k1 s hx1 hk1 h hN1 => ?_) () h
    · have h : lw1_DependRows_l1 fuel a1 a3 (lw1_DependRows_j16 fuel a1 a3 w7) [] (w18).length = some r := h
      rw [lw1_DependRows_l1.eq_1] at h
      refine W.seq ?_
      refine W.region (by kernel_rfl) ?_
      refine WO.pureK 0 (some (.bool (decide (((w18).length : Int) < (w18.length : Int))))) (v := .bool false) (by kernel_rfl) (by rw [lt_false (l := w18)]) (e1 := [(0, .int .i64 a1), (2, l35 none a3), (7, l3 none w7.1), (42, l33 (some 42) w18), (43, .int .i64 (w18.length : Int)), (44, .int .i64 ((w18).length : Int)), (45, .bool false)]) (by kernel_rfl) ?_
      refine WO.fin ([0, 2, 7, 42, 43, 44, 45]) [] [] [] (e2 := [(0, .int .i64 a1), (2, l35 none a3), (7, l3 none w7.1), (42, l33 (some 42) w18), (43, .int .i64 (w18.length : Int)), (44, .int .i64 ((w18).length : Int)), (45, .bool false)]) (by kernel_rfl) (fun _ h => h) ?_
      refine W.seq ?_
      refine W.condB false (by kernel_rfl) (fun h => Bool.noConfusion h) (fun _ => ?_)
      refine W.exit ?_
      refine W.weak [0, 2, 7] [] [] [] (env' := [(0, .int .i64 a1), (2, l35 none a3), (7, l3 none w7.1)]) (by kernel_rfl) ?_
      exact hK16 () h
    · have h : lw1_DependRows_l1 fuel a1 a3 (lw1_DependRows_j16 fuel a1 a3 w7) (x1 :: r1) k1 = some r := h
      rw [lw1_DependRows_l1.eq_2] at h
      refine W.seq ?_
      refine W.region (by kernel_rfl) ?_
      refine WO.pureK 0 (some (.bool (decide ((k1 : Int) < (w18.length : Int))))) (v := .bool true) (by kernel_rfl) (by rw [lt_true hk1]) (e1 := [(0, .int .i64 a1), (2, l35 none a3), (7, l3 none w7.1), (42, l33 (some 42) w18), (43, .int .i64 (w18.length : Int)), (44, .int .i64 (k1 : Int)), (45, .bool true)]) (by kernel_rfl) ?_
      refine WO.fin ([0, 2, 7, 42, 43, 44, 45]) [] [] [] (e2 := [(0, .int .i64 a1), (2, l35 none a3), (7, l3 none w7.1), (42, l33 (some 42) w18), (43, .int .i64 (w18.length : Int)), (44, .int .i64 (k1 : Int)), (45, .bool true)]) (by kernel_rfl) (fun _ h => h) ?_
      refine W.seq ?_
      refine W.condB true (by kernel_rfl) (fun _ => ?_) (fun h => Bool.noConfusion h)
      refine W.skip ?_
      refine W.weak [0, 2, 7, 42, 43, 44] [] [] [] (env' := [(0, .int .i64 a1), (2, l35 none a3), (7, l3 none w7.1), (42, l33 (some 42) w18), (43, .int .i64 (w18.length : Int)), (44, .int .i64 (k1 : Int))]) (by kernel_rfl) ?_
      refine W.seq ?_
      refine W.block ?_
      refine W.seq ?_
      refine W.region (by kernel_rfl) ?_
      refine WO.pureK 0 (if (0 : Int) ≤ (k1 : Int) then ((List.map e_dpDep w18)[Int.toNat (k1 : Int)]?).map AV.ptr else none) (v := .ptr (.agg [.int .i64 x1.f_From, .int .i64 x1.f_To])) (by kernel_rfl) (idx_nat (f := e_dpDep) hx1) (e1 := [(0, .int .i64 a1), (2, l35 none a3), (7, l3 none w7.1), (42, l33 (some 42) w18), (43, .int .i64 (w18.length : Int)), (44, .int .i64 (k1 : Int)), (46, .ptr (.agg [.int .i64 x1.f_From, .int .i64 x1.f_To]))]) (by kernel_rfl) ?_
      refine WO.fin [0, 2, 7, 10, 42, 43, 44] [10] [] [] (e2 := [(0, .int .i64 a1), (2, l35 none a3), (7, l3 none w7.1), (10, .ptr (.agg [.int .i64 x1.f_From, .int .i64 x1.f_To])), (42, l33 (some 42) w18), (43, .int .i64 (w18.length : Int)), (44, .int .i64 (k1 : Int))]) (by kernel_rfl) (fun _ h => h) ?_
      refine W.seq ?_
      refine W.region (by kernel_rfl) ?_
      obtain ⟨w22, hw22, h⟩ := bind_some h
      refine WO.callK 2 (F := 42) (l := [l35 none a3]) (C := []) (r := l35 (some 1) w22) (by kernel_rfl) (by kernel_rfl) (run_lw1_few a3 w22 hw22) (e1 := [(0, .int .i64 a1), (2, l35 none a3), (7, l3 none w7.1), (10, .ptr (.agg [.int .i64 x1.f_From, .int .i64 x1.f_To])), (42, l33 (some 42) w18), (43, .int .i64 (w18.length : Int)), (44, .int .i64 (k1 : Int)), (49, .int .i64 a1), (50, l35 none a3), (51, l35 none w22)]) (by kernel_rfl) ?_
      obtain ⟨w23, hw23, h⟩ := bind_some h
      refine WO.callK 1 (F := 41) (l := [.int .i64 a1, l35 none w22, .agg [.int .i64 x1.f_From, .int .i64 x1.f_To]]) (C := []) (r := .tup [.bool w23.1, .int .i64 w23.2]) (by kernel_rfl) (by kernel_rfl) (run_dp_Holds a1 w22 x1 w23 hw23) (e1 := [(0, .int .i64 a1), (2, l35 none a3), (7, l3 none w7.1), (10, .ptr (.agg [.int .i64 x1.f_From, .int .i64 x1.f_To])), (42, l33 (some 42) w18), (43, .int .i64 (w18.length : Int)), (44, .int .i64 (k1 : Int)), (49, .int .i64 a1), (50, l35 none a3), (51, l35 none w22), (52, .agg [.int .i64 x1.f_From, .int .i64 x1.f_To]), (53, .tup [.bool w23.1, .int .i64 w23.2])]) (by kernel_rfl) ?_
      refine WO.fin [0, 2, 7, 11, 12, 42, 43, 44] [] [] [] (e2 := [(0, .int .i64 a1), (2, l35 none a3), (7, l3 none w7.1), (11, .bool w23.1), (12, .int .i64 w23.2), (42, l33 (some 42) w18), (43, .int .i64 (w18.length : Int)), (44, .int .i64 (k1 : Int))]) (by kernel_rfl) (fun _ h => h) ?_
      refine W.seq ?_
      refine W.join (σ := (Bool)) (fun s => [(0, .int .i64 a1), (2, l35 none a3), (7, l3 none w7.1), (12, .int .i64 w23.2), (42, l33 (some 42) w18), (43, .int .i64 (w18.length : Int)), (44, .int .i64 (k1 : Int)), (61, .bool s)]) (fun s => (lw1_DependRows_j24 fuel w23 (lw1_DependRows_l1 fuel a1 a3 (lw1_DependRows_j16 fuel a1 a3 w7) r1 (k1 + 1))) s = some r) (fun s h => ?_) (fun hK24 => ?_)
      · obtain ⟨v25, rfl⟩ : ∃ x, x = s := ⟨s, rfl⟩
        have h : (lw1_DependRows_j24 fuel w23 (lw1_DependRows_l1 fuel a1 a3 (lw1_DependRows_j16 fuel a1 a3 w7) r1 (k1 + 1))) v25 = some r := h
        unfold lw1_DependRows_j24 at h
        refine W.condB v25 (by kernel_rfl) (fun hb => ?_) (fun hb => ?_)
        · replace h := cond_t hb h
          refine W.seq ?_
          refine W.join (σ := (Bool)) (fun s => [(6, .bool s)]) (fun s => (lw1_DependRows_j26) s = some r) (fun s h => ?_) (fun hK26 => ?_)
          · obtain ⟨v28, rfl⟩ : ∃ x, x = s := ⟨s, rfl⟩
            have h : (lw1_DependRows_j26) v28 = some r := h
            unfold lw1_DependRows_j26 at h
            refine W.weak [6] [] [] [] (env' := [(6, .bool v28)]) (by kernel_rfl) ?_
            have hr : aresults Try.prog Try.f11 [(6, .bool v28)] = some (.bool v28) := by kernel_rfl
            cases h
            exact W.ret hr
          refine W.region (by kernel_rfl) ?_
          refine WO.boolK 3 (fun b => [(0, .int .i64 a1), (2, l35 none a3), (7, l3 none w7.1), (12, .int .i64 w23.2), (42, l33 (some 42) w18), (43, .int .i64 (w18.length : Int)), (44, .int .i64 (k1 : Int)), (61, .bool v25), (62, .int .i64 w23.2), (63, .bool b), (64, .bool b)]) (w23.2 == 0) (by kernel_rfl) (fun hb => ?_) (fun hb => ?_)
          · replace h := cond_t hb h
            obtain ⟨w27, hw27, h⟩ := bind_some h
            refine WO.callK 0 (F := 21) (l := []) (C := []) (r := .bool w27) (by kernel_rfl) (by kernel_rfl) (run_lw1_awake fuel w27 hw27) (e1 := [(0, .int .i64 a1), (2, l35 none a3), (7, l3 none w7.1), (12, .int .i64 w23.2), (42, l33 (some 42) w18), (43, .int .i64 (w18.length : Int)), (44, .int .i64 (k1 : Int)), (61, .bool v25), (62, .int .i64 w23.2), (63, .bool true), (64, .bool true), (65, .bool w27)]) (by kernel_rfl) ?_
            refine WO.fin [6] [] [] [] (e2 := [(6, .bool w27)]) (by kernel_rfl) (fun _ h => h) ?_
            exact hK26 w27 h
          replace h := cond_f hb h
          refine WO.fin [6] [] [] [] (e2 := [(6, .bool false)]) (by kernel_rfl) (fun _ h => h) ?_
          exact hK26 false h
        replace h := cond_f hb h
        refine W.skip ?_
        refine W.weak [0, 2, 7, 42, 43, 44] [] [] [] (env' := [(0, .int .i64 a1), (2, l35 none a3), (7, l3 none w7.1), (42, l33 (some 42) w18), (43, .int .i64 (w18.length : Int)), (44, .int .i64 (k1 : Int))]) (by kernel_rfl) ?_
        refine W.region (by kernel_rfl) ?_
        refine WO.pureK 0 (some (.int .i64 (IntKind.wrap .i64 ((k1 : Int) + 1)))) (v := .int .i64 ((k1 + 1 : Nat) : Int)) (by kernel_rfl) (by rw [wrap_succ hl1 hk1]) (e1 := [(0, .int .i64 a1), (2, l35 none a3), (7, l3 none w7.1), (42, l33 (some 42) w18), (43, .int .i64 (w18.length : Int)), (44, .int .i64 (k1 : Int)), (67, .int .i64 ((k1 + 1 : Nat) : Int))]) (by kernel_rfl) ?_
        refine WO.fin [0, 2, 7, 42, 43, 44] [] [] [] (e2 := [(0, .int .i64 a1), (2, l35 none a3), (7, l3 none w7.1), (42, l33 (some 42) w18), (43, .int .i64 (w18.length : Int)), (44, .int .i64 ((k1 + 1 : Nat) : Int))]) (by kernel_rfl) (fun _ h => h) ?_
        exact hN1 () h
      refine W.region (by kernel_rfl) ?_
      refine WO.boolK 3 (fun b => [(0, .int .i64 a1), (2, l35 none a3), (7, l3 none w7.1), (11, .bool w23.1), (12, .int .i64 w23.2), (42, l33 (some 42) w18), (43, .int .i64 (w18.length : Int)), (44, .int .i64 (k1 : Int)), (56, .int .i64 w23.2), (57, .bool b), (58, .bool b)]) (w23.2 != 0) (by kernel_rfl) (fun hb => ?_) (fun hb => ?_)
      · replace h := cond_t hb h
        refine WO.fin [0, 2, 7, 12, 42, 43, 44, 61] [] [] [] (e2 := [(0, .int .i64 a1), (2, l35 none a3), (7, l3 none w7.1), (12, .int .i64 w23.2), (42, l33 (some 42) w18), (43, .int .i64 (w18.length : Int)), (44, .int .i64 (k1 : Int)), (61, .bool true)]) (by kernel_rfl) (fun _ h => h) ?_
        exact hK24 true h
      replace h := cond_f hb h
      refine WO.fin [0, 2, 7, 12, 42, 43, 44, 61] [] [] [] (e2 := [(0, .int .i64 a1), (2, l35 none a3), (7, l3 none w7.1), (12, .int .i64 w23.2), (42, l33 (some 42) w18), (43, .int .i64 (w18.length : Int)), (44, .int .i64 (k1 : Int)), (61, .bool (!w23.1))]) (by kernel_rfl) (fun _ h => h) ?_
      exact hK24 (!w23.1) h
  refine W.region (by kernel_rfl) ?_
  refine WO.boolK 3 (fun b => [(0, .int .i64 a1), (1, l40 none a2), (2, l35 none a3), (7, l3 none w7.1), (8, .int .i64 w7.2), (24, .int .i64 w7.2), (25, .bool b), (26, .bool b)]) (w7.2 != 0) (by kernel_rfl) (fun hb => ?_) (fun hb => ?_)
  · replace h := cond_t hb h
    refine WO.fin [0, 1, 2, 7, 8, 31] [] [] [] (e2 := [(0, .int .i64 a1), (1, l40 none a2), (2, l35 none a3), (7, l3 none w7.1), (8, .int .i64 w7.2), (31, .bool true)]) (by kernel_rfl) (fun _ h => h) ?_
    exact hK9 true h
  replace h := cond_f hb h
  obtain ⟨w10, hw10, h⟩ := bind_some h
  refine WO.callK 2 (F := 40) (l := [.int .i64 a1, l35 none a3]) (C := []) (r := .bool w10) (by kernel_rfl) (by kernel_rfl) (run_rf1_Table a1 a3 w10 hw10) (e1 := [(0, .int .i64 a1), (1, l40 none a2), (2, l35 none a3), (7, l3 none w7.1), (8, .int .i64 w7.2), (24, .int .i64 w7.2), (25, .bool false), (26, .bool false), (27, .int .i64 a1), (28, l35 none a3), (29, .bool w10)]) (by kernel_rfl) ?_
  refine WO.fin [0, 1, 2, 7, 8, 31] [] [] [] (e2 := [(0, .int .i64 a1), (1, l40 none a2), (2, l35 none a3), (7, l3 none w7.1), (8, .int .i64 w7.2), (31, .bool (!w10))]) (by kernel_rfl) (fun _ h => h) ?_
  exact hK9 (!w10) h
def lw1_DependSound_j13 (v17 : Bool) : Option Bool :=
  (some v17)
def lw1_DependSound_j33 (v35 : Bool) : Option Bool :=
  (some v35)
def lw1_DependSound_j64 (v70 : Bool) : Option Bool :=
  (some v70)
def lw1_DependSound_j50 (fuel : Nat) (a1 : Int) (a4 : (List (List Int))) (e21 : dpStep) (w24 : (Bool × Int)) (v60 : Bool) : Option Bool :=
  ((lw1_few a4).bind fun w62 => ((dp_Holds a1 w62 e21.f_Dep).bind fun w63 => (bif (!v60) then ((lw1_awake fuel).bind fun w65 => ((lw1_DependSound_j64) w65)) else (bif (!w24.1) then ((lw1_awake fuel).bind fun w66 => ((lw1_DependSound_j64) w66)) else (bif w63.1 then (bif (w63.2 == 0) then ((lw1_awake fuel).bind fun w67 => ((lw1_DependSound_j64) w67)) else (bif (w63.2 == 2) then ((lw1_awake fuel).bind fun w68 => ((lw1_DependSound_j64) w68)) else ((lw1_DependSound_j64) false))) else (bif (w63.2 == 2) then ((lw1_awake fuel).bind fun w69 => ((lw1_DependSound_j64) w69)) else ((lw1_DependSound_j64) false)))))))
def lw1_DependSound_j54 (N1 : (Bool → Option Bool)) (v59 : Bool) : Option Bool :=
  (N1 v59)
def lw1_DependSound_l1 (a1 : Int) (a4 : (List (List Int))) (K50 : (Bool → Option Bool)) : List dpDep → Nat → Bool → Option Bool
  | [], k1, v53 => (K50 v53)
  | x1 :: r1, k1, v53 => ((lw1_few a4).bind fun w57 => ((dp_Holds a1 w57 x1).bind fun w58 => (bif v53 then (bif w58.1 then ((lw1_DependSound_j54 (lw1_DependSound_l1 a1 a4 K50 r1 (k1 + 1))) (w58.2 == 0)) else ((lw1_DependSound_j54 (lw1_DependSound_l1 a1 a4 K50 r1 (k1 + 1))) false)) else ((lw1_DependSound_j54 (lw1_DependSound_l1 a1 a4 K50 r1 (k1 + 1))) false))))
def lw1_DependSound_j40 (fuel : Nat) (a1 : Int) (a2 : (List rf1Dep)) (a4 : (List (List Int))) (e21 : dpStep) (w24 : (Bool × Int)) : Option Bool :=
  ((lw1_deps a2).bind fun w52 => (chk (lenOk w52) (lw1_DependSound_l1 a1 a4 (lw1_DependSound_j50 fuel a1 a4 e21 w24) w52 0 true)))
def lw1_DependSound_j45 (K40 : (Option Bool)) (v47 : Bool) : Option Bool :=
  (bif v47 then (some false) else K40)
def lw1_DependSound_j37 (fuel : Nat) (a1 : Int) (a2 : (List rf1Dep)) (a4 : (List (List Int))) (e21 : dpStep) (w24 : (Bool × Int)) (w27 : ((List dpStep) × Int)) (v38 : Bool) : Option Bool :=
  (bif v38 then (some false) else (bif w24.1 then ((lw1_deps a2).bind fun w43 => ((dp_Check a1 w43 w27.1).bind fun w44 => (bif (!w44.1) then ((lw1_DependSound_j45 (lw1_DependSound_j40 fuel a1 a2 a4 e21 w24)) true) else (bif (w44.2 != 0) then ((lw1_DependSound_j45 (lw1_DependSound_j40 fuel a1 a2 a4 e21 w24)) true) else (bif ((w27.1.length : Int) == 0) then ((lw1_DependSound_j45 (lw1_DependSound_j40 fuel a1 a2 a4 e21 w24)) true) else ((idx w27.1 (IntKind.wrap .i64 ((w27.1.length : Int) - 1))).bind fun e46 => ((lw1_DependSound_j45 (lw1_DependSound_j40 fuel a1 a2 a4 e21 w24)) (!((e46.f_Dep.f_From == e21.f_Dep.f_From) && ((e46.f_Dep.f_To == e21.f_Dep.f_To) && true)))))))))) else (lw1_DependSound_j40 fuel a1 a2 a4 e21 w24)))
def lw1_DependSound_j11 (fuel : Nat) (a1 : Int) (a2 : (List rf1Dep)) (a3 : (List rf1Step)) (a4 : (List (List Int))) (w9 : (Bool × Int)) (v12 : Bool) : Option Bool :=
  (bif v12 then (bif (w9.2 == 0) then (bif (!w9.1) then ((lw1_awake fuel).bind fun w14 => ((lw1_DependSound_j13) w14)) else (bif (w9.2 == 2) then ((lw1_awake fuel).bind fun w15 => ((lw1_DependSound_j13) w15)) else ((lw1_DependSound_j13) false))) else (bif (w9.2 == 2) then ((lw1_awake fuel).bind fun w16 => ((lw1_DependSound_j13) w16)) else ((lw1_DependSound_j13) false))) else ((lw1_steps a3).bind fun w19 => ((lw1_steps a3).bind fun w20 => ((idx w19 (IntKind.wrap .i64 ((w20.length : Int) - 1))).bind fun e21 => ((lw1_deps a2).bind fun w23 => ((dp_Follows fuel a1 w23 e21.f_Dep).bind fun w24 => ((lw1_deps a2).bind fun w26 => ((dp_Prove fuel a1 w26 e21.f_Dep).bind fun w27 => ((lw1_deps a2).bind fun w29 => ((dp_Refute fuel a1 w29 e21.f_Dep).bind fun w30 => (bif (w24.2 != 0) then (bif (!w9.1) then (bif (w24.2 == 2) then (bif (w27.2 == 2) then (bif (w30.2 == 2) then ((lw1_awake fuel).bind fun w34 => ((lw1_DependSound_j33) w34)) else ((lw1_DependSound_j33) false)) else ((lw1_DependSound_j33) false)) else ((lw1_DependSound_j33) false)) else ((lw1_DependSound_j33) false)) else (bif w9.1 then (bif (!w24.1) then ((lw1_DependSound_j37 fuel a1 a2 a4 e21 w24 w27) true) else (bif (!(w24.1 == (w27.2 == 0))) then ((lw1_DependSound_j37 fuel a1 a2 a4 e21 w24 w27) true) else (bif (!(w24.1 == (w30.2 == 5))) then ((lw1_DependSound_j37 fuel a1 a2 a4 e21 w24 w27) true) else (bif (!w24.1) then (bif (w27.2 != 5) then ((lw1_DependSound_j37 fuel a1 a2 a4 e21 w24 w27) true) else ((lw1_DependSound_j37 fuel a1 a2 a4 e21 w24 w27) (w30.2 != 0))) else ((lw1_DependSound_j37 fuel a1 a2 a4 e21 w24 w27) false))))) else (bif (!(w24.1 == (w27.2 == 0))) then ((lw1_DependSound_j37 fuel a1 a2 a4 e21 w24 w27) true) else (bif (!(w24.1 == (w30.2 == 5))) then ((lw1_DependSound_j37 fuel a1 a2 a4 e21 w24 w27) true) else (bif (!w24.1) then (bif (w27.2 != 5) then ((lw1_DependSound_j37 fuel a1 a2 a4 e21 w24 w27) true) else ((lw1_DependSound_j37 fuel a1 a2 a4 e21 w24 w27) (w30.2 != 0))) else ((lw1_DependSound_j37 fuel a1 a2 a4 e21 w24 w27) false))))))))))))))))
def lw1_DependSound (fuel : Nat) (a1 : Int) (a2 : (List rf1Dep)) (a3 : (List rf1Step)) (a4 : (List (List Int))) : Option Bool :=
  ((lw1_deps a2).bind fun w7 => ((lw1_steps a3).bind fun w8 => ((dp_Check a1 w7 w8).bind fun w9 => (bif (w9.2 != 0) then ((lw1_DependSound_j11 fuel a1 a2 a3 a4 w9) true) else ((lw1_DependSound_j11 fuel a1 a2 a3 a4 w9) ((a3.length : Int) == 0))))))
theorem run_lw1_DependSound (fuel : Nat) (a1 : Int) (a2 : (List rf1Dep)) (a3 : (List rf1Step)) (a4 : (List (List Int))) (r : Bool) (h : lw1_DependSound fuel a1 a2 a3 a4 = some r) : Run Try.prog (.call 13 [.int .i64 a1, l40 none a2, l98 none a3, l35 none a4] (.bool r)) := by
  refine call_of_W Try.func13 rfl (by kernel_rfl) (env0 := [(0, .int .i64 a1), (1, l40 none a2), (2, l98 none a3), (3, l35 none a4)]) (by kernel_rfl) ?_
  unfold lw1_DependSound at h
  refine W.seq ?_
  refine W.regT [0, 1, 2, 3] [] [] [] (e2 := [(0, .int .i64 a1), (1, l40 none a2), (2, l98 none a3), (3, l35 none a4)]) (by kernel_rfl) (by kernel_rfl) (fun _ h => h) ?_
  refine W.seq ?_
  refine W.region (by kernel_rfl) ?_
  obtain ⟨w7, hw7, h⟩ := bind_some h
  refine WO.callK 2 (F := 20) (l := [l40 none a2]) (C := []) (r := l33 (some 1) w7) (by kernel_rfl) (by kernel_rfl) (run_lw1_deps a2 w7 hw7) (e1 := [(0, .int .i64 a1), (1, l40 none a2), (2, l98 none a3), (3, l35 none a4), (26, .int .i64 a1), (27, l40 none a2), (28, l33 (some 28) w7)]) (by kernel_rfl) ?_
  obtain ⟨w8, hw8, h⟩ := bind_some h
  refine WO.callK 1 (F := 27) (l := [l98 none a3]) (C := []) (r := l58 (some 1) w8) (by kernel_rfl) (by kernel_rfl) (run_lw1_steps a3 w8 hw8) (e1 := [(0, .int .i64 a1), (1, l40 none a2), (2, l98 none a3), (3, l35 none a4), (26, .int .i64 a1), (27, l40 none a2), (28, l33 (some 28) w7), (29, l98 none a3), (30, l58 (some 30) w8)]) (by kernel_rfl) ?_
  obtain ⟨w9, hw9, h⟩ := bind_some h
  refine WO.callK 0 (F := 26) (l := [.int .i64 a1, l33 none w7, l58 none w8]) (C := []) (r := .tup [.bool w9.1, .int .i64 w9.2]) (by kernel_rfl) (by kernel_rfl) (run_dp_Check a1 w7 w8 w9 hw9) (e1 := [(0, .int .i64 a1), (1, l40 none a2), (2, l98 none a3), (3, l35 none a4), (26, .int .i64 a1), (27, l40 none a2), (28, l33 (some 28) w7), (29, l98 none a3), (30, l58 (some 30) w8), (31, .tup [.bool w9.1, .int .i64 w9.2])]) (by kernel_rfl) ?_
  refine WO.fin [0, 1, 2, 3, 9, 10] [] [] [] (e2 := [(0, .int .i64 a1), (1, l40 none a2), (2, l98 none a3), (3, l35 none a4), (9, .bool w9.1), (10, .int .i64 w9.2)]) (by kernel_rfl) (fun _ h => h) ?_
  refine W.seq ?_
  refine W.seq ?_
  refine W.join (σ := (Bool)) (fun s => [(0, .int .i64 a1), (1, l40 none a2), (2, l98 none a3), (3, l35 none a4), (9, .bool w9.1), (10, .int .i64 w9.2), (40, .bool s)]) (fun s => (lw1_DependSound_j11 fuel a1 a2 a3 a4 w9) s = some r) (fun s h => ?_) (fun hK11 => ?_)
  · obtain ⟨v12, rfl⟩ : ∃ x, x = s := ⟨s, rfl⟩
    have h : (lw1_DependSound_j11 fuel a1 a2 a3 a4 w9) v12 = some r := h
    unfold lw1_DependSound_j11 at h
    refine W.condB v12 (by kernel_rfl) (fun hb => ?_) (fun hb => ?_)
    · replace h := cond_t hb h
      refine W.seq ?_
      refine W.join (σ := (Bool)) (fun s => [(8, .bool s)]) (fun s => (lw1_DependSound_j13) s = some r) (fun s h => ?_) (fun hK13 => ?_)
      · obtain ⟨v17, rfl⟩ : ∃ x, x = s := ⟨s, rfl⟩
        have h : (lw1_DependSound_j13) v17 = some r := h
        unfold lw1_DependSound_j13 at h
        refine W.weak [8] [] [] [] (env' := [(8, .bool v17)]) (by kernel_rfl) ?_
        have hr : aresults Try.prog Try.f13 [(8, .bool v17)] = some (.bool v17) := by kernel_rfl
        cases h
        exact W.ret hr
      refine W.region (by kernel_rfl) ?_
      refine WO.boolK 3 (fun b => [(0, .int .i64 a1), (1, l40 none a2), (2, l98 none a3), (3, l35 none a4), (9, .bool w9.1), (10, .int .i64 w9.2), (40, .bool v12), (41, .int .i64 w9.2), (42, .bool b), (43, .bool b)]) (w9.2 == 0) (by kernel_rfl) (fun hb => ?_) (fun hb => ?_)
      · replace h := cond_t hb h
        refine WO.boolK 4 (fun b => [(0, .int .i64 a1), (1, l40 none a2), (2, l98 none a3), (3, l35 none a4), (9, .bool w9.1), (10, .int .i64 w9.2), (40, .bool v12), (41, .int .i64 w9.2), (42, .bool true), (43, .bool true), (44, .bool w9.1), (45, .bool b), (46, .bool b), (47, .bool b)]) (!w9.1) (by kernel_rfl) (fun hb => ?_) (fun hb => ?_)
        · replace h := cond_t hb h
          obtain ⟨w14, hw14, h⟩ := bind_some h
          refine WO.callK 4 (F := 21) (l := []) (C := []) (r := .bool w14) (by kernel_rfl) (by kernel_rfl) (run_lw1_awake fuel w14 hw14) (e1 := [(0, .int .i64 a1), (1, l40 none a2), (2, l98 none a3), (3, l35 none a4), (9, .bool w9.1), (10, .int .i64 w9.2), (40, .bool v12), (41, .int .i64 w9.2), (42, .bool true), (43, .bool true), (44, .bool w9.1), (45, .bool true), (46, .bool true), (47, .bool true), (48, .und), (49, .und), (50, .bool true), (51, .bool true), (52, .bool w14)]) (by kernel_rfl) ?_
          refine WO.fin [8] [] [] [] (e2 := [(8, .bool w14)]) (by kernel_rfl) (fun _ h => h) ?_
          exact hK13 w14 h
        replace h := cond_f hb h
        refine WO.boolK 4 (fun b => [(0, .int .i64 a1), (1, l40 none a2), (2, l98 none a3), (3, l35 none a4), (9, .bool w9.1), (10, .int .i64 w9.2), (40, .bool v12), (41, .int .i64 w9.2), (42, .bool true), (43, .bool true), (44, .bool w9.1), (45, .bool false), (46, .bool false), (47, .bool false), (48, .int .i64 w9.2), (49, .bool b), (50, .bool b), (51, .bool b)]) (w9.2 == 2) (by kernel_rfl) (fun hb => ?_) (fun hb => ?_)
        · replace h := cond_t hb h
          obtain ⟨w15, hw15, h⟩ := bind_some h
          refine WO.callK 0 (F := 21) (l := []) (C := []) (r := .bool w15) (by kernel_rfl) (by kernel_rfl) (run_lw1_awake fuel w15 hw15) (e1 := [(0, .int .i64 a1), (1, l40 none a2), (2, l98 none a3), (3, l35 none a4), (9, .bool w9.1), (10, .int .i64 w9.2), (40, .bool v12), (41, .int .i64 w9.2), (42, .bool true), (43, .bool true), (44, .bool w9.1), (45, .bool false), (46, .bool false), (47, .bool false), (48, .int .i64 w9.2), (49, .bool true), (50, .bool true), (51, .bool true), (52, .bool w15)]) (by kernel_rfl) ?_
          refine WO.fin [8] [] [] [] (e2 := [(8, .bool w15)]) (by kernel_rfl) (fun _ h => h) ?_
          exact hK13 w15 h
        replace h := cond_f hb h
        refine WO.fin [8] [] [] [] (e2 := [(8, .bool false)]) (by kernel_rfl) (fun _ h => h) ?_
        exact hK13 false h
      replace h := cond_f hb h
      refine WO.boolK 8 (fun b => [(0, .int .i64 a1), (1, l40 none a2), (2, l98 none a3), (3, l35 none a4), (9, .bool w9.1), (10, .int .i64 w9.2), (40, .bool v12), (41, .int .i64 w9.2), (42, .bool false), (43, .bool false), (44, .und), (45, .und), (46, .bool false), (47, .bool false), (48, .int .i64 w9.2), (49, .bool b), (50, .bool b), (51, .bool b)]) (w9.2 == 2) (by kernel_rfl) (fun hb => ?_) (fun hb => ?_)
      · replace h := cond_t hb h
        obtain ⟨w16, hw16, h⟩ := bind_some h
        refine WO.callK 0 (F := 21) (l := []) (C := []) (r := .bool w16) (by kernel_rfl) (by kernel_rfl) (run_lw1_awake fuel w16 hw16) (e1 := [(0, .int .i64 a1), (1, l40 none a2), (2, l98 none a3), (3, l35 none a4), (9, .bool w9.1), (10, .int .i64 w9.2), (40, .bool v12), (41, .int .i64 w9.2), (42, .bool false), (43, .bool false), (44, .und), (45, .und), (46, .bool false), (47, .bool false), (48, .int .i64 w9.2), (49, .bool true), (50, .bool true), (51, .bool true), (52, .bool w16)]) (by kernel_rfl) ?_
        refine WO.fin [8] [] [] [] (e2 := [(8, .bool w16)]) (by kernel_rfl) (fun _ h => h) ?_
        exact hK13 w16 h
      replace h := cond_f hb h
      refine WO.fin [8] [] [] [] (e2 := [(8, .bool false)]) (by kernel_rfl) (fun _ h => h) ?_
      exact hK13 false h
    replace h := cond_f hb h
    refine W.skip ?_
    refine W.weak [0, 1, 2, 3, 9] [] [] [] (env' := [(0, .int .i64 a1), (1, l40 none a2), (2, l98 none a3), (3, l35 none a4), (9, .bool w9.1)]) (by kernel_rfl) ?_
    refine W.seq ?_
    refine W.region (by kernel_rfl) ?_
    obtain ⟨w19, hw19, h⟩ := bind_some h
    refine WO.callK 1 (F := 27) (l := [l98 none a3]) (C := []) (r := l58 (some 1) w19) (by kernel_rfl) (by kernel_rfl) (run_lw1_steps a3 w19 hw19) (e1 := [(0, .int .i64 a1), (1, l40 none a2), (2, l98 none a3), (3, l35 none a4), (9, .bool w9.1), (54, l98 none a3), (55, l58 (some 55) w19)]) (by kernel_rfl) ?_
    obtain ⟨w20, hw20, h⟩ := bind_some h
    refine WO.callK 1 (F := 27) (l := [l98 none a3]) (C := []) (r := l58 (some 1) w20) (by kernel_rfl) (by kernel_rfl) (run_lw1_steps a3 w20 hw20) (e1 := [(0, .int .i64 a1), (1, l40 none a2), (2, l98 none a3), (3, l35 none a4), (9, .bool w9.1), (54, l98 none a3), (55, l58 (some 55) w19), (56, l98 none a3), (57, l58 (some 57) w20)]) (by kernel_rfl) ?_
    refine WO.pureK 0 (some (.int .i64 ((List.map e_dpStep w20).length : Int))) (v := .int .i64 (w20.length : Int)) (by kernel_rfl) (by rw [List.length_map]) (e1 := [(0, .int .i64 a1), (1, l40 none a2), (2, l98 none a3), (3, l35 none a4), (9, .bool w9.1), (54, l98 none a3), (55, l58 (some 55) w19), (56, l98 none a3), (57, l58 (some 57) w20), (58, .int .i64 (w20.length : Int))]) (by kernel_rfl) ?_
    obtain ⟨e21, he21, h⟩ := bind_some h
    refine WO.pureK 1 (if (0 : Int) ≤ (IntKind.wrap .i64 ((w20.length : Int) - 1)) then ((List.map e_dpStep w19)[Int.toNat (IntKind.wrap .i64 ((w20.length : Int) - 1))]?).map AV.ptr else none) (v := .ptr (.agg [.int .i64 e21.f_Rule, .int .i64 e21.f_I, .int .i64 e21.f_J, .int .i64 e21.f_Dep.f_From, .int .i64 e21.f_Dep.f_To])) (by kernel_rfl) (idx_av (f := e_dpStep) he21) (e1 := [(0, .int .i64 a1), (1, l40 none a2), (2, l98 none a3), (3, l35 none a4), (9, .bool w9.1), (54, l98 none a3), (55, l58 (some 55) w19), (56, l98 none a3), (57, l58 (some 57) w20), (58, .int .i64 (w20.length : Int)), (59, .int .i64 (IntKind.wrap .i64 ((w20.length : Int) - 1))), (60, .ptr (.agg [.int .i64 e21.f_Rule, .int .i64 e21.f_I, .int .i64 e21.f_J, .int .i64 e21.f_Dep.f_From, .int .i64 e21.f_Dep.f_To]))]) (by kernel_rfl) ?_
    refine WO.fin [0, 1, 3, 9, 11] [11] [] [] (e2 := [(0, .int .i64 a1), (1, l40 none a2), (3, l35 none a4), (9, .bool w9.1), (11, .ptr (.agg [.int .i64 e21.f_Dep.f_From, .int .i64 e21.f_Dep.f_To]))]) (by kernel_rfl) (fun _ h => h) ?_
    refine W.seq ?_
    refine W.region (by kernel_rfl) ?_
    obtain ⟨w23, hw23, h⟩ := bind_some h
    refine WO.callK 2 (F := 20) (l := [l40 none a2]) (C := []) (r := l33 (some 1) w23) (by kernel_rfl) (by kernel_rfl) (run_lw1_deps a2 w23 hw23) (e1 := [(0, .int .i64 a1), (1, l40 none a2), (3, l35 none a4), (9, .bool w9.1), (11, .ptr (.agg [.int .i64 e21.f_Dep.f_From, .int .i64 e21.f_Dep.f_To])), (64, .int .i64 a1), (65, l40 none a2), (66, l33 none w23)]) (by kernel_rfl) ?_
    obtain ⟨w24, hw24, h⟩ := bind_some h
    refine WO.callK 1 (F := 22) (l := [.int .i64 a1, l33 none w23, .agg [.int .i64 e21.f_Dep.f_From, .int .i64 e21.f_Dep.f_To]]) (C := []) (r := .tup [.bool w24.1, .int .i64 w24.2]) (by kernel_rfl) (by kernel_rfl) (run_dp_Follows fuel a1 w23 e21.f_Dep w24 hw24) (e1 := [(0, .int .i64 a1), (1, l40 none a2), (3, l35 none a4), (9, .bool w9.1), (11, .ptr (.agg [.int .i64 e21.f_Dep.f_From, .int .i64 e21.f_Dep.f_To])), (64, .int .i64 a1), (65, l40 none a2), (66, l33 none w23), (67, .agg [.int .i64 e21.f_Dep.f_From, .int .i64 e21.f_Dep.f_To]), (68, .tup [.bool w24.1, .int .i64 w24.2])]) (by kernel_rfl) ?_
    refine WO.fin [0, 1, 3, 9, 10, 11, 12] [] [] [] (e2 := [(0, .int .i64 a1), (1, l40 none a2), (3, l35 none a4), (9, .bool w9.1), (10, .int .i64 w24.2), (11, .ptr (.agg [.int .i64 e21.f_Dep.f_From, .int .i64 e21.f_Dep.f_To])), (12, .bool w24.1)]) (by kernel_rfl) (fun _ h => h) ?_
    refine W.seq ?_
    refine W.region (by kernel_rfl) ?_
    obtain ⟨w26, hw26, h⟩ := bind_some h
    refine WO.callK 2 (F := 20) (l := [l40 none a2]) (C := []) (r := l33 (some 1) w26) (by kernel_rfl) (by kernel_rfl) (run_lw1_deps a2 w26 hw26) (e1 := [(0, .int .i64 a1), (1, l40 none a2), (3, l35 none a4), (9, .bool w9.1), (10, .int .i64 w24.2), (11, .ptr (.agg [.int .i64 e21.f_Dep.f_From, .int .i64 e21.f_Dep.f_To])), (12, .bool w24.1), (72, .int .i64 a1), (73, l40 none a2), (74, l33 none w26)]) (by kernel_rfl) ?_
    obtain ⟨w27, hw27, h⟩ := bind_some h
    refine WO.callK 1 (F := 30) (l := [.int .i64 a1, l33 none w26, .agg [.int .i64 e21.f_Dep.f_From, .int .i64 e21.f_Dep.f_To]]) (C := []) (r := .tup [l58 none w27.1, .int .i64 w27.2]) (by kernel_rfl) (by kernel_rfl) (run_dp_Prove fuel a1 w26 e21.f_Dep w27 hw27) (e1 := [(0, .int .i64 a1), (1, l40 none a2), (3, l35 none a4), (9, .bool w9.1), (10, .int .i64 w24.2), (11, .ptr (.agg [.int .i64 e21.f_Dep.f_From, .int .i64 e21.f_Dep.f_To])), (12, .bool w24.1), (72, .int .i64 a1), (73, l40 none a2), (74, l33 none w26), (75, .agg [.int .i64 e21.f_Dep.f_From, .int .i64 e21.f_Dep.f_To]), (76, .tup [l58 none w27.1, .int .i64 w27.2])]) (by kernel_rfl) ?_
    refine WO.fin [0, 1, 3, 9, 10, 11, 12, 13, 14] [] [] [] (e2 := [(0, .int .i64 a1), (1, l40 none a2), (3, l35 none a4), (9, .bool w9.1), (10, .int .i64 w24.2), (11, .ptr (.agg [.int .i64 e21.f_Dep.f_From, .int .i64 e21.f_Dep.f_To])), (12, .bool w24.1), (13, l58 none w27.1), (14, .int .i64 w27.2)]) (by kernel_rfl) (fun _ h => h) ?_
    refine W.seq ?_
    refine W.region (by kernel_rfl) ?_
    obtain ⟨w29, hw29, h⟩ := bind_some h
    refine WO.callK 2 (F := 20) (l := [l40 none a2]) (C := []) (r := l33 (some 1) w29) (by kernel_rfl) (by kernel_rfl) (run_lw1_deps a2 w29 hw29) (e1 := [(0, .int .i64 a1), (1, l40 none a2), (3, l35 none a4), (9, .bool w9.1), (10, .int .i64 w24.2), (11, .ptr (.agg [.int .i64 e21.f_Dep.f_From, .int .i64 e21.f_Dep.f_To])), (12, .bool w24.1), (13, l58 none w27.1), (14, .int .i64 w27.2), (80, .int .i64 a1), (81, l40 none a2), (82, l33 none w29)]) (by kernel_rfl) ?_
    obtain ⟨w30, hw30, h⟩ := bind_some h
    refine WO.callK 1 (F := 36) (l := [.int .i64 a1, l33 none w29, .agg [.int .i64 e21.f_Dep.f_From, .int .i64 e21.f_Dep.f_To]]) (C := []) (r := .tup [l35 none w30.1, .int .i64 w30.2]) (by kernel_rfl) (by kernel_rfl) (run_dp_Refute fuel a1 w29 e21.f_Dep w30 hw30) (e1 := [(0, .int .i64 a1), (1, l40 none a2), (3, l35 none a4), (9, .bool w9.1), (10, .int .i64 w24.2), (11, .ptr (.agg [.int .i64 e21.f_Dep.f_From, .int .i64 e21.f_Dep.f_To])), (12, .bool w24.1), (13, l58 none w27.1), (14, .int .i64 w27.2), (80, .int .i64 a1), (81, l40 none a2), (82, l33 none w29), (83, .agg [.int .i64 e21.f_Dep.f_From, .int .i64 e21.f_Dep.f_To]), (84, .tup [l35 none w30.1, .int .i64 w30.2])]) (by kernel_rfl) ?_
    refine WO.fin [0, 1, 3, 9, 10, 11, 12, 13, 14, 16] [] [] [] (e2 := [(0, .int .i64 a1), (1, l40 none a2), (3, l35 none a4), (9, .bool w9.1), (10, .int .i64 w24.2), (11, .ptr (.agg [.int .i64 e21.f_Dep.f_From, .int .i64 e21.f_Dep.f_To])), (12, .bool w24.1), (13, l58 none w27.1), (14, .int .i64 w27.2), (16, .int .i64 w30.2)]) (by kernel_rfl) (fun _ h => h) ?_
    refine W.seq ?_
    refine W.seq ?_
    refine W.regT [0, 1, 3, 9, 10, 11, 12, 13, 14, 16, 88] [] [] [] (e2 := [(0, .int .i64 a1), (1, l40 none a2), (3, l35 none a4), (9, .bool w9.1), (10, .int .i64 w24.2), (11, .ptr (.agg [.int .i64 e21.f_Dep.f_From, .int .i64 e21.f_Dep.f_To])), (12, .bool w24.1), (13, l58 none w27.1), (14, .int .i64 w27.2), (16, .int .i64 w30.2), (88, .bool (w24.2 != 0))]) (by kernel_rfl) (by kernel_rfl) (fun _ h => h) ?_
    refine W.condB (w24.2 != 0) (by kernel_rfl) (fun hb => ?_) (fun hb => ?_)
    · replace h := cond_t hb h
      refine W.seq ?_
      refine W.join (σ := (Bool)) (fun s => [(8, .bool s)]) (fun s => (lw1_DependSound_j33) s = some r) (fun s h => ?_) (fun hK33 => ?_)
      · obtain ⟨v35, rfl⟩ : ∃ x, x = s := ⟨s, rfl⟩
        have h : (lw1_DependSound_j33) v35 = some r := h
        unfold lw1_DependSound_j33 at h
        refine W.weak [8] [] [] [] (env' := [(8, .bool v35)]) (by kernel_rfl) ?_
        have hr : aresults Try.prog Try.f13 [(8, .bool v35)] = some (.bool v35) := by kernel_rfl
        cases h
        exact W.ret hr
      refine W.region (by kernel_rfl) ?_
      refine WO.boolK 3 (fun b => [(0, .int .i64 a1), (1, l40 none a2), (3, l35 none a4), (9, .bool w9.1), (10, .int .i64 w24.2), (11, .ptr (.agg [.int .i64 e21.f_Dep.f_From, .int .i64 e21.f_Dep.f_To])), (12, .bool w24.1), (13, l58 none w27.1), (14, .int .i64 w27.2), (16, .int .i64 w30.2), (88, .bool (w24.2 != 0)), (89, .bool w9.1), (90, .bool b), (91, .bool b)]) (!w9.1) (by kernel_rfl) (fun hb => ?_) (fun hb => ?_)
      · replace h := cond_t hb h
        refine WO.boolK 4 (fun b => [(0, .int .i64 a1), (1, l40 none a2), (3, l35 none a4), (9, .bool w9.1), (10, .int .i64 w24.2), (11, .ptr (.agg [.int .i64 e21.f_Dep.f_From, .int .i64 e21.f_Dep.f_To])), (12, .bool w24.1), (13, l58 none w27.1), (14, .int .i64 w27.2), (16, .int .i64 w30.2), (88, .bool (w24.2 != 0)), (89, .bool w9.1), (90, .bool true), (91, .bool true), (92, .int .i64 w24.2), (93, .bool b), (94, .bool b), (95, .bool b)]) (w24.2 == 2) (by kernel_rfl) (fun hb => ?_) (fun hb => ?_)
        · replace h := cond_t hb h
          refine WO.boolK 4 (fun b => [(0, .int .i64 a1), (1, l40 none a2), (3, l35 none a4), (9, .bool w9.1), (10, .int .i64 w24.2), (11, .ptr (.agg [.int .i64 e21.f_Dep.f_From, .int .i64 e21.f_Dep.f_To])), (12, .bool w24.1), (13, l58 none w27.1), (14, .int .i64 w27.2), (16, .int .i64 w30.2), (88, .bool (w24.2 != 0)), (89, .bool w9.1), (90, .bool true), (91, .bool true), (92, .int .i64 w24.2), (93, .bool true), (94, .bool true), (95, .bool true), (96, .int .i64 w27.2), (97, .bool b), (98, .bool b), (99, .bool b)]) (w27.2 == 2) (by kernel_rfl) (fun hb => ?_) (fun hb => ?_)
          · replace h := cond_t hb h
            refine WO.boolK 4 (fun b => [(0, .int .i64 a1), (1, l40 none a2), (3, l35 none a4), (9, .bool w9.1), (10, .int .i64 w24.2), (11, .ptr (.agg [.int .i64 e21.f_Dep.f_From, .int .i64 e21.f_Dep.f_To])), (12, .bool w24.1), (13, l58 none w27.1), (14, .int .i64 w27.2), (16, .int .i64 w30.2), (88, .bool (w24.2 != 0)), (89, .bool w9.1), (90, .bool true), (91, .bool true), (92, .int .i64 w24.2), (93, .bool true), (94, .bool true), (95, .bool true), (96, .int .i64 w27.2), (97, .bool true), (98, .bool true), (99, .bool true), (100, .int .i64 w30.2), (101, .bool b), (102, .bool b), (103, .bool b)]) (w30.2 == 2) (by kernel_rfl) (fun hb => ?_) (fun hb => ?_)
            · replace h := cond_t hb h
              obtain ⟨w34, hw34, h⟩ := bind_some h
              refine WO.callK 0 (F := 21) (l := []) (C := []) (r := .bool w34) (by kernel_rfl) (by kernel_rfl) (run_lw1_awake fuel w34 hw34) (e1 := [(0, .int .i64 a1), (1, l40 none a2), (3, l35 none a4), (9, .bool w9.1), (10, .int .i64 w24.2), (11, .ptr (.agg [.int .i64 e21.f_Dep.f_From, .int .i64 e21.f_Dep.f_To])), (12, .bool w24.1), (13, l58 none w27.1), (14, .int .i64 w27.2), (16, .int .i64 w30.2), (88, .bool (w24.2 != 0)), (89, .bool w9.1), (90, .bool true), (91, .bool true), (92, .int .i64 w24.2), (93, .bool true), (94, .bool true), (95, .bool true), (96, .int .i64 w27.2), (97, .bool true), (98, .bool true), (99, .bool true), (100, .int .i64 w30.2), (101, .bool true), (102, .bool true), (103, .bool true), (104, .bool w34)]) (by kernel_rfl) ?_
              refine WO.fin [8] [] [] [] (e2 := [(8, .bool w34)]) (by kernel_rfl) (fun _ h => h) ?_
              exact hK33 w34 h
            replace h := cond_f hb h
            refine WO.fin [8] [] [] [] (e2 := [(8, .bool false)]) (by kernel_rfl) (fun _ h => h) ?_
            exact hK33 false h
          replace h := cond_f hb h
          refine WO.fin [8] [] [] [] (e2 := [(8, .bool false)]) (by kernel_rfl) (fun _ h => h) ?_
          exact hK33 false h
        replace h := cond_f hb h
        refine WO.fin [8] [] [] [] (e2 := [(8, .bool false)]) (by kernel_rfl) (fun _ h => h) ?_
        exact hK33 false h
      replace h := cond_f hb h
      refine WO.fin [8] [] [] [] (e2 := [(8, .bool false)]) (by kernel_rfl) (fun _ h => h) ?_
      exact hK33 false h
    replace h := cond_f hb h
    refine W.skip ?_
    refine W.weak [0, 1, 3, 9, 11, 12, 13, 14, 16] [] [] [] (env' := [(0, .int .i64 a1), (1, l40 none a2), (3, l35 none a4), (9, .bool w9.1), (11, .ptr (.agg [.int .i64 e21.f_Dep.f_From, .int .i64 e21.f_Dep.f_To])), (12, .bool w24.1), (13, l58 none w27.1), (14, .int .i64 w27.2), (16, .int .i64 w30.2)]) (by kernel_rfl) ?_
    refine W.seq ?_
    refine W.seq ?_
    refine W.join (σ := (Bool)) (fun s => [(0, .int .i64 a1), (1, l40 none a2), (3, l35 none a4), (11, .ptr (.agg [.int .i64 e21.f_Dep.f_From, .int .i64 e21.f_Dep.f_To])), (12, .bool w24.1), (13, l58 none w27.1), (134, .bool s)]) (fun s => (lw1_DependSound_j37 fuel a1 a2 a4 e21 w24 w27) s = some r) (fun s h => ?_) (fun hK37 => ?_)
    · obtain ⟨v38, rfl⟩ : ∃ x, x = s := ⟨s, rfl⟩
      have h : (lw1_DependSound_j37 fuel a1 a2 a4 e21 w24 w27) v38 = some r := h
      unfold lw1_DependSound_j37 at h
      refine W.condB v38 (by kernel_rfl) (fun hb => ?_) (fun hb => ?_)
      · replace h := cond_t hb h
        refine W.seq ?_
        refine W.regT [8] [] [] [] (e2 := [(8, .bool false)]) (by kernel_rfl) (by kernel_rfl) (fun _ h => h) ?_
        refine W.weak [8] [] [] [] (env' := [(8, .bool false)]) (by kernel_rfl) ?_
        have hr : aresults Try.prog Try.f13 [(8, .bool false)] = some (.bool false) := by kernel_rfl
        cases h
        exact W.ret hr
      replace h := cond_f hb h
      refine W.skip ?_
      refine W.weak [0, 1, 3, 11, 12, 13] [] [] [] (env' := [(0, .int .i64 a1), (1, l40 none a2), (3, l35 none a4), (11, .ptr (.agg [.int .i64 e21.f_Dep.f_From, .int .i64 e21.f_Dep.f_To])), (12, .bool w24.1), (13, l58 none w27.1)]) (by kernel_rfl) ?_
      refine W.seq ?_
      refine W.join (σ := Unit) (fun s => [(0, .int .i64 a1), (1, l40 none a2), (3, l35 none a4), (11, .ptr (.agg [.int .i64 e21.f_Dep.f_From, .int .i64 e21.f_Dep.f_To])), (12, .bool w24.1)]) (fun s => (lw1_DependSound_j40 fuel a1 a2 a4 e21 w24) = some r) (fun s h => ?_) (fun hK40 => ?_)
      · have h : (lw1_DependSound_j40 fuel a1 a2 a4 e21 w24) = some r := h
        unfold lw1_DependSound_j40 at h
        refine W.seq ?_
        refine W.regT [0, 1, 3, 11, 12, 19] [] [] [] (e2 := [(0, .int .i64 a1), (1, l40 none a2), (3, l35 none a4), (11, .ptr (.agg [.int .i64 e21.f_Dep.f_From, .int .i64 e21.f_Dep.f_To])), (12, .bool w24.1), (19, .bool true)]) (by kernel_rfl) (by kernel_rfl) (fun _ h => h) ?_
        refine W.seq ?_
        refine W.join (σ := (Bool)) (fun s => [(0, .int .i64 a1), (3, l35 none a4), (11, .ptr (.agg [.int .i64 e21.f_Dep.f_From, .int .i64 e21.f_Dep.f_To])), (12, .bool w24.1), (19, .bool s)]) (fun s => (lw1_DependSound_j50 fuel a1 a4 e21 w24) s = some r) (fun s h => ?_) (fun hK50 => ?_)
        · obtain ⟨v60, rfl⟩ : ∃ x, x = s := ⟨s, rfl⟩
          have h : (lw1_DependSound_j50 fuel a1 a4 e21 w24) v60 = some r := h
          unfold lw1_DependSound_j50 at h
          refine W.seq ?_
          refine W.region (by kernel_rfl) ?_
          obtain ⟨w62, hw62, h⟩ := bind_some h
          refine WO.callK 2 (F := 42) (l := [l35 none a4]) (C := []) (r := l35 (some 1) w62) (by kernel_rfl) (by kernel_rfl) (run_lw1_few a4 w62 hw62) (e1 := [(0, .int .i64 a1), (3, l35 none a4), (11, .ptr (.agg [.int .i64 e21.f_Dep.f_From, .int .i64 e21.f_Dep.f_To])), (12, .bool w24.1), (19, .bool v60), (191, .int .i64 a1), (192, l35 none a4), (193, l35 none w62)]) (by kernel_rfl) ?_
          obtain ⟨w63, hw63, h⟩ := bind_some h
          refine WO.callK 1 (F := 41) (l := [.int .i64 a1, l35 none w62, .agg [.int .i64 e21.f_Dep.f_From, .int .i64 e21.f_Dep.f_To]]) (C := []) (r := .tup [.bool w63.1, .int .i64 w63.2]) (by kernel_rfl) (by kernel_rfl) (run_dp_Holds a1 w62 e21.f_Dep w63 hw63) (e1 := [(0, .int .i64 a1), (3, l35 none a4), (11, .ptr (.agg [.int .i64 e21.f_Dep.f_From, .int .i64 e21.f_Dep.f_To])), (12, .bool w24.1), (19, .bool v60), (191, .int .i64 a1), (192, l35 none a4), (193, l35 none w62), (194, .agg [.int .i64 e21.f_Dep.f_From, .int .i64 e21.f_Dep.f_To]), (195, .tup [.bool w63.1, .int .i64 w63.2])]) (by kernel_rfl) ?_
          refine WO.fin [10, 12, 19, 24] [] [] [] (e2 := [(10, .int .i64 w63.2), (12, .bool w24.1), (19, .bool v60), (24, .bool w63.1)]) (by kernel_rfl) (fun _ h => h) ?_
          refine W.seq ?_
          refine W.join (σ := (Bool)) (fun s => [(8, .bool s)]) (fun s => (lw1_DependSound_j64) s = some r) (fun s h => ?_) (fun hK64 => ?_)
          · obtain ⟨v70, rfl⟩ : ∃ x, x = s := ⟨s, rfl⟩
            have h : (lw1_DependSound_j64) v70 = some r := h
            unfold lw1_DependSound_j64 at h
            refine W.weak [8] [] [] [] (env' := [(8, .bool v70)]) (by kernel_rfl) ?_
            have hr : aresults Try.prog Try.f13 [(8, .bool v70)] = some (.bool v70) := by kernel_rfl
            cases h
            exact W.ret hr
          refine W.region (by kernel_rfl) ?_
          refine WO.boolK 3 (fun b => [(10, .int .i64 w63.2), (12, .bool w24.1), (19, .bool v60), (24, .bool w63.1), (198, .bool v60), (199, .bool b), (200, .bool b)]) (!v60) (by kernel_rfl) (fun hb => ?_) (fun hb => ?_)
          · replace h := cond_t hb h
            obtain ⟨w65, hw65, h⟩ := bind_some h
            refine WO.callK 15 (F := 21) (l := []) (C := []) (r := .bool w65) (by kernel_rfl) (by kernel_rfl) (run_lw1_awake fuel w65 hw65) (e1 := [(10, .int .i64 w63.2), (12, .bool w24.1), (19, .bool v60), (24, .bool w63.1), (198, .bool v60), (199, .bool true), (200, .bool true), (201, .und), (202, .und), (203, .bool true), (204, .bool true), (205, .und), (206, .und), (207, .und), (208, .und), (209, .und), (210, .bool true), (211, .bool true), (212, .und), (213, .und), (214, .bool true), (215, .bool true), (216, .bool w65)]) (by kernel_rfl) ?_
            refine WO.fin [8] [] [] [] (e2 := [(8, .bool w65)]) (by kernel_rfl) (fun _ h => h) ?_
            exact hK64 w65 h
          replace h := cond_f hb h
          refine WO.boolK 4 (fun b => [(10, .int .i64 w63.2), (12, .bool w24.1), (19, .bool v60), (24, .bool w63.1), (198, .bool v60), (199, .bool false), (200, .bool false), (201, .bool w24.1), (202, .bool b), (203, .bool b), (204, .bool b)]) (!w24.1) (by kernel_rfl) (fun hb => ?_) (fun hb => ?_)
          · replace h := cond_t hb h
            obtain ⟨w66, hw66, h⟩ := bind_some h
            refine WO.callK 11 (F := 21) (l := []) (C := []) (r := .bool w66) (by kernel_rfl) (by kernel_rfl) (run_lw1_awake fuel w66 hw66) (e1 := [(10, .int .i64 w63.2), (12, .bool w24.1), (19, .bool v60), (24, .bool w63.1), (198, .bool v60), (199, .bool false), (200, .bool false), (201, .bool w24.1), (202, .bool true), (203, .bool true), (204, .bool true), (205, .und), (206, .und), (207, .und), (208, .und), (209, .und), (210, .bool true), (211, .bool true), (212, .und), (213, .und), (214, .bool true), (215, .bool true), (216, .bool w66)]) (by kernel_rfl) ?_
            refine WO.fin [8] [] [] [] (e2 := [(8, .bool w66)]) (by kernel_rfl) (fun _ h => h) ?_
            exact hK64 w66 h
          replace h := cond_f hb h
          refine WO.boolK 2 (fun b => [(10, .int .i64 w63.2), (12, .bool w24.1), (19, .bool v60), (24, .bool b), (198, .bool v60), (199, .bool false), (200, .bool false), (201, .bool w24.1), (202, .bool false), (203, .bool false), (204, .bool false), (205, .bool b), (206, .bool b)]) w63.1 (by kernel_rfl) (fun hb => ?_) (fun hb => ?_)
          · replace h := cond_t hb h
            refine WO.boolK 5 (fun b => [(10, .int .i64 w63.2), (12, .bool w24.1), (19, .bool v60), (24, .bool true), (198, .bool v60), (199, .bool false), (200, .bool false), (201, .bool w24.1), (202, .bool false), (203, .bool false), (204, .bool false), (205, .bool true), (206, .bool true), (207, .int .i64 w63.2), (208, .bool b), (209, .bool b), (210, .bool b), (211, .bool b)]) (w63.2 == 0) (by kernel_rfl) (fun hb => ?_) (fun hb => ?_)
            · replace h := cond_t hb h
              obtain ⟨w67, hw67, h⟩ := bind_some h
              refine WO.callK 4 (F := 21) (l := []) (C := []) (r := .bool w67) (by kernel_rfl) (by kernel_rfl) (run_lw1_awake fuel w67 hw67) (e1 := [(10, .int .i64 w63.2), (12, .bool w24.1), (19, .bool v60), (24, .bool true), (198, .bool v60), (199, .bool false), (200, .bool false), (201, .bool w24.1), (202, .bool false), (203, .bool false), (204, .bool false), (205, .bool true), (206, .bool true), (207, .int .i64 w63.2), (208, .bool true), (209, .bool true), (210, .bool true), (211, .bool true), (212, .und), (213, .und), (214, .bool true), (215, .bool true), (216, .bool w67)]) (by kernel_rfl) ?_
              refine WO.fin [8] [] [] [] (e2 := [(8, .bool w67)]) (by kernel_rfl) (fun _ h => h) ?_
              exact hK64 w67 h
            replace h := cond_f hb h
            refine WO.boolK 4 (fun b => [(10, .int .i64 w63.2), (12, .bool w24.1), (19, .bool v60), (24, .bool true), (198, .bool v60), (199, .bool false), (200, .bool false), (201, .bool w24.1), (202, .bool false), (203, .bool false), (204, .bool false), (205, .bool true), (206, .bool true), (207, .int .i64 w63.2), (208, .bool false), (209, .bool false), (210, .bool false), (211, .bool false), (212, .int .i64 w63.2), (213, .bool b), (214, .bool b), (215, .bool b)]) (w63.2 == 2) (by kernel_rfl) (fun hb => ?_) (fun hb => ?_)
            · replace h := cond_t hb h
              obtain ⟨w68, hw68, h⟩ := bind_some h
              refine WO.callK 0 (F := 21) (l := []) (C := []) (r := .bool w68) (by kernel_rfl) (by kernel_rfl) (run_lw1_awake fuel w68 hw68) (e1 := [(10, .int .i64 w63.2), (12, .bool w24.1), (19, .bool v60), (24, .bool true), (198, .bool v60), (199, .bool false), (200, .bool false), (201, .bool w24.1), (202, .bool false), (203, .bool false), (204, .bool false), (205, .bool true), (206, .bool true), (207, .int .i64 w63.2), (208, .bool false), (209, .bool false), (210, .bool false), (211, .bool false), (212, .int .i64 w63.2), (213, .bool true), (214, .bool true), (215, .bool true), (216, .bool w68)]) (by kernel_rfl) ?_
              refine WO.fin [8] [] [] [] (e2 := [(8, .bool w68)]) (by kernel_rfl) (fun _ h => h) ?_
              exact hK64 w68 h
            replace h := cond_f hb h
            refine WO.fin [8] [] [] [] (e2 := [(8, .bool false)]) (by kernel_rfl) (fun _ h => h) ?_
            exact hK64 false h
          replace h := cond_f hb h
          refine WO.boolK 9 (fun b => [(10, .int .i64 w63.2), (12, .bool w24.1), (19, .bool v60), (24, .bool false), (198, .bool v60), (199, .bool false), (200, .bool false), (201, .bool w24.1), (202, .bool false), (203, .bool false), (204, .bool false), (205, .bool false), (206, .bool false), (207, .und), (208, .und), (209, .bool false), (210, .bool false), (211, .bool false), (212, .int .i64 w63.2), (213, .bool b), (214, .bool b), (215, .bool b)]) (w63.2 == 2) (by kernel_rfl) (fun hb => ?_) (fun hb => ?_)
          · replace h := cond_t hb h
            obtain ⟨w69, hw69, h⟩ := bind_some h
            refine WO.callK 0 (F := 21) (l := []) (C := []) (r := .bool w69) (by kernel_rfl) (by kernel_rfl) (run_lw1_awake fuel w69 hw69) (e1 := [(10, .int .i64 w63.2), (12, .bool w24.1), (19, .bool v60), (24, .bool false), (198, .bool v60), (199, .bool false), (200, .bool false), (201, .bool w24.1), (202, .bool false), (203, .bool false), (204, .bool false), (205, .bool false), (206, .bool false), (207, .und), (208, .und), (209, .bool false), (210, .bool false), (211, .bool false), (212, .int .i64 w63.2), (213, .bool true), (214, .bool true), (215, .bool true), (216, .bool w69)]) (by kernel_rfl) ?_
            refine WO.fin [8] [] [] [] (e2 := [(8, .bool w69)]) (by kernel_rfl) (fun _ h => h) ?_
            exact hK64 w69 h
          replace h := cond_f hb h
          refine WO.fin [8] [] [] [] (e2 := [(8, .bool false)]) (by kernel_rfl) (fun _ h => h) ?_
          exact hK64 false h
        refine W.seq ?_
        refine W.region (by kernel_rfl) ?_
        obtain ⟨w52, hw52, h⟩ := bind_some h
        refine WO.callK 1 (F := 20) (l := [l40 none a2]) (C := []) (r := l33 (some 1) w52) (by kernel_rfl) (by kernel_rfl) (run_lw1_deps a2 w52 hw52) (e1 := [(0, .int .i64 a1), (1, l40 none a2), (3, l35 none a4), (11, .ptr (.agg [.int .i64 e21.f_Dep.f_From, .int .i64 e21.f_Dep.f_To])), (12, .bool w24.1), (19, .bool true), (166, l40 none a2), (167, l33 (some 167) w52)]) (by kernel_rfl) ?_
        refine WO.pureK 0 (some (.int .i64 ((List.map e_dpDep w52).length : Int))) (v := .int .i64 (w52.length : Int)) (by kernel_rfl) (by rw [List.length_map]) (e1 := [(0, .int .i64 a1), (1, l40 none a2), (3, l35 none a4), (11, .ptr (.agg [.int .i64 e21.f_Dep.f_From, .int .i64 e21.f_Dep.f_To])), (12, .bool w24.1), (19, .bool true), (166, l40 none a2), (167, l33 (some 167) w52), (168, .int .i64 (w52.length : Int))]) (by kernel_rfl) ?_
        refine WO.fin [0, 3, 11, 12, 19, 167, 168, 169] [] [] [] (e2 := [(0, .int .i64 a1), (3, l35 none a4), (11, .ptr (.agg [.int .i64 e21.f_Dep.f_From, .int .i64 e21.f_Dep.f_To])), (12, .bool w24.1), (19, .bool true), (167, l33 (some 167) w52), (168, .int .i64 (w52.length : Int)), (169, .int .i64 0)]) (by kernel_rfl) (fun _ h => h) ?_
        refine W.block ?_
        obtain ⟨hl1, h⟩ := chk_some h
        refine W.weak [0, 3, 11, 12, 19, 167, 168, 169] [] [] [] (env' := [(0, .int .i64 a1), (3, l35 none a4), (11, .ptr (.agg [.int .i64 e21.f_Dep.f_From, .int .i64 e21.f_Dep.f_To])), (12, .bool w24.1), (19, .bool true), (167, l33 (some 167) w52), (168, .int .i64 (w52.length : Int)), (169, .int .i64 ((0 : Nat) : Int))]) (by kernel_rfl) ?_
        refine W.range (σ := (Bool)) w52 (fun k1 s => [(0, .int .i64 a1), (3, l35 none a4), (11, .ptr (.agg [.int .i64 e21.f_Dep.f_From, .int .i64 e21.f_Dep.f_To])), (12, .bool w24.1), (19, .bool s), (167, l33 (some 167) w52), (168, .int .i64 (w52.length : Int)), (169, .int .i64 (k1 : Int))]) (fun r0 k0 s => lw1_DependSound_l1 a1 a4 (lw1_DependSound_j50 fuel a1 a4 e21 w24) r0 k0 s = some r) (fun s h => ?_) (fun x1 r1 k1 s hx1 hk1 h hN1 => ?_) true h
        · obtain ⟨v53, rfl⟩ : ∃ x, x = s := ⟨s, rfl⟩
          have h : lw1_DependSound_l1 a1 a4 (lw1_DependSound_j50 fuel a1 a4 e21 w24) [] (w52).length v53 = some r := h
          rw [lw1_DependSound_l1.eq_1] at h
          refine W.seq ?_
          refine W.region (by kernel_rfl) ?_
          refine WO.pureK 0 (some (.bool (decide (((w52).length : Int) < (w52.length : Int))))) (v := .bool false) (by kernel_rfl) (by rw [lt_false (l := w52)]) (e1 := [(0, .int .i64 a1), (3, l35 none a4), (11, .ptr (.agg [.int .i64 e21.f_Dep.f_From, .int .i64 e21.f_Dep.f_To])), (12, .bool w24.1), (19, .bool v53), (167, l33 (some 167) w52), (168, .int .i64 (w52.length : Int)), (169, .int .i64 ((w52).length : Int)), (170, .bool false)]) (by kernel_rfl) ?_
          refine WO.fin ([0, 3, 11, 12, 19, 167, 168, 169, 170]) [] [] [] (e2 := [(0, .int .i64 a1), (3, l35 none a4), (11, .ptr (.agg [.int .i64 e21.f_Dep.f_From, .int .i64 e21.f_Dep.f_To])), (12, .bool w24.1), (19, .bool v53), (167, l33 (some 167) w52), (168, .int .i64 (w52.length : Int)), (169, .int .i64 ((w52).length : Int)), (170, .bool false)]) (by kernel_rfl) (fun _ h => h) ?_
          refine W.seq ?_
          refine W.condB false (by kernel_rfl) (fun h => Bool.noConfusion h) (fun _ => ?_)
          refine W.exit ?_
          refine W.weak [0, 3, 11, 12, 19] [] [] [] (env' := [(0, .int .i64 a1), (3, l35 none a4), (11, .ptr (.agg [.int .i64 e21.f_Dep.f_From, .int .i64 e21.f_Dep.f_To])), (12, .bool w24.1), (19, .bool v53)]) (by kernel_rfl) ?_
          exact hK50 v53 h
        · obtain ⟨v53, rfl⟩ : ∃ x, x = s := ⟨s, rfl⟩
          have h : lw1_DependSound_l1 a1 a4 (lw1_DependSound_j50 fuel a1 a4 e21 w24) (x1 :: r1) k1 v53 = some r := h
          rw [lw1_DependSound_l1.eq_2] at h
          refine W.seq ?_
          refine W.region (by kernel_rfl) ?_
          refine WO.pureK 0 (some (.bool (decide ((k1 : Int) < (w52.length : Int))))) (v := .bool true) (by kernel_rfl) (by rw [lt_true hk1]) (e1 := [(0, .int .i64 a1), (3, l35 none a4), (11, .ptr (.agg [.int .i64 e21.f_Dep.f_From, .int .i64 e21.f_Dep.f_To])), (12, .bool w24.1), (19, .bool v53), (167, l33 (some 167) w52), (168, .int .i64 (w52.length : Int)), (169, .int .i64 (k1 : Int)), (170, .bool true)]) (by kernel_rfl) ?_
          refine WO.fin ([0, 3, 11, 12, 19, 167, 168, 169, 170]) [] [] [] (e2 := [(0, .int .i64 a1), (3, l35 none a4), (11, .ptr (.agg [.int .i64 e21.f_Dep.f_From, .int .i64 e21.f_Dep.f_To])), (12, .bool w24.1), (19, .bool v53), (167, l33 (some 167) w52), (168, .int .i64 (w52.length : Int)), (169, .int .i64 (k1 : Int)), (170, .bool true)]) (by kernel_rfl) (fun _ h => h) ?_
          refine W.seq ?_
          refine W.condB true (by kernel_rfl) (fun _ => ?_) (fun h => Bool.noConfusion h)
          refine W.skip ?_
          refine W.weak [0, 3, 11, 12, 19, 167, 168, 169] [] [] [] (env' := [(0, .int .i64 a1), (3, l35 none a4), (11, .ptr (.agg [.int .i64 e21.f_Dep.f_From, .int .i64 e21.f_Dep.f_To])), (12, .bool w24.1), (19, .bool v53), (167, l33 (some 167) w52), (168, .int .i64 (w52.length : Int)), (169, .int .i64 (k1 : Int))]) (by kernel_rfl) ?_
          refine W.seq ?_
          refine W.join (σ := (Bool)) (fun s => [(0, .int .i64 a1), (3, l35 none a4), (11, .ptr (.agg [.int .i64 e21.f_Dep.f_From, .int .i64 e21.f_Dep.f_To])), (12, .bool w24.1), (19, .bool s), (167, l33 (some 167) w52), (168, .int .i64 (w52.length : Int)), (169, .int .i64 (k1 : Int))]) (fun s => (lw1_DependSound_j54 (lw1_DependSound_l1 a1 a4 (lw1_DependSound_j50 fuel a1 a4 e21 w24) r1 (k1 + 1))) s = some r) (fun s h => ?_) (fun hK54 => ?_)
          · obtain ⟨v59, rfl⟩ : ∃ x, x = s := ⟨s, rfl⟩
            have h : (lw1_DependSound_j54 (lw1_DependSound_l1 a1 a4 (lw1_DependSound_j50 fuel a1 a4 e21 w24) r1 (k1 + 1))) v59 = some r := h
            unfold lw1_DependSound_j54 at h
            refine W.region (by kernel_rfl) ?_
            refine WO.pureK 0 (some (.int .i64 (IntKind.wrap .i64 ((k1 : Int) + 1)))) (v := .int .i64 ((k1 + 1 : Nat) : Int)) (by kernel_rfl) (by rw [wrap_succ hl1 hk1]) (e1 := [(0, .int .i64 a1), (3, l35 none a4), (11, .ptr (.agg [.int .i64 e21.f_Dep.f_From, .int .i64 e21.f_Dep.f_To])), (12, .bool w24.1), (19, .bool v59), (167, l33 (some 167) w52), (168, .int .i64 (w52.length : Int)), (169, .int .i64 (k1 : Int)), (189, .int .i64 ((k1 + 1 : Nat) : Int))]) (by kernel_rfl) ?_
            refine WO.fin [0, 3, 11, 12, 19, 167, 168, 169] [] [] [] (e2 := [(0, .int .i64 a1), (3, l35 none a4), (11, .ptr (.agg [.int .i64 e21.f_Dep.f_From, .int .i64 e21.f_Dep.f_To])), (12, .bool w24.1), (19, .bool v59), (167, l33 (some 167) w52), (168, .int .i64 (w52.length : Int)), (169, .int .i64 ((k1 + 1 : Nat) : Int))]) (by kernel_rfl) (fun _ h => h) ?_
            exact hN1 v59 h
          refine W.block ?_
          refine W.seq ?_
          refine W.region (by kernel_rfl) ?_
          refine WO.pureK 0 (if (0 : Int) ≤ (k1 : Int) then ((List.map e_dpDep w52)[Int.toNat (k1 : Int)]?).map AV.ptr else none) (v := .ptr (.agg [.int .i64 x1.f_From, .int .i64 x1.f_To])) (by kernel_rfl) (idx_nat (f := e_dpDep) hx1) (e1 := [(0, .int .i64 a1), (3, l35 none a4), (11, .ptr (.agg [.int .i64 e21.f_Dep.f_From, .int .i64 e21.f_Dep.f_To])), (12, .bool w24.1), (19, .bool v53), (167, l33 (some 167) w52), (168, .int .i64 (w52.length : Int)), (169, .int .i64 (k1 : Int)), (171, .ptr (.agg [.int .i64 x1.f_From, .int .i64 x1.f_To]))]) (by kernel_rfl) ?_
          refine WO.fin [0, 3, 11, 12, 19, 21, 167, 168, 169] [21] [] [] (e2 := [(0, .int .i64 a1), (3, l35 none a4), (11, .ptr (.agg [.int .i64 e21.f_Dep.f_From, .int .i64 e21.f_Dep.f_To])), (12, .bool w24.1), (19, .bool v53), (21, .ptr (.agg [.int .i64 x1.f_From, .int .i64 x1.f_To])), (167, l33 (some 167) w52), (168, .int .i64 (w52.length : Int)), (169, .int .i64 (k1 : Int))]) (by kernel_rfl) (fun _ h => h) ?_
          refine W.seq ?_
          refine W.region (by kernel_rfl) ?_
          obtain ⟨w57, hw57, h⟩ := bind_some h
          refine WO.callK 2 (F := 42) (l := [l35 none a4]) (C := []) (r := l35 (some 1) w57) (by kernel_rfl) (by kernel_rfl) (run_lw1_few a4 w57 hw57) (e1 := [(0, .int .i64 a1), (3, l35 none a4), (11, .ptr (.agg [.int .i64 e21.f_Dep.f_From, .int .i64 e21.f_Dep.f_To])), (12, .bool w24.1), (19, .bool v53), (21, .ptr (.agg [.int .i64 x1.f_From, .int .i64 x1.f_To])), (167, l33 (some 167) w52), (168, .int .i64 (w52.length : Int)), (169, .int .i64 (k1 : Int)), (174, .int .i64 a1), (175, l35 none a4), (176, l35 none w57)]) (by kernel_rfl) ?_
          obtain ⟨w58, hw58, h⟩ := bind_some h
          refine WO.callK 1 (F := 41) (l := [.int .i64 a1, l35 none w57, .agg [.int .i64 x1.f_From, .int .i64 x1.f_To]]) (C := []) (r := .tup [.bool w58.1, .int .i64 w58.2]) (by kernel_rfl) (by kernel_rfl) (run_dp_Holds a1 w57 x1 w58 hw58) (e1 := [(0, .int .i64 a1), (3, l35 none a4), (11, .ptr (.agg [.int .i64 e21.f_Dep.f_From, .int .i64 e21.f_Dep.f_To])), (12, .bool w24.1), (19, .bool v53), (21, .ptr (.agg [.int .i64 x1.f_From, .int .i64 x1.f_To])), (167, l33 (some 167) w52), (168, .int .i64 (w52.length : Int)), (169, .int .i64 (k1 : Int)), (174, .int .i64 a1), (175, l35 none a4), (176, l35 none w57), (177, .agg [.int .i64 x1.f_From, .int .i64 x1.f_To]), (178, .tup [.bool w58.1, .int .i64 w58.2])]) (by kernel_rfl) ?_
          refine WO.fin [0, 3, 11, 12, 19, 22, 23, 167, 168, 169] [] [] [] (e2 := [(0, .int .i64 a1), (3, l35 none a4), (11, .ptr (.agg [.int .i64 e21.f_Dep.f_From, .int .i64 e21.f_Dep.f_To])), (12, .bool w24.1), (19, .bool v53), (22, .bool w58.1), (23, .int .i64 w58.2), (167, l33 (some 167) w52), (168, .int .i64 (w52.length : Int)), (169, .int .i64 (k1 : Int))]) (by kernel_rfl) (fun _ h => h) ?_
          refine W.region (by kernel_rfl) ?_
          refine WO.boolK 2 (fun b => [(0, .int .i64 a1), (3, l35 none a4), (11, .ptr (.agg [.int .i64 e21.f_Dep.f_From, .int .i64 e21.f_Dep.f_To])), (12, .bool w24.1), (19, .bool b), (22, .bool w58.1), (23, .int .i64 w58.2), (167, l33 (some 167) w52), (168, .int .i64 (w52.length : Int)), (169, .int .i64 (k1 : Int)), (181, .bool b), (182, .bool b)]) v53 (by kernel_rfl) (fun hb => ?_) (fun hb => ?_)
          · replace h := cond_t hb h
            refine WO.boolK 3 (fun b => [(0, .int .i64 a1), (3, l35 none a4), (11, .ptr (.agg [.int .i64 e21.f_Dep.f_From, .int .i64 e21.f_Dep.f_To])), (12, .bool w24.1), (19, .bool true), (22, .bool b), (23, .int .i64 w58.2), (167, l33 (some 167) w52), (168, .int .i64 (w52.length : Int)), (169, .int .i64 (k1 : Int)), (181, .bool true), (182, .bool true), (183, .bool b), (184, .bool b), (185, .bool b)]) w58.1 (by kernel_rfl) (fun hb => ?_) (fun hb => ?_)
            · replace h := cond_t hb h
              refine WO.fin [0, 3, 11, 12, 19, 167, 168, 169] [] [] [] (e2 := [(0, .int .i64 a1), (3, l35 none a4), (11, .ptr (.agg [.int .i64 e21.f_Dep.f_From, .int .i64 e21.f_Dep.f_To])), (12, .bool w24.1), (19, .bool (w58.2 == 0)), (167, l33 (some 167) w52), (168, .int .i64 (w52.length : Int)), (169, .int .i64 (k1 : Int))]) (by kernel_rfl) (fun _ h => h) ?_
              exact hK54 (w58.2 == 0) h
            replace h := cond_f hb h
            refine WO.fin [0, 3, 11, 12, 19, 167, 168, 169] [] [] [] (e2 := [(0, .int .i64 a1), (3, l35 none a4), (11, .ptr (.agg [.int .i64 e21.f_Dep.f_From, .int .i64 e21.f_Dep.f_To])), (12, .bool w24.1), (19, .bool false), (167, l33 (some 167) w52), (168, .int .i64 (w52.length : Int)), (169, .int .i64 (k1 : Int))]) (by kernel_rfl) (fun _ h => h) ?_
            exact hK54 false h
          replace h := cond_f hb h
          refine WO.fin [0, 3, 11, 12, 19, 167, 168, 169] [] [] [] (e2 := [(0, .int .i64 a1), (3, l35 none a4), (11, .ptr (.agg [.int .i64 e21.f_Dep.f_From, .int .i64 e21.f_Dep.f_To])), (12, .bool w24.1), (19, .bool false), (167, l33 (some 167) w52), (168, .int .i64 (w52.length : Int)), (169, .int .i64 (k1 : Int))]) (by kernel_rfl) (fun _ h => h) ?_
          exact hK54 false h
      refine W.seq ?_
      refine W.regT [0, 1, 3, 11, 12, 13, 135] [] [] [] (e2 := [(0, .int .i64 a1), (1, l40 none a2), (3, l35 none a4), (11, .ptr (.agg [.int .i64 e21.f_Dep.f_From, .int .i64 e21.f_Dep.f_To])), (12, .bool w24.1), (13, l58 none w27.1), (135, .bool w24.1)]) (by kernel_rfl) (by kernel_rfl) (fun _ h => h) ?_
      refine W.condB w24.1 (by kernel_rfl) (fun hb => ?_) (fun hb => ?_)
      · replace h := cond_t hb h
        refine W.seq ?_
        refine W.region (by kernel_rfl) ?_
        obtain ⟨w43, hw43, h⟩ := bind_some h
        refine WO.callK 2 (F := 20) (l := [l40 none a2]) (C := []) (r := l33 (some 1) w43) (by kernel_rfl) (by kernel_rfl) (run_lw1_deps a2 w43 hw43) (e1 := [(0, .int .i64 a1), (1, l40 none a2), (3, l35 none a4), (11, .ptr (.agg [.int .i64 e21.f_Dep.f_From, .int .i64 e21.f_Dep.f_To])), (12, .bool w24.1), (13, l58 none w27.1), (135, .bool w24.1), (137, .int .i64 a1), (138, l40 none a2), (139, l33 (some 139) w43)]) (by kernel_rfl) ?_
        obtain ⟨w44, hw44, h⟩ := bind_some h
        refine WO.callK 1 (F := 26) (l := [.int .i64 a1, l33 none w43, l58 none w27.1]) (C := []) (r := .tup [.bool w44.1, .int .i64 w44.2]) (by kernel_rfl) (by kernel_rfl) (run_dp_Check a1 w43 w27.1 w44 hw44) (e1 := [(0, .int .i64 a1), (1, l40 none a2), (3, l35 none a4), (11, .ptr (.agg [.int .i64 e21.f_Dep.f_From, .int .i64 e21.f_Dep.f_To])), (12, .bool w24.1), (13, l58 none w27.1), (135, .bool w24.1), (137, .int .i64 a1), (138, l40 none a2), (139, l33 (some 139) w43), (140, l58 none w27.1), (141, .tup [.bool w44.1, .int .i64 w44.2])]) (by kernel_rfl) ?_
        refine WO.fin [0, 1, 3, 11, 12, 13, 17, 18] [] [] [] (e2 := [(0, .int .i64 a1), (1, l40 none a2), (3, l35 none a4), (11, .ptr (.agg [.int .i64 e21.f_Dep.f_From, .int .i64 e21.f_Dep.f_To])), (12, .bool w24.1), (13, l58 none w27.1), (17, .bool w44.1), (18, .int .i64 w44.2)]) (by kernel_rfl) (fun _ h => h) ?_
        refine W.seq ?_
        refine W.join (σ := (Bool)) (fun s => [(0, .int .i64 a1), (1, l40 none a2), (3, l35 none a4), (11, .ptr (.agg [.int .i64 e21.f_Dep.f_From, .int .i64 e21.f_Dep.f_To])), (12, .bool w24.1), (165, .bool s)]) (fun s => (lw1_DependSound_j45 (lw1_DependSound_j40 fuel a1 a2 a4 e21 w24)) s = some r) (fun s h => ?_) (fun hK45 => ?_)
        · obtain ⟨v47, rfl⟩ : ∃ x, x = s := ⟨s, rfl⟩
          have h : (lw1_DependSound_j45 (lw1_DependSound_j40 fuel a1 a2 a4 e21 w24)) v47 = some r := h
          unfold lw1_DependSound_j45 at h
          refine W.condB v47 (by kernel_rfl) (fun hb => ?_) (fun hb => ?_)
          · replace h := cond_t hb h
            refine W.seq ?_
            refine W.regT [8] [] [] [] (e2 := [(8, .bool false)]) (by kernel_rfl) (by kernel_rfl) (fun _ h => h) ?_
            refine W.weak [8] [] [] [] (env' := [(8, .bool false)]) (by kernel_rfl) ?_
            have hr : aresults Try.prog Try.f13 [(8, .bool false)] = some (.bool false) := by kernel_rfl
            cases h
            exact W.ret hr
          replace h := cond_f hb h
          refine W.skip ?_
          refine W.weak [0, 1, 3, 11, 12] [] [] [] (env' := [(0, .int .i64 a1), (1, l40 none a2), (3, l35 none a4), (11, .ptr (.agg [.int .i64 e21.f_Dep.f_From, .int .i64 e21.f_Dep.f_To])), (12, .bool w24.1)]) (by kernel_rfl) ?_
          exact hK40 () h
        refine W.region (by kernel_rfl) ?_
        refine WO.boolK 3 (fun b => [(0, .int .i64 a1), (1, l40 none a2), (3, l35 none a4), (11, .ptr (.agg [.int .i64 e21.f_Dep.f_From, .int .i64 e21.f_Dep.f_To])), (12, .bool w24.1), (13, l58 none w27.1), (17, .bool w44.1), (18, .int .i64 w44.2), (144, .bool w44.1), (145, .bool b), (146, .bool b)]) (!w44.1) (by kernel_rfl) (fun hb => ?_) (fun hb => ?_)
        · replace h := cond_t hb h
          refine WO.fin [0, 1, 3, 11, 12, 165] [] [] [] (e2 := [(0, .int .i64 a1), (1, l40 none a2), (3, l35 none a4), (11, .ptr (.agg [.int .i64 e21.f_Dep.f_From, .int .i64 e21.f_Dep.f_To])), (12, .bool w24.1), (165, .bool true)]) (by kernel_rfl) (fun _ h => h) ?_
          exact hK45 true h
        replace h := cond_f hb h
        refine WO.boolK 4 (fun b => [(0, .int .i64 a1), (1, l40 none a2), (3, l35 none a4), (11, .ptr (.agg [.int .i64 e21.f_Dep.f_From, .int .i64 e21.f_Dep.f_To])), (12, .bool w24.1), (13, l58 none w27.1), (17, .bool w44.1), (18, .int .i64 w44.2), (144, .bool w44.1), (145, .bool false), (146, .bool false), (147, .int .i64 w44.2), (148, .bool b), (149, .bool b), (150, .bool b)]) (w44.2 != 0) (by kernel_rfl) (fun hb => ?_) (fun hb => ?_)
        · replace h := cond_t hb h
          refine WO.fin [0, 1, 3, 11, 12, 165] [] [] [] (e2 := [(0, .int .i64 a1), (1, l40 none a2), (3, l35 none a4), (11, .ptr (.agg [.int .i64 e21.f_Dep.f_From, .int .i64 e21.f_Dep.f_To])), (12, .bool w24.1), (165, .bool true)]) (by kernel_rfl) (fun _ h => h) ?_
          exact hK45 true h
        replace h := cond_f hb h
        refine WO.pureK 1 (some (.int .i64 ((List.map e_dpStep w27.1).length : Int))) (v := .int .i64 (w27.1.length : Int)) (by kernel_rfl) (by rw [List.length_map]) (e1 := [(0, .int .i64 a1), (1, l40 none a2), (3, l35 none a4), (11, .ptr (.agg [.int .i64 e21.f_Dep.f_From, .int .i64 e21.f_Dep.f_To])), (12, .bool w24.1), (13, l58 none w27.1), (17, .bool w44.1), (18, .int .i64 w44.2), (144, .bool w44.1), (145, .bool false), (146, .bool false), (147, .int .i64 w44.2), (148, .bool false), (149, .bool false), (150, .bool false), (151, l58 none w27.1), (152, .int .i64 (w27.1.length : Int))]) (by kernel_rfl) ?_
        refine WO.boolK 3 (fun b => [(0, .int .i64 a1), (1, l40 none a2), (3, l35 none a4), (11, .ptr (.agg [.int .i64 e21.f_Dep.f_From, .int .i64 e21.f_Dep.f_To])), (12, .bool w24.1), (13, l58 none w27.1), (17, .bool w44.1), (18, .int .i64 w44.2), (144, .bool w44.1), (145, .bool false), (146, .bool false), (147, .int .i64 w44.2), (148, .bool false), (149, .bool false), (150, .bool false), (151, l58 none w27.1), (152, .int .i64 (w27.1.length : Int)), (153, .bool b), (154, .bool b), (155, .bool b)]) ((w27.1.length : Int) == 0) (by kernel_rfl) (fun hb => ?_) (fun hb => ?_)
        · replace h := cond_t hb h
          refine WO.fin [0, 1, 3, 11, 12, 165] [] [] [] (e2 := [(0, .int .i64 a1), (1, l40 none a2), (3, l35 none a4), (11, .ptr (.agg [.int .i64 e21.f_Dep.f_From, .int .i64 e21.f_Dep.f_To])), (12, .bool w24.1), (165, .bool true)]) (by kernel_rfl) (fun _ h => h) ?_
          exact hK45 true h
        replace h := cond_f hb h
        refine WO.pureK 2 (some (.int .i64 ((List.map e_dpStep w27.1).length : Int))) (v := .int .i64 (w27.1.length : Int)) (by kernel_rfl) (by rw [List.length_map]) (e1 := [(0, .int .i64 a1), (1, l40 none a2), (3, l35 none a4), (11, .ptr (.agg [.int .i64 e21.f_Dep.f_From, .int .i64 e21.f_Dep.f_To])), (12, .bool w24.1), (13, l58 none w27.1), (17, .bool w44.1), (18, .int .i64 w44.2), (144, .bool w44.1), (145, .bool false), (146, .bool false), (147, .int .i64 w44.2), (148, .bool false), (149, .bool false), (150, .bool false), (151, l58 none w27.1), (152, .int .i64 (w27.1.length : Int)), (153, .bool false), (154, .bool false), (155, .bool false), (156, l58 none w27.1), (157, l58 none w27.1), (158, .int .i64 (w27.1.length : Int))]) (by kernel_rfl) ?_
        obtain ⟨e46, he46, h⟩ := bind_some h
        refine WO.pureK 1 (if (0 : Int) ≤ (IntKind.wrap .i64 ((w27.1.length : Int) - 1)) then ((List.map e_dpStep w27.1)[Int.toNat (IntKind.wrap .i64 ((w27.1.length : Int) - 1))]?).map AV.ptr else none) (v := .ptr (.agg [.int .i64 e46.f_Rule, .int .i64 e46.f_I, .int .i64 e46.f_J, .int .i64 e46.f_Dep.f_From, .int .i64 e46.f_Dep.f_To])) (by kernel_rfl) (idx_av (f := e_dpStep) he46) (e1 := [(0, .int .i64 a1), (1, l40 none a2), (3, l35 none a4), (11, .ptr (.agg [.int .i64 e21.f_Dep.f_From, .int .i64 e21.f_Dep.f_To])), (12, .bool w24.1), (13, l58 none w27.1), (17, .bool w44.1), (18, .int .i64 w44.2), (144, .bool w44.1), (145, .bool false), (146, .bool false), (147, .int .i64 w44.2), (148, .bool false), (149, .bool false), (150, .bool false), (151, l58 none w27.1), (152, .int .i64 (w27.1.length : Int)), (153, .bool false), (154, .bool false), (155, .bool false), (156, l58 none w27.1), (157, l58 none w27.1), (158, .int .i64 (w27.1.length : Int)), (159, .int .i64 (IntKind.wrap .i64 ((w27.1.length : Int) - 1))), (160, .ptr (.agg [.int .i64 e46.f_Rule, .int .i64 e46.f_I, .int .i64 e46.f_J, .int .i64 e46.f_Dep.f_From, .int .i64 e46.f_Dep.f_To]))]) (by kernel_rfl) ?_
        refine WO.fin [0, 1, 3, 11, 12, 165] [] [] [] (e2 := [(0, .int .i64 a1), (1, l40 none a2), (3, l35 none a4), (11, .ptr (.agg [.int .i64 e21.f_Dep.f_From, .int .i64 e21.f_Dep.f_To])), (12, .bool w24.1), (165, .bool (!((e46.f_Dep.f_From == e21.f_Dep.f_From) && ((e46.f_Dep.f_To == e21.f_Dep.f_To) && true))))]) (by kernel_rfl) (fun _ h => h) ?_
        exact hK45 (!((e46.f_Dep.f_From == e21.f_Dep.f_From) && ((e46.f_Dep.f_To == e21.f_Dep.f_To) && true))) h
      replace h := cond_f hb h
      refine W.skip ?_
      refine W.weak [0, 1, 3, 11, 12] [] [] [] (env' := [(0, .int .i64 a1), (1, l40 none a2), (3, l35 none a4), (11, .ptr (.agg [.int .i64 e21.f_Dep.f_From, .int .i64 e21.f_Dep.f_To])), (12, .bool w24.1)]) (by kernel_rfl) ?_
      exact hK40 () h
    refine W.region (by kernel_rfl) ?_
    refine WO.boolK 2 (fun b => [(0, .int .i64 a1), (1, l40 none a2), (3, l35 none a4), (9, .bool b), (11, .ptr (.agg [.int .i64 e21.f_Dep.f_From, .int .i64 e21.f_Dep.f_To])), (12, .bool w24.1), (13, l58 none w27.1), (14, .int .i64 w27.2), (16, .int .i64 w30.2), (106, .bool b), (107, .bool b)]) w9.1 (by kernel_rfl) (fun hb => ?_) (fun hb => ?_)
    · replace h := cond_t hb h
      refine WO.boolK 4 (fun b => [(0, .int .i64 a1), (1, l40 none a2), (3, l35 none a4), (9, .bool true), (11, .ptr (.agg [.int .i64 e21.f_Dep.f_From, .int .i64 e21.f_Dep.f_To])), (12, .bool w24.1), (13, l58 none w27.1), (14, .int .i64 w27.2), (16, .int .i64 w30.2), (106, .bool true), (107, .bool true), (108, .bool w24.1), (109, .bool b), (110, .bool b), (111, .bool b)]) (!w24.1) (by kernel_rfl) (fun hb => ?_) (fun hb => ?_)
      · replace h := cond_t hb h
        refine WO.fin [0, 1, 3, 11, 12, 13, 134] [] [] [] (e2 := [(0, .int .i64 a1), (1, l40 none a2), (3, l35 none a4), (11, .ptr (.agg [.int .i64 e21.f_Dep.f_From, .int .i64 e21.f_Dep.f_To])), (12, .bool w24.1), (13, l58 none w27.1), (134, .bool true)]) (by kernel_rfl) (fun _ h => h) ?_
        exact hK37 true h
      replace h := cond_f hb h
      refine WO.boolK 6 (fun b => [(0, .int .i64 a1), (1, l40 none a2), (3, l35 none a4), (9, .bool true), (11, .ptr (.agg [.int .i64 e21.f_Dep.f_From, .int .i64 e21.f_Dep.f_To])), (12, .bool w24.1), (13, l58 none w27.1), (14, .int .i64 w27.2), (16, .int .i64 w30.2), (106, .bool true), (107, .bool true), (108, .bool w24.1), (109, .bool false), (110, .bool false), (111, .bool false), (112, .bool w24.1), (113, .int .i64 w27.2), (114, .bool (w27.2 == 0)), (115, .bool b), (116, .bool b), (117, .bool b)]) (!(w24.1 == (w27.2 == 0))) (by kernel_rfl) (fun hb => ?_) (fun hb => ?_)
      · replace h := cond_t hb h
        refine WO.fin [0, 1, 3, 11, 12, 13, 134] [] [] [] (e2 := [(0, .int .i64 a1), (1, l40 none a2), (3, l35 none a4), (11, .ptr (.agg [.int .i64 e21.f_Dep.f_From, .int .i64 e21.f_Dep.f_To])), (12, .bool w24.1), (13, l58 none w27.1), (134, .bool true)]) (by kernel_rfl) (fun _ h => h) ?_
        exact hK37 true h
      replace h := cond_f hb h
      refine WO.boolK 6 (fun b => [(0, .int .i64 a1), (1, l40 none a2), (3, l35 none a4), (9, .bool true), (11, .ptr (.agg [.int .i64 e21.f_Dep.f_From, .int .i64 e21.f_Dep.f_To])), (12, .bool w24.1), (13, l58 none w27.1), (14, .int .i64 w27.2), (16, .int .i64 w30.2), (106, .bool true), (107, .bool true), (108, .bool w24.1), (109, .bool false), (110, .bool false), (111, .bool false), (112, .bool w24.1), (113, .int .i64 w27.2), (114, .bool (w27.2 == 0)), (115, .bool false), (116, .bool false), (117, .bool false), (118, .bool w24.1), (119, .int .i64 w30.2), (120, .bool (w30.2 == 5)), (121, .bool b), (122, .bool b), (123, .bool b)]) (!(w24.1 == (w30.2 == 5))) (by kernel_rfl) (fun hb => ?_) (fun hb => ?_)
      · replace h := cond_t hb h
        refine WO.fin [0, 1, 3, 11, 12, 13, 134] [] [] [] (e2 := [(0, .int .i64 a1), (1, l40 none a2), (3, l35 none a4), (11, .ptr (.agg [.int .i64 e21.f_Dep.f_From, .int .i64 e21.f_Dep.f_To])), (12, .bool w24.1), (13, l58 none w27.1), (134, .bool true)]) (by kernel_rfl) (fun _ h => h) ?_
        exact hK37 true h
      replace h := cond_f hb h
      refine WO.boolK 3 (fun b => [(0, .int .i64 a1), (1, l40 none a2), (3, l35 none a4), (9, .bool true), (11, .ptr (.agg [.int .i64 e21.f_Dep.f_From, .int .i64 e21.f_Dep.f_To])), (12, .bool w24.1), (13, l58 none w27.1), (14, .int .i64 w27.2), (16, .int .i64 w30.2), (106, .bool true), (107, .bool true), (108, .bool w24.1), (109, .bool false), (110, .bool false), (111, .bool false), (112, .bool w24.1), (113, .int .i64 w27.2), (114, .bool (w27.2 == 0)), (115, .bool false), (116, .bool false), (117, .bool false), (118, .bool w24.1), (119, .int .i64 w30.2), (120, .bool (w30.2 == 5)), (121, .bool false), (122, .bool false), (123, .bool false), (124, .bool w24.1), (125, .bool b), (126, .bool b)]) (!w24.1) (by kernel_rfl) (fun hb => ?_) (fun hb => ?_)
      · replace h := cond_t hb h
        refine WO.boolK 3 (fun b => [(0, .int .i64 a1), (1, l40 none a2), (3, l35 none a4), (9, .bool true), (11, .ptr (.agg [.int .i64 e21.f_Dep.f_From, .int .i64 e21.f_Dep.f_To])), (12, .bool w24.1), (13, l58 none w27.1), (14, .int .i64 w27.2), (16, .int .i64 w30.2), (106, .bool true), (107, .bool true), (108, .bool w24.1), (109, .bool false), (110, .bool false), (111, .bool false), (112, .bool w24.1), (113, .int .i64 w27.2), (114, .bool (w27.2 == 0)), (115, .bool false), (116, .bool false), (117, .bool false), (118, .bool w24.1), (119, .int .i64 w30.2), (120, .bool (w30.2 == 5)), (121, .bool false), (122, .bool false), (123, .bool false), (124, .bool w24.1), (125, .bool true), (126, .bool true), (127, .int .i64 w27.2), (128, .bool b), (129, .bool b)]) (w27.2 != 5) (by kernel_rfl) (fun hb => ?_) (fun hb => ?_)
        · replace h := cond_t hb h
          refine WO.fin [0, 1, 3, 11, 12, 13, 134] [] [] [] (e2 := [(0, .int .i64 a1), (1, l40 none a2), (3, l35 none a4), (11, .ptr (.agg [.int .i64 e21.f_Dep.f_From, .int .i64 e21.f_Dep.f_To])), (12, .bool w24.1), (13, l58 none w27.1), (134, .bool true)]) (by kernel_rfl) (fun _ h => h) ?_
          exact hK37 true h
        replace h := cond_f hb h
        refine WO.fin [0, 1, 3, 11, 12, 13, 134] [] [] [] (e2 := [(0, .int .i64 a1), (1, l40 none a2), (3, l35 none a4), (11, .ptr (.agg [.int .i64 e21.f_Dep.f_From, .int .i64 e21.f_Dep.f_To])), (12, .bool w24.1), (13, l58 none w27.1), (134, .bool (w30.2 != 0))]) (by kernel_rfl) (fun _ h => h) ?_
        exact hK37 (w30.2 != 0) h
      replace h := cond_f hb h
      refine WO.fin [0, 1, 3, 11, 12, 13, 134] [] [] [] (e2 := [(0, .int .i64 a1), (1, l40 none a2), (3, l35 none a4), (11, .ptr (.agg [.int .i64 e21.f_Dep.f_From, .int .i64 e21.f_Dep.f_To])), (12, .bool w24.1), (13, l58 none w27.1), (134, .bool false)]) (by kernel_rfl) (fun _ h => h) ?_
      exact hK37 false h
    replace h := cond_f hb h
    refine WO.boolK 10 (fun b => [(0, .int .i64 a1), (1, l40 none a2), (3, l35 none a4), (9, .bool false), (11, .ptr (.agg [.int .i64 e21.f_Dep.f_From, .int .i64 e21.f_Dep.f_To])), (12, .bool w24.1), (13, l58 none w27.1), (14, .int .i64 w27.2), (16, .int .i64 w30.2), (106, .bool false), (107, .bool false), (108, .und), (109, .und), (110, .bool false), (111, .bool false), (112, .bool w24.1), (113, .int .i64 w27.2), (114, .bool (w27.2 == 0)), (115, .bool b), (116, .bool b), (117, .bool b)]) (!(w24.1 == (w27.2 == 0))) (by kernel_rfl) (fun hb => ?_) (fun hb => ?_)
    · replace h := cond_t hb h
      refine WO.fin [0, 1, 3, 11, 12, 13, 134] [] [] [] (e2 := [(0, .int .i64 a1), (1, l40 none a2), (3, l35 none a4), (11, .ptr (.agg [.int .i64 e21.f_Dep.f_From, .int .i64 e21.f_Dep.f_To])), (12, .bool w24.1), (13, l58 none w27.1), (134, .bool true)]) (by kernel_rfl) (fun _ h => h) ?_
      exact hK37 true h
    replace h := cond_f hb h
    refine WO.boolK 6 (fun b => [(0, .int .i64 a1), (1, l40 none a2), (3, l35 none a4), (9, .bool false), (11, .ptr (.agg [.int .i64 e21.f_Dep.f_From, .int .i64 e21.f_Dep.f_To])), (12, .bool w24.1), (13, l58 none w27.1), (14, .int .i64 w27.2), (16, .int .i64 w30.2), (106, .bool false), (107, .bool false), (108, .und), (109, .und), (110, .bool false), (111, .bool false), (112, .bool w24.1), (113, .int .i64 w27.2), (114, .bool (w27.2 == 0)), (115, .bool false), (116, .bool false), (117, .bool false), (118, .bool w24.1), (119, .int .i64 w30.2), (120, .bool (w30.2 == 5)), (121, .bool b), (122, .bool b), (123, .bool b)]) (!(w24.1 == (w30.2 == 5))) (by kernel_rfl) (fun hb => ?_) (fun hb => ?_)
    · replace h := cond_t hb h
      refine WO.fin [0, 1, 3, 11, 12, 13, 134] [] [] [] (e2 := [(0, .int .i64 a1), (1, l40 none a2), (3, l35 none a4), (11, .ptr (.agg [.int .i64 e21.f_Dep.f_From, .int .i64 e21.f_Dep.f_To])), (12, .bool w24.1), (13, l58 none w27.1), (134, .bool true)]) (by kernel_rfl) (fun _ h => h) ?_
      exact hK37 true h
    replace h := cond_f hb h
    refine WO.boolK 3 (fun b => [(0, .int .i64 a1), (1, l40 none a2), (3, l35 none a4), (9, .bool false), (11, .ptr (.agg [.int .i64 e21.f_Dep.f_From, .int .i64 e21.f_Dep.f_To])), (12, .bool w24.1), (13, l58 none w27.1), (14, .int .i64 w27.2), (16, .int .i64 w30.2), (106, .bool false), (107, .bool false), (108, .und), (109, .und), (110, .bool false), (111, .bool false), (112, .bool w24.1), (113, .int .i64 w27.2), (114, .bool (w27.2 == 0)), (115, .bool false), (116, .bool false), (117, .bool false), (118, .bool w24.1), (119, .int .i64 w30.2), (120, .bool (w30.2 == 5)), (121, .bool false), (122, .bool false), (123, .bool false), (124, .bool w24.1), (125, .bool b), (126, .bool b)]) (!w24.1) (by kernel_rfl) (fun hb => ?_) (fun hb => ?_)
    · replace h := cond_t hb h
      refine WO.boolK 3 (fun b => [(0, .int .i64 a1), (1, l40 none a2), (3, l35 none a4), (9, .bool false), (11, .ptr (.agg [.int .i64 e21.f_Dep.f_From, .int .i64 e21.f_Dep.f_To])), (12, .bool w24.1), (13, l58 none w27.1), (14, .int .i64 w27.2), (16, .int .i64 w30.2), (106, .bool false), (107, .bool false), (108, .und), (109, .und), (110, .bool false), (111, .bool false), (112, .bool w24.1), (113, .int .i64 w27.2), (114, .bool (w27.2 == 0)), (115, .bool false), (116, .bool false), (117, .bool false), (118, .bool w24.1), (119, .int .i64 w30.2), (120, .bool (w30.2 == 5)), (121, .bool false), (122, .bool false), (123, .bool false), (124, .bool w24.1), (125, .bool true), (126, .bool true), (127, .int .i64 w27.2), (128, .bool b), (129, .bool b)]) (w27.2 != 5) (by kernel_rfl) (fun hb => ?_) (fun hb => ?_)
      · replace h := cond_t hb h
        refine WO.fin [0, 1, 3, 11, 12, 13, 134] [] [] [] (e2 := [(0, .int .i64 a1), (1, l40 none a2), (3, l35 none a4), (11, .ptr (.agg [.int .i64 e21.f_Dep.f_From, .int .i64 e21.f_Dep.f_To])), (12, .bool w24.1), (13, l58 none w27.1), (134, .bool true)]) (by kernel_rfl) (fun _ h => h) ?_
        exact hK37 true h
      replace h := cond_f hb h
      refine WO.fin [0, 1, 3, 11, 12, 13, 134] [] [] [] (e2 := [(0, .int .i64 a1), (1, l40 none a2), (3, l35 none a4), (11, .ptr (.agg [.int .i64 e21.f_Dep.f_From, .int .i64 e21.f_Dep.f_To])), (12, .bool w24.1), (13, l58 none w27.1), (134, .bool (w30.2 != 0))]) (by kernel_rfl) (fun _ h => h) ?_
      exact hK37 (w30.2 != 0) h
    replace h := cond_f hb h
    refine WO.fin [0, 1, 3, 11, 12, 13, 134] [] [] [] (e2 := [(0, .int .i64 a1), (1, l40 none a2), (3, l35 none a4), (11, .ptr (.agg [.int .i64 e21.f_Dep.f_From, .int .i64 e21.f_Dep.f_To])), (12, .bool w24.1), (13, l58 none w27.1), (134, .bool false)]) (by kernel_rfl) (fun _ h => h) ?_
    exact hK37 false h
  refine W.region (by kernel_rfl) ?_
  refine WO.boolK 3 (fun b => [(0, .int .i64 a1), (1, l40 none a2), (2, l98 none a3), (3, l35 none a4), (9, .bool w9.1), (10, .int .i64 w9.2), (34, .int .i64 w9.2), (35, .bool b), (36, .bool b)]) (w9.2 != 0) (by kernel_rfl) (fun hb => ?_) (fun hb => ?_)
  · replace h := cond_t hb h
    refine WO.fin [0, 1, 2, 3, 9, 10, 40] [] [] [] (e2 := [(0, .int .i64 a1), (1, l40 none a2), (2, l98 none a3), (3, l35 none a4), (9, .bool w9.1), (10, .int .i64 w9.2), (40, .bool true)]) (by kernel_rfl) (fun _ h => h) ?_
    exact hK11 true h
  replace h := cond_f hb h
  refine WO.pureK 1 (some (.int .i64 ((List.map e_rf1Step a3).length : Int))) (v := .int .i64 (a3.length : Int)) (by kernel_rfl) (by rw [List.length_map]) (e1 := [(0, .int .i64 a1), (1, l40 none a2), (2, l98 none a3), (3, l35 none a4), (9, .bool w9.1), (10, .int .i64 w9.2), (34, .int .i64 w9.2), (35, .bool false), (36, .bool false), (37, l98 none a3), (38, .int .i64 (a3.length : Int))]) (by kernel_rfl) ?_
  refine WO.fin [0, 1, 2, 3, 9, 10, 40] [] [] [] (e2 := [(0, .int .i64 a1), (1, l40 none a2), (2, l98 none a3), (3, l35 none a4), (9, .bool w9.1), (10, .int .i64 w9.2), (40, .bool ((a3.length : Int) == 0))]) (by kernel_rfl) (fun _ h => h) ?_
  exact hK11 ((a3.length : Int) == 0) h

end Go.AM
