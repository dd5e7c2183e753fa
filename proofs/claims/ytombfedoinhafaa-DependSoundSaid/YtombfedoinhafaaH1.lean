/- PRINTED by gen.py: pure functions and the proofs that the code computes them. No statement of the seat is proved here. -/
import Derived.Test.YtombfedoinhafaaHT
set_option maxRecDepth 100000
set_option linter.unusedVariables false
set_option linter.unusedSimpArgs false
namespace Go.AM
open Go.Proofs
def rf1_Armstrong_j6 (v31 : (List (List Int))) : Option (List (List Int)) :=
  (some v31)
def rf1_Armstrong_j10 (N1 : ((List (List Int)) → Option (List (List Int)))) (v30 : (List (List Int))) : Option (List (List Int)) :=
  (N1 v30)
def rf1_Armstrong_j17 (a1 : Int) (v9 : (List (List Int))) (K10 : ((List (List Int)) → Option (List (List Int)))) (v28 : (List Int)) : Option (List (List Int)) :=
  (chk (capOk 24 ((v9 ++ [(snap 0 (Int.toNat a1) v28)])).length) (K10 (v9 ++ [(snap 0 (Int.toNat a1) v28)])))
def rf1_Armstrong_j20 (N2 : ((List Int) → Option (List (List Int)))) (v27 : (List Int)) : Option (List (List Int)) :=
  (N2 v27)
def rf1_Armstrong_l2 (a1 : Int) (k1 : Nat) (v9 : (List (List Int))) (K17 : ((List Int) → Option (List (List Int)))) : List Nat → Nat → (List Int) → Option (List (List Int))
  | [], k2, v19 => (K17 v19)
  | x2 :: r2, k2, v19 => (chk (decide (0 ≤ (k2 : Int))) (bif ((iAnd .i64 (iShr .i64 (k1 : Int) (k2 : Int)) 1) == 0) then (chk (decide ((0 : Int) ≤ (k2 : Int) ∧ (k2 : Int) < (((Int.toNat a1) : Nat) : Int))) ((upd v19 (0 + Int.toNat (k2 : Int)) (v9.length : Int)).bind fun u25 => ((rf1_Armstrong_j20 (rf1_Armstrong_l2 a1 k1 v9 K17 r2 (k2 + 1))) u25))) else ((rf1_Armstrong_j20 (rf1_Armstrong_l2 a1 k1 v9 K17 r2 (k2 + 1))) v19)))
def rf1_Armstrong_l1 (a1 : Int) (a2 : (List rf1Dep)) (K6 : ((List (List Int)) → Option (List (List Int)))) : List Nat → Nat → (List (List Int)) → Option (List (List Int))
  | [], k1, v9 => (K6 v9)
  | x1 :: r1, k1, v9 => ((rf1_Closure a2 (k1 : Int)).bind fun w14 => (bif (w14 != (k1 : Int)) then ((rf1_Armstrong_j10 (rf1_Armstrong_l1 a1 a2 K6 r1 (k1 + 1))) v9) else (chk (mkOk 8 a1) (chk (lenOk (List.range (Int.toNat a1))) (rf1_Armstrong_l2 a1 k1 v9 (rf1_Armstrong_j17 a1 v9 (rf1_Armstrong_j10 (rf1_Armstrong_l1 a1 a2 K6 r1 (k1 + 1)))) (List.range (Int.toNat a1)) 0 (List.replicate (Int.toNat a1) 0))))))
def rf1_Armstrong (a1 : Int) (a2 : (List rf1Dep)) : Option (List (List Int)) :=
  (chk (mkOk 8 a1) (chk (decide (0 ≤ a1)) (chk (lenOk (List.range (Int.toNat (IntKind.wrap .i64 ((iShl .i64 1 a1) - 1))))) (rf1_Armstrong_l1 a1 a2 (rf1_Armstrong_j6) (List.range (Int.toNat (IntKind.wrap .i64 ((iShl .i64 1 a1) - 1)))) 0 [(List.replicate (Int.toNat a1) 0)]))))
theorem run_rf1_Armstrong (a1 : Int) (a2 : (List rf1Dep)) (r : (List (List Int))) (h : rf1_Armstrong a1 a2 = some r) : Run Try.prog (.call 35 [.int .i64 a1, l40 none a2] (l35 (some 1) r)) := by
  refine call_of_W Try.func35 rfl (by kernel_rfl) (env0 := [(0, .int .i64 a1), (1, l40 none a2)]) (by kernel_rfl) ?_
  unfold rf1_Armstrong at h
  refine W.seq ?_
  refine W.regT [0, 1] [] [] [] (e2 := [(0, .int .i64 a1), (1, l40 none a2)]) (by kernel_rfl) (by kernel_rfl) (fun _ h => h) ?_
  refine W.seq ?_
  refine W.region (by kernel_rfl) ?_
  obtain ⟨hc5, h⟩ := chk_some h
  refine WO.makeK 1 (d := 10) (e := 3) (s := 1) (bytes := 8) (m := a1) (z := (.int .i64 0)) (zs := (List.map (AV.int .i64) (List.replicate (Int.toNat a1) 0))) (env1 := [(0, .int .i64 a1), (1, l40 none a2), (9, .int .i64 a1), (10, .sb 1000010 3 1 0 (Int.toNat a1))]) (by kernel_rfl) hc5 (by first | exact rep_map | exact (rep_map (f := (AV.int .i64)))) (e1 := [(0, .int .i64 a1), (1, l40 none a2), (9, .int .i64 a1), (10, .sb 1000010 3 1 0 (Int.toNat a1)), (1000010, .obj 3 1 (List.map (AV.int .i64) (List.replicate (Int.toNat a1) 0)))]) (by kernel_rfl) ?_
  refine WO.mv [.frz 1000010] (env' := [(0, .int .i64 a1), (1, l40 none a2), (9, .int .i64 a1), (10, l3 none (List.replicate (Int.toNat a1) 0))]) ((by kernel_rfl : mvAll [(0, .int .i64 a1), (1, l40 none a2), (9, .int .i64 a1), (10, .sb 1000010 3 1 0 (Int.toNat a1)), (1000010, .obj 3 1 (List.map (AV.int .i64) (List.replicate (Int.toNat a1) 0)))] [.frz 1000010] = [(0, .int .i64 a1), (1, l40 none a2), (9, .int .i64 a1), (10, .lst 3 1 none (snapA 0 (Int.toNat a1) (List.map (AV.int .i64) (List.replicate (Int.toNat a1) 0))))]).trans (by first | (simp only [snap_map, snap_full, snap_rep]; done) | (simp only [snap_map, snap_full, snap_rep]; kernel_rfl))) ?_
  refine WO.steps 1 (e1 := [(0, .int .i64 a1), (1, l40 none a2), (9, .int .i64 a1), (10, l3 none (List.replicate (Int.toNat a1) 0)), (11, l35 (some 11) [(List.replicate (Int.toNat a1) 0)])]) (by kernel_rfl) ?_
  refine WO.fin [0, 1, 5] [] [] [] (e2 := [(0, .int .i64 a1), (1, l40 none a2), (5, l35 (some 11) [(List.replicate (Int.toNat a1) 0)])]) (by kernel_rfl) (fun _ h => h) ?_
  refine W.seq ?_
  refine W.join (σ := ((List (List Int)))) (fun s => [(5, l35 (some 10500) s)]) (fun s => (rf1_Armstrong_j6) s = some r) (fun s h => ?_) (fun hK6 => ?_)
  · obtain ⟨v31, rfl⟩ : ∃ x, x = s := ⟨s, rfl⟩
    have h : (rf1_Armstrong_j6) v31 = some r := h
    unfold rf1_Armstrong_j6 at h
    refine W.seq ?_
    refine W.regT [4] [] [] [] (e2 := [(4, l35 (some 10500) v31)]) (by kernel_rfl) (by kernel_rfl) (fun _ h => h) ?_
    refine W.weak [4] [] [] [(10500, some 1)] (env' := [(4, l35 (some 1) v31)]) (by kernel_rfl) ?_
    have hr : aresults Try.prog Try.f35 [(4, l35 (some 1) v31)] = some (l35 (some 1) v31) := by kernel_rfl
    cases h
    exact W.ret hr
  refine W.seq ?_
  refine W.region (by kernel_rfl) ?_
  obtain ⟨hc8, h⟩ := chk_some h
  refine WO.pureK 1 (if a1 < 0 then none else some (.int .i64 (iShl .i64 1 a1))) (v := .int .i64 (iShl .i64 1 a1)) (by kernel_rfl) (if_neg (not_lt_of_chk hc8)) (e1 := [(0, .int .i64 a1), (1, l40 none a2), (5, l35 (some 11) [(List.replicate (Int.toNat a1) 0)]), (12, .int .i64 a1), (13, .int .i64 (iShl .i64 1 a1))]) (by kernel_rfl) ?_
  refine WO.fin [0, 1, 5, 14, 15] [] [] [] (e2 := [(0, .int .i64 a1), (1, l40 none a2), (5, l35 (some 11) [(List.replicate (Int.toNat a1) 0)]), (14, .int .i64 (IntKind.wrap .i64 ((iShl .i64 1 a1) - 1))), (15, .int .i64 0)]) (by kernel_rfl) (fun _ h => h) ?_
  refine W.block ?_
  obtain ⟨hl1, h⟩ := chk_some h
  refine W.weak [0, 1, 5, 14, 15] [] [] [(11, some 10500)] (env' := [(0, .int .i64 a1), (1, l40 none a2), (5, l35 (some 10500) [(List.replicate (Int.toNat a1) 0)]), (14, .int .i64 (IntKind.wrap .i64 ((iShl .i64 1 a1) - 1))), (15, .int .i64 ((0 : Nat) : Int))]) (by kernel_rfl) ?_
  refine W.range (σ := ((List (List Int)))) (List.range (Int.toNat (IntKind.wrap .i64 ((iShl .i64 1 a1) - 1)))) (fun k1 s => [(0, .int .i64 a1), (1, l40 none a2), (5, l35 (some 10500) s), (14, .int .i64 (IntKind.wrap .i64 ((iShl .i64 1 a1) - 1))), (15, .int .i64 (k1 : Int))]) (fun r0 k0 s => rf1_Armstrong_l1 a1 a2 (rf1_Armstrong_j6) r0 k0 s = some r) (fun s h => ?_) (fun x1 r1 k1 s hx1 hk1 h hN1 => ?_) [(List.replicate (Int.toNat a1) 0)] h
  · obtain ⟨v9, rfl⟩ : ∃ x, x = s := ⟨s, rfl⟩
    have h : rf1_Armstrong_l1 a1 a2 (rf1_Armstrong_j6) [] ((List.range (Int.toNat (IntKind.wrap .i64 ((iShl .i64 1 a1) - 1))))).length v9 = some r := h
    rw [rf1_Armstrong_l1.eq_1] at h
    refine W.seq ?_
    refine W.region (by kernel_rfl) ?_
    refine WO.pureK 0 (some (.bool (decide ((((List.range (Int.toNat (IntKind.wrap .i64 ((iShl .i64 1 a1) - 1))))).length : Int) < (IntKind.wrap .i64 ((iShl .i64 1 a1) - 1)))))) (v := .bool false) (by kernel_rfl) (by rw [ltr_false (n := (IntKind.wrap .i64 ((iShl .i64 1 a1) - 1)))]) (e1 := [(0, .int .i64 a1), (1, l40 none a2), (5, l35 (some 10500) v9), (14, .int .i64 (IntKind.wrap .i64 ((iShl .i64 1 a1) - 1))), (15, .int .i64 (((List.range (Int.toNat (IntKind.wrap .i64 ((iShl .i64 1 a1) - 1))))).length : Int)), (16, .bool false)]) (by kernel_rfl) ?_
    refine WO.fin ([0, 1, 5, 14, 15, 16]) [] [] [] (e2 := [(0, .int .i64 a1), (1, l40 none a2), (5, l35 (some 10500) v9), (14, .int .i64 (IntKind.wrap .i64 ((iShl .i64 1 a1) - 1))), (15, .int .i64 (((List.range (Int.toNat (IntKind.wrap .i64 ((iShl .i64 1 a1) - 1))))).length : Int)), (16, .bool false)]) (by kernel_rfl) (fun _ h => h) ?_
    refine W.seq ?_
    refine W.condB false (by kernel_rfl) (fun h => Bool.noConfusion h) (fun _ => ?_)
    refine W.exit ?_
    refine W.weak [5] [] [] [] (env' := [(5, l35 (some 10500) v9)]) (by kernel_rfl) ?_
    exact hK6 v9 h
  · obtain ⟨v9, rfl⟩ : ∃ x, x = s := ⟨s, rfl⟩
    have h : rf1_Armstrong_l1 a1 a2 (rf1_Armstrong_j6) (x1 :: r1) k1 v9 = some r := h
    rw [rf1_Armstrong_l1.eq_2] at h
    refine W.seq ?_
    refine W.region (by kernel_rfl) ?_
    refine WO.pureK 0 (some (.bool (decide ((k1 : Int) < (IntKind.wrap .i64 ((iShl .i64 1 a1) - 1)))))) (v := .bool true) (by kernel_rfl) (by rw [ltr_true hk1]) (e1 := [(0, .int .i64 a1), (1, l40 none a2), (5, l35 (some 10500) v9), (14, .int .i64 (IntKind.wrap .i64 ((iShl .i64 1 a1) - 1))), (15, .int .i64 (k1 : Int)), (16, .bool true)]) (by kernel_rfl) ?_
    refine WO.fin ([0, 1, 5, 14, 15, 16]) [] [] [] (e2 := [(0, .int .i64 a1), (1, l40 none a2), (5, l35 (some 10500) v9), (14, .int .i64 (IntKind.wrap .i64 ((iShl .i64 1 a1) - 1))), (15, .int .i64 (k1 : Int)), (16, .bool true)]) (by kernel_rfl) (fun _ h => h) ?_
    refine W.seq ?_
    refine W.condB true (by kernel_rfl) (fun _ => ?_) (fun h => Bool.noConfusion h)
    refine W.skip ?_
    refine W.weak [0, 1, 5, 14, 15] [] [] [] (env' := [(0, .int .i64 a1), (1, l40 none a2), (5, l35 (some 10500) v9), (14, .int .i64 (IntKind.wrap .i64 ((iShl .i64 1 a1) - 1))), (15, .int .i64 (k1 : Int))]) (by kernel_rfl) ?_
    refine W.seq ?_
    refine W.join (σ := ((List (List Int)))) (fun s => [(0, .int .i64 a1), (1, l40 none a2), (5, l35 (some 10500) s), (14, .int .i64 (IntKind.wrap .i64 ((iShl .i64 1 a1) - 1))), (15, .int .i64 (k1 : Int))]) (fun s => (rf1_Armstrong_j10 (rf1_Armstrong_l1 a1 a2 (rf1_Armstrong_j6) r1 (k1 + 1))) s = some r) (fun s h => ?_) (fun hK10 => ?_)
    · obtain ⟨v30, rfl⟩ : ∃ x, x = s := ⟨s, rfl⟩
      have h : (rf1_Armstrong_j10 (rf1_Armstrong_l1 a1 a2 (rf1_Armstrong_j6) r1 (k1 + 1))) v30 = some r := h
      unfold rf1_Armstrong_j10 at h
      refine W.region (by kernel_rfl) ?_
      refine WO.pureK 0 (some (.int .i64 (IntKind.wrap .i64 ((k1 : Int) + 1)))) (v := .int .i64 ((k1 + 1 : Nat) : Int)) (by kernel_rfl) (by rw [wrap_succ hl1 hk1]) (e1 := [(0, .int .i64 a1), (1, l40 none a2), (5, l35 (some 10500) v30), (14, .int .i64 (IntKind.wrap .i64 ((iShl .i64 1 a1) - 1))), (15, .int .i64 (k1 : Int)), (44, .int .i64 ((k1 + 1 : Nat) : Int))]) (by kernel_rfl) ?_
      refine WO.fin [0, 1, 5, 14, 15] [] [] [] (e2 := [(0, .int .i64 a1), (1, l40 none a2), (5, l35 (some 10500) v30), (14, .int .i64 (IntKind.wrap .i64 ((iShl .i64 1 a1) - 1))), (15, .int .i64 ((k1 + 1 : Nat) : Int))]) (by kernel_rfl) (fun _ h => h) ?_
      exact hN1 v30 h
    refine W.block ?_
    refine W.seq ?_
    refine W.regT [0, 1, 5, 6, 14, 15] [] [] [] (e2 := [(0, .int .i64 a1), (1, l40 none a2), (5, l35 (some 10500) v9), (6, .int .i64 (k1 : Int)), (14, .int .i64 (IntKind.wrap .i64 ((iShl .i64 1 a1) - 1))), (15, .int .i64 (k1 : Int))]) (by kernel_rfl) (by kernel_rfl) (fun _ h => h) ?_
    refine W.seq ?_
    refine W.seq ?_
    refine W.region (by kernel_rfl) ?_
    obtain ⟨w14, hw14, h⟩ := bind_some h
    refine WO.callK 2 (F := 38) (l := [l40 none a2, .int .i64 (k1 : Int)]) (C := []) (r := .int .i64 w14) (by kernel_rfl) (by kernel_rfl) (run_rf1_Closure a2 (k1 : Int) w14 hw14) (e1 := [(0, .int .i64 a1), (1, l40 none a2), (5, l35 (some 10500) v9), (6, .int .i64 (k1 : Int)), (14, .int .i64 (IntKind.wrap .i64 ((iShl .i64 1 a1) - 1))), (15, .int .i64 (k1 : Int)), (18, l40 none a2), (19, .int .i64 (k1 : Int)), (20, .int .i64 w14)]) (by kernel_rfl) ?_
    refine WO.fin [0, 1, 5, 6, 14, 15, 22] [] [] [] (e2 := [(0, .int .i64 a1), (1, l40 none a2), (5, l35 (some 10500) v9), (6, .int .i64 (k1 : Int)), (14, .int .i64 (IntKind.wrap .i64 ((iShl .i64 1 a1) - 1))), (15, .int .i64 (k1 : Int)), (22, .bool (w14 != (k1 : Int)))]) (by kernel_rfl) (fun _ h => h) ?_
    refine W.condB (w14 != (k1 : Int)) (by kernel_rfl) (fun hb => ?_) (fun hb => ?_)
    · replace h := cond_t hb h
      refine W.exit ?_
      refine W.weak [0, 1, 5, 14, 15] [] [] [] (env' := [(0, .int .i64 a1), (1, l40 none a2), (5, l35 (some 10500) v9), (14, .int .i64 (IntKind.wrap .i64 ((iShl .i64 1 a1) - 1))), (15, .int .i64 (k1 : Int))]) (by kernel_rfl) ?_
      exact hK10 v9 h
    replace h := cond_f hb h
    refine W.skip ?_
    refine W.weak [0, 1, 5, 6, 14, 15] [] [] [] (env' := [(0, .int .i64 a1), (1, l40 none a2), (5, l35 (some 10500) v9), (6, .int .i64 (k1 : Int)), (14, .int .i64 (IntKind.wrap .i64 ((iShl .i64 1 a1) - 1))), (15, .int .i64 (k1 : Int))]) (by kernel_rfl) ?_
    refine W.seq ?_
    refine W.region (by kernel_rfl) ?_
    obtain ⟨hc16, h⟩ := chk_some h
    refine WO.makeK 1 (d := 24) (e := 3) (s := 1) (bytes := 8) (m := a1) (z := (.int .i64 0)) (zs := (List.map (AV.int .i64) (List.replicate (Int.toNat a1) 0))) (env1 := [(0, .int .i64 a1), (1, l40 none a2), (5, l35 (some 10500) v9), (6, .int .i64 (k1 : Int)), (14, .int .i64 (IntKind.wrap .i64 ((iShl .i64 1 a1) - 1))), (15, .int .i64 (k1 : Int)), (23, .int .i64 a1), (24, .sb 1000024 3 1 0 (Int.toNat a1))]) (by kernel_rfl) hc16 (by first | exact rep_map | exact (rep_map (f := (AV.int .i64)))) (e1 := [(0, .int .i64 a1), (1, l40 none a2), (5, l35 (some 10500) v9), (6, .int .i64 (k1 : Int)), (14, .int .i64 (IntKind.wrap .i64 ((iShl .i64 1 a1) - 1))), (15, .int .i64 (k1 : Int)), (23, .int .i64 a1), (24, .sb 1000024 3 1 0 (Int.toNat a1)), (1000024, .obj 3 1 (List.map (AV.int .i64) (List.replicate (Int.toNat a1) 0)))]) (by kernel_rfl) ?_
    refine WO.fin [0, 1, 5, 6, 7, 14, 15, 1000024] [] [] [] (e2 := [(0, .int .i64 a1), (1, l40 none a2), (5, l35 (some 10500) v9), (6, .int .i64 (k1 : Int)), (7, .sb 1000024 3 1 0 (Int.toNat a1)), (14, .int .i64 (IntKind.wrap .i64 ((iShl .i64 1 a1) - 1))), (15, .int .i64 (k1 : Int)), (1000024, .obj 3 1 (List.map (AV.int .i64) (List.replicate (Int.toNat a1) 0)))]) (by kernel_rfl) (fun _ h => h) ?_
    refine W.seq ?_
    refine W.join (σ := ((List Int))) (fun s => [(0, .int .i64 a1), (1, l40 none a2), (5, l35 (some 10500) v9), (7, .sb 1000024 3 1 0 (Int.toNat a1)), (14, .int .i64 (IntKind.wrap .i64 ((iShl .i64 1 a1) - 1))), (15, .int .i64 (k1 : Int)), (1000024, .obj 3 1 (List.map (AV.int .i64) s))]) (fun s => (rf1_Armstrong_j17 a1 v9 (rf1_Armstrong_j10 (rf1_Armstrong_l1 a1 a2 (rf1_Armstrong_j6) r1 (k1 + 1)))) s = some r) (fun s h => ?_) (fun hK17 => ?_)
    · obtain ⟨v28, rfl⟩ : ∃ x, x = s := ⟨s, rfl⟩
      have h : (rf1_Armstrong_j17 a1 v9 (rf1_Armstrong_j10 (rf1_Armstrong_l1 a1 a2 (rf1_Armstrong_j6) r1 (k1 + 1)))) v28 = some r := h
      unfold rf1_Armstrong_j17 at h
      refine W.region (by kernel_rfl) ?_
      refine WO.steps 2 (e1 := [(0, .int .i64 a1), (1, l40 none a2), (5, l35 (some 10500) v9), (7, .sb 1000024 3 1 0 (Int.toNat a1)), (14, .int .i64 (IntKind.wrap .i64 ((iShl .i64 1 a1) - 1))), (15, .int .i64 (k1 : Int)), (40, l35 (some 10500) v9), (41, .sb 1000024 3 1 0 (Int.toNat a1)), (1000024, .obj 3 1 (List.map (AV.int .i64) v28))]) (by kernel_rfl) ?_
      refine WO.mv [.frz 1000024] (env' := [(0, .int .i64 a1), (1, l40 none a2), (5, l35 (some 10500) v9), (7, l3 none (snap 0 (Int.toNat a1) v28)), (14, .int .i64 (IntKind.wrap .i64 ((iShl .i64 1 a1) - 1))), (15, .int .i64 (k1 : Int)), (40, l35 (some 10500) v9), (41, l3 none (snap 0 (Int.toNat a1) v28))]) ((by kernel_rfl : mvAll [(0, .int .i64 a1), (1, l40 none a2), (5, l35 (some 10500) v9), (7, .sb 1000024 3 1 0 (Int.toNat a1)), (14, .int .i64 (IntKind.wrap .i64 ((iShl .i64 1 a1) - 1))), (15, .int .i64 (k1 : Int)), (40, l35 (some 10500) v9), (41, .sb 1000024 3 1 0 (Int.toNat a1)), (1000024, .obj 3 1 (List.map (AV.int .i64) v28))] [.frz 1000024] = [(0, .int .i64 a1), (1, l40 none a2), (5, l35 (some 10500) v9), (7, .lst 3 1 none (snapA 0 (Int.toNat a1) (List.map (AV.int .i64) v28))), (14, .int .i64 (IntKind.wrap .i64 ((iShl .i64 1 a1) - 1))), (15, .int .i64 (k1 : Int)), (40, l35 (some 10500) v9), (41, .lst 3 1 none (snapA 0 (Int.toNat a1) (List.map (AV.int .i64) v28)))]).trans (by first | (simp only [snap_map, snap_full, snap_rep]; done) | (simp only [snap_map, snap_full, snap_rep]; kernel_rfl))) ?_
      refine WO.steps 1 (e1 := [(0, .int .i64 a1), (1, l40 none a2), (5, l35 (some 10500) v9), (7, l3 none (snap 0 (Int.toNat a1) v28)), (14, .int .i64 (IntKind.wrap .i64 ((iShl .i64 1 a1) - 1))), (15, .int .i64 (k1 : Int)), (40, l35 (some 10500) v9), (41, l3 none (snap 0 (Int.toNat a1) v28)), (42, l35 (some 42) [(snap 0 (Int.toNat a1) v28)])]) (by kernel_rfl) ?_
      obtain ⟨hc29, h⟩ := chk_some h
      refine WO.appendK 0 (d := 43) (e := 35) (s := 1) (bytes := 24) (xs := (List.map (encL 3 1 (AV.int .i64)) v9)) (ys := (List.map (encL 3 1 (AV.int .i64)) [(snap 0 (Int.toNat a1) v28)])) (zs := (List.map (encL 3 1 (AV.int .i64)) (v9 ++ [(snap 0 (Int.toNat a1) v28)]))) (env1 := [(0, .int .i64 a1), (1, l40 none a2), (5, l35 none v9), (7, l3 none (snap 0 (Int.toNat a1) v28)), (14, .int .i64 (IntKind.wrap .i64 ((iShl .i64 1 a1) - 1))), (15, .int .i64 (k1 : Int)), (40, l35 none v9), (41, l3 none (snap 0 (Int.toNat a1) v28)), (42, l35 (some 42) [(snap 0 (Int.toNat a1) v28)])]) (by kernel_rfl) (List.map_append.symm) (by rw [List.length_map]; exact hc29) (e1 := [(0, .int .i64 a1), (1, l40 none a2), (5, l35 none v9), (7, l3 none (snap 0 (Int.toNat a1) v28)), (14, .int .i64 (IntKind.wrap .i64 ((iShl .i64 1 a1) - 1))), (15, .int .i64 (k1 : Int)), (40, l35 none v9), (41, l3 none (snap 0 (Int.toNat a1) v28)), (42, l35 (some 42) [(snap 0 (Int.toNat a1) v28)]), (43, l35 (some 43) (v9 ++ [(snap 0 (Int.toNat a1) v28)]))]) (by kernel_rfl) ?_
      refine WO.fin [0, 1, 5, 14, 15] [] [] [(43, some 10500)] (e2 := [(0, .int .i64 a1), (1, l40 none a2), (5, l35 (some 10500) (v9 ++ [(snap 0 (Int.toNat a1) v28)])), (14, .int .i64 (IntKind.wrap .i64 ((iShl .i64 1 a1) - 1))), (15, .int .i64 (k1 : Int))]) (by kernel_rfl) (fun _ h => h) ?_
      exact hK10 (v9 ++ [(snap 0 (Int.toNat a1) v28)]) h
    refine W.seq ?_
    refine W.regT [0, 1, 5, 6, 7, 14, 15, 25, 26, 1000024] [] [] [] (e2 := [(0, .int .i64 a1), (1, l40 none a2), (5, l35 (some 10500) v9), (6, .int .i64 (k1 : Int)), (7, .sb 1000024 3 1 0 (Int.toNat a1)), (14, .int .i64 (IntKind.wrap .i64 ((iShl .i64 1 a1) - 1))), (15, .int .i64 (k1 : Int)), (25, .int .i64 a1), (26, .int .i64 0), (1000024, .obj 3 1 (List.map (AV.int .i64) (List.replicate (Int.toNat a1) 0)))]) (by kernel_rfl) (by kernel_rfl) (fun _ h => h) ?_
    refine W.block ?_
    obtain ⟨hl2, h⟩ := chk_some h
    refine W.weak [0, 1, 5, 6, 7, 14, 15, 25, 26, 1000024] [] [] [] (env' := [(0, .int .i64 a1), (1, l40 none a2), (5, l35 (some 10500) v9), (6, .int .i64 (k1 : Int)), (7, .sb 1000024 3 1 0 (Int.toNat a1)), (14, .int .i64 (IntKind.wrap .i64 ((iShl .i64 1 a1) - 1))), (15, .int .i64 (k1 : Int)), (25, .int .i64 a1), (26, .int .i64 ((0 : Nat) : Int)), (1000024, .obj 3 1 (List.map (AV.int .i64) (List.replicate (Int.toNat a1) 0)))]) (by kernel_rfl) ?_
    refine W.range (σ := ((List Int))) (List.range (Int.toNat a1)) (fun k2 s => [(0, .int .i64 a1), (1, l40 none a2), (5, l35 (some 10500) v9), (6, .int .i64 (k1 : Int)), (7, .sb 1000024 3 1 0 (Int.toNat a1)), (14, .int .i64 (IntKind.wrap .i64 ((iShl .i64 1 a1) - 1))), (15, .int .i64 (k1 : Int)), (25, .int .i64 a1), (26, .int .i64 (k2 : Int)), (1000024, .obj 3 1 (List.map (AV.int .i64) s))]) (fun r0 k0 s => rf1_Armstrong_l2 a1 k1 v9 (rf1_Armstrong_j17 a1 v9 (rf1_Armstrong_j10 (rf1_Armstrong_l1 a1 a2 (rf1_Armstrong_j6) r1 (k1 + 1)))) r0 k0 s = some r) (fun s h => ?_) (fun x2 r2 k2 s hx2 hk2 h hN2 => ?_) (List.replicate (Int.toNat a1) 0) h
    · obtain ⟨v19, rfl⟩ : ∃ x, x = s := ⟨s, rfl⟩
      have h : rf1_Armstrong_l2 a1 k1 v9 (rf1_Armstrong_j17 a1 v9 (rf1_Armstrong_j10 (rf1_Armstrong_l1 a1 a2 (rf1_Armstrong_j6) r1 (k1 + 1)))) [] ((List.range (Int.toNat a1))).length v19 = some r := h
      rw [rf1_Armstrong_l2.eq_1] at h
      refine W.seq ?_
      refine W.region (by kernel_rfl) ?_
      refine WO.pureK 0 (some (.bool (decide ((((List.range (Int.toNat a1))).length : Int) < a1)))) (v := .bool false) (by kernel_rfl) (by rw [ltr_false (n := a1)]) (e1 := [(0, .int .i64 a1), (1, l40 none a2), (5, l35 (some 10500) v9), (6, .int .i64 (k1 : Int)), (7, .sb 1000024 3 1 0 (Int.toNat a1)), (14, .int .i64 (IntKind.wrap .i64 ((iShl .i64 1 a1) - 1))), (15, .int .i64 (k1 : Int)), (25, .int .i64 a1), (26, .int .i64 (((List.range (Int.toNat a1))).length : Int)), (27, .bool false), (1000024, .obj 3 1 (List.map (AV.int .i64) v19))]) (by kernel_rfl) ?_
      refine WO.fin ([0, 1, 5, 6, 7, 14, 15, 25, 26, 27, 1000024]) [] [] [] (e2 := [(0, .int .i64 a1), (1, l40 none a2), (5, l35 (some 10500) v9), (6, .int .i64 (k1 : Int)), (7, .sb 1000024 3 1 0 (Int.toNat a1)), (14, .int .i64 (IntKind.wrap .i64 ((iShl .i64 1 a1) - 1))), (15, .int .i64 (k1 : Int)), (25, .int .i64 a1), (26, .int .i64 (((List.range (Int.toNat a1))).length : Int)), (27, .bool false), (1000024, .obj 3 1 (List.map (AV.int .i64) v19))]) (by kernel_rfl) (fun _ h => h) ?_
      refine W.seq ?_
      refine W.condB false (by kernel_rfl) (fun h => Bool.noConfusion h) (fun _ => ?_)
      refine W.exit ?_
      refine W.weak [0, 1, 5, 7, 14, 15, 1000024] [] [] [] (env' := [(0, .int .i64 a1), (1, l40 none a2), (5, l35 (some 10500) v9), (7, .sb 1000024 3 1 0 (Int.toNat a1)), (14, .int .i64 (IntKind.wrap .i64 ((iShl .i64 1 a1) - 1))), (15, .int .i64 (k1 : Int)), (1000024, .obj 3 1 (List.map (AV.int .i64) v19))]) (by kernel_rfl) ?_
      exact hK17 v19 h
    · obtain ⟨v19, rfl⟩ : ∃ x, x = s := ⟨s, rfl⟩
      have h : rf1_Armstrong_l2 a1 k1 v9 (rf1_Armstrong_j17 a1 v9 (rf1_Armstrong_j10 (rf1_Armstrong_l1 a1 a2 (rf1_Armstrong_j6) r1 (k1 + 1)))) (x2 :: r2) k2 v19 = some r := h
      rw [rf1_Armstrong_l2.eq_2] at h
      refine W.seq ?_
      refine W.region (by kernel_rfl) ?_
      refine WO.pureK 0 (some (.bool (decide ((k2 : Int) < a1)))) (v := .bool true) (by kernel_rfl) (by rw [ltr_true hk2]) (e1 := [(0, .int .i64 a1), (1, l40 none a2), (5, l35 (some 10500) v9), (6, .int .i64 (k1 : Int)), (7, .sb 1000024 3 1 0 (Int.toNat a1)), (14, .int .i64 (IntKind.wrap .i64 ((iShl .i64 1 a1) - 1))), (15, .int .i64 (k1 : Int)), (25, .int .i64 a1), (26, .int .i64 (k2 : Int)), (27, .bool true), (1000024, .obj 3 1 (List.map (AV.int .i64) v19))]) (by kernel_rfl) ?_
      refine WO.fin ([0, 1, 5, 6, 7, 14, 15, 25, 26, 27, 1000024]) [] [] [] (e2 := [(0, .int .i64 a1), (1, l40 none a2), (5, l35 (some 10500) v9), (6, .int .i64 (k1 : Int)), (7, .sb 1000024 3 1 0 (Int.toNat a1)), (14, .int .i64 (IntKind.wrap .i64 ((iShl .i64 1 a1) - 1))), (15, .int .i64 (k1 : Int)), (25, .int .i64 a1), (26, .int .i64 (k2 : Int)), (27, .bool true), (1000024, .obj 3 1 (List.map (AV.int .i64) v19))]) (by kernel_rfl) (fun _ h => h) ?_
      refine W.seq ?_
      refine W.condB true (by kernel_rfl) (fun _ => ?_) (fun h => Bool.noConfusion h)
      refine W.skip ?_
      refine W.weak [0, 1, 5, 6, 7, 14, 15, 25, 26, 1000024] [] [] [] (env' := [(0, .int .i64 a1), (1, l40 none a2), (5, l35 (some 10500) v9), (6, .int .i64 (k1 : Int)), (7, .sb 1000024 3 1 0 (Int.toNat a1)), (14, .int .i64 (IntKind.wrap .i64 ((iShl .i64 1 a1) - 1))), (15, .int .i64 (k1 : Int)), (25, .int .i64 a1), (26, .int .i64 (k2 : Int)), (1000024, .obj 3 1 (List.map (AV.int .i64) v19))]) (by kernel_rfl) ?_
      refine W.seq ?_
      refine W.join (σ := ((List Int))) (fun s => [(0, .int .i64 a1), (1, l40 none a2), (5, l35 (some 10500) v9), (6, .int .i64 (k1 : Int)), (7, .sb 1000024 3 1 0 (Int.toNat a1)), (14, .int .i64 (IntKind.wrap .i64 ((iShl .i64 1 a1) - 1))), (15, .int .i64 (k1 : Int)), (25, .int .i64 a1), (26, .int .i64 (k2 : Int)), (1000024, .obj 3 1 (List.map (AV.int .i64) s))]) (fun s => (rf1_Armstrong_j20 (rf1_Armstrong_l2 a1 k1 v9 (rf1_Armstrong_j17 a1 v9 (rf1_Armstrong_j10 (rf1_Armstrong_l1 a1 a2 (rf1_Armstrong_j6) r1 (k1 + 1)))) r2 (k2 + 1))) s = some r) (fun s h => ?_) (fun hK20 => ?_)
      · obtain ⟨v27, rfl⟩ : ∃ x, x = s := ⟨s, rfl⟩
        have h : (rf1_Armstrong_j20 (rf1_Armstrong_l2 a1 k1 v9 (rf1_Armstrong_j17 a1 v9 (rf1_Armstrong_j10 (rf1_Armstrong_l1 a1 a2 (rf1_Armstrong_j6) r1 (k1 + 1)))) r2 (k2 + 1))) v27 = some r := h
        unfold rf1_Armstrong_j20 at h
        refine W.region (by kernel_rfl) ?_
        refine WO.pureK 0 (some (.int .i64 (IntKind.wrap .i64 ((k2 : Int) + 1)))) (v := .int .i64 ((k2 + 1 : Nat) : Int)) (by kernel_rfl) (by rw [wrap_succ hl2 hk2]) (e1 := [(0, .int .i64 a1), (1, l40 none a2), (5, l35 (some 10500) v9), (6, .int .i64 (k1 : Int)), (7, .sb 1000024 3 1 0 (Int.toNat a1)), (14, .int .i64 (IntKind.wrap .i64 ((iShl .i64 1 a1) - 1))), (15, .int .i64 (k1 : Int)), (25, .int .i64 a1), (26, .int .i64 (k2 : Int)), (39, .int .i64 ((k2 + 1 : Nat) : Int)), (1000024, .obj 3 1 (List.map (AV.int .i64) v27))]) (by kernel_rfl) ?_
        refine WO.fin [0, 1, 5, 6, 7, 14, 15, 25, 26, 1000024] [] [] [] (e2 := [(0, .int .i64 a1), (1, l40 none a2), (5, l35 (some 10500) v9), (6, .int .i64 (k1 : Int)), (7, .sb 1000024 3 1 0 (Int.toNat a1)), (14, .int .i64 (IntKind.wrap .i64 ((iShl .i64 1 a1) - 1))), (15, .int .i64 (k1 : Int)), (25, .int .i64 a1), (26, .int .i64 ((k2 + 1 : Nat) : Int)), (1000024, .obj 3 1 (List.map (AV.int .i64) v27))]) (by kernel_rfl) (fun _ h => h) ?_
        exact hN2 v27 h
      refine W.block ?_
      refine W.seq ?_
      refine W.regT [0, 1, 5, 6, 7, 8, 14, 15, 25, 26, 1000024] [] [] [] (e2 := [(0, .int .i64 a1), (1, l40 none a2), (5, l35 (some 10500) v9), (6, .int .i64 (k1 : Int)), (7, .sb 1000024 3 1 0 (Int.toNat a1)), (8, .int .i64 (k2 : Int)), (14, .int .i64 (IntKind.wrap .i64 ((iShl .i64 1 a1) - 1))), (15, .int .i64 (k1 : Int)), (25, .int .i64 a1), (26, .int .i64 (k2 : Int)), (1000024, .obj 3 1 (List.map (AV.int .i64) v19))]) (by kernel_rfl) (by kernel_rfl) (fun _ h => h) ?_
      refine W.seq ?_
      refine W.region (by kernel_rfl) ?_
      obtain ⟨hc23, h⟩ := chk_some h
      refine WO.pureK 2 (if (k2 : Int) < 0 then none else some (.int .i64 (iShr .i64 (k1 : Int) (k2 : Int)))) (v := .int .i64 (iShr .i64 (k1 : Int) (k2 : Int))) (by kernel_rfl) (if_neg (not_lt_of_chk hc23)) (e1 := [(0, .int .i64 a1), (1, l40 none a2), (5, l35 (some 10500) v9), (6, .int .i64 (k1 : Int)), (7, .sb 1000024 3 1 0 (Int.toNat a1)), (8, .int .i64 (k2 : Int)), (14, .int .i64 (IntKind.wrap .i64 ((iShl .i64 1 a1) - 1))), (15, .int .i64 (k1 : Int)), (25, .int .i64 a1), (26, .int .i64 (k2 : Int)), (29, .int .i64 (k1 : Int)), (30, .int .i64 (k2 : Int)), (31, .int .i64 (iShr .i64 (k1 : Int) (k2 : Int))), (1000024, .obj 3 1 (List.map (AV.int .i64) v19))]) (by kernel_rfl) ?_
      refine WO.fin [0, 1, 5, 6, 7, 8, 14, 15, 25, 26, 33, 1000024] [] [] [] (e2 := [(0, .int .i64 a1), (1, l40 none a2), (5, l35 (some 10500) v9), (6, .int .i64 (k1 : Int)), (7, .sb 1000024 3 1 0 (Int.toNat a1)), (8, .int .i64 (k2 : Int)), (14, .int .i64 (IntKind.wrap .i64 ((iShl .i64 1 a1) - 1))), (15, .int .i64 (k1 : Int)), (25, .int .i64 a1), (26, .int .i64 (k2 : Int)), (33, .bool ((iAnd .i64 (iShr .i64 (k1 : Int) (k2 : Int)) 1) == 0)), (1000024, .obj 3 1 (List.map (AV.int .i64) v19))]) (by kernel_rfl) (fun _ h => h) ?_
      refine W.condB ((iAnd .i64 (iShr .i64 (k1 : Int) (k2 : Int)) 1) == 0) (by kernel_rfl) (fun hb => ?_) (fun hb => ?_)
      · replace h := cond_t hb h
        refine W.region (by kernel_rfl) ?_
        refine WO.pureK 3 (some (.int .i64 ((List.map (encL 3 1 (AV.int .i64)) v9).length : Int))) (v := .int .i64 (v9.length : Int)) (by kernel_rfl) (by rw [List.length_map]) (e1 := [(0, .int .i64 a1), (1, l40 none a2), (5, l35 (some 10500) v9), (6, .int .i64 (k1 : Int)), (7, .sb 1000024 3 1 0 (Int.toNat a1)), (8, .int .i64 (k2 : Int)), (14, .int .i64 (IntKind.wrap .i64 ((iShl .i64 1 a1) - 1))), (15, .int .i64 (k1 : Int)), (25, .int .i64 a1), (26, .int .i64 (k2 : Int)), (33, .bool ((iAnd .i64 (iShr .i64 (k1 : Int) (k2 : Int)) 1) == 0)), (34, .sb 1000024 3 1 0 (Int.toNat a1)), (35, .int .i64 (k2 : Int)), (36, l35 (some 10500) v9), (37, .int .i64 (v9.length : Int)), (1000024, .obj 3 1 (List.map (AV.int .i64) v19))]) (by kernel_rfl) ?_
        obtain ⟨hc24, h⟩ := chk_some h
        refine WO.pureK 0 (if (0 : Int) ≤ (k2 : Int) ∧ (k2 : Int) < (((Int.toNat a1) : Nat) : Int) then some (.pe 1000024 1 (0 + Int.toNat (k2 : Int)) 0) else none) (v := .pe 1000024 1 (0 + Int.toNat (k2 : Int)) 0) (by kernel_rfl) (ite_some hc24) (e1 := [(0, .int .i64 a1), (1, l40 none a2), (5, l35 (some 10500) v9), (6, .int .i64 (k1 : Int)), (7, .sb 1000024 3 1 0 (Int.toNat a1)), (8, .int .i64 (k2 : Int)), (14, .int .i64 (IntKind.wrap .i64 ((iShl .i64 1 a1) - 1))), (15, .int .i64 (k1 : Int)), (25, .int .i64 a1), (26, .int .i64 (k2 : Int)), (33, .bool ((iAnd .i64 (iShr .i64 (k1 : Int) (k2 : Int)) 1) == 0)), (34, .sb 1000024 3 1 0 (Int.toNat a1)), (35, .int .i64 (k2 : Int)), (36, l35 (some 10500) v9), (37, .int .i64 (v9.length : Int)), (38, .pe 1000024 1 (0 + Int.toNat (k2 : Int)) 0), (1000024, .obj 3 1 (List.map (AV.int .i64) v19))]) (by kernel_rfl) ?_
        obtain ⟨u25, hu25, h⟩ := bind_some h
        obtain ⟨y26, hyy26, hzy26⟩ := upd_some hu25
        refine WO.storeK 0 (id := 1000024) (e := 3) (s := 1) (j := (0 + Int.toNat (k2 : Int))) (off := 0) (vs := [.int .i64 (v9.length : Int)]) (xs := (List.map (AV.int .i64) v19)) (zs := (List.map (AV.int .i64) u25)) (y := ((AV.int .i64)) y26) (y' := ((AV.int .i64)) (v9.length : Int)) (by kernel_rfl) (upd_get hyy26) (by kernel_rfl) (upd_set hzy26) (e1 := [(0, .int .i64 a1), (1, l40 none a2), (5, l35 (some 10500) v9), (6, .int .i64 (k1 : Int)), (7, .sb 1000024 3 1 0 (Int.toNat a1)), (8, .int .i64 (k2 : Int)), (14, .int .i64 (IntKind.wrap .i64 ((iShl .i64 1 a1) - 1))), (15, .int .i64 (k1 : Int)), (25, .int .i64 a1), (26, .int .i64 (k2 : Int)), (33, .bool ((iAnd .i64 (iShr .i64 (k1 : Int) (k2 : Int)) 1) == 0)), (34, .sb 1000024 3 1 0 (Int.toNat a1)), (35, .int .i64 (k2 : Int)), (36, l35 (some 10500) v9), (37, .int .i64 (v9.length : Int)), (38, .pe 1000024 1 (0 + Int.toNat (k2 : Int)) 0), (1000024, .obj 3 1 (List.map (AV.int .i64) u25))]) (by kernel_rfl) ?_
        refine WO.fin [0, 1, 5, 6, 7, 14, 15, 25, 26, 1000024] [] [] [] (e2 := [(0, .int .i64 a1), (1, l40 none a2), (5, l35 (some 10500) v9), (6, .int .i64 (k1 : Int)), (7, .sb 1000024 3 1 0 (Int.toNat a1)), (14, .int .i64 (IntKind.wrap .i64 ((iShl .i64 1 a1) - 1))), (15, .int .i64 (k1 : Int)), (25, .int .i64 a1), (26, .int .i64 (k2 : Int)), (1000024, .obj 3 1 (List.map (AV.int .i64) u25))]) (by kernel_rfl) (fun _ h => h) ?_
        exact hK20 u25 h
      replace h := cond_f hb h
      refine W.skip ?_
      refine W.weak [0, 1, 5, 6, 7, 14, 15, 25, 26, 1000024] [] [] [] (env' := [(0, .int .i64 a1), (1, l40 none a2), (5, l35 (some 10500) v9), (6, .int .i64 (k1 : Int)), (7, .sb 1000024 3 1 0 (Int.toNat a1)), (14, .int .i64 (IntKind.wrap .i64 ((iShl .i64 1 a1) - 1))), (15, .int .i64 (k1 : Int)), (25, .int .i64 a1), (26, .int .i64 (k2 : Int)), (1000024, .obj 3 1 (List.map (AV.int .i64) v19))]) (by kernel_rfl) ?_
      exact hK20 v19 h
def sl_EqualFunc_Lint_j8 : Option Bool :=
  (some true)
def sl_EqualFunc_Lint_l1 (a2 : (List (List Int))) (g3 : ((List Int) → (List Int) → Option Bool)) (K8 : (Option Bool)) : List (List Int) → Nat → Option Bool
  | [], k1 => K8
  | x1 :: r1, k1 => ((idx a2 (k1 : Int)).bind fun e13 => ((g3 x1 e13).bind fun w15 => (bif (!w15) then (some false) else (sl_EqualFunc_Lint_l1 a2 g3 K8 r1 (k1 + 1)))))
def sl_EqualFunc_Lint (a1 : (List (List Int))) (a2 : (List (List Int))) (g3 : ((List Int) → (List Int) → Option Bool)) : Option Bool :=
  (bif ((a1.length : Int) != (a2.length : Int)) then (some false) else (chk (lenOk a1) (sl_EqualFunc_Lint_l1 a2 g3 (sl_EqualFunc_Lint_j8) a1 0)))
theorem run_sl_EqualFunc_Lint (a1 : (List (List Int))) (a2 : (List (List Int))) (g3 : ((List Int) → (List Int) → Option Bool)) (F_g3 : Nat) (C_g3 : List AV) (hok_g3 : okFn Try.prog F_g3 = true) (hrun_g3 : ∀ (x0 : (List Int)) (x1 : (List Int)) r, g3 x0 x1 = some r → Run Try.prog (.call F_g3 ([l3 none x0, l3 none x1] ++ C_g3) (.bool r))) (r : Bool) (h : sl_EqualFunc_Lint a1 a2 g3 = some r) : Run Try.prog (.call 64 [l35 none a1, l35 none a2, .clo F_g3 C_g3] (.bool r)) := by
  refine call_of_W Try.func64 rfl (by kernel_rfl) (env0 := [(0, l35 none a1), (1, l35 none a2), (2, .clo F_g3 C_g3)]) (by kernel_rfl) ?_
  unfold sl_EqualFunc_Lint at h
  refine W.seq ?_
  refine W.regT [0, 1, 2] [] [] [] (e2 := [(0, l35 none a1), (1, l35 none a2), (2, .clo F_g3 C_g3)]) (by kernel_rfl) (by kernel_rfl) (fun _ h => h) ?_
  refine W.seq ?_
  refine W.seq ?_
  refine W.region (by kernel_rfl) ?_
  refine WO.pureK 1 (some (.int .i64 ((List.map (encL 3 1 (AV.int .i64)) a1).length : Int))) (v := .int .i64 (a1.length : Int)) (by kernel_rfl) (by rw [List.length_map]) (e1 := [(0, l35 none a1), (1, l35 none a2), (2, .clo F_g3 C_g3), (10, l35 none a1), (11, .int .i64 (a1.length : Int))]) (by kernel_rfl) ?_
  refine WO.pureK 1 (some (.int .i64 ((List.map (encL 3 1 (AV.int .i64)) a2).length : Int))) (v := .int .i64 (a2.length : Int)) (by kernel_rfl) (by rw [List.length_map]) (e1 := [(0, l35 none a1), (1, l35 none a2), (2, .clo F_g3 C_g3), (10, l35 none a1), (11, .int .i64 (a1.length : Int)), (12, l35 none a2), (13, .int .i64 (a2.length : Int))]) (by kernel_rfl) ?_
  refine WO.fin [0, 1, 2, 14] [] [] [] (e2 := [(0, l35 none a1), (1, l35 none a2), (2, .clo F_g3 C_g3), (14, .bool ((a1.length : Int) != (a2.length : Int)))]) (by kernel_rfl) (fun _ h => h) ?_
  refine W.condB ((a1.length : Int) != (a2.length : Int)) (by kernel_rfl) (fun hb => ?_) (fun hb => ?_)
  · replace h := cond_t hb h
    refine W.seq ?_
    refine W.regT [6] [] [] [] (e2 := [(6, .bool false)]) (by kernel_rfl) (by kernel_rfl) (fun _ h => h) ?_
    refine W.weak [6] [] [] [] (env' := [(6, .bool false)]) (by kernel_rfl) ?_
    have hr : aresults Try.prog Try.f64 [(6, .bool false)] = some (.bool false) := by kernel_rfl
    cases h
    exact W.ret hr
  replace h := cond_f hb h
  refine W.skip ?_
  refine W.weak [0, 1, 2] [] [] [] (env' := [(0, l35 none a1), (1, l35 none a2), (2, .clo F_g3 C_g3)]) (by kernel_rfl) ?_
  refine W.seq ?_
  refine W.join (σ := Unit) (fun s => []) (fun s => (sl_EqualFunc_Lint_j8) = some r) (fun s h => ?_) (fun hK8 => ?_)
  · have h : (sl_EqualFunc_Lint_j8) = some r := h
    unfold sl_EqualFunc_Lint_j8 at h
    refine W.seq ?_
    refine W.regT [6] [] [] [] (e2 := [(6, .bool true)]) (by kernel_rfl) (by kernel_rfl) (fun _ h => h) ?_
    refine W.weak [6] [] [] [] (env' := [(6, .bool true)]) (by kernel_rfl) ?_
    have hr : aresults Try.prog Try.f64 [(6, .bool true)] = some (.bool true) := by kernel_rfl
    cases h
    exact W.ret hr
  refine W.seq ?_
  refine W.region (by kernel_rfl) ?_
  refine WO.pureK 1 (some (.int .i64 ((List.map (encL 3 1 (AV.int .i64)) a1).length : Int))) (v := .int .i64 (a1.length : Int)) (by kernel_rfl) (by rw [List.length_map]) (e1 := [(0, l35 none a1), (1, l35 none a2), (2, .clo F_g3 C_g3), (15, l35 none a1), (16, .int .i64 (a1.length : Int))]) (by kernel_rfl) ?_
  refine WO.fin [1, 2, 15, 16, 17] [] [] [] (e2 := [(1, l35 none a2), (2, .clo F_g3 C_g3), (15, l35 none a1), (16, .int .i64 (a1.length : Int)), (17, .int .i64 0)]) (by kernel_rfl) (fun _ h => h) ?_
  refine W.block ?_
  obtain ⟨hl1, h⟩ := chk_some h
  refine W.weak [1, 2, 15, 16, 17] [] [] [] (env' := [(1, l35 none a2), (2, .clo F_g3 C_g3), (15, l35 none a1), (16, .int .i64 (a1.length : Int)), (17, .int .i64 ((0 : Nat) : Int))]) (by kernel_rfl) ?_
  refine W.range (σ := Unit) a1 (fun k1 s => [(1, l35 none a2), (2, .clo F_g3 C_g3), (15, l35 none a1), (16, .int .i64 (a1.length : Int)), (17, .int .i64 (k1 : Int))]) (fun r0 k0 s => sl_EqualFunc_Lint_l1 a2 g3 (sl_EqualFunc_Lint_j8) r0 k0 = some r) (fun s h => ?_) (fun x1 r1 k1 s hx1 hk1 h hN1 => ?_) () h
  · have h : sl_EqualFunc_Lint_l1 a2 g3 (sl_EqualFunc_Lint_j8) [] (a1).length = some r := h
    rw [sl_EqualFunc_Lint_l1.eq_1] at h
    refine W.seq ?_
    refine W.region (by kernel_rfl) ?_
    refine WO.pureK 0 (some (.bool (decide (((a1).length : Int) < (a1.length : Int))))) (v := .bool false) (by kernel_rfl) (by rw [lt_false (l := a1)]) (e1 := [(1, l35 none a2), (2, .clo F_g3 C_g3), (15, l35 none a1), (16, .int .i64 (a1.length : Int)), (17, .int .i64 ((a1).length : Int)), (18, .bool false)]) (by kernel_rfl) ?_
    refine WO.fin ([1, 2, 15, 16, 17, 18]) [] [] [] (e2 := [(1, l35 none a2), (2, .clo F_g3 C_g3), (15, l35 none a1), (16, .int .i64 (a1.length : Int)), (17, .int .i64 ((a1).length : Int)), (18, .bool false)]) (by kernel_rfl) (fun _ h => h) ?_
    refine W.seq ?_
    refine W.condB false (by kernel_rfl) (fun h => Bool.noConfusion h) (fun _ => ?_)
    refine W.exit ?_
    refine W.weak [] [] [] [] (env' := []) (by kernel_rfl) ?_
    exact hK8 () h
  · have h : sl_EqualFunc_Lint_l1 a2 g3 (sl_EqualFunc_Lint_j8) (x1 :: r1) k1 = some r := h
    rw [sl_EqualFunc_Lint_l1.eq_2] at h
    refine W.seq ?_
    refine W.region (by kernel_rfl) ?_
    refine WO.pureK 0 (some (.bool (decide ((k1 : Int) < (a1.length : Int))))) (v := .bool true) (by kernel_rfl) (by rw [lt_true hk1]) (e1 := [(1, l35 none a2), (2, .clo F_g3 C_g3), (15, l35 none a1), (16, .int .i64 (a1.length : Int)), (17, .int .i64 (k1 : Int)), (18, .bool true)]) (by kernel_rfl) ?_
    refine WO.fin ([1, 2, 15, 16, 17, 18]) [] [] [] (e2 := [(1, l35 none a2), (2, .clo F_g3 C_g3), (15, l35 none a1), (16, .int .i64 (a1.length : Int)), (17, .int .i64 (k1 : Int)), (18, .bool true)]) (by kernel_rfl) (fun _ h => h) ?_
    refine W.seq ?_
    refine W.condB true (by kernel_rfl) (fun _ => ?_) (fun h => Bool.noConfusion h)
    refine W.skip ?_
    refine W.weak [1, 2, 15, 16, 17] [] [] [] (env' := [(1, l35 none a2), (2, .clo F_g3 C_g3), (15, l35 none a1), (16, .int .i64 (a1.length : Int)), (17, .int .i64 (k1 : Int))]) (by kernel_rfl) ?_
    refine W.seq ?_
    refine W.block ?_
    refine W.seq ?_
    refine W.region (by kernel_rfl) ?_
    refine WO.pureK 1 (if (0 : Int) ≤ (k1 : Int) then ((List.map (encL 3 1 (AV.int .i64)) a1)[Int.toNat (k1 : Int)]?).map AV.ptr else none) (v := .ptr (l3 none x1)) (by kernel_rfl) (idx_nat (f := (encL 3 1 (AV.int .i64))) hx1) (e1 := [(1, l35 none a2), (2, .clo F_g3 C_g3), (15, l35 none a1), (16, .int .i64 (a1.length : Int)), (17, .int .i64 (k1 : Int)), (19, .int .i64 (k1 : Int)), (20, .ptr (l3 none x1))]) (by kernel_rfl) ?_
    refine WO.fin [1, 2, 7, 8, 15, 16, 17] [] [] [] (e2 := [(1, l35 none a2), (2, .clo F_g3 C_g3), (7, .int .i64 (k1 : Int)), (8, l3 none x1), (15, l35 none a1), (16, .int .i64 (a1.length : Int)), (17, .int .i64 (k1 : Int))]) (by kernel_rfl) (fun _ h => h) ?_
    refine W.seq ?_
    refine W.region (by kernel_rfl) ?_
    obtain ⟨e13, he13, h⟩ := bind_some h
    refine WO.pureK 2 (if (0 : Int) ≤ (k1 : Int) then ((List.map (encL 3 1 (AV.int .i64)) a2)[Int.toNat (k1 : Int)]?).map AV.ptr else none) (v := .ptr (l3 none e13)) (by kernel_rfl) (idx_av (f := (encL 3 1 (AV.int .i64))) he13) (e1 := [(1, l35 none a2), (2, .clo F_g3 C_g3), (7, .int .i64 (k1 : Int)), (8, l3 none x1), (15, l35 none a1), (16, .int .i64 (a1.length : Int)), (17, .int .i64 (k1 : Int)), (22, l35 none a2), (23, .int .i64 (k1 : Int)), (24, .ptr (l3 none e13))]) (by kernel_rfl) ?_
    refine WO.fin [1, 2, 8, 9, 15, 16, 17] [] [] [] (e2 := [(1, l35 none a2), (2, .clo F_g3 C_g3), (8, l3 none x1), (9, l3 none e13), (15, l35 none a1), (16, .int .i64 (a1.length : Int)), (17, .int .i64 (k1 : Int))]) (by kernel_rfl) (fun _ h => h) ?_
    refine W.seq ?_
    refine W.region (by kernel_rfl) ?_
    obtain ⟨w15, hw15, h⟩ := bind_some h
    refine WO.callK 3 (F := F_g3) (l := [l3 none x1, l3 none e13]) (C := C_g3) (r := .bool w15) (by kernel_rfl) hok_g3 (hrun_g3 x1 e13 w15 hw15) (e1 := [(1, l35 none a2), (2, .clo F_g3 C_g3), (8, l3 none x1), (9, l3 none e13), (15, l35 none a1), (16, .int .i64 (a1.length : Int)), (17, .int .i64 (k1 : Int)), (26, .clo F_g3 C_g3), (27, l3 none x1), (28, l3 none e13), (29, .bool w15)]) (by kernel_rfl) ?_
    refine WO.fin [1, 2, 15, 16, 17, 30] [] [] [] (e2 := [(1, l35 none a2), (2, .clo F_g3 C_g3), (15, l35 none a1), (16, .int .i64 (a1.length : Int)), (17, .int .i64 (k1 : Int)), (30, .bool (!w15))]) (by kernel_rfl) (fun _ h => h) ?_
    refine W.condB (!w15) (by kernel_rfl) (fun hb => ?_) (fun hb => ?_)
    · replace h := cond_t hb h
      refine W.seq ?_
      refine W.regT [6] [] [] [] (e2 := [(6, .bool false)]) (by kernel_rfl) (by kernel_rfl) (fun _ h => h) ?_
      refine W.weak [6] [] [] [] (env' := [(6, .bool false)]) (by kernel_rfl) ?_
      have hr : aresults Try.prog Try.f64 [(6, .bool false)] = some (.bool false) := by kernel_rfl
      cases h
      exact W.ret hr
    replace h := cond_f hb h
    refine W.skip ?_
    refine W.weak [1, 2, 15, 16, 17] [] [] [] (env' := [(1, l35 none a2), (2, .clo F_g3 C_g3), (15, l35 none a1), (16, .int .i64 (a1.length : Int)), (17, .int .i64 (k1 : Int))]) (by kernel_rfl) ?_
    refine W.region (by kernel_rfl) ?_
    refine WO.pureK 0 (some (.int .i64 (IntKind.wrap .i64 ((k1 : Int) + 1)))) (v := .int .i64 ((k1 + 1 : Nat) : Int)) (by kernel_rfl) (by rw [wrap_succ hl1 hk1]) (e1 := [(1, l35 none a2), (2, .clo F_g3 C_g3), (15, l35 none a1), (16, .int .i64 (a1.length : Int)), (17, .int .i64 (k1 : Int)), (31, .int .i64 ((k1 + 1 : Nat) : Int))]) (by kernel_rfl) ?_
    refine WO.fin [1, 2, 15, 16, 17] [] [] [] (e2 := [(1, l35 none a2), (2, .clo F_g3 C_g3), (15, l35 none a1), (16, .int .i64 (a1.length : Int)), (17, .int .i64 ((k1 + 1 : Nat) : Int))]) (by kernel_rfl) (fun _ h => h) ?_
    exact hN1 () h
def sl_Equal_int_j7 : Option Bool :=
  (some true)
def sl_Equal_int_l1 (a2 : (List Int)) (K7 : (Option Bool)) : List Int → Nat → Option Bool
  | [], k1 => K7
  | x1 :: r1, k1 => ((idx a2 (k1 : Int)).bind fun e12 => (bif (x1 != e12) then (some false) else (sl_Equal_int_l1 a2 K7 r1 (k1 + 1))))
def sl_Equal_int (a1 : (List Int)) (a2 : (List Int)) : Option Bool :=
  (bif ((a1.length : Int) != (a2.length : Int)) then (some false) else (chk (lenOk a1) (sl_Equal_int_l1 a2 (sl_Equal_int_j7) a1 0)))
theorem run_sl_Equal_int (a1 : (List Int)) (a2 : (List Int)) (r : Bool) (h : sl_Equal_int a1 a2 = some r) : Run Try.prog (.call 45 [l3 none a1, l3 none a2] (.bool r)) := by
  refine call_of_W Try.func45 rfl (by kernel_rfl) (env0 := [(0, l3 none a1), (1, l3 none a2)]) (by kernel_rfl) ?_
  unfold sl_Equal_int at h
  refine W.seq ?_
  refine W.regT [0, 1] [] [] [] (e2 := [(0, l3 none a1), (1, l3 none a2)]) (by kernel_rfl) (by kernel_rfl) (fun _ h => h) ?_
  refine W.seq ?_
  refine W.seq ?_
  refine W.region (by kernel_rfl) ?_
  refine WO.pureK 1 (some (.int .i64 ((List.map (AV.int .i64) a1).length : Int))) (v := .int .i64 (a1.length : Int)) (by kernel_rfl) (by rw [List.length_map]) (e1 := [(0, l3 none a1), (1, l3 none a2), (6, l3 none a1), (7, .int .i64 (a1.length : Int))]) (by kernel_rfl) ?_
  refine WO.pureK 1 (some (.int .i64 ((List.map (AV.int .i64) a2).length : Int))) (v := .int .i64 (a2.length : Int)) (by kernel_rfl) (by rw [List.length_map]) (e1 := [(0, l3 none a1), (1, l3 none a2), (6, l3 none a1), (7, .int .i64 (a1.length : Int)), (8, l3 none a2), (9, .int .i64 (a2.length : Int))]) (by kernel_rfl) ?_
  refine WO.fin [0, 1, 10] [] [] [] (e2 := [(0, l3 none a1), (1, l3 none a2), (10, .bool ((a1.length : Int) != (a2.length : Int)))]) (by kernel_rfl) (fun _ h => h) ?_
  refine W.condB ((a1.length : Int) != (a2.length : Int)) (by kernel_rfl) (fun hb => ?_) (fun hb => ?_)
  · replace h := cond_t hb h
    refine W.seq ?_
    refine W.regT [4] [] [] [] (e2 := [(4, .bool false)]) (by kernel_rfl) (by kernel_rfl) (fun _ h => h) ?_
    refine W.weak [4] [] [] [] (env' := [(4, .bool false)]) (by kernel_rfl) ?_
    have hr : aresults Try.prog Try.f45 [(4, .bool false)] = some (.bool false) := by kernel_rfl
    cases h
    exact W.ret hr
  replace h := cond_f hb h
  refine W.skip ?_
  refine W.weak [0, 1] [] [] [] (env' := [(0, l3 none a1), (1, l3 none a2)]) (by kernel_rfl) ?_
  refine W.seq ?_
  refine W.join (σ := Unit) (fun s => []) (fun s => (sl_Equal_int_j7) = some r) (fun s h => ?_) (fun hK7 => ?_)
  · have h : (sl_Equal_int_j7) = some r := h
    unfold sl_Equal_int_j7 at h
    refine W.seq ?_
    refine W.regT [4] [] [] [] (e2 := [(4, .bool true)]) (by kernel_rfl) (by kernel_rfl) (fun _ h => h) ?_
    refine W.weak [4] [] [] [] (env' := [(4, .bool true)]) (by kernel_rfl) ?_
    have hr : aresults Try.prog Try.f45 [(4, .bool true)] = some (.bool true) := by kernel_rfl
    cases h
    exact W.ret hr
  refine W.seq ?_
  refine W.region (by kernel_rfl) ?_
  refine WO.pureK 1 (some (.int .i64 ((List.map (AV.int .i64) a1).length : Int))) (v := .int .i64 (a1.length : Int)) (by kernel_rfl) (by rw [List.length_map]) (e1 := [(0, l3 none a1), (1, l3 none a2), (11, l3 none a1), (12, .int .i64 (a1.length : Int))]) (by kernel_rfl) ?_
  refine WO.fin [0, 1, 12, 13] [] [] [] (e2 := [(0, l3 none a1), (1, l3 none a2), (12, .int .i64 (a1.length : Int)), (13, .int .i64 0)]) (by kernel_rfl) (fun _ h => h) ?_
  refine W.block ?_
  obtain ⟨hl1, h⟩ := chk_some h
  refine W.weak [0, 1, 12, 13] [] [] [] (env' := [(0, l3 none a1), (1, l3 none a2), (12, .int .i64 (a1.length : Int)), (13, .int .i64 ((0 : Nat) : Int))]) (by kernel_rfl) ?_
  refine W.range (σ := Unit) a1 (fun k1 s => [(0, l3 none a1), (1, l3 none a2), (12, .int .i64 (a1.length : Int)), (13, .int .i64 (k1 : Int))]) (fun r0 k0 s => sl_Equal_int_l1 a2 (sl_Equal_int_j7) r0 k0 = some r) (fun s h => ?_) (fun x1 r1 k1 s hx1 hk1 h hN1 => ?_) () h
  · have h : sl_Equal_int_l1 a2 (sl_Equal_int_j7) [] (a1).length = some r := h
    rw [sl_Equal_int_l1.eq_1] at h
    refine W.seq ?_
    refine W.region (by kernel_rfl) ?_
    refine WO.pureK 0 (some (.bool (decide (((a1).length : Int) < (a1.length : Int))))) (v := .bool false) (by kernel_rfl) (by rw [lt_false (l := a1)]) (e1 := [(0, l3 none a1), (1, l3 none a2), (12, .int .i64 (a1.length : Int)), (13, .int .i64 ((a1).length : Int)), (14, .bool false)]) (by kernel_rfl) ?_
    refine WO.fin ([0, 1, 12, 13, 14]) [] [] [] (e2 := [(0, l3 none a1), (1, l3 none a2), (12, .int .i64 (a1.length : Int)), (13, .int .i64 ((a1).length : Int)), (14, .bool false)]) (by kernel_rfl) (fun _ h => h) ?_
    refine W.seq ?_
    refine W.condB false (by kernel_rfl) (fun h => Bool.noConfusion h) (fun _ => ?_)
    refine W.exit ?_
    refine W.weak [] [] [] [] (env' := []) (by kernel_rfl) ?_
    exact hK7 () h
  · have h : sl_Equal_int_l1 a2 (sl_Equal_int_j7) (x1 :: r1) k1 = some r := h
    rw [sl_Equal_int_l1.eq_2] at h
    refine W.seq ?_
    refine W.region (by kernel_rfl) ?_
    refine WO.pureK 0 (some (.bool (decide ((k1 : Int) < (a1.length : Int))))) (v := .bool true) (by kernel_rfl) (by rw [lt_true hk1]) (e1 := [(0, l3 none a1), (1, l3 none a2), (12, .int .i64 (a1.length : Int)), (13, .int .i64 (k1 : Int)), (14, .bool true)]) (by kernel_rfl) ?_
    refine WO.fin ([0, 1, 12, 13, 14]) [] [] [] (e2 := [(0, l3 none a1), (1, l3 none a2), (12, .int .i64 (a1.length : Int)), (13, .int .i64 (k1 : Int)), (14, .bool true)]) (by kernel_rfl) (fun _ h => h) ?_
    refine W.seq ?_
    refine W.condB true (by kernel_rfl) (fun _ => ?_) (fun h => Bool.noConfusion h)
    refine W.skip ?_
    refine W.weak [0, 1, 12, 13] [] [] [] (env' := [(0, l3 none a1), (1, l3 none a2), (12, .int .i64 (a1.length : Int)), (13, .int .i64 (k1 : Int))]) (by kernel_rfl) ?_
    refine W.seq ?_
    refine W.block ?_
    refine W.seq ?_
    refine W.regT [0, 1, 5, 12, 13] [] [] [] (e2 := [(0, l3 none a1), (1, l3 none a2), (5, .int .i64 (k1 : Int)), (12, .int .i64 (a1.length : Int)), (13, .int .i64 (k1 : Int))]) (by kernel_rfl) (by kernel_rfl) (fun _ h => h) ?_
    refine W.seq ?_
    refine W.region (by kernel_rfl) ?_
    refine WO.pureK 2 (if (0 : Int) ≤ (k1 : Int) then ((List.map (AV.int .i64) a1)[Int.toNat (k1 : Int)]?).map AV.ptr else none) (v := .ptr (.int .i64 x1)) (by kernel_rfl) (idx_nat (f := (AV.int .i64)) hx1) (e1 := [(0, l3 none a1), (1, l3 none a2), (5, .int .i64 (k1 : Int)), (12, .int .i64 (a1.length : Int)), (13, .int .i64 (k1 : Int)), (16, l3 none a1), (17, .int .i64 (k1 : Int)), (18, .ptr (.int .i64 x1))]) (by kernel_rfl) ?_
    obtain ⟨e12, he12, h⟩ := bind_some h
    refine WO.pureK 3 (if (0 : Int) ≤ (k1 : Int) then ((List.map (AV.int .i64) a2)[Int.toNat (k1 : Int)]?).map AV.ptr else none) (v := .ptr (.int .i64 e12)) (by kernel_rfl) (idx_av (f := (AV.int .i64)) he12) (e1 := [(0, l3 none a1), (1, l3 none a2), (5, .int .i64 (k1 : Int)), (12, .int .i64 (a1.length : Int)), (13, .int .i64 (k1 : Int)), (16, l3 none a1), (17, .int .i64 (k1 : Int)), (18, .ptr (.int .i64 x1)), (19, .int .i64 x1), (20, l3 none a2), (21, .int .i64 (k1 : Int)), (22, .ptr (.int .i64 e12))]) (by kernel_rfl) ?_
    refine WO.fin [0, 1, 12, 13, 24] [] [] [] (e2 := [(0, l3 none a1), (1, l3 none a2), (12, .int .i64 (a1.length : Int)), (13, .int .i64 (k1 : Int)), (24, .bool (x1 != e12))]) (by kernel_rfl) (fun _ h => h) ?_
    refine W.condB (x1 != e12) (by kernel_rfl) (fun hb => ?_) (fun hb => ?_)
    · replace h := cond_t hb h
      refine W.seq ?_
      refine W.regT [4] [] [] [] (e2 := [(4, .bool false)]) (by kernel_rfl) (by kernel_rfl) (fun _ h => h) ?_
      refine W.weak [4] [] [] [] (env' := [(4, .bool false)]) (by kernel_rfl) ?_
      have hr : aresults Try.prog Try.f45 [(4, .bool false)] = some (.bool false) := by kernel_rfl
      cases h
      exact W.ret hr
    replace h := cond_f hb h
    refine W.skip ?_
    refine W.weak [0, 1, 12, 13] [] [] [] (env' := [(0, l3 none a1), (1, l3 none a2), (12, .int .i64 (a1.length : Int)), (13, .int .i64 (k1 : Int))]) (by kernel_rfl) ?_
    refine W.region (by kernel_rfl) ?_
    refine WO.pureK 0 (some (.int .i64 (IntKind.wrap .i64 ((k1 : Int) + 1)))) (v := .int .i64 ((k1 + 1 : Nat) : Int)) (by kernel_rfl) (by rw [wrap_succ hl1 hk1]) (e1 := [(0, l3 none a1), (1, l3 none a2), (12, .int .i64 (a1.length : Int)), (13, .int .i64 (k1 : Int)), (25, .int .i64 ((k1 + 1 : Nat) : Int))]) (by kernel_rfl) ?_
    refine WO.fin [0, 1, 12, 13] [] [] [] (e2 := [(0, l3 none a1), (1, l3 none a2), (12, .int .i64 (a1.length : Int)), (13, .int .i64 ((k1 + 1 : Nat) : Int))]) (by kernel_rfl) (fun _ h => h) ?_
    exact hN1 () h
def lw1_same (a1 : (List (List Int))) (a2 : (List (List Int))) : Option Bool :=
  ((sl_EqualFunc_Lint a1 a2 (fun y0 y1 => sl_Equal_int y0 y1)).bind fun w5 => (some w5))
theorem run_lw1_same (a1 : (List (List Int))) (a2 : (List (List Int))) (r : Bool) (h : lw1_same a1 a2 = some r) : Run Try.prog (.call 34 [l35 none a1, l35 none a2] (.bool r)) := by
  refine call_of_W Try.func34 rfl (by kernel_rfl) (env0 := [(0, l35 none a1), (1, l35 none a2)]) (by kernel_rfl) ?_
  unfold lw1_same at h
  refine W.seq ?_
  refine W.regT [0, 1] [] [] [] (e2 := [(0, l35 none a1), (1, l35 none a2)]) (by kernel_rfl) (by kernel_rfl) (fun _ h => h) ?_
  refine W.seq ?_
  refine W.region (by kernel_rfl) ?_
  obtain ⟨w5, hw5, h⟩ := bind_some h
  refine WO.callK 2 (F := 64) (l := [l35 none a1, l35 none a2, .clo 45 []]) (C := []) (r := .bool w5) (by kernel_rfl) (by kernel_rfl) (run_sl_EqualFunc_Lint a1 a2 (fun y0 y1 => sl_Equal_int y0 y1) 45 [] (by kernel_rfl) (fun y0 y1 r h => run_sl_Equal_int y0 y1 r h) w5 hw5) (e1 := [(0, l35 none a1), (1, l35 none a2), (5, l35 none a1), (6, l35 none a2), (7, .bool w5)]) (by kernel_rfl) ?_
  refine WO.fin [4] [] [] [] (e2 := [(4, .bool w5)]) (by kernel_rfl) (fun _ h => h) ?_
  refine W.weak [4] [] [] [] (env' := [(4, .bool w5)]) (by kernel_rfl) ?_
  have hr : aresults Try.prog Try.f34 [(4, .bool w5)] = some (.bool w5) := by kernel_rfl
  cases h
  exact W.ret hr
def lw1_DependArmstrong_j10 (v12 : Bool) : Option Bool :=
  (some v12)
def lw1_DependArmstrong_j13 (v17 : Bool) : Option Bool :=
  (some v17)
def lw1_DependArmstrong (fuel : Nat) (a1 : Int) (a2 : (List rf1Dep)) : Option Bool :=
  ((lw1_deps a2).bind fun w5 => ((dp_Armstrong fuel a1 w5).bind fun w6 => ((rf1_Valid a1 a2).bind fun w9 => (bif (!w9) then (bif ((w6.1.length : Int) == 0) then (bif (w6.2 == 2) then ((lw1_awake fuel).bind fun w11 => ((lw1_DependArmstrong_j10) w11)) else ((lw1_DependArmstrong_j10) false)) else ((lw1_DependArmstrong_j10) false)) else ((rf1_Armstrong a1 a2).bind fun w14 => ((lw1_same w6.1 w14).bind fun w15 => (bif w15 then (bif (w6.2 == 0) then ((lw1_awake fuel).bind fun w16 => ((lw1_DependArmstrong_j13) w16)) else ((lw1_DependArmstrong_j13) false)) else ((lw1_DependArmstrong_j13) false))))))))
theorem run_lw1_DependArmstrong (fuel : Nat) (a1 : Int) (a2 : (List rf1Dep)) (r : Bool) (h : lw1_DependArmstrong fuel a1 a2 = some r) : Run Try.prog (.call 9 [.int .i64 a1, l40 none a2] (.bool r)) := by
  refine call_of_W Try.func9 rfl (by kernel_rfl) (env0 := [(0, .int .i64 a1), (1, l40 none a2)]) (by kernel_rfl) ?_
  unfold lw1_DependArmstrong at h
  refine W.seq ?_
  refine W.regT [0, 1] [] [] [] (e2 := [(0, .int .i64 a1), (1, l40 none a2)]) (by kernel_rfl) (by kernel_rfl) (fun _ h => h) ?_
  refine W.seq ?_
  refine W.region (by kernel_rfl) ?_
  obtain ⟨w5, hw5, h⟩ := bind_some h
  refine WO.callK 2 (F := 20) (l := [l40 none a2]) (C := []) (r := l33 (some 1) w5) (by kernel_rfl) (by kernel_rfl) (run_lw1_deps a2 w5 hw5) (e1 := [(0, .int .i64 a1), (1, l40 none a2), (8, .int .i64 a1), (9, l40 none a2), (10, l33 (some 10) w5)]) (by kernel_rfl) ?_
  obtain ⟨w6, hw6, h⟩ := bind_some h
  refine WO.callK 0 (F := 24) (l := [.int .i64 a1, l33 none w5]) (C := []) (r := .tup [l35 none w6.1, .int .i64 w6.2]) (by kernel_rfl) (by kernel_rfl) (run_dp_Armstrong fuel a1 w5 w6 hw6) (e1 := [(0, .int .i64 a1), (1, l40 none a2), (8, .int .i64 a1), (9, l40 none a2), (10, l33 (some 10) w5), (11, .tup [l35 none w6.1, .int .i64 w6.2])]) (by kernel_rfl) ?_
  refine WO.fin [0, 1, 5, 6] [] [] [] (e2 := [(0, .int .i64 a1), (1, l40 none a2), (5, l35 none w6.1), (6, .int .i64 w6.2)]) (by kernel_rfl) (fun _ h => h) ?_
  refine W.seq ?_
  refine W.seq ?_
  refine W.region (by kernel_rfl) ?_
  obtain ⟨w9, hw9, h⟩ := bind_some h
  refine WO.callK 2 (F := 28) (l := [.int .i64 a1, l40 none a2]) (C := []) (r := .bool w9) (by kernel_rfl) (by kernel_rfl) (run_rf1_Valid a1 a2 w9 hw9) (e1 := [(0, .int .i64 a1), (1, l40 none a2), (5, l35 none w6.1), (6, .int .i64 w6.2), (14, .int .i64 a1), (15, l40 none a2), (16, .bool w9)]) (by kernel_rfl) ?_
  refine WO.fin [0, 1, 5, 6, 17] [] [] [] (e2 := [(0, .int .i64 a1), (1, l40 none a2), (5, l35 none w6.1), (6, .int .i64 w6.2), (17, .bool (!w9))]) (by kernel_rfl) (fun _ h => h) ?_
  refine W.condB (!w9) (by kernel_rfl) (fun hb => ?_) (fun hb => ?_)
  · replace h := cond_t hb h
    refine W.seq ?_
    refine W.join (σ := (Bool)) (fun s => [(4, .bool s)]) (fun s => (lw1_DependArmstrong_j10) s = some r) (fun s h => ?_) (fun hK10 => ?_)
    · obtain ⟨v12, rfl⟩ : ∃ x, x = s := ⟨s, rfl⟩
      have h : (lw1_DependArmstrong_j10) v12 = some r := h
      unfold lw1_DependArmstrong_j10 at h
      refine W.weak [4] [] [] [] (env' := [(4, .bool v12)]) (by kernel_rfl) ?_
      have hr : aresults Try.prog Try.f9 [(4, .bool v12)] = some (.bool v12) := by kernel_rfl
      cases h
      exact W.ret hr
    refine W.region (by kernel_rfl) ?_
    refine WO.pureK 1 (some (.int .i64 ((List.map (encL 3 1 (AV.int .i64)) w6.1).length : Int))) (v := .int .i64 (w6.1.length : Int)) (by kernel_rfl) (by rw [List.length_map]) (e1 := [(0, .int .i64 a1), (1, l40 none a2), (5, l35 none w6.1), (6, .int .i64 w6.2), (17, .bool (!w9)), (18, l35 none w6.1), (19, .int .i64 (w6.1.length : Int))]) (by kernel_rfl) ?_
    refine WO.boolK 2 (fun b => [(0, .int .i64 a1), (1, l40 none a2), (5, l35 none w6.1), (6, .int .i64 w6.2), (17, .bool (!w9)), (18, l35 none w6.1), (19, .int .i64 (w6.1.length : Int)), (20, .bool b), (21, .bool b)]) ((w6.1.length : Int) == 0) (by kernel_rfl) (fun hb => ?_) (fun hb => ?_)
    · replace h := cond_t hb h
      refine WO.boolK 4 (fun b => [(0, .int .i64 a1), (1, l40 none a2), (5, l35 none w6.1), (6, .int .i64 w6.2), (17, .bool (!w9)), (18, l35 none w6.1), (19, .int .i64 (w6.1.length : Int)), (20, .bool true), (21, .bool true), (22, .int .i64 w6.2), (23, .bool b), (24, .bool b), (25, .bool b)]) (w6.2 == 2) (by kernel_rfl) (fun hb => ?_) (fun hb => ?_)
      · replace h := cond_t hb h
        obtain ⟨w11, hw11, h⟩ := bind_some h
        refine WO.callK 0 (F := 21) (l := []) (C := []) (r := .bool w11) (by kernel_rfl) (by kernel_rfl) (run_lw1_awake fuel w11 hw11) (e1 := [(0, .int .i64 a1), (1, l40 none a2), (5, l35 none w6.1), (6, .int .i64 w6.2), (17, .bool (!w9)), (18, l35 none w6.1), (19, .int .i64 (w6.1.length : Int)), (20, .bool true), (21, .bool true), (22, .int .i64 w6.2), (23, .bool true), (24, .bool true), (25, .bool true), (26, .bool w11)]) (by kernel_rfl) ?_
        refine WO.fin [4] [] [] [] (e2 := [(4, .bool w11)]) (by kernel_rfl) (fun _ h => h) ?_
        exact hK10 w11 h
      replace h := cond_f hb h
      refine WO.fin [4] [] [] [] (e2 := [(4, .bool false)]) (by kernel_rfl) (fun _ h => h) ?_
      exact hK10 false h
    replace h := cond_f hb h
    refine WO.fin [4] [] [] [] (e2 := [(4, .bool false)]) (by kernel_rfl) (fun _ h => h) ?_
    exact hK10 false h
  replace h := cond_f hb h
  refine W.skip ?_
  refine W.weak [0, 1, 5, 6] [] [] [] (env' := [(0, .int .i64 a1), (1, l40 none a2), (5, l35 none w6.1), (6, .int .i64 w6.2)]) (by kernel_rfl) ?_
  refine W.seq ?_
  refine W.join (σ := (Bool)) (fun s => [(4, .bool s)]) (fun s => (lw1_DependArmstrong_j13) s = some r) (fun s h => ?_) (fun hK13 => ?_)
  · obtain ⟨v17, rfl⟩ : ∃ x, x = s := ⟨s, rfl⟩
    have h : (lw1_DependArmstrong_j13) v17 = some r := h
    unfold lw1_DependArmstrong_j13 at h
    refine W.weak [4] [] [] [] (env' := [(4, .bool v17)]) (by kernel_rfl) ?_
    have hr : aresults Try.prog Try.f9 [(4, .bool v17)] = some (.bool v17) := by kernel_rfl
    cases h
    exact W.ret hr
  refine W.region (by kernel_rfl) ?_
  obtain ⟨w14, hw14, h⟩ := bind_some h
  refine WO.callK 3 (F := 35) (l := [.int .i64 a1, l40 none a2]) (C := []) (r := l35 (some 1) w14) (by kernel_rfl) (by kernel_rfl) (run_rf1_Armstrong a1 a2 w14 hw14) (e1 := [(0, .int .i64 a1), (1, l40 none a2), (5, l35 none w6.1), (6, .int .i64 w6.2), (28, l35 none w6.1), (29, .int .i64 a1), (30, l40 none a2), (31, l35 (some 31) w14)]) (by kernel_rfl) ?_
  obtain ⟨w15, hw15, h⟩ := bind_some h
  refine WO.callK 0 (F := 34) (l := [l35 none w6.1, l35 none w14]) (C := []) (r := .bool w15) (by kernel_rfl) (by kernel_rfl) (run_lw1_same w6.1 w14 w15 hw15) (e1 := [(0, .int .i64 a1), (1, l40 none a2), (5, l35 none w6.1), (6, .int .i64 w6.2), (28, l35 none w6.1), (29, .int .i64 a1), (30, l40 none a2), (31, l35 (some 31) w14), (32, .bool w15)]) (by kernel_rfl) ?_
  refine WO.boolK 1 (fun b => [(0, .int .i64 a1), (1, l40 none a2), (5, l35 none w6.1), (6, .int .i64 w6.2), (28, l35 none w6.1), (29, .int .i64 a1), (30, l40 none a2), (31, l35 (some 31) w14), (32, .bool b), (33, .bool b)]) w15 (by kernel_rfl) (fun hb => ?_) (fun hb => ?_)
  · replace h := cond_t hb h
    refine WO.boolK 4 (fun b => [(0, .int .i64 a1), (1, l40 none a2), (5, l35 none w6.1), (6, .int .i64 w6.2), (28, l35 none w6.1), (29, .int .i64 a1), (30, l40 none a2), (31, l35 (some 31) w14), (32, .bool true), (33, .bool true), (34, .int .i64 w6.2), (35, .bool b), (36, .bool b), (37, .bool b)]) (w6.2 == 0) (by kernel_rfl) (fun hb => ?_) (fun hb => ?_)
    · replace h := cond_t hb h
      obtain ⟨w16, hw16, h⟩ := bind_some h
      refine WO.callK 0 (F := 21) (l := []) (C := []) (r := .bool w16) (by kernel_rfl) (by kernel_rfl) (run_lw1_awake fuel w16 hw16) (e1 := [(0, .int .i64 a1), (1, l40 none a2), (5, l35 none w6.1), (6, .int .i64 w6.2), (28, l35 none w6.1), (29, .int .i64 a1), (30, l40 none a2), (31, l35 (some 31) w14), (32, .bool true), (33, .bool true), (34, .int .i64 w6.2), (35, .bool true), (36, .bool true), (37, .bool true), (38, .bool w16)]) (by kernel_rfl) ?_
      refine WO.fin [4] [] [] [] (e2 := [(4, .bool w16)]) (by kernel_rfl) (fun _ h => h) ?_
      exact hK13 w16 h
    replace h := cond_f hb h
    refine WO.fin [4] [] [] [] (e2 := [(4, .bool false)]) (by kernel_rfl) (fun _ h => h) ?_
    exact hK13 false h
  replace h := cond_f hb h
  refine WO.fin [4] [] [] [] (e2 := [(4, .bool false)]) (by kernel_rfl) (fun _ h => h) ?_
  exact hK13 false h
def rf1_Refute_j7 (a1 : Int) (v19 : (List Int)) : Option (List (List Int)) :=
  (chk (mkOk 8 a1) (some [(List.replicate (Int.toNat a1) 0), (snap 0 (Int.toNat a1) v19)]))
def rf1_Refute_j10 (N1 : ((List Int) → Option (List (List Int)))) (v18 : (List Int)) : Option (List (List Int)) :=
  (N1 v18)
def rf1_Refute_l1 (a1 : Int) (a2 : (List rf1Dep)) (a3 : rf1Dep) (K7 : ((List Int) → Option (List (List Int)))) : List Nat → Nat → (List Int) → Option (List (List Int))
  | [], k1, v9 => (K7 v9)
  | x1 :: r1, k1, v9 => ((rf1_Closure a2 a3.f_From).bind fun w13 => (chk (decide (0 ≤ (k1 : Int))) (bif ((iAnd .i64 (iShr .i64 w13 (k1 : Int)) 1) == 0) then (chk (decide ((0 : Int) ≤ (k1 : Int) ∧ (k1 : Int) < (((Int.toNat a1) : Nat) : Int))) ((upd v9 (0 + Int.toNat (k1 : Int)) 1).bind fun u16 => ((rf1_Refute_j10 (rf1_Refute_l1 a1 a2 a3 K7 r1 (k1 + 1))) u16))) else ((rf1_Refute_j10 (rf1_Refute_l1 a1 a2 a3 K7 r1 (k1 + 1))) v9))))
def rf1_Refute (a1 : Int) (a2 : (List rf1Dep)) (a3 : rf1Dep) : Option (List (List Int)) :=
  (chk (mkOk 8 a1) (chk (lenOk (List.range (Int.toNat a1))) (rf1_Refute_l1 a1 a2 a3 (rf1_Refute_j7 a1) (List.range (Int.toNat a1)) 0 (List.replicate (Int.toNat a1) 0))))
theorem run_rf1_Refute (a1 : Int) (a2 : (List rf1Dep)) (a3 : rf1Dep) (r : (List (List Int))) (h : rf1_Refute a1 a2 a3 = some r) : Run Try.prog (.call 39 [.int .i64 a1, l40 none a2, .agg [.int .i64 a3.f_From, .int .i64 a3.f_To]] (l35 (some 1) r)) := by
  refine call_of_W Try.func39 rfl (by kernel_rfl) (env0 := [(0, .int .i64 a1), (1, l40 none a2), (2, .agg [.int .i64 a3.f_From, .int .i64 a3.f_To])]) (by kernel_rfl) ?_
  unfold rf1_Refute at h
  refine W.seq ?_
  refine W.regT [0, 1, 5] [5] [] [] (e2 := [(0, .int .i64 a1), (1, l40 none a2), (5, .ptr (.agg [.int .i64 a3.f_From, .int .i64 a3.f_To]))]) (by kernel_rfl) (by kernel_rfl) (fun _ h => h) ?_
  refine W.seq ?_
  refine W.region (by kernel_rfl) ?_
  obtain ⟨hc6, h⟩ := chk_some h
  refine WO.makeK 1 (d := 10) (e := 3) (s := 1) (bytes := 8) (m := a1) (z := (.int .i64 0)) (zs := (List.map (AV.int .i64) (List.replicate (Int.toNat a1) 0))) (env1 := [(0, .int .i64 a1), (1, l40 none a2), (5, .ptr (.agg [.int .i64 a3.f_From, .int .i64 a3.f_To])), (9, .int .i64 a1), (10, .sb 1000010 3 1 0 (Int.toNat a1))]) (by kernel_rfl) hc6 (by first | exact rep_map | exact (rep_map (f := (AV.int .i64)))) (e1 := [(0, .int .i64 a1), (1, l40 none a2), (5, .ptr (.agg [.int .i64 a3.f_From, .int .i64 a3.f_To])), (9, .int .i64 a1), (10, .sb 1000010 3 1 0 (Int.toNat a1)), (1000010, .obj 3 1 (List.map (AV.int .i64) (List.replicate (Int.toNat a1) 0)))]) (by kernel_rfl) ?_
  refine WO.fin [0, 1, 5, 7, 1000010] [] [] [] (e2 := [(0, .int .i64 a1), (1, l40 none a2), (5, .ptr (.agg [.int .i64 a3.f_From, .int .i64 a3.f_To])), (7, .sb 1000010 3 1 0 (Int.toNat a1)), (1000010, .obj 3 1 (List.map (AV.int .i64) (List.replicate (Int.toNat a1) 0)))]) (by kernel_rfl) (fun _ h => h) ?_
  refine W.seq ?_
  refine W.join (σ := ((List Int))) (fun s => [(0, .int .i64 a1), (7, .sb 1000010 3 1 0 (Int.toNat a1)), (1000010, .obj 3 1 (List.map (AV.int .i64) s))]) (fun s => (rf1_Refute_j7 a1) s = some r) (fun s h => ?_) (fun hK7 => ?_)
  · obtain ⟨v19, rfl⟩ : ∃ x, x = s := ⟨s, rfl⟩
    have h : (rf1_Refute_j7 a1) v19 = some r := h
    unfold rf1_Refute_j7 at h
    refine W.seq ?_
    refine W.region (by kernel_rfl) ?_
    obtain ⟨hc21, h⟩ := chk_some h
    refine WO.makeK 1 (d := 28) (e := 3) (s := 1) (bytes := 8) (m := a1) (z := (.int .i64 0)) (zs := (List.map (AV.int .i64) (List.replicate (Int.toNat a1) 0))) (env1 := [(0, .int .i64 a1), (7, .sb 1000010 3 1 0 (Int.toNat a1)), (27, .int .i64 a1), (28, .sb 1000028 3 1 0 (Int.toNat a1)), (1000010, .obj 3 1 (List.map (AV.int .i64) v19))]) (by kernel_rfl) hc21 (by first | exact rep_map | exact (rep_map (f := (AV.int .i64)))) (e1 := [(0, .int .i64 a1), (7, .sb 1000010 3 1 0 (Int.toNat a1)), (27, .int .i64 a1), (28, .sb 1000028 3 1 0 (Int.toNat a1)), (1000010, .obj 3 1 (List.map (AV.int .i64) v19)), (1000028, .obj 3 1 (List.map (AV.int .i64) (List.replicate (Int.toNat a1) 0)))]) (by kernel_rfl) ?_
    refine WO.steps 1 (e1 := [(0, .int .i64 a1), (7, .sb 1000010 3 1 0 (Int.toNat a1)), (27, .int .i64 a1), (28, .sb 1000028 3 1 0 (Int.toNat a1)), (29, .sb 1000010 3 1 0 (Int.toNat a1)), (1000010, .obj 3 1 (List.map (AV.int .i64) v19)), (1000028, .obj 3 1 (List.map (AV.int .i64) (List.replicate (Int.toNat a1) 0)))]) (by kernel_rfl) ?_
    refine WO.mv [.frz 1000028] (env' := [(0, .int .i64 a1), (7, .sb 1000010 3 1 0 (Int.toNat a1)), (27, .int .i64 a1), (28, l3 none (List.replicate (Int.toNat a1) 0)), (29, .sb 1000010 3 1 0 (Int.toNat a1)), (1000010, .obj 3 1 (List.map (AV.int .i64) v19))]) ((by kernel_rfl : mvAll [(0, .int .i64 a1), (7, .sb 1000010 3 1 0 (Int.toNat a1)), (27, .int .i64 a1), (28, .sb 1000028 3 1 0 (Int.toNat a1)), (29, .sb 1000010 3 1 0 (Int.toNat a1)), (1000010, .obj 3 1 (List.map (AV.int .i64) v19)), (1000028, .obj 3 1 (List.map (AV.int .i64) (List.replicate (Int.toNat a1) 0)))] [.frz 1000028] = [(0, .int .i64 a1), (7, .sb 1000010 3 1 0 (Int.toNat a1)), (27, .int .i64 a1), (28, .lst 3 1 none (snapA 0 (Int.toNat a1) (List.map (AV.int .i64) (List.replicate (Int.toNat a1) 0)))), (29, .sb 1000010 3 1 0 (Int.toNat a1)), (1000010, .obj 3 1 (List.map (AV.int .i64) v19))]).trans (by first | (simp only [snap_map, snap_full, snap_rep]; done) | (simp only [snap_map, snap_full, snap_rep]; kernel_rfl))) ?_
    refine WO.mv [.frz 1000010] (env' := [(0, .int .i64 a1), (7, l3 none (snap 0 (Int.toNat a1) v19)), (27, .int .i64 a1), (28, l3 none (List.replicate (Int.toNat a1) 0)), (29, l3 none (snap 0 (Int.toNat a1) v19))]) ((by kernel_rfl : mvAll [(0, .int .i64 a1), (7, .sb 1000010 3 1 0 (Int.toNat a1)), (27, .int .i64 a1), (28, l3 none (List.replicate (Int.toNat a1) 0)), (29, .sb 1000010 3 1 0 (Int.toNat a1)), (1000010, .obj 3 1 (List.map (AV.int .i64) v19))] [.frz 1000010] = [(0, .int .i64 a1), (7, .lst 3 1 none (snapA 0 (Int.toNat a1) (List.map (AV.int .i64) v19))), (27, .int .i64 a1), (28, l3 none (List.replicate (Int.toNat a1) 0)), (29, .lst 3 1 none (snapA 0 (Int.toNat a1) (List.map (AV.int .i64) v19)))]).trans (by first | (simp only [snap_map, snap_full, snap_rep]; done) | (simp only [snap_map, snap_full, snap_rep]; kernel_rfl))) ?_
    refine WO.steps 1 (e1 := [(0, .int .i64 a1), (7, l3 none (snap 0 (Int.toNat a1) v19)), (27, .int .i64 a1), (28, l3 none (List.replicate (Int.toNat a1) 0)), (29, l3 none (snap 0 (Int.toNat a1) v19)), (30, l35 (some 30) [(List.replicate (Int.toNat a1) 0), (snap 0 (Int.toNat a1) v19)])]) (by kernel_rfl) ?_
    refine WO.fin [6] [] [] [] (e2 := [(6, l35 (some 30) [(List.replicate (Int.toNat a1) 0), (snap 0 (Int.toNat a1) v19)])]) (by kernel_rfl) (fun _ h => h) ?_
    refine W.weak [6] [] [] [(30, some 1)] (env' := [(6, l35 (some 1) [(List.replicate (Int.toNat a1) 0), (snap 0 (Int.toNat a1) v19)])]) (by kernel_rfl) ?_
    have hr : aresults Try.prog Try.f39 [(6, l35 (some 1) [(List.replicate (Int.toNat a1) 0), (snap 0 (Int.toNat a1) v19)])] = some (l35 (some 1) [(List.replicate (Int.toNat a1) 0), (snap 0 (Int.toNat a1) v19)]) := by kernel_rfl
    cases h
    exact W.ret hr
  refine W.seq ?_
  refine W.regT [0, 1, 5, 7, 11, 12, 1000010] [] [] [] (e2 := [(0, .int .i64 a1), (1, l40 none a2), (5, .ptr (.agg [.int .i64 a3.f_From, .int .i64 a3.f_To])), (7, .sb 1000010 3 1 0 (Int.toNat a1)), (11, .int .i64 a1), (12, .int .i64 0), (1000010, .obj 3 1 (List.map (AV.int .i64) (List.replicate (Int.toNat a1) 0)))]) (by kernel_rfl) (by kernel_rfl) (fun _ h => h) ?_
  refine W.block ?_
  obtain ⟨hl1, h⟩ := chk_some h
  refine W.weak [0, 1, 5, 7, 11, 12, 1000010] [] [] [] (env' := [(0, .int .i64 a1), (1, l40 none a2), (5, .ptr (.agg [.int .i64 a3.f_From, .int .i64 a3.f_To])), (7, .sb 1000010 3 1 0 (Int.toNat a1)), (11, .int .i64 a1), (12, .int .i64 ((0 : Nat) : Int)), (1000010, .obj 3 1 (List.map (AV.int .i64) (List.replicate (Int.toNat a1) 0)))]) (by kernel_rfl) ?_
  refine W.range (σ := ((List Int))) (List.range (Int.toNat a1)) (fun k1 s => [(0, .int .i64 a1), (1, l40 none a2), (5, .ptr (.agg [.int .i64 a3.f_From, .int .i64 a3.f_To])), (7, .sb 1000010 3 1 0 (Int.toNat a1)), (11, .int .i64 a1), (12, .int .i64 (k1 : Int)), (1000010, .obj 3 1 (List.map (AV.int .i64) s))]) (fun r0 k0 s => rf1_Refute_l1 a1 a2 a3 (rf1_Refute_j7 a1) r0 k0 s = some r) (fun s h => ?_) (fun x1 r1 k1 s hx1 hk1 h hN1 => ?_) (List.replicate (Int.toNat a1) 0) h
  · obtain ⟨v9, rfl⟩ : ∃ x, x = s := ⟨s, rfl⟩
    have h : rf1_Refute_l1 a1 a2 a3 (rf1_Refute_j7 a1) [] ((List.range (Int.toNat a1))).length v9 = some r := h
    rw [rf1_Refute_l1.eq_1] at h
    refine W.seq ?_
    refine W.region (by kernel_rfl) ?_
    refine WO.pureK 0 (some (.bool (decide ((((List.range (Int.toNat a1))).length : Int) < a1)))) (v := .bool false) (by kernel_rfl) (by rw [ltr_false (n := a1)]) (e1 := [(0, .int .i64 a1), (1, l40 none a2), (5, .ptr (.agg [.int .i64 a3.f_From, .int .i64 a3.f_To])), (7, .sb 1000010 3 1 0 (Int.toNat a1)), (11, .int .i64 a1), (12, .int .i64 (((List.range (Int.toNat a1))).length : Int)), (13, .bool false), (1000010, .obj 3 1 (List.map (AV.int .i64) v9))]) (by kernel_rfl) ?_
    refine WO.fin ([0, 1, 5, 7, 11, 12, 13, 1000010]) [] [] [] (e2 := [(0, .int .i64 a1), (1, l40 none a2), (5, .ptr (.agg [.int .i64 a3.f_From, .int .i64 a3.f_To])), (7, .sb 1000010 3 1 0 (Int.toNat a1)), (11, .int .i64 a1), (12, .int .i64 (((List.range (Int.toNat a1))).length : Int)), (13, .bool false), (1000010, .obj 3 1 (List.map (AV.int .i64) v9))]) (by kernel_rfl) (fun _ h => h) ?_
    refine W.seq ?_
    refine W.condB false (by kernel_rfl) (fun h => Bool.noConfusion h) (fun _ => ?_)
    refine W.exit ?_
    refine W.weak [0, 7, 1000010] [] [] [] (env' := [(0, .int .i64 a1), (7, .sb 1000010 3 1 0 (Int.toNat a1)), (1000010, .obj 3 1 (List.map (AV.int .i64) v9))]) (by kernel_rfl) ?_
    exact hK7 v9 h
  · obtain ⟨v9, rfl⟩ : ∃ x, x = s := ⟨s, rfl⟩
    have h : rf1_Refute_l1 a1 a2 a3 (rf1_Refute_j7 a1) (x1 :: r1) k1 v9 = some r := h
    rw [rf1_Refute_l1.eq_2] at h
    refine W.seq ?_
    refine W.region (by kernel_rfl) ?_
    refine WO.pureK 0 (some (.bool (decide ((k1 : Int) < a1)))) (v := .bool true) (by kernel_rfl) (by rw [ltr_true hk1]) (e1 := [(0, .int .i64 a1), (1, l40 none a2), (5, .ptr (.agg [.int .i64 a3.f_From, .int .i64 a3.f_To])), (7, .sb 1000010 3 1 0 (Int.toNat a1)), (11, .int .i64 a1), (12, .int .i64 (k1 : Int)), (13, .bool true), (1000010, .obj 3 1 (List.map (AV.int .i64) v9))]) (by kernel_rfl) ?_
    refine WO.fin ([0, 1, 5, 7, 11, 12, 13, 1000010]) [] [] [] (e2 := [(0, .int .i64 a1), (1, l40 none a2), (5, .ptr (.agg [.int .i64 a3.f_From, .int .i64 a3.f_To])), (7, .sb 1000010 3 1 0 (Int.toNat a1)), (11, .int .i64 a1), (12, .int .i64 (k1 : Int)), (13, .bool true), (1000010, .obj 3 1 (List.map (AV.int .i64) v9))]) (by kernel_rfl) (fun _ h => h) ?_
    refine W.seq ?_
    refine W.condB true (by kernel_rfl) (fun _ => ?_) (fun h => Bool.noConfusion h)
    refine W.skip ?_
    refine W.weak [0, 1, 5, 7, 11, 12, 1000010] [] [] [] (env' := [(0, .int .i64 a1), (1, l40 none a2), (5, .ptr (.agg [.int .i64 a3.f_From, .int .i64 a3.f_To])), (7, .sb 1000010 3 1 0 (Int.toNat a1)), (11, .int .i64 a1), (12, .int .i64 (k1 : Int)), (1000010, .obj 3 1 (List.map (AV.int .i64) v9))]) (by kernel_rfl) ?_
    refine W.seq ?_
    refine W.join (σ := ((List Int))) (fun s => [(0, .int .i64 a1), (1, l40 none a2), (5, .ptr (.agg [.int .i64 a3.f_From, .int .i64 a3.f_To])), (7, .sb 1000010 3 1 0 (Int.toNat a1)), (11, .int .i64 a1), (12, .int .i64 (k1 : Int)), (1000010, .obj 3 1 (List.map (AV.int .i64) s))]) (fun s => (rf1_Refute_j10 (rf1_Refute_l1 a1 a2 a3 (rf1_Refute_j7 a1) r1 (k1 + 1))) s = some r) (fun s h => ?_) (fun hK10 => ?_)
    · obtain ⟨v18, rfl⟩ : ∃ x, x = s := ⟨s, rfl⟩
      have h : (rf1_Refute_j10 (rf1_Refute_l1 a1 a2 a3 (rf1_Refute_j7 a1) r1 (k1 + 1))) v18 = some r := h
      unfold rf1_Refute_j10 at h
      refine W.region (by kernel_rfl) ?_
      refine WO.pureK 0 (some (.int .i64 (IntKind.wrap .i64 ((k1 : Int) + 1)))) (v := .int .i64 ((k1 + 1 : Nat) : Int)) (by kernel_rfl) (by rw [wrap_succ hl1 hk1]) (e1 := [(0, .int .i64 a1), (1, l40 none a2), (5, .ptr (.agg [.int .i64 a3.f_From, .int .i64 a3.f_To])), (7, .sb 1000010 3 1 0 (Int.toNat a1)), (11, .int .i64 a1), (12, .int .i64 (k1 : Int)), (26, .int .i64 ((k1 + 1 : Nat) : Int)), (1000010, .obj 3 1 (List.map (AV.int .i64) v18))]) (by kernel_rfl) ?_
      refine WO.fin [0, 1, 5, 7, 11, 12, 1000010] [] [] [] (e2 := [(0, .int .i64 a1), (1, l40 none a2), (5, .ptr (.agg [.int .i64 a3.f_From, .int .i64 a3.f_To])), (7, .sb 1000010 3 1 0 (Int.toNat a1)), (11, .int .i64 a1), (12, .int .i64 ((k1 + 1 : Nat) : Int)), (1000010, .obj 3 1 (List.map (AV.int .i64) v18))]) (by kernel_rfl) (fun _ h => h) ?_
      exact hN1 v18 h
    refine W.block ?_
    refine W.seq ?_
    refine W.regT [0, 1, 5, 7, 8, 11, 12, 1000010] [] [] [] (e2 := [(0, .int .i64 a1), (1, l40 none a2), (5, .ptr (.agg [.int .i64 a3.f_From, .int .i64 a3.f_To])), (7, .sb 1000010 3 1 0 (Int.toNat a1)), (8, .int .i64 (k1 : Int)), (11, .int .i64 a1), (12, .int .i64 (k1 : Int)), (1000010, .obj 3 1 (List.map (AV.int .i64) v9))]) (by kernel_rfl) (by kernel_rfl) (fun _ h => h) ?_
    refine W.seq ?_
    refine W.region (by kernel_rfl) ?_
    obtain ⟨w13, hw13, h⟩ := bind_some h
    refine WO.callK 3 (F := 38) (l := [l40 none a2, .int .i64 a3.f_From]) (C := []) (r := .int .i64 w13) (by kernel_rfl) (by kernel_rfl) (run_rf1_Closure a2 a3.f_From w13 hw13) (e1 := [(0, .int .i64 a1), (1, l40 none a2), (5, .ptr (.agg [.int .i64 a3.f_From, .int .i64 a3.f_To])), (7, .sb 1000010 3 1 0 (Int.toNat a1)), (8, .int .i64 (k1 : Int)), (11, .int .i64 a1), (12, .int .i64 (k1 : Int)), (15, l40 none a2), (16, .ptr (.int .i64 a3.f_From)), (17, .int .i64 a3.f_From), (18, .int .i64 w13), (1000010, .obj 3 1 (List.map (AV.int .i64) v9))]) (by kernel_rfl) ?_
    obtain ⟨hc14, h⟩ := chk_some h
    refine WO.pureK 1 (if (k1 : Int) < 0 then none else some (.int .i64 (iShr .i64 w13 (k1 : Int)))) (v := .int .i64 (iShr .i64 w13 (k1 : Int))) (by kernel_rfl) (if_neg (not_lt_of_chk hc14)) (e1 := [(0, .int .i64 a1), (1, l40 none a2), (5, .ptr (.agg [.int .i64 a3.f_From, .int .i64 a3.f_To])), (7, .sb 1000010 3 1 0 (Int.toNat a1)), (8, .int .i64 (k1 : Int)), (11, .int .i64 a1), (12, .int .i64 (k1 : Int)), (15, l40 none a2), (16, .ptr (.int .i64 a3.f_From)), (17, .int .i64 a3.f_From), (18, .int .i64 w13), (19, .int .i64 (k1 : Int)), (20, .int .i64 (iShr .i64 w13 (k1 : Int))), (1000010, .obj 3 1 (List.map (AV.int .i64) v9))]) (by kernel_rfl) ?_
    refine WO.fin [0, 1, 5, 7, 8, 11, 12, 22, 1000010] [] [] [] (e2 := [(0, .int .i64 a1), (1, l40 none a2), (5, .ptr (.agg [.int .i64 a3.f_From, .int .i64 a3.f_To])), (7, .sb 1000010 3 1 0 (Int.toNat a1)), (8, .int .i64 (k1 : Int)), (11, .int .i64 a1), (12, .int .i64 (k1 : Int)), (22, .bool ((iAnd .i64 (iShr .i64 w13 (k1 : Int)) 1) == 0)), (1000010, .obj 3 1 (List.map (AV.int .i64) v9))]) (by kernel_rfl) (fun _ h => h) ?_
    refine W.condB ((iAnd .i64 (iShr .i64 w13 (k1 : Int)) 1) == 0) (by kernel_rfl) (fun hb => ?_) (fun hb => ?_)
    · replace h := cond_t hb h
      refine W.region (by kernel_rfl) ?_
      obtain ⟨hc15, h⟩ := chk_some h
      refine WO.pureK 2 (if (0 : Int) ≤ (k1 : Int) ∧ (k1 : Int) < (((Int.toNat a1) : Nat) : Int) then some (.pe 1000010 1 (0 + Int.toNat (k1 : Int)) 0) else none) (v := .pe 1000010 1 (0 + Int.toNat (k1 : Int)) 0) (by kernel_rfl) (ite_some hc15) (e1 := [(0, .int .i64 a1), (1, l40 none a2), (5, .ptr (.agg [.int .i64 a3.f_From, .int .i64 a3.f_To])), (7, .sb 1000010 3 1 0 (Int.toNat a1)), (8, .int .i64 (k1 : Int)), (11, .int .i64 a1), (12, .int .i64 (k1 : Int)), (22, .bool ((iAnd .i64 (iShr .i64 w13 (k1 : Int)) 1) == 0)), (23, .sb 1000010 3 1 0 (Int.toNat a1)), (24, .int .i64 (k1 : Int)), (25, .pe 1000010 1 (0 + Int.toNat (k1 : Int)) 0), (1000010, .obj 3 1 (List.map (AV.int .i64) v9))]) (by kernel_rfl) ?_
      obtain ⟨u16, hu16, h⟩ := bind_some h
      obtain ⟨y17, hyy17, hzy17⟩ := upd_some hu16
      refine WO.storeK 0 (id := 1000010) (e := 3) (s := 1) (j := (0 + Int.toNat (k1 : Int))) (off := 0) (vs := [.int .i64 1]) (xs := (List.map (AV.int .i64) v9)) (zs := (List.map (AV.int .i64) u16)) (y := ((AV.int .i64)) y17) (y' := ((AV.int .i64)) 1) (by kernel_rfl) (upd_get hyy17) (by kernel_rfl) (upd_set hzy17) (e1 := [(0, .int .i64 a1), (1, l40 none a2), (5, .ptr (.agg [.int .i64 a3.f_From, .int .i64 a3.f_To])), (7, .sb 1000010 3 1 0 (Int.toNat a1)), (8, .int .i64 (k1 : Int)), (11, .int .i64 a1), (12, .int .i64 (k1 : Int)), (22, .bool ((iAnd .i64 (iShr .i64 w13 (k1 : Int)) 1) == 0)), (23, .sb 1000010 3 1 0 (Int.toNat a1)), (24, .int .i64 (k1 : Int)), (25, .pe 1000010 1 (0 + Int.toNat (k1 : Int)) 0), (1000010, .obj 3 1 (List.map (AV.int .i64) u16))]) (by kernel_rfl) ?_
      refine WO.fin [0, 1, 5, 7, 11, 12, 1000010] [] [] [] (e2 := [(0, .int .i64 a1), (1, l40 none a2), (5, .ptr (.agg [.int .i64 a3.f_From, .int .i64 a3.f_To])), (7, .sb 1000010 3 1 0 (Int.toNat a1)), (11, .int .i64 a1), (12, .int .i64 (k1 : Int)), (1000010, .obj 3 1 (List.map (AV.int .i64) u16))]) (by kernel_rfl) (fun _ h => h) ?_
      exact hK10 u16 h
    replace h := cond_f hb h
    refine W.skip ?_
    refine W.weak [0, 1, 5, 7, 11, 12, 1000010] [] [] [] (env' := [(0, .int .i64 a1), (1, l40 none a2), (5, .ptr (.agg [.int .i64 a3.f_From, .int .i64 a3.f_To])), (7, .sb 1000010 3 1 0 (Int.toNat a1)), (11, .int .i64 a1), (12, .int .i64 (k1 : Int)), (1000010, .obj 3 1 (List.map (AV.int .i64) v9))]) (by kernel_rfl) ?_
    exact hK10 v9 h
def lw1_DependFollows_j25 (v26 : Bool) : Option Bool :=
  (some v26)
def lw1_DependFollows_j35 (v36 : Bool) : Option Bool :=
  (some v36)
def lw1_DependFollows_j44 (v45 : Bool) : Option Bool :=
  (some v45)
def lw1_DependFollows_j46 (v49 : Bool) : Option Bool :=
  (some v49)
def lw1_DependFollows_j38 (a1 : Int) (a2 : (List rf1Dep)) (a3 : rf1Dep) (w11 : (Bool × Int)) (w15 : ((List (List Int)) × Int)) (v40 : Bool) : Option Bool :=
  (bif v40 then (some false) else (bif w11.1 then (bif ((w15.1.length : Int) == 0) then ((lw1_DependFollows_j44) (w15.2 == 5)) else ((lw1_DependFollows_j44) false)) else ((rf1_Refute a1 a2 a3).bind fun w47 => ((lw1_same w15.1 w47).bind fun w48 => (bif w48 then ((lw1_DependFollows_j46) (w15.2 == 0)) else ((lw1_DependFollows_j46) false))))))
def lw1_DependFollows_j28 (a1 : Int) (a2 : (List rf1Dep)) (a3 : rf1Dep) (w11 : (Bool × Int)) (w15 : ((List (List Int)) × Int)) (v30 : Bool) : Option Bool :=
  (bif v30 then (some false) else ((rf1_Pair a1 a3).bind fun w34 => (bif (!w34) then (bif (!w11.1) then (bif (w11.2 == 2) then (bif ((w15.1.length : Int) == 0) then ((lw1_DependFollows_j35) (w15.2 == 2)) else ((lw1_DependFollows_j35) false)) else ((lw1_DependFollows_j35) false)) else ((lw1_DependFollows_j35) false)) else ((rf1_Follows a2 a3).bind fun w39 => (bif (!(w11.1 == w39)) then ((lw1_DependFollows_j38 a1 a2 a3 w11 w15) true) else ((lw1_DependFollows_j38 a1 a2 a3 w11 w15) (w11.2 != 0)))))))
def lw1_DependFollows_j21 (a1 : Int) (a2 : (List rf1Dep)) (a3 : rf1Dep) (w7 : (Int × Int)) (w11 : (Bool × Int)) (w15 : ((List (List Int)) × Int)) (v24 : Bool) : Option Bool :=
  (bif v24 then (bif (w7.1 == 0) then (bif (w7.2 == 2) then (bif (!w11.1) then (bif (w11.2 == 2) then (bif ((w15.1.length : Int) == 0) then ((lw1_DependFollows_j25) (w15.2 == 2)) else ((lw1_DependFollows_j25) false)) else ((lw1_DependFollows_j25) false)) else ((lw1_DependFollows_j25) false)) else ((lw1_DependFollows_j25) false)) else ((lw1_DependFollows_j25) false)) else ((rf1_Closure a2 a3.f_From).bind fun w29 => (bif (w7.1 != w29) then ((lw1_DependFollows_j28 a1 a2 a3 w11 w15) true) else ((lw1_DependFollows_j28 a1 a2 a3 w11 w15) (w7.2 != 0)))))
def lw1_DependFollows (fuel : Nat) (a1 : Int) (a2 : (List rf1Dep)) (a3 : rf1Dep) : Option Bool :=
  ((lw1_deps a2).bind fun w6 => ((dp_Closure fuel a1 w6 a3.f_From).bind fun w7 => ((lw1_deps a2).bind fun w9 => ((lw1_dep a3).bind fun w10 => ((dp_Follows fuel a1 w9 w10).bind fun w11 => ((lw1_deps a2).bind fun w13 => ((lw1_dep a3).bind fun w14 => ((dp_Refute fuel a1 w13 w14).bind fun w15 => ((lw1_awake fuel).bind fun w18 => (bif (!w18) then (some false) else ((rf1_Valid a1 a2).bind fun w22 => (bif (!w22) then ((lw1_DependFollows_j21 a1 a2 a3 w7 w11 w15) true) else ((rf1_Set a1 a3.f_From).bind fun w23 => ((lw1_DependFollows_j21 a1 a2 a3 w7 w11 w15) (!w23)))))))))))))))
theorem run_lw1_DependFollows (fuel : Nat) (a1 : Int) (a2 : (List rf1Dep)) (a3 : rf1Dep) (r : Bool) (h : lw1_DependFollows fuel a1 a2 a3 = some r) : Run Try.prog (.call 10 [.int .i64 a1, l40 none a2, .agg [.int .i64 a3.f_From, .int .i64 a3.f_To]] (.bool r)) := by
  refine call_of_W Try.func10 rfl (by kernel_rfl) (env0 := [(0, .int .i64 a1), (1, l40 none a2), (2, .agg [.int .i64 a3.f_From, .int .i64 a3.f_To])]) (by kernel_rfl) ?_
  unfold lw1_DependFollows at h
  refine W.seq ?_
  refine W.regT [0, 1, 5] [5] [] [] (e2 := [(0, .int .i64 a1), (1, l40 none a2), (5, .ptr (.agg [.int .i64 a3.f_From, .int .i64 a3.f_To]))]) (by kernel_rfl) (by kernel_rfl) (fun _ h => h) ?_
  refine W.seq ?_
  refine W.region (by kernel_rfl) ?_
  obtain ⟨w6, hw6, h⟩ := bind_some h
  refine WO.callK 2 (F := 20) (l := [l40 none a2]) (C := []) (r := l33 (some 1) w6) (by kernel_rfl) (by kernel_rfl) (run_lw1_deps a2 w6 hw6) (e1 := [(0, .int .i64 a1), (1, l40 none a2), (5, .ptr (.agg [.int .i64 a3.f_From, .int .i64 a3.f_To])), (14, .int .i64 a1), (15, l40 none a2), (16, l33 none w6)]) (by kernel_rfl) ?_
  obtain ⟨w7, hw7, h⟩ := bind_some h
  refine WO.callK 2 (F := 19) (l := [.int .i64 a1, l33 none w6, .int .i64 a3.f_From]) (C := []) (r := .tup [.int .i64 w7.1, .int .i64 w7.2]) (by kernel_rfl) (by kernel_rfl) (run_dp_Closure fuel a1 w6 a3.f_From w7 hw7) (e1 := [(0, .int .i64 a1), (1, l40 none a2), (5, .ptr (.agg [.int .i64 a3.f_From, .int .i64 a3.f_To])), (14, .int .i64 a1), (15, l40 none a2), (16, l33 none w6), (17, .ptr (.int .i64 a3.f_From)), (18, .int .i64 a3.f_From), (19, .tup [.int .i64 w7.1, .int .i64 w7.2])]) (by kernel_rfl) ?_
  refine WO.fin [0, 1, 5, 7, 8] [] [] [] (e2 := [(0, .int .i64 a1), (1, l40 none a2), (5, .ptr (.agg [.int .i64 a3.f_From, .int .i64 a3.f_To])), (7, .int .i64 w7.1), (8, .int .i64 w7.2)]) (by kernel_rfl) (fun _ h => h) ?_
  refine W.seq ?_
  refine W.region (by kernel_rfl) ?_
  obtain ⟨w9, hw9, h⟩ := bind_some h
  refine WO.callK 2 (F := 20) (l := [l40 none a2]) (C := []) (r := l33 (some 1) w9) (by kernel_rfl) (by kernel_rfl) (run_lw1_deps a2 w9 hw9) (e1 := [(0, .int .i64 a1), (1, l40 none a2), (5, .ptr (.agg [.int .i64 a3.f_From, .int .i64 a3.f_To])), (7, .int .i64 w7.1), (8, .int .i64 w7.2), (23, .int .i64 a1), (24, l40 none a2), (25, l33 none w9)]) (by kernel_rfl) ?_
  obtain ⟨w10, hw10, h⟩ := bind_some h
  refine WO.callK 1 (F := 25) (l := [.agg [.int .i64 a3.f_From, .int .i64 a3.f_To]]) (C := []) (r := .agg [.int .i64 w10.f_From, .int .i64 w10.f_To]) (by kernel_rfl) (by kernel_rfl) (run_lw1_dep a3 w10 hw10) (e1 := [(0, .int .i64 a1), (1, l40 none a2), (5, .ptr (.agg [.int .i64 a3.f_From, .int .i64 a3.f_To])), (7, .int .i64 w7.1), (8, .int .i64 w7.2), (23, .int .i64 a1), (24, l40 none a2), (25, l33 none w9), (26, .agg [.int .i64 a3.f_From, .int .i64 a3.f_To]), (27, .agg [.int .i64 w10.f_From, .int .i64 w10.f_To])]) (by kernel_rfl) ?_
  obtain ⟨w11, hw11, h⟩ := bind_some h
  refine WO.callK 0 (F := 22) (l := [.int .i64 a1, l33 none w9, .agg [.int .i64 w10.f_From, .int .i64 w10.f_To]]) (C := []) (r := .tup [.bool w11.1, .int .i64 w11.2]) (by kernel_rfl) (by kernel_rfl) (run_dp_Follows fuel a1 w9 w10 w11 hw11) (e1 := [(0, .int .i64 a1), (1, l40 none a2), (5, .ptr (.agg [.int .i64 a3.f_From, .int .i64 a3.f_To])), (7, .int .i64 w7.1), (8, .int .i64 w7.2), (23, .int .i64 a1), (24, l40 none a2), (25, l33 none w9), (26, .agg [.int .i64 a3.f_From, .int .i64 a3.f_To]), (27, .agg [.int .i64 w10.f_From, .int .i64 w10.f_To]), (28, .tup [.bool w11.1, .int .i64 w11.2])]) (by kernel_rfl) ?_
  refine WO.fin [0, 1, 5, 7, 8, 9, 10] [] [] [] (e2 := [(0, .int .i64 a1), (1, l40 none a2), (5, .ptr (.agg [.int .i64 a3.f_From, .int .i64 a3.f_To])), (7, .int .i64 w7.1), (8, .int .i64 w7.2), (9, .bool w11.1), (10, .int .i64 w11.2)]) (by kernel_rfl) (fun _ h => h) ?_
  refine W.seq ?_
  refine W.region (by kernel_rfl) ?_
  obtain ⟨w13, hw13, h⟩ := bind_some h
  refine WO.callK 2 (F := 20) (l := [l40 none a2]) (C := []) (r := l33 (some 1) w13) (by kernel_rfl) (by kernel_rfl) (run_lw1_deps a2 w13 hw13) (e1 := [(0, .int .i64 a1), (1, l40 none a2), (5, .ptr (.agg [.int .i64 a3.f_From, .int .i64 a3.f_To])), (7, .int .i64 w7.1), (8, .int .i64 w7.2), (9, .bool w11.1), (10, .int .i64 w11.2), (32, .int .i64 a1), (33, l40 none a2), (34, l33 none w13)]) (by kernel_rfl) ?_
  obtain ⟨w14, hw14, h⟩ := bind_some h
  refine WO.callK 1 (F := 25) (l := [.agg [.int .i64 a3.f_From, .int .i64 a3.f_To]]) (C := []) (r := .agg [.int .i64 w14.f_From, .int .i64 w14.f_To]) (by kernel_rfl) (by kernel_rfl) (run_lw1_dep a3 w14 hw14) (e1 := [(0, .int .i64 a1), (1, l40 none a2), (5, .ptr (.agg [.int .i64 a3.f_From, .int .i64 a3.f_To])), (7, .int .i64 w7.1), (8, .int .i64 w7.2), (9, .bool w11.1), (10, .int .i64 w11.2), (32, .int .i64 a1), (33, l40 none a2), (34, l33 none w13), (35, .agg [.int .i64 a3.f_From, .int .i64 a3.f_To]), (36, .agg [.int .i64 w14.f_From, .int .i64 w14.f_To])]) (by kernel_rfl) ?_
  obtain ⟨w15, hw15, h⟩ := bind_some h
  refine WO.callK 0 (F := 36) (l := [.int .i64 a1, l33 none w13, .agg [.int .i64 w14.f_From, .int .i64 w14.f_To]]) (C := []) (r := .tup [l35 none w15.1, .int .i64 w15.2]) (by kernel_rfl) (by kernel_rfl) (run_dp_Refute fuel a1 w13 w14 w15 hw15) (e1 := [(0, .int .i64 a1), (1, l40 none a2), (5, .ptr (.agg [.int .i64 a3.f_From, .int .i64 a3.f_To])), (7, .int .i64 w7.1), (8, .int .i64 w7.2), (9, .bool w11.1), (10, .int .i64 w11.2), (32, .int .i64 a1), (33, l40 none a2), (34, l33 none w13), (35, .agg [.int .i64 a3.f_From, .int .i64 a3.f_To]), (36, .agg [.int .i64 w14.f_From, .int .i64 w14.f_To]), (37, .tup [l35 none w15.1, .int .i64 w15.2])]) (by kernel_rfl) ?_
  refine WO.fin [0, 1, 5, 7, 8, 9, 10, 11, 12] [] [] [] (e2 := [(0, .int .i64 a1), (1, l40 none a2), (5, .ptr (.agg [.int .i64 a3.f_From, .int .i64 a3.f_To])), (7, .int .i64 w7.1), (8, .int .i64 w7.2), (9, .bool w11.1), (10, .int .i64 w11.2), (11, l35 none w15.1), (12, .int .i64 w15.2)]) (by kernel_rfl) (fun _ h => h) ?_
  refine W.seq ?_
  refine W.seq ?_
  refine W.region (by kernel_rfl) ?_
  obtain ⟨w18, hw18, h⟩ := bind_some h
  refine WO.callK 0 (F := 21) (l := []) (C := []) (r := .bool w18) (by kernel_rfl) (by kernel_rfl) (run_lw1_awake fuel w18 hw18) (e1 := [(0, .int .i64 a1), (1, l40 none a2), (5, .ptr (.agg [.int .i64 a3.f_From, .int .i64 a3.f_To])), (7, .int .i64 w7.1), (8, .int .i64 w7.2), (9, .bool w11.1), (10, .int .i64 w11.2), (11, l35 none w15.1), (12, .int .i64 w15.2), (40, .bool w18)]) (by kernel_rfl) ?_
  refine WO.fin [0, 1, 5, 7, 8, 9, 10, 11, 12, 41] [] [] [] (e2 := [(0, .int .i64 a1), (1, l40 none a2), (5, .ptr (.agg [.int .i64 a3.f_From, .int .i64 a3.f_To])), (7, .int .i64 w7.1), (8, .int .i64 w7.2), (9, .bool w11.1), (10, .int .i64 w11.2), (11, l35 none w15.1), (12, .int .i64 w15.2), (41, .bool (!w18))]) (by kernel_rfl) (fun _ h => h) ?_
  refine W.condB (!w18) (by kernel_rfl) (fun hb => ?_) (fun hb => ?_)
  · replace h := cond_t hb h
    refine W.seq ?_
    refine W.regT [6] [] [] [] (e2 := [(6, .bool false)]) (by kernel_rfl) (by kernel_rfl) (fun _ h => h) ?_
    refine W.weak [6] [] [] [] (env' := [(6, .bool false)]) (by kernel_rfl) ?_
    have hr : aresults Try.prog Try.f10 [(6, .bool false)] = some (.bool false) := by kernel_rfl
    cases h
    exact W.ret hr
  replace h := cond_f hb h
  refine W.skip ?_
  refine W.weak [0, 1, 5, 7, 8, 9, 10, 11, 12] [] [] [] (env' := [(0, .int .i64 a1), (1, l40 none a2), (5, .ptr (.agg [.int .i64 a3.f_From, .int .i64 a3.f_To])), (7, .int .i64 w7.1), (8, .int .i64 w7.2), (9, .bool w11.1), (10, .int .i64 w11.2), (11, l35 none w15.1), (12, .int .i64 w15.2)]) (by kernel_rfl) ?_
  refine W.seq ?_
  refine W.seq ?_
  refine W.join (σ := (Bool)) (fun s => [(0, .int .i64 a1), (1, l40 none a2), (5, .ptr (.agg [.int .i64 a3.f_From, .int .i64 a3.f_To])), (7, .int .i64 w7.1), (8, .int .i64 w7.2), (9, .bool w11.1), (10, .int .i64 w11.2), (11, l35 none w15.1), (12, .int .i64 w15.2), (52, .bool s)]) (fun s => (lw1_DependFollows_j21 a1 a2 a3 w7 w11 w15) s = some r) (fun s h => ?_) (fun hK21 => ?_)
  · obtain ⟨v24, rfl⟩ : ∃ x, x = s := ⟨s, rfl⟩
    have h : (lw1_DependFollows_j21 a1 a2 a3 w7 w11 w15) v24 = some r := h
    unfold lw1_DependFollows_j21 at h
    refine W.condB v24 (by kernel_rfl) (fun hb => ?_) (fun hb => ?_)
    · replace h := cond_t hb h
      refine W.seq ?_
      refine W.join (σ := (Bool)) (fun s => [(6, .bool s)]) (fun s => (lw1_DependFollows_j25) s = some r) (fun s h => ?_) (fun hK25 => ?_)
      · obtain ⟨v26, rfl⟩ : ∃ x, x = s := ⟨s, rfl⟩
        have h : (lw1_DependFollows_j25) v26 = some r := h
        unfold lw1_DependFollows_j25 at h
        refine W.weak [6] [] [] [] (env' := [(6, .bool v26)]) (by kernel_rfl) ?_
        have hr : aresults Try.prog Try.f10 [(6, .bool v26)] = some (.bool v26) := by kernel_rfl
        cases h
        exact W.ret hr
      refine W.region (by kernel_rfl) ?_
      refine WO.boolK 3 (fun b => [(0, .int .i64 a1), (1, l40 none a2), (5, .ptr (.agg [.int .i64 a3.f_From, .int .i64 a3.f_To])), (7, .int .i64 w7.1), (8, .int .i64 w7.2), (9, .bool w11.1), (10, .int .i64 w11.2), (11, l35 none w15.1), (12, .int .i64 w15.2), (52, .bool v24), (53, .int .i64 w7.1), (54, .bool b), (55, .bool b)]) (w7.1 == 0) (by kernel_rfl) (fun hb => ?_) (fun hb => ?_)
      · replace h := cond_t hb h
        refine WO.boolK 4 (fun b => [(0, .int .i64 a1), (1, l40 none a2), (5, .ptr (.agg [.int .i64 a3.f_From, .int .i64 a3.f_To])), (7, .int .i64 w7.1), (8, .int .i64 w7.2), (9, .bool w11.1), (10, .int .i64 w11.2), (11, l35 none w15.1), (12, .int .i64 w15.2), (52, .bool v24), (53, .int .i64 w7.1), (54, .bool true), (55, .bool true), (56, .int .i64 w7.2), (57, .bool b), (58, .bool b), (59, .bool b)]) (w7.2 == 2) (by kernel_rfl) (fun hb => ?_) (fun hb => ?_)
        · replace h := cond_t hb h
          refine WO.boolK 4 (fun b => [(0, .int .i64 a1), (1, l40 none a2), (5, .ptr (.agg [.int .i64 a3.f_From, .int .i64 a3.f_To])), (7, .int .i64 w7.1), (8, .int .i64 w7.2), (9, .bool w11.1), (10, .int .i64 w11.2), (11, l35 none w15.1), (12, .int .i64 w15.2), (52, .bool v24), (53, .int .i64 w7.1), (54, .bool true), (55, .bool true), (56, .int .i64 w7.2), (57, .bool true), (58, .bool true), (59, .bool true), (60, .bool w11.1), (61, .bool b), (62, .bool b), (63, .bool b)]) (!w11.1) (by kernel_rfl) (fun hb => ?_) (fun hb => ?_)
          · replace h := cond_t hb h
            refine WO.boolK 4 (fun b => [(0, .int .i64 a1), (1, l40 none a2), (5, .ptr (.agg [.int .i64 a3.f_From, .int .i64 a3.f_To])), (7, .int .i64 w7.1), (8, .int .i64 w7.2), (9, .bool w11.1), (10, .int .i64 w11.2), (11, l35 none w15.1), (12, .int .i64 w15.2), (52, .bool v24), (53, .int .i64 w7.1), (54, .bool true), (55, .bool true), (56, .int .i64 w7.2), (57, .bool true), (58, .bool true), (59, .bool true), (60, .bool w11.1), (61, .bool true), (62, .bool true), (63, .bool true), (64, .int .i64 w11.2), (65, .bool b), (66, .bool b), (67, .bool b)]) (w11.2 == 2) (by kernel_rfl) (fun hb => ?_) (fun hb => ?_)
            · replace h := cond_t hb h
              refine WO.pureK 1 (some (.int .i64 ((List.map (encL 3 1 (AV.int .i64)) w15.1).length : Int))) (v := .int .i64 (w15.1.length : Int)) (by kernel_rfl) (by rw [List.length_map]) (e1 := [(0, .int .i64 a1), (1, l40 none a2), (5, .ptr (.agg [.int .i64 a3.f_From, .int .i64 a3.f_To])), (7, .int .i64 w7.1), (8, .int .i64 w7.2), (9, .bool w11.1), (10, .int .i64 w11.2), (11, l35 none w15.1), (12, .int .i64 w15.2), (52, .bool v24), (53, .int .i64 w7.1), (54, .bool true), (55, .bool true), (56, .int .i64 w7.2), (57, .bool true), (58, .bool true), (59, .bool true), (60, .bool w11.1), (61, .bool true), (62, .bool true), (63, .bool true), (64, .int .i64 w11.2), (65, .bool true), (66, .bool true), (67, .bool true), (68, l35 none w15.1), (69, .int .i64 (w15.1.length : Int))]) (by kernel_rfl) ?_
              refine WO.boolK 3 (fun b => [(0, .int .i64 a1), (1, l40 none a2), (5, .ptr (.agg [.int .i64 a3.f_From, .int .i64 a3.f_To])), (7, .int .i64 w7.1), (8, .int .i64 w7.2), (9, .bool w11.1), (10, .int .i64 w11.2), (11, l35 none w15.1), (12, .int .i64 w15.2), (52, .bool v24), (53, .int .i64 w7.1), (54, .bool true), (55, .bool true), (56, .int .i64 w7.2), (57, .bool true), (58, .bool true), (59, .bool true), (60, .bool w11.1), (61, .bool true), (62, .bool true), (63, .bool true), (64, .int .i64 w11.2), (65, .bool true), (66, .bool true), (67, .bool true), (68, l35 none w15.1), (69, .int .i64 (w15.1.length : Int)), (70, .bool b), (71, .bool b), (72, .bool b)]) ((w15.1.length : Int) == 0) (by kernel_rfl) (fun hb => ?_) (fun hb => ?_)
              · replace h := cond_t hb h
                refine WO.fin [6] [] [] [] (e2 := [(6, .bool (w15.2 == 2))]) (by kernel_rfl) (fun _ h => h) ?_
                exact hK25 (w15.2 == 2) h
              replace h := cond_f hb h
              refine WO.fin [6] [] [] [] (e2 := [(6, .bool false)]) (by kernel_rfl) (fun _ h => h) ?_
              exact hK25 false h
            replace h := cond_f hb h
            refine WO.fin [6] [] [] [] (e2 := [(6, .bool false)]) (by kernel_rfl) (fun _ h => h) ?_
            exact hK25 false h
          replace h := cond_f hb h
          refine WO.fin [6] [] [] [] (e2 := [(6, .bool false)]) (by kernel_rfl) (fun _ h => h) ?_
          exact hK25 false h
        replace h := cond_f hb h
        refine WO.fin [6] [] [] [] (e2 := [(6, .bool false)]) (by kernel_rfl) (fun _ h => h) ?_
        exact hK25 false h
      replace h := cond_f hb h
      refine WO.fin [6] [] [] [] (e2 := [(6, .bool false)]) (by kernel_rfl) (fun _ h => h) ?_
      exact hK25 false h
    replace h := cond_f hb h
    refine W.skip ?_
    refine W.weak [0, 1, 5, 7, 8, 9, 10, 11, 12] [] [] [] (env' := [(0, .int .i64 a1), (1, l40 none a2), (5, .ptr (.agg [.int .i64 a3.f_From, .int .i64 a3.f_To])), (7, .int .i64 w7.1), (8, .int .i64 w7.2), (9, .bool w11.1), (10, .int .i64 w11.2), (11, l35 none w15.1), (12, .int .i64 w15.2)]) (by kernel_rfl) ?_
    refine W.seq ?_
    refine W.seq ?_
    refine W.join (σ := (Bool)) (fun s => [(0, .int .i64 a1), (1, l40 none a2), (5, .ptr (.agg [.int .i64 a3.f_From, .int .i64 a3.f_To])), (9, .bool w11.1), (10, .int .i64 w11.2), (11, l35 none w15.1), (12, .int .i64 w15.2), (85, .bool s)]) (fun s => (lw1_DependFollows_j28 a1 a2 a3 w11 w15) s = some r) (fun s h => ?_) (fun hK28 => ?_)
    · obtain ⟨v30, rfl⟩ : ∃ x, x = s := ⟨s, rfl⟩
      have h : (lw1_DependFollows_j28 a1 a2 a3 w11 w15) v30 = some r := h
      unfold lw1_DependFollows_j28 at h
      refine W.condB v30 (by kernel_rfl) (fun hb => ?_) (fun hb => ?_)
      · replace h := cond_t hb h
        refine W.seq ?_
        refine W.regT [6] [] [] [] (e2 := [(6, .bool false)]) (by kernel_rfl) (by kernel_rfl) (fun _ h => h) ?_
        refine W.weak [6] [] [] [] (env' := [(6, .bool false)]) (by kernel_rfl) ?_
        have hr : aresults Try.prog Try.f10 [(6, .bool false)] = some (.bool false) := by kernel_rfl
        cases h
        exact W.ret hr
      replace h := cond_f hb h
      refine W.skip ?_
      refine W.weak [0, 1, 5, 9, 10, 11, 12] [] [] [] (env' := [(0, .int .i64 a1), (1, l40 none a2), (5, .ptr (.agg [.int .i64 a3.f_From, .int .i64 a3.f_To])), (9, .bool w11.1), (10, .int .i64 w11.2), (11, l35 none w15.1), (12, .int .i64 w15.2)]) (by kernel_rfl) ?_
      refine W.seq ?_
      refine W.seq ?_
      refine W.region (by kernel_rfl) ?_
      obtain ⟨w34, hw34, h⟩ := bind_some h
      refine WO.callK 2 (F := 31) (l := [.int .i64 a1, .agg [.int .i64 a3.f_From, .int .i64 a3.f_To]]) (C := []) (r := .bool w34) (by kernel_rfl) (by kernel_rfl) (run_rf1_Pair a1 a3 w34 hw34) (e1 := [(0, .int .i64 a1), (1, l40 none a2), (5, .ptr (.agg [.int .i64 a3.f_From, .int .i64 a3.f_To])), (9, .bool w11.1), (10, .int .i64 w11.2), (11, l35 none w15.1), (12, .int .i64 w15.2), (86, .int .i64 a1), (87, .agg [.int .i64 a3.f_From, .int .i64 a3.f_To]), (88, .bool w34)]) (by kernel_rfl) ?_
      refine WO.fin [0, 1, 5, 9, 10, 11, 12, 89] [] [] [] (e2 := [(0, .int .i64 a1), (1, l40 none a2), (5, .ptr (.agg [.int .i64 a3.f_From, .int .i64 a3.f_To])), (9, .bool w11.1), (10, .int .i64 w11.2), (11, l35 none w15.1), (12, .int .i64 w15.2), (89, .bool (!w34))]) (by kernel_rfl) (fun _ h => h) ?_
      refine W.condB (!w34) (by kernel_rfl) (fun hb => ?_) (fun hb => ?_)
      · replace h := cond_t hb h
        refine W.seq ?_
        refine W.join (σ := (Bool)) (fun s => [(6, .bool s)]) (fun s => (lw1_DependFollows_j35) s = some r) (fun s h => ?_) (fun hK35 => ?_)
        · obtain ⟨v36, rfl⟩ : ∃ x, x = s := ⟨s, rfl⟩
          have h : (lw1_DependFollows_j35) v36 = some r := h
          unfold lw1_DependFollows_j35 at h
          refine W.weak [6] [] [] [] (env' := [(6, .bool v36)]) (by kernel_rfl) ?_
          have hr : aresults Try.prog Try.f10 [(6, .bool v36)] = some (.bool v36) := by kernel_rfl
          cases h
          exact W.ret hr
        refine W.region (by kernel_rfl) ?_
        refine WO.boolK 3 (fun b => [(0, .int .i64 a1), (1, l40 none a2), (5, .ptr (.agg [.int .i64 a3.f_From, .int .i64 a3.f_To])), (9, .bool w11.1), (10, .int .i64 w11.2), (11, l35 none w15.1), (12, .int .i64 w15.2), (89, .bool (!w34)), (90, .bool w11.1), (91, .bool b), (92, .bool b)]) (!w11.1) (by kernel_rfl) (fun hb => ?_) (fun hb => ?_)
        · replace h := cond_t hb h
          refine WO.boolK 4 (fun b => [(0, .int .i64 a1), (1, l40 none a2), (5, .ptr (.agg [.int .i64 a3.f_From, .int .i64 a3.f_To])), (9, .bool w11.1), (10, .int .i64 w11.2), (11, l35 none w15.1), (12, .int .i64 w15.2), (89, .bool (!w34)), (90, .bool w11.1), (91, .bool true), (92, .bool true), (93, .int .i64 w11.2), (94, .bool b), (95, .bool b), (96, .bool b)]) (w11.2 == 2) (by kernel_rfl) (fun hb => ?_) (fun hb => ?_)
          · replace h := cond_t hb h
            refine WO.pureK 1 (some (.int .i64 ((List.map (encL 3 1 (AV.int .i64)) w15.1).length : Int))) (v := .int .i64 (w15.1.length : Int)) (by kernel_rfl) (by rw [List.length_map]) (e1 := [(0, .int .i64 a1), (1, l40 none a2), (5, .ptr (.agg [.int .i64 a3.f_From, .int .i64 a3.f_To])), (9, .bool w11.1), (10, .int .i64 w11.2), (11, l35 none w15.1), (12, .int .i64 w15.2), (89, .bool (!w34)), (90, .bool w11.1), (91, .bool true), (92, .bool true), (93, .int .i64 w11.2), (94, .bool true), (95, .bool true), (96, .bool true), (97, l35 none w15.1), (98, .int .i64 (w15.1.length : Int))]) (by kernel_rfl) ?_
            refine WO.boolK 3 (fun b => [(0, .int .i64 a1), (1, l40 none a2), (5, .ptr (.agg [.int .i64 a3.f_From, .int .i64 a3.f_To])), (9, .bool w11.1), (10, .int .i64 w11.2), (11, l35 none w15.1), (12, .int .i64 w15.2), (89, .bool (!w34)), (90, .bool w11.1), (91, .bool true), (92, .bool true), (93, .int .i64 w11.2), (94, .bool true), (95, .bool true), (96, .bool true), (97, l35 none w15.1), (98, .int .i64 (w15.1.length : Int)), (99, .bool b), (100, .bool b), (101, .bool b)]) ((w15.1.length : Int) == 0) (by kernel_rfl) (fun hb => ?_) (fun hb => ?_)
            · replace h := cond_t hb h
              refine WO.fin [6] [] [] [] (e2 := [(6, .bool (w15.2 == 2))]) (by kernel_rfl) (fun _ h => h) ?_
              exact hK35 (w15.2 == 2) h
            replace h := cond_f hb h
            refine WO.fin [6] [] [] [] (e2 := [(6, .bool false)]) (by kernel_rfl) (fun _ h => h) ?_
            exact hK35 false h
          replace h := cond_f hb h
          refine WO.fin [6] [] [] [] (e2 := [(6, .bool false)]) (by kernel_rfl) (fun _ h => h) ?_
          exact hK35 false h
        replace h := cond_f hb h
        refine WO.fin [6] [] [] [] (e2 := [(6, .bool false)]) (by kernel_rfl) (fun _ h => h) ?_
        exact hK35 false h
      replace h := cond_f hb h
      refine W.skip ?_
      refine W.weak [0, 1, 5, 9, 10, 11, 12] [] [] [] (env' := [(0, .int .i64 a1), (1, l40 none a2), (5, .ptr (.agg [.int .i64 a3.f_From, .int .i64 a3.f_To])), (9, .bool w11.1), (10, .int .i64 w11.2), (11, l35 none w15.1), (12, .int .i64 w15.2)]) (by kernel_rfl) ?_
      refine W.seq ?_
      refine W.seq ?_
      refine W.join (σ := (Bool)) (fun s => [(0, .int .i64 a1), (1, l40 none a2), (5, .ptr (.agg [.int .i64 a3.f_From, .int .i64 a3.f_To])), (9, .bool w11.1), (11, l35 none w15.1), (12, .int .i64 w15.2), (113, .bool s)]) (fun s => (lw1_DependFollows_j38 a1 a2 a3 w11 w15) s = some r) (fun s h => ?_) (fun hK38 => ?_)
      · obtain ⟨v40, rfl⟩ : ∃ x, x = s := ⟨s, rfl⟩
        have h : (lw1_DependFollows_j38 a1 a2 a3 w11 w15) v40 = some r := h
        unfold lw1_DependFollows_j38 at h
        refine W.condB v40 (by kernel_rfl) (fun hb => ?_) (fun hb => ?_)
        · replace h := cond_t hb h
          refine W.seq ?_
          refine W.regT [6] [] [] [] (e2 := [(6, .bool false)]) (by kernel_rfl) (by kernel_rfl) (fun _ h => h) ?_
          refine W.weak [6] [] [] [] (env' := [(6, .bool false)]) (by kernel_rfl) ?_
          have hr : aresults Try.prog Try.f10 [(6, .bool false)] = some (.bool false) := by kernel_rfl
          cases h
          exact W.ret hr
        replace h := cond_f hb h
        refine W.skip ?_
        refine W.weak [0, 1, 5, 9, 11, 12] [] [] [] (env' := [(0, .int .i64 a1), (1, l40 none a2), (5, .ptr (.agg [.int .i64 a3.f_From, .int .i64 a3.f_To])), (9, .bool w11.1), (11, l35 none w15.1), (12, .int .i64 w15.2)]) (by kernel_rfl) ?_
        refine W.seq ?_
        refine W.seq ?_
        refine W.regT [0, 1, 5, 11, 12, 114] [] [] [] (e2 := [(0, .int .i64 a1), (1, l40 none a2), (5, .ptr (.agg [.int .i64 a3.f_From, .int .i64 a3.f_To])), (11, l35 none w15.1), (12, .int .i64 w15.2), (114, .bool w11.1)]) (by kernel_rfl) (by kernel_rfl) (fun _ h => h) ?_
        refine W.condB w11.1 (by kernel_rfl) (fun hb => ?_) (fun hb => ?_)
        · replace h := cond_t hb h
          refine W.seq ?_
          refine W.join (σ := (Bool)) (fun s => [(6, .bool s)]) (fun s => (lw1_DependFollows_j44) s = some r) (fun s h => ?_) (fun hK44 => ?_)
          · obtain ⟨v45, rfl⟩ : ∃ x, x = s := ⟨s, rfl⟩
            have h : (lw1_DependFollows_j44) v45 = some r := h
            unfold lw1_DependFollows_j44 at h
            refine W.weak [6] [] [] [] (env' := [(6, .bool v45)]) (by kernel_rfl) ?_
            have hr : aresults Try.prog Try.f10 [(6, .bool v45)] = some (.bool v45) := by kernel_rfl
            cases h
            exact W.ret hr
          refine W.region (by kernel_rfl) ?_
          refine WO.pureK 1 (some (.int .i64 ((List.map (encL 3 1 (AV.int .i64)) w15.1).length : Int))) (v := .int .i64 (w15.1.length : Int)) (by kernel_rfl) (by rw [List.length_map]) (e1 := [(0, .int .i64 a1), (1, l40 none a2), (5, .ptr (.agg [.int .i64 a3.f_From, .int .i64 a3.f_To])), (11, l35 none w15.1), (12, .int .i64 w15.2), (114, .bool w11.1), (115, l35 none w15.1), (116, .int .i64 (w15.1.length : Int))]) (by kernel_rfl) ?_
          refine WO.boolK 2 (fun b => [(0, .int .i64 a1), (1, l40 none a2), (5, .ptr (.agg [.int .i64 a3.f_From, .int .i64 a3.f_To])), (11, l35 none w15.1), (12, .int .i64 w15.2), (114, .bool w11.1), (115, l35 none w15.1), (116, .int .i64 (w15.1.length : Int)), (117, .bool b), (118, .bool b)]) ((w15.1.length : Int) == 0) (by kernel_rfl) (fun hb => ?_) (fun hb => ?_)
          · replace h := cond_t hb h
            refine WO.fin [6] [] [] [] (e2 := [(6, .bool (w15.2 == 5))]) (by kernel_rfl) (fun _ h => h) ?_
            exact hK44 (w15.2 == 5) h
          replace h := cond_f hb h
          refine WO.fin [6] [] [] [] (e2 := [(6, .bool false)]) (by kernel_rfl) (fun _ h => h) ?_
          exact hK44 false h
        replace h := cond_f hb h
        refine W.skip ?_
        refine W.weak [0, 1, 5, 11, 12] [] [] [] (env' := [(0, .int .i64 a1), (1, l40 none a2), (5, .ptr (.agg [.int .i64 a3.f_From, .int .i64 a3.f_To])), (11, l35 none w15.1), (12, .int .i64 w15.2)]) (by kernel_rfl) ?_
        refine W.seq ?_
        refine W.join (σ := (Bool)) (fun s => [(6, .bool s)]) (fun s => (lw1_DependFollows_j46) s = some r) (fun s h => ?_) (fun hK46 => ?_)
        · obtain ⟨v49, rfl⟩ : ∃ x, x = s := ⟨s, rfl⟩
          have h : (lw1_DependFollows_j46) v49 = some r := h
          unfold lw1_DependFollows_j46 at h
          refine W.weak [6] [] [] [] (env' := [(6, .bool v49)]) (by kernel_rfl) ?_
          have hr : aresults Try.prog Try.f10 [(6, .bool v49)] = some (.bool v49) := by kernel_rfl
          cases h
          exact W.ret hr
        refine W.region (by kernel_rfl) ?_
        obtain ⟨w47, hw47, h⟩ := bind_some h
        refine WO.callK 4 (F := 39) (l := [.int .i64 a1, l40 none a2, .agg [.int .i64 a3.f_From, .int .i64 a3.f_To]]) (C := []) (r := l35 (some 1) w47) (by kernel_rfl) (by kernel_rfl) (run_rf1_Refute a1 a2 a3 w47 hw47) (e1 := [(0, .int .i64 a1), (1, l40 none a2), (5, .ptr (.agg [.int .i64 a3.f_From, .int .i64 a3.f_To])), (11, l35 none w15.1), (12, .int .i64 w15.2), (122, l35 none w15.1), (123, .int .i64 a1), (124, l40 none a2), (125, .agg [.int .i64 a3.f_From, .int .i64 a3.f_To]), (126, l35 (some 126) w47)]) (by kernel_rfl) ?_
        obtain ⟨w48, hw48, h⟩ := bind_some h
        refine WO.callK 0 (F := 34) (l := [l35 none w15.1, l35 none w47]) (C := []) (r := .bool w48) (by kernel_rfl) (by kernel_rfl) (run_lw1_same w15.1 w47 w48 hw48) (e1 := [(0, .int .i64 a1), (1, l40 none a2), (5, .ptr (.agg [.int .i64 a3.f_From, .int .i64 a3.f_To])), (11, l35 none w15.1), (12, .int .i64 w15.2), (122, l35 none w15.1), (123, .int .i64 a1), (124, l40 none a2), (125, .agg [.int .i64 a3.f_From, .int .i64 a3.f_To]), (126, l35 (some 126) w47), (127, .bool w48)]) (by kernel_rfl) ?_
        refine WO.boolK 1 (fun b => [(0, .int .i64 a1), (1, l40 none a2), (5, .ptr (.agg [.int .i64 a3.f_From, .int .i64 a3.f_To])), (11, l35 none w15.1), (12, .int .i64 w15.2), (122, l35 none w15.1), (123, .int .i64 a1), (124, l40 none a2), (125, .agg [.int .i64 a3.f_From, .int .i64 a3.f_To]), (126, l35 (some 126) w47), (127, .bool b), (128, .bool b)]) w48 (by kernel_rfl) (fun hb => ?_) (fun hb => ?_)
        · replace h := cond_t hb h
          refine WO.fin [6] [] [] [] (e2 := [(6, .bool (w15.2 == 0))]) (by kernel_rfl) (fun _ h => h) ?_
          exact hK46 (w15.2 == 0) h
        replace h := cond_f hb h
        refine WO.fin [6] [] [] [] (e2 := [(6, .bool false)]) (by kernel_rfl) (fun _ h => h) ?_
        exact hK46 false h
      refine W.region (by kernel_rfl) ?_
      obtain ⟨w39, hw39, h⟩ := bind_some h
      refine WO.callK 3 (F := 32) (l := [l40 none a2, .agg [.int .i64 a3.f_From, .int .i64 a3.f_To]]) (C := []) (r := .bool w39) (by kernel_rfl) (by kernel_rfl) (run_rf1_Follows a2 a3 w39 hw39) (e1 := [(0, .int .i64 a1), (1, l40 none a2), (5, .ptr (.agg [.int .i64 a3.f_From, .int .i64 a3.f_To])), (9, .bool w11.1), (10, .int .i64 w11.2), (11, l35 none w15.1), (12, .int .i64 w15.2), (105, .bool w11.1), (106, l40 none a2), (107, .agg [.int .i64 a3.f_From, .int .i64 a3.f_To]), (108, .bool w39)]) (by kernel_rfl) ?_
      refine WO.boolK 2 (fun b => [(0, .int .i64 a1), (1, l40 none a2), (5, .ptr (.agg [.int .i64 a3.f_From, .int .i64 a3.f_To])), (9, .bool w11.1), (10, .int .i64 w11.2), (11, l35 none w15.1), (12, .int .i64 w15.2), (105, .bool w11.1), (106, l40 none a2), (107, .agg [.int .i64 a3.f_From, .int .i64 a3.f_To]), (108, .bool w39), (109, .bool b), (110, .bool b)]) (!(w11.1 == w39)) (by kernel_rfl) (fun hb => ?_) (fun hb => ?_)
      · replace h := cond_t hb h
        refine WO.fin [0, 1, 5, 9, 11, 12, 113] [] [] [] (e2 := [(0, .int .i64 a1), (1, l40 none a2), (5, .ptr (.agg [.int .i64 a3.f_From, .int .i64 a3.f_To])), (9, .bool w11.1), (11, l35 none w15.1), (12, .int .i64 w15.2), (113, .bool true)]) (by kernel_rfl) (fun _ h => h) ?_
        exact hK38 true h
      replace h := cond_f hb h
      refine WO.fin [0, 1, 5, 9, 11, 12, 113] [] [] [] (e2 := [(0, .int .i64 a1), (1, l40 none a2), (5, .ptr (.agg [.int .i64 a3.f_From, .int .i64 a3.f_To])), (9, .bool w11.1), (11, l35 none w15.1), (12, .int .i64 w15.2), (113, .bool (w11.2 != 0))]) (by kernel_rfl) (fun _ h => h) ?_
      exact hK38 (w11.2 != 0) h
    refine W.region (by kernel_rfl) ?_
    obtain ⟨w29, hw29, h⟩ := bind_some h
    refine WO.callK 4 (F := 38) (l := [l40 none a2, .int .i64 a3.f_From]) (C := []) (r := .int .i64 w29) (by kernel_rfl) (by kernel_rfl) (run_rf1_Closure a2 a3.f_From w29 hw29) (e1 := [(0, .int .i64 a1), (1, l40 none a2), (5, .ptr (.agg [.int .i64 a3.f_From, .int .i64 a3.f_To])), (7, .int .i64 w7.1), (8, .int .i64 w7.2), (9, .bool w11.1), (10, .int .i64 w11.2), (11, l35 none w15.1), (12, .int .i64 w15.2), (76, .int .i64 w7.1), (77, l40 none a2), (78, .ptr (.int .i64 a3.f_From)), (79, .int .i64 a3.f_From), (80, .int .i64 w29)]) (by kernel_rfl) ?_
    refine WO.boolK 2 (fun b => [(0, .int .i64 a1), (1, l40 none a2), (5, .ptr (.agg [.int .i64 a3.f_From, .int .i64 a3.f_To])), (7, .int .i64 w7.1), (8, .int .i64 w7.2), (9, .bool w11.1), (10, .int .i64 w11.2), (11, l35 none w15.1), (12, .int .i64 w15.2), (76, .int .i64 w7.1), (77, l40 none a2), (78, .ptr (.int .i64 a3.f_From)), (79, .int .i64 a3.f_From), (80, .int .i64 w29), (81, .bool b), (82, .bool b)]) (w7.1 != w29) (by kernel_rfl) (fun hb => ?_) (fun hb => ?_)
    · replace h := cond_t hb h
      refine WO.fin [0, 1, 5, 9, 10, 11, 12, 85] [] [] [] (e2 := [(0, .int .i64 a1), (1, l40 none a2), (5, .ptr (.agg [.int .i64 a3.f_From, .int .i64 a3.f_To])), (9, .bool w11.1), (10, .int .i64 w11.2), (11, l35 none w15.1), (12, .int .i64 w15.2), (85, .bool true)]) (by kernel_rfl) (fun _ h => h) ?_
      exact hK28 true h
    replace h := cond_f hb h
    refine WO.fin [0, 1, 5, 9, 10, 11, 12, 85] [] [] [] (e2 := [(0, .int .i64 a1), (1, l40 none a2), (5, .ptr (.agg [.int .i64 a3.f_From, .int .i64 a3.f_To])), (9, .bool w11.1), (10, .int .i64 w11.2), (11, l35 none w15.1), (12, .int .i64 w15.2), (85, .bool (w7.2 != 0))]) (by kernel_rfl) (fun _ h => h) ?_
    exact hK28 (w7.2 != 0) h
  refine W.region (by kernel_rfl) ?_
  obtain ⟨w22, hw22, h⟩ := bind_some h
  refine WO.callK 2 (F := 28) (l := [.int .i64 a1, l40 none a2]) (C := []) (r := .bool w22) (by kernel_rfl) (by kernel_rfl) (run_rf1_Valid a1 a2 w22 hw22) (e1 := [(0, .int .i64 a1), (1, l40 none a2), (5, .ptr (.agg [.int .i64 a3.f_From, .int .i64 a3.f_To])), (7, .int .i64 w7.1), (8, .int .i64 w7.2), (9, .bool w11.1), (10, .int .i64 w11.2), (11, l35 none w15.1), (12, .int .i64 w15.2), (42, .int .i64 a1), (43, l40 none a2), (44, .bool w22)]) (by kernel_rfl) ?_
  refine WO.boolK 2 (fun b => [(0, .int .i64 a1), (1, l40 none a2), (5, .ptr (.agg [.int .i64 a3.f_From, .int .i64 a3.f_To])), (7, .int .i64 w7.1), (8, .int .i64 w7.2), (9, .bool w11.1), (10, .int .i64 w11.2), (11, l35 none w15.1), (12, .int .i64 w15.2), (42, .int .i64 a1), (43, l40 none a2), (44, .bool w22), (45, .bool b), (46, .bool b)]) (!w22) (by kernel_rfl) (fun hb => ?_) (fun hb => ?_)
  · replace h := cond_t hb h
    refine WO.fin [0, 1, 5, 7, 8, 9, 10, 11, 12, 52] [] [] [] (e2 := [(0, .int .i64 a1), (1, l40 none a2), (5, .ptr (.agg [.int .i64 a3.f_From, .int .i64 a3.f_To])), (7, .int .i64 w7.1), (8, .int .i64 w7.2), (9, .bool w11.1), (10, .int .i64 w11.2), (11, l35 none w15.1), (12, .int .i64 w15.2), (52, .bool true)]) (by kernel_rfl) (fun _ h => h) ?_
    exact hK21 true h
  replace h := cond_f hb h
  obtain ⟨w23, hw23, h⟩ := bind_some h
  refine WO.callK 3 (F := 37) (l := [.int .i64 a1, .int .i64 a3.f_From]) (C := []) (r := .bool w23) (by kernel_rfl) (by kernel_rfl) (run_rf1_Set a1 a3.f_From w23 hw23) (e1 := [(0, .int .i64 a1), (1, l40 none a2), (5, .ptr (.agg [.int .i64 a3.f_From, .int .i64 a3.f_To])), (7, .int .i64 w7.1), (8, .int .i64 w7.2), (9, .bool w11.1), (10, .int .i64 w11.2), (11, l35 none w15.1), (12, .int .i64 w15.2), (42, .int .i64 a1), (43, l40 none a2), (44, .bool w22), (45, .bool false), (46, .bool false), (47, .int .i64 a1), (48, .ptr (.int .i64 a3.f_From)), (49, .int .i64 a3.f_From), (50, .bool w23)]) (by kernel_rfl) ?_
  refine WO.fin [0, 1, 5, 7, 8, 9, 10, 11, 12, 52] [] [] [] (e2 := [(0, .int .i64 a1), (1, l40 none a2), (5, .ptr (.agg [.int .i64 a3.f_From, .int .i64 a3.f_To])), (7, .int .i64 w7.1), (8, .int .i64 w7.2), (9, .bool w11.1), (10, .int .i64 w11.2), (11, l35 none w15.1), (12, .int .i64 w15.2), (52, .bool (!w23))]) (by kernel_rfl) (fun _ h => h) ?_
  exact hK21 (!w23) h
def sl_Clone_int (a1 : (List Int)) : Option (List Int) := chk (capOk 8 a1.length) (some a1)
theorem run_sl_Clone_int (a1 : (List Int)) (r : (List Int)) (h : sl_Clone_int a1 = some r) : Run Try.prog (.call 67 [l3 none a1] (l3 (some 1) r)) := by
  refine call_of_W Try.func67 rfl (by kernel_rfl) (env0 := [(0, l3 none a1)]) (by kernel_rfl) ?_
  unfold sl_Clone_int at h
  obtain ⟨hc, h⟩ := chk_some h
  cases h
  refine W.regS [0] [] [] [] (e2 := [(0, l3 none a1)]) (by kernel_rfl) (by kernel_rfl) ?_
  refine W.seqU (e0 := [(0, l3 none a1), (3, l3 none a1), (4, .ub (List.map (AV.int .i64) a1).isEmpty)]) (e2 := [(2, l3 (some 1) a1)]) (ei := [(0, l3 none a1)]) (List.map (AV.int .i64) a1).isEmpty ?_ (by kernel_rfl) (fun hp => ?_) ?_ ?_ ?_
  · exact W.region (by kernel_rfl) (WO.end0 (e2 := [(0, l3 none a1), (3, l3 none a1), (4, .ub (List.map (AV.int .i64) a1).isEmpty)]) (by kernel_rfl) ⟨rfl, rfl⟩)
  · have hl : a1 = [] := by simpa using hp
    subst hl
    refine W.regS [2] [] [] [] (e2 := [(2, .nils)]) (by kernel_rfl) (by kernel_rfl) ?_
    refine W.weak [2] [] [(2, 0, 3, 1, 1)] [] (env' := [(2, l3 (some 1) [])]) (by kernel_rfl) ?_
    exact W.ret ⟨rfl, rfl⟩
  · refine W.weak [0] [] [] [] (env' := [(0, l3 none a1)]) (by kernel_rfl) ?_
    exact W.skip ⟨rfl, rfl⟩
  · refine W.seq ?_
    refine W.region (by kernel_rfl) ?_
    refine WO.appendK 2 (d := 7) (e := 3) (s := 1) (bytes := 8) (xs := []) (ys := (List.map (AV.int .i64) a1)) (zs := (List.map (AV.int .i64) a1)) (env1 := [(0, l3 none a1), (5, .lst 3 1 none []), (6, l3 none a1)]) (by kernel_rfl) rfl (by rw [List.length_map]; exact hc) (e1 := [(0, l3 none a1), (5, .lst 3 1 none []), (6, l3 none a1), (7, l3 (some 7) a1)]) (by kernel_rfl) ?_
    refine WO.fin [2] [] [] [(7, some 1)] (e2 := [(2, l3 (some 1) a1)]) (by kernel_rfl) (fun _ h => h) ?_
    exact W.ret ⟨rfl, rfl⟩
  · have hr : aresults Try.prog Try.f67 [(2, l3 (some 1) a1)] = some (l3 (some 1) a1) := by kernel_rfl
    exact hr

end Go.AM
