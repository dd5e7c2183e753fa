/- PRINTED by gen.py: pure functions and the proofs that the code computes them. No statement of the seat is proved here. -/
import Derived.Test.YtombfedoinhafaaG2
set_option linter.unusedVariables false
namespace Go.AM
open Go.Proofs
def lw1_DependShown_j15 (v17 : Bool) : Option Bool :=
  (some v17)
def lw1_DependShown_j55 (v57 : Bool) : Option Bool :=
  (some v57)
def lw1_DependShown_j19 (fuel : Nat) (w11 : (Bool × Int)) (v54 : Bool) : Option Bool :=
  (bif (v54 == w11.1) then ((lw1_awake fuel).bind fun w56 => ((lw1_DependShown_j55) w56)) else ((lw1_DependShown_j55) false))
def lw1_DependShown_j22 (N1 : (Bool → Option Bool)) (v53 : Bool) : Option Bool :=
  (N1 v53)
def lw1_DependShown_j27 (N2 : (Bool → Option Bool)) (v52 : Bool) : Option Bool :=
  (N2 v52)
def lw1_DependShown_j34 (v26 : Bool) (K27 : (Bool → Option Bool)) (v50 : Bool) (v51 : Bool) : Option Bool :=
  (bif v26 then (bif (!v50) then (K27 true) else (K27 v51)) else (K27 false))
def lw1_DependShown_j38 (N3 : (Bool → Bool → Option Bool)) (v48 : Bool) (v49 : Bool) : Option Bool :=
  (N3 v48 v49)
def lw1_DependShown_j40 (x1 : (List Int)) (x2 : (List Int)) (a3 : rf1Dep) (k3 : Nat) (v37 : Bool) (K38 : (Bool → Bool → Option Bool)) (v44 : Bool) : Option Bool :=
  (bif v37 then (chk (decide (0 ≤ (k3 : Int))) (bif ((iAnd .i64 (iShr .i64 a3.f_To (k3 : Int)) 1) == 0) then (K38 v44 true) else ((idx x1 (k3 : Int)).bind fun e46 => ((idx x2 (k3 : Int)).bind fun e47 => (K38 v44 (e46 == e47)))))) else (K38 v44 false))
def lw1_DependShown_l3 (x1 : (List Int)) (x2 : (List Int)) (a3 : rf1Dep) (K34 : (Bool → Bool → Option Bool)) : List Nat → Nat → Bool → Bool → Option Bool
  | [], k3, v36, v37 => (K34 v36 v37)
  | x3 :: r3, k3, v36, v37 => (bif v36 then (chk (decide (0 ≤ (k3 : Int))) (bif ((iAnd .i64 (iShr .i64 a3.f_From (k3 : Int)) 1) == 0) then ((lw1_DependShown_j40 x1 x2 a3 k3 v37 (lw1_DependShown_j38 (lw1_DependShown_l3 x1 x2 a3 K34 r3 (k3 + 1)))) true) else ((idx x1 (k3 : Int)).bind fun e42 => ((idx x2 (k3 : Int)).bind fun e43 => ((lw1_DependShown_j40 x1 x2 a3 k3 v37 (lw1_DependShown_j38 (lw1_DependShown_l3 x1 x2 a3 K34 r3 (k3 + 1)))) (e42 == e43)))))) else ((lw1_DependShown_j40 x1 x2 a3 k3 v37 (lw1_DependShown_j38 (lw1_DependShown_l3 x1 x2 a3 K34 r3 (k3 + 1)))) false))
def lw1_DependShown_j30 (a1 : Int) (x1 : (List Int)) (x2 : (List Int)) (a3 : rf1Dep) (v26 : Bool) (K27 : (Bool → Option Bool)) (v31 : Bool) : Option Bool :=
  (bif v31 then (some false) else (chk (lenOk (List.range (Int.toNat a1))) (lw1_DependShown_l3 x1 x2 a3 (lw1_DependShown_j34 v26 K27) (List.range (Int.toNat a1)) 0 true true)))
def lw1_DependShown_l2 (a1 : Int) (x1 : (List Int)) (a3 : rf1Dep) (K22 : (Bool → Option Bool)) : List (List Int) → Nat → Bool → Option Bool
  | [], k2, v26 => (K22 v26)
  | x2 :: r2, k2, v26 => (bif ((x1.length : Int) != a1) then ((lw1_DependShown_j30 a1 x1 x2 a3 v26 (lw1_DependShown_j27 (lw1_DependShown_l2 a1 x1 a3 K22 r2 (k2 + 1)))) true) else ((lw1_DependShown_j30 a1 x1 x2 a3 v26 (lw1_DependShown_j27 (lw1_DependShown_l2 a1 x1 a3 K22 r2 (k2 + 1)))) ((x2.length : Int) != a1)))
def lw1_DependShown_l1 (a1 : Int) (a3 : rf1Dep) (w7 : ((List (List Int)) × Int)) (K19 : (Bool → Option Bool)) : List (List Int) → Nat → Bool → Option Bool
  | [], k1, v21 => (K19 v21)
  | x1 :: r1, k1, v21 => ((sub w7.1 0 (k1 : Int)).bind fun e25 => (chk (lenOk e25) (lw1_DependShown_l2 a1 x1 a3 (lw1_DependShown_j22 (lw1_DependShown_l1 a1 a3 w7 K19 r1 (k1 + 1))) e25 0 v21)))
def lw1_DependShown_j13 (fuel : Nat) (a1 : Int) (a3 : rf1Dep) (w7 : ((List (List Int)) × Int)) (w11 : (Bool × Int)) (v14 : Bool) : Option Bool :=
  (bif v14 then (bif (w11.2 == 2) then ((lw1_awake fuel).bind fun w16 => ((lw1_DependShown_j15) w16)) else ((lw1_DependShown_j15) false)) else (chk (lenOk w7.1) (lw1_DependShown_l1 a1 a3 w7 (lw1_DependShown_j19 fuel w11) w7.1 0 true)))
def lw1_DependShown (fuel : Nat) (a1 : Int) (a2 : (List rf1Dep)) (a3 : rf1Dep) : Option Bool :=
  ((lw1_deps a2).bind fun w6 => ((dp_Armstrong fuel a1 w6).bind fun w7 => ((lw1_deps a2).bind fun w9 => ((lw1_dep a3).bind fun w10 => ((dp_Follows fuel a1 w9 w10).bind fun w11 => (bif (w7.2 != 0) then ((lw1_DependShown_j13 fuel a1 a3 w7 w11) true) else ((lw1_DependShown_j13 fuel a1 a3 w7 w11) (w11.2 != 0))))))))
theorem run_lw1_DependShown (fuel : Nat) (a1 : Int) (a2 : (List rf1Dep)) (a3 : rf1Dep) (r : Bool) (h : lw1_DependShown fuel a1 a2 a3 = some r) : Run Try.prog (.call 6 [.int .i64 a1, l40 none a2, .agg [.int .i64 a3.f_From, .int .i64 a3.f_To]] (.bool r)) := by
  refine call_of_W Try.func6 rfl (by kernel_rfl) (env0 := [(0, .int .i64 a1), (1, l40 none a2), (2, .agg [.int .i64 a3.f_From, .int .i64 a3.f_To])]) (by kernel_rfl) ?_
  unfold lw1_DependShown at h
  refine W.seq ?_
  refine W.regT [0, 1, 5] [5] [] [] (e2 := [(0, .int .i64 a1), (1, l40 none a2), (5, .ptr (.agg [.int .i64 a3.f_From, .int .i64 a3.f_To]))]) (by kernel_rfl) (by kernel_rfl) (fun _ h => h) ?_
  refine W.seq ?_
  refine W.region (by kernel_rfl) ?_
  obtain ⟨w6, hw6, h⟩ := bind_some h
  refine WO.callK 2 (F := 20) (l := [l40 none a2]) (C := []) (r := l33 (some 1) w6) (by kernel_rfl) (by kernel_rfl) (run_lw1_deps a2 w6 hw6) (e1 := [(0, .int .i64 a1), (1, l40 none a2), (5, .ptr (.agg [.int .i64 a3.f_From, .int .i64 a3.f_To])), (20, .int .i64 a1), (21, l40 none a2), (22, l33 (some 22) w6)]) (by kernel_rfl) ?_
  obtain ⟨w7, hw7, h⟩ := bind_some h
  refine WO.callK 0 (F := 24) (l := [.int .i64 a1, l33 none w6]) (C := []) (r := .tup [l35 none w7.1, .int .i64 w7.2]) (by kernel_rfl) (by kernel_rfl) (run_dp_Armstrong fuel a1 w6 w7 hw7) (e1 := [(0, .int .i64 a1), (1, l40 none a2), (5, .ptr (.agg [.int .i64 a3.f_From, .int .i64 a3.f_To])), (20, .int .i64 a1), (21, l40 none a2), (22, l33 (some 22) w6), (23, .tup [l35 none w7.1, .int .i64 w7.2])]) (by kernel_rfl) ?_
  refine WO.fin [0, 1, 5, 7, 8] [] [] [] (e2 := [(0, .int .i64 a1), (1, l40 none a2), (5, .ptr (.agg [.int .i64 a3.f_From, .int .i64 a3.f_To])), (7, l35 none w7.1), (8, .int .i64 w7.2)]) (by kernel_rfl) (fun _ h => h) ?_
  refine W.seq ?_
  refine W.region (by kernel_rfl) ?_
  obtain ⟨w9, hw9, h⟩ := bind_some h
  refine WO.callK 2 (F := 20) (l := [l40 none a2]) (C := []) (r := l33 (some 1) w9) (by kernel_rfl) (by kernel_rfl) (run_lw1_deps a2 w9 hw9) (e1 := [(0, .int .i64 a1), (1, l40 none a2), (5, .ptr (.agg [.int .i64 a3.f_From, .int .i64 a3.f_To])), (7, l35 none w7.1), (8, .int .i64 w7.2), (27, .int .i64 a1), (28, l40 none a2), (29, l33 none w9)]) (by kernel_rfl) ?_
  obtain ⟨w10, hw10, h⟩ := bind_some h
  refine WO.callK 1 (F := 25) (l := [.agg [.int .i64 a3.f_From, .int .i64 a3.f_To]]) (C := []) (r := .agg [.int .i64 w10.f_From, .int .i64 w10.f_To]) (by kernel_rfl) (by kernel_rfl) (run_lw1_dep a3 w10 hw10) (e1 := [(0, .int .i64 a1), (1, l40 none a2), (5, .ptr (.agg [.int .i64 a3.f_From, .int .i64 a3.f_To])), (7, l35 none w7.1), (8, .int .i64 w7.2), (27, .int .i64 a1), (28, l40 none a2), (29, l33 none w9), (30, .agg [.int .i64 a3.f_From, .int .i64 a3.f_To]), (31, .agg [.int .i64 w10.f_From, .int .i64 w10.f_To])]) (by kernel_rfl) ?_
  obtain ⟨w11, hw11, h⟩ := bind_some h
  refine WO.callK 0 (F := 22) (l := [.int .i64 a1, l33 none w9, .agg [.int .i64 w10.f_From, .int .i64 w10.f_To]]) (C := []) (r := .tup [.bool w11.1, .int .i64 w11.2]) (by kernel_rfl) (by kernel_rfl) (run_dp_Follows fuel a1 w9 w10 w11 hw11) (e1 := [(0, .int .i64 a1), (1, l40 none a2), (5, .ptr (.agg [.int .i64 a3.f_From, .int .i64 a3.f_To])), (7, l35 none w7.1), (8, .int .i64 w7.2), (27, .int .i64 a1), (28, l40 none a2), (29, l33 none w9), (30, .agg [.int .i64 a3.f_From, .int .i64 a3.f_To]), (31, .agg [.int .i64 w10.f_From, .int .i64 w10.f_To]), (32, .tup [.bool w11.1, .int .i64 w11.2])]) (by kernel_rfl) ?_
  refine WO.fin [0, 5, 7, 8, 9, 10] [] [] [] (e2 := [(0, .int .i64 a1), (5, .ptr (.agg [.int .i64 a3.f_From, .int .i64 a3.f_To])), (7, l35 none w7.1), (8, .int .i64 w7.2), (9, .bool w11.1), (10, .int .i64 w11.2)]) (by kernel_rfl) (fun _ h => h) ?_
  refine W.seq ?_
  refine W.seq ?_
  refine W.join (σ := (Bool)) (fun s => [(0, .int .i64 a1), (5, .ptr (.agg [.int .i64 a3.f_From, .int .i64 a3.f_To])), (7, l35 none w7.1), (9, .bool w11.1), (10, .int .i64 w11.2), (40, .bool s)]) (fun s => (lw1_DependShown_j13 fuel a1 a3 w7 w11) s = some r) (fun s h => ?_) (fun hK13 => ?_)
  · obtain ⟨v14, rfl⟩ : ∃ x, x = s := ⟨s, rfl⟩
    have h : (lw1_DependShown_j13 fuel a1 a3 w7 w11) v14 = some r := h
    unfold lw1_DependShown_j13 at h
    refine W.condB v14 (by kernel_rfl) (fun hb => ?_) (fun hb => ?_)
    · replace h := cond_t hb h
      refine W.seq ?_
      refine W.join (σ := (Bool)) (fun s => [(6, .bool s)]) (fun s => (lw1_DependShown_j15) s = some r) (fun s h => ?_) (fun hK15 => ?_)
      · obtain ⟨v17, rfl⟩ : ∃ x, x = s := ⟨s, rfl⟩
        have h : (lw1_DependShown_j15) v17 = some r := h
        unfold lw1_DependShown_j15 at h
        refine W.weak [6] [] [] [] (env' := [(6, .bool v17)]) (by kernel_rfl) ?_
        have hr : aresults Try.prog Try.f6 [(6, .bool v17)] = some (.bool v17) := by kernel_rfl
        cases h
        exact W.ret hr
      refine W.region (by kernel_rfl) ?_
      refine WO.boolK 3 (fun b => [(0, .int .i64 a1), (5, .ptr (.agg [.int .i64 a3.f_From, .int .i64 a3.f_To])), (7, l35 none w7.1), (9, .bool w11.1), (10, .int .i64 w11.2), (40, .bool v14), (41, .int .i64 w11.2), (42, .bool b), (43, .bool b)]) (w11.2 == 2) (by kernel_rfl) (fun hb => ?_) (fun hb => ?_)
      · replace h := cond_t hb h
        obtain ⟨w16, hw16, h⟩ := bind_some h
        refine WO.callK 0 (F := 21) (l := []) (C := []) (r := .bool w16) (by kernel_rfl) (by kernel_rfl) (run_lw1_awake fuel w16 hw16) (e1 := [(0, .int .i64 a1), (5, .ptr (.agg [.int .i64 a3.f_From, .int .i64 a3.f_To])), (7, l35 none w7.1), (9, .bool w11.1), (10, .int .i64 w11.2), (40, .bool v14), (41, .int .i64 w11.2), (42, .bool true), (43, .bool true), (44, .bool w16)]) (by kernel_rfl) ?_
        refine WO.fin [6] [] [] [] (e2 := [(6, .bool w16)]) (by kernel_rfl) (fun _ h => h) ?_
        exact hK15 w16 h
      replace h := cond_f hb h
      refine WO.fin [6] [] [] [] (e2 := [(6, .bool false)]) (by kernel_rfl) (fun _ h => h) ?_
      exact hK15 false h
    replace h := cond_f hb h
    refine W.skip ?_
    refine W.weak [0, 5, 7, 9] [] [] [] (env' := [(0, .int .i64 a1), (5, .ptr (.agg [.int .i64 a3.f_From, .int .i64 a3.f_To])), (7, l35 none w7.1), (9, .bool w11.1)]) (by kernel_rfl) ?_
    refine W.seq ?_
    refine W.regT [0, 5, 7, 9, 11] [] [] [] (e2 := [(0, .int .i64 a1), (5, .ptr (.agg [.int .i64 a3.f_From, .int .i64 a3.f_To])), (7, l35 none w7.1), (9, .bool w11.1), (11, .bool true)]) (by kernel_rfl) (by kernel_rfl) (fun _ h => h) ?_
    refine W.seq ?_
    refine W.join (σ := (Bool)) (fun s => [(9, .bool w11.1), (11, .bool s)]) (fun s => (lw1_DependShown_j19 fuel w11) s = some r) (fun s h => ?_) (fun hK19 => ?_)
    · obtain ⟨v54, rfl⟩ : ∃ x, x = s := ⟨s, rfl⟩
      have h : (lw1_DependShown_j19 fuel w11) v54 = some r := h
      unfold lw1_DependShown_j19 at h
      refine W.seq ?_
      refine W.join (σ := (Bool)) (fun s => [(6, .bool s)]) (fun s => (lw1_DependShown_j55) s = some r) (fun s h => ?_) (fun hK55 => ?_)
      · obtain ⟨v57, rfl⟩ : ∃ x, x = s := ⟨s, rfl⟩
        have h : (lw1_DependShown_j55) v57 = some r := h
        unfold lw1_DependShown_j55 at h
        refine W.weak [6] [] [] [] (env' := [(6, .bool v57)]) (by kernel_rfl) ?_
        have hr : aresults Try.prog Try.f6 [(6, .bool v57)] = some (.bool v57) := by kernel_rfl
        cases h
        exact W.ret hr
      refine W.region (by kernel_rfl) ?_
      refine WO.boolK 4 (fun b => [(9, .bool w11.1), (11, .bool v54), (126, .bool v54), (127, .bool w11.1), (128, .bool b), (129, .bool b)]) (v54 == w11.1) (by kernel_rfl) (fun hb => ?_) (fun hb => ?_)
      · replace h := cond_t hb h
        obtain ⟨w56, hw56, h⟩ := bind_some h
        refine WO.callK 0 (F := 21) (l := []) (C := []) (r := .bool w56) (by kernel_rfl) (by kernel_rfl) (run_lw1_awake fuel w56 hw56) (e1 := [(9, .bool w11.1), (11, .bool v54), (126, .bool v54), (127, .bool w11.1), (128, .bool true), (129, .bool true), (130, .bool w56)]) (by kernel_rfl) ?_
        refine WO.fin [6] [] [] [] (e2 := [(6, .bool w56)]) (by kernel_rfl) (fun _ h => h) ?_
        exact hK55 w56 h
      replace h := cond_f hb h
      refine WO.fin [6] [] [] [] (e2 := [(6, .bool false)]) (by kernel_rfl) (fun _ h => h) ?_
      exact hK55 false h
    refine W.seq ?_
    refine W.region (by kernel_rfl) ?_
    refine WO.pureK 1 (some (.int .i64 ((List.map (encL 3 1 (AV.int .i64)) w7.1).length : Int))) (v := .int .i64 (w7.1.length : Int)) (by kernel_rfl) (by rw [List.length_map]) (e1 := [(0, .int .i64 a1), (5, .ptr (.agg [.int .i64 a3.f_From, .int .i64 a3.f_To])), (7, l35 none w7.1), (9, .bool w11.1), (11, .bool true), (46, l35 none w7.1), (47, .int .i64 (w7.1.length : Int))]) (by kernel_rfl) ?_
    refine WO.fin [0, 5, 7, 9, 11, 46, 47, 48] [] [] [] (e2 := [(0, .int .i64 a1), (5, .ptr (.agg [.int .i64 a3.f_From, .int .i64 a3.f_To])), (7, l35 none w7.1), (9, .bool w11.1), (11, .bool true), (46, l35 none w7.1), (47, .int .i64 (w7.1.length : Int)), (48, .int .i64 0)]) (by kernel_rfl) (fun _ h => h) ?_
    refine W.block ?_
    obtain ⟨hl1, h⟩ := chk_some h
    refine W.weak [0, 5, 7, 9, 11, 46, 47, 48] [] [] [] (env' := [(0, .int .i64 a1), (5, .ptr (.agg [.int .i64 a3.f_From, .int .i64 a3.f_To])), (7, l35 none w7.1), (9, .bool w11.1), (11, .bool true), (46, l35 none w7.1), (47, .int .i64 (w7.1.length : Int)), (48, .int .i64 ((0 : Nat) : Int))]) (by kernel_rfl) ?_
    refine W.range (σ := (Bool)) w7.1 (fun k1 s => [(0, .int .i64 a1), (5, .ptr (.agg [.int .i64 a3.f_From, .int .i64 a3.f_To])), (7, l35 none w7.1), (9, .bool w11.1), (11, .bool s), (46, l35 none w7.1), (47, .int .i64 (w7.1.length : Int)), (48, .int .i64 (k1 : Int))]) (fun r0 k0 s => lw1_DependShown_l1 a1 a3 w7 (lw1_DependShown_j19 fuel w11) r0 k0 s = some r) (fun s h => ?_) (fun x1 r1 k1 s hx1 hk1 h hN1 => ?_) true h
    · obtain ⟨v21, rfl⟩ : ∃ x, x = s := ⟨s, rfl⟩
      have h : lw1_DependShown_l1 a1 a3 w7 (lw1_DependShown_j19 fuel w11) [] (w7.1).length v21 = some r := h
      rw [lw1_DependShown_l1.eq_1] at h
      refine W.seq ?_
      refine W.region (by kernel_rfl) ?_
      refine WO.pureK 0 (some (.bool (decide (((w7.1).length : Int) < (w7.1.length : Int))))) (v := .bool false) (by kernel_rfl) (by rw [lt_false (l := w7.1)]) (e1 := [(0, .int .i64 a1), (5, .ptr (.agg [.int .i64 a3.f_From, .int .i64 a3.f_To])), (7, l35 none w7.1), (9, .bool w11.1), (11, .bool v21), (46, l35 none w7.1), (47, .int .i64 (w7.1.length : Int)), (48, .int .i64 ((w7.1).length : Int)), (49, .bool false)]) (by kernel_rfl) ?_
      refine WO.fin ([0, 5, 7, 9, 11, 46, 47, 48, 49]) [] [] [] (e2 := [(0, .int .i64 a1), (5, .ptr (.agg [.int .i64 a3.f_From, .int .i64 a3.f_To])), (7, l35 none w7.1), (9, .bool w11.1), (11, .bool v21), (46, l35 none w7.1), (47, .int .i64 (w7.1.length : Int)), (48, .int .i64 ((w7.1).length : Int)), (49, .bool false)]) (by kernel_rfl) (fun _ h => h) ?_
      refine W.seq ?_
      refine W.condB false (by kernel_rfl) (fun h => Bool.noConfusion h) (fun _ => ?_)
      refine W.exit ?_
      refine W.weak [9, 11] [] [] [] (env' := [(9, .bool w11.1), (11, .bool v21)]) (by kernel_rfl) ?_
      exact hK19 v21 h
    · obtain ⟨v21, rfl⟩ : ∃ x, x = s := ⟨s, rfl⟩
      have h : lw1_DependShown_l1 a1 a3 w7 (lw1_DependShown_j19 fuel w11) (x1 :: r1) k1 v21 = some r := h
      rw [lw1_DependShown_l1.eq_2] at h
      refine W.seq ?_
      refine W.region (by kernel_rfl) ?_
      refine WO.pureK 0 (some (.bool (decide ((k1 : Int) < (w7.1.length : Int))))) (v := .bool true) (by kernel_rfl) (by rw [lt_true hk1]) (e1 := [(0, .int .i64 a1), (5, .ptr (.agg [.int .i64 a3.f_From, .int .i64 a3.f_To])), (7, l35 none w7.1), (9, .bool w11.1), (11, .bool v21), (46, l35 none w7.1), (47, .int .i64 (w7.1.length : Int)), (48, .int .i64 (k1 : Int)), (49, .bool true)]) (by kernel_rfl) ?_
      refine WO.fin ([0, 5, 7, 9, 11, 46, 47, 48, 49]) [] [] [] (e2 := [(0, .int .i64 a1), (5, .ptr (.agg [.int .i64 a3.f_From, .int .i64 a3.f_To])), (7, l35 none w7.1), (9, .bool w11.1), (11, .bool v21), (46, l35 none w7.1), (47, .int .i64 (w7.1.length : Int)), (48, .int .i64 (k1 : Int)), (49, .bool true)]) (by kernel_rfl) (fun _ h => h) ?_
      refine W.seq ?_
      refine W.condB true (by kernel_rfl) (fun _ => ?_) (fun h => Bool.noConfusion h)
      refine W.skip ?_
      refine W.weak [0, 5, 7, 9, 11, 46, 47, 48] [] [] [] (env' := [(0, .int .i64 a1), (5, .ptr (.agg [.int .i64 a3.f_From, .int .i64 a3.f_To])), (7, l35 none w7.1), (9, .bool w11.1), (11, .bool v21), (46, l35 none w7.1), (47, .int .i64 (w7.1.length : Int)), (48, .int .i64 (k1 : Int))]) (by kernel_rfl) ?_
      refine W.seq ?_
      refine W.join (σ := (Bool)) (fun s => [(0, .int .i64 a1), (5, .ptr (.agg [.int .i64 a3.f_From, .int .i64 a3.f_To])), (7, l35 none w7.1), (9, .bool w11.1), (11, .bool s), (46, l35 none w7.1), (47, .int .i64 (w7.1.length : Int)), (48, .int .i64 (k1 : Int))]) (fun s => (lw1_DependShown_j22 (lw1_DependShown_l1 a1 a3 w7 (lw1_DependShown_j19 fuel w11) r1 (k1 + 1))) s = some r) (fun s h => ?_) (fun hK22 => ?_)
      · obtain ⟨v53, rfl⟩ : ∃ x, x = s := ⟨s, rfl⟩
        have h : (lw1_DependShown_j22 (lw1_DependShown_l1 a1 a3 w7 (lw1_DependShown_j19 fuel w11) r1 (k1 + 1))) v53 = some r := h
        unfold lw1_DependShown_j22 at h
        refine W.region (by kernel_rfl) ?_
        refine WO.pureK 0 (some (.int .i64 (IntKind.wrap .i64 ((k1 : Int) + 1)))) (v := .int .i64 ((k1 + 1 : Nat) : Int)) (by kernel_rfl) (by rw [wrap_succ hl1 hk1]) (e1 := [(0, .int .i64 a1), (5, .ptr (.agg [.int .i64 a3.f_From, .int .i64 a3.f_To])), (7, l35 none w7.1), (9, .bool w11.1), (11, .bool v53), (46, l35 none w7.1), (47, .int .i64 (w7.1.length : Int)), (48, .int .i64 (k1 : Int)), (125, .int .i64 ((k1 + 1 : Nat) : Int))]) (by kernel_rfl) ?_
        refine WO.fin [0, 5, 7, 9, 11, 46, 47, 48] [] [] [] (e2 := [(0, .int .i64 a1), (5, .ptr (.agg [.int .i64 a3.f_From, .int .i64 a3.f_To])), (7, l35 none w7.1), (9, .bool w11.1), (11, .bool v53), (46, l35 none w7.1), (47, .int .i64 (w7.1.length : Int)), (48, .int .i64 ((k1 + 1 : Nat) : Int))]) (by kernel_rfl) (fun _ h => h) ?_
        exact hN1 v53 h
      refine W.block ?_
      refine W.seq ?_
      refine W.region (by kernel_rfl) ?_
      refine WO.pureK 1 (if (0 : Int) ≤ (k1 : Int) then ((List.map (encL 3 1 (AV.int .i64)) w7.1)[Int.toNat (k1 : Int)]?).map AV.ptr else none) (v := .ptr (l3 none x1)) (by kernel_rfl) (idx_nat (f := (encL 3 1 (AV.int .i64))) hx1) (e1 := [(0, .int .i64 a1), (5, .ptr (.agg [.int .i64 a3.f_From, .int .i64 a3.f_To])), (7, l35 none w7.1), (9, .bool w11.1), (11, .bool v21), (46, l35 none w7.1), (47, .int .i64 (w7.1.length : Int)), (48, .int .i64 (k1 : Int)), (50, .int .i64 (k1 : Int)), (51, .ptr (l3 none x1))]) (by kernel_rfl) ?_
      refine WO.fin [0, 5, 7, 9, 11, 12, 13, 46, 47, 48] [] [] [] (e2 := [(0, .int .i64 a1), (5, .ptr (.agg [.int .i64 a3.f_From, .int .i64 a3.f_To])), (7, l35 none w7.1), (9, .bool w11.1), (11, .bool v21), (12, .int .i64 (k1 : Int)), (13, l3 none x1), (46, l35 none w7.1), (47, .int .i64 (w7.1.length : Int)), (48, .int .i64 (k1 : Int))]) (by kernel_rfl) (fun _ h => h) ?_
      refine W.seq ?_
      refine W.region (by kernel_rfl) ?_
      obtain ⟨e25, he25, h⟩ := bind_some h
      refine WO.pureK 2 (if (0 : Int) ≤ 0 ∧ 0 ≤ (k1 : Int) ∧ (k1 : Int) ≤ ((List.map (encL 3 1 (AV.int .i64)) w7.1).length : Int) then some (.lst 35 1 none (((List.map (encL 3 1 (AV.int .i64)) w7.1).take (Int.toNat (k1 : Int))).drop (Int.toNat 0))) else none) (v := l35 none e25) (by kernel_rfl) (sub_av he25) (e1 := [(0, .int .i64 a1), (5, .ptr (.agg [.int .i64 a3.f_From, .int .i64 a3.f_To])), (7, l35 none w7.1), (9, .bool w11.1), (11, .bool v21), (12, .int .i64 (k1 : Int)), (13, l3 none x1), (46, l35 none w7.1), (47, .int .i64 (w7.1.length : Int)), (48, .int .i64 (k1 : Int)), (53, l35 none w7.1), (54, .int .i64 (k1 : Int)), (55, l35 none e25)]) (by kernel_rfl) ?_
      refine WO.pureK 0 (some (.int .i64 ((List.map (encL 3 1 (AV.int .i64)) e25).length : Int))) (v := .int .i64 (e25.length : Int)) (by kernel_rfl) (by rw [List.length_map]) (e1 := [(0, .int .i64 a1), (5, .ptr (.agg [.int .i64 a3.f_From, .int .i64 a3.f_To])), (7, l35 none w7.1), (9, .bool w11.1), (11, .bool v21), (12, .int .i64 (k1 : Int)), (13, l3 none x1), (46, l35 none w7.1), (47, .int .i64 (w7.1.length : Int)), (48, .int .i64 (k1 : Int)), (53, l35 none w7.1), (54, .int .i64 (k1 : Int)), (55, l35 none e25), (56, .int .i64 (e25.length : Int))]) (by kernel_rfl) ?_
      refine WO.fin [0, 5, 7, 9, 11, 13, 46, 47, 48, 55, 56, 57] [] [] [] (e2 := [(0, .int .i64 a1), (5, .ptr (.agg [.int .i64 a3.f_From, .int .i64 a3.f_To])), (7, l35 none w7.1), (9, .bool w11.1), (11, .bool v21), (13, l3 none x1), (46, l35 none w7.1), (47, .int .i64 (w7.1.length : Int)), (48, .int .i64 (k1 : Int)), (55, l35 none e25), (56, .int .i64 (e25.length : Int)), (57, .int .i64 0)]) (by kernel_rfl) (fun _ h => h) ?_
      refine W.block ?_
      obtain ⟨hl2, h⟩ := chk_some h
      refine W.weak [0, 5, 7, 9, 11, 13, 46, 47, 48, 55, 56, 57] [] [] [] (env' := [(0, .int .i64 a1), (5, .ptr (.agg [.int .i64 a3.f_From, .int .i64 a3.f_To])), (7, l35 none w7.1), (9, .bool w11.1), (11, .bool v21), (13, l3 none x1), (46, l35 none w7.1), (47, .int .i64 (w7.1.length : Int)), (48, .int .i64 (k1 : Int)), (55, l35 none e25), (56, .int .i64 (e25.length : Int)), (57, .int .i64 ((0 : Nat) : Int))]) (by kernel_rfl) ?_
      refine W.range (σ := (Bool)) e25 (fun k2 s => [(0, .int .i64 a1), (5, .ptr (.agg [.int .i64 a3.f_From, .int .i64 a3.f_To])), (7, l35 none w7.1), (9, .bool w11.1), (11, .bool s), (13, l3 none x1), (46, l35 none w7.1), (47, .int .i64 (w7.1.length : Int)), (48, .int .i64 (k1 : Int)), (55, l35 none e25), (56, .int .i64 (e25.length : Int)), (57, .int .i64 (k2 : Int))]) (fun r0 k0 s => lw1_DependShown_l2 a1 x1 a3 (lw1_DependShown_j22 (lw1_DependShown_l1 a1 a3 w7 (lw1_DependShown_j19 fuel w11) r1 (k1 + 1))) r0 k0 s = some r) (fun s h => ?_) (fun x2 r2 k2 s hx2 hk2 h hN2 => ?_) v21 h
      · obtain ⟨v26, rfl⟩ : ∃ x, x = s := ⟨s, rfl⟩
        have h : lw1_DependShown_l2 a1 x1 a3 (lw1_DependShown_j22 (lw1_DependShown_l1 a1 a3 w7 (lw1_DependShown_j19 fuel w11) r1 (k1 + 1))) [] (e25).length v26 = some r := h
        rw [lw1_DependShown_l2.eq_1] at h
        refine W.seq ?_
        refine W.region (by kernel_rfl) ?_
        refine WO.pureK 0 (some (.bool (decide (((e25).length : Int) < (e25.length : Int))))) (v := .bool false) (by kernel_rfl) (by rw [lt_false (l := e25)]) (e1 := [(0, .int .i64 a1), (5, .ptr (.agg [.int .i64 a3.f_From, .int .i64 a3.f_To])), (7, l35 none w7.1), (9, .bool w11.1), (11, .bool v26), (13, l3 none x1), (46, l35 none w7.1), (47, .int .i64 (w7.1.length : Int)), (48, .int .i64 (k1 : Int)), (55, l35 none e25), (56, .int .i64 (e25.length : Int)), (57, .int .i64 ((e25).length : Int)), (58, .bool false)]) (by kernel_rfl) ?_
        refine WO.fin ([0, 5, 7, 9, 11, 13, 46, 47, 48, 55, 56, 57, 58]) [] [] [] (e2 := [(0, .int .i64 a1), (5, .ptr (.agg [.int .i64 a3.f_From, .int .i64 a3.f_To])), (7, l35 none w7.1), (9, .bool w11.1), (11, .bool v26), (13, l3 none x1), (46, l35 none w7.1), (47, .int .i64 (w7.1.length : Int)), (48, .int .i64 (k1 : Int)), (55, l35 none e25), (56, .int .i64 (e25.length : Int)), (57, .int .i64 ((e25).length : Int)), (58, .bool false)]) (by kernel_rfl) (fun _ h => h) ?_
        refine W.seq ?_
        refine W.condB false (by kernel_rfl) (fun h => Bool.noConfusion h) (fun _ => ?_)
        refine W.exit ?_
        refine W.weak [0, 5, 7, 9, 11, 46, 47, 48] [] [] [] (env' := [(0, .int .i64 a1), (5, .ptr (.agg [.int .i64 a3.f_From, .int .i64 a3.f_To])), (7, l35 none w7.1), (9, .bool w11.1), (11, .bool v26), (46, l35 none w7.1), (47, .int .i64 (w7.1.length : Int)), (48, .int .i64 (k1 : Int))]) (by kernel_rfl) ?_
        exact hK22 v26 h
      · obtain ⟨v26, rfl⟩ : ∃ x, x = s := ⟨s, rfl⟩
        have h : lw1_DependShown_l2 a1 x1 a3 (lw1_DependShown_j22 (lw1_DependShown_l1 a1 a3 w7 (lw1_DependShown_j19 fuel w11) r1 (k1 + 1))) (x2 :: r2) k2 v26 = some r := h
        rw [lw1_DependShown_l2.eq_2] at h
        refine W.seq ?_
        refine W.region (by kernel_rfl) ?_
        refine WO.pureK 0 (some (.bool (decide ((k2 : Int) < (e25.length : Int))))) (v := .bool true) (by kernel_rfl) (by rw [lt_true hk2]) (e1 := [(0, .int .i64 a1), (5, .ptr (.agg [.int .i64 a3.f_From, .int .i64 a3.f_To])), (7, l35 none w7.1), (9, .bool w11.1), (11, .bool v26), (13, l3 none x1), (46, l35 none w7.1), (47, .int .i64 (w7.1.length : Int)), (48, .int .i64 (k1 : Int)), (55, l35 none e25), (56, .int .i64 (e25.length : Int)), (57, .int .i64 (k2 : Int)), (58, .bool true)]) (by kernel_rfl) ?_
        refine WO.fin ([0, 5, 7, 9, 11, 13, 46, 47, 48, 55, 56, 57, 58]) [] [] [] (e2 := [(0, .int .i64 a1), (5, .ptr (.agg [.int .i64 a3.f_From, .int .i64 a3.f_To])), (7, l35 none w7.1), (9, .bool w11.1), (11, .bool v26), (13, l3 none x1), (46, l35 none w7.1), (47, .int .i64 (w7.1.length : Int)), (48, .int .i64 (k1 : Int)), (55, l35 none e25), (56, .int .i64 (e25.length : Int)), (57, .int .i64 (k2 : Int)), (58, .bool true)]) (by kernel_rfl) (fun _ h => h) ?_
        refine W.seq ?_
        refine W.condB true (by kernel_rfl) (fun _ => ?_) (fun h => Bool.noConfusion h)
        refine W.skip ?_
        refine W.weak [0, 5, 7, 9, 11, 13, 46, 47, 48, 55, 56, 57] [] [] [] (env' := [(0, .int .i64 a1), (5, .ptr (.agg [.int .i64 a3.f_From, .int .i64 a3.f_To])), (7, l35 none w7.1), (9, .bool w11.1), (11, .bool v26), (13, l3 none x1), (46, l35 none w7.1), (47, .int .i64 (w7.1.length : Int)), (48, .int .i64 (k1 : Int)), (55, l35 none e25), (56, .int .i64 (e25.length : Int)), (57, .int .i64 (k2 : Int))]) (by kernel_rfl) ?_
        refine W.seq ?_
        refine W.join (σ := (Bool)) (fun s => [(0, .int .i64 a1), (5, .ptr (.agg [.int .i64 a3.f_From, .int .i64 a3.f_To])), (7, l35 none w7.1), (9, .bool w11.1), (11, .bool s), (13, l3 none x1), (46, l35 none w7.1), (47, .int .i64 (w7.1.length : Int)), (48, .int .i64 (k1 : Int)), (55, l35 none e25), (56, .int .i64 (e25.length : Int)), (57, .int .i64 (k2 : Int))]) (fun s => (lw1_DependShown_j27 (lw1_DependShown_l2 a1 x1 a3 (lw1_DependShown_j22 (lw1_DependShown_l1 a1 a3 w7 (lw1_DependShown_j19 fuel w11) r1 (k1 + 1))) r2 (k2 + 1))) s = some r) (fun s h => ?_) (fun hK27 => ?_)
        · obtain ⟨v52, rfl⟩ : ∃ x, x = s := ⟨s, rfl⟩
          have h : (lw1_DependShown_j27 (lw1_DependShown_l2 a1 x1 a3 (lw1_DependShown_j22 (lw1_DependShown_l1 a1 a3 w7 (lw1_DependShown_j19 fuel w11) r1 (k1 + 1))) r2 (k2 + 1))) v52 = some r := h
          unfold lw1_DependShown_j27 at h
          refine W.region (by kernel_rfl) ?_
          refine WO.pureK 0 (some (.int .i64 (IntKind.wrap .i64 ((k2 : Int) + 1)))) (v := .int .i64 ((k2 + 1 : Nat) : Int)) (by kernel_rfl) (by rw [wrap_succ hl2 hk2]) (e1 := [(0, .int .i64 a1), (5, .ptr (.agg [.int .i64 a3.f_From, .int .i64 a3.f_To])), (7, l35 none w7.1), (9, .bool w11.1), (11, .bool v52), (13, l3 none x1), (46, l35 none w7.1), (47, .int .i64 (w7.1.length : Int)), (48, .int .i64 (k1 : Int)), (55, l35 none e25), (56, .int .i64 (e25.length : Int)), (57, .int .i64 (k2 : Int)), (124, .int .i64 ((k2 + 1 : Nat) : Int))]) (by kernel_rfl) ?_
          refine WO.fin [0, 5, 7, 9, 11, 13, 46, 47, 48, 55, 56, 57] [] [] [] (e2 := [(0, .int .i64 a1), (5, .ptr (.agg [.int .i64 a3.f_From, .int .i64 a3.f_To])), (7, l35 none w7.1), (9, .bool w11.1), (11, .bool v52), (13, l3 none x1), (46, l35 none w7.1), (47, .int .i64 (w7.1.length : Int)), (48, .int .i64 (k1 : Int)), (55, l35 none e25), (56, .int .i64 (e25.length : Int)), (57, .int .i64 ((k2 + 1 : Nat) : Int))]) (by kernel_rfl) (fun _ h => h) ?_
          exact hN2 v52 h
        refine W.block ?_
        refine W.seq ?_
        refine W.region (by kernel_rfl) ?_
        refine WO.pureK 0 (if (0 : Int) ≤ (k2 : Int) then ((List.map (encL 3 1 (AV.int .i64)) e25)[Int.toNat (k2 : Int)]?).map AV.ptr else none) (v := .ptr (l3 none x2)) (by kernel_rfl) (idx_nat (f := (encL 3 1 (AV.int .i64))) hx2) (e1 := [(0, .int .i64 a1), (5, .ptr (.agg [.int .i64 a3.f_From, .int .i64 a3.f_To])), (7, l35 none w7.1), (9, .bool w11.1), (11, .bool v26), (13, l3 none x1), (46, l35 none w7.1), (47, .int .i64 (w7.1.length : Int)), (48, .int .i64 (k1 : Int)), (55, l35 none e25), (56, .int .i64 (e25.length : Int)), (57, .int .i64 (k2 : Int)), (59, .ptr (l3 none x2))]) (by kernel_rfl) ?_
        refine WO.fin [0, 5, 7, 9, 11, 13, 15, 46, 47, 48, 55, 56, 57] [] [] [] (e2 := [(0, .int .i64 a1), (5, .ptr (.agg [.int .i64 a3.f_From, .int .i64 a3.f_To])), (7, l35 none w7.1), (9, .bool w11.1), (11, .bool v26), (13, l3 none x1), (15, l3 none x2), (46, l35 none w7.1), (47, .int .i64 (w7.1.length : Int)), (48, .int .i64 (k1 : Int)), (55, l35 none e25), (56, .int .i64 (e25.length : Int)), (57, .int .i64 (k2 : Int))]) (by kernel_rfl) (fun _ h => h) ?_
        refine W.seq ?_
        refine W.seq ?_
        refine W.join (σ := (Bool)) (fun s => [(0, .int .i64 a1), (5, .ptr (.agg [.int .i64 a3.f_From, .int .i64 a3.f_To])), (7, l35 none w7.1), (9, .bool w11.1), (11, .bool v26), (13, l3 none x1), (15, l3 none x2), (46, l35 none w7.1), (47, .int .i64 (w7.1.length : Int)), (48, .int .i64 (k1 : Int)), (55, l35 none e25), (56, .int .i64 (e25.length : Int)), (57, .int .i64 (k2 : Int)), (70, .bool s)]) (fun s => (lw1_DependShown_j30 a1 x1 x2 a3 v26 (lw1_DependShown_j27 (lw1_DependShown_l2 a1 x1 a3 (lw1_DependShown_j22 (lw1_DependShown_l1 a1 a3 w7 (lw1_DependShown_j19 fuel w11) r1 (k1 + 1))) r2 (k2 + 1)))) s = some r) (fun s h => ?_) (fun hK30 => ?_)
        · obtain ⟨v31, rfl⟩ : ∃ x, x = s := ⟨s, rfl⟩
          have h : (lw1_DependShown_j30 a1 x1 x2 a3 v26 (lw1_DependShown_j27 (lw1_DependShown_l2 a1 x1 a3 (lw1_DependShown_j22 (lw1_DependShown_l1 a1 a3 w7 (lw1_DependShown_j19 fuel w11) r1 (k1 + 1))) r2 (k2 + 1)))) v31 = some r := h
          unfold lw1_DependShown_j30 at h
          refine W.condB v31 (by kernel_rfl) (fun hb => ?_) (fun hb => ?_)
          · replace h := cond_t hb h
            refine W.seq ?_
            refine W.regT [6] [] [] [] (e2 := [(6, .bool false)]) (by kernel_rfl) (by kernel_rfl) (fun _ h => h) ?_
            refine W.weak [6] [] [] [] (env' := [(6, .bool false)]) (by kernel_rfl) ?_
            have hr : aresults Try.prog Try.f6 [(6, .bool false)] = some (.bool false) := by kernel_rfl
            cases h
            exact W.ret hr
          replace h := cond_f hb h
          refine W.skip ?_
          refine W.weak [0, 5, 7, 9, 11, 13, 15, 46, 47, 48, 55, 56, 57] [] [] [] (env' := [(0, .int .i64 a1), (5, .ptr (.agg [.int .i64 a3.f_From, .int .i64 a3.f_To])), (7, l35 none w7.1), (9, .bool w11.1), (11, .bool v26), (13, l3 none x1), (15, l3 none x2), (46, l35 none w7.1), (47, .int .i64 (w7.1.length : Int)), (48, .int .i64 (k1 : Int)), (55, l35 none e25), (56, .int .i64 (e25.length : Int)), (57, .int .i64 (k2 : Int))]) (by kernel_rfl) ?_
          refine W.seq ?_
          refine W.regT [0, 5, 7, 9, 11, 13, 15, 16, 17, 46, 47, 48, 55, 56, 57] [] [] [] (e2 := [(0, .int .i64 a1), (5, .ptr (.agg [.int .i64 a3.f_From, .int .i64 a3.f_To])), (7, l35 none w7.1), (9, .bool w11.1), (11, .bool v26), (13, l3 none x1), (15, l3 none x2), (16, .bool true), (17, .bool true), (46, l35 none w7.1), (47, .int .i64 (w7.1.length : Int)), (48, .int .i64 (k1 : Int)), (55, l35 none e25), (56, .int .i64 (e25.length : Int)), (57, .int .i64 (k2 : Int))]) (by kernel_rfl) (by kernel_rfl) (fun _ h => h) ?_
          refine W.seq ?_
          refine W.join (σ := (Bool × Bool)) (fun s => [(0, .int .i64 a1), (5, .ptr (.agg [.int .i64 a3.f_From, .int .i64 a3.f_To])), (7, l35 none w7.1), (9, .bool w11.1), (11, .bool v26), (13, l3 none x1), (16, .bool s.1), (17, .bool s.2), (46, l35 none w7.1), (47, .int .i64 (w7.1.length : Int)), (48, .int .i64 (k1 : Int)), (55, l35 none e25), (56, .int .i64 (e25.length : Int)), (57, .int .i64 (k2 : Int))]) (fun s => (lw1_DependShown_j34 v26 (lw1_DependShown_j27 (lw1_DependShown_l2 a1 x1 a3 (lw1_DependShown_j22 (lw1_DependShown_l1 a1 a3 w7 (lw1_DependShown_j19 fuel w11) r1 (k1 + 1))) r2 (k2 + 1)))) s.1 s.2 = some r) (fun s h => ?_) (fun hK34 => ?_)
          · obtain ⟨v50, v51⟩ := s
            have h : (lw1_DependShown_j34 v26 (lw1_DependShown_j27 (lw1_DependShown_l2 a1 x1 a3 (lw1_DependShown_j22 (lw1_DependShown_l1 a1 a3 w7 (lw1_DependShown_j19 fuel w11) r1 (k1 + 1))) r2 (k2 + 1)))) v50 v51 = some r := h
            unfold lw1_DependShown_j34 at h
            refine W.region (by kernel_rfl) ?_
            refine WO.boolK 2 (fun b => [(0, .int .i64 a1), (5, .ptr (.agg [.int .i64 a3.f_From, .int .i64 a3.f_To])), (7, l35 none w7.1), (9, .bool w11.1), (11, .bool b), (13, l3 none x1), (16, .bool v50), (17, .bool v51), (46, l35 none w7.1), (47, .int .i64 (w7.1.length : Int)), (48, .int .i64 (k1 : Int)), (55, l35 none e25), (56, .int .i64 (e25.length : Int)), (57, .int .i64 (k2 : Int)), (116, .bool b), (117, .bool b)]) v26 (by kernel_rfl) (fun hb => ?_) (fun hb => ?_)
            · replace h := cond_t hb h
              refine WO.boolK 3 (fun b => [(0, .int .i64 a1), (5, .ptr (.agg [.int .i64 a3.f_From, .int .i64 a3.f_To])), (7, l35 none w7.1), (9, .bool w11.1), (11, .bool true), (13, l3 none x1), (16, .bool v50), (17, .bool v51), (46, l35 none w7.1), (47, .int .i64 (w7.1.length : Int)), (48, .int .i64 (k1 : Int)), (55, l35 none e25), (56, .int .i64 (e25.length : Int)), (57, .int .i64 (k2 : Int)), (116, .bool true), (117, .bool true), (118, .bool v50), (119, .bool b), (120, .bool b)]) (!v50) (by kernel_rfl) (fun hb => ?_) (fun hb => ?_)
              · replace h := cond_t hb h
                refine WO.fin [0, 5, 7, 9, 11, 13, 46, 47, 48, 55, 56, 57] [] [] [] (e2 := [(0, .int .i64 a1), (5, .ptr (.agg [.int .i64 a3.f_From, .int .i64 a3.f_To])), (7, l35 none w7.1), (9, .bool w11.1), (11, .bool true), (13, l3 none x1), (46, l35 none w7.1), (47, .int .i64 (w7.1.length : Int)), (48, .int .i64 (k1 : Int)), (55, l35 none e25), (56, .int .i64 (e25.length : Int)), (57, .int .i64 (k2 : Int))]) (by kernel_rfl) (fun _ h => h) ?_
                exact hK27 true h
              replace h := cond_f hb h
              refine WO.fin [0, 5, 7, 9, 11, 13, 46, 47, 48, 55, 56, 57] [] [] [] (e2 := [(0, .int .i64 a1), (5, .ptr (.agg [.int .i64 a3.f_From, .int .i64 a3.f_To])), (7, l35 none w7.1), (9, .bool w11.1), (11, .bool v51), (13, l3 none x1), (46, l35 none w7.1), (47, .int .i64 (w7.1.length : Int)), (48, .int .i64 (k1 : Int)), (55, l35 none e25), (56, .int .i64 (e25.length : Int)), (57, .int .i64 (k2 : Int))]) (by kernel_rfl) (fun _ h => h) ?_
              exact hK27 v51 h
            replace h := cond_f hb h
            refine WO.fin [0, 5, 7, 9, 11, 13, 46, 47, 48, 55, 56, 57] [] [] [] (e2 := [(0, .int .i64 a1), (5, .ptr (.agg [.int .i64 a3.f_From, .int .i64 a3.f_To])), (7, l35 none w7.1), (9, .bool w11.1), (11, .bool false), (13, l3 none x1), (46, l35 none w7.1), (47, .int .i64 (w7.1.length : Int)), (48, .int .i64 (k1 : Int)), (55, l35 none e25), (56, .int .i64 (e25.length : Int)), (57, .int .i64 (k2 : Int))]) (by kernel_rfl) (fun _ h => h) ?_
            exact hK27 false h
          refine W.seq ?_
          refine W.regT [0, 5, 7, 9, 11, 13, 15, 16, 17, 46, 47, 48, 55, 56, 57, 71, 72] [] [] [] (e2 := [(0, .int .i64 a1), (5, .ptr (.agg [.int .i64 a3.f_From, .int .i64 a3.f_To])), (7, l35 none w7.1), (9, .bool w11.1), (11, .bool v26), (13, l3 none x1), (15, l3 none x2), (16, .bool true), (17, .bool true), (46, l35 none w7.1), (47, .int .i64 (w7.1.length : Int)), (48, .int .i64 (k1 : Int)), (55, l35 none e25), (56, .int .i64 (e25.length : Int)), (57, .int .i64 (k2 : Int)), (71, .int .i64 a1), (72, .int .i64 0)]) (by kernel_rfl) (by kernel_rfl) (fun _ h => h) ?_
          refine W.block ?_
          obtain ⟨hl3, h⟩ := chk_some h
          refine W.weak [0, 5, 7, 9, 11, 13, 15, 16, 17, 46, 47, 48, 55, 56, 57, 71, 72] [] [] [] (env' := [(0, .int .i64 a1), (5, .ptr (.agg [.int .i64 a3.f_From, .int .i64 a3.f_To])), (7, l35 none w7.1), (9, .bool w11.1), (11, .bool v26), (13, l3 none x1), (15, l3 none x2), (16, .bool true), (17, .bool true), (46, l35 none w7.1), (47, .int .i64 (w7.1.length : Int)), (48, .int .i64 (k1 : Int)), (55, l35 none e25), (56, .int .i64 (e25.length : Int)), (57, .int .i64 (k2 : Int)), (71, .int .i64 a1), (72, .int .i64 ((0 : Nat) : Int))]) (by kernel_rfl) ?_
          refine W.range (σ := (Bool × Bool)) (List.range (Int.toNat a1)) (fun k3 s => [(0, .int .i64 a1), (5, .ptr (.agg [.int .i64 a3.f_From, .int .i64 a3.f_To])), (7, l35 none w7.1), (9, .bool w11.1), (11, .bool v26), (13, l3 none x1), (15, l3 none x2), (16, .bool s.1), (17, .bool s.2), (46, l35 none w7.1), (47, .int .i64 (w7.1.length : Int)), (48, .int .i64 (k1 : Int)), (55, l35 none e25), (56, .int .i64 (e25.length : Int)), (57, .int .i64 (k2 : Int)), (71, .int .i64 a1), (72, .int .i64 (k3 : Int))]) (fun r0 k0 s => lw1_DependShown_l3 x1 x2 a3 (lw1_DependShown_j34 v26 (lw1_DependShown_j27 (lw1_DependShown_l2 a1 x1 a3 (lw1_DependShown_j22 (lw1_DependShown_l1 a1 a3 w7 (lw1_DependShown_j19 fuel w11) r1 (k1 + 1))) r2 (k2 + 1)))) r0 k0 s.1 s.2 = some r) (fun s h => ?_) (fun x3 r3 k3 s hx3 hk3 h hN3 => ?_) (true, true) h
          · obtain ⟨v36, v37⟩ := s
            have h : lw1_DependShown_l3 x1 x2 a3 (lw1_DependShown_j34 v26 (lw1_DependShown_j27 (lw1_DependShown_l2 a1 x1 a3 (lw1_DependShown_j22 (lw1_DependShown_l1 a1 a3 w7 (lw1_DependShown_j19 fuel w11) r1 (k1 + 1))) r2 (k2 + 1)))) [] ((List.range (Int.toNat a1))).length v36 v37 = some r := h
            rw [lw1_DependShown_l3.eq_1] at h
            refine W.seq ?_
            refine W.region (by kernel_rfl) ?_
            refine WO.pureK 0 (some (.bool (decide ((((List.range (Int.toNat a1))).length : Int) < a1)))) (v := .bool false) (by kernel_rfl) (by rw [ltr_false (n := a1)]) (e1 := [(0, .int .i64 a1), (5, .ptr (.agg [.int .i64 a3.f_From, .int .i64 a3.f_To])), (7, l35 none w7.1), (9, .bool w11.1), (11, .bool v26), (13, l3 none x1), (15, l3 none x2), (16, .bool v36), (17, .bool v37), (46, l35 none w7.1), (47, .int .i64 (w7.1.length : Int)), (48, .int .i64 (k1 : Int)), (55, l35 none e25), (56, .int .i64 (e25.length : Int)), (57, .int .i64 (k2 : Int)), (71, .int .i64 a1), (72, .int .i64 (((List.range (Int.toNat a1))).length : Int)), (73, .bool false)]) (by kernel_rfl) ?_
            refine WO.fin ([0, 5, 7, 9, 11, 13, 15, 16, 17, 46, 47, 48, 55, 56, 57, 71, 72, 73]) [] [] [] (e2 := [(0, .int .i64 a1), (5, .ptr (.agg [.int .i64 a3.f_From, .int .i64 a3.f_To])), (7, l35 none w7.1), (9, .bool w11.1), (11, .bool v26), (13, l3 none x1), (15, l3 none x2), (16, .bool v36), (17, .bool v37), (46, l35 none w7.1), (47, .int .i64 (w7.1.length : Int)), (48, .int .i64 (k1 : Int)), (55, l35 none e25), (56, .int .i64 (e25.length : Int)), (57, .int .i64 (k2 : Int)), (71, .int .i64 a1), (72, .int .i64 (((List.range (Int.toNat a1))).length : Int)), (73, .bool false)]) (by kernel_rfl) (fun _ h => h) ?_
            refine W.seq ?_
            refine W.condB false (by kernel_rfl) (fun h => Bool.noConfusion h) (fun _ => ?_)
            refine W.exit ?_
            refine W.weak [0, 5, 7, 9, 11, 13, 16, 17, 46, 47, 48, 55, 56, 57] [] [] [] (env' := [(0, .int .i64 a1), (5, .ptr (.agg [.int .i64 a3.f_From, .int .i64 a3.f_To])), (7, l35 none w7.1), (9, .bool w11.1), (11, .bool v26), (13, l3 none x1), (16, .bool v36), (17, .bool v37), (46, l35 none w7.1), (47, .int .i64 (w7.1.length : Int)), (48, .int .i64 (k1 : Int)), (55, l35 none e25), (56, .int .i64 (e25.length : Int)), (57, .int .i64 (k2 : Int))]) (by kernel_rfl) ?_
            exact hK34 (v36, v37) h
          · obtain ⟨v36, v37⟩ := s
            have h : lw1_DependShown_l3 x1 x2 a3 (lw1_DependShown_j34 v26 (lw1_DependShown_j27 (lw1_DependShown_l2 a1 x1 a3 (lw1_DependShown_j22 (lw1_DependShown_l1 a1 a3 w7 (lw1_DependShown_j19 fuel w11) r1 (k1 + 1))) r2 (k2 + 1)))) (x3 :: r3) k3 v36 v37 = some r := h
            rw [lw1_DependShown_l3.eq_2] at h
            refine W.seq ?_
            refine W.region (by kernel_rfl) ?_
            refine WO.pureK 0 (some (.bool (decide ((k3 : Int) < a1)))) (v := .bool true) (by kernel_rfl) (by rw [ltr_true hk3]) (e1 := [(0, .int .i64 a1), (5, .ptr (.agg [.int .i64 a3.f_From, .int .i64 a3.f_To])), (7, l35 none w7.1), (9, .bool w11.1), (11, .bool v26), (13, l3 none x1), (15, l3 none x2), (16, .bool v36), (17, .bool v37), (46, l35 none w7.1), (47, .int .i64 (w7.1.length : Int)), (48, .int .i64 (k1 : Int)), (55, l35 none e25), (56, .int .i64 (e25.length : Int)), (57, .int .i64 (k2 : Int)), (71, .int .i64 a1), (72, .int .i64 (k3 : Int)), (73, .bool true)]) (by kernel_rfl) ?_
            refine WO.fin ([0, 5, 7, 9, 11, 13, 15, 16, 17, 46, 47, 48, 55, 56, 57, 71, 72, 73]) [] [] [] (e2 := [(0, .int .i64 a1), (5, .ptr (.agg [.int .i64 a3.f_From, .int .i64 a3.f_To])), (7, l35 none w7.1), (9, .bool w11.1), (11, .bool v26), (13, l3 none x1), (15, l3 none x2), (16, .bool v36), (17, .bool v37), (46, l35 none w7.1), (47, .int .i64 (w7.1.length : Int)), (48, .int .i64 (k1 : Int)), (55, l35 none e25), (56, .int .i64 (e25.length : Int)), (57, .int .i64 (k2 : Int)), (71, .int .i64 a1), (72, .int .i64 (k3 : Int)), (73, .bool true)]) (by kernel_rfl) (fun _ h => h) ?_
            refine W.seq ?_
            refine W.condB true (by kernel_rfl) (fun _ => ?_) (fun h => Bool.noConfusion h)
            refine W.skip ?_
            refine W.weak [0, 5, 7, 9, 11, 13, 15, 16, 17, 46, 47, 48, 55, 56, 57, 71, 72] [] [] [] (env' := [(0, .int .i64 a1), (5, .ptr (.agg [.int .i64 a3.f_From, .int .i64 a3.f_To])), (7, l35 none w7.1), (9, .bool w11.1), (11, .bool v26), (13, l3 none x1), (15, l3 none x2), (16, .bool v36), (17, .bool v37), (46, l35 none w7.1), (47, .int .i64 (w7.1.length : Int)), (48, .int .i64 (k1 : Int)), (55, l35 none e25), (56, .int .i64 (e25.length : Int)), (57, .int .i64 (k2 : Int)), (71, .int .i64 a1), (72, .int .i64 (k3 : Int))]) (by kernel_rfl) ?_
            refine W.seq ?_
            refine W.join (σ := (Bool × Bool)) (fun s => [(0, .int .i64 a1), (5, .ptr (.agg [.int .i64 a3.f_From, .int .i64 a3.f_To])), (7, l35 none w7.1), (9, .bool w11.1), (11, .bool v26), (13, l3 none x1), (15, l3 none x2), (16, .bool s.1), (17, .bool s.2), (46, l35 none w7.1), (47, .int .i64 (w7.1.length : Int)), (48, .int .i64 (k1 : Int)), (55, l35 none e25), (56, .int .i64 (e25.length : Int)), (57, .int .i64 (k2 : Int)), (71, .int .i64 a1), (72, .int .i64 (k3 : Int))]) (fun s => (lw1_DependShown_j38 (lw1_DependShown_l3 x1 x2 a3 (lw1_DependShown_j34 v26 (lw1_DependShown_j27 (lw1_DependShown_l2 a1 x1 a3 (lw1_DependShown_j22 (lw1_DependShown_l1 a1 a3 w7 (lw1_DependShown_j19 fuel w11) r1 (k1 + 1))) r2 (k2 + 1)))) r3 (k3 + 1))) s.1 s.2 = some r) (fun s h => ?_) (fun hK38 => ?_)
            · obtain ⟨v48, v49⟩ := s
              have h : (lw1_DependShown_j38 (lw1_DependShown_l3 x1 x2 a3 (lw1_DependShown_j34 v26 (lw1_DependShown_j27 (lw1_DependShown_l2 a1 x1 a3 (lw1_DependShown_j22 (lw1_DependShown_l1 a1 a3 w7 (lw1_DependShown_j19 fuel w11) r1 (k1 + 1))) r2 (k2 + 1)))) r3 (k3 + 1))) v48 v49 = some r := h
              unfold lw1_DependShown_j38 at h
              refine W.region (by kernel_rfl) ?_
              refine WO.pureK 0 (some (.int .i64 (IntKind.wrap .i64 ((k3 : Int) + 1)))) (v := .int .i64 ((k3 + 1 : Nat) : Int)) (by kernel_rfl) (by rw [wrap_succ hl3 hk3]) (e1 := [(0, .int .i64 a1), (5, .ptr (.agg [.int .i64 a3.f_From, .int .i64 a3.f_To])), (7, l35 none w7.1), (9, .bool w11.1), (11, .bool v26), (13, l3 none x1), (15, l3 none x2), (16, .bool v48), (17, .bool v49), (46, l35 none w7.1), (47, .int .i64 (w7.1.length : Int)), (48, .int .i64 (k1 : Int)), (55, l35 none e25), (56, .int .i64 (e25.length : Int)), (57, .int .i64 (k2 : Int)), (71, .int .i64 a1), (72, .int .i64 (k3 : Int)), (115, .int .i64 ((k3 + 1 : Nat) : Int))]) (by kernel_rfl) ?_
              refine WO.fin [0, 5, 7, 9, 11, 13, 15, 16, 17, 46, 47, 48, 55, 56, 57, 71, 72] [] [] [] (e2 := [(0, .int .i64 a1), (5, .ptr (.agg [.int .i64 a3.f_From, .int .i64 a3.f_To])), (7, l35 none w7.1), (9, .bool w11.1), (11, .bool v26), (13, l3 none x1), (15, l3 none x2), (16, .bool v48), (17, .bool v49), (46, l35 none w7.1), (47, .int .i64 (w7.1.length : Int)), (48, .int .i64 (k1 : Int)), (55, l35 none e25), (56, .int .i64 (e25.length : Int)), (57, .int .i64 (k2 : Int)), (71, .int .i64 a1), (72, .int .i64 ((k3 + 1 : Nat) : Int))]) (by kernel_rfl) (fun _ h => h) ?_
              exact hN3 (v48, v49) h
            refine W.block ?_
            refine W.seq ?_
            refine W.regT [0, 5, 7, 9, 11, 13, 15, 16, 17, 18, 46, 47, 48, 55, 56, 57, 71, 72] [] [] [] (e2 := [(0, .int .i64 a1), (5, .ptr (.agg [.int .i64 a3.f_From, .int .i64 a3.f_To])), (7, l35 none w7.1), (9, .bool w11.1), (11, .bool v26), (13, l3 none x1), (15, l3 none x2), (16, .bool v36), (17, .bool v37), (18, .int .i64 (k3 : Int)), (46, l35 none w7.1), (47, .int .i64 (w7.1.length : Int)), (48, .int .i64 (k1 : Int)), (55, l35 none e25), (56, .int .i64 (e25.length : Int)), (57, .int .i64 (k2 : Int)), (71, .int .i64 a1), (72, .int .i64 (k3 : Int))]) (by kernel_rfl) (by kernel_rfl) (fun _ h => h) ?_
            refine W.seq ?_
            refine W.join (σ := (Bool)) (fun s => [(0, .int .i64 a1), (5, .ptr (.agg [.int .i64 a3.f_From, .int .i64 a3.f_To])), (7, l35 none w7.1), (9, .bool w11.1), (11, .bool v26), (13, l3 none x1), (15, l3 none x2), (16, .bool s), (17, .bool v37), (18, .int .i64 (k3 : Int)), (46, l35 none w7.1), (47, .int .i64 (w7.1.length : Int)), (48, .int .i64 (k1 : Int)), (55, l35 none e25), (56, .int .i64 (e25.length : Int)), (57, .int .i64 (k2 : Int)), (71, .int .i64 a1), (72, .int .i64 (k3 : Int))]) (fun s => (lw1_DependShown_j40 x1 x2 a3 k3 v37 (lw1_DependShown_j38 (lw1_DependShown_l3 x1 x2 a3 (lw1_DependShown_j34 v26 (lw1_DependShown_j27 (lw1_DependShown_l2 a1 x1 a3 (lw1_DependShown_j22 (lw1_DependShown_l1 a1 a3 w7 (lw1_DependShown_j19 fuel w11) r1 (k1 + 1))) r2 (k2 + 1)))) r3 (k3 + 1)))) s = some r) (fun s h => ?_) (fun hK40 => ?_)
            · obtain ⟨v44, rfl⟩ : ∃ x, x = s := ⟨s, rfl⟩
              have h : (lw1_DependShown_j40 x1 x2 a3 k3 v37 (lw1_DependShown_j38 (lw1_DependShown_l3 x1 x2 a3 (lw1_DependShown_j34 v26 (lw1_DependShown_j27 (lw1_DependShown_l2 a1 x1 a3 (lw1_DependShown_j22 (lw1_DependShown_l1 a1 a3 w7 (lw1_DependShown_j19 fuel w11) r1 (k1 + 1))) r2 (k2 + 1)))) r3 (k3 + 1)))) v44 = some r := h
              unfold lw1_DependShown_j40 at h
              refine W.region (by kernel_rfl) ?_
              refine WO.boolK 2 (fun b => [(0, .int .i64 a1), (5, .ptr (.agg [.int .i64 a3.f_From, .int .i64 a3.f_To])), (7, l35 none w7.1), (9, .bool w11.1), (11, .bool v26), (13, l3 none x1), (15, l3 none x2), (16, .bool v44), (17, .bool b), (18, .int .i64 (k3 : Int)), (46, l35 none w7.1), (47, .int .i64 (w7.1.length : Int)), (48, .int .i64 (k1 : Int)), (55, l35 none e25), (56, .int .i64 (e25.length : Int)), (57, .int .i64 (k2 : Int)), (71, .int .i64 a1), (72, .int .i64 (k3 : Int)), (95, .bool b), (96, .bool b)]) v37 (by kernel_rfl) (fun hb => ?_) (fun hb => ?_)
              · replace h := cond_t hb h
                obtain ⟨hc45, h⟩ := chk_some h
                refine WO.pureK 3 (if (k3 : Int) < 0 then none else some (.int .i64 (iShr .i64 a3.f_To (k3 : Int)))) (v := .int .i64 (iShr .i64 a3.f_To (k3 : Int))) (by kernel_rfl) (if_neg (not_lt_of_chk hc45)) (e1 := [(0, .int .i64 a1), (5, .ptr (.agg [.int .i64 a3.f_From, .int .i64 a3.f_To])), (7, l35 none w7.1), (9, .bool w11.1), (11, .bool v26), (13, l3 none x1), (15, l3 none x2), (16, .bool v44), (17, .bool true), (18, .int .i64 (k3 : Int)), (46, l35 none w7.1), (47, .int .i64 (w7.1.length : Int)), (48, .int .i64 (k1 : Int)), (55, l35 none e25), (56, .int .i64 (e25.length : Int)), (57, .int .i64 (k2 : Int)), (71, .int .i64 a1), (72, .int .i64 (k3 : Int)), (95, .bool true), (96, .bool true), (97, .ptr (.int .i64 a3.f_To)), (98, .int .i64 a3.f_To), (99, .int .i64 (k3 : Int)), (100, .int .i64 (iShr .i64 a3.f_To (k3 : Int)))]) (by kernel_rfl) ?_
                refine WO.boolK 3 (fun b => [(0, .int .i64 a1), (5, .ptr (.agg [.int .i64 a3.f_From, .int .i64 a3.f_To])), (7, l35 none w7.1), (9, .bool w11.1), (11, .bool v26), (13, l3 none x1), (15, l3 none x2), (16, .bool v44), (17, .bool true), (18, .int .i64 (k3 : Int)), (46, l35 none w7.1), (47, .int .i64 (w7.1.length : Int)), (48, .int .i64 (k1 : Int)), (55, l35 none e25), (56, .int .i64 (e25.length : Int)), (57, .int .i64 (k2 : Int)), (71, .int .i64 a1), (72, .int .i64 (k3 : Int)), (95, .bool true), (96, .bool true), (97, .ptr (.int .i64 a3.f_To)), (98, .int .i64 a3.f_To), (99, .int .i64 (k3 : Int)), (100, .int .i64 (iShr .i64 a3.f_To (k3 : Int))), (101, .int .i64 (iAnd .i64 (iShr .i64 a3.f_To (k3 : Int)) 1)), (102, .bool b), (103, .bool b)]) ((iAnd .i64 (iShr .i64 a3.f_To (k3 : Int)) 1) == 0) (by kernel_rfl) (fun hb => ?_) (fun hb => ?_)
                · replace h := cond_t hb h
                  refine WO.fin [0, 5, 7, 9, 11, 13, 15, 16, 17, 46, 47, 48, 55, 56, 57, 71, 72] [] [] [] (e2 := [(0, .int .i64 a1), (5, .ptr (.agg [.int .i64 a3.f_From, .int .i64 a3.f_To])), (7, l35 none w7.1), (9, .bool w11.1), (11, .bool v26), (13, l3 none x1), (15, l3 none x2), (16, .bool v44), (17, .bool true), (46, l35 none w7.1), (47, .int .i64 (w7.1.length : Int)), (48, .int .i64 (k1 : Int)), (55, l35 none e25), (56, .int .i64 (e25.length : Int)), (57, .int .i64 (k2 : Int)), (71, .int .i64 a1), (72, .int .i64 (k3 : Int))]) (by kernel_rfl) (fun _ h => h) ?_
                  exact hK38 (v44, true) h
                replace h := cond_f hb h
                obtain ⟨e46, he46, h⟩ := bind_some h
                refine WO.pureK 2 (if (0 : Int) ≤ (k3 : Int) then ((List.map (AV.int .i64) x1)[Int.toNat (k3 : Int)]?).map AV.ptr else none) (v := .ptr (.int .i64 e46)) (by kernel_rfl) (idx_av (f := (AV.int .i64)) he46) (e1 := [(0, .int .i64 a1), (5, .ptr (.agg [.int .i64 a3.f_From, .int .i64 a3.f_To])), (7, l35 none w7.1), (9, .bool w11.1), (11, .bool v26), (13, l3 none x1), (15, l3 none x2), (16, .bool v44), (17, .bool true), (18, .int .i64 (k3 : Int)), (46, l35 none w7.1), (47, .int .i64 (w7.1.length : Int)), (48, .int .i64 (k1 : Int)), (55, l35 none e25), (56, .int .i64 (e25.length : Int)), (57, .int .i64 (k2 : Int)), (71, .int .i64 a1), (72, .int .i64 (k3 : Int)), (95, .bool true), (96, .bool true), (97, .ptr (.int .i64 a3.f_To)), (98, .int .i64 a3.f_To), (99, .int .i64 (k3 : Int)), (100, .int .i64 (iShr .i64 a3.f_To (k3 : Int))), (101, .int .i64 (iAnd .i64 (iShr .i64 a3.f_To (k3 : Int)) 1)), (102, .bool false), (103, .bool false), (104, l3 none x1), (105, .int .i64 (k3 : Int)), (106, .ptr (.int .i64 e46))]) (by kernel_rfl) ?_
                obtain ⟨e47, he47, h⟩ := bind_some h
                refine WO.pureK 3 (if (0 : Int) ≤ (k3 : Int) then ((List.map (AV.int .i64) x2)[Int.toNat (k3 : Int)]?).map AV.ptr else none) (v := .ptr (.int .i64 e47)) (by kernel_rfl) (idx_av (f := (AV.int .i64)) he47) (e1 := [(0, .int .i64 a1), (5, .ptr (.agg [.int .i64 a3.f_From, .int .i64 a3.f_To])), (7, l35 none w7.1), (9, .bool w11.1), (11, .bool v26), (13, l3 none x1), (15, l3 none x2), (16, .bool v44), (17, .bool true), (18, .int .i64 (k3 : Int)), (46, l35 none w7.1), (47, .int .i64 (w7.1.length : Int)), (48, .int .i64 (k1 : Int)), (55, l35 none e25), (56, .int .i64 (e25.length : Int)), (57, .int .i64 (k2 : Int)), (71, .int .i64 a1), (72, .int .i64 (k3 : Int)), (95, .bool true), (96, .bool true), (97, .ptr (.int .i64 a3.f_To)), (98, .int .i64 a3.f_To), (99, .int .i64 (k3 : Int)), (100, .int .i64 (iShr .i64 a3.f_To (k3 : Int))), (101, .int .i64 (iAnd .i64 (iShr .i64 a3.f_To (k3 : Int)) 1)), (102, .bool false), (103, .bool false), (104, l3 none x1), (105, .int .i64 (k3 : Int)), (106, .ptr (.int .i64 e46)), (107, .int .i64 e46), (108, l3 none x2), (109, .int .i64 (k3 : Int)), (110, .ptr (.int .i64 e47))]) (by kernel_rfl) ?_
                refine WO.fin [0, 5, 7, 9, 11, 13, 15, 16, 17, 46, 47, 48, 55, 56, 57, 71, 72] [] [] [] (e2 := [(0, .int .i64 a1), (5, .ptr (.agg [.int .i64 a3.f_From, .int .i64 a3.f_To])), (7, l35 none w7.1), (9, .bool w11.1), (11, .bool v26), (13, l3 none x1), (15, l3 none x2), (16, .bool v44), (17, .bool (e46 == e47)), (46, l35 none w7.1), (47, .int .i64 (w7.1.length : Int)), (48, .int .i64 (k1 : Int)), (55, l35 none e25), (56, .int .i64 (e25.length : Int)), (57, .int .i64 (k2 : Int)), (71, .int .i64 a1), (72, .int .i64 (k3 : Int))]) (by kernel_rfl) (fun _ h => h) ?_
                exact hK38 (v44, (e46 == e47)) h
              replace h := cond_f hb h
              refine WO.fin [0, 5, 7, 9, 11, 13, 15, 16, 17, 46, 47, 48, 55, 56, 57, 71, 72] [] [] [] (e2 := [(0, .int .i64 a1), (5, .ptr (.agg [.int .i64 a3.f_From, .int .i64 a3.f_To])), (7, l35 none w7.1), (9, .bool w11.1), (11, .bool v26), (13, l3 none x1), (15, l3 none x2), (16, .bool v44), (17, .bool false), (46, l35 none w7.1), (47, .int .i64 (w7.1.length : Int)), (48, .int .i64 (k1 : Int)), (55, l35 none e25), (56, .int .i64 (e25.length : Int)), (57, .int .i64 (k2 : Int)), (71, .int .i64 a1), (72, .int .i64 (k3 : Int))]) (by kernel_rfl) (fun _ h => h) ?_
              exact hK38 (v44, false) h
            refine W.region (by kernel_rfl) ?_
            refine WO.boolK 2 (fun b => [(0, .int .i64 a1), (5, .ptr (.agg [.int .i64 a3.f_From, .int .i64 a3.f_To])), (7, l35 none w7.1), (9, .bool w11.1), (11, .bool v26), (13, l3 none x1), (15, l3 none x2), (16, .bool b), (17, .bool v37), (18, .int .i64 (k3 : Int)), (46, l35 none w7.1), (47, .int .i64 (w7.1.length : Int)), (48, .int .i64 (k1 : Int)), (55, l35 none e25), (56, .int .i64 (e25.length : Int)), (57, .int .i64 (k2 : Int)), (71, .int .i64 a1), (72, .int .i64 (k3 : Int)), (75, .bool b), (76, .bool b)]) v36 (by kernel_rfl) (fun hb => ?_) (fun hb => ?_)
            · replace h := cond_t hb h
              obtain ⟨hc41, h⟩ := chk_some h
              refine WO.pureK 3 (if (k3 : Int) < 0 then none else some (.int .i64 (iShr .i64 a3.f_From (k3 : Int)))) (v := .int .i64 (iShr .i64 a3.f_From (k3 : Int))) (by kernel_rfl) (if_neg (not_lt_of_chk hc41)) (e1 := [(0, .int .i64 a1), (5, .ptr (.agg [.int .i64 a3.f_From, .int .i64 a3.f_To])), (7, l35 none w7.1), (9, .bool w11.1), (11, .bool v26), (13, l3 none x1), (15, l3 none x2), (16, .bool true), (17, .bool v37), (18, .int .i64 (k3 : Int)), (46, l35 none w7.1), (47, .int .i64 (w7.1.length : Int)), (48, .int .i64 (k1 : Int)), (55, l35 none e25), (56, .int .i64 (e25.length : Int)), (57, .int .i64 (k2 : Int)), (71, .int .i64 a1), (72, .int .i64 (k3 : Int)), (75, .bool true), (76, .bool true), (77, .ptr (.int .i64 a3.f_From)), (78, .int .i64 a3.f_From), (79, .int .i64 (k3 : Int)), (80, .int .i64 (iShr .i64 a3.f_From (k3 : Int)))]) (by kernel_rfl) ?_
              refine WO.boolK 3 (fun b => [(0, .int .i64 a1), (5, .ptr (.agg [.int .i64 a3.f_From, .int .i64 a3.f_To])), (7, l35 none w7.1), (9, .bool w11.1), (11, .bool v26), (13, l3 none x1), (15, l3 none x2), (16, .bool true), (17, .bool v37), (18, .int .i64 (k3 : Int)), (46, l35 none w7.1), (47, .int .i64 (w7.1.length : Int)), (48, .int .i64 (k1 : Int)), (55, l35 none e25), (56, .int .i64 (e25.length : Int)), (57, .int .i64 (k2 : Int)), (71, .int .i64 a1), (72, .int .i64 (k3 : Int)), (75, .bool true), (76, .bool true), (77, .ptr (.int .i64 a3.f_From)), (78, .int .i64 a3.f_From), (79, .int .i64 (k3 : Int)), (80, .int .i64 (iShr .i64 a3.f_From (k3 : Int))), (81, .int .i64 (iAnd .i64 (iShr .i64 a3.f_From (k3 : Int)) 1)), (82, .bool b), (83, .bool b)]) ((iAnd .i64 (iShr .i64 a3.f_From (k3 : Int)) 1) == 0) (by kernel_rfl) (fun hb => ?_) (fun hb => ?_)
              · replace h := cond_t hb h
                refine WO.fin [0, 5, 7, 9, 11, 13, 15, 16, 17, 18, 46, 47, 48, 55, 56, 57, 71, 72] [] [] [] (e2 := [(0, .int .i64 a1), (5, .ptr (.agg [.int .i64 a3.f_From, .int .i64 a3.f_To])), (7, l35 none w7.1), (9, .bool w11.1), (11, .bool v26), (13, l3 none x1), (15, l3 none x2), (16, .bool true), (17, .bool v37), (18, .int .i64 (k3 : Int)), (46, l35 none w7.1), (47, .int .i64 (w7.1.length : Int)), (48, .int .i64 (k1 : Int)), (55, l35 none e25), (56, .int .i64 (e25.length : Int)), (57, .int .i64 (k2 : Int)), (71, .int .i64 a1), (72, .int .i64 (k3 : Int))]) (by kernel_rfl) (fun _ h => h) ?_
                exact hK40 true h
              replace h := cond_f hb h
              obtain ⟨e42, he42, h⟩ := bind_some h
              refine WO.pureK 2 (if (0 : Int) ≤ (k3 : Int) then ((List.map (AV.int .i64) x1)[Int.toNat (k3 : Int)]?).map AV.ptr else none) (v := .ptr (.int .i64 e42)) (by kernel_rfl) (idx_av (f := (AV.int .i64)) he42) (e1 := [(0, .int .i64 a1), (5, .ptr (.agg [.int .i64 a3.f_From, .int .i64 a3.f_To])), (7, l35 none w7.1), (9, .bool w11.1), (11, .bool v26), (13, l3 none x1), (15, l3 none x2), (16, .bool true), (17, .bool v37), (18, .int .i64 (k3 : Int)), (46, l35 none w7.1), (47, .int .i64 (w7.1.length : Int)), (48, .int .i64 (k1 : Int)), (55, l35 none e25), (56, .int .i64 (e25.length : Int)), (57, .int .i64 (k2 : Int)), (71, .int .i64 a1), (72, .int .i64 (k3 : Int)), (75, .bool true), (76, .bool true), (77, .ptr (.int .i64 a3.f_From)), (78, .int .i64 a3.f_From), (79, .int .i64 (k3 : Int)), (80, .int .i64 (iShr .i64 a3.f_From (k3 : Int))), (81, .int .i64 (iAnd .i64 (iShr .i64 a3.f_From (k3 : Int)) 1)), (82, .bool false), (83, .bool false), (84, l3 none x1), (85, .int .i64 (k3 : Int)), (86, .ptr (.int .i64 e42))]) (by kernel_rfl) ?_
              obtain ⟨e43, he43, h⟩ := bind_some h
              refine WO.pureK 3 (if (0 : Int) ≤ (k3 : Int) then ((List.map (AV.int .i64) x2)[Int.toNat (k3 : Int)]?).map AV.ptr else none) (v := .ptr (.int .i64 e43)) (by kernel_rfl) (idx_av (f := (AV.int .i64)) he43) (e1 := [(0, .int .i64 a1), (5, .ptr (.agg [.int .i64 a3.f_From, .int .i64 a3.f_To])), (7, l35 none w7.1), (9, .bool w11.1), (11, .bool v26), (13, l3 none x1), (15, l3 none x2), (16, .bool true), (17, .bool v37), (18, .int .i64 (k3 : Int)), (46, l35 none w7.1), (47, .int .i64 (w7.1.length : Int)), (48, .int .i64 (k1 : Int)), (55, l35 none e25), (56, .int .i64 (e25.length : Int)), (57, .int .i64 (k2 : Int)), (71, .int .i64 a1), (72, .int .i64 (k3 : Int)), (75, .bool true), (76, .bool true), (77, .ptr (.int .i64 a3.f_From)), (78, .int .i64 a3.f_From), (79, .int .i64 (k3 : Int)), (80, .int .i64 (iShr .i64 a3.f_From (k3 : Int))), (81, .int .i64 (iAnd .i64 (iShr .i64 a3.f_From (k3 : Int)) 1)), (82, .bool false), (83, .bool false), (84, l3 none x1), (85, .int .i64 (k3 : Int)), (86, .ptr (.int .i64 e42)), (87, .int .i64 e42), (88, l3 none x2), (89, .int .i64 (k3 : Int)), (90, .ptr (.int .i64 e43))]) (by kernel_rfl) ?_
              refine WO.fin [0, 5, 7, 9, 11, 13, 15, 16, 17, 18, 46, 47, 48, 55, 56, 57, 71, 72] [] [] [] (e2 := [(0, .int .i64 a1), (5, .ptr (.agg [.int .i64 a3.f_From, .int .i64 a3.f_To])), (7, l35 none w7.1), (9, .bool w11.1), (11, .bool v26), (13, l3 none x1), (15, l3 none x2), (16, .bool (e42 == e43)), (17, .bool v37), (18, .int .i64 (k3 : Int)), (46, l35 none w7.1), (47, .int .i64 (w7.1.length : Int)), (48, .int .i64 (k1 : Int)), (55, l35 none e25), (56, .int .i64 (e25.length : Int)), (57, .int .i64 (k2 : Int)), (71, .int .i64 a1), (72, .int .i64 (k3 : Int))]) (by kernel_rfl) (fun _ h => h) ?_
              exact hK40 (e42 == e43) h
            replace h := cond_f hb h
            refine WO.fin [0, 5, 7, 9, 11, 13, 15, 16, 17, 18, 46, 47, 48, 55, 56, 57, 71, 72] [] [] [] (e2 := [(0, .int .i64 a1), (5, .ptr (.agg [.int .i64 a3.f_From, .int .i64 a3.f_To])), (7, l35 none w7.1), (9, .bool w11.1), (11, .bool v26), (13, l3 none x1), (15, l3 none x2), (16, .bool false), (17, .bool v37), (18, .int .i64 (k3 : Int)), (46, l35 none w7.1), (47, .int .i64 (w7.1.length : Int)), (48, .int .i64 (k1 : Int)), (55, l35 none e25), (56, .int .i64 (e25.length : Int)), (57, .int .i64 (k2 : Int)), (71, .int .i64 a1), (72, .int .i64 (k3 : Int))]) (by kernel_rfl) (fun _ h => h) ?_
            exact hK40 false h
        refine W.region (by kernel_rfl) ?_
        refine WO.pureK 1 (some (.int .i64 ((List.map (AV.int .i64) x1).length : Int))) (v := .int .i64 (x1.length : Int)) (by kernel_rfl) (by rw [List.length_map]) (e1 := [(0, .int .i64 a1), (5, .ptr (.agg [.int .i64 a3.f_From, .int .i64 a3.f_To])), (7, l35 none w7.1), (9, .bool w11.1), (11, .bool v26), (13, l3 none x1), (15, l3 none x2), (46, l35 none w7.1), (47, .int .i64 (w7.1.length : Int)), (48, .int .i64 (k1 : Int)), (55, l35 none e25), (56, .int .i64 (e25.length : Int)), (57, .int .i64 (k2 : Int)), (61, l3 none x1), (62, .int .i64 (x1.length : Int))]) (by kernel_rfl) ?_
        refine WO.boolK 3 (fun b => [(0, .int .i64 a1), (5, .ptr (.agg [.int .i64 a3.f_From, .int .i64 a3.f_To])), (7, l35 none w7.1), (9, .bool w11.1), (11, .bool v26), (13, l3 none x1), (15, l3 none x2), (46, l35 none w7.1), (47, .int .i64 (w7.1.length : Int)), (48, .int .i64 (k1 : Int)), (55, l35 none e25), (56, .int .i64 (e25.length : Int)), (57, .int .i64 (k2 : Int)), (61, l3 none x1), (62, .int .i64 (x1.length : Int)), (63, .int .i64 a1), (64, .bool b), (65, .bool b)]) ((x1.length : Int) != a1) (by kernel_rfl) (fun hb => ?_) (fun hb => ?_)
        · replace h := cond_t hb h
          refine WO.fin [0, 5, 7, 9, 11, 13, 15, 46, 47, 48, 55, 56, 57, 70] [] [] [] (e2 := [(0, .int .i64 a1), (5, .ptr (.agg [.int .i64 a3.f_From, .int .i64 a3.f_To])), (7, l35 none w7.1), (9, .bool w11.1), (11, .bool v26), (13, l3 none x1), (15, l3 none x2), (46, l35 none w7.1), (47, .int .i64 (w7.1.length : Int)), (48, .int .i64 (k1 : Int)), (55, l35 none e25), (56, .int .i64 (e25.length : Int)), (57, .int .i64 (k2 : Int)), (70, .bool true)]) (by kernel_rfl) (fun _ h => h) ?_
          exact hK30 true h
        replace h := cond_f hb h
        refine WO.pureK 1 (some (.int .i64 ((List.map (AV.int .i64) x2).length : Int))) (v := .int .i64 (x2.length : Int)) (by kernel_rfl) (by rw [List.length_map]) (e1 := [(0, .int .i64 a1), (5, .ptr (.agg [.int .i64 a3.f_From, .int .i64 a3.f_To])), (7, l35 none w7.1), (9, .bool w11.1), (11, .bool v26), (13, l3 none x1), (15, l3 none x2), (46, l35 none w7.1), (47, .int .i64 (w7.1.length : Int)), (48, .int .i64 (k1 : Int)), (55, l35 none e25), (56, .int .i64 (e25.length : Int)), (57, .int .i64 (k2 : Int)), (61, l3 none x1), (62, .int .i64 (x1.length : Int)), (63, .int .i64 a1), (64, .bool false), (65, .bool false), (66, l3 none x2), (67, .int .i64 (x2.length : Int))]) (by kernel_rfl) ?_
        refine WO.fin [0, 5, 7, 9, 11, 13, 15, 46, 47, 48, 55, 56, 57, 70] [] [] [] (e2 := [(0, .int .i64 a1), (5, .ptr (.agg [.int .i64 a3.f_From, .int .i64 a3.f_To])), (7, l35 none w7.1), (9, .bool w11.1), (11, .bool v26), (13, l3 none x1), (15, l3 none x2), (46, l35 none w7.1), (47, .int .i64 (w7.1.length : Int)), (48, .int .i64 (k1 : Int)), (55, l35 none e25), (56, .int .i64 (e25.length : Int)), (57, .int .i64 (k2 : Int)), (70, .bool ((x2.length : Int) != a1))]) (by kernel_rfl) (fun _ h => h) ?_
        exact hK30 ((x2.length : Int) != a1) h
  refine W.region (by kernel_rfl) ?_
  refine WO.boolK 3 (fun b => [(0, .int .i64 a1), (5, .ptr (.agg [.int .i64 a3.f_From, .int .i64 a3.f_To])), (7, l35 none w7.1), (8, .int .i64 w7.2), (9, .bool w11.1), (10, .int .i64 w11.2), (35, .int .i64 w7.2), (36, .bool b), (37, .bool b)]) (w7.2 != 0) (by kernel_rfl) (fun hb => ?_) (fun hb => ?_)
  · replace h := cond_t hb h
    refine WO.fin [0, 5, 7, 9, 10, 40] [] [] [] (e2 := [(0, .int .i64 a1), (5, .ptr (.agg [.int .i64 a3.f_From, .int .i64 a3.f_To])), (7, l35 none w7.1), (9, .bool w11.1), (10, .int .i64 w11.2), (40, .bool true)]) (by kernel_rfl) (fun _ h => h) ?_
    exact hK13 true h
  replace h := cond_f hb h
  refine WO.fin [0, 5, 7, 9, 10, 40] [] [] [] (e2 := [(0, .int .i64 a1), (5, .ptr (.agg [.int .i64 a3.f_From, .int .i64 a3.f_To])), (7, l35 none w7.1), (9, .bool w11.1), (10, .int .i64 w11.2), (40, .bool (w11.2 != 0))]) (by kernel_rfl) (fun _ h => h) ?_
  exact hK13 (w11.2 != 0) h
def lw1_steps_j4 (v13 : (List dpStep)) : Option (List dpStep) :=
  (some v13)
def lw1_steps_l1 (K4 : ((List dpStep) → Option (List dpStep))) : List rf1Step → Nat → (List dpStep) → Option (List dpStep)
  | [], k1, v6 => (K4 v6)
  | x1 :: r1, k1, v6 => (bif (decide ((k1 : Int) > 101)) then (K4 v6) else ((lw1_dep x1.f_Dep).bind fun w11 => (chk (capOk 40 ((v6 ++ [(dpStep.mk x1.f_Rule x1.f_I x1.f_J w11)])).length) ((lw1_steps_l1 K4 r1 (k1 + 1)) (v6 ++ [(dpStep.mk x1.f_Rule x1.f_I x1.f_J w11)])))))
def lw1_steps (a1 : (List rf1Step)) : Option (List dpStep) :=
  (chk (lenOk a1) (lw1_steps_l1 (lw1_steps_j4) a1 0 ([] : (List dpStep))))
theorem run_lw1_steps (a1 : (List rf1Step)) (r : (List dpStep)) (h : lw1_steps a1 = some r) : Run Try.prog (.call 27 [l98 none a1] (l58 (some 1) r)) := by
  refine call_of_W Try.func27 rfl (by kernel_rfl) (env0 := [(0, l98 none a1)]) (by kernel_rfl) ?_
  unfold lw1_steps at h
  refine W.seq ?_
  refine W.regT [0] [] [] [] (e2 := [(0, l98 none a1)]) (by kernel_rfl) (by kernel_rfl) (fun _ h => h) ?_
  refine W.seq ?_
  refine W.regT [0, 3] [] [] [] (e2 := [(0, l98 none a1), (3, .nils)]) (by kernel_rfl) (by kernel_rfl) (fun _ h => h) ?_
  refine W.seq ?_
  refine W.join (σ := ((List dpStep))) (fun s => [(3, l58 (some 10300) s)]) (fun s => (lw1_steps_j4) s = some r) (fun s h => ?_) (fun hK4 => ?_)
  · obtain ⟨v13, rfl⟩ : ∃ x, x = s := ⟨s, rfl⟩
    have h : (lw1_steps_j4) v13 = some r := h
    unfold lw1_steps_j4 at h
    refine W.seq ?_
    refine W.regT [2] [] [] [] (e2 := [(2, l58 (some 10300) v13)]) (by kernel_rfl) (by kernel_rfl) (fun _ h => h) ?_
    refine W.weak [2] [] [] [(10300, some 1)] (env' := [(2, l58 (some 1) v13)]) (by kernel_rfl) ?_
    have hr : aresults Try.prog Try.f27 [(2, l58 (some 1) v13)] = some (l58 (some 1) v13) := by kernel_rfl
    cases h
    exact W.ret hr
  refine W.seq ?_
  refine W.region (by kernel_rfl) ?_
  refine WO.pureK 1 (some (.int .i64 ((List.map e_rf1Step a1).length : Int))) (v := .int .i64 (a1.length : Int)) (by kernel_rfl) (by rw [List.length_map]) (e1 := [(0, l98 none a1), (3, .nils), (6, l98 none a1), (7, .int .i64 (a1.length : Int))]) (by kernel_rfl) ?_
  refine WO.fin [3, 6, 7, 8] [] [] [] (e2 := [(3, .nils), (6, l98 none a1), (7, .int .i64 (a1.length : Int)), (8, .int .i64 0)]) (by kernel_rfl) (fun _ h => h) ?_
  refine W.block ?_
  obtain ⟨hl1, h⟩ := chk_some h
  refine W.weak [3, 6, 7, 8] [] [(3, 0, 58, 5, 10300)] [] (env' := [(3, l58 (some 10300) ([] : (List dpStep))), (6, l98 none a1), (7, .int .i64 (a1.length : Int)), (8, .int .i64 ((0 : Nat) : Int))]) (by kernel_rfl) ?_
  refine W.range (σ := ((List dpStep))) a1 (fun k1 s => [(3, l58 (some 10300) s), (6, l98 none a1), (7, .int .i64 (a1.length : Int)), (8, .int .i64 (k1 : Int))]) (fun r0 k0 s => lw1_steps_l1 (lw1_steps_j4) r0 k0 s = some r) (fun s h => ?_) (fun x1 r1 k1 s hx1 hk1 h hN1 => ?_) ([] : (List dpStep)) h
  · obtain ⟨v6, rfl⟩ : ∃ x, x = s := ⟨s, rfl⟩
    have h : lw1_steps_l1 (lw1_steps_j4) [] (a1).length v6 = some r := h
    rw [lw1_steps_l1.eq_1] at h
    refine W.seq ?_
    refine W.region (by kernel_rfl) ?_
    refine WO.pureK 0 (some (.bool (decide (((a1).length : Int) < (a1.length : Int))))) (v := .bool false) (by kernel_rfl) (by rw [lt_false (l := a1)]) (e1 := [(3, l58 (some 10300) v6), (6, l98 none a1), (7, .int .i64 (a1.length : Int)), (8, .int .i64 ((a1).length : Int)), (9, .bool false)]) (by kernel_rfl) ?_
    refine WO.fin ([3, 6, 7, 8, 9]) [] [] [] (e2 := [(3, l58 (some 10300) v6), (6, l98 none a1), (7, .int .i64 (a1.length : Int)), (8, .int .i64 ((a1).length : Int)), (9, .bool false)]) (by kernel_rfl) (fun _ h => h) ?_
    refine W.seq ?_
    refine W.condB false (by kernel_rfl) (fun h => Bool.noConfusion h) (fun _ => ?_)
    refine W.exit ?_
    refine W.weak [3] [] [] [] (env' := [(3, l58 (some 10300) v6)]) (by kernel_rfl) ?_
    exact hK4 v6 h
  · obtain ⟨v6, rfl⟩ : ∃ x, x = s := ⟨s, rfl⟩
    have h : lw1_steps_l1 (lw1_steps_j4) (x1 :: r1) k1 v6 = some r := h
    rw [lw1_steps_l1.eq_2] at h
    refine W.seq ?_
    refine W.region (by kernel_rfl) ?_
    refine WO.pureK 0 (some (.bool (decide ((k1 : Int) < (a1.length : Int))))) (v := .bool true) (by kernel_rfl) (by rw [lt_true hk1]) (e1 := [(3, l58 (some 10300) v6), (6, l98 none a1), (7, .int .i64 (a1.length : Int)), (8, .int .i64 (k1 : Int)), (9, .bool true)]) (by kernel_rfl) ?_
    refine WO.fin ([3, 6, 7, 8, 9]) [] [] [] (e2 := [(3, l58 (some 10300) v6), (6, l98 none a1), (7, .int .i64 (a1.length : Int)), (8, .int .i64 (k1 : Int)), (9, .bool true)]) (by kernel_rfl) (fun _ h => h) ?_
    refine W.seq ?_
    refine W.condB true (by kernel_rfl) (fun _ => ?_) (fun h => Bool.noConfusion h)
    refine W.skip ?_
    refine W.weak [3, 6, 7, 8] [] [] [] (env' := [(3, l58 (some 10300) v6), (6, l98 none a1), (7, .int .i64 (a1.length : Int)), (8, .int .i64 (k1 : Int))]) (by kernel_rfl) ?_
    refine W.seq ?_
    refine W.block ?_
    refine W.seq ?_
    refine W.region (by kernel_rfl) ?_
    refine WO.pureK 1 (if (0 : Int) ≤ (k1 : Int) then ((List.map e_rf1Step a1)[Int.toNat (k1 : Int)]?).map AV.ptr else none) (v := .ptr (.agg [.int .i64 x1.f_Rule, .int .i64 x1.f_I, .int .i64 x1.f_J, .int .i64 x1.f_Dep.f_From, .int .i64 x1.f_Dep.f_To])) (by kernel_rfl) (idx_nat (f := e_rf1Step) hx1) (e1 := [(3, l58 (some 10300) v6), (6, l98 none a1), (7, .int .i64 (a1.length : Int)), (8, .int .i64 (k1 : Int)), (10, .int .i64 (k1 : Int)), (11, .ptr (.agg [.int .i64 x1.f_Rule, .int .i64 x1.f_I, .int .i64 x1.f_J, .int .i64 x1.f_Dep.f_From, .int .i64 x1.f_Dep.f_To]))]) (by kernel_rfl) ?_
    refine WO.fin [3, 4, 5, 6, 7, 8] [5] [] [] (e2 := [(3, l58 (some 10300) v6), (4, .int .i64 (k1 : Int)), (5, .ptr (.agg [.int .i64 x1.f_Rule, .int .i64 x1.f_I, .int .i64 x1.f_J, .int .i64 x1.f_Dep.f_From, .int .i64 x1.f_Dep.f_To])), (6, l98 none a1), (7, .int .i64 (a1.length : Int)), (8, .int .i64 (k1 : Int))]) (by kernel_rfl) (fun _ h => h) ?_
    refine W.seq ?_
    refine W.seq ?_
    refine W.regT [3, 5, 6, 7, 8, 14] [] [] [] (e2 := [(3, l58 (some 10300) v6), (5, .ptr (.agg [.int .i64 x1.f_Rule, .int .i64 x1.f_I, .int .i64 x1.f_J, .int .i64 x1.f_Dep.f_From, .int .i64 x1.f_Dep.f_To])), (6, l98 none a1), (7, .int .i64 (a1.length : Int)), (8, .int .i64 (k1 : Int)), (14, .bool (decide ((k1 : Int) > 101)))]) (by kernel_rfl) (by kernel_rfl) (fun _ h => h) ?_
    refine W.condB (decide ((k1 : Int) > 101)) (by kernel_rfl) (fun hb => ?_) (fun hb => ?_)
    · replace h := cond_t hb h
      refine W.exit ?_
      refine W.weak [3] [] [] [] (env' := [(3, l58 (some 10300) v6)]) (by kernel_rfl) ?_
      exact hK4 v6 h
    replace h := cond_f hb h
    refine W.skip ?_
    refine W.weak [3, 5, 6, 7, 8] [] [] [] (env' := [(3, l58 (some 10300) v6), (5, .ptr (.agg [.int .i64 x1.f_Rule, .int .i64 x1.f_I, .int .i64 x1.f_J, .int .i64 x1.f_Dep.f_From, .int .i64 x1.f_Dep.f_To])), (6, l98 none a1), (7, .int .i64 (a1.length : Int)), (8, .int .i64 (k1 : Int))]) (by kernel_rfl) ?_
    refine W.region (by kernel_rfl) ?_
    obtain ⟨w11, hw11, h⟩ := bind_some h
    refine WO.callK 9 (F := 25) (l := [.agg [.int .i64 x1.f_Dep.f_From, .int .i64 x1.f_Dep.f_To]]) (C := []) (r := .agg [.int .i64 w11.f_From, .int .i64 w11.f_To]) (by kernel_rfl) (by kernel_rfl) (run_lw1_dep x1.f_Dep w11 hw11) (e1 := [(3, l58 (some 10300) v6), (5, .ptr (.agg [.int .i64 x1.f_Rule, .int .i64 x1.f_I, .int .i64 x1.f_J, .int .i64 x1.f_Dep.f_From, .int .i64 x1.f_Dep.f_To])), (6, l98 none a1), (7, .int .i64 (a1.length : Int)), (8, .int .i64 (k1 : Int)), (15, l58 (some 10300) v6), (16, .ptr (.int .i64 x1.f_Rule)), (17, .int .i64 x1.f_Rule), (18, .ptr (.int .i64 x1.f_I)), (19, .int .i64 x1.f_I), (20, .ptr (.int .i64 x1.f_J)), (21, .int .i64 x1.f_J), (22, .ptr (.agg [.int .i64 x1.f_Dep.f_From, .int .i64 x1.f_Dep.f_To])), (23, .agg [.int .i64 x1.f_Dep.f_From, .int .i64 x1.f_Dep.f_To]), (24, .agg [.int .i64 w11.f_From, .int .i64 w11.f_To])]) (by kernel_rfl) ?_
    obtain ⟨hc12, h⟩ := chk_some h
    refine WO.appendK 2 (d := 27) (e := 58) (s := 5) (bytes := 40) (xs := (List.map e_dpStep v6)) (ys := (List.map e_dpStep [(dpStep.mk x1.f_Rule x1.f_I x1.f_J w11)])) (zs := (List.map e_dpStep (v6 ++ [(dpStep.mk x1.f_Rule x1.f_I x1.f_J w11)]))) (env1 := [(3, l58 none v6), (5, .ptr (.agg [.int .i64 x1.f_Rule, .int .i64 x1.f_I, .int .i64 x1.f_J, .int .i64 x1.f_Dep.f_From, .int .i64 x1.f_Dep.f_To])), (6, l98 none a1), (7, .int .i64 (a1.length : Int)), (8, .int .i64 (k1 : Int)), (15, l58 none v6), (16, .ptr (.int .i64 x1.f_Rule)), (17, .int .i64 x1.f_Rule), (18, .ptr (.int .i64 x1.f_I)), (19, .int .i64 x1.f_I), (20, .ptr (.int .i64 x1.f_J)), (21, .int .i64 x1.f_J), (22, .ptr (.agg [.int .i64 x1.f_Dep.f_From, .int .i64 x1.f_Dep.f_To])), (23, .agg [.int .i64 x1.f_Dep.f_From, .int .i64 x1.f_Dep.f_To]), (24, .agg [.int .i64 w11.f_From, .int .i64 w11.f_To]), (25, .agg [.int .i64 x1.f_Rule, .int .i64 x1.f_I, .int .i64 x1.f_J, .int .i64 w11.f_From, .int .i64 w11.f_To]), (26, l58 none [(dpStep.mk x1.f_Rule x1.f_I x1.f_J w11)])]) (by kernel_rfl) (List.map_append.symm) (by rw [List.length_map]; exact hc12) (e1 := [(3, l58 none v6), (5, .ptr (.agg [.int .i64 x1.f_Rule, .int .i64 x1.f_I, .int .i64 x1.f_J, .int .i64 x1.f_Dep.f_From, .int .i64 x1.f_Dep.f_To])), (6, l98 none a1), (7, .int .i64 (a1.length : Int)), (8, .int .i64 (k1 : Int)), (15, l58 none v6), (16, .ptr (.int .i64 x1.f_Rule)), (17, .int .i64 x1.f_Rule), (18, .ptr (.int .i64 x1.f_I)), (19, .int .i64 x1.f_I), (20, .ptr (.int .i64 x1.f_J)), (21, .int .i64 x1.f_J), (22, .ptr (.agg [.int .i64 x1.f_Dep.f_From, .int .i64 x1.f_Dep.f_To])), (23, .agg [.int .i64 x1.f_Dep.f_From, .int .i64 x1.f_Dep.f_To]), (24, .agg [.int .i64 w11.f_From, .int .i64 w11.f_To]), (25, .agg [.int .i64 x1.f_Rule, .int .i64 x1.f_I, .int .i64 x1.f_J, .int .i64 w11.f_From, .int .i64 w11.f_To]), (26, l58 none [(dpStep.mk x1.f_Rule x1.f_I x1.f_J w11)]), (27, l58 (some 27) (v6 ++ [(dpStep.mk x1.f_Rule x1.f_I x1.f_J w11)]))]) (by kernel_rfl) ?_
    refine WO.fin [3, 6, 7, 8] [] [] [] (e2 := [(3, l58 (some 27) (v6 ++ [(dpStep.mk x1.f_Rule x1.f_I x1.f_J w11)])), (6, l98 none a1), (7, .int .i64 (a1.length : Int)), (8, .int .i64 (k1 : Int))]) (by kernel_rfl) (fun _ h => h) ?_
    refine W.region (by kernel_rfl) ?_
    refine WO.pureK 0 (some (.int .i64 (IntKind.wrap .i64 ((k1 : Int) + 1)))) (v := .int .i64 ((k1 + 1 : Nat) : Int)) (by kernel_rfl) (by rw [wrap_succ hl1 hk1]) (e1 := [(3, l58 (some 27) (v6 ++ [(dpStep.mk x1.f_Rule x1.f_I x1.f_J w11)])), (6, l98 none a1), (7, .int .i64 (a1.length : Int)), (8, .int .i64 (k1 : Int)), (28, .int .i64 ((k1 + 1 : Nat) : Int))]) (by kernel_rfl) ?_
    refine WO.fin [3, 6, 7, 8] [] [] [(27, some 10300)] (e2 := [(3, l58 (some 10300) (v6 ++ [(dpStep.mk x1.f_Rule x1.f_I x1.f_J w11)])), (6, l98 none a1), (7, .int .i64 (a1.length : Int)), (8, .int .i64 ((k1 + 1 : Nat) : Int))]) (by kernel_rfl) (fun _ h => h) ?_
    exact hN1 (v6 ++ [(dpStep.mk x1.f_Rule x1.f_I x1.f_J w11)]) h
def dp_Step_right_1_j4 (v5 : Bool) : Option Bool :=
  (some v5)
def dp_Step_right_1 (a1 : Int) (c2 : (List dpStep)) : Option Bool :=
  (bif (decide (a1 ≥ 0)) then ((dp_Step_right_1_j4) (decide (a1 < (c2.length : Int)))) else ((dp_Step_right_1_j4) false))
theorem run_dp_Step_right_1 (a1 : Int) (c2 : (List dpStep)) (r : Bool) (h : dp_Step_right_1 a1 c2 = some r) : Run Try.prog (.call 79 [.int .i64 a1, .ptr (l58 none c2)] (.bool r)) := by
  refine call_of_W Try.func79 rfl (by kernel_rfl) (env0 := [(0, .int .i64 a1), (1, .ptr (l58 none c2))]) (by kernel_rfl) ?_
  unfold dp_Step_right_1 at h
  refine W.seq ?_
  refine W.regT [0, 1] [] [] [] (e2 := [(0, .int .i64 a1), (1, .ptr (l58 none c2))]) (by kernel_rfl) (by kernel_rfl) (fun _ h => h) ?_
  refine W.seq ?_
  refine W.join (σ := (Bool)) (fun s => [(3, .bool s)]) (fun s => (dp_Step_right_1_j4) s = some r) (fun s h => ?_) (fun hK4 => ?_)
  · obtain ⟨v5, rfl⟩ : ∃ x, x = s := ⟨s, rfl⟩
    have h : (dp_Step_right_1_j4) v5 = some r := h
    unfold dp_Step_right_1_j4 at h
    refine W.weak [3] [] [] [] (env' := [(3, .bool v5)]) (by kernel_rfl) ?_
    have hr : aresults Try.prog Try.f79 [(3, .bool v5)] = some (.bool v5) := by kernel_rfl
    cases h
    exact W.ret hr
  refine W.region (by kernel_rfl) ?_
  refine WO.boolK 3 (fun b => [(0, .int .i64 a1), (1, .ptr (l58 none c2)), (4, .int .i64 a1), (5, .bool b), (6, .bool b)]) (decide (a1 ≥ 0)) (by kernel_rfl) (fun hb => ?_) (fun hb => ?_)
  · replace h := cond_t hb h
    refine WO.pureK 2 (some (.int .i64 ((List.map e_dpStep c2).length : Int))) (v := .int .i64 (c2.length : Int)) (by kernel_rfl) (by rw [List.length_map]) (e1 := [(0, .int .i64 a1), (1, .ptr (l58 none c2)), (4, .int .i64 a1), (5, .bool true), (6, .bool true), (7, .int .i64 a1), (8, l58 none c2), (9, .int .i64 (c2.length : Int))]) (by kernel_rfl) ?_
    refine WO.fin [3] [] [] [] (e2 := [(3, .bool (decide (a1 < (c2.length : Int))))]) (by kernel_rfl) (fun _ h => h) ?_
    exact hK4 (decide (a1 < (c2.length : Int))) h
  replace h := cond_f hb h
  refine WO.fin [3] [] [] [] (e2 := [(3, .bool false)]) (by kernel_rfl) (fun _ h => h) ?_
  exact hK4 false h
def dp_Step_right_j14 (v16 : Bool) : Option Bool :=
  (some v16)
def dp_Step_right_j18 (v19 : Bool) : Option Bool :=
  (some v19)
def dp_Step_right_j21 (v26 : Bool) : Option Bool :=
  (some v26)
def dp_Step_right_j28 (v35 : Bool) : Option Bool :=
  (some v35)
def dp_Step_right (a1 : dpStep) (a2 : Int) (a3 : (List dpDep)) (a4 : (List dpStep)) : Option Bool :=
  ((dp_sets a2 [a1.f_Dep.f_From, a1.f_Dep.f_To]).bind fun w8 => (bif (!w8) then (some false) else (bif (a1.f_Rule == 0) then (bif (decide (a1.f_I ≥ 0)) then (bif (decide (a1.f_I < (a3.length : Int))) then (bif (a1.f_J == 0) then ((idx a3 a1.f_I).bind fun e15 => ((dp_Step_right_j14) ((a1.f_Dep.f_From == e15.f_From) && ((a1.f_Dep.f_To == e15.f_To) && true)))) else ((dp_Step_right_j14) false)) else ((dp_Step_right_j14) false)) else ((dp_Step_right_j14) false)) else (bif (a1.f_Rule == 1) then (bif (a1.f_I == 0) then (bif (a1.f_J == 0) then ((dp_Step_right_j18) ((iAndNot .i64 a1.f_Dep.f_To a1.f_Dep.f_From) == 0)) else ((dp_Step_right_j18) false)) else ((dp_Step_right_j18) false)) else (bif (a1.f_Rule == 2) then ((dp_Step_right_1 a1.f_I a4).bind fun w22 => (bif w22 then ((dp_sets a2 [a1.f_J]).bind fun w23 => (bif w23 then ((idx a4 a1.f_I).bind fun e24 => ((idx a4 a1.f_I).bind fun e25 => ((dp_Step_right_j21) ((a1.f_Dep.f_From == (iOr .i64 e24.f_Dep.f_From a1.f_J)) && ((a1.f_Dep.f_To == (iOr .i64 e25.f_Dep.f_To a1.f_J)) && true))))) else ((dp_Step_right_j21) false))) else ((dp_Step_right_j21) false))) else (bif (a1.f_Rule == 3) then ((dp_Step_right_1 a1.f_I a4).bind fun w29 => (bif w29 then ((dp_Step_right_1 a1.f_J a4).bind fun w30 => (bif w30 then ((idx a4 a1.f_I).bind fun e31 => ((idx a4 a1.f_J).bind fun e32 => (bif (e31.f_Dep.f_To == e32.f_Dep.f_From) then ((idx a4 a1.f_I).bind fun e33 => ((idx a4 a1.f_J).bind fun e34 => ((dp_Step_right_j28) ((a1.f_Dep.f_From == e33.f_Dep.f_From) && ((a1.f_Dep.f_To == e34.f_Dep.f_To) && true))))) else ((dp_Step_right_j28) false)))) else ((dp_Step_right_j28) false))) else ((dp_Step_right_j28) false))) else (some false)))))))
theorem run_dp_Step_right (a1 : dpStep) (a2 : Int) (a3 : (List dpDep)) (a4 : (List dpStep)) (r : Bool) (h : dp_Step_right a1 a2 a3 a4 = some r) : Run Try.prog (.call 63 [.agg [.int .i64 a1.f_Rule, .int .i64 a1.f_I, .int .i64 a1.f_J, .int .i64 a1.f_Dep.f_From, .int .i64 a1.f_Dep.f_To], .int .i64 a2, l33 none a3, l58 none a4] (.bool r)) := by
  refine call_of_W Try.func63 rfl (by kernel_rfl) (env0 := [(0, .agg [.int .i64 a1.f_Rule, .int .i64 a1.f_I, .int .i64 a1.f_J, .int .i64 a1.f_Dep.f_From, .int .i64 a1.f_Dep.f_To]), (1, .int .i64 a2), (2, l33 none a3), (3, l58 none a4)]) (by kernel_rfl) ?_
  unfold dp_Step_right at h
  refine W.seq ?_
  refine W.regT [1, 2, 4, 7] [4, 7] [] [] (e2 := [(1, .int .i64 a2), (2, l33 none a3), (4, .ptr (.agg [.int .i64 a1.f_Rule, .int .i64 a1.f_I, .int .i64 a1.f_J, .int .i64 a1.f_Dep.f_From, .int .i64 a1.f_Dep.f_To])), (7, .ptr (l58 none a4))]) (by kernel_rfl) (by kernel_rfl) (fun _ h => h) ?_
  refine W.seq ?_
  refine W.seq ?_
  refine W.region (by kernel_rfl) ?_
  obtain ⟨w8, hw8, h⟩ := bind_some h
  refine WO.callK 8 (F := 58) (l := [.int .i64 a2, l3 none [a1.f_Dep.f_From, a1.f_Dep.f_To]]) (C := []) (r := .bool w8) (by kernel_rfl) (by kernel_rfl) (run_dp_sets a2 [a1.f_Dep.f_From, a1.f_Dep.f_To] w8 hw8) (e1 := [(1, .int .i64 a2), (2, l33 none a3), (4, .ptr (.agg [.int .i64 a1.f_Rule, .int .i64 a1.f_I, .int .i64 a1.f_J, .int .i64 a1.f_Dep.f_From, .int .i64 a1.f_Dep.f_To])), (7, .ptr (l58 none a4)), (10, .int .i64 a2), (11, .ptr (.agg [.int .i64 a1.f_Dep.f_From, .int .i64 a1.f_Dep.f_To])), (12, .ptr (.int .i64 a1.f_Dep.f_From)), (13, .int .i64 a1.f_Dep.f_From), (14, .ptr (.agg [.int .i64 a1.f_Dep.f_From, .int .i64 a1.f_Dep.f_To])), (15, .ptr (.int .i64 a1.f_Dep.f_To)), (16, .int .i64 a1.f_Dep.f_To), (17, l3 (some 17) [a1.f_Dep.f_From, a1.f_Dep.f_To]), (18, .bool w8)]) (by kernel_rfl) ?_
  refine WO.fin [1, 2, 4, 7, 19] [] [] [] (e2 := [(1, .int .i64 a2), (2, l33 none a3), (4, .ptr (.agg [.int .i64 a1.f_Rule, .int .i64 a1.f_I, .int .i64 a1.f_J, .int .i64 a1.f_Dep.f_From, .int .i64 a1.f_Dep.f_To])), (7, .ptr (l58 none a4)), (19, .bool (!w8))]) (by kernel_rfl) (fun _ h => h) ?_
  refine W.condB (!w8) (by kernel_rfl) (fun hb => ?_) (fun hb => ?_)
  · replace h := cond_t hb h
    refine W.seq ?_
    refine W.regT [8] [] [] [] (e2 := [(8, .bool false)]) (by kernel_rfl) (by kernel_rfl) (fun _ h => h) ?_
    refine W.weak [8] [] [] [] (env' := [(8, .bool false)]) (by kernel_rfl) ?_
    have hr : aresults Try.prog Try.f63 [(8, .bool false)] = some (.bool false) := by kernel_rfl
    cases h
    exact W.ret hr
  replace h := cond_f hb h
  refine W.skip ?_
  refine W.weak [1, 2, 4, 7] [] [] [] (env' := [(1, .int .i64 a2), (2, l33 none a3), (4, .ptr (.agg [.int .i64 a1.f_Rule, .int .i64 a1.f_I, .int .i64 a1.f_J, .int .i64 a1.f_Dep.f_From, .int .i64 a1.f_Dep.f_To])), (7, .ptr (l58 none a4))]) (by kernel_rfl) ?_
  refine W.seq ?_
  refine W.regT [1, 2, 4, 7, 9] [] [] [] (e2 := [(1, .int .i64 a2), (2, l33 none a3), (4, .ptr (.agg [.int .i64 a1.f_Rule, .int .i64 a1.f_I, .int .i64 a1.f_J, .int .i64 a1.f_Dep.f_From, .int .i64 a1.f_Dep.f_To])), (7, .ptr (l58 none a4)), (9, .clo 79 [.ptr (l58 none a4)])]) (by kernel_rfl) (by kernel_rfl) (fun _ h => h) ?_
  refine W.seq ?_
  refine W.seq ?_
  refine W.regT [1, 2, 4, 7, 9, 22] [] [] [] (e2 := [(1, .int .i64 a2), (2, l33 none a3), (4, .ptr (.agg [.int .i64 a1.f_Rule, .int .i64 a1.f_I, .int .i64 a1.f_J, .int .i64 a1.f_Dep.f_From, .int .i64 a1.f_Dep.f_To])), (7, .ptr (l58 none a4)), (9, .clo 79 [.ptr (l58 none a4)]), (22, .int .i64 a1.f_Rule)]) (by kernel_rfl) (by kernel_rfl) (fun _ h => h) ?_
  refine W.block ?_
  refine W.seq ?_
  refine W.regT [1, 2, 4, 7, 9, 22, 23] [] [] [] (e2 := [(1, .int .i64 a2), (2, l33 none a3), (4, .ptr (.agg [.int .i64 a1.f_Rule, .int .i64 a1.f_I, .int .i64 a1.f_J, .int .i64 a1.f_Dep.f_From, .int .i64 a1.f_Dep.f_To])), (7, .ptr (l58 none a4)), (9, .clo 79 [.ptr (l58 none a4)]), (22, .int .i64 a1.f_Rule), (23, .bool (a1.f_Rule == 0))]) (by kernel_rfl) (by kernel_rfl) (fun _ h => h) ?_
  refine W.condB (a1.f_Rule == 0) (by kernel_rfl) (fun hb => ?_) (fun hb => ?_)
  · replace h := cond_t hb h
    refine W.seq ?_
    refine W.join (σ := (Bool)) (fun s => [(8, .bool s)]) (fun s => (dp_Step_right_j14) s = some r) (fun s h => ?_) (fun hK14 => ?_)
    · obtain ⟨v16, rfl⟩ : ∃ x, x = s := ⟨s, rfl⟩
      have h : (dp_Step_right_j14) v16 = some r := h
      unfold dp_Step_right_j14 at h
      refine W.weak [8] [] [] [] (env' := [(8, .bool v16)]) (by kernel_rfl) ?_
      have hr : aresults Try.prog Try.f63 [(8, .bool v16)] = some (.bool v16) := by kernel_rfl
      cases h
      exact W.ret hr
    refine W.region (by kernel_rfl) ?_
    refine WO.boolK 4 (fun b => [(1, .int .i64 a2), (2, l33 none a3), (4, .ptr (.agg [.int .i64 a1.f_Rule, .int .i64 a1.f_I, .int .i64 a1.f_J, .int .i64 a1.f_Dep.f_From, .int .i64 a1.f_Dep.f_To])), (7, .ptr (l58 none a4)), (9, .clo 79 [.ptr (l58 none a4)]), (22, .int .i64 a1.f_Rule), (23, .bool (a1.f_Rule == 0)), (25, .ptr (.int .i64 a1.f_I)), (26, .int .i64 a1.f_I), (27, .bool b), (28, .bool b)]) (decide (a1.f_I ≥ 0)) (by kernel_rfl) (fun hb => ?_) (fun hb => ?_)
    · replace h := cond_t hb h
      refine WO.pureK 3 (some (.int .i64 ((List.map e_dpDep a3).length : Int))) (v := .int .i64 (a3.length : Int)) (by kernel_rfl) (by rw [List.length_map]) (e1 := [(1, .int .i64 a2), (2, l33 none a3), (4, .ptr (.agg [.int .i64 a1.f_Rule, .int .i64 a1.f_I, .int .i64 a1.f_J, .int .i64 a1.f_Dep.f_From, .int .i64 a1.f_Dep.f_To])), (7, .ptr (l58 none a4)), (9, .clo 79 [.ptr (l58 none a4)]), (22, .int .i64 a1.f_Rule), (23, .bool (a1.f_Rule == 0)), (25, .ptr (.int .i64 a1.f_I)), (26, .int .i64 a1.f_I), (27, .bool true), (28, .bool true), (29, .ptr (.int .i64 a1.f_I)), (30, .int .i64 a1.f_I), (31, l33 none a3), (32, .int .i64 (a3.length : Int))]) (by kernel_rfl) ?_
      refine WO.boolK 3 (fun b => [(1, .int .i64 a2), (2, l33 none a3), (4, .ptr (.agg [.int .i64 a1.f_Rule, .int .i64 a1.f_I, .int .i64 a1.f_J, .int .i64 a1.f_Dep.f_From, .int .i64 a1.f_Dep.f_To])), (7, .ptr (l58 none a4)), (9, .clo 79 [.ptr (l58 none a4)]), (22, .int .i64 a1.f_Rule), (23, .bool (a1.f_Rule == 0)), (25, .ptr (.int .i64 a1.f_I)), (26, .int .i64 a1.f_I), (27, .bool true), (28, .bool true), (29, .ptr (.int .i64 a1.f_I)), (30, .int .i64 a1.f_I), (31, l33 none a3), (32, .int .i64 (a3.length : Int)), (33, .bool b), (34, .bool b), (35, .bool b)]) (decide (a1.f_I < (a3.length : Int))) (by kernel_rfl) (fun hb => ?_) (fun hb => ?_)
      · replace h := cond_t hb h
        refine WO.boolK 5 (fun b => [(1, .int .i64 a2), (2, l33 none a3), (4, .ptr (.agg [.int .i64 a1.f_Rule, .int .i64 a1.f_I, .int .i64 a1.f_J, .int .i64 a1.f_Dep.f_From, .int .i64 a1.f_Dep.f_To])), (7, .ptr (l58 none a4)), (9, .clo 79 [.ptr (l58 none a4)]), (22, .int .i64 a1.f_Rule), (23, .bool (a1.f_Rule == 0)), (25, .ptr (.int .i64 a1.f_I)), (26, .int .i64 a1.f_I), (27, .bool true), (28, .bool true), (29, .ptr (.int .i64 a1.f_I)), (30, .int .i64 a1.f_I), (31, l33 none a3), (32, .int .i64 (a3.length : Int)), (33, .bool true), (34, .bool true), (35, .bool true), (36, .ptr (.int .i64 a1.f_J)), (37, .int .i64 a1.f_J), (38, .bool b), (39, .bool b), (40, .bool b)]) (a1.f_J == 0) (by kernel_rfl) (fun hb => ?_) (fun hb => ?_)
        · replace h := cond_t hb h
          obtain ⟨e15, he15, h⟩ := bind_some h
          refine WO.pureK 5 (if (0 : Int) ≤ a1.f_I then ((List.map e_dpDep a3)[Int.toNat a1.f_I]?).map AV.ptr else none) (v := .ptr (.agg [.int .i64 e15.f_From, .int .i64 e15.f_To])) (by kernel_rfl) (idx_av (f := e_dpDep) he15) (e1 := [(1, .int .i64 a2), (2, l33 none a3), (4, .ptr (.agg [.int .i64 a1.f_Rule, .int .i64 a1.f_I, .int .i64 a1.f_J, .int .i64 a1.f_Dep.f_From, .int .i64 a1.f_Dep.f_To])), (7, .ptr (l58 none a4)), (9, .clo 79 [.ptr (l58 none a4)]), (22, .int .i64 a1.f_Rule), (23, .bool (a1.f_Rule == 0)), (25, .ptr (.int .i64 a1.f_I)), (26, .int .i64 a1.f_I), (27, .bool true), (28, .bool true), (29, .ptr (.int .i64 a1.f_I)), (30, .int .i64 a1.f_I), (31, l33 none a3), (32, .int .i64 (a3.length : Int)), (33, .bool true), (34, .bool true), (35, .bool true), (36, .ptr (.int .i64 a1.f_J)), (37, .int .i64 a1.f_J), (38, .bool true), (39, .bool true), (40, .bool true), (41, .ptr (.agg [.int .i64 a1.f_Dep.f_From, .int .i64 a1.f_Dep.f_To])), (42, .agg [.int .i64 a1.f_Dep.f_From, .int .i64 a1.f_Dep.f_To]), (43, l33 none a3), (44, .ptr (.int .i64 a1.f_I)), (45, .int .i64 a1.f_I), (46, .ptr (.agg [.int .i64 e15.f_From, .int .i64 e15.f_To]))]) (by kernel_rfl) ?_
          refine WO.fin [8] [] [] [] (e2 := [(8, .bool ((a1.f_Dep.f_From == e15.f_From) && ((a1.f_Dep.f_To == e15.f_To) && true)))]) (by kernel_rfl) (fun _ h => h) ?_
          exact hK14 ((a1.f_Dep.f_From == e15.f_From) && ((a1.f_Dep.f_To == e15.f_To) && true)) h
        replace h := cond_f hb h
        refine WO.fin [8] [] [] [] (e2 := [(8, .bool false)]) (by kernel_rfl) (fun _ h => h) ?_
        exact hK14 false h
      replace h := cond_f hb h
      refine WO.fin [8] [] [] [] (e2 := [(8, .bool false)]) (by kernel_rfl) (fun _ h => h) ?_
      exact hK14 false h
    replace h := cond_f hb h
    refine WO.fin [8] [] [] [] (e2 := [(8, .bool false)]) (by kernel_rfl) (fun _ h => h) ?_
    exact hK14 false h
  replace h := cond_f hb h
  refine W.seq ?_
  refine W.regT [1, 4, 7, 9, 22, 50] [] [] [] (e2 := [(1, .int .i64 a2), (4, .ptr (.agg [.int .i64 a1.f_Rule, .int .i64 a1.f_I, .int .i64 a1.f_J, .int .i64 a1.f_Dep.f_From, .int .i64 a1.f_Dep.f_To])), (7, .ptr (l58 none a4)), (9, .clo 79 [.ptr (l58 none a4)]), (22, .int .i64 a1.f_Rule), (50, .bool (a1.f_Rule == 1))]) (by kernel_rfl) (by kernel_rfl) (fun _ h => h) ?_
  refine W.condB (a1.f_Rule == 1) (by kernel_rfl) (fun hb => ?_) (fun hb => ?_)
  · replace h := cond_t hb h
    refine W.seq ?_
    refine W.join (σ := (Bool)) (fun s => [(8, .bool s)]) (fun s => (dp_Step_right_j18) s = some r) (fun s h => ?_) (fun hK18 => ?_)
    · obtain ⟨v19, rfl⟩ : ∃ x, x = s := ⟨s, rfl⟩
      have h : (dp_Step_right_j18) v19 = some r := h
      unfold dp_Step_right_j18 at h
      refine W.weak [8] [] [] [] (env' := [(8, .bool v19)]) (by kernel_rfl) ?_
      have hr : aresults Try.prog Try.f63 [(8, .bool v19)] = some (.bool v19) := by kernel_rfl
      cases h
      exact W.ret hr
    refine W.region (by kernel_rfl) ?_
    refine WO.boolK 4 (fun b => [(1, .int .i64 a2), (4, .ptr (.agg [.int .i64 a1.f_Rule, .int .i64 a1.f_I, .int .i64 a1.f_J, .int .i64 a1.f_Dep.f_From, .int .i64 a1.f_Dep.f_To])), (7, .ptr (l58 none a4)), (9, .clo 79 [.ptr (l58 none a4)]), (22, .int .i64 a1.f_Rule), (50, .bool (a1.f_Rule == 1)), (52, .ptr (.int .i64 a1.f_I)), (53, .int .i64 a1.f_I), (54, .bool b), (55, .bool b)]) (a1.f_I == 0) (by kernel_rfl) (fun hb => ?_) (fun hb => ?_)
    · replace h := cond_t hb h
      refine WO.boolK 5 (fun b => [(1, .int .i64 a2), (4, .ptr (.agg [.int .i64 a1.f_Rule, .int .i64 a1.f_I, .int .i64 a1.f_J, .int .i64 a1.f_Dep.f_From, .int .i64 a1.f_Dep.f_To])), (7, .ptr (l58 none a4)), (9, .clo 79 [.ptr (l58 none a4)]), (22, .int .i64 a1.f_Rule), (50, .bool (a1.f_Rule == 1)), (52, .ptr (.int .i64 a1.f_I)), (53, .int .i64 a1.f_I), (54, .bool true), (55, .bool true), (56, .ptr (.int .i64 a1.f_J)), (57, .int .i64 a1.f_J), (58, .bool b), (59, .bool b), (60, .bool b)]) (a1.f_J == 0) (by kernel_rfl) (fun hb => ?_) (fun hb => ?_)
      · replace h := cond_t hb h
        refine WO.fin [8] [] [] [] (e2 := [(8, .bool ((iAndNot .i64 a1.f_Dep.f_To a1.f_Dep.f_From) == 0))]) (by kernel_rfl) (fun _ h => h) ?_
        exact hK18 ((iAndNot .i64 a1.f_Dep.f_To a1.f_Dep.f_From) == 0) h
      replace h := cond_f hb h
      refine WO.fin [8] [] [] [] (e2 := [(8, .bool false)]) (by kernel_rfl) (fun _ h => h) ?_
      exact hK18 false h
    replace h := cond_f hb h
    refine WO.fin [8] [] [] [] (e2 := [(8, .bool false)]) (by kernel_rfl) (fun _ h => h) ?_
    exact hK18 false h
  replace h := cond_f hb h
  refine W.seq ?_
  refine W.regT [1, 4, 7, 9, 22, 70] [] [] [] (e2 := [(1, .int .i64 a2), (4, .ptr (.agg [.int .i64 a1.f_Rule, .int .i64 a1.f_I, .int .i64 a1.f_J, .int .i64 a1.f_Dep.f_From, .int .i64 a1.f_Dep.f_To])), (7, .ptr (l58 none a4)), (9, .clo 79 [.ptr (l58 none a4)]), (22, .int .i64 a1.f_Rule), (70, .bool (a1.f_Rule == 2))]) (by kernel_rfl) (by kernel_rfl) (fun _ h => h) ?_
  refine W.condB (a1.f_Rule == 2) (by kernel_rfl) (fun hb => ?_) (fun hb => ?_)
  · replace h := cond_t hb h
    refine W.seq ?_
    refine W.join (σ := (Bool)) (fun s => [(8, .bool s)]) (fun s => (dp_Step_right_j21) s = some r) (fun s h => ?_) (fun hK21 => ?_)
    · obtain ⟨v26, rfl⟩ : ∃ x, x = s := ⟨s, rfl⟩
      have h : (dp_Step_right_j21) v26 = some r := h
      unfold dp_Step_right_j21 at h
      refine W.weak [8] [] [] [] (env' := [(8, .bool v26)]) (by kernel_rfl) ?_
      have hr : aresults Try.prog Try.f63 [(8, .bool v26)] = some (.bool v26) := by kernel_rfl
      cases h
      exact W.ret hr
    refine W.region (by kernel_rfl) ?_
    obtain ⟨w22, hw22, h⟩ := bind_some h
    refine WO.callK 3 (F := 79) (l := [.int .i64 a1.f_I]) (C := [.ptr (l58 none a4)]) (r := .bool w22) (by kernel_rfl) (by kernel_rfl) (run_dp_Step_right_1 a1.f_I a4 w22 hw22) (e1 := [(1, .int .i64 a2), (4, .ptr (.agg [.int .i64 a1.f_Rule, .int .i64 a1.f_I, .int .i64 a1.f_J, .int .i64 a1.f_Dep.f_From, .int .i64 a1.f_Dep.f_To])), (7, .ptr (l58 none a4)), (9, .clo 79 [.ptr (l58 none a4)]), (22, .int .i64 a1.f_Rule), (70, .bool (a1.f_Rule == 2)), (72, .clo 79 [.ptr (l58 none a4)]), (73, .ptr (.int .i64 a1.f_I)), (74, .int .i64 a1.f_I), (75, .bool w22)]) (by kernel_rfl) ?_
    refine WO.boolK 1 (fun b => [(1, .int .i64 a2), (4, .ptr (.agg [.int .i64 a1.f_Rule, .int .i64 a1.f_I, .int .i64 a1.f_J, .int .i64 a1.f_Dep.f_From, .int .i64 a1.f_Dep.f_To])), (7, .ptr (l58 none a4)), (9, .clo 79 [.ptr (l58 none a4)]), (22, .int .i64 a1.f_Rule), (70, .bool (a1.f_Rule == 2)), (72, .clo 79 [.ptr (l58 none a4)]), (73, .ptr (.int .i64 a1.f_I)), (74, .int .i64 a1.f_I), (75, .bool b), (76, .bool b)]) w22 (by kernel_rfl) (fun hb => ?_) (fun hb => ?_)
    · replace h := cond_t hb h
      obtain ⟨w23, hw23, h⟩ := bind_some h
      refine WO.callK 4 (F := 58) (l := [.int .i64 a2, l3 none [a1.f_J]]) (C := []) (r := .bool w23) (by kernel_rfl) (by kernel_rfl) (run_dp_sets a2 [a1.f_J] w23 hw23) (e1 := [(1, .int .i64 a2), (4, .ptr (.agg [.int .i64 a1.f_Rule, .int .i64 a1.f_I, .int .i64 a1.f_J, .int .i64 a1.f_Dep.f_From, .int .i64 a1.f_Dep.f_To])), (7, .ptr (l58 none a4)), (9, .clo 79 [.ptr (l58 none a4)]), (22, .int .i64 a1.f_Rule), (70, .bool (a1.f_Rule == 2)), (72, .clo 79 [.ptr (l58 none a4)]), (73, .ptr (.int .i64 a1.f_I)), (74, .int .i64 a1.f_I), (75, .bool true), (76, .bool true), (77, .int .i64 a2), (78, .ptr (.int .i64 a1.f_J)), (79, .int .i64 a1.f_J), (80, l3 none [a1.f_J]), (81, .bool w23)]) (by kernel_rfl) ?_
      refine WO.boolK 2 (fun b => [(1, .int .i64 a2), (4, .ptr (.agg [.int .i64 a1.f_Rule, .int .i64 a1.f_I, .int .i64 a1.f_J, .int .i64 a1.f_Dep.f_From, .int .i64 a1.f_Dep.f_To])), (7, .ptr (l58 none a4)), (9, .clo 79 [.ptr (l58 none a4)]), (22, .int .i64 a1.f_Rule), (70, .bool (a1.f_Rule == 2)), (72, .clo 79 [.ptr (l58 none a4)]), (73, .ptr (.int .i64 a1.f_I)), (74, .int .i64 a1.f_I), (75, .bool true), (76, .bool true), (77, .int .i64 a2), (78, .ptr (.int .i64 a1.f_J)), (79, .int .i64 a1.f_J), (80, l3 none [a1.f_J]), (81, .bool b), (82, .bool b), (83, .bool b)]) w23 (by kernel_rfl) (fun hb => ?_) (fun hb => ?_)
      · replace h := cond_t hb h
        obtain ⟨e24, he24, h⟩ := bind_some h
        refine WO.pureK 5 (if (0 : Int) ≤ a1.f_I then ((List.map e_dpStep a4)[Int.toNat a1.f_I]?).map AV.ptr else none) (v := .ptr (.agg [.int .i64 e24.f_Rule, .int .i64 e24.f_I, .int .i64 e24.f_J, .int .i64 e24.f_Dep.f_From, .int .i64 e24.f_Dep.f_To])) (by kernel_rfl) (idx_av (f := e_dpStep) he24) (e1 := [(1, .int .i64 a2), (4, .ptr (.agg [.int .i64 a1.f_Rule, .int .i64 a1.f_I, .int .i64 a1.f_J, .int .i64 a1.f_Dep.f_From, .int .i64 a1.f_Dep.f_To])), (7, .ptr (l58 none a4)), (9, .clo 79 [.ptr (l58 none a4)]), (22, .int .i64 a1.f_Rule), (70, .bool (a1.f_Rule == 2)), (72, .clo 79 [.ptr (l58 none a4)]), (73, .ptr (.int .i64 a1.f_I)), (74, .int .i64 a1.f_I), (75, .bool true), (76, .bool true), (77, .int .i64 a2), (78, .ptr (.int .i64 a1.f_J)), (79, .int .i64 a1.f_J), (80, l3 none [a1.f_J]), (81, .bool true), (82, .bool true), (83, .bool true), (84, .ptr (.agg [.int .i64 a1.f_Dep.f_From, .int .i64 a1.f_Dep.f_To])), (85, .agg [.int .i64 a1.f_Dep.f_From, .int .i64 a1.f_Dep.f_To]), (86, l58 none a4), (87, .ptr (.int .i64 a1.f_I)), (88, .int .i64 a1.f_I), (89, .ptr (.agg [.int .i64 e24.f_Rule, .int .i64 e24.f_I, .int .i64 e24.f_J, .int .i64 e24.f_Dep.f_From, .int .i64 e24.f_Dep.f_To]))]) (by kernel_rfl) ?_
        obtain ⟨e25, he25, h⟩ := bind_some h
        refine WO.pureK 9 (if (0 : Int) ≤ a1.f_I then ((List.map e_dpStep a4)[Int.toNat a1.f_I]?).map AV.ptr else none) (v := .ptr (.agg [.int .i64 e25.f_Rule, .int .i64 e25.f_I, .int .i64 e25.f_J, .int .i64 e25.f_Dep.f_From, .int .i64 e25.f_Dep.f_To])) (by kernel_rfl) (idx_av (f := e_dpStep) he25) (e1 := [(1, .int .i64 a2), (4, .ptr (.agg [.int .i64 a1.f_Rule, .int .i64 a1.f_I, .int .i64 a1.f_J, .int .i64 a1.f_Dep.f_From, .int .i64 a1.f_Dep.f_To])), (7, .ptr (l58 none a4)), (9, .clo 79 [.ptr (l58 none a4)]), (22, .int .i64 a1.f_Rule), (70, .bool (a1.f_Rule == 2)), (72, .clo 79 [.ptr (l58 none a4)]), (73, .ptr (.int .i64 a1.f_I)), (74, .int .i64 a1.f_I), (75, .bool true), (76, .bool true), (77, .int .i64 a2), (78, .ptr (.int .i64 a1.f_J)), (79, .int .i64 a1.f_J), (80, l3 none [a1.f_J]), (81, .bool true), (82, .bool true), (83, .bool true), (84, .ptr (.agg [.int .i64 a1.f_Dep.f_From, .int .i64 a1.f_Dep.f_To])), (85, .agg [.int .i64 a1.f_Dep.f_From, .int .i64 a1.f_Dep.f_To]), (86, l58 none a4), (87, .ptr (.int .i64 a1.f_I)), (88, .int .i64 a1.f_I), (89, .ptr (.agg [.int .i64 e24.f_Rule, .int .i64 e24.f_I, .int .i64 e24.f_J, .int .i64 e24.f_Dep.f_From, .int .i64 e24.f_Dep.f_To])), (90, .ptr (.agg [.int .i64 e24.f_Dep.f_From, .int .i64 e24.f_Dep.f_To])), (91, .ptr (.int .i64 e24.f_Dep.f_From)), (92, .int .i64 e24.f_Dep.f_From), (93, .ptr (.int .i64 a1.f_J)), (94, .int .i64 a1.f_J), (95, .int .i64 (iOr .i64 e24.f_Dep.f_From a1.f_J)), (96, l58 none a4), (97, .ptr (.int .i64 a1.f_I)), (98, .int .i64 a1.f_I), (99, .ptr (.agg [.int .i64 e25.f_Rule, .int .i64 e25.f_I, .int .i64 e25.f_J, .int .i64 e25.f_Dep.f_From, .int .i64 e25.f_Dep.f_To]))]) (by kernel_rfl) ?_
        refine WO.fin [8] [] [] [] (e2 := [(8, .bool ((a1.f_Dep.f_From == (iOr .i64 e24.f_Dep.f_From a1.f_J)) && ((a1.f_Dep.f_To == (iOr .i64 e25.f_Dep.f_To a1.f_J)) && true)))]) (by kernel_rfl) (fun _ h => h) ?_
        exact hK21 ((a1.f_Dep.f_From == (iOr .i64 e24.f_Dep.f_From a1.f_J)) && ((a1.f_Dep.f_To == (iOr .i64 e25.f_Dep.f_To a1.f_J)) && true)) h
      replace h := cond_f hb h
      refine WO.fin [8] [] [] [] (e2 := [(8, .bool false)]) (by kernel_rfl) (fun _ h => h) ?_
      exact hK21 false h
    replace h := cond_f hb h
    refine WO.fin [8] [] [] [] (e2 := [(8, .bool false)]) (by kernel_rfl) (fun _ h => h) ?_
    exact hK21 false h
  replace h := cond_f hb h
  refine W.seq ?_
  refine W.regT [4, 7, 9, 109] [] [] [] (e2 := [(4, .ptr (.agg [.int .i64 a1.f_Rule, .int .i64 a1.f_I, .int .i64 a1.f_J, .int .i64 a1.f_Dep.f_From, .int .i64 a1.f_Dep.f_To])), (7, .ptr (l58 none a4)), (9, .clo 79 [.ptr (l58 none a4)]), (109, .bool (a1.f_Rule == 3))]) (by kernel_rfl) (by kernel_rfl) (fun _ h => h) ?_
  refine W.condB (a1.f_Rule == 3) (by kernel_rfl) (fun hb => ?_) (fun hb => ?_)
  · replace h := cond_t hb h
    refine W.seq ?_
    refine W.join (σ := (Bool)) (fun s => [(8, .bool s)]) (fun s => (dp_Step_right_j28) s = some r) (fun s h => ?_) (fun hK28 => ?_)
    · obtain ⟨v35, rfl⟩ : ∃ x, x = s := ⟨s, rfl⟩
      have h : (dp_Step_right_j28) v35 = some r := h
      unfold dp_Step_right_j28 at h
      refine W.weak [8] [] [] [] (env' := [(8, .bool v35)]) (by kernel_rfl) ?_
      have hr : aresults Try.prog Try.f63 [(8, .bool v35)] = some (.bool v35) := by kernel_rfl
      cases h
      exact W.ret hr
    refine W.region (by kernel_rfl) ?_
    obtain ⟨w29, hw29, h⟩ := bind_some h
    refine WO.callK 3 (F := 79) (l := [.int .i64 a1.f_I]) (C := [.ptr (l58 none a4)]) (r := .bool w29) (by kernel_rfl) (by kernel_rfl) (run_dp_Step_right_1 a1.f_I a4 w29 hw29) (e1 := [(4, .ptr (.agg [.int .i64 a1.f_Rule, .int .i64 a1.f_I, .int .i64 a1.f_J, .int .i64 a1.f_Dep.f_From, .int .i64 a1.f_Dep.f_To])), (7, .ptr (l58 none a4)), (9, .clo 79 [.ptr (l58 none a4)]), (109, .bool (a1.f_Rule == 3)), (111, .clo 79 [.ptr (l58 none a4)]), (112, .ptr (.int .i64 a1.f_I)), (113, .int .i64 a1.f_I), (114, .bool w29)]) (by kernel_rfl) ?_
    refine WO.boolK 1 (fun b => [(4, .ptr (.agg [.int .i64 a1.f_Rule, .int .i64 a1.f_I, .int .i64 a1.f_J, .int .i64 a1.f_Dep.f_From, .int .i64 a1.f_Dep.f_To])), (7, .ptr (l58 none a4)), (9, .clo 79 [.ptr (l58 none a4)]), (109, .bool (a1.f_Rule == 3)), (111, .clo 79 [.ptr (l58 none a4)]), (112, .ptr (.int .i64 a1.f_I)), (113, .int .i64 a1.f_I), (114, .bool b), (115, .bool b)]) w29 (by kernel_rfl) (fun hb => ?_) (fun hb => ?_)
    · replace h := cond_t hb h
      obtain ⟨w30, hw30, h⟩ := bind_some h
      refine WO.callK 3 (F := 79) (l := [.int .i64 a1.f_J]) (C := [.ptr (l58 none a4)]) (r := .bool w30) (by kernel_rfl) (by kernel_rfl) (run_dp_Step_right_1 a1.f_J a4 w30 hw30) (e1 := [(4, .ptr (.agg [.int .i64 a1.f_Rule, .int .i64 a1.f_I, .int .i64 a1.f_J, .int .i64 a1.f_Dep.f_From, .int .i64 a1.f_Dep.f_To])), (7, .ptr (l58 none a4)), (9, .clo 79 [.ptr (l58 none a4)]), (109, .bool (a1.f_Rule == 3)), (111, .clo 79 [.ptr (l58 none a4)]), (112, .ptr (.int .i64 a1.f_I)), (113, .int .i64 a1.f_I), (114, .bool true), (115, .bool true), (116, .clo 79 [.ptr (l58 none a4)]), (117, .ptr (.int .i64 a1.f_J)), (118, .int .i64 a1.f_J), (119, .bool w30)]) (by kernel_rfl) ?_
      refine WO.boolK 2 (fun b => [(4, .ptr (.agg [.int .i64 a1.f_Rule, .int .i64 a1.f_I, .int .i64 a1.f_J, .int .i64 a1.f_Dep.f_From, .int .i64 a1.f_Dep.f_To])), (7, .ptr (l58 none a4)), (9, .clo 79 [.ptr (l58 none a4)]), (109, .bool (a1.f_Rule == 3)), (111, .clo 79 [.ptr (l58 none a4)]), (112, .ptr (.int .i64 a1.f_I)), (113, .int .i64 a1.f_I), (114, .bool true), (115, .bool true), (116, .clo 79 [.ptr (l58 none a4)]), (117, .ptr (.int .i64 a1.f_J)), (118, .int .i64 a1.f_J), (119, .bool b), (120, .bool b), (121, .bool b)]) w30 (by kernel_rfl) (fun hb => ?_) (fun hb => ?_)
      · replace h := cond_t hb h
        obtain ⟨e31, he31, h⟩ := bind_some h
        refine WO.pureK 3 (if (0 : Int) ≤ a1.f_I then ((List.map e_dpStep a4)[Int.toNat a1.f_I]?).map AV.ptr else none) (v := .ptr (.agg [.int .i64 e31.f_Rule, .int .i64 e31.f_I, .int .i64 e31.f_J, .int .i64 e31.f_Dep.f_From, .int .i64 e31.f_Dep.f_To])) (by kernel_rfl) (idx_av (f := e_dpStep) he31) (e1 := [(4, .ptr (.agg [.int .i64 a1.f_Rule, .int .i64 a1.f_I, .int .i64 a1.f_J, .int .i64 a1.f_Dep.f_From, .int .i64 a1.f_Dep.f_To])), (7, .ptr (l58 none a4)), (9, .clo 79 [.ptr (l58 none a4)]), (109, .bool (a1.f_Rule == 3)), (111, .clo 79 [.ptr (l58 none a4)]), (112, .ptr (.int .i64 a1.f_I)), (113, .int .i64 a1.f_I), (114, .bool true), (115, .bool true), (116, .clo 79 [.ptr (l58 none a4)]), (117, .ptr (.int .i64 a1.f_J)), (118, .int .i64 a1.f_J), (119, .bool true), (120, .bool true), (121, .bool true), (122, l58 none a4), (123, .ptr (.int .i64 a1.f_I)), (124, .int .i64 a1.f_I), (125, .ptr (.agg [.int .i64 e31.f_Rule, .int .i64 e31.f_I, .int .i64 e31.f_J, .int .i64 e31.f_Dep.f_From, .int .i64 e31.f_Dep.f_To]))]) (by kernel_rfl) ?_
        obtain ⟨e32, he32, h⟩ := bind_some h
        refine WO.pureK 6 (if (0 : Int) ≤ a1.f_J then ((List.map e_dpStep a4)[Int.toNat a1.f_J]?).map AV.ptr else none) (v := .ptr (.agg [.int .i64 e32.f_Rule, .int .i64 e32.f_I, .int .i64 e32.f_J, .int .i64 e32.f_Dep.f_From, .int .i64 e32.f_Dep.f_To])) (by kernel_rfl) (idx_av (f := e_dpStep) he32) (e1 := [(4, .ptr (.agg [.int .i64 a1.f_Rule, .int .i64 a1.f_I, .int .i64 a1.f_J, .int .i64 a1.f_Dep.f_From, .int .i64 a1.f_Dep.f_To])), (7, .ptr (l58 none a4)), (9, .clo 79 [.ptr (l58 none a4)]), (109, .bool (a1.f_Rule == 3)), (111, .clo 79 [.ptr (l58 none a4)]), (112, .ptr (.int .i64 a1.f_I)), (113, .int .i64 a1.f_I), (114, .bool true), (115, .bool true), (116, .clo 79 [.ptr (l58 none a4)]), (117, .ptr (.int .i64 a1.f_J)), (118, .int .i64 a1.f_J), (119, .bool true), (120, .bool true), (121, .bool true), (122, l58 none a4), (123, .ptr (.int .i64 a1.f_I)), (124, .int .i64 a1.f_I), (125, .ptr (.agg [.int .i64 e31.f_Rule, .int .i64 e31.f_I, .int .i64 e31.f_J, .int .i64 e31.f_Dep.f_From, .int .i64 e31.f_Dep.f_To])), (126, .ptr (.agg [.int .i64 e31.f_Dep.f_From, .int .i64 e31.f_Dep.f_To])), (127, .ptr (.int .i64 e31.f_Dep.f_To)), (128, .int .i64 e31.f_Dep.f_To), (129, l58 none a4), (130, .ptr (.int .i64 a1.f_J)), (131, .int .i64 a1.f_J), (132, .ptr (.agg [.int .i64 e32.f_Rule, .int .i64 e32.f_I, .int .i64 e32.f_J, .int .i64 e32.f_Dep.f_From, .int .i64 e32.f_Dep.f_To]))]) (by kernel_rfl) ?_
        refine WO.boolK 6 (fun b => [(4, .ptr (.agg [.int .i64 a1.f_Rule, .int .i64 a1.f_I, .int .i64 a1.f_J, .int .i64 a1.f_Dep.f_From, .int .i64 a1.f_Dep.f_To])), (7, .ptr (l58 none a4)), (9, .clo 79 [.ptr (l58 none a4)]), (109, .bool (a1.f_Rule == 3)), (111, .clo 79 [.ptr (l58 none a4)]), (112, .ptr (.int .i64 a1.f_I)), (113, .int .i64 a1.f_I), (114, .bool true), (115, .bool true), (116, .clo 79 [.ptr (l58 none a4)]), (117, .ptr (.int .i64 a1.f_J)), (118, .int .i64 a1.f_J), (119, .bool true), (120, .bool true), (121, .bool true), (122, l58 none a4), (123, .ptr (.int .i64 a1.f_I)), (124, .int .i64 a1.f_I), (125, .ptr (.agg [.int .i64 e31.f_Rule, .int .i64 e31.f_I, .int .i64 e31.f_J, .int .i64 e31.f_Dep.f_From, .int .i64 e31.f_Dep.f_To])), (126, .ptr (.agg [.int .i64 e31.f_Dep.f_From, .int .i64 e31.f_Dep.f_To])), (127, .ptr (.int .i64 e31.f_Dep.f_To)), (128, .int .i64 e31.f_Dep.f_To), (129, l58 none a4), (130, .ptr (.int .i64 a1.f_J)), (131, .int .i64 a1.f_J), (132, .ptr (.agg [.int .i64 e32.f_Rule, .int .i64 e32.f_I, .int .i64 e32.f_J, .int .i64 e32.f_Dep.f_From, .int .i64 e32.f_Dep.f_To])), (133, .ptr (.agg [.int .i64 e32.f_Dep.f_From, .int .i64 e32.f_Dep.f_To])), (134, .ptr (.int .i64 e32.f_Dep.f_From)), (135, .int .i64 e32.f_Dep.f_From), (136, .bool b), (137, .bool b), (138, .bool b)]) (e31.f_Dep.f_To == e32.f_Dep.f_From) (by kernel_rfl) (fun hb => ?_) (fun hb => ?_)
        · replace h := cond_t hb h
          obtain ⟨e33, he33, h⟩ := bind_some h
          refine WO.pureK 5 (if (0 : Int) ≤ a1.f_I then ((List.map e_dpStep a4)[Int.toNat a1.f_I]?).map AV.ptr else none) (v := .ptr (.agg [.int .i64 e33.f_Rule, .int .i64 e33.f_I, .int .i64 e33.f_J, .int .i64 e33.f_Dep.f_From, .int .i64 e33.f_Dep.f_To])) (by kernel_rfl) (idx_av (f := e_dpStep) he33) (e1 := [(4, .ptr (.agg [.int .i64 a1.f_Rule, .int .i64 a1.f_I, .int .i64 a1.f_J, .int .i64 a1.f_Dep.f_From, .int .i64 a1.f_Dep.f_To])), (7, .ptr (l58 none a4)), (9, .clo 79 [.ptr (l58 none a4)]), (109, .bool (a1.f_Rule == 3)), (111, .clo 79 [.ptr (l58 none a4)]), (112, .ptr (.int .i64 a1.f_I)), (113, .int .i64 a1.f_I), (114, .bool true), (115, .bool true), (116, .clo 79 [.ptr (l58 none a4)]), (117, .ptr (.int .i64 a1.f_J)), (118, .int .i64 a1.f_J), (119, .bool true), (120, .bool true), (121, .bool true), (122, l58 none a4), (123, .ptr (.int .i64 a1.f_I)), (124, .int .i64 a1.f_I), (125, .ptr (.agg [.int .i64 e31.f_Rule, .int .i64 e31.f_I, .int .i64 e31.f_J, .int .i64 e31.f_Dep.f_From, .int .i64 e31.f_Dep.f_To])), (126, .ptr (.agg [.int .i64 e31.f_Dep.f_From, .int .i64 e31.f_Dep.f_To])), (127, .ptr (.int .i64 e31.f_Dep.f_To)), (128, .int .i64 e31.f_Dep.f_To), (129, l58 none a4), (130, .ptr (.int .i64 a1.f_J)), (131, .int .i64 a1.f_J), (132, .ptr (.agg [.int .i64 e32.f_Rule, .int .i64 e32.f_I, .int .i64 e32.f_J, .int .i64 e32.f_Dep.f_From, .int .i64 e32.f_Dep.f_To])), (133, .ptr (.agg [.int .i64 e32.f_Dep.f_From, .int .i64 e32.f_Dep.f_To])), (134, .ptr (.int .i64 e32.f_Dep.f_From)), (135, .int .i64 e32.f_Dep.f_From), (136, .bool true), (137, .bool true), (138, .bool true), (139, .ptr (.agg [.int .i64 a1.f_Dep.f_From, .int .i64 a1.f_Dep.f_To])), (140, .agg [.int .i64 a1.f_Dep.f_From, .int .i64 a1.f_Dep.f_To]), (141, l58 none a4), (142, .ptr (.int .i64 a1.f_I)), (143, .int .i64 a1.f_I), (144, .ptr (.agg [.int .i64 e33.f_Rule, .int .i64 e33.f_I, .int .i64 e33.f_J, .int .i64 e33.f_Dep.f_From, .int .i64 e33.f_Dep.f_To]))]) (by kernel_rfl) ?_
          obtain ⟨e34, he34, h⟩ := bind_some h
          refine WO.pureK 6 (if (0 : Int) ≤ a1.f_J then ((List.map e_dpStep a4)[Int.toNat a1.f_J]?).map AV.ptr else none) (v := .ptr (.agg [.int .i64 e34.f_Rule, .int .i64 e34.f_I, .int .i64 e34.f_J, .int .i64 e34.f_Dep.f_From, .int .i64 e34.f_Dep.f_To])) (by kernel_rfl) (idx_av (f := e_dpStep) he34) (e1 := [(4, .ptr (.agg [.int .i64 a1.f_Rule, .int .i64 a1.f_I, .int .i64 a1.f_J, .int .i64 a1.f_Dep.f_From, .int .i64 a1.f_Dep.f_To])), (7, .ptr (l58 none a4)), (9, .clo 79 [.ptr (l58 none a4)]), (109, .bool (a1.f_Rule == 3)), (111, .clo 79 [.ptr (l58 none a4)]), (112, .ptr (.int .i64 a1.f_I)), (113, .int .i64 a1.f_I), (114, .bool true), (115, .bool true), (116, .clo 79 [.ptr (l58 none a4)]), (117, .ptr (.int .i64 a1.f_J)), (118, .int .i64 a1.f_J), (119, .bool true), (120, .bool true), (121, .bool true), (122, l58 none a4), (123, .ptr (.int .i64 a1.f_I)), (124, .int .i64 a1.f_I), (125, .ptr (.agg [.int .i64 e31.f_Rule, .int .i64 e31.f_I, .int .i64 e31.f_J, .int .i64 e31.f_Dep.f_From, .int .i64 e31.f_Dep.f_To])), (126, .ptr (.agg [.int .i64 e31.f_Dep.f_From, .int .i64 e31.f_Dep.f_To])), (127, .ptr (.int .i64 e31.f_Dep.f_To)), (128, .int .i64 e31.f_Dep.f_To), (129, l58 none a4), (130, .ptr (.int .i64 a1.f_J)), (131, .int .i64 a1.f_J), (132, .ptr (.agg [.int .i64 e32.f_Rule, .int .i64 e32.f_I, .int .i64 e32.f_J, .int .i64 e32.f_Dep.f_From, .int .i64 e32.f_Dep.f_To])), (133, .ptr (.agg [.int .i64 e32.f_Dep.f_From, .int .i64 e32.f_Dep.f_To])), (134, .ptr (.int .i64 e32.f_Dep.f_From)), (135, .int .i64 e32.f_Dep.f_From), (136, .bool true), (137, .bool true), (138, .bool true), (139, .ptr (.agg [.int .i64 a1.f_Dep.f_From, .int .i64 a1.f_Dep.f_To])), (140, .agg [.int .i64 a1.f_Dep.f_From, .int .i64 a1.f_Dep.f_To]), (141, l58 none a4), (142, .ptr (.int .i64 a1.f_I)), (143, .int .i64 a1.f_I), (144, .ptr (.agg [.int .i64 e33.f_Rule, .int .i64 e33.f_I, .int .i64 e33.f_J, .int .i64 e33.f_Dep.f_From, .int .i64 e33.f_Dep.f_To])), (145, .ptr (.agg [.int .i64 e33.f_Dep.f_From, .int .i64 e33.f_Dep.f_To])), (146, .ptr (.int .i64 e33.f_Dep.f_From)), (147, .int .i64 e33.f_Dep.f_From), (148, l58 none a4), (149, .ptr (.int .i64 a1.f_J)), (150, .int .i64 a1.f_J), (151, .ptr (.agg [.int .i64 e34.f_Rule, .int .i64 e34.f_I, .int .i64 e34.f_J, .int .i64 e34.f_Dep.f_From, .int .i64 e34.f_Dep.f_To]))]) (by kernel_rfl) ?_
          refine WO.fin [8] [] [] [] (e2 := [(8, .bool ((a1.f_Dep.f_From == e33.f_Dep.f_From) && ((a1.f_Dep.f_To == e34.f_Dep.f_To) && true)))]) (by kernel_rfl) (fun _ h => h) ?_
          exact hK28 ((a1.f_Dep.f_From == e33.f_Dep.f_From) && ((a1.f_Dep.f_To == e34.f_Dep.f_To) && true)) h
        replace h := cond_f hb h
        refine WO.fin [8] [] [] [] (e2 := [(8, .bool false)]) (by kernel_rfl) (fun _ h => h) ?_
        exact hK28 false h
      replace h := cond_f hb h
      refine WO.fin [8] [] [] [] (e2 := [(8, .bool false)]) (by kernel_rfl) (fun _ h => h) ?_
      exact hK28 false h
    replace h := cond_f hb h
    refine WO.fin [8] [] [] [] (e2 := [(8, .bool false)]) (by kernel_rfl) (fun _ h => h) ?_
    exact hK28 false h
  replace h := cond_f hb h
  refine W.skip ?_
  refine W.weak [] [] [] [] (env' := []) (by kernel_rfl) ?_
  refine W.seq ?_
  refine W.regT [8] [] [] [] (e2 := [(8, .bool false)]) (by kernel_rfl) (by kernel_rfl) (fun _ h => h) ?_
  refine W.weak [8] [] [] [] (env' := [(8, .bool false)]) (by kernel_rfl) ?_
  have hr : aresults Try.prog Try.f63 [(8, .bool false)] = some (.bool false) := by kernel_rfl
  cases h
  exact W.ret hr

end Go.AM
