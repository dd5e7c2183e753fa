/- PRINTED by gen.py: pure functions and the proofs that the code computes them. No statement of the seat is proved here. -/
import Derived.Test.YtombfedoinhafaaK168
set_option maxRecDepth 100000
set_option linter.unusedVariables false
set_option linter.unusedSimpArgs false
namespace Go.AM
open Go.Proofs
def rf1_Closure_j4 (v15 : Int) : Option Int :=
  (some v15)
def rf1_Closure_j7 (N1 : (Int → Option Int)) (v14 : Int) : Option Int :=
  (N1 v14)
def rf1_Closure_j10 (N2 : (Int → Option Int)) (v13 : Int) : Option Int :=
  (N2 v13)
def rf1_Closure_l2 (K7 : (Int → Option Int)) : List rf1Dep → Nat → Int → Option Int
  | [], k2, v9 => (K7 v9)
  | x2 :: r2, k2, v9 => (bif ((iAndNot .i64 x2.f_From v9) == 0) then ((rf1_Closure_j10 (rf1_Closure_l2 K7 r2 (k2 + 1))) (iOr .i64 v9 x2.f_To)) else ((rf1_Closure_j10 (rf1_Closure_l2 K7 r2 (k2 + 1))) v9))
def rf1_Closure_l1 (a1 : (List rf1Dep)) (K4 : (Int → Option Int)) : List rf1Dep → Nat → Int → Option Int
  | [], k1, v6 => (K4 v6)
  | x1 :: r1, k1, v6 => (chk (lenOk a1) (rf1_Closure_l2 (rf1_Closure_j7 (rf1_Closure_l1 a1 K4 r1 (k1 + 1))) a1 0 v6))
def rf1_Closure (a1 : (List rf1Dep)) (a2 : Int) : Option Int :=
  (chk (lenOk a1) (rf1_Closure_l1 a1 (rf1_Closure_j4) a1 0 a2))
theorem run_rf1_Closure (a1 : (List rf1Dep)) (a2 : Int) (r : Int) (h : rf1_Closure a1 a2 = some r) : Run Try.prog (.call 38 [l40 none a1, I6 a2] (I6 r)) := by
  refine call_of_W Try.func38 rfl (by kernel_rfl) (env0 := [(0, l40 none a1), (1, I6 a2)]) (by kernel_rfl) ?_
  unfold rf1_Closure at h
  refine W.seq ?_
  refine W.regT [0, 1] [] [] [] (e2 := [(0, l40 none a1), (1, I6 a2)]) (by kernel_rfl) (by kernel_rfl) (fun _ h => h) ?_
  refine W.seq ?_
  refine W.join (σ := (Int)) (fun s => [(1, I6 s)]) (fun s => (rf1_Closure_j4) s = some r) (fun s h => ?_) (fun hK4 => ?_)
  · obtain ⟨v15, rfl⟩ : ∃ x, x = s := ⟨s, rfl⟩
    have h : (rf1_Closure_j4) v15 = some r := h
    unfold rf1_Closure_j4 at h
    refine W.seq ?_
    refine W.regT [4] [] [] [] (e2 := [(4, I6 v15)]) (by kernel_rfl) (by kernel_rfl) (fun _ h => h) ?_
    refine W.weak [4] [] [] [] (env' := [(4, I6 v15)]) (by kernel_rfl) ?_
    have hr : aresults Try.prog Try.f38 [(4, I6 v15)] = some (I6 v15) := by kernel_rfl
    cases h
    exact W.ret hr
  refine W.seq ?_
  refine W.region (by kernel_rfl) ?_
  refine WO.pureK 1 (some (I6 ((List.map e_rf1Dep a1).length : Int))) (v := I6 (a1.length : Int)) (by kernel_rfl) (by rw [List.length_map]) (e1 := [(0, l40 none a1), (1, I6 a2), (7, l40 none a1), (8, I6 (a1.length : Int))]) (by kernel_rfl) ?_
  refine WO.fin [0, 1, 8, 9] [] [] [] (e2 := [(0, l40 none a1), (1, I6 a2), (8, I6 (a1.length : Int)), (9, .int .i64 0)]) (by kernel_rfl) (fun _ h => h) ?_
  refine W.block ?_
  obtain ⟨hl1, h⟩ := chk_some h
  refine W.weak [0, 1, 8, 9] [] [] [] (env' := [(0, l40 none a1), (1, I6 a2), (8, I6 (a1.length : Int)), (9, I6 ((0 : Nat) : Int))]) (by kernel_rfl) ?_
  refine W.range (σ := (Int)) a1 (fun k1 s => [(0, l40 none a1), (1, I6 s), (8, I6 (a1.length : Int)), (9, I6 (k1 : Int))]) (fun r0 k0 s => rf1_Closure_l1 a1 (rf1_Closure_j4) r0 k0 s = some r) (fun s h => ?_) (fun x1 r1 k1 s hx1 hk1 h hN1 => ?_) a2 h
  · obtain ⟨v6, rfl⟩ : ∃ x, x = s := ⟨s, rfl⟩
    have h : rf1_Closure_l1 a1 (rf1_Closure_j4) [] (a1).length v6 = some r := h
    rw [rf1_Closure_l1.eq_1] at h
    refine W.seq ?_
    refine W.region (by kernel_rfl) ?_
    refine WO.pureK 0 (some (.bool (decide (((a1).length : Int) < (a1.length : Int))))) (v := .bool false) (by kernel_rfl) (by rw [lt_false (l := a1)]) (e1 := [(0, l40 none a1), (1, I6 v6), (8, I6 (a1.length : Int)), (9, I6 ((a1).length : Int)), (10, .bool false)]) (by kernel_rfl) ?_
    refine WO.fin ([0, 1, 8, 9, 10]) [] [] [] (e2 := [(0, l40 none a1), (1, I6 v6), (8, I6 (a1.length : Int)), (9, I6 ((a1).length : Int)), (10, .bool false)]) (by kernel_rfl) (fun _ h => h) ?_
    refine W.seq ?_
    refine W.condB false (by kernel_rfl) (fun h => Bool.noConfusion h) (fun _ => ?_)
    refine W.exit ?_
    refine W.weak [1] [] [] [] (env' := [(1, I6 v6)]) (by kernel_rfl) ?_
    exact hK4 v6 h
  · obtain ⟨v6, rfl⟩ : ∃ x, x = s := ⟨s, rfl⟩
    have h : rf1_Closure_l1 a1 (rf1_Closure_j4) (x1 :: r1) k1 v6 = some r := h
    rw [rf1_Closure_l1.eq_2] at h
    refine W.seq ?_
    refine W.region (by kernel_rfl) ?_
    refine WO.pureK 0 (some (.bool (decide ((k1 : Int) < (a1.length : Int))))) (v := .bool true) (by kernel_rfl) (by rw [lt_true hk1]) (e1 := [(0, l40 none a1), (1, I6 v6), (8, I6 (a1.length : Int)), (9, I6 (k1 : Int)), (10, .bool true)]) (by kernel_rfl) ?_
    refine WO.fin ([0, 1, 8, 9, 10]) [] [] [] (e2 := [(0, l40 none a1), (1, I6 v6), (8, I6 (a1.length : Int)), (9, I6 (k1 : Int)), (10, .bool true)]) (by kernel_rfl) (fun _ h => h) ?_
    refine W.seq ?_
    refine W.condB true (by kernel_rfl) (fun _ => ?_) (fun h => Bool.noConfusion h)
    refine W.skip ?_
    refine W.weak [0, 1, 8, 9] [] [] [] (env' := [(0, l40 none a1), (1, I6 v6), (8, I6 (a1.length : Int)), (9, I6 (k1 : Int))]) (by kernel_rfl) ?_
    refine W.seq ?_
    refine W.join (σ := (Int)) (fun s => [(0, l40 none a1), (1, I6 s), (8, I6 (a1.length : Int)), (9, I6 (k1 : Int))]) (fun s => (rf1_Closure_j7 (rf1_Closure_l1 a1 (rf1_Closure_j4) r1 (k1 + 1))) s = some r) (fun s h => ?_) (fun hK7 => ?_)
    · obtain ⟨v14, rfl⟩ : ∃ x, x = s := ⟨s, rfl⟩
      have h : (rf1_Closure_j7 (rf1_Closure_l1 a1 (rf1_Closure_j4) r1 (k1 + 1))) v14 = some r := h
      unfold rf1_Closure_j7 at h
      refine W.region (by kernel_rfl) ?_
      refine WO.pureK 0 (some (I6 (IntKind.wrap .i64 ((k1 : Int) + 1)))) (v := I6 ((k1 + 1 : Nat) : Int)) (by kernel_rfl) (by rw [wrap_succ hl1 hk1]) (e1 := [(0, l40 none a1), (1, I6 v14), (8, I6 (a1.length : Int)), (9, I6 (k1 : Int)), (27, I6 ((k1 + 1 : Nat) : Int))]) (by kernel_rfl) ?_
      refine WO.fin [0, 1, 8, 9] [] [] [] (e2 := [(0, l40 none a1), (1, I6 v14), (8, I6 (a1.length : Int)), (9, I6 ((k1 + 1 : Nat) : Int))]) (by kernel_rfl) (fun _ h => h) ?_
      exact hN1 v14 h
    refine W.block ?_
    refine W.seq ?_
    refine W.region (by kernel_rfl) ?_
    refine WO.pureK 1 (some (I6 ((List.map e_rf1Dep a1).length : Int))) (v := I6 (a1.length : Int)) (by kernel_rfl) (by rw [List.length_map]) (e1 := [(0, l40 none a1), (1, I6 v6), (8, I6 (a1.length : Int)), (9, I6 (k1 : Int)), (11, l40 none a1), (12, I6 (a1.length : Int))]) (by kernel_rfl) ?_
    refine WO.fin [0, 1, 8, 9, 11, 12, 13] [] [] [] (e2 := [(0, l40 none a1), (1, I6 v6), (8, I6 (a1.length : Int)), (9, I6 (k1 : Int)), (11, l40 none a1), (12, I6 (a1.length : Int)), (13, .int .i64 0)]) (by kernel_rfl) (fun _ h => h) ?_
    refine W.block ?_
    obtain ⟨hl2, h⟩ := chk_some h
    refine W.weak [0, 1, 8, 9, 11, 12, 13] [] [] [] (env' := [(0, l40 none a1), (1, I6 v6), (8, I6 (a1.length : Int)), (9, I6 (k1 : Int)), (11, l40 none a1), (12, I6 (a1.length : Int)), (13, I6 ((0 : Nat) : Int))]) (by kernel_rfl) ?_
    refine W.range (σ := (Int)) a1 (fun k2 s => [(0, l40 none a1), (1, I6 s), (8, I6 (a1.length : Int)), (9, I6 (k1 : Int)), (11, l40 none a1), (12, I6 (a1.length : Int)), (13, I6 (k2 : Int))]) (fun r0 k0 s => rf1_Closure_l2 (rf1_Closure_j7 (rf1_Closure_l1 a1 (rf1_Closure_j4) r1 (k1 + 1))) r0 k0 s = some r) (fun s h => ?_) (fun x2 r2 k2 s hx2 hk2 h hN2 => ?_) v6 h
    · obtain ⟨v9, rfl⟩ : ∃ x, x = s := ⟨s, rfl⟩
      have h : rf1_Closure_l2 (rf1_Closure_j7 (rf1_Closure_l1 a1 (rf1_Closure_j4) r1 (k1 + 1))) [] (a1).length v9 = some r := h
      rw [rf1_Closure_l2.eq_1] at h
      refine W.seq ?_
      refine W.region (by kernel_rfl) ?_
      refine WO.pureK 0 (some (.bool (decide (((a1).length : Int) < (a1.length : Int))))) (v := .bool false) (by kernel_rfl) (by rw [lt_false (l := a1)]) (e1 := [(0, l40 none a1), (1, I6 v9), (8, I6 (a1.length : Int)), (9, I6 (k1 : Int)), (11, l40 none a1), (12, I6 (a1.length : Int)), (13, I6 ((a1).length : Int)), (14, .bool false)]) (by kernel_rfl) ?_
      refine WO.fin ([0, 1, 8, 9, 11, 12, 13, 14]) [] [] [] (e2 := [(0, l40 none a1), (1, I6 v9), (8, I6 (a1.length : Int)), (9, I6 (k1 : Int)), (11, l40 none a1), (12, I6 (a1.length : Int)), (13, I6 ((a1).length : Int)), (14, .bool false)]) (by kernel_rfl) (fun _ h => h) ?_
      refine W.seq ?_
      refine W.condB false (by kernel_rfl) (fun h => Bool.noConfusion h) (fun _ => ?_)
      refine W.exit ?_
      refine W.weak [0, 1, 8, 9] [] [] [] (env' := [(0, l40 none a1), (1, I6 v9), (8, I6 (a1.length : Int)), (9, I6 (k1 : Int))]) (by kernel_rfl) ?_
      exact hK7 v9 h
    · obtain ⟨v9, rfl⟩ : ∃ x, x = s := ⟨s, rfl⟩
      have h : rf1_Closure_l2 (rf1_Closure_j7 (rf1_Closure_l1 a1 (rf1_Closure_j4) r1 (k1 + 1))) (x2 :: r2) k2 v9 = some r := h
      rw [rf1_Closure_l2.eq_2] at h
      refine W.seq ?_
      refine W.region (by kernel_rfl) ?_
      refine WO.pureK 0 (some (.bool (decide ((k2 : Int) < (a1.length : Int))))) (v := .bool true) (by kernel_rfl) (by rw [lt_true hk2]) (e1 := [(0, l40 none a1), (1, I6 v9), (8, I6 (a1.length : Int)), (9, I6 (k1 : Int)), (11, l40 none a1), (12, I6 (a1.length : Int)), (13, I6 (k2 : Int)), (14, .bool true)]) (by kernel_rfl) ?_
      refine WO.fin ([0, 1, 8, 9, 11, 12, 13, 14]) [] [] [] (e2 := [(0, l40 none a1), (1, I6 v9), (8, I6 (a1.length : Int)), (9, I6 (k1 : Int)), (11, l40 none a1), (12, I6 (a1.length : Int)), (13, I6 (k2 : Int)), (14, .bool true)]) (by kernel_rfl) (fun _ h => h) ?_
      refine W.seq ?_
      refine W.condB true (by kernel_rfl) (fun _ => ?_) (fun h => Bool.noConfusion h)
      refine W.skip ?_
      refine W.weak [0, 1, 8, 9, 11, 12, 13] [] [] [] (env' := [(0, l40 none a1), (1, I6 v9), (8, I6 (a1.length : Int)), (9, I6 (k1 : Int)), (11, l40 none a1), (12, I6 (a1.length : Int)), (13, I6 (k2 : Int))]) (by kernel_rfl) ?_
      refine W.seq ?_
      refine W.join (σ := (Int)) (fun s => [(0, l40 none a1), (1, I6 s), (8, I6 (a1.length : Int)), (9, I6 (k1 : Int)), (11, l40 none a1), (12, I6 (a1.length : Int)), (13, I6 (k2 : Int))]) (fun s => (rf1_Closure_j10 (rf1_Closure_l2 (rf1_Closure_j7 (rf1_Closure_l1 a1 (rf1_Closure_j4) r1 (k1 + 1))) r2 (k2 + 1))) s = some r) (fun s h => ?_) (fun hK10 => ?_)
      · obtain ⟨v13, rfl⟩ : ∃ x, x = s := ⟨s, rfl⟩
        have h : (rf1_Closure_j10 (rf1_Closure_l2 (rf1_Closure_j7 (rf1_Closure_l1 a1 (rf1_Closure_j4) r1 (k1 + 1))) r2 (k2 + 1))) v13 = some r := h
        unfold rf1_Closure_j10 at h
        refine W.region (by kernel_rfl) ?_
        refine WO.pureK 0 (some (I6 (IntKind.wrap .i64 ((k2 : Int) + 1)))) (v := I6 ((k2 + 1 : Nat) : Int)) (by kernel_rfl) (by rw [wrap_succ hl2 hk2]) (e1 := [(0, l40 none a1), (1, I6 v13), (8, I6 (a1.length : Int)), (9, I6 (k1 : Int)), (11, l40 none a1), (12, I6 (a1.length : Int)), (13, I6 (k2 : Int)), (26, I6 ((k2 + 1 : Nat) : Int))]) (by kernel_rfl) ?_
        refine WO.fin [0, 1, 8, 9, 11, 12, 13] [] [] [] (e2 := [(0, l40 none a1), (1, I6 v13), (8, I6 (a1.length : Int)), (9, I6 (k1 : Int)), (11, l40 none a1), (12, I6 (a1.length : Int)), (13, I6 ((k2 + 1 : Nat) : Int))]) (by kernel_rfl) (fun _ h => h) ?_
        exact hN2 v13 h
      refine W.block ?_
      refine W.seq ?_
      refine W.region (by kernel_rfl) ?_
      refine WO.pureK 0 (if (0 : Int) ≤ (k2 : Int) then ((List.map e_rf1Dep a1)[Int.toNat (k2 : Int)]?).map AV.ptr else none) (v := .ptr (.agg [I6 x2.f_From, I6 x2.f_To])) (by kernel_rfl) (idx_nat (f := e_rf1Dep) hx2) (e1 := [(0, l40 none a1), (1, I6 v9), (8, I6 (a1.length : Int)), (9, I6 (k1 : Int)), (11, l40 none a1), (12, I6 (a1.length : Int)), (13, I6 (k2 : Int)), (15, .ptr (.agg [I6 x2.f_From, I6 x2.f_To]))]) (by kernel_rfl) ?_
      refine WO.fin [0, 1, 6, 8, 9, 11, 12, 13] [6] [] [] (e2 := [(0, l40 none a1), (1, I6 v9), (6, .ptr (.agg [I6 x2.f_From, I6 x2.f_To])), (8, I6 (a1.length : Int)), (9, I6 (k1 : Int)), (11, l40 none a1), (12, I6 (a1.length : Int)), (13, I6 (k2 : Int))]) (by kernel_rfl) (fun _ h => h) ?_
      refine W.seq ?_
      refine W.regT [0, 1, 6, 8, 9, 11, 12, 13, 21] [] [] [] (e2 := [(0, l40 none a1), (1, I6 v9), (6, .ptr (.agg [I6 x2.f_From, I6 x2.f_To])), (8, I6 (a1.length : Int)), (9, I6 (k1 : Int)), (11, l40 none a1), (12, I6 (a1.length : Int)), (13, I6 (k2 : Int)), (21, .bool ((iAndNot .i64 x2.f_From v9) == 0))]) (by kernel_rfl) (by kernel_rfl) (fun _ h => h) ?_
      refine W.condB ((iAndNot .i64 x2.f_From v9) == 0) (by kernel_rfl) (fun hb => ?_) (fun hb => ?_)
      · replace h := cond_t hb h
        refine W.regT [0, 1, 8, 9, 11, 12, 13] [] [] [] (e2 := [(0, l40 none a1), (1, I6 (iOr .i64 v9 x2.f_To)), (8, I6 (a1.length : Int)), (9, I6 (k1 : Int)), (11, l40 none a1), (12, I6 (a1.length : Int)), (13, I6 (k2 : Int))]) (by kernel_rfl) (by kernel_rfl) (fun _ h => h) ?_
        exact hK10 (iOr .i64 v9 x2.f_To) h
      replace h := cond_f hb h
      refine W.skip ?_
      refine W.weak [0, 1, 8, 9, 11, 12, 13] [] [] [] (env' := [(0, l40 none a1), (1, I6 v9), (8, I6 (a1.length : Int)), (9, I6 (k1 : Int)), (11, l40 none a1), (12, I6 (a1.length : Int)), (13, I6 (k2 : Int))]) (by kernel_rfl) ?_
      exact hK10 v9 h
def rf1_Keys_j5 (v30 : (List Int)) : Option (List Int) :=
  (some v30)
def rf1_Keys_j14 (k1 : Nat) (v8 : (List Int)) (K9 : ((List Int) → Option (List Int))) (v26 : Bool) : Option (List Int) :=
  (bif v26 then (chk (capOk 8 ((v8 ++ [(k1 : Int)])).length) (K9 (v8 ++ [(k1 : Int)]))) else (K9 v8))
def rf1_Keys_j9 (N1 : ((List Int) → Option (List Int))) (v29 : (List Int)) : Option (List Int) :=
  (N1 v29)
def rf1_Keys_j17 (N2 : (Bool → Option (List Int))) (v25 : Bool) : Option (List Int) :=
  (N2 v25)
def rf1_Keys_j19 (v16 : Bool) (K17 : (Bool → Option (List Int))) (v24 : Bool) : Option (List Int) :=
  (bif v24 then (K17 false) else (K17 v16))
def rf1_Keys_l2 (a1 : Int) (k1 : Nat) (a2 : (List rf1Dep)) (K14 : (Bool → Option (List Int))) : List Nat → Nat → Bool → Option (List Int)
  | [], k2, v16 => (K14 v16)
  | x2 :: r2, k2, v16 => (chk (decide (0 ≤ (k2 : Int))) (bif ((iAnd .i64 (iShr .i64 (k1 : Int) (k2 : Int)) 1) == 1) then (chk (decide (0 ≤ (k2 : Int))) ((rf1_Closure a2 (iAndNot .i64 (k1 : Int) (iShl .i64 1 (k2 : Int)))).bind fun w22 => (chk (decide (0 ≤ a1)) ((rf1_Keys_j19 v16 (rf1_Keys_j17 (rf1_Keys_l2 a1 k1 a2 K14 r2 (k2 + 1)))) (w22 == (IntKind.wrap .i64 ((iShl .i64 1 a1) - 1))))))) else ((rf1_Keys_j19 v16 (rf1_Keys_j17 (rf1_Keys_l2 a1 k1 a2 K14 r2 (k2 + 1)))) false)))
def rf1_Keys_l1 (a1 : Int) (a2 : (List rf1Dep)) (K5 : ((List Int) → Option (List Int))) : List Nat → Nat → (List Int) → Option (List Int)
  | [], k1, v8 => (K5 v8)
  | x1 :: r1, k1, v8 => ((rf1_Closure a2 (k1 : Int)).bind fun w12 => (chk (decide (0 ≤ a1)) (chk (lenOk (List.range (Int.toNat a1))) (rf1_Keys_l2 a1 k1 a2 (rf1_Keys_j14 k1 v8 (rf1_Keys_j9 (rf1_Keys_l1 a1 a2 K5 r1 (k1 + 1)))) (List.range (Int.toNat a1)) 0 (w12 == (IntKind.wrap .i64 ((iShl .i64 1 a1) - 1)))))))
def rf1_Keys (a1 : Int) (a2 : (List rf1Dep)) : Option (List Int) :=
  (chk (decide (0 ≤ a1)) (chk (lenOk (List.range (Int.toNat (iShl .i64 1 a1)))) (rf1_Keys_l1 a1 a2 (rf1_Keys_j5) (List.range (Int.toNat (iShl .i64 1 a1))) 0 ([] : (List Int)))))
theorem run_rf1_Keys (a1 : Int) (a2 : (List rf1Dep)) (r : (List Int)) (h : rf1_Keys a1 a2 = some r) : Run Try.prog (.call 50 [I6 a1, l40 none a2] (l3 (some 1) r)) := by
  refine call_of_W Try.func50 rfl (by kernel_rfl) (env0 := [(0, I6 a1), (1, l40 none a2)]) (by kernel_rfl) ?_
  unfold rf1_Keys at h
  refine W.seq ?_
  refine W.regT [0, 1] [] [] [] (e2 := [(0, I6 a1), (1, l40 none a2)]) (by kernel_rfl) (by kernel_rfl) (fun _ h => h) ?_
  refine W.seq ?_
  refine W.regT [0, 1, 5] [] [] [] (e2 := [(0, I6 a1), (1, l40 none a2), (5, .nils)]) (by kernel_rfl) (by kernel_rfl) (fun _ h => h) ?_
  refine W.seq ?_
  refine W.join (σ := ((List Int))) (fun s => [(5, l3 (some 10500) s)]) (fun s => (rf1_Keys_j5) s = some r) (fun s h => ?_) (fun hK5 => ?_)
  · obtain ⟨v30, rfl⟩ : ∃ x, x = s := ⟨s, rfl⟩
    have h : (rf1_Keys_j5) v30 = some r := h
    unfold rf1_Keys_j5 at h
    refine W.seq ?_
    refine W.regT [4] [] [] [] (e2 := [(4, l3 (some 10500) v30)]) (by kernel_rfl) (by kernel_rfl) (fun _ h => h) ?_
    refine W.weak [4] [] [] [(10500, some 1)] (env' := [(4, l3 (some 1) v30)]) (by kernel_rfl) ?_
    have hr : aresults Try.prog Try.f50 [(4, l3 (some 1) v30)] = some (l3 (some 1) v30) := by kernel_rfl
    cases h
    exact W.ret hr
  refine W.seq ?_
  refine W.region (by kernel_rfl) ?_
  obtain ⟨hc7, h⟩ := chk_some h
  refine WO.pureK 1 (if a1 < 0 then none else some (I6 (iShl .i64 1 a1))) (v := I6 (iShl .i64 1 a1)) (by kernel_rfl) (if_neg (not_lt_of_chk hc7)) (e1 := [(0, I6 a1), (1, l40 none a2), (5, .nils), (9, I6 a1), (10, I6 (iShl .i64 1 a1))]) (by kernel_rfl) ?_
  refine WO.fin [0, 1, 5, 10, 11] [] [] [] (e2 := [(0, I6 a1), (1, l40 none a2), (5, .nils), (10, I6 (iShl .i64 1 a1)), (11, .int .i64 0)]) (by kernel_rfl) (fun _ h => h) ?_
  refine W.block ?_
  obtain ⟨hl1, h⟩ := chk_some h
  refine W.weak [0, 1, 5, 10, 11] [] [(5, 0, 3, 1, 10500)] [] (env' := [(0, I6 a1), (1, l40 none a2), (5, l3 (some 10500) ([] : (List Int))), (10, I6 (iShl .i64 1 a1)), (11, I6 ((0 : Nat) : Int))]) (by kernel_rfl) ?_
  refine W.range (σ := ((List Int))) (List.range (Int.toNat (iShl .i64 1 a1))) (fun k1 s => [(0, I6 a1), (1, l40 none a2), (5, l3 (some 10500) s), (10, I6 (iShl .i64 1 a1)), (11, I6 (k1 : Int))]) (fun r0 k0 s => rf1_Keys_l1 a1 a2 (rf1_Keys_j5) r0 k0 s = some r) (fun s h => ?_) (fun x1 r1 k1 s hx1 hk1 h hN1 => ?_) ([] : (List Int)) h
  · obtain ⟨v8, rfl⟩ : ∃ x, x = s := ⟨s, rfl⟩
    have h : rf1_Keys_l1 a1 a2 (rf1_Keys_j5) [] ((List.range (Int.toNat (iShl .i64 1 a1)))).length v8 = some r := h
    rw [rf1_Keys_l1.eq_1] at h
    refine W.seq ?_
    refine W.region (by kernel_rfl) ?_
    refine WO.pureK 0 (some (.bool (decide ((((List.range (Int.toNat (iShl .i64 1 a1)))).length : Int) < (iShl .i64 1 a1))))) (v := .bool false) (by kernel_rfl) (by rw [ltr_false (n := (iShl .i64 1 a1))]) (e1 := [(0, I6 a1), (1, l40 none a2), (5, l3 (some 10500) v8), (10, I6 (iShl .i64 1 a1)), (11, I6 (((List.range (Int.toNat (iShl .i64 1 a1)))).length : Int)), (12, .bool false)]) (by kernel_rfl) ?_
    refine WO.fin ([0, 1, 5, 10, 11, 12]) [] [] [] (e2 := [(0, I6 a1), (1, l40 none a2), (5, l3 (some 10500) v8), (10, I6 (iShl .i64 1 a1)), (11, I6 (((List.range (Int.toNat (iShl .i64 1 a1)))).length : Int)), (12, .bool false)]) (by kernel_rfl) (fun _ h => h) ?_
    refine W.seq ?_
    refine W.condB false (by kernel_rfl) (fun h => Bool.noConfusion h) (fun _ => ?_)
    refine W.exit ?_
    refine W.weak [5] [] [] [] (env' := [(5, l3 (some 10500) v8)]) (by kernel_rfl) ?_
    exact hK5 v8 h
  · obtain ⟨v8, rfl⟩ : ∃ x, x = s := ⟨s, rfl⟩
    have h : rf1_Keys_l1 a1 a2 (rf1_Keys_j5) (x1 :: r1) k1 v8 = some r := h
    rw [rf1_Keys_l1.eq_2] at h
    refine W.seq ?_
    refine W.region (by kernel_rfl) ?_
    refine WO.pureK 0 (some (.bool (decide ((k1 : Int) < (iShl .i64 1 a1))))) (v := .bool true) (by kernel_rfl) (by rw [ltr_true hk1]) (e1 := [(0, I6 a1), (1, l40 none a2), (5, l3 (some 10500) v8), (10, I6 (iShl .i64 1 a1)), (11, I6 (k1 : Int)), (12, .bool true)]) (by kernel_rfl) ?_
    refine WO.fin ([0, 1, 5, 10, 11, 12]) [] [] [] (e2 := [(0, I6 a1), (1, l40 none a2), (5, l3 (some 10500) v8), (10, I6 (iShl .i64 1 a1)), (11, I6 (k1 : Int)), (12, .bool true)]) (by kernel_rfl) (fun _ h => h) ?_
    refine W.seq ?_
    refine W.condB true (by kernel_rfl) (fun _ => ?_) (fun h => Bool.noConfusion h)
    refine W.skip ?_
    refine W.weak [0, 1, 5, 10, 11] [] [] [] (env' := [(0, I6 a1), (1, l40 none a2), (5, l3 (some 10500) v8), (10, I6 (iShl .i64 1 a1)), (11, I6 (k1 : Int))]) (by kernel_rfl) ?_
    refine W.seq ?_
    refine W.join (σ := ((List Int))) (fun s => [(0, I6 a1), (1, l40 none a2), (5, l3 (some 10500) s), (10, I6 (iShl .i64 1 a1)), (11, I6 (k1 : Int))]) (fun s => (rf1_Keys_j9 (rf1_Keys_l1 a1 a2 (rf1_Keys_j5) r1 (k1 + 1))) s = some r) (fun s h => ?_) (fun hK9 => ?_)
    · obtain ⟨v29, rfl⟩ : ∃ x, x = s := ⟨s, rfl⟩
      have h : (rf1_Keys_j9 (rf1_Keys_l1 a1 a2 (rf1_Keys_j5) r1 (k1 + 1))) v29 = some r := h
      unfold rf1_Keys_j9 at h
      refine W.region (by kernel_rfl) ?_
      refine WO.pureK 0 (some (I6 (IntKind.wrap .i64 ((k1 : Int) + 1)))) (v := I6 ((k1 + 1 : Nat) : Int)) (by kernel_rfl) (by rw [wrap_succ hl1 hk1]) (e1 := [(0, I6 a1), (1, l40 none a2), (5, l3 (some 10500) v29), (10, I6 (iShl .i64 1 a1)), (11, I6 (k1 : Int)), (48, I6 ((k1 + 1 : Nat) : Int))]) (by kernel_rfl) ?_
      refine WO.fin [0, 1, 5, 10, 11] [] [] [] (e2 := [(0, I6 a1), (1, l40 none a2), (5, l3 (some 10500) v29), (10, I6 (iShl .i64 1 a1)), (11, I6 ((k1 + 1 : Nat) : Int))]) (by kernel_rfl) (fun _ h => h) ?_
      exact hN1 v29 h
    refine W.block ?_
    refine W.seq ?_
    refine W.regT [0, 1, 5, 6, 10, 11] [] [] [] (e2 := [(0, I6 a1), (1, l40 none a2), (5, l3 (some 10500) v8), (6, I6 (k1 : Int)), (10, I6 (iShl .i64 1 a1)), (11, I6 (k1 : Int))]) (by kernel_rfl) (by kernel_rfl) (fun _ h => h) ?_
    refine W.seq ?_
    refine W.region (by kernel_rfl) ?_
    obtain ⟨w12, hw12, h⟩ := bind_some h
    refine WO.callK 2 (F := 38) (l := [l40 none a2, I6 (k1 : Int)]) (C := []) (r := I6 w12) (by kernel_rfl) (by kernel_rfl) (run_rf1_Closure a2 (k1 : Int) w12 hw12) (e1 := [(0, I6 a1), (1, l40 none a2), (5, l3 (some 10500) v8), (6, I6 (k1 : Int)), (10, I6 (iShl .i64 1 a1)), (11, I6 (k1 : Int)), (14, l40 none a2), (15, I6 (k1 : Int)), (16, I6 w12)]) (by kernel_rfl) ?_
    obtain ⟨hc13, h⟩ := chk_some h
    refine WO.pureK 1 (if a1 < 0 then none else some (I6 (iShl .i64 1 a1))) (v := I6 (iShl .i64 1 a1)) (by kernel_rfl) (if_neg (not_lt_of_chk hc13)) (e1 := [(0, I6 a1), (1, l40 none a2), (5, l3 (some 10500) v8), (6, I6 (k1 : Int)), (10, I6 (iShl .i64 1 a1)), (11, I6 (k1 : Int)), (14, l40 none a2), (15, I6 (k1 : Int)), (16, I6 w12), (17, I6 a1), (18, I6 (iShl .i64 1 a1))]) (by kernel_rfl) ?_
    refine WO.fin [0, 1, 5, 6, 7, 10, 11] [] [] [] (e2 := [(0, I6 a1), (1, l40 none a2), (5, l3 (some 10500) v8), (6, I6 (k1 : Int)), (7, .bool (w12 == (IntKind.wrap .i64 ((iShl .i64 1 a1) - 1)))), (10, I6 (iShl .i64 1 a1)), (11, I6 (k1 : Int))]) (by kernel_rfl) (fun _ h => h) ?_
    refine W.seq ?_
    refine W.join (σ := (Bool)) (fun s => [(0, I6 a1), (1, l40 none a2), (5, l3 (some 10500) v8), (6, I6 (k1 : Int)), (7, .bool s), (10, I6 (iShl .i64 1 a1)), (11, I6 (k1 : Int))]) (fun s => (rf1_Keys_j14 k1 v8 (rf1_Keys_j9 (rf1_Keys_l1 a1 a2 (rf1_Keys_j5) r1 (k1 + 1)))) s = some r) (fun s h => ?_) (fun hK14 => ?_)
    · obtain ⟨v26, rfl⟩ : ∃ x, x = s := ⟨s, rfl⟩
      have h : (rf1_Keys_j14 k1 v8 (rf1_Keys_j9 (rf1_Keys_l1 a1 a2 (rf1_Keys_j5) r1 (k1 + 1)))) v26 = some r := h
      unfold rf1_Keys_j14 at h
      refine W.seq ?_
      refine W.regT [0, 1, 5, 6, 10, 11, 43] [] [] [] (e2 := [(0, I6 a1), (1, l40 none a2), (5, l3 (some 10500) v8), (6, I6 (k1 : Int)), (10, I6 (iShl .i64 1 a1)), (11, I6 (k1 : Int)), (43, .bool v26)]) (by kernel_rfl) (by kernel_rfl) (fun _ h => h) ?_
      refine W.condB v26 (by kernel_rfl) (fun hb => ?_) (fun hb => ?_)
      · replace h := cond_t hb h
        refine W.region (by kernel_rfl) ?_
        obtain ⟨hc28, h⟩ := chk_some h
        refine WO.appendK 3 (d := 47) (e := 3) (s := 1) (bytes := 8) (xs := (List.map (AV.int .i64) v8)) (ys := (List.map (AV.int .i64) [(k1 : Int)])) (zs := (List.map (AV.int .i64) (v8 ++ [(k1 : Int)]))) (env1 := [(0, I6 a1), (1, l40 none a2), (5, l3 none v8), (6, I6 (k1 : Int)), (10, I6 (iShl .i64 1 a1)), (11, I6 (k1 : Int)), (43, .bool v26), (44, l3 none v8), (45, I6 (k1 : Int)), (46, l3 (some 46) [(k1 : Int)])]) (by kernel_rfl) (List.map_append.symm) (by rw [List.length_map]; exact hc28) (e1 := [(0, I6 a1), (1, l40 none a2), (5, l3 none v8), (6, I6 (k1 : Int)), (10, I6 (iShl .i64 1 a1)), (11, I6 (k1 : Int)), (43, .bool v26), (44, l3 none v8), (45, I6 (k1 : Int)), (46, l3 (some 46) [(k1 : Int)]), (47, l3 (some 47) (v8 ++ [(k1 : Int)]))]) (by kernel_rfl) ?_
        refine WO.fin [0, 1, 5, 10, 11] [] [] [(47, some 10500)] (e2 := [(0, I6 a1), (1, l40 none a2), (5, l3 (some 10500) (v8 ++ [(k1 : Int)])), (10, I6 (iShl .i64 1 a1)), (11, I6 (k1 : Int))]) (by kernel_rfl) (fun _ h => h) ?_
        exact hK9 (v8 ++ [(k1 : Int)]) h
      replace h := cond_f hb h
      refine W.skip ?_
      refine W.weak [0, 1, 5, 10, 11] [] [] [] (env' := [(0, I6 a1), (1, l40 none a2), (5, l3 (some 10500) v8), (10, I6 (iShl .i64 1 a1)), (11, I6 (k1 : Int))]) (by kernel_rfl) ?_
      exact hK9 v8 h
    refine W.seq ?_
    refine W.regT [0, 1, 5, 6, 7, 10, 11, 21, 22] [] [] [] (e2 := [(0, I6 a1), (1, l40 none a2), (5, l3 (some 10500) v8), (6, I6 (k1 : Int)), (7, .bool (w12 == (IntKind.wrap .i64 ((iShl .i64 1 a1) - 1)))), (10, I6 (iShl .i64 1 a1)), (11, I6 (k1 : Int)), (21, I6 a1), (22, .int .i64 0)]) (by kernel_rfl) (by kernel_rfl) (fun _ h => h) ?_
    refine W.block ?_
    obtain ⟨hl2, h⟩ := chk_some h
    refine W.weak [0, 1, 5, 6, 7, 10, 11, 21, 22] [] [] [] (env' := [(0, I6 a1), (1, l40 none a2), (5, l3 (some 10500) v8), (6, I6 (k1 : Int)), (7, .bool (w12 == (IntKind.wrap .i64 ((iShl .i64 1 a1) - 1)))), (10, I6 (iShl .i64 1 a1)), (11, I6 (k1 : Int)), (21, I6 a1), (22, I6 ((0 : Nat) : Int))]) (by kernel_rfl) ?_
    refine W.range (σ := (Bool)) (List.range (Int.toNat a1)) (fun k2 s => [(0, I6 a1), (1, l40 none a2), (5, l3 (some 10500) v8), (6, I6 (k1 : Int)), (7, .bool s), (10, I6 (iShl .i64 1 a1)), (11, I6 (k1 : Int)), (21, I6 a1), (22, I6 (k2 : Int))]) (fun r0 k0 s => rf1_Keys_l2 a1 k1 a2 (rf1_Keys_j14 k1 v8 (rf1_Keys_j9 (rf1_Keys_l1 a1 a2 (rf1_Keys_j5) r1 (k1 + 1)))) r0 k0 s = some r) (fun s h => ?_) (fun x2 r2 k2 s hx2 hk2 h hN2 => ?_) (w12 == (IntKind.wrap .i64 ((iShl .i64 1 a1) - 1))) h
    · obtain ⟨v16, rfl⟩ : ∃ x, x = s := ⟨s, rfl⟩
      have h : rf1_Keys_l2 a1 k1 a2 (rf1_Keys_j14 k1 v8 (rf1_Keys_j9 (rf1_Keys_l1 a1 a2 (rf1_Keys_j5) r1 (k1 + 1)))) [] ((List.range (Int.toNat a1))).length v16 = some r := h
      rw [rf1_Keys_l2.eq_1] at h
      refine W.seq ?_
      refine W.region (by kernel_rfl) ?_
      refine WO.pureK 0 (some (.bool (decide ((((List.range (Int.toNat a1))).length : Int) < a1)))) (v := .bool false) (by kernel_rfl) (by rw [ltr_false (n := a1)]) (e1 := [(0, I6 a1), (1, l40 none a2), (5, l3 (some 10500) v8), (6, I6 (k1 : Int)), (7, .bool v16), (10, I6 (iShl .i64 1 a1)), (11, I6 (k1 : Int)), (21, I6 a1), (22, I6 (((List.range (Int.toNat a1))).length : Int)), (23, .bool false)]) (by kernel_rfl) ?_
      refine WO.fin ([0, 1, 5, 6, 7, 10, 11, 21, 22, 23]) [] [] [] (e2 := [(0, I6 a1), (1, l40 none a2), (5, l3 (some 10500) v8), (6, I6 (k1 : Int)), (7, .bool v16), (10, I6 (iShl .i64 1 a1)), (11, I6 (k1 : Int)), (21, I6 a1), (22, I6 (((List.range (Int.toNat a1))).length : Int)), (23, .bool false)]) (by kernel_rfl) (fun _ h => h) ?_
      refine W.seq ?_
      refine W.condB false (by kernel_rfl) (fun h => Bool.noConfusion h) (fun _ => ?_)
      refine W.exit ?_
      refine W.weak [0, 1, 5, 6, 7, 10, 11] [] [] [] (env' := [(0, I6 a1), (1, l40 none a2), (5, l3 (some 10500) v8), (6, I6 (k1 : Int)), (7, .bool v16), (10, I6 (iShl .i64 1 a1)), (11, I6 (k1 : Int))]) (by kernel_rfl) ?_
      exact hK14 v16 h
    · obtain ⟨v16, rfl⟩ : ∃ x, x = s := ⟨s, rfl⟩
      have h : rf1_Keys_l2 a1 k1 a2 (rf1_Keys_j14 k1 v8 (rf1_Keys_j9 (rf1_Keys_l1 a1 a2 (rf1_Keys_j5) r1 (k1 + 1)))) (x2 :: r2) k2 v16 = some r := h
      rw [rf1_Keys_l2.eq_2] at h
      refine W.seq ?_
      refine W.region (by kernel_rfl) ?_
      refine WO.pureK 0 (some (.bool (decide ((k2 : Int) < a1)))) (v := .bool true) (by kernel_rfl) (by rw [ltr_true hk2]) (e1 := [(0, I6 a1), (1, l40 none a2), (5, l3 (some 10500) v8), (6, I6 (k1 : Int)), (7, .bool v16), (10, I6 (iShl .i64 1 a1)), (11, I6 (k1 : Int)), (21, I6 a1), (22, I6 (k2 : Int)), (23, .bool true)]) (by kernel_rfl) ?_
      refine WO.fin ([0, 1, 5, 6, 7, 10, 11, 21, 22, 23]) [] [] [] (e2 := [(0, I6 a1), (1, l40 none a2), (5, l3 (some 10500) v8), (6, I6 (k1 : Int)), (7, .bool v16), (10, I6 (iShl .i64 1 a1)), (11, I6 (k1 : Int)), (21, I6 a1), (22, I6 (k2 : Int)), (23, .bool true)]) (by kernel_rfl) (fun _ h => h) ?_
      refine W.seq ?_
      refine W.condB true (by kernel_rfl) (fun _ => ?_) (fun h => Bool.noConfusion h)
      refine W.skip ?_
      refine W.weak [0, 1, 5, 6, 7, 10, 11, 21, 22] [] [] [] (env' := [(0, I6 a1), (1, l40 none a2), (5, l3 (some 10500) v8), (6, I6 (k1 : Int)), (7, .bool v16), (10, I6 (iShl .i64 1 a1)), (11, I6 (k1 : Int)), (21, I6 a1), (22, I6 (k2 : Int))]) (by kernel_rfl) ?_
      refine W.seq ?_
      refine W.join (σ := (Bool)) (fun s => [(0, I6 a1), (1, l40 none a2), (5, l3 (some 10500) v8), (6, I6 (k1 : Int)), (7, .bool s), (10, I6 (iShl .i64 1 a1)), (11, I6 (k1 : Int)), (21, I6 a1), (22, I6 (k2 : Int))]) (fun s => (rf1_Keys_j17 (rf1_Keys_l2 a1 k1 a2 (rf1_Keys_j14 k1 v8 (rf1_Keys_j9 (rf1_Keys_l1 a1 a2 (rf1_Keys_j5) r1 (k1 + 1)))) r2 (k2 + 1))) s = some r) (fun s h => ?_) (fun hK17 => ?_)
      · obtain ⟨v25, rfl⟩ : ∃ x, x = s := ⟨s, rfl⟩
        have h : (rf1_Keys_j17 (rf1_Keys_l2 a1 k1 a2 (rf1_Keys_j14 k1 v8 (rf1_Keys_j9 (rf1_Keys_l1 a1 a2 (rf1_Keys_j5) r1 (k1 + 1)))) r2 (k2 + 1))) v25 = some r := h
        unfold rf1_Keys_j17 at h
        refine W.region (by kernel_rfl) ?_
        refine WO.pureK 0 (some (I6 (IntKind.wrap .i64 ((k2 : Int) + 1)))) (v := I6 ((k2 + 1 : Nat) : Int)) (by kernel_rfl) (by rw [wrap_succ hl2 hk2]) (e1 := [(0, I6 a1), (1, l40 none a2), (5, l3 (some 10500) v8), (6, I6 (k1 : Int)), (7, .bool v25), (10, I6 (iShl .i64 1 a1)), (11, I6 (k1 : Int)), (21, I6 a1), (22, I6 (k2 : Int)), (42, I6 ((k2 + 1 : Nat) : Int))]) (by kernel_rfl) ?_
        refine WO.fin [0, 1, 5, 6, 7, 10, 11, 21, 22] [] [] [] (e2 := [(0, I6 a1), (1, l40 none a2), (5, l3 (some 10500) v8), (6, I6 (k1 : Int)), (7, .bool v25), (10, I6 (iShl .i64 1 a1)), (11, I6 (k1 : Int)), (21, I6 a1), (22, I6 ((k2 + 1 : Nat) : Int))]) (by kernel_rfl) (fun _ h => h) ?_
        exact hN2 v25 h
      refine W.block ?_
      refine W.seq ?_
      refine W.regT [0, 1, 5, 6, 7, 8, 10, 11, 21, 22] [] [] [] (e2 := [(0, I6 a1), (1, l40 none a2), (5, l3 (some 10500) v8), (6, I6 (k1 : Int)), (7, .bool v16), (8, I6 (k2 : Int)), (10, I6 (iShl .i64 1 a1)), (11, I6 (k1 : Int)), (21, I6 a1), (22, I6 (k2 : Int))]) (by kernel_rfl) (by kernel_rfl) (fun _ h => h) ?_
      refine W.seq ?_
      refine W.join (σ := (Bool)) (fun s => [(0, I6 a1), (1, l40 none a2), (5, l3 (some 10500) v8), (6, I6 (k1 : Int)), (7, .bool v16), (10, I6 (iShl .i64 1 a1)), (11, I6 (k1 : Int)), (21, I6 a1), (22, I6 (k2 : Int)), (41, .bool s)]) (fun s => (rf1_Keys_j19 v16 (rf1_Keys_j17 (rf1_Keys_l2 a1 k1 a2 (rf1_Keys_j14 k1 v8 (rf1_Keys_j9 (rf1_Keys_l1 a1 a2 (rf1_Keys_j5) r1 (k1 + 1)))) r2 (k2 + 1)))) s = some r) (fun s h => ?_) (fun hK19 => ?_)
      · obtain ⟨v24, rfl⟩ : ∃ x, x = s := ⟨s, rfl⟩
        have h : (rf1_Keys_j19 v16 (rf1_Keys_j17 (rf1_Keys_l2 a1 k1 a2 (rf1_Keys_j14 k1 v8 (rf1_Keys_j9 (rf1_Keys_l1 a1 a2 (rf1_Keys_j5) r1 (k1 + 1)))) r2 (k2 + 1)))) v24 = some r := h
        unfold rf1_Keys_j19 at h
        refine W.condB v24 (by kernel_rfl) (fun hb => ?_) (fun hb => ?_)
        · replace h := cond_t hb h
          refine W.regT [0, 1, 5, 6, 7, 10, 11, 21, 22] [] [] [] (e2 := [(0, I6 a1), (1, l40 none a2), (5, l3 (some 10500) v8), (6, I6 (k1 : Int)), (7, .bool false), (10, I6 (iShl .i64 1 a1)), (11, I6 (k1 : Int)), (21, I6 a1), (22, I6 (k2 : Int))]) (by kernel_rfl) (by kernel_rfl) (fun _ h => h) ?_
          exact hK17 false h
        replace h := cond_f hb h
        refine W.skip ?_
        refine W.weak [0, 1, 5, 6, 7, 10, 11, 21, 22] [] [] [] (env' := [(0, I6 a1), (1, l40 none a2), (5, l3 (some 10500) v8), (6, I6 (k1 : Int)), (7, .bool v16), (10, I6 (iShl .i64 1 a1)), (11, I6 (k1 : Int)), (21, I6 a1), (22, I6 (k2 : Int))]) (by kernel_rfl) ?_
        exact hK17 v16 h
      refine W.region (by kernel_rfl) ?_
      obtain ⟨hc20, h⟩ := chk_some h
      refine WO.pureK 2 (if (k2 : Int) < 0 then none else some (I6 (iShr .i64 (k1 : Int) (k2 : Int)))) (v := I6 (iShr .i64 (k1 : Int) (k2 : Int))) (by kernel_rfl) (if_neg (not_lt_of_chk hc20)) (e1 := [(0, I6 a1), (1, l40 none a2), (5, l3 (some 10500) v8), (6, I6 (k1 : Int)), (7, .bool v16), (8, I6 (k2 : Int)), (10, I6 (iShl .i64 1 a1)), (11, I6 (k1 : Int)), (21, I6 a1), (22, I6 (k2 : Int)), (25, I6 (k1 : Int)), (26, I6 (k2 : Int)), (27, I6 (iShr .i64 (k1 : Int) (k2 : Int)))]) (by kernel_rfl) ?_
      refine WO.boolK 3 (fun b => [(0, I6 a1), (1, l40 none a2), (5, l3 (some 10500) v8), (6, I6 (k1 : Int)), (7, .bool v16), (8, I6 (k2 : Int)), (10, I6 (iShl .i64 1 a1)), (11, I6 (k1 : Int)), (21, I6 a1), (22, I6 (k2 : Int)), (25, I6 (k1 : Int)), (26, I6 (k2 : Int)), (27, I6 (iShr .i64 (k1 : Int) (k2 : Int))), (28, I6 (iAnd .i64 (iShr .i64 (k1 : Int) (k2 : Int)) 1)), (29, .bool b), (30, .bool b)]) ((iAnd .i64 (iShr .i64 (k1 : Int) (k2 : Int)) 1) == 1) (by kernel_rfl) (fun hb => ?_) (fun hb => ?_)
      · replace h := cond_t hb h
        obtain ⟨hc21, h⟩ := chk_some h
        refine WO.pureK 3 (if (k2 : Int) < 0 then none else some (I6 (iShl .i64 1 (k2 : Int)))) (v := I6 (iShl .i64 1 (k2 : Int))) (by kernel_rfl) (if_neg (not_lt_of_chk hc21)) (e1 := [(0, I6 a1), (1, l40 none a2), (5, l3 (some 10500) v8), (6, I6 (k1 : Int)), (7, .bool v16), (8, I6 (k2 : Int)), (10, I6 (iShl .i64 1 a1)), (11, I6 (k1 : Int)), (21, I6 a1), (22, I6 (k2 : Int)), (25, I6 (k1 : Int)), (26, I6 (k2 : Int)), (27, I6 (iShr .i64 (k1 : Int) (k2 : Int))), (28, I6 (iAnd .i64 (iShr .i64 (k1 : Int) (k2 : Int)) 1)), (29, .bool true), (30, .bool true), (31, l40 none a2), (32, I6 (k1 : Int)), (33, I6 (k2 : Int)), (34, I6 (iShl .i64 1 (k2 : Int)))]) (by kernel_rfl) ?_
        obtain ⟨w22, hw22, h⟩ := bind_some h
        refine WO.callK 1 (F := 38) (l := [l40 none a2, I6 (iAndNot .i64 (k1 : Int) (iShl .i64 1 (k2 : Int)))]) (C := []) (r := I6 w22) (by kernel_rfl) (by kernel_rfl) (run_rf1_Closure a2 (iAndNot .i64 (k1 : Int) (iShl .i64 1 (k2 : Int))) w22 hw22) (e1 := [(0, I6 a1), (1, l40 none a2), (5, l3 (some 10500) v8), (6, I6 (k1 : Int)), (7, .bool v16), (8, I6 (k2 : Int)), (10, I6 (iShl .i64 1 a1)), (11, I6 (k1 : Int)), (21, I6 a1), (22, I6 (k2 : Int)), (25, I6 (k1 : Int)), (26, I6 (k2 : Int)), (27, I6 (iShr .i64 (k1 : Int) (k2 : Int))), (28, I6 (iAnd .i64 (iShr .i64 (k1 : Int) (k2 : Int)) 1)), (29, .bool true), (30, .bool true), (31, l40 none a2), (32, I6 (k1 : Int)), (33, I6 (k2 : Int)), (34, I6 (iShl .i64 1 (k2 : Int))), (35, I6 (iAndNot .i64 (k1 : Int) (iShl .i64 1 (k2 : Int)))), (36, I6 w22)]) (by kernel_rfl) ?_
        obtain ⟨hc23, h⟩ := chk_some h
        refine WO.pureK 1 (if a1 < 0 then none else some (I6 (iShl .i64 1 a1))) (v := I6 (iShl .i64 1 a1)) (by kernel_rfl) (if_neg (not_lt_of_chk hc23)) (e1 := [(0, I6 a1), (1, l40 none a2), (5, l3 (some 10500) v8), (6, I6 (k1 : Int)), (7, .bool v16), (8, I6 (k2 : Int)), (10, I6 (iShl .i64 1 a1)), (11, I6 (k1 : Int)), (21, I6 a1), (22, I6 (k2 : Int)), (25, I6 (k1 : Int)), (26, I6 (k2 : Int)), (27, I6 (iShr .i64 (k1 : Int) (k2 : Int))), (28, I6 (iAnd .i64 (iShr .i64 (k1 : Int) (k2 : Int)) 1)), (29, .bool true), (30, .bool true), (31, l40 none a2), (32, I6 (k1 : Int)), (33, I6 (k2 : Int)), (34, I6 (iShl .i64 1 (k2 : Int))), (35, I6 (iAndNot .i64 (k1 : Int) (iShl .i64 1 (k2 : Int)))), (36, I6 w22), (37, I6 a1), (38, I6 (iShl .i64 1 a1))]) (by kernel_rfl) ?_
        refine WO.fin [0, 1, 5, 6, 7, 10, 11, 21, 22, 41] [] [] [] (e2 := [(0, I6 a1), (1, l40 none a2), (5, l3 (some 10500) v8), (6, I6 (k1 : Int)), (7, .bool v16), (10, I6 (iShl .i64 1 a1)), (11, I6 (k1 : Int)), (21, I6 a1), (22, I6 (k2 : Int)), (41, .bool (w22 == (IntKind.wrap .i64 ((iShl .i64 1 a1) - 1))))]) (by kernel_rfl) (fun _ h => h) ?_
        exact hK19 (w22 == (IntKind.wrap .i64 ((iShl .i64 1 a1) - 1))) h
      replace h := cond_f hb h
      refine WO.fin [0, 1, 5, 6, 7, 10, 11, 21, 22, 41] [] [] [] (e2 := [(0, I6 a1), (1, l40 none a2), (5, l3 (some 10500) v8), (6, I6 (k1 : Int)), (7, .bool v16), (10, I6 (iShl .i64 1 a1)), (11, I6 (k1 : Int)), (21, I6 a1), (22, I6 (k2 : Int)), (41, .bool false)]) (by kernel_rfl) (fun _ h => h) ?_
      exact hK19 false h
def sl_Equal_int_j7 : Option Bool :=
  (some true)
def sl_Equal_int_l1 (a2 : (List Int)) (K7 : (Option Bool)) : List Int → Nat → Option Bool
  | [], k1 => K7
  | x1 :: r1, k1 => ((idx a2 (k1 : Int)).bind fun e12 => (bif (x1 != e12) then (some false) else (sl_Equal_int_l1 a2 K7 r1 (k1 + 1))))
def sl_Equal_int (a1 : (List Int)) (a2 : (List Int)) : Option Bool :=
  (bif ((a1.length : Int) != (a2.length : Int)) then (some false) else (chk (lenOk a1) (sl_Equal_int_l1 a2 (sl_Equal_int_j7) a1 0)))
theorem run_sl_Equal_int (a1 : (List Int)) (a2 : (List Int)) (r : Bool) (h : sl_Equal_int a1 a2 = some r) : Run Try.prog (.call 45 [l3 none a1, l3 none a2] (.bool r)) := by
  refine call_of_W Try.func45 rfl (by kernel_rfl) (env0 := [(0, l3 none a1), (1, l3 none a2)]) (by kernel_rfl) ?_
  unfold sl_Equal_int at h
  refine W.seq ?_
  refine W.regT [0, 1] [] [] [] (e2 := [(0, l3 none a1), (1, l3 none a2)]) (by kernel_rfl) (by kernel_rfl) (fun _ h => h) ?_
  refine W.seq ?_
  refine W.seq ?_
  refine W.region (by kernel_rfl) ?_
  refine WO.pureK 1 (some (I6 ((List.map (AV.int .i64) a1).length : Int))) (v := I6 (a1.length : Int)) (by kernel_rfl) (by rw [List.length_map]) (e1 := [(0, l3 none a1), (1, l3 none a2), (6, l3 none a1), (7, I6 (a1.length : Int))]) (by kernel_rfl) ?_
  refine WO.pureK 1 (some (I6 ((List.map (AV.int .i64) a2).length : Int))) (v := I6 (a2.length : Int)) (by kernel_rfl) (by rw [List.length_map]) (e1 := [(0, l3 none a1), (1, l3 none a2), (6, l3 none a1), (7, I6 (a1.length : Int)), (8, l3 none a2), (9, I6 (a2.length : Int))]) (by kernel_rfl) ?_
  refine WO.fin [0, 1, 10] [] [] [] (e2 := [(0, l3 none a1), (1, l3 none a2), (10, .bool ((a1.length : Int) != (a2.length : Int)))]) (by kernel_rfl) (fun _ h => h) ?_
  refine W.condB ((a1.length : Int) != (a2.length : Int)) (by kernel_rfl) (fun hb => ?_) (fun hb => ?_)
  · replace h := cond_t hb h
    refine W.seq ?_
    refine W.regT [4] [] [] [] (e2 := [(4, .bool false)]) (by kernel_rfl) (by kernel_rfl) (fun _ h => h) ?_
    refine W.weak [4] [] [] [] (env' := [(4, .bool false)]) (by kernel_rfl) ?_
    have hr : aresults Try.prog Try.f45 [(4, .bool false)] = some (.bool false) := by kernel_rfl
    cases h
    exact W.ret hr
  replace h := cond_f hb h
  refine W.skip ?_
  refine W.weak [0, 1] [] [] [] (env' := [(0, l3 none a1), (1, l3 none a2)]) (by kernel_rfl) ?_
  refine W.seq ?_
  refine W.join (σ := Unit) (fun s => []) (fun s => (sl_Equal_int_j7) = some r) (fun s h => ?_) (fun hK7 => ?_)
  · have h : (sl_Equal_int_j7) = some r := h
    unfold sl_Equal_int_j7 at h
    refine W.seq ?_
    refine W.regT [4] [] [] [] (e2 := [(4, .bool true)]) (by kernel_rfl) (by kernel_rfl) (fun _ h => h) ?_
    refine W.weak [4] [] [] [] (env' := [(4, .bool true)]) (by kernel_rfl) ?_
    have hr : aresults Try.prog Try.f45 [(4, .bool true)] = some (.bool true) := by kernel_rfl
    cases h
    exact W.ret hr
  refine W.seq ?_
  refine W.region (by kernel_rfl) ?_
  refine WO.pureK 1 (some (I6 ((List.map (AV.int .i64) a1).length : Int))) (v := I6 (a1.length : Int)) (by kernel_rfl) (by rw [List.length_map]) (e1 := [(0, l3 none a1), (1, l3 none a2), (11, l3 none a1), (12, I6 (a1.length : Int))]) (by kernel_rfl) ?_
  refine WO.fin [0, 1, 12, 13] [] [] [] (e2 := [(0, l3 none a1), (1, l3 none a2), (12, I6 (a1.length : Int)), (13, .int .i64 0)]) (by kernel_rfl) (fun _ h => h) ?_
  refine W.block ?_
  obtain ⟨hl1, h⟩ := chk_some h
  refine W.weak [0, 1, 12, 13] [] [] [] (env' := [(0, l3 none a1), (1, l3 none a2), (12, I6 (a1.length : Int)), (13, I6 ((0 : Nat) : Int))]) (by kernel_rfl) ?_
  refine W.range (σ := Unit) a1 (fun k1 s => [(0, l3 none a1), (1, l3 none a2), (12, I6 (a1.length : Int)), (13, I6 (k1 : Int))]) (fun r0 k0 s => sl_Equal_int_l1 a2 (sl_Equal_int_j7) r0 k0 = some r) (fun s h => ?_) (fun x1 r1 k1 s hx1 hk1 h hN1 => ?_) () h
  · have h : sl_Equal_int_l1 a2 (sl_Equal_int_j7) [] (a1).length = some r := h
    rw [sl_Equal_int_l1.eq_1] at h
    refine W.seq ?_
    refine W.region (by kernel_rfl) ?_
    refine WO.pureK 0 (some (.bool (decide (((a1).length : Int) < (a1.length : Int))))) (v := .bool false) (by kernel_rfl) (by rw [lt_false (l := a1)]) (e1 := [(0, l3 none a1), (1, l3 none a2), (12, I6 (a1.length : Int)), (13, I6 ((a1).length : Int)), (14, .bool false)]) (by kernel_rfl) ?_
    refine WO.fin ([0, 1, 12, 13, 14]) [] [] [] (e2 := [(0, l3 none a1), (1, l3 none a2), (12, I6 (a1.length : Int)), (13, I6 ((a1).length : Int)), (14, .bool false)]) (by kernel_rfl) (fun _ h => h) ?_
    refine W.seq ?_
    refine W.condB false (by kernel_rfl) (fun h => Bool.noConfusion h) (fun _ => ?_)
    refine W.exit ?_
    refine W.weak [] [] [] [] (env' := []) (by kernel_rfl) ?_
    exact hK7 () h
  · have h : sl_Equal_int_l1 a2 (sl_Equal_int_j7) (x1 :: r1) k1 = some r := h
    rw [sl_Equal_int_l1.eq_2] at h
    refine W.seq ?_
    refine W.region (by kernel_rfl) ?_
    refine WO.pureK 0 (some (.bool (decide ((k1 : Int) < (a1.length : Int))))) (v := .bool true) (by kernel_rfl) (by rw [lt_true hk1]) (e1 := [(0, l3 none a1), (1, l3 none a2), (12, I6 (a1.length : Int)), (13, I6 (k1 : Int)), (14, .bool true)]) (by kernel_rfl) ?_
    refine WO.fin ([0, 1, 12, 13, 14]) [] [] [] (e2 := [(0, l3 none a1), (1, l3 none a2), (12, I6 (a1.length : Int)), (13, I6 (k1 : Int)), (14, .bool true)]) (by kernel_rfl) (fun _ h => h) ?_
    refine W.seq ?_
    refine W.condB true (by kernel_rfl) (fun _ => ?_) (fun h => Bool.noConfusion h)
    refine W.skip ?_
    refine W.weak [0, 1, 12, 13] [] [] [] (env' := [(0, l3 none a1), (1, l3 none a2), (12, I6 (a1.length : Int)), (13, I6 (k1 : Int))]) (by kernel_rfl) ?_
    refine W.seq ?_
    refine W.block ?_
    refine W.seq ?_
    refine W.regT [0, 1, 5, 12, 13] [] [] [] (e2 := [(0, l3 none a1), (1, l3 none a2), (5, I6 (k1 : Int)), (12, I6 (a1.length : Int)), (13, I6 (k1 : Int))]) (by kernel_rfl) (by kernel_rfl) (fun _ h => h) ?_
    refine W.seq ?_
    refine W.region (by kernel_rfl) ?_
    refine WO.pureK 2 (if (0 : Int) ≤ (k1 : Int) then ((List.map (AV.int .i64) a1)[Int.toNat (k1 : Int)]?).map AV.ptr else none) (v := .ptr (I6 x1)) (by kernel_rfl) (idx_nat (f := (AV.int .i64)) hx1) (e1 := [(0, l3 none a1), (1, l3 none a2), (5, I6 (k1 : Int)), (12, I6 (a1.length : Int)), (13, I6 (k1 : Int)), (16, l3 none a1), (17, I6 (k1 : Int)), (18, .ptr (I6 x1))]) (by kernel_rfl) ?_
    obtain ⟨e12, he12, h⟩ := bind_some h
    refine WO.pureK 3 (if (0 : Int) ≤ (k1 : Int) then ((List.map (AV.int .i64) a2)[Int.toNat (k1 : Int)]?).map AV.ptr else none) (v := .ptr (I6 e12)) (by kernel_rfl) (idx_av (f := (AV.int .i64)) he12) (e1 := [(0, l3 none a1), (1, l3 none a2), (5, I6 (k1 : Int)), (12, I6 (a1.length : Int)), (13, I6 (k1 : Int)), (16, l3 none a1), (17, I6 (k1 : Int)), (18, .ptr (I6 x1)), (19, I6 x1), (20, l3 none a2), (21, I6 (k1 : Int)), (22, .ptr (I6 e12))]) (by kernel_rfl) ?_
    refine WO.fin [0, 1, 12, 13, 24] [] [] [] (e2 := [(0, l3 none a1), (1, l3 none a2), (12, I6 (a1.length : Int)), (13, I6 (k1 : Int)), (24, .bool (x1 != e12))]) (by kernel_rfl) (fun _ h => h) ?_
    refine W.condB (x1 != e12) (by kernel_rfl) (fun hb => ?_) (fun hb => ?_)
    · replace h := cond_t hb h
      refine W.seq ?_
      refine W.regT [4] [] [] [] (e2 := [(4, .bool false)]) (by kernel_rfl) (by kernel_rfl) (fun _ h => h) ?_
      refine W.weak [4] [] [] [] (env' := [(4, .bool false)]) (by kernel_rfl) ?_
      have hr : aresults Try.prog Try.f45 [(4, .bool false)] = some (.bool false) := by kernel_rfl
      cases h
      exact W.ret hr
    replace h := cond_f hb h
    refine W.skip ?_
    refine W.weak [0, 1, 12, 13] [] [] [] (env' := [(0, l3 none a1), (1, l3 none a2), (12, I6 (a1.length : Int)), (13, I6 (k1 : Int))]) (by kernel_rfl) ?_
    refine W.region (by kernel_rfl) ?_
    refine WO.pureK 0 (some (I6 (IntKind.wrap .i64 ((k1 : Int) + 1)))) (v := I6 ((k1 + 1 : Nat) : Int)) (by kernel_rfl) (by rw [wrap_succ hl1 hk1]) (e1 := [(0, l3 none a1), (1, l3 none a2), (12, I6 (a1.length : Int)), (13, I6 (k1 : Int)), (25, I6 ((k1 + 1 : Nat) : Int))]) (by kernel_rfl) ?_
    refine WO.fin [0, 1, 12, 13] [] [] [] (e2 := [(0, l3 none a1), (1, l3 none a2), (12, I6 (a1.length : Int)), (13, I6 ((k1 + 1 : Nat) : Int))]) (by kernel_rfl) (fun _ h => h) ?_
    exact hN1 () h
def lw1_own_j4 (v10 : (List rf1Dep)) : Option (List rf1Dep) :=
  (some v10)
def lw1_own_l1 (K4 : ((List rf1Dep) → Option (List rf1Dep))) : List dpDep → Nat → (List rf1Dep) → Option (List rf1Dep)
  | [], k1, v6 => (K4 v6)
  | x1 :: r1, k1, v6 => (chk (capOk 16 ((v6 ++ [(rf1Dep.mk x1.f_From x1.f_To)])).length) ((lw1_own_l1 K4 r1 (k1 + 1)) (v6 ++ [(rf1Dep.mk x1.f_From x1.f_To)])))
def lw1_own (a1 : (List dpDep)) : Option (List rf1Dep) :=
  (chk (lenOk a1) (lw1_own_l1 (lw1_own_j4) a1 0 ([] : (List rf1Dep))))
theorem run_lw1_own (a1 : (List dpDep)) (r : (List rf1Dep)) (h : lw1_own a1 = some r) : Run Try.prog (.call 52 [l33 none a1] (l40 (some 1) r)) := by
  refine call_of_W Try.func52 rfl (by kernel_rfl) (env0 := [(0, l33 none a1)]) (by kernel_rfl) ?_
  unfold lw1_own at h
  refine W.seq ?_
  refine W.regT [0] [] [] [] (e2 := [(0, l33 none a1)]) (by kernel_rfl) (by kernel_rfl) (fun _ h => h) ?_
  refine W.seq ?_
  refine W.regT [0, 3] [] [] [] (e2 := [(0, l33 none a1), (3, .nils)]) (by kernel_rfl) (by kernel_rfl) (fun _ h => h) ?_
  refine W.seq ?_
  refine W.join (σ := ((List rf1Dep))) (fun s => [(3, l40 (some 10300) s)]) (fun s => (lw1_own_j4) s = some r) (fun s h => ?_) (fun hK4 => ?_)
  · obtain ⟨v10, rfl⟩ : ∃ x, x = s := ⟨s, rfl⟩
    have h : (lw1_own_j4) v10 = some r := h
    unfold lw1_own_j4 at h
    refine W.seq ?_
    refine W.regT [2] [] [] [] (e2 := [(2, l40 (some 10300) v10)]) (by kernel_rfl) (by kernel_rfl) (fun _ h => h) ?_
    refine W.weak [2] [] [] [(10300, some 1)] (env' := [(2, l40 (some 1) v10)]) (by kernel_rfl) ?_
    have hr : aresults Try.prog Try.f52 [(2, l40 (some 1) v10)] = some (l40 (some 1) v10) := by kernel_rfl
    cases h
    exact W.ret hr
  refine W.seq ?_
  refine W.region (by kernel_rfl) ?_
  refine WO.pureK 1 (some (I6 ((List.map e_dpDep a1).length : Int))) (v := I6 (a1.length : Int)) (by kernel_rfl) (by rw [List.length_map]) (e1 := [(0, l33 none a1), (3, .nils), (6, l33 none a1), (7, I6 (a1.length : Int))]) (by kernel_rfl) ?_
  refine WO.fin [3, 6, 7, 8] [] [] [] (e2 := [(3, .nils), (6, l33 none a1), (7, I6 (a1.length : Int)), (8, .int .i64 0)]) (by kernel_rfl) (fun _ h => h) ?_
  refine W.block ?_
  obtain ⟨hl1, h⟩ := chk_some h
  refine W.weak [3, 6, 7, 8] [] [(3, 0, 40, 2, 10300)] [] (env' := [(3, l40 (some 10300) ([] : (List rf1Dep))), (6, l33 none a1), (7, I6 (a1.length : Int)), (8, I6 ((0 : Nat) : Int))]) (by kernel_rfl) ?_
  refine W.range (σ := ((List rf1Dep))) a1 (fun k1 s => [(3, l40 (some 10300) s), (6, l33 none a1), (7, I6 (a1.length : Int)), (8, I6 (k1 : Int))]) (fun r0 k0 s => lw1_own_l1 (lw1_own_j4) r0 k0 s = some r) (fun s h => ?_) (fun x1 r1 k1 s hx1 hk1 h hN1 => ?_) ([] : (List rf1Dep)) h
  · obtain ⟨v6, rfl⟩ : ∃ x, x = s := ⟨s, rfl⟩
    have h : lw1_own_l1 (lw1_own_j4) [] (a1).length v6 = some r := h
    rw [lw1_own_l1.eq_1] at h
    refine W.seq ?_
    refine W.region (by kernel_rfl) ?_
    refine WO.pureK 0 (some (.bool (decide (((a1).length : Int) < (a1.length : Int))))) (v := .bool false) (by kernel_rfl) (by rw [lt_false (l := a1)]) (e1 := [(3, l40 (some 10300) v6), (6, l33 none a1), (7, I6 (a1.length : Int)), (8, I6 ((a1).length : Int)), (9, .bool false)]) (by kernel_rfl) ?_
    refine WO.fin ([3, 6, 7, 8, 9]) [] [] [] (e2 := [(3, l40 (some 10300) v6), (6, l33 none a1), (7, I6 (a1.length : Int)), (8, I6 ((a1).length : Int)), (9, .bool false)]) (by kernel_rfl) (fun _ h => h) ?_
    refine W.seq ?_
    refine W.condB false (by kernel_rfl) (fun h => Bool.noConfusion h) (fun _ => ?_)
    refine W.exit ?_
    refine W.weak [3] [] [] [] (env' := [(3, l40 (some 10300) v6)]) (by kernel_rfl) ?_
    exact hK4 v6 h
  · obtain ⟨v6, rfl⟩ : ∃ x, x = s := ⟨s, rfl⟩
    have h : lw1_own_l1 (lw1_own_j4) (x1 :: r1) k1 v6 = some r := h
    rw [lw1_own_l1.eq_2] at h
    refine W.seq ?_
    refine W.region (by kernel_rfl) ?_
    refine WO.pureK 0 (some (.bool (decide ((k1 : Int) < (a1.length : Int))))) (v := .bool true) (by kernel_rfl) (by rw [lt_true hk1]) (e1 := [(3, l40 (some 10300) v6), (6, l33 none a1), (7, I6 (a1.length : Int)), (8, I6 (k1 : Int)), (9, .bool true)]) (by kernel_rfl) ?_
    refine WO.fin ([3, 6, 7, 8, 9]) [] [] [] (e2 := [(3, l40 (some 10300) v6), (6, l33 none a1), (7, I6 (a1.length : Int)), (8, I6 (k1 : Int)), (9, .bool true)]) (by kernel_rfl) (fun _ h => h) ?_
    refine W.seq ?_
    refine W.condB true (by kernel_rfl) (fun _ => ?_) (fun h => Bool.noConfusion h)
    refine W.skip ?_
    refine W.weak [3, 6, 7, 8] [] [] [] (env' := [(3, l40 (some 10300) v6), (6, l33 none a1), (7, I6 (a1.length : Int)), (8, I6 (k1 : Int))]) (by kernel_rfl) ?_
    refine W.seq ?_
    refine W.block ?_
    refine W.seq ?_
    refine W.region (by kernel_rfl) ?_
    refine WO.pureK 0 (if (0 : Int) ≤ (k1 : Int) then ((List.map e_dpDep a1)[Int.toNat (k1 : Int)]?).map AV.ptr else none) (v := .ptr (.agg [I6 x1.f_From, I6 x1.f_To])) (by kernel_rfl) (idx_nat (f := e_dpDep) hx1) (e1 := [(3, l40 (some 10300) v6), (6, l33 none a1), (7, I6 (a1.length : Int)), (8, I6 (k1 : Int)), (10, .ptr (.agg [I6 x1.f_From, I6 x1.f_To]))]) (by kernel_rfl) ?_
    refine WO.fin [3, 5, 6, 7, 8] [5] [] [] (e2 := [(3, l40 (some 10300) v6), (5, .ptr (.agg [I6 x1.f_From, I6 x1.f_To])), (6, l33 none a1), (7, I6 (a1.length : Int)), (8, I6 (k1 : Int))]) (by kernel_rfl) (fun _ h => h) ?_
    refine W.region (by kernel_rfl) ?_
    obtain ⟨hc9, h⟩ := chk_some h
    refine WO.appendK 7 (d := 19) (e := 40) (s := 2) (bytes := 16) (xs := (List.map e_rf1Dep v6)) (ys := (List.map e_rf1Dep [(rf1Dep.mk x1.f_From x1.f_To)])) (zs := (List.map e_rf1Dep (v6 ++ [(rf1Dep.mk x1.f_From x1.f_To)]))) (env1 := [(3, l40 none v6), (5, .ptr (.agg [I6 x1.f_From, I6 x1.f_To])), (6, l33 none a1), (7, I6 (a1.length : Int)), (8, I6 (k1 : Int)), (12, l40 none v6), (13, .ptr (I6 x1.f_From)), (14, I6 x1.f_From), (15, .ptr (I6 x1.f_To)), (16, I6 x1.f_To), (17, .agg [I6 x1.f_From, I6 x1.f_To]), (18, l40 (some 18) [(rf1Dep.mk x1.f_From x1.f_To)])]) (by kernel_rfl) (List.map_append.symm) (by rw [List.length_map]; exact hc9) (e1 := [(3, l40 none v6), (5, .ptr (.agg [I6 x1.f_From, I6 x1.f_To])), (6, l33 none a1), (7, I6 (a1.length : Int)), (8, I6 (k1 : Int)), (12, l40 none v6), (13, .ptr (I6 x1.f_From)), (14, I6 x1.f_From), (15, .ptr (I6 x1.f_To)), (16, I6 x1.f_To), (17, .agg [I6 x1.f_From, I6 x1.f_To]), (18, l40 (some 18) [(rf1Dep.mk x1.f_From x1.f_To)]), (19, l40 (some 19) (v6 ++ [(rf1Dep.mk x1.f_From x1.f_To)]))]) (by kernel_rfl) ?_
    refine WO.fin [3, 6, 7, 8] [] [] [] (e2 := [(3, l40 (some 19) (v6 ++ [(rf1Dep.mk x1.f_From x1.f_To)])), (6, l33 none a1), (7, I6 (a1.length : Int)), (8, I6 (k1 : Int))]) (by kernel_rfl) (fun _ h => h) ?_
    refine W.region (by kernel_rfl) ?_
    refine WO.pureK 0 (some (I6 (IntKind.wrap .i64 ((k1 : Int) + 1)))) (v := I6 ((k1 + 1 : Nat) : Int)) (by kernel_rfl) (by rw [wrap_succ hl1 hk1]) (e1 := [(3, l40 (some 19) (v6 ++ [(rf1Dep.mk x1.f_From x1.f_To)])), (6, l33 none a1), (7, I6 (a1.length : Int)), (8, I6 (k1 : Int)), (20, I6 ((k1 + 1 : Nat) : Int))]) (by kernel_rfl) ?_
    refine WO.fin [3, 6, 7, 8] [] [] [(19, some 10300)] (e2 := [(3, l40 (some 10300) (v6 ++ [(rf1Dep.mk x1.f_From x1.f_To)])), (6, l33 none a1), (7, I6 (a1.length : Int)), (8, I6 ((k1 + 1 : Nat) : Int))]) (by kernel_rfl) (fun _ h => h) ?_
    exact hN1 (v6 ++ [(rf1Dep.mk x1.f_From x1.f_To)]) h
def rf1_critical_j5 (v26 : (List rf1Dep)) : Option (List rf1Dep) :=
  (some v26)
def rf1_critical_j13 (k1 : Nat) (a2 : (List Int)) (v8 : (List rf1Dep)) (K9 : ((List rf1Dep) → Option (List rf1Dep))) (v21 : Bool) : Option (List rf1Dep) :=
  (bif v21 then ((idx a2 (k1 : Int)).bind fun e23 => (chk (capOk 16 ((v8 ++ [(rf1Dep.mk (k1 : Int) e23)])).length) (K9 (v8 ++ [(rf1Dep.mk (k1 : Int) e23)])))) else (K9 v8))
def rf1_critical_j9 (N1 : ((List rf1Dep) → Option (List rf1Dep))) (v25 : (List rf1Dep)) : Option (List rf1Dep) :=
  (N1 v25)
def rf1_critical_j16 (N2 : (Bool → Option (List rf1Dep))) (v20 : Bool) : Option (List rf1Dep) :=
  (N2 v20)
def rf1_critical_j18 (v15 : Bool) (K16 : (Bool → Option (List rf1Dep))) (v19 : Bool) : Option (List rf1Dep) :=
  (bif v19 then (K16 false) else (K16 v15))
def rf1_critical_l2 (k1 : Nat) (K13 : (Bool → Option (List rf1Dep))) : List rf1Dep → Nat → Bool → Option (List rf1Dep)
  | [], k2, v15 => (K13 v15)
  | x2 :: r2, k2, v15 => (bif ((iAndNot .i64 x2.f_From (k1 : Int)) == 0) then ((rf1_critical_j18 v15 (rf1_critical_j16 (rf1_critical_l2 k1 K13 r2 (k2 + 1)))) ((iAndNot .i64 x2.f_To (k1 : Int)) != 0)) else ((rf1_critical_j18 v15 (rf1_critical_j16 (rf1_critical_l2 k1 K13 r2 (k2 + 1)))) false))
def rf1_critical_l1 (a2 : (List Int)) (K5 : ((List rf1Dep) → Option (List rf1Dep))) : List Nat → Nat → (List rf1Dep) → Option (List rf1Dep)
  | [], k1, v8 => (K5 v8)
  | x1 :: r1, k1, v8 => ((idx a2 (k1 : Int)).bind fun e12 => (chk (lenOk v8) (rf1_critical_l2 k1 (rf1_critical_j13 k1 a2 v8 (rf1_critical_j9 (rf1_critical_l1 a2 K5 r1 (k1 + 1)))) v8 0 (e12 != (k1 : Int)))))
def rf1_critical (a1 : Int) (a2 : (List Int)) : Option (List rf1Dep) :=
  (chk (decide (0 ≤ a1)) (chk (lenOk (List.range (Int.toNat (iShl .i64 1 a1)))) (rf1_critical_l1 a2 (rf1_critical_j5) (List.range (Int.toNat (iShl .i64 1 a1))) 0 ([] : (List rf1Dep)))))
theorem run_rf1_critical (a1 : Int) (a2 : (List Int)) (r : (List rf1Dep)) (h : rf1_critical a1 a2 = some r) : Run Try.prog (.call 71 [I6 a1, l3 none a2] (l40 (some 1) r)) := by
  refine call_of_W Try.func71 rfl (by kernel_rfl) (env0 := [(0, I6 a1), (1, l3 none a2)]) (by kernel_rfl) ?_
  unfold rf1_critical at h
  refine W.seq ?_
  refine W.regT [0, 1] [] [] [] (e2 := [(0, I6 a1), (1, l3 none a2)]) (by kernel_rfl) (by kernel_rfl) (fun _ h => h) ?_
  refine W.seq ?_
  refine W.regT [0, 1, 5] [] [] [] (e2 := [(0, I6 a1), (1, l3 none a2), (5, .nils)]) (by kernel_rfl) (by kernel_rfl) (fun _ h => h) ?_
  refine W.seq ?_
  refine W.join (σ := ((List rf1Dep))) (fun s => [(5, l40 (some 10500) s)]) (fun s => (rf1_critical_j5) s = some r) (fun s h => ?_) (fun hK5 => ?_)
  · obtain ⟨v26, rfl⟩ : ∃ x, x = s := ⟨s, rfl⟩
    have h : (rf1_critical_j5) v26 = some r := h
    unfold rf1_critical_j5 at h
    refine W.seq ?_
    refine W.regT [4] [] [] [] (e2 := [(4, l40 (some 10500) v26)]) (by kernel_rfl) (by kernel_rfl) (fun _ h => h) ?_
    refine W.weak [4] [] [] [(10500, some 1)] (env' := [(4, l40 (some 1) v26)]) (by kernel_rfl) ?_
    have hr : aresults Try.prog Try.f71 [(4, l40 (some 1) v26)] = some (l40 (some 1) v26) := by kernel_rfl
    cases h
    exact W.ret hr
  refine W.seq ?_
  refine W.region (by kernel_rfl) ?_
  obtain ⟨hc7, h⟩ := chk_some h
  refine WO.pureK 1 (if a1 < 0 then none else some (I6 (iShl .i64 1 a1))) (v := I6 (iShl .i64 1 a1)) (by kernel_rfl) (if_neg (not_lt_of_chk hc7)) (e1 := [(0, I6 a1), (1, l3 none a2), (5, .nils), (10, I6 a1), (11, I6 (iShl .i64 1 a1))]) (by kernel_rfl) ?_
  refine WO.fin [1, 5, 11, 12] [] [] [] (e2 := [(1, l3 none a2), (5, .nils), (11, I6 (iShl .i64 1 a1)), (12, .int .i64 0)]) (by kernel_rfl) (fun _ h => h) ?_
  refine W.block ?_
  obtain ⟨hl1, h⟩ := chk_some h
  refine W.weak [1, 5, 11, 12] [] [(5, 0, 40, 2, 10500)] [] (env' := [(1, l3 none a2), (5, l40 (some 10500) ([] : (List rf1Dep))), (11, I6 (iShl .i64 1 a1)), (12, I6 ((0 : Nat) : Int))]) (by kernel_rfl) ?_
  refine W.range (σ := ((List rf1Dep))) (List.range (Int.toNat (iShl .i64 1 a1))) (fun k1 s => [(1, l3 none a2), (5, l40 (some 10500) s), (11, I6 (iShl .i64 1 a1)), (12, I6 (k1 : Int))]) (fun r0 k0 s => rf1_critical_l1 a2 (rf1_critical_j5) r0 k0 s = some r) (fun s h => ?_) (fun x1 r1 k1 s hx1 hk1 h hN1 => ?_) ([] : (List rf1Dep)) h
  · obtain ⟨v8, rfl⟩ : ∃ x, x = s := ⟨s, rfl⟩
    have h : rf1_critical_l1 a2 (rf1_critical_j5) [] ((List.range (Int.toNat (iShl .i64 1 a1)))).length v8 = some r := h
    rw [rf1_critical_l1.eq_1] at h
    refine W.seq ?_
    refine W.region (by kernel_rfl) ?_
    refine WO.pureK 0 (some (.bool (decide ((((List.range (Int.toNat (iShl .i64 1 a1)))).length : Int) < (iShl .i64 1 a1))))) (v := .bool false) (by kernel_rfl) (by rw [ltr_false (n := (iShl .i64 1 a1))]) (e1 := [(1, l3 none a2), (5, l40 (some 10500) v8), (11, I6 (iShl .i64 1 a1)), (12, I6 (((List.range (Int.toNat (iShl .i64 1 a1)))).length : Int)), (13, .bool false)]) (by kernel_rfl) ?_
    refine WO.fin ([1, 5, 11, 12, 13]) [] [] [] (e2 := [(1, l3 none a2), (5, l40 (some 10500) v8), (11, I6 (iShl .i64 1 a1)), (12, I6 (((List.range (Int.toNat (iShl .i64 1 a1)))).length : Int)), (13, .bool false)]) (by kernel_rfl) (fun _ h => h) ?_
    refine W.seq ?_
    refine W.condB false (by kernel_rfl) (fun h => Bool.noConfusion h) (fun _ => ?_)
    refine W.exit ?_
    refine W.weak [5] [] [] [] (env' := [(5, l40 (some 10500) v8)]) (by kernel_rfl) ?_
    exact hK5 v8 h
  · obtain ⟨v8, rfl⟩ : ∃ x, x = s := ⟨s, rfl⟩
    have h : rf1_critical_l1 a2 (rf1_critical_j5) (x1 :: r1) k1 v8 = some r := h
    rw [rf1_critical_l1.eq_2] at h
    refine W.seq ?_
    refine W.region (by kernel_rfl) ?_
    refine WO.pureK 0 (some (.bool (decide ((k1 : Int) < (iShl .i64 1 a1))))) (v := .bool true) (by kernel_rfl) (by rw [ltr_true hk1]) (e1 := [(1, l3 none a2), (5, l40 (some 10500) v8), (11, I6 (iShl .i64 1 a1)), (12, I6 (k1 : Int)), (13, .bool true)]) (by kernel_rfl) ?_
    refine WO.fin ([1, 5, 11, 12, 13]) [] [] [] (e2 := [(1, l3 none a2), (5, l40 (some 10500) v8), (11, I6 (iShl .i64 1 a1)), (12, I6 (k1 : Int)), (13, .bool true)]) (by kernel_rfl) (fun _ h => h) ?_
    refine W.seq ?_
    refine W.condB true (by kernel_rfl) (fun _ => ?_) (fun h => Bool.noConfusion h)
    refine W.skip ?_
    refine W.weak [1, 5, 11, 12] [] [] [] (env' := [(1, l3 none a2), (5, l40 (some 10500) v8), (11, I6 (iShl .i64 1 a1)), (12, I6 (k1 : Int))]) (by kernel_rfl) ?_
    refine W.seq ?_
    refine W.join (σ := ((List rf1Dep))) (fun s => [(1, l3 none a2), (5, l40 (some 10500) s), (11, I6 (iShl .i64 1 a1)), (12, I6 (k1 : Int))]) (fun s => (rf1_critical_j9 (rf1_critical_l1 a2 (rf1_critical_j5) r1 (k1 + 1))) s = some r) (fun s h => ?_) (fun hK9 => ?_)
    · obtain ⟨v25, rfl⟩ : ∃ x, x = s := ⟨s, rfl⟩
      have h : (rf1_critical_j9 (rf1_critical_l1 a2 (rf1_critical_j5) r1 (k1 + 1))) v25 = some r := h
      unfold rf1_critical_j9 at h
      refine W.region (by kernel_rfl) ?_
      refine WO.pureK 0 (some (I6 (IntKind.wrap .i64 ((k1 : Int) + 1)))) (v := I6 ((k1 + 1 : Nat) : Int)) (by kernel_rfl) (by rw [wrap_succ hl1 hk1]) (e1 := [(1, l3 none a2), (5, l40 (some 10500) v25), (11, I6 (iShl .i64 1 a1)), (12, I6 (k1 : Int)), (50, I6 ((k1 + 1 : Nat) : Int))]) (by kernel_rfl) ?_
      refine WO.fin [1, 5, 11, 12] [] [] [] (e2 := [(1, l3 none a2), (5, l40 (some 10500) v25), (11, I6 (iShl .i64 1 a1)), (12, I6 ((k1 + 1 : Nat) : Int))]) (by kernel_rfl) (fun _ h => h) ?_
      exact hN1 v25 h
    refine W.block ?_
    refine W.seq ?_
    refine W.regT [1, 5, 6, 11, 12] [] [] [] (e2 := [(1, l3 none a2), (5, l40 (some 10500) v8), (6, I6 (k1 : Int)), (11, I6 (iShl .i64 1 a1)), (12, I6 (k1 : Int))]) (by kernel_rfl) (by kernel_rfl) (fun _ h => h) ?_
    refine W.seq ?_
    refine W.region (by kernel_rfl) ?_
    obtain ⟨e12, he12, h⟩ := bind_some h
    refine WO.pureK 2 (if (0 : Int) ≤ (k1 : Int) then ((List.map (AV.int .i64) a2)[Int.toNat (k1 : Int)]?).map AV.ptr else none) (v := .ptr (I6 e12)) (by kernel_rfl) (idx_av (f := (AV.int .i64)) he12) (e1 := [(1, l3 none a2), (5, l40 (some 10500) v8), (6, I6 (k1 : Int)), (11, I6 (iShl .i64 1 a1)), (12, I6 (k1 : Int)), (15, l3 none a2), (16, I6 (k1 : Int)), (17, .ptr (I6 e12))]) (by kernel_rfl) ?_
    refine WO.fin [1, 5, 6, 7, 11, 12] [] [] [] (e2 := [(1, l3 none a2), (5, l40 (some 10500) v8), (6, I6 (k1 : Int)), (7, .bool (e12 != (k1 : Int))), (11, I6 (iShl .i64 1 a1)), (12, I6 (k1 : Int))]) (by kernel_rfl) (fun _ h => h) ?_
    refine W.seq ?_
    refine W.join (σ := (Bool)) (fun s => [(1, l3 none a2), (5, l40 (some 10500) v8), (6, I6 (k1 : Int)), (7, .bool s), (11, I6 (iShl .i64 1 a1)), (12, I6 (k1 : Int))]) (fun s => (rf1_critical_j13 k1 a2 v8 (rf1_critical_j9 (rf1_critical_l1 a2 (rf1_critical_j5) r1 (k1 + 1)))) s = some r) (fun s h => ?_) (fun hK13 => ?_)
    · obtain ⟨v21, rfl⟩ : ∃ x, x = s := ⟨s, rfl⟩
      have h : (rf1_critical_j13 k1 a2 v8 (rf1_critical_j9 (rf1_critical_l1 a2 (rf1_critical_j5) r1 (k1 + 1)))) v21 = some r := h
      unfold rf1_critical_j13 at h
      refine W.seq ?_
      refine W.regT [1, 5, 6, 11, 12, 40] [] [] [] (e2 := [(1, l3 none a2), (5, l40 (some 10500) v8), (6, I6 (k1 : Int)), (11, I6 (iShl .i64 1 a1)), (12, I6 (k1 : Int)), (40, .bool v21)]) (by kernel_rfl) (by kernel_rfl) (fun _ h => h) ?_
      refine W.condB v21 (by kernel_rfl) (fun hb => ?_) (fun hb => ?_)
      · replace h := cond_t hb h
        refine W.region (by kernel_rfl) ?_
        obtain ⟨e23, he23, h⟩ := bind_some h
        refine WO.pureK 4 (if (0 : Int) ≤ (k1 : Int) then ((List.map (AV.int .i64) a2)[Int.toNat (k1 : Int)]?).map AV.ptr else none) (v := .ptr (I6 e23)) (by kernel_rfl) (idx_av (f := (AV.int .i64)) he23) (e1 := [(1, l3 none a2), (5, l40 (some 10500) v8), (6, I6 (k1 : Int)), (11, I6 (iShl .i64 1 a1)), (12, I6 (k1 : Int)), (40, .bool v21), (41, l40 (some 10500) v8), (42, I6 (k1 : Int)), (43, l3 none a2), (44, I6 (k1 : Int)), (45, .ptr (I6 e23))]) (by kernel_rfl) ?_
        obtain ⟨hc24, h⟩ := chk_some h
        refine WO.appendK 3 (d := 49) (e := 40) (s := 2) (bytes := 16) (xs := (List.map e_rf1Dep v8)) (ys := (List.map e_rf1Dep [(rf1Dep.mk (k1 : Int) e23)])) (zs := (List.map e_rf1Dep (v8 ++ [(rf1Dep.mk (k1 : Int) e23)]))) (env1 := [(1, l3 none a2), (5, l40 none v8), (6, I6 (k1 : Int)), (11, I6 (iShl .i64 1 a1)), (12, I6 (k1 : Int)), (40, .bool v21), (41, l40 none v8), (42, I6 (k1 : Int)), (43, l3 none a2), (44, I6 (k1 : Int)), (45, .ptr (I6 e23)), (46, I6 e23), (47, .agg [I6 (k1 : Int), I6 e23]), (48, l40 (some 48) [(rf1Dep.mk (k1 : Int) e23)])]) (by kernel_rfl) (List.map_append.symm) (by rw [List.length_map]; exact hc24) (e1 := [(1, l3 none a2), (5, l40 none v8), (6, I6 (k1 : Int)), (11, I6 (iShl .i64 1 a1)), (12, I6 (k1 : Int)), (40, .bool v21), (41, l40 none v8), (42, I6 (k1 : Int)), (43, l3 none a2), (44, I6 (k1 : Int)), (45, .ptr (I6 e23)), (46, I6 e23), (47, .agg [I6 (k1 : Int), I6 e23]), (48, l40 (some 48) [(rf1Dep.mk (k1 : Int) e23)]), (49, l40 (some 49) (v8 ++ [(rf1Dep.mk (k1 : Int) e23)]))]) (by kernel_rfl) ?_
        refine WO.fin [1, 5, 11, 12] [] [] [(49, some 10500)] (e2 := [(1, l3 none a2), (5, l40 (some 10500) (v8 ++ [(rf1Dep.mk (k1 : Int) e23)])), (11, I6 (iShl .i64 1 a1)), (12, I6 (k1 : Int))]) (by kernel_rfl) (fun _ h => h) ?_
        exact hK9 (v8 ++ [(rf1Dep.mk (k1 : Int) e23)]) h
      replace h := cond_f hb h
      refine W.skip ?_
      refine W.weak [1, 5, 11, 12] [] [] [] (env' := [(1, l3 none a2), (5, l40 (some 10500) v8), (11, I6 (iShl .i64 1 a1)), (12, I6 (k1 : Int))]) (by kernel_rfl) ?_
      exact hK9 v8 h
    refine W.seq ?_
    refine W.region (by kernel_rfl) ?_
    refine WO.pureK 1 (some (I6 ((List.map e_rf1Dep v8).length : Int))) (v := I6 (v8.length : Int)) (by kernel_rfl) (by rw [List.length_map]) (e1 := [(1, l3 none a2), (5, l40 (some 10500) v8), (6, I6 (k1 : Int)), (7, .bool (e12 != (k1 : Int))), (11, I6 (iShl .i64 1 a1)), (12, I6 (k1 : Int)), (21, l40 (some 10500) v8), (22, I6 (v8.length : Int))]) (by kernel_rfl) ?_
    refine WO.fin [1, 5, 6, 7, 11, 12, 21, 22, 23] [] [] [] (e2 := [(1, l3 none a2), (5, l40 (some 10500) v8), (6, I6 (k1 : Int)), (7, .bool (e12 != (k1 : Int))), (11, I6 (iShl .i64 1 a1)), (12, I6 (k1 : Int)), (21, l40 (some 10500) v8), (22, I6 (v8.length : Int)), (23, .int .i64 0)]) (by kernel_rfl) (fun _ h => h) ?_
    refine W.block ?_
    obtain ⟨hl2, h⟩ := chk_some h
    refine W.weak [1, 5, 6, 7, 11, 12, 21, 22, 23] [] [] [] (env' := [(1, l3 none a2), (5, l40 (some 10500) v8), (6, I6 (k1 : Int)), (7, .bool (e12 != (k1 : Int))), (11, I6 (iShl .i64 1 a1)), (12, I6 (k1 : Int)), (21, l40 (some 10500) v8), (22, I6 (v8.length : Int)), (23, I6 ((0 : Nat) : Int))]) (by kernel_rfl) ?_
    refine W.range (σ := (Bool)) v8 (fun k2 s => [(1, l3 none a2), (5, l40 (some 10500) v8), (6, I6 (k1 : Int)), (7, .bool s), (11, I6 (iShl .i64 1 a1)), (12, I6 (k1 : Int)), (21, l40 (some 10500) v8), (22, I6 (v8.length : Int)), (23, I6 (k2 : Int))]) (fun r0 k0 s => rf1_critical_l2 k1 (rf1_critical_j13 k1 a2 v8 (rf1_critical_j9 (rf1_critical_l1 a2 (rf1_critical_j5) r1 (k1 + 1)))) r0 k0 s = some r) (fun s h => ?_) (fun x2 r2 k2 s hx2 hk2 h hN2 => ?_) (e12 != (k1 : Int)) h
    · obtain ⟨v15, rfl⟩ : ∃ x, x = s := ⟨s, rfl⟩
      have h : rf1_critical_l2 k1 (rf1_critical_j13 k1 a2 v8 (rf1_critical_j9 (rf1_critical_l1 a2 (rf1_critical_j5) r1 (k1 + 1)))) [] (v8).length v15 = some r := h
      rw [rf1_critical_l2.eq_1] at h
      refine W.seq ?_
      refine W.region (by kernel_rfl) ?_
      refine WO.pureK 0 (some (.bool (decide (((v8).length : Int) < (v8.length : Int))))) (v := .bool false) (by kernel_rfl) (by rw [lt_false (l := v8)]) (e1 := [(1, l3 none a2), (5, l40 (some 10500) v8), (6, I6 (k1 : Int)), (7, .bool v15), (11, I6 (iShl .i64 1 a1)), (12, I6 (k1 : Int)), (21, l40 (some 10500) v8), (22, I6 (v8.length : Int)), (23, I6 ((v8).length : Int)), (24, .bool false)]) (by kernel_rfl) ?_
      refine WO.fin ([1, 5, 6, 7, 11, 12, 21, 22, 23, 24]) [] [] [] (e2 := [(1, l3 none a2), (5, l40 (some 10500) v8), (6, I6 (k1 : Int)), (7, .bool v15), (11, I6 (iShl .i64 1 a1)), (12, I6 (k1 : Int)), (21, l40 (some 10500) v8), (22, I6 (v8.length : Int)), (23, I6 ((v8).length : Int)), (24, .bool false)]) (by kernel_rfl) (fun _ h => h) ?_
      refine W.seq ?_
      refine W.condB false (by kernel_rfl) (fun h => Bool.noConfusion h) (fun _ => ?_)
      refine W.exit ?_
      refine W.weak [1, 5, 6, 7, 11, 12] [] [] [] (env' := [(1, l3 none a2), (5, l40 (some 10500) v8), (6, I6 (k1 : Int)), (7, .bool v15), (11, I6 (iShl .i64 1 a1)), (12, I6 (k1 : Int))]) (by kernel_rfl) ?_
      exact hK13 v15 h
    · obtain ⟨v15, rfl⟩ : ∃ x, x = s := ⟨s, rfl⟩
      have h : rf1_critical_l2 k1 (rf1_critical_j13 k1 a2 v8 (rf1_critical_j9 (rf1_critical_l1 a2 (rf1_critical_j5) r1 (k1 + 1)))) (x2 :: r2) k2 v15 = some r := h
      rw [rf1_critical_l2.eq_2] at h
      refine W.seq ?_
      refine W.region (by kernel_rfl) ?_
      refine WO.pureK 0 (some (.bool (decide ((k2 : Int) < (v8.length : Int))))) (v := .bool true) (by kernel_rfl) (by rw [lt_true hk2]) (e1 := [(1, l3 none a2), (5, l40 (some 10500) v8), (6, I6 (k1 : Int)), (7, .bool v15), (11, I6 (iShl .i64 1 a1)), (12, I6 (k1 : Int)), (21, l40 (some 10500) v8), (22, I6 (v8.length : Int)), (23, I6 (k2 : Int)), (24, .bool true)]) (by kernel_rfl) ?_
      refine WO.fin ([1, 5, 6, 7, 11, 12, 21, 22, 23, 24]) [] [] [] (e2 := [(1, l3 none a2), (5, l40 (some 10500) v8), (6, I6 (k1 : Int)), (7, .bool v15), (11, I6 (iShl .i64 1 a1)), (12, I6 (k1 : Int)), (21, l40 (some 10500) v8), (22, I6 (v8.length : Int)), (23, I6 (k2 : Int)), (24, .bool true)]) (by kernel_rfl) (fun _ h => h) ?_
      refine W.seq ?_
      refine W.condB true (by kernel_rfl) (fun _ => ?_) (fun h => Bool.noConfusion h)
      refine W.skip ?_
      refine W.weak [1, 5, 6, 7, 11, 12, 21, 22, 23] [] [] [] (env' := [(1, l3 none a2), (5, l40 (some 10500) v8), (6, I6 (k1 : Int)), (7, .bool v15), (11, I6 (iShl .i64 1 a1)), (12, I6 (k1 : Int)), (21, l40 (some 10500) v8), (22, I6 (v8.length : Int)), (23, I6 (k2 : Int))]) (by kernel_rfl) ?_
      refine W.seq ?_
      refine W.join (σ := (Bool)) (fun s => [(1, l3 none a2), (5, l40 (some 10500) v8), (6, I6 (k1 : Int)), (7, .bool s), (11, I6 (iShl .i64 1 a1)), (12, I6 (k1 : Int)), (21, l40 (some 10500) v8), (22, I6 (v8.length : Int)), (23, I6 (k2 : Int))]) (fun s => (rf1_critical_j16 (rf1_critical_l2 k1 (rf1_critical_j13 k1 a2 v8 (rf1_critical_j9 (rf1_critical_l1 a2 (rf1_critical_j5) r1 (k1 + 1)))) r2 (k2 + 1))) s = some r) (fun s h => ?_) (fun hK16 => ?_)
      · obtain ⟨v20, rfl⟩ : ∃ x, x = s := ⟨s, rfl⟩
        have h : (rf1_critical_j16 (rf1_critical_l2 k1 (rf1_critical_j13 k1 a2 v8 (rf1_critical_j9 (rf1_critical_l1 a2 (rf1_critical_j5) r1 (k1 + 1)))) r2 (k2 + 1))) v20 = some r := h
        unfold rf1_critical_j16 at h
        refine W.region (by kernel_rfl) ?_
        refine WO.pureK 0 (some (I6 (IntKind.wrap .i64 ((k2 : Int) + 1)))) (v := I6 ((k2 + 1 : Nat) : Int)) (by kernel_rfl) (by rw [wrap_succ hl2 hk2]) (e1 := [(1, l3 none a2), (5, l40 (some 10500) v8), (6, I6 (k1 : Int)), (7, .bool v20), (11, I6 (iShl .i64 1 a1)), (12, I6 (k1 : Int)), (21, l40 (some 10500) v8), (22, I6 (v8.length : Int)), (23, I6 (k2 : Int)), (39, I6 ((k2 + 1 : Nat) : Int))]) (by kernel_rfl) ?_
        refine WO.fin [1, 5, 6, 7, 11, 12, 21, 22, 23] [] [] [] (e2 := [(1, l3 none a2), (5, l40 (some 10500) v8), (6, I6 (k1 : Int)), (7, .bool v20), (11, I6 (iShl .i64 1 a1)), (12, I6 (k1 : Int)), (21, l40 (some 10500) v8), (22, I6 (v8.length : Int)), (23, I6 ((k2 + 1 : Nat) : Int))]) (by kernel_rfl) (fun _ h => h) ?_
        exact hN2 v20 h
      refine W.block ?_
      refine W.seq ?_
      refine W.region (by kernel_rfl) ?_
      refine WO.pureK 0 (if (0 : Int) ≤ (k2 : Int) then ((List.map e_rf1Dep v8)[Int.toNat (k2 : Int)]?).map AV.ptr else none) (v := .ptr (.agg [I6 x2.f_From, I6 x2.f_To])) (by kernel_rfl) (idx_nat (f := e_rf1Dep) hx2) (e1 := [(1, l3 none a2), (5, l40 (some 10500) v8), (6, I6 (k1 : Int)), (7, .bool v15), (11, I6 (iShl .i64 1 a1)), (12, I6 (k1 : Int)), (21, l40 (some 10500) v8), (22, I6 (v8.length : Int)), (23, I6 (k2 : Int)), (25, .ptr (.agg [I6 x2.f_From, I6 x2.f_To]))]) (by kernel_rfl) ?_
      refine WO.fin [1, 5, 6, 7, 9, 11, 12, 21, 22, 23] [9] [] [] (e2 := [(1, l3 none a2), (5, l40 (some 10500) v8), (6, I6 (k1 : Int)), (7, .bool v15), (9, .ptr (.agg [I6 x2.f_From, I6 x2.f_To])), (11, I6 (iShl .i64 1 a1)), (12, I6 (k1 : Int)), (21, l40 (some 10500) v8), (22, I6 (v8.length : Int)), (23, I6 (k2 : Int))]) (by kernel_rfl) (fun _ h => h) ?_
      refine W.seq ?_
      refine W.join (σ := (Bool)) (fun s => [(1, l3 none a2), (5, l40 (some 10500) v8), (6, I6 (k1 : Int)), (7, .bool v15), (11, I6 (iShl .i64 1 a1)), (12, I6 (k1 : Int)), (21, l40 (some 10500) v8), (22, I6 (v8.length : Int)), (23, I6 (k2 : Int)), (38, .bool s)]) (fun s => (rf1_critical_j18 v15 (rf1_critical_j16 (rf1_critical_l2 k1 (rf1_critical_j13 k1 a2 v8 (rf1_critical_j9 (rf1_critical_l1 a2 (rf1_critical_j5) r1 (k1 + 1)))) r2 (k2 + 1)))) s = some r) (fun s h => ?_) (fun hK18 => ?_)
      · obtain ⟨v19, rfl⟩ : ∃ x, x = s := ⟨s, rfl⟩
        have h : (rf1_critical_j18 v15 (rf1_critical_j16 (rf1_critical_l2 k1 (rf1_critical_j13 k1 a2 v8 (rf1_critical_j9 (rf1_critical_l1 a2 (rf1_critical_j5) r1 (k1 + 1)))) r2 (k2 + 1)))) v19 = some r := h
        unfold rf1_critical_j18 at h
        refine W.condB v19 (by kernel_rfl) (fun hb => ?_) (fun hb => ?_)
        · replace h := cond_t hb h
          refine W.regT [1, 5, 6, 7, 11, 12, 21, 22, 23] [] [] [] (e2 := [(1, l3 none a2), (5, l40 (some 10500) v8), (6, I6 (k1 : Int)), (7, .bool false), (11, I6 (iShl .i64 1 a1)), (12, I6 (k1 : Int)), (21, l40 (some 10500) v8), (22, I6 (v8.length : Int)), (23, I6 (k2 : Int))]) (by kernel_rfl) (by kernel_rfl) (fun _ h => h) ?_
          exact hK16 false h
        replace h := cond_f hb h
        refine W.skip ?_
        refine W.weak [1, 5, 6, 7, 11, 12, 21, 22, 23] [] [] [] (env' := [(1, l3 none a2), (5, l40 (some 10500) v8), (6, I6 (k1 : Int)), (7, .bool v15), (11, I6 (iShl .i64 1 a1)), (12, I6 (k1 : Int)), (21, l40 (some 10500) v8), (22, I6 (v8.length : Int)), (23, I6 (k2 : Int))]) (by kernel_rfl) ?_
        exact hK16 v15 h
      refine W.region (by kernel_rfl) ?_
      refine WO.boolK 6 (fun b => [(1, l3 none a2), (5, l40 (some 10500) v8), (6, I6 (k1 : Int)), (7, .bool v15), (9, .ptr (.agg [I6 x2.f_From, I6 x2.f_To])), (11, I6 (iShl .i64 1 a1)), (12, I6 (k1 : Int)), (21, l40 (some 10500) v8), (22, I6 (v8.length : Int)), (23, I6 (k2 : Int)), (27, .ptr (I6 x2.f_From)), (28, I6 x2.f_From), (29, I6 (k1 : Int)), (30, I6 (iAndNot .i64 x2.f_From (k1 : Int))), (31, .bool b), (32, .bool b)]) ((iAndNot .i64 x2.f_From (k1 : Int)) == 0) (by kernel_rfl) (fun hb => ?_) (fun hb => ?_)
      · replace h := cond_t hb h
        refine WO.fin [1, 5, 6, 7, 11, 12, 21, 22, 23, 38] [] [] [] (e2 := [(1, l3 none a2), (5, l40 (some 10500) v8), (6, I6 (k1 : Int)), (7, .bool v15), (11, I6 (iShl .i64 1 a1)), (12, I6 (k1 : Int)), (21, l40 (some 10500) v8), (22, I6 (v8.length : Int)), (23, I6 (k2 : Int)), (38, .bool ((iAndNot .i64 x2.f_To (k1 : Int)) != 0))]) (by kernel_rfl) (fun _ h => h) ?_
        exact hK18 ((iAndNot .i64 x2.f_To (k1 : Int)) != 0) h
      replace h := cond_f hb h
      refine WO.fin [1, 5, 6, 7, 11, 12, 21, 22, 23, 38] [] [] [] (e2 := [(1, l3 none a2), (5, l40 (some 10500) v8), (6, I6 (k1 : Int)), (7, .bool v15), (11, I6 (iShl .i64 1 a1)), (12, I6 (k1 : Int)), (21, l40 (some 10500) v8), (22, I6 (v8.length : Int)), (23, I6 (k2 : Int)), (38, .bool false)]) (by kernel_rfl) (fun _ h => h) ?_
      exact hK18 false h
def rf1_Critical_j5 (a1 : Int) (v13 : (List Int)) : Option (List rf1Dep) :=
  ((rf1_critical a1 v13).bind fun w15 => (some w15))
def rf1_Critical_l1 (a2 : (List rf1Dep)) (K5 : ((List Int) → Option (List rf1Dep))) : List Nat → Nat → (List Int) → Option (List rf1Dep)
  | [], k1, v8 => (K5 v8)
  | x1 :: r1, k1, v8 => ((rf1_Closure a2 (k1 : Int)).bind fun w11 => (chk (capOk 8 ((v8 ++ [w11])).length) ((rf1_Critical_l1 a2 K5 r1 (k1 + 1)) (v8 ++ [w11]))))
def rf1_Critical (a1 : Int) (a2 : (List rf1Dep)) : Option (List rf1Dep) :=
  (chk (decide (0 ≤ a1)) (chk (lenOk (List.range (Int.toNat (iShl .i64 1 a1)))) (rf1_Critical_l1 a2 (rf1_Critical_j5 a1) (List.range (Int.toNat (iShl .i64 1 a1))) 0 ([] : (List Int)))))
theorem run_rf1_Critical (a1 : Int) (a2 : (List rf1Dep)) (r : (List rf1Dep)) (h : rf1_Critical a1 a2 = some r) : Run Try.prog (.call 53 [I6 a1, l40 none a2] (l40 (some 1) r)) := by
  refine call_of_W Try.func53 rfl (by kernel_rfl) (env0 := [(0, I6 a1), (1, l40 none a2)]) (by kernel_rfl) ?_
  unfold rf1_Critical at h
  refine W.seq ?_
  refine W.regT [0, 1] [] [] [] (e2 := [(0, I6 a1), (1, l40 none a2)]) (by kernel_rfl) (by kernel_rfl) (fun _ h => h) ?_
  refine W.seq ?_
  refine W.regT [0, 1, 5] [] [] [] (e2 := [(0, I6 a1), (1, l40 none a2), (5, .nils)]) (by kernel_rfl) (by kernel_rfl) (fun _ h => h) ?_
  refine W.seq ?_
  refine W.join (σ := ((List Int))) (fun s => [(0, I6 a1), (5, l3 (some 10500) s)]) (fun s => (rf1_Critical_j5 a1) s = some r) (fun s h => ?_) (fun hK5 => ?_)
  · obtain ⟨v13, rfl⟩ : ∃ x, x = s := ⟨s, rfl⟩
    have h : (rf1_Critical_j5 a1) v13 = some r := h
    unfold rf1_Critical_j5 at h
    refine W.seq ?_
    refine W.region (by kernel_rfl) ?_
    obtain ⟨w15, hw15, h⟩ := bind_some h
    refine WO.callK 2 (F := 71) (l := [I6 a1, l3 none v13]) (C := []) (r := l40 (some 1) w15) (by kernel_rfl) (by kernel_rfl) (run_rf1_critical a1 v13 w15 hw15) (e1 := [(0, I6 a1), (5, l3 (some 10500) v13), (19, I6 a1), (20, l3 (some 10500) v13), (21, l40 (some 21) w15)]) (by kernel_rfl) ?_
    refine WO.fin [4] [] [] [] (e2 := [(4, l40 (some 21) w15)]) (by kernel_rfl) (fun _ h => h) ?_
    refine W.weak [4] [] [] [(21, some 1)] (env' := [(4, l40 (some 1) w15)]) (by kernel_rfl) ?_
    have hr : aresults Try.prog Try.f53 [(4, l40 (some 1) w15)] = some (l40 (some 1) w15) := by kernel_rfl
    cases h
    exact W.ret hr
  refine W.seq ?_
  refine W.region (by kernel_rfl) ?_
  obtain ⟨hc7, h⟩ := chk_some h
  refine WO.pureK 1 (if a1 < 0 then none else some (I6 (iShl .i64 1 a1))) (v := I6 (iShl .i64 1 a1)) (by kernel_rfl) (if_neg (not_lt_of_chk hc7)) (e1 := [(0, I6 a1), (1, l40 none a2), (5, .nils), (7, I6 a1), (8, I6 (iShl .i64 1 a1))]) (by kernel_rfl) ?_
  refine WO.fin [0, 1, 5, 8, 9] [] [] [] (e2 := [(0, I6 a1), (1, l40 none a2), (5, .nils), (8, I6 (iShl .i64 1 a1)), (9, .int .i64 0)]) (by kernel_rfl) (fun _ h => h) ?_
  refine W.block ?_
  obtain ⟨hl1, h⟩ := chk_some h
  refine W.weak [0, 1, 5, 8, 9] [] [(5, 0, 3, 1, 10500)] [] (env' := [(0, I6 a1), (1, l40 none a2), (5, l3 (some 10500) ([] : (List Int))), (8, I6 (iShl .i64 1 a1)), (9, I6 ((0 : Nat) : Int))]) (by kernel_rfl) ?_
  refine W.range (σ := ((List Int))) (List.range (Int.toNat (iShl .i64 1 a1))) (fun k1 s => [(0, I6 a1), (1, l40 none a2), (5, l3 (some 10500) s), (8, I6 (iShl .i64 1 a1)), (9, I6 (k1 : Int))]) (fun r0 k0 s => rf1_Critical_l1 a2 (rf1_Critical_j5 a1) r0 k0 s = some r) (fun s h => ?_) (fun x1 r1 k1 s hx1 hk1 h hN1 => ?_) ([] : (List Int)) h
  · obtain ⟨v8, rfl⟩ : ∃ x, x = s := ⟨s, rfl⟩
    have h : rf1_Critical_l1 a2 (rf1_Critical_j5 a1) [] ((List.range (Int.toNat (iShl .i64 1 a1)))).length v8 = some r := h
    rw [rf1_Critical_l1.eq_1] at h
    refine W.seq ?_
    refine W.region (by kernel_rfl) ?_
    refine WO.pureK 0 (some (.bool (decide ((((List.range (Int.toNat (iShl .i64 1 a1)))).length : Int) < (iShl .i64 1 a1))))) (v := .bool false) (by kernel_rfl) (by rw [ltr_false (n := (iShl .i64 1 a1))]) (e1 := [(0, I6 a1), (1, l40 none a2), (5, l3 (some 10500) v8), (8, I6 (iShl .i64 1 a1)), (9, I6 (((List.range (Int.toNat (iShl .i64 1 a1)))).length : Int)), (10, .bool false)]) (by kernel_rfl) ?_
    refine WO.fin ([0, 1, 5, 8, 9, 10]) [] [] [] (e2 := [(0, I6 a1), (1, l40 none a2), (5, l3 (some 10500) v8), (8, I6 (iShl .i64 1 a1)), (9, I6 (((List.range (Int.toNat (iShl .i64 1 a1)))).length : Int)), (10, .bool false)]) (by kernel_rfl) (fun _ h => h) ?_
    refine W.seq ?_
    refine W.condB false (by kernel_rfl) (fun h => Bool.noConfusion h) (fun _ => ?_)
    refine W.exit ?_
    refine W.weak [0, 5] [] [] [] (env' := [(0, I6 a1), (5, l3 (some 10500) v8)]) (by kernel_rfl) ?_
    exact hK5 v8 h
  · obtain ⟨v8, rfl⟩ : ∃ x, x = s := ⟨s, rfl⟩
    have h : rf1_Critical_l1 a2 (rf1_Critical_j5 a1) (x1 :: r1) k1 v8 = some r := h
    rw [rf1_Critical_l1.eq_2] at h
    refine W.seq ?_
    refine W.region (by kernel_rfl) ?_
    refine WO.pureK 0 (some (.bool (decide ((k1 : Int) < (iShl .i64 1 a1))))) (v := .bool true) (by kernel_rfl) (by rw [ltr_true hk1]) (e1 := [(0, I6 a1), (1, l40 none a2), (5, l3 (some 10500) v8), (8, I6 (iShl .i64 1 a1)), (9, I6 (k1 : Int)), (10, .bool true)]) (by kernel_rfl) ?_
    refine WO.fin ([0, 1, 5, 8, 9, 10]) [] [] [] (e2 := [(0, I6 a1), (1, l40 none a2), (5, l3 (some 10500) v8), (8, I6 (iShl .i64 1 a1)), (9, I6 (k1 : Int)), (10, .bool true)]) (by kernel_rfl) (fun _ h => h) ?_
    refine W.seq ?_
    refine W.condB true (by kernel_rfl) (fun _ => ?_) (fun h => Bool.noConfusion h)
    refine W.skip ?_
    refine W.weak [0, 1, 5, 8, 9] [] [] [] (env' := [(0, I6 a1), (1, l40 none a2), (5, l3 (some 10500) v8), (8, I6 (iShl .i64 1 a1)), (9, I6 (k1 : Int))]) (by kernel_rfl) ?_
    refine W.seq ?_
    refine W.block ?_
    refine W.seq ?_
    refine W.regT [0, 1, 5, 6, 8, 9] [] [] [] (e2 := [(0, I6 a1), (1, l40 none a2), (5, l3 (some 10500) v8), (6, I6 (k1 : Int)), (8, I6 (iShl .i64 1 a1)), (9, I6 (k1 : Int))]) (by kernel_rfl) (by kernel_rfl) (fun _ h => h) ?_
    refine W.region (by kernel_rfl) ?_
    obtain ⟨w11, hw11, h⟩ := bind_some h
    refine WO.callK 3 (F := 38) (l := [l40 none a2, I6 (k1 : Int)]) (C := []) (r := I6 w11) (by kernel_rfl) (by kernel_rfl) (run_rf1_Closure a2 (k1 : Int) w11 hw11) (e1 := [(0, I6 a1), (1, l40 none a2), (5, l3 (some 10500) v8), (6, I6 (k1 : Int)), (8, I6 (iShl .i64 1 a1)), (9, I6 (k1 : Int)), (12, l3 (some 10500) v8), (13, l40 none a2), (14, I6 (k1 : Int)), (15, I6 w11)]) (by kernel_rfl) ?_
    obtain ⟨hc12, h⟩ := chk_some h
    refine WO.appendK 1 (d := 17) (e := 3) (s := 1) (bytes := 8) (xs := (List.map (AV.int .i64) v8)) (ys := (List.map (AV.int .i64) [w11])) (zs := (List.map (AV.int .i64) (v8 ++ [w11]))) (env1 := [(0, I6 a1), (1, l40 none a2), (5, l3 none v8), (6, I6 (k1 : Int)), (8, I6 (iShl .i64 1 a1)), (9, I6 (k1 : Int)), (12, l3 none v8), (13, l40 none a2), (14, I6 (k1 : Int)), (15, I6 w11), (16, l3 (some 16) [w11])]) (by kernel_rfl) (List.map_append.symm) (by rw [List.length_map]; exact hc12) (e1 := [(0, I6 a1), (1, l40 none a2), (5, l3 none v8), (6, I6 (k1 : Int)), (8, I6 (iShl .i64 1 a1)), (9, I6 (k1 : Int)), (12, l3 none v8), (13, l40 none a2), (14, I6 (k1 : Int)), (15, I6 w11), (16, l3 (some 16) [w11]), (17, l3 (some 17) (v8 ++ [w11]))]) (by kernel_rfl) ?_
    refine WO.fin [0, 1, 5, 8, 9] [] [] [] (e2 := [(0, I6 a1), (1, l40 none a2), (5, l3 (some 17) (v8 ++ [w11])), (8, I6 (iShl .i64 1 a1)), (9, I6 (k1 : Int))]) (by kernel_rfl) (fun _ h => h) ?_
    refine W.region (by kernel_rfl) ?_
    refine WO.pureK 0 (some (I6 (IntKind.wrap .i64 ((k1 : Int) + 1)))) (v := I6 ((k1 + 1 : Nat) : Int)) (by kernel_rfl) (by rw [wrap_succ hl1 hk1]) (e1 := [(0, I6 a1), (1, l40 none a2), (5, l3 (some 17) (v8 ++ [w11])), (8, I6 (iShl .i64 1 a1)), (9, I6 (k1 : Int)), (18, I6 ((k1 + 1 : Nat) : Int))]) (by kernel_rfl) ?_
    refine WO.fin [0, 1, 5, 8, 9] [] [] [(17, some 10500)] (e2 := [(0, I6 a1), (1, l40 none a2), (5, l3 (some 10500) (v8 ++ [w11])), (8, I6 (iShl .i64 1 a1)), (9, I6 ((k1 + 1 : Nat) : Int))]) (by kernel_rfl) (fun _ h => h) ?_
    exact hN1 (v8 ++ [w11]) h
def sl_Equal_rf1Dep_j7 : Option Bool :=
  (some true)
def sl_Equal_rf1Dep_l1 (a2 : (List rf1Dep)) (K7 : (Option Bool)) : List rf1Dep → Nat → Option Bool
  | [], k1 => K7
  | x1 :: r1, k1 => ((idx a2 (k1 : Int)).bind fun e12 => (bif (!((x1.f_From == e12.f_From) && ((x1.f_To == e12.f_To) && true))) then (some false) else (sl_Equal_rf1Dep_l1 a2 K7 r1 (k1 + 1))))
def sl_Equal_rf1Dep (a1 : (List rf1Dep)) (a2 : (List rf1Dep)) : Option Bool :=
  (bif ((a1.length : Int) != (a2.length : Int)) then (some false) else (chk (lenOk a1) (sl_Equal_rf1Dep_l1 a2 (sl_Equal_rf1Dep_j7) a1 0)))
theorem run_sl_Equal_rf1Dep (a1 : (List rf1Dep)) (a2 : (List rf1Dep)) (r : Bool) (h : sl_Equal_rf1Dep a1 a2 = some r) : Run Try.prog (.call 51 [l40 none a1, l40 none a2] (.bool r)) := by
  refine call_of_W Try.func51 rfl (by kernel_rfl) (env0 := [(0, l40 none a1), (1, l40 none a2)]) (by kernel_rfl) ?_
  unfold sl_Equal_rf1Dep at h
  refine W.seq ?_
  refine W.regT [0, 1] [] [] [] (e2 := [(0, l40 none a1), (1, l40 none a2)]) (by kernel_rfl) (by kernel_rfl) (fun _ h => h) ?_
  refine W.seq ?_
  refine W.seq ?_
  refine W.region (by kernel_rfl) ?_
  refine WO.pureK 1 (some (I6 ((List.map e_rf1Dep a1).length : Int))) (v := I6 (a1.length : Int)) (by kernel_rfl) (by rw [List.length_map]) (e1 := [(0, l40 none a1), (1, l40 none a2), (6, l40 none a1), (7, I6 (a1.length : Int))]) (by kernel_rfl) ?_
  refine WO.pureK 1 (some (I6 ((List.map e_rf1Dep a2).length : Int))) (v := I6 (a2.length : Int)) (by kernel_rfl) (by rw [List.length_map]) (e1 := [(0, l40 none a1), (1, l40 none a2), (6, l40 none a1), (7, I6 (a1.length : Int)), (8, l40 none a2), (9, I6 (a2.length : Int))]) (by kernel_rfl) ?_
  refine WO.fin [0, 1, 10] [] [] [] (e2 := [(0, l40 none a1), (1, l40 none a2), (10, .bool ((a1.length : Int) != (a2.length : Int)))]) (by kernel_rfl) (fun _ h => h) ?_
  refine W.condB ((a1.length : Int) != (a2.length : Int)) (by kernel_rfl) (fun hb => ?_) (fun hb => ?_)
  · replace h := cond_t hb h
    refine W.seq ?_
    refine W.regT [4] [] [] [] (e2 := [(4, .bool false)]) (by kernel_rfl) (by kernel_rfl) (fun _ h => h) ?_
    refine W.weak [4] [] [] [] (env' := [(4, .bool false)]) (by kernel_rfl) ?_
    have hr : aresults Try.prog Try.f51 [(4, .bool false)] = some (.bool false) := by kernel_rfl
    cases h
    exact W.ret hr
  replace h := cond_f hb h
  refine W.skip ?_
  refine W.weak [0, 1] [] [] [] (env' := [(0, l40 none a1), (1, l40 none a2)]) (by kernel_rfl) ?_
  refine W.seq ?_
  refine W.join (σ := Unit) (fun s => []) (fun s => (sl_Equal_rf1Dep_j7) = some r) (fun s h => ?_) (fun hK7 => ?_)
  · have h : (sl_Equal_rf1Dep_j7) = some r := h
    unfold sl_Equal_rf1Dep_j7 at h
    refine W.seq ?_
    refine W.regT [4] [] [] [] (e2 := [(4, .bool true)]) (by kernel_rfl) (by kernel_rfl) (fun _ h => h) ?_
    refine W.weak [4] [] [] [] (env' := [(4, .bool true)]) (by kernel_rfl) ?_
    have hr : aresults Try.prog Try.f51 [(4, .bool true)] = some (.bool true) := by kernel_rfl
    cases h
    exact W.ret hr
  refine W.seq ?_
  refine W.region (by kernel_rfl) ?_
  refine WO.pureK 1 (some (I6 ((List.map e_rf1Dep a1).length : Int))) (v := I6 (a1.length : Int)) (by kernel_rfl) (by rw [List.length_map]) (e1 := [(0, l40 none a1), (1, l40 none a2), (11, l40 none a1), (12, I6 (a1.length : Int))]) (by kernel_rfl) ?_
  refine WO.fin [0, 1, 12, 13] [] [] [] (e2 := [(0, l40 none a1), (1, l40 none a2), (12, I6 (a1.length : Int)), (13, .int .i64 0)]) (by kernel_rfl) (fun _ h => h) ?_
  refine W.block ?_
  obtain ⟨hl1, h⟩ := chk_some h
  refine W.weak [0, 1, 12, 13] [] [] [] (env' := [(0, l40 none a1), (1, l40 none a2), (12, I6 (a1.length : Int)), (13, I6 ((0 : Nat) : Int))]) (by kernel_rfl) ?_
  refine W.range (σ := Unit) a1 (fun k1 s => [(0, l40 none a1), (1, l40 none a2), (12, I6 (a1.length : Int)), (13, I6 (k1 : Int))]) (fun r0 k0 s => sl_Equal_rf1Dep_l1 a2 (sl_Equal_rf1Dep_j7) r0 k0 = some r) (fun s h => ?_) (fun x1 r1 k1 s hx1 hk1 h hN1 => ?_) () h
  · have h : sl_Equal_rf1Dep_l1 a2 (sl_Equal_rf1Dep_j7) [] (a1).length = some r := h
    rw [sl_Equal_rf1Dep_l1.eq_1] at h
    refine W.seq ?_
    refine W.region (by kernel_rfl) ?_
    refine WO.pureK 0 (some (.bool (decide (((a1).length : Int) < (a1.length : Int))))) (v := .bool false) (by kernel_rfl) (by rw [lt_false (l := a1)]) (e1 := [(0, l40 none a1), (1, l40 none a2), (12, I6 (a1.length : Int)), (13, I6 ((a1).length : Int)), (14, .bool false)]) (by kernel_rfl) ?_
    refine WO.fin ([0, 1, 12, 13, 14]) [] [] [] (e2 := [(0, l40 none a1), (1, l40 none a2), (12, I6 (a1.length : Int)), (13, I6 ((a1).length : Int)), (14, .bool false)]) (by kernel_rfl) (fun _ h => h) ?_
    refine W.seq ?_
    refine W.condB false (by kernel_rfl) (fun h => Bool.noConfusion h) (fun _ => ?_)
    refine W.exit ?_
    refine W.weak [] [] [] [] (env' := []) (by kernel_rfl) ?_
    exact hK7 () h
  · have h : sl_Equal_rf1Dep_l1 a2 (sl_Equal_rf1Dep_j7) (x1 :: r1) k1 = some r := h
    rw [sl_Equal_rf1Dep_l1.eq_2] at h
    refine W.seq ?_
    refine W.region (by kernel_rfl) ?_
    refine WO.pureK 0 (some (.bool (decide ((k1 : Int) < (a1.length : Int))))) (v := .bool true) (by kernel_rfl) (by rw [lt_true hk1]) (e1 := [(0, l40 none a1), (1, l40 none a2), (12, I6 (a1.length : Int)), (13, I6 (k1 : Int)), (14, .bool true)]) (by kernel_rfl) ?_
    refine WO.fin ([0, 1, 12, 13, 14]) [] [] [] (e2 := [(0, l40 none a1), (1, l40 none a2), (12, I6 (a1.length : Int)), (13, I6 (k1 : Int)), (14, .bool true)]) (by kernel_rfl) (fun _ h => h) ?_
    refine W.seq ?_
    refine W.condB true (by kernel_rfl) (fun _ => ?_) (fun h => Bool.noConfusion h)
    refine W.skip ?_
    refine W.weak [0, 1, 12, 13] [] [] [] (env' := [(0, l40 none a1), (1, l40 none a2), (12, I6 (a1.length : Int)), (13, I6 (k1 : Int))]) (by kernel_rfl) ?_
    refine W.seq ?_
    refine W.block ?_
    refine W.seq ?_
    refine W.regT [0, 1, 5, 12, 13] [] [] [] (e2 := [(0, l40 none a1), (1, l40 none a2), (5, I6 (k1 : Int)), (12, I6 (a1.length : Int)), (13, I6 (k1 : Int))]) (by kernel_rfl) (by kernel_rfl) (fun _ h => h) ?_
    refine W.seq ?_
    refine W.region (by kernel_rfl) ?_
    refine WO.pureK 2 (if (0 : Int) ≤ (k1 : Int) then ((List.map e_rf1Dep a1)[Int.toNat (k1 : Int)]?).map AV.ptr else none) (v := .ptr (.agg [I6 x1.f_From, I6 x1.f_To])) (by kernel_rfl) (idx_nat (f := e_rf1Dep) hx1) (e1 := [(0, l40 none a1), (1, l40 none a2), (5, I6 (k1 : Int)), (12, I6 (a1.length : Int)), (13, I6 (k1 : Int)), (16, l40 none a1), (17, I6 (k1 : Int)), (18, .ptr (.agg [I6 x1.f_From, I6 x1.f_To]))]) (by kernel_rfl) ?_
    obtain ⟨e12, he12, h⟩ := bind_some h
    refine WO.pureK 3 (if (0 : Int) ≤ (k1 : Int) then ((List.map e_rf1Dep a2)[Int.toNat (k1 : Int)]?).map AV.ptr else none) (v := .ptr (.agg [I6 e12.f_From, I6 e12.f_To])) (by kernel_rfl) (idx_av (f := e_rf1Dep) he12) (e1 := [(0, l40 none a1), (1, l40 none a2), (5, I6 (k1 : Int)), (12, I6 (a1.length : Int)), (13, I6 (k1 : Int)), (16, l40 none a1), (17, I6 (k1 : Int)), (18, .ptr (.agg [I6 x1.f_From, I6 x1.f_To])), (19, .agg [I6 x1.f_From, I6 x1.f_To]), (20, l40 none a2), (21, I6 (k1 : Int)), (22, .ptr (.agg [I6 e12.f_From, I6 e12.f_To]))]) (by kernel_rfl) ?_
    refine WO.fin [0, 1, 12, 13, 24] [] [] [] (e2 := [(0, l40 none a1), (1, l40 none a2), (12, I6 (a1.length : Int)), (13, I6 (k1 : Int)), (24, .bool (!((x1.f_From == e12.f_From) && ((x1.f_To == e12.f_To) && true))))]) (by kernel_rfl) (fun _ h => h) ?_
    refine W.condB (!((x1.f_From == e12.f_From) && ((x1.f_To == e12.f_To) && true))) (by kernel_rfl) (fun hb => ?_) (fun hb => ?_)
    · replace h := cond_t hb h
      refine W.seq ?_
      refine W.regT [4] [] [] [] (e2 := [(4, .bool false)]) (by kernel_rfl) (by kernel_rfl) (fun _ h => h) ?_
      refine W.weak [4] [] [] [] (env' := [(4, .bool false)]) (by kernel_rfl) ?_
      have hr : aresults Try.prog Try.f51 [(4, .bool false)] = some (.bool false) := by kernel_rfl
      cases h
      exact W.ret hr
    replace h := cond_f hb h
    refine W.skip ?_
    refine W.weak [0, 1, 12, 13] [] [] [] (env' := [(0, l40 none a1), (1, l40 none a2), (12, I6 (a1.length : Int)), (13, I6 (k1 : Int))]) (by kernel_rfl) ?_
    refine W.region (by kernel_rfl) ?_
    refine WO.pureK 0 (some (I6 (IntKind.wrap .i64 ((k1 : Int) + 1)))) (v := I6 ((k1 + 1 : Nat) : Int)) (by kernel_rfl) (by rw [wrap_succ hl1 hk1]) (e1 := [(0, l40 none a1), (1, l40 none a2), (12, I6 (a1.length : Int)), (13, I6 (k1 : Int)), (25, I6 ((k1 + 1 : Nat) : Int))]) (by kernel_rfl) ?_
    refine WO.fin [0, 1, 12, 13] [] [] [] (e2 := [(0, l40 none a1), (1, l40 none a2), (12, I6 (a1.length : Int)), (13, I6 ((k1 + 1 : Nat) : Int))]) (by kernel_rfl) (fun _ h => h) ?_
    exact hN1 () h
def lw1_DependKeys_j13 (v15 : Bool) : Option Bool :=
  (some v15)
def lw1_DependKeys_j16 (v23 : Bool) : Option Bool :=
  (some v23)
def lw1_DependKeys (fuel : Nat) (a1 : Int) (a2 : (List rf1Dep)) : Option Bool :=
  ((lw1_deps a2).bind fun w5 => ((dp_Keys fuel a1 w5).bind fun w6 => ((lw1_deps a2).bind fun w8 => ((dp_Critical fuel a1 w8).bind fun w9 => ((rf1_Valid a1 a2).bind fun w12 => (bif (!w12) then (bif ((IntKind.wrap .i64 ((w6.1.length : Int) + (w9.1.length : Int))) == 0) then (bif (w6.2 == 2) then (bif (w9.2 == 2) then ((lw1_awake fuel).bind fun w14 => ((lw1_DependKeys_j13) w14)) else ((lw1_DependKeys_j13) false)) else ((lw1_DependKeys_j13) false)) else ((lw1_DependKeys_j13) false)) else ((rf1_Keys a1 a2).bind fun w17 => ((sl_Equal_int w6.1 w17).bind fun w18 => (bif w18 then ((lw1_own w9.1).bind fun w19 => ((rf1_Critical a1 a2).bind fun w20 => ((sl_Equal_rf1Dep w19 w20).bind fun w21 => (bif w21 then (bif (w6.2 == 0) then (bif (w9.2 == 0) then ((lw1_awake fuel).bind fun w22 => ((lw1_DependKeys_j16) w22)) else ((lw1_DependKeys_j16) false)) else ((lw1_DependKeys_j16) false)) else ((lw1_DependKeys_j16) false))))) else ((lw1_DependKeys_j16) false))))))))))
theorem run_lw1_DependKeys (fuel : Nat) (a1 : Int) (a2 : (List rf1Dep)) (r : Bool) (h : lw1_DependKeys fuel a1 a2 = some r) : Run Try.prog (.call 16 [I6 a1, l40 none a2] (.bool r)) := by
  refine call_of_W Try.func16 rfl (by kernel_rfl) (env0 := [(0, I6 a1), (1, l40 none a2)]) (by kernel_rfl) ?_
  unfold lw1_DependKeys at h
  refine W.seq ?_
  refine W.regT [0, 1] [] [] [] (e2 := [(0, I6 a1), (1, l40 none a2)]) (by kernel_rfl) (by kernel_rfl) (fun _ h => h) ?_
  refine W.seq ?_
  refine W.region (by kernel_rfl) ?_
  obtain ⟨w5, hw5, h⟩ := bind_some h
  refine WO.callK 2 (F := 20) (l := [l40 none a2]) (C := []) (r := l33 (some 1) w5) (by kernel_rfl) (by kernel_rfl) (run_lw1_deps a2 w5 hw5) (e1 := [(0, I6 a1), (1, l40 none a2), (10, I6 a1), (11, l40 none a2), (12, l33 (some 12) w5)]) (by kernel_rfl) ?_
  obtain ⟨w6, hw6, h⟩ := bind_some h
  refine WO.callK 0 (F := 23) (l := [I6 a1, l33 none w5]) (C := []) (r := .tup [l3 none w6.1, I6 w6.2]) (by kernel_rfl) (by kernel_rfl) (run_dp_Keys fuel a1 w5 w6 hw6) (e1 := [(0, I6 a1), (1, l40 none a2), (10, I6 a1), (11, l40 none a2), (12, l33 (some 12) w5), (13, .tup [l3 none w6.1, I6 w6.2])]) (by kernel_rfl) ?_
  refine WO.fin [0, 1, 5, 6] [] [] [] (e2 := [(0, I6 a1), (1, l40 none a2), (5, l3 none w6.1), (6, I6 w6.2)]) (by kernel_rfl) (fun _ h => h) ?_
  refine W.seq ?_
  refine W.region (by kernel_rfl) ?_
  obtain ⟨w8, hw8, h⟩ := bind_some h
  refine WO.callK 2 (F := 20) (l := [l40 none a2]) (C := []) (r := l33 (some 1) w8) (by kernel_rfl) (by kernel_rfl) (run_lw1_deps a2 w8 hw8) (e1 := [(0, I6 a1), (1, l40 none a2), (5, l3 none w6.1), (6, I6 w6.2), (17, I6 a1), (18, l40 none a2), (19, l33 (some 19) w8)]) (by kernel_rfl) ?_
  obtain ⟨w9, hw9, h⟩ := bind_some h
  refine WO.callK 0 (F := 48) (l := [I6 a1, l33 none w8]) (C := []) (r := .tup [l33 none w9.1, I6 w9.2]) (by kernel_rfl) (by kernel_rfl) (run_dp_Critical fuel a1 w8 w9 hw9) (e1 := [(0, I6 a1), (1, l40 none a2), (5, l3 none w6.1), (6, I6 w6.2), (17, I6 a1), (18, l40 none a2), (19, l33 (some 19) w8), (20, .tup [l33 none w9.1, I6 w9.2])]) (by kernel_rfl) ?_
  refine WO.fin [0, 1, 5, 6, 7, 8] [] [] [] (e2 := [(0, I6 a1), (1, l40 none a2), (5, l3 none w6.1), (6, I6 w6.2), (7, l33 none w9.1), (8, I6 w9.2)]) (by kernel_rfl) (fun _ h => h) ?_
  refine W.seq ?_
  refine W.seq ?_
  refine W.region (by kernel_rfl) ?_
  obtain ⟨w12, hw12, h⟩ := bind_some h
  refine WO.callK 2 (F := 28) (l := [I6 a1, l40 none a2]) (C := []) (r := .bool w12) (by kernel_rfl) (by kernel_rfl) (run_rf1_Valid a1 a2 w12 hw12) (e1 := [(0, I6 a1), (1, l40 none a2), (5, l3 none w6.1), (6, I6 w6.2), (7, l33 none w9.1), (8, I6 w9.2), (23, I6 a1), (24, l40 none a2), (25, .bool w12)]) (by kernel_rfl) ?_
  refine WO.fin [0, 1, 5, 6, 7, 8, 26] [] [] [] (e2 := [(0, I6 a1), (1, l40 none a2), (5, l3 none w6.1), (6, I6 w6.2), (7, l33 none w9.1), (8, I6 w9.2), (26, .bool (!w12))]) (by kernel_rfl) (fun _ h => h) ?_
  refine W.condB (!w12) (by kernel_rfl) (fun hb => ?_) (fun hb => ?_)
  · replace h := cond_t hb h
    refine W.seq ?_
    refine W.join (σ := (Bool)) (fun s => [(4, .bool s)]) (fun s => (lw1_DependKeys_j13) s = some r) (fun s h => ?_) (fun hK13 => ?_)
    · obtain ⟨v15, rfl⟩ : ∃ x, x = s := ⟨s, rfl⟩
      have h : (lw1_DependKeys_j13) v15 = some r := h
      unfold lw1_DependKeys_j13 at h
      refine W.weak [4] [] [] [] (env' := [(4, .bool v15)]) (by kernel_rfl) ?_
      have hr : aresults Try.prog Try.f16 [(4, .bool v15)] = some (.bool v15) := by kernel_rfl
      cases h
      exact W.ret hr
    refine W.region (by kernel_rfl) ?_
    refine WO.pureK 1 (some (I6 ((List.map (AV.int .i64) w6.1).length : Int))) (v := I6 (w6.1.length : Int)) (by kernel_rfl) (by rw [List.length_map]) (e1 := [(0, I6 a1), (1, l40 none a2), (5, l3 none w6.1), (6, I6 w6.2), (7, l33 none w9.1), (8, I6 w9.2), (26, .bool (!w12)), (27, l3 none w6.1), (28, I6 (w6.1.length : Int))]) (by kernel_rfl) ?_
    refine WO.pureK 1 (some (I6 ((List.map e_dpDep w9.1).length : Int))) (v := I6 (w9.1.length : Int)) (by kernel_rfl) (by rw [List.length_map]) (e1 := [(0, I6 a1), (1, l40 none a2), (5, l3 none w6.1), (6, I6 w6.2), (7, l33 none w9.1), (8, I6 w9.2), (26, .bool (!w12)), (27, l3 none w6.1), (28, I6 (w6.1.length : Int)), (29, l33 none w9.1), (30, I6 (w9.1.length : Int))]) (by kernel_rfl) ?_
    refine WO.boolK 3 (fun b => [(0, I6 a1), (1, l40 none a2), (5, l3 none w6.1), (6, I6 w6.2), (7, l33 none w9.1), (8, I6 w9.2), (26, .bool (!w12)), (27, l3 none w6.1), (28, I6 (w6.1.length : Int)), (29, l33 none w9.1), (30, I6 (w9.1.length : Int)), (31, I6 (IntKind.wrap .i64 ((w6.1.length : Int) + (w9.1.length : Int)))), (32, .bool b), (33, .bool b)]) ((IntKind.wrap .i64 ((w6.1.length : Int) + (w9.1.length : Int))) == 0) (by kernel_rfl) (fun hb => ?_) (fun hb => ?_)
    · replace h := cond_t hb h
      refine WO.boolK 4 (fun b => [(0, I6 a1), (1, l40 none a2), (5, l3 none w6.1), (6, I6 w6.2), (7, l33 none w9.1), (8, I6 w9.2), (26, .bool (!w12)), (27, l3 none w6.1), (28, I6 (w6.1.length : Int)), (29, l33 none w9.1), (30, I6 (w9.1.length : Int)), (31, I6 (IntKind.wrap .i64 ((w6.1.length : Int) + (w9.1.length : Int)))), (32, .bool true), (33, .bool true), (34, I6 w6.2), (35, .bool b), (36, .bool b), (37, .bool b)]) (w6.2 == 2) (by kernel_rfl) (fun hb => ?_) (fun hb => ?_)
      · replace h := cond_t hb h
        refine WO.boolK 4 (fun b => [(0, I6 a1), (1, l40 none a2), (5, l3 none w6.1), (6, I6 w6.2), (7, l33 none w9.1), (8, I6 w9.2), (26, .bool (!w12)), (27, l3 none w6.1), (28, I6 (w6.1.length : Int)), (29, l33 none w9.1), (30, I6 (w9.1.length : Int)), (31, I6 (IntKind.wrap .i64 ((w6.1.length : Int) + (w9.1.length : Int)))), (32, .bool true), (33, .bool true), (34, I6 w6.2), (35, .bool true), (36, .bool true), (37, .bool true), (38, I6 w9.2), (39, .bool b), (40, .bool b), (41, .bool b)]) (w9.2 == 2) (by kernel_rfl) (fun hb => ?_) (fun hb => ?_)
        · replace h := cond_t hb h
          obtain ⟨w14, hw14, h⟩ := bind_some h
          refine WO.callK 0 (F := 21) (l := []) (C := []) (r := .bool w14) (by kernel_rfl) (by kernel_rfl) (run_lw1_awake fuel w14 hw14) (e1 := [(0, I6 a1), (1, l40 none a2), (5, l3 none w6.1), (6, I6 w6.2), (7, l33 none w9.1), (8, I6 w9.2), (26, .bool (!w12)), (27, l3 none w6.1), (28, I6 (w6.1.length : Int)), (29, l33 none w9.1), (30, I6 (w9.1.length : Int)), (31, I6 (IntKind.wrap .i64 ((w6.1.length : Int) + (w9.1.length : Int)))), (32, .bool true), (33, .bool true), (34, I6 w6.2), (35, .bool true), (36, .bool true), (37, .bool true), (38, I6 w9.2), (39, .bool true), (40, .bool true), (41, .bool true), (42, .bool w14)]) (by kernel_rfl) ?_
          refine WO.fin [4] [] [] [] (e2 := [(4, .bool w14)]) (by kernel_rfl) (fun _ h => h) ?_
          exact hK13 w14 h
        replace h := cond_f hb h
        refine WO.fin [4] [] [] [] (e2 := [(4, .bool false)]) (by kernel_rfl) (fun _ h => h) ?_
        exact hK13 false h
      replace h := cond_f hb h
      refine WO.fin [4] [] [] [] (e2 := [(4, .bool false)]) (by kernel_rfl) (fun _ h => h) ?_
      exact hK13 false h
    replace h := cond_f hb h
    refine WO.fin [4] [] [] [] (e2 := [(4, .bool false)]) (by kernel_rfl) (fun _ h => h) ?_
    exact hK13 false h
  replace h := cond_f hb h
  refine W.skip ?_
  refine W.weak [0, 1, 5, 6, 7, 8] [] [] [] (env' := [(0, I6 a1), (1, l40 none a2), (5, l3 none w6.1), (6, I6 w6.2), (7, l33 none w9.1), (8, I6 w9.2)]) (by kernel_rfl) ?_
  refine W.seq ?_
  refine W.join (σ := (Bool)) (fun s => [(4, .bool s)]) (fun s => (lw1_DependKeys_j16) s = some r) (fun s h => ?_) (fun hK16 => ?_)
  · obtain ⟨v23, rfl⟩ : ∃ x, x = s := ⟨s, rfl⟩
    have h : (lw1_DependKeys_j16) v23 = some r := h
    unfold lw1_DependKeys_j16 at h
    refine W.weak [4] [] [] [] (env' := [(4, .bool v23)]) (by kernel_rfl) ?_
    have hr : aresults Try.prog Try.f16 [(4, .bool v23)] = some (.bool v23) := by kernel_rfl
    cases h
    exact W.ret hr
  refine W.region (by kernel_rfl) ?_
  obtain ⟨w17, hw17, h⟩ := bind_some h
  refine WO.callK 3 (F := 50) (l := [I6 a1, l40 none a2]) (C := []) (r := l3 (some 1) w17) (by kernel_rfl) (by kernel_rfl) (run_rf1_Keys a1 a2 w17 hw17) (e1 := [(0, I6 a1), (1, l40 none a2), (5, l3 none w6.1), (6, I6 w6.2), (7, l33 none w9.1), (8, I6 w9.2), (44, l3 none w6.1), (45, I6 a1), (46, l40 none a2), (47, l3 (some 47) w17)]) (by kernel_rfl) ?_
  obtain ⟨w18, hw18, h⟩ := bind_some h
  refine WO.callK 0 (F := 45) (l := [l3 none w6.1, l3 none w17]) (C := []) (r := .bool w18) (by kernel_rfl) (by kernel_rfl) (run_sl_Equal_int w6.1 w17 w18 hw18) (e1 := [(0, I6 a1), (1, l40 none a2), (5, l3 none w6.1), (6, I6 w6.2), (7, l33 none w9.1), (8, I6 w9.2), (44, l3 none w6.1), (45, I6 a1), (46, l40 none a2), (47, l3 (some 47) w17), (48, .bool w18)]) (by kernel_rfl) ?_
  refine WO.boolK 1 (fun b => [(0, I6 a1), (1, l40 none a2), (5, l3 none w6.1), (6, I6 w6.2), (7, l33 none w9.1), (8, I6 w9.2), (44, l3 none w6.1), (45, I6 a1), (46, l40 none a2), (47, l3 (some 47) w17), (48, .bool b), (49, .bool b)]) w18 (by kernel_rfl) (fun hb => ?_) (fun hb => ?_)
  · replace h := cond_t hb h
    obtain ⟨w19, hw19, h⟩ := bind_some h
    refine WO.callK 1 (F := 52) (l := [l33 none w9.1]) (C := []) (r := l40 (some 1) w19) (by kernel_rfl) (by kernel_rfl) (run_lw1_own w9.1 w19 hw19) (e1 := [(0, I6 a1), (1, l40 none a2), (5, l3 none w6.1), (6, I6 w6.2), (7, l33 none w9.1), (8, I6 w9.2), (44, l3 none w6.1), (45, I6 a1), (46, l40 none a2), (47, l3 (some 47) w17), (48, .bool true), (49, .bool true), (50, l33 none w9.1), (51, l40 (some 51) w19)]) (by kernel_rfl) ?_
    obtain ⟨w20, hw20, h⟩ := bind_some h
    refine WO.callK 2 (F := 53) (l := [I6 a1, l40 none a2]) (C := []) (r := l40 (some 1) w20) (by kernel_rfl) (by kernel_rfl) (run_rf1_Critical a1 a2 w20 hw20) (e1 := [(0, I6 a1), (1, l40 none a2), (5, l3 none w6.1), (6, I6 w6.2), (7, l33 none w9.1), (8, I6 w9.2), (44, l3 none w6.1), (45, I6 a1), (46, l40 none a2), (47, l3 (some 47) w17), (48, .bool true), (49, .bool true), (50, l33 none w9.1), (51, l40 (some 51) w19), (52, I6 a1), (53, l40 none a2), (54, l40 (some 54) w20)]) (by kernel_rfl) ?_
    obtain ⟨w21, hw21, h⟩ := bind_some h
    refine WO.callK 0 (F := 51) (l := [l40 none w19, l40 none w20]) (C := []) (r := .bool w21) (by kernel_rfl) (by kernel_rfl) (run_sl_Equal_rf1Dep w19 w20 w21 hw21) (e1 := [(0, I6 a1), (1, l40 none a2), (5, l3 none w6.1), (6, I6 w6.2), (7, l33 none w9.1), (8, I6 w9.2), (44, l3 none w6.1), (45, I6 a1), (46, l40 none a2), (47, l3 (some 47) w17), (48, .bool true), (49, .bool true), (50, l33 none w9.1), (51, l40 (some 51) w19), (52, I6 a1), (53, l40 none a2), (54, l40 (some 54) w20), (55, .bool w21)]) (by kernel_rfl) ?_
    refine WO.boolK 2 (fun b => [(0, I6 a1), (1, l40 none a2), (5, l3 none w6.1), (6, I6 w6.2), (7, l33 none w9.1), (8, I6 w9.2), (44, l3 none w6.1), (45, I6 a1), (46, l40 none a2), (47, l3 (some 47) w17), (48, .bool true), (49, .bool true), (50, l33 none w9.1), (51, l40 (some 51) w19), (52, I6 a1), (53, l40 none a2), (54, l40 (some 54) w20), (55, .bool b), (56, .bool b), (57, .bool b)]) w21 (by kernel_rfl) (fun hb => ?_) (fun hb => ?_)
    · replace h := cond_t hb h
      refine WO.boolK 4 (fun b => [(0, I6 a1), (1, l40 none a2), (5, l3 none w6.1), (6, I6 w6.2), (7, l33 none w9.1), (8, I6 w9.2), (44, l3 none w6.1), (45, I6 a1), (46, l40 none a2), (47, l3 (some 47) w17), (48, .bool true), (49, .bool true), (50, l33 none w9.1), (51, l40 (some 51) w19), (52, I6 a1), (53, l40 none a2), (54, l40 (some 54) w20), (55, .bool true), (56, .bool true), (57, .bool true), (58, I6 w6.2), (59, .bool b), (60, .bool b), (61, .bool b)]) (w6.2 == 0) (by kernel_rfl) (fun hb => ?_) (fun hb => ?_)
      · replace h := cond_t hb h
        refine WO.boolK 4 (fun b => [(0, I6 a1), (1, l40 none a2), (5, l3 none w6.1), (6, I6 w6.2), (7, l33 none w9.1), (8, I6 w9.2), (44, l3 none w6.1), (45, I6 a1), (46, l40 none a2), (47, l3 (some 47) w17), (48, .bool true), (49, .bool true), (50, l33 none w9.1), (51, l40 (some 51) w19), (52, I6 a1), (53, l40 none a2), (54, l40 (some 54) w20), (55, .bool true), (56, .bool true), (57, .bool true), (58, I6 w6.2), (59, .bool true), (60, .bool true), (61, .bool true), (62, I6 w9.2), (63, .bool b), (64, .bool b), (65, .bool b)]) (w9.2 == 0) (by kernel_rfl) (fun hb => ?_) (fun hb => ?_)
        · replace h := cond_t hb h
          obtain ⟨w22, hw22, h⟩ := bind_some h
          refine WO.callK 0 (F := 21) (l := []) (C := []) (r := .bool w22) (by kernel_rfl) (by kernel_rfl) (run_lw1_awake fuel w22 hw22) (e1 := [(0, I6 a1), (1, l40 none a2), (5, l3 none w6.1), (6, I6 w6.2), (7, l33 none w9.1), (8, I6 w9.2), (44, l3 none w6.1), (45, I6 a1), (46, l40 none a2), (47, l3 (some 47) w17), (48, .bool true), (49, .bool true), (50, l33 none w9.1), (51, l40 (some 51) w19), (52, I6 a1), (53, l40 none a2), (54, l40 (some 54) w20), (55, .bool true), (56, .bool true), (57, .bool true), (58, I6 w6.2), (59, .bool true), (60, .bool true), (61, .bool true), (62, I6 w9.2), (63, .bool true), (64, .bool true), (65, .bool true), (66, .bool w22)]) (by kernel_rfl) ?_
          refine WO.fin [4] [] [] [] (e2 := [(4, .bool w22)]) (by kernel_rfl) (fun _ h => h) ?_
          exact hK16 w22 h
        replace h := cond_f hb h
        refine WO.fin [4] [] [] [] (e2 := [(4, .bool false)]) (by kernel_rfl) (fun _ h => h) ?_
        exact hK16 false h
      replace h := cond_f hb h
      refine WO.fin [4] [] [] [] (e2 := [(4, .bool false)]) (by kernel_rfl) (fun _ h => h) ?_
      exact hK16 false h
    replace h := cond_f hb h
    refine WO.fin [4] [] [] [] (e2 := [(4, .bool false)]) (by kernel_rfl) (fun _ h => h) ?_
    exact hK16 false h
  replace h := cond_f hb h
  refine WO.fin [4] [] [] [] (e2 := [(4, .bool false)]) (by kernel_rfl) (fun _ h => h) ?_
  exact hK16 false h

end Go.AM
