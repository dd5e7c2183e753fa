/- PRINTED by gen.py: pure functions and the proofs that the code computes them. No statement of the seat is proved here. -/
import Derived.Test.YtombfedoinhafaaG5
set_option linter.unusedVariables false
namespace Go.AM
open Go.Proofs
def dp_agree_j5 (v14 : Int) : Option Int :=
  (some v14)
def dp_agree_j8 (N1 : (Int → Option Int)) (v13 : Int) : Option Int :=
  (N1 v13)
def dp_agree_l1 (a2 : (List Int)) (K5 : (Int → Option Int)) : List Int → Nat → Int → Option Int
  | [], k1, v7 => (K5 v7)
  | x1 :: r1, k1, v7 => ((idx a2 (k1 : Int)).bind fun e11 => (bif (x1 == e11) then (chk (decide (0 ≤ (k1 : Int))) ((dp_agree_j8 (dp_agree_l1 a2 K5 r1 (k1 + 1))) (iOr .i64 v7 (iShl .i64 1 (k1 : Int))))) else ((dp_agree_j8 (dp_agree_l1 a2 K5 r1 (k1 + 1))) v7)))
def dp_agree (a1 : (List Int)) (a2 : (List Int)) : Option Int :=
  (chk (lenOk a1) (dp_agree_l1 a2 (dp_agree_j5) a1 0 0))
theorem run_dp_agree (a1 : (List Int)) (a2 : (List Int)) (r : Int) (h : dp_agree a1 a2 = some r) : Run Try.prog (.call 66 [l3 none a1, l3 none a2] (.int .i64 r)) := by
  refine call_of_W Try.func66 rfl (by kernel_rfl) (env0 := [(0, l3 none a1), (1, l3 none a2)]) (by kernel_rfl) ?_
  unfold dp_agree at h
  refine W.seq ?_
  refine W.regT [0, 1] [] [] [] (e2 := [(0, l3 none a1), (1, l3 none a2)]) (by kernel_rfl) (by kernel_rfl) (fun _ h => h) ?_
  refine W.seq ?_
  refine W.regT [0, 1, 5] [] [] [] (e2 := [(0, l3 none a1), (1, l3 none a2), (5, .int .i64 0)]) (by kernel_rfl) (by kernel_rfl) (fun _ h => h) ?_
  refine W.seq ?_
  refine W.join (σ := (Int)) (fun s => [(5, .int .i64 s)]) (fun s => (dp_agree_j5) s = some r) (fun s h => ?_) (fun hK5 => ?_)
  · obtain ⟨v14, rfl⟩ : ∃ x, x = s := ⟨s, rfl⟩
    have h : (dp_agree_j5) v14 = some r := h
    unfold dp_agree_j5 at h
    refine W.seq ?_
    refine W.regT [4] [] [] [] (e2 := [(4, .int .i64 v14)]) (by kernel_rfl) (by kernel_rfl) (fun _ h => h) ?_
    refine W.weak [4] [] [] [] (env' := [(4, .int .i64 v14)]) (by kernel_rfl) ?_
    have hr : aresults Try.prog Try.f66 [(4, .int .i64 v14)] = some (.int .i64 v14) := by kernel_rfl
    cases h
    exact W.ret hr
  refine W.seq ?_
  refine W.region (by kernel_rfl) ?_
  refine WO.pureK 1 (some (.int .i64 ((List.map (AV.int .i64) a1).length : Int))) (v := .int .i64 (a1.length : Int)) (by kernel_rfl) (by rw [List.length_map]) (e1 := [(0, l3 none a1), (1, l3 none a2), (5, .int .i64 0), (8, l3 none a1), (9, .int .i64 (a1.length : Int))]) (by kernel_rfl) ?_
  refine WO.fin [1, 5, 8, 9, 10] [] [] [] (e2 := [(1, l3 none a2), (5, .int .i64 0), (8, l3 none a1), (9, .int .i64 (a1.length : Int)), (10, .int .i64 0)]) (by kernel_rfl) (fun _ h => h) ?_
  refine W.block ?_
  obtain ⟨hl1, h⟩ := chk_some h
  refine W.weak [1, 5, 8, 9, 10] [] [] [] (env' := [(1, l3 none a2), (5, .int .i64 0), (8, l3 none a1), (9, .int .i64 (a1.length : Int)), (10, .int .i64 ((0 : Nat) : Int))]) (by kernel_rfl) ?_
  refine W.range (σ := (Int)) a1 (fun k1 s => [(1, l3 none a2), (5, .int .i64 s), (8, l3 none a1), (9, .int .i64 (a1.length : Int)), (10, .int .i64 (k1 : Int))]) (fun r0 k0 s => dp_agree_l1 a2 (dp_agree_j5) r0 k0 s = some r) (fun s h => ?_) (fun x1 r1 k1 s hx1 hk1 h hN1 => ?_) 0 h
  · obtain ⟨v7, rfl⟩ : ∃ x, x = s := ⟨s, rfl⟩
    have h : dp_agree_l1 a2 (dp_agree_j5) [] (a1).length v7 = some r := h
    rw [dp_agree_l1.eq_1] at h
    refine W.seq ?_
    refine W.region (by kernel_rfl) ?_
    refine WO.pureK 0 (some (.bool (decide (((a1).length : Int) < (a1.length : Int))))) (v := .bool false) (by kernel_rfl) (by rw [lt_false (l := a1)]) (e1 := [(1, l3 none a2), (5, .int .i64 v7), (8, l3 none a1), (9, .int .i64 (a1.length : Int)), (10, .int .i64 ((a1).length : Int)), (11, .bool false)]) (by kernel_rfl) ?_
    refine WO.fin ([1, 5, 8, 9, 10, 11]) [] [] [] (e2 := [(1, l3 none a2), (5, .int .i64 v7), (8, l3 none a1), (9, .int .i64 (a1.length : Int)), (10, .int .i64 ((a1).length : Int)), (11, .bool false)]) (by kernel_rfl) (fun _ h => h) ?_
    refine W.seq ?_
    refine W.condB false (by kernel_rfl) (fun h => Bool.noConfusion h) (fun _ => ?_)
    refine W.exit ?_
    refine W.weak [5] [] [] [] (env' := [(5, .int .i64 v7)]) (by kernel_rfl) ?_
    exact hK5 v7 h
  · obtain ⟨v7, rfl⟩ : ∃ x, x = s := ⟨s, rfl⟩
    have h : dp_agree_l1 a2 (dp_agree_j5) (x1 :: r1) k1 v7 = some r := h
    rw [dp_agree_l1.eq_2] at h
    refine W.seq ?_
    refine W.region (by kernel_rfl) ?_
    refine WO.pureK 0 (some (.bool (decide ((k1 : Int) < (a1.length : Int))))) (v := .bool true) (by kernel_rfl) (by rw [lt_true hk1]) (e1 := [(1, l3 none a2), (5, .int .i64 v7), (8, l3 none a1), (9, .int .i64 (a1.length : Int)), (10, .int .i64 (k1 : Int)), (11, .bool true)]) (by kernel_rfl) ?_
    refine WO.fin ([1, 5, 8, 9, 10, 11]) [] [] [] (e2 := [(1, l3 none a2), (5, .int .i64 v7), (8, l3 none a1), (9, .int .i64 (a1.length : Int)), (10, .int .i64 (k1 : Int)), (11, .bool true)]) (by kernel_rfl) (fun _ h => h) ?_
    refine W.seq ?_
    refine W.condB true (by kernel_rfl) (fun _ => ?_) (fun h => Bool.noConfusion h)
    refine W.skip ?_
    refine W.weak [1, 5, 8, 9, 10] [] [] [] (env' := [(1, l3 none a2), (5, .int .i64 v7), (8, l3 none a1), (9, .int .i64 (a1.length : Int)), (10, .int .i64 (k1 : Int))]) (by kernel_rfl) ?_
    refine W.seq ?_
    refine W.join (σ := (Int)) (fun s => [(1, l3 none a2), (5, .int .i64 s), (8, l3 none a1), (9, .int .i64 (a1.length : Int)), (10, .int .i64 (k1 : Int))]) (fun s => (dp_agree_j8 (dp_agree_l1 a2 (dp_agree_j5) r1 (k1 + 1))) s = some r) (fun s h => ?_) (fun hK8 => ?_)
    · obtain ⟨v13, rfl⟩ : ∃ x, x = s := ⟨s, rfl⟩
      have h : (dp_agree_j8 (dp_agree_l1 a2 (dp_agree_j5) r1 (k1 + 1))) v13 = some r := h
      unfold dp_agree_j8 at h
      refine W.region (by kernel_rfl) ?_
      refine WO.pureK 0 (some (.int .i64 (IntKind.wrap .i64 ((k1 : Int) + 1)))) (v := .int .i64 ((k1 + 1 : Nat) : Int)) (by kernel_rfl) (by rw [wrap_succ hl1 hk1]) (e1 := [(1, l3 none a2), (5, .int .i64 v13), (8, l3 none a1), (9, .int .i64 (a1.length : Int)), (10, .int .i64 (k1 : Int)), (25, .int .i64 ((k1 + 1 : Nat) : Int))]) (by kernel_rfl) ?_
      refine WO.fin [1, 5, 8, 9, 10] [] [] [] (e2 := [(1, l3 none a2), (5, .int .i64 v13), (8, l3 none a1), (9, .int .i64 (a1.length : Int)), (10, .int .i64 ((k1 + 1 : Nat) : Int))]) (by kernel_rfl) (fun _ h => h) ?_
      exact hN1 v13 h
    refine W.block ?_
    refine W.seq ?_
    refine W.region (by kernel_rfl) ?_
    refine WO.pureK 1 (if (0 : Int) ≤ (k1 : Int) then ((List.map (AV.int .i64) a1)[Int.toNat (k1 : Int)]?).map AV.ptr else none) (v := .ptr (.int .i64 x1)) (by kernel_rfl) (idx_nat (f := (AV.int .i64)) hx1) (e1 := [(1, l3 none a2), (5, .int .i64 v7), (8, l3 none a1), (9, .int .i64 (a1.length : Int)), (10, .int .i64 (k1 : Int)), (12, .int .i64 (k1 : Int)), (13, .ptr (.int .i64 x1))]) (by kernel_rfl) ?_
    refine WO.fin [1, 5, 6, 7, 8, 9, 10] [] [] [] (e2 := [(1, l3 none a2), (5, .int .i64 v7), (6, .int .i64 (k1 : Int)), (7, .int .i64 x1), (8, l3 none a1), (9, .int .i64 (a1.length : Int)), (10, .int .i64 (k1 : Int))]) (by kernel_rfl) (fun _ h => h) ?_
    refine W.seq ?_
    refine W.region (by kernel_rfl) ?_
    obtain ⟨e11, he11, h⟩ := bind_some h
    refine WO.pureK 3 (if (0 : Int) ≤ (k1 : Int) then ((List.map (AV.int .i64) a2)[Int.toNat (k1 : Int)]?).map AV.ptr else none) (v := .ptr (.int .i64 e11)) (by kernel_rfl) (idx_av (f := (AV.int .i64)) he11) (e1 := [(1, l3 none a2), (5, .int .i64 v7), (6, .int .i64 (k1 : Int)), (7, .int .i64 x1), (8, l3 none a1), (9, .int .i64 (a1.length : Int)), (10, .int .i64 (k1 : Int)), (15, .int .i64 x1), (16, l3 none a2), (17, .int .i64 (k1 : Int)), (18, .ptr (.int .i64 e11))]) (by kernel_rfl) ?_
    refine WO.fin [1, 5, 6, 8, 9, 10, 20] [] [] [] (e2 := [(1, l3 none a2), (5, .int .i64 v7), (6, .int .i64 (k1 : Int)), (8, l3 none a1), (9, .int .i64 (a1.length : Int)), (10, .int .i64 (k1 : Int)), (20, .bool (x1 == e11))]) (by kernel_rfl) (fun _ h => h) ?_
    refine W.condB (x1 == e11) (by kernel_rfl) (fun hb => ?_) (fun hb => ?_)
    · replace h := cond_t hb h
      refine W.region (by kernel_rfl) ?_
      obtain ⟨hc12, h⟩ := chk_some h
      refine WO.pureK 2 (if (k1 : Int) < 0 then none else some (.int .i64 (iShl .i64 1 (k1 : Int)))) (v := .int .i64 (iShl .i64 1 (k1 : Int))) (by kernel_rfl) (if_neg (not_lt_of_chk hc12)) (e1 := [(1, l3 none a2), (5, .int .i64 v7), (6, .int .i64 (k1 : Int)), (8, l3 none a1), (9, .int .i64 (a1.length : Int)), (10, .int .i64 (k1 : Int)), (20, .bool (x1 == e11)), (21, .int .i64 v7), (22, .int .i64 (k1 : Int)), (23, .int .i64 (iShl .i64 1 (k1 : Int)))]) (by kernel_rfl) ?_
      refine WO.fin [1, 5, 8, 9, 10] [] [] [] (e2 := [(1, l3 none a2), (5, .int .i64 (iOr .i64 v7 (iShl .i64 1 (k1 : Int)))), (8, l3 none a1), (9, .int .i64 (a1.length : Int)), (10, .int .i64 (k1 : Int))]) (by kernel_rfl) (fun _ h => h) ?_
      exact hK8 (iOr .i64 v7 (iShl .i64 1 (k1 : Int))) h
    replace h := cond_f hb h
    refine W.skip ?_
    refine W.weak [1, 5, 8, 9, 10] [] [] [] (env' := [(1, l3 none a2), (5, .int .i64 v7), (8, l3 none a1), (9, .int .i64 (a1.length : Int)), (10, .int .i64 (k1 : Int))]) (by kernel_rfl) ?_
    exact hK8 v7 h
def dp_Holds_j11 : Option (Bool × Int) :=
  (some (true, 0))
def dp_Holds_j13 (N1 : (Option (Bool × Int))) : Option (Bool × Int) :=
  N1
def dp_Holds_j21 (N2 : (Option (Bool × Int))) (v22 : Bool) : Option (Bool × Int) :=
  (bif v22 then (some (false, 0)) else N2)
def dp_Holds_l2 (x1 : (List Int)) (a3 : dpDep) (K13 : (Option (Bool × Int))) : List (List Int) → Nat → Option (Bool × Int)
  | [], k2 => K13
  | x2 :: r2, k2 => ((dp_agree x1 x2).bind fun w20 => (bif ((iAndNot .i64 a3.f_From w20) == 0) then ((dp_Holds_j21 (dp_Holds_l2 x1 a3 K13 r2 (k2 + 1))) ((iAndNot .i64 a3.f_To w20) != 0)) else ((dp_Holds_j21 (dp_Holds_l2 x1 a3 K13 r2 (k2 + 1))) false)))
def dp_Holds_l1 (a2 : (List (List Int))) (a3 : dpDep) (K11 : (Option (Bool × Int))) : List (List Int) → Nat → Option (Bool × Int)
  | [], k1 => K11
  | x1 :: r1, k1 => ((sub a2 0 (k1 : Int)).bind fun e16 => (chk (lenOk e16) (dp_Holds_l2 x1 a3 (dp_Holds_j13 (dp_Holds_l1 a2 a3 K11 r1 (k1 + 1))) e16 0)))
def dp_Holds_j6 (a2 : (List (List Int))) (a3 : dpDep) (v9 : Bool) : Option (Bool × Int) :=
  (bif v9 then (some (false, 2)) else (chk (lenOk a2) (dp_Holds_l1 a2 a3 (dp_Holds_j11) a2 0)))
def dp_Holds (a1 : Int) (a2 : (List (List Int))) (a3 : dpDep) : Option (Bool × Int) :=
  ((dp_table a1 a2).bind fun w7 => (bif (!w7) then ((dp_Holds_j6 a2 a3) true) else ((dp_sets a1 [a3.f_From, a3.f_To]).bind fun w8 => ((dp_Holds_j6 a2 a3) (!w8)))))
theorem run_dp_Holds (a1 : Int) (a2 : (List (List Int))) (a3 : dpDep) (r : (Bool × Int)) (h : dp_Holds a1 a2 a3 = some r) : Run Try.prog (.call 41 [.int .i64 a1, l35 none a2, .agg [.int .i64 a3.f_From, .int .i64 a3.f_To]] (.tup [.bool r.1, .int .i64 r.2])) := by
  refine call_of_W Try.func41 rfl (by kernel_rfl) (env0 := [(0, .int .i64 a1), (1, l35 none a2), (2, .agg [.int .i64 a3.f_From, .int .i64 a3.f_To])]) (by kernel_rfl) ?_
  unfold dp_Holds at h
  refine W.seq ?_
  refine W.regT [0, 1, 5] [5] [] [] (e2 := [(0, .int .i64 a1), (1, l35 none a2), (5, .ptr (.agg [.int .i64 a3.f_From, .int .i64 a3.f_To]))]) (by kernel_rfl) (by kernel_rfl) (fun _ h => h) ?_
  refine W.seq ?_
  refine W.seq ?_
  refine W.join (σ := (Bool)) (fun s => [(1, l35 none a2), (5, .ptr (.agg [.int .i64 a3.f_From, .int .i64 a3.f_To])), (26, .bool s)]) (fun s => (dp_Holds_j6 a2 a3) s = some r) (fun s h => ?_) (fun hK6 => ?_)
  · obtain ⟨v9, rfl⟩ : ∃ x, x = s := ⟨s, rfl⟩
    have h : (dp_Holds_j6 a2 a3) v9 = some r := h
    unfold dp_Holds_j6 at h
    refine W.condB v9 (by kernel_rfl) (fun hb => ?_) (fun hb => ?_)
    · replace h := cond_t hb h
      refine W.seq ?_
      refine W.regT [6, 7] [] [] [] (e2 := [(6, .bool false), (7, .int .i64 2)]) (by kernel_rfl) (by kernel_rfl) (fun _ h => h) ?_
      refine W.weak [6, 7] [] [] [] (env' := [(6, .bool false), (7, .int .i64 2)]) (by kernel_rfl) ?_
      have hr : aresults Try.prog Try.f41 [(6, .bool false), (7, .int .i64 2)] = some (.tup [.bool false, .int .i64 2]) := by kernel_rfl
      cases h
      exact W.ret hr
    replace h := cond_f hb h
    refine W.skip ?_
    refine W.weak [1, 5] [] [] [] (env' := [(1, l35 none a2), (5, .ptr (.agg [.int .i64 a3.f_From, .int .i64 a3.f_To]))]) (by kernel_rfl) ?_
    refine W.seq ?_
    refine W.join (σ := Unit) (fun s => []) (fun s => (dp_Holds_j11) = some r) (fun s h => ?_) (fun hK11 => ?_)
    · have h : (dp_Holds_j11) = some r := h
      unfold dp_Holds_j11 at h
      refine W.seq ?_
      refine W.regT [6, 7] [] [] [] (e2 := [(6, .bool true), (7, .int .i64 0)]) (by kernel_rfl) (by kernel_rfl) (fun _ h => h) ?_
      refine W.weak [6, 7] [] [] [] (env' := [(6, .bool true), (7, .int .i64 0)]) (by kernel_rfl) ?_
      have hr : aresults Try.prog Try.f41 [(6, .bool true), (7, .int .i64 0)] = some (.tup [.bool true, .int .i64 0]) := by kernel_rfl
      cases h
      exact W.ret hr
    refine W.seq ?_
    refine W.region (by kernel_rfl) ?_
    refine WO.pureK 1 (some (.int .i64 ((List.map (encL 3 1 (AV.int .i64)) a2).length : Int))) (v := .int .i64 (a2.length : Int)) (by kernel_rfl) (by rw [List.length_map]) (e1 := [(1, l35 none a2), (5, .ptr (.agg [.int .i64 a3.f_From, .int .i64 a3.f_To])), (27, l35 none a2), (28, .int .i64 (a2.length : Int))]) (by kernel_rfl) ?_
    refine WO.fin [1, 5, 27, 28, 29] [] [] [] (e2 := [(1, l35 none a2), (5, .ptr (.agg [.int .i64 a3.f_From, .int .i64 a3.f_To])), (27, l35 none a2), (28, .int .i64 (a2.length : Int)), (29, .int .i64 0)]) (by kernel_rfl) (fun _ h => h) ?_
    refine W.block ?_
    obtain ⟨hl1, h⟩ := chk_some h
    refine W.weak [1, 5, 27, 28, 29] [] [] [] (env' := [(1, l35 none a2), (5, .ptr (.agg [.int .i64 a3.f_From, .int .i64 a3.f_To])), (27, l35 none a2), (28, .int .i64 (a2.length : Int)), (29, .int .i64 ((0 : Nat) : Int))]) (by kernel_rfl) ?_
    refine W.range (σ := Unit) a2 (fun k1 s => [(1, l35 none a2), (5, .ptr (.agg [.int .i64 a3.f_From, .int .i64 a3.f_To])), (27, l35 none a2), (28, .int .i64 (a2.length : Int)), (29, .int .i64 (k1 : Int))]) (fun r0 k0 s => dp_Holds_l1 a2 a3 (dp_Holds_j11) r0 k0 = some r) (fun s h => ?_) (fun x1 r1 k1 s hx1 hk1 h hN1 => ?_) () h
    · have h : dp_Holds_l1 a2 a3 (dp_Holds_j11) [] (a2).length = some r := h
      rw [dp_Holds_l1.eq_1] at h
      refine W.seq ?_
      refine W.region (by kernel_rfl) ?_
      refine WO.pureK 0 (some (.bool (decide (((a2).length : Int) < (a2.length : Int))))) (v := .bool false) (by kernel_rfl) (by rw [lt_false (l := a2)]) (e1 := [(1, l35 none a2), (5, .ptr (.agg [.int .i64 a3.f_From, .int .i64 a3.f_To])), (27, l35 none a2), (28, .int .i64 (a2.length : Int)), (29, .int .i64 ((a2).length : Int)), (30, .bool false)]) (by kernel_rfl) ?_
      refine WO.fin ([1, 5, 27, 28, 29, 30]) [] [] [] (e2 := [(1, l35 none a2), (5, .ptr (.agg [.int .i64 a3.f_From, .int .i64 a3.f_To])), (27, l35 none a2), (28, .int .i64 (a2.length : Int)), (29, .int .i64 ((a2).length : Int)), (30, .bool false)]) (by kernel_rfl) (fun _ h => h) ?_
      refine W.seq ?_
      refine W.condB false (by kernel_rfl) (fun h => Bool.noConfusion h) (fun _ => ?_)
      refine W.exit ?_
      refine W.weak [] [] [] [] (env' := []) (by kernel_rfl) ?_
      exact hK11 () h
    · have h : dp_Holds_l1 a2 a3 (dp_Holds_j11) (x1 :: r1) k1 = some r := h
      rw [dp_Holds_l1.eq_2] at h
      refine W.seq ?_
      refine W.region (by kernel_rfl) ?_
      refine WO.pureK 0 (some (.bool (decide ((k1 : Int) < (a2.length : Int))))) (v := .bool true) (by kernel_rfl) (by rw [lt_true hk1]) (e1 := [(1, l35 none a2), (5, .ptr (.agg [.int .i64 a3.f_From, .int .i64 a3.f_To])), (27, l35 none a2), (28, .int .i64 (a2.length : Int)), (29, .int .i64 (k1 : Int)), (30, .bool true)]) (by kernel_rfl) ?_
      refine WO.fin ([1, 5, 27, 28, 29, 30]) [] [] [] (e2 := [(1, l35 none a2), (5, .ptr (.agg [.int .i64 a3.f_From, .int .i64 a3.f_To])), (27, l35 none a2), (28, .int .i64 (a2.length : Int)), (29, .int .i64 (k1 : Int)), (30, .bool true)]) (by kernel_rfl) (fun _ h => h) ?_
      refine W.seq ?_
      refine W.condB true (by kernel_rfl) (fun _ => ?_) (fun h => Bool.noConfusion h)
      refine W.skip ?_
      refine W.weak [1, 5, 27, 28, 29] [] [] [] (env' := [(1, l35 none a2), (5, .ptr (.agg [.int .i64 a3.f_From, .int .i64 a3.f_To])), (27, l35 none a2), (28, .int .i64 (a2.length : Int)), (29, .int .i64 (k1 : Int))]) (by kernel_rfl) ?_
      refine W.seq ?_
      refine W.join (σ := Unit) (fun s => [(1, l35 none a2), (5, .ptr (.agg [.int .i64 a3.f_From, .int .i64 a3.f_To])), (27, l35 none a2), (28, .int .i64 (a2.length : Int)), (29, .int .i64 (k1 : Int))]) (fun s => (dp_Holds_j13 (dp_Holds_l1 a2 a3 (dp_Holds_j11) r1 (k1 + 1))) = some r) (fun s h => ?_) (fun hK13 => ?_)
      · have h : (dp_Holds_j13 (dp_Holds_l1 a2 a3 (dp_Holds_j11) r1 (k1 + 1))) = some r := h
        unfold dp_Holds_j13 at h
        refine W.region (by kernel_rfl) ?_
        refine WO.pureK 0 (some (.int .i64 (IntKind.wrap .i64 ((k1 : Int) + 1)))) (v := .int .i64 ((k1 + 1 : Nat) : Int)) (by kernel_rfl) (by rw [wrap_succ hl1 hk1]) (e1 := [(1, l35 none a2), (5, .ptr (.agg [.int .i64 a3.f_From, .int .i64 a3.f_To])), (27, l35 none a2), (28, .int .i64 (a2.length : Int)), (29, .int .i64 (k1 : Int)), (58, .int .i64 ((k1 + 1 : Nat) : Int))]) (by kernel_rfl) ?_
        refine WO.fin [1, 5, 27, 28, 29] [] [] [] (e2 := [(1, l35 none a2), (5, .ptr (.agg [.int .i64 a3.f_From, .int .i64 a3.f_To])), (27, l35 none a2), (28, .int .i64 (a2.length : Int)), (29, .int .i64 ((k1 + 1 : Nat) : Int))]) (by kernel_rfl) (fun _ h => h) ?_
        exact hN1 () h
      refine W.block ?_
      refine W.seq ?_
      refine W.region (by kernel_rfl) ?_
      refine WO.pureK 1 (if (0 : Int) ≤ (k1 : Int) then ((List.map (encL 3 1 (AV.int .i64)) a2)[Int.toNat (k1 : Int)]?).map AV.ptr else none) (v := .ptr (l3 none x1)) (by kernel_rfl) (idx_nat (f := (encL 3 1 (AV.int .i64))) hx1) (e1 := [(1, l35 none a2), (5, .ptr (.agg [.int .i64 a3.f_From, .int .i64 a3.f_To])), (27, l35 none a2), (28, .int .i64 (a2.length : Int)), (29, .int .i64 (k1 : Int)), (31, .int .i64 (k1 : Int)), (32, .ptr (l3 none x1))]) (by kernel_rfl) ?_
      refine WO.fin [1, 5, 8, 9, 27, 28, 29] [] [] [] (e2 := [(1, l35 none a2), (5, .ptr (.agg [.int .i64 a3.f_From, .int .i64 a3.f_To])), (8, .int .i64 (k1 : Int)), (9, l3 none x1), (27, l35 none a2), (28, .int .i64 (a2.length : Int)), (29, .int .i64 (k1 : Int))]) (by kernel_rfl) (fun _ h => h) ?_
      refine W.seq ?_
      refine W.region (by kernel_rfl) ?_
      obtain ⟨e16, he16, h⟩ := bind_some h
      refine WO.pureK 2 (if (0 : Int) ≤ 0 ∧ 0 ≤ (k1 : Int) ∧ (k1 : Int) ≤ ((List.map (encL 3 1 (AV.int .i64)) a2).length : Int) then some (.lst 35 1 none (((List.map (encL 3 1 (AV.int .i64)) a2).take (Int.toNat (k1 : Int))).drop (Int.toNat 0))) else none) (v := l35 none e16) (by kernel_rfl) (sub_av he16) (e1 := [(1, l35 none a2), (5, .ptr (.agg [.int .i64 a3.f_From, .int .i64 a3.f_To])), (8, .int .i64 (k1 : Int)), (9, l3 none x1), (27, l35 none a2), (28, .int .i64 (a2.length : Int)), (29, .int .i64 (k1 : Int)), (34, l35 none a2), (35, .int .i64 (k1 : Int)), (36, l35 none e16)]) (by kernel_rfl) ?_
      refine WO.pureK 0 (some (.int .i64 ((List.map (encL 3 1 (AV.int .i64)) e16).length : Int))) (v := .int .i64 (e16.length : Int)) (by kernel_rfl) (by rw [List.length_map]) (e1 := [(1, l35 none a2), (5, .ptr (.agg [.int .i64 a3.f_From, .int .i64 a3.f_To])), (8, .int .i64 (k1 : Int)), (9, l3 none x1), (27, l35 none a2), (28, .int .i64 (a2.length : Int)), (29, .int .i64 (k1 : Int)), (34, l35 none a2), (35, .int .i64 (k1 : Int)), (36, l35 none e16), (37, .int .i64 (e16.length : Int))]) (by kernel_rfl) ?_
      refine WO.fin [1, 5, 9, 27, 28, 29, 36, 37, 38] [] [] [] (e2 := [(1, l35 none a2), (5, .ptr (.agg [.int .i64 a3.f_From, .int .i64 a3.f_To])), (9, l3 none x1), (27, l35 none a2), (28, .int .i64 (a2.length : Int)), (29, .int .i64 (k1 : Int)), (36, l35 none e16), (37, .int .i64 (e16.length : Int)), (38, .int .i64 0)]) (by kernel_rfl) (fun _ h => h) ?_
      refine W.block ?_
      obtain ⟨hl2, h⟩ := chk_some h
      refine W.weak [1, 5, 9, 27, 28, 29, 36, 37, 38] [] [] [] (env' := [(1, l35 none a2), (5, .ptr (.agg [.int .i64 a3.f_From, .int .i64 a3.f_To])), (9, l3 none x1), (27, l35 none a2), (28, .int .i64 (a2.length : Int)), (29, .int .i64 (k1 : Int)), (36, l35 none e16), (37, .int .i64 (e16.length : Int)), (38, .int .i64 ((0 : Nat) : Int))]) (by kernel_rfl) ?_
      refine W.range (σ := Unit) e16 (fun k2 s => [(1, l35 none a2), (5, .ptr (.agg [.int .i64 a3.f_From, .int .i64 a3.f_To])), (9, l3 none x1), (27, l35 none a2), (28, .int .i64 (a2.length : Int)), (29, .int .i64 (k1 : Int)), (36, l35 none e16), (37, .int .i64 (e16.length : Int)), (38, .int .i64 (k2 : Int))]) (fun r0 k0 s => dp_Holds_l2 x1 a3 (dp_Holds_j13 (dp_Holds_l1 a2 a3 (dp_Holds_j11) r1 (k1 + 1))) r0 k0 = some r) (fun s h => ?_) (fun x2 r2 k2 s hx2 hk2 h hN2 => ?_) () h
      · have h : dp_Holds_l2 x1 a3 (dp_Holds_j13 (dp_Holds_l1 a2 a3 (dp_Holds_j11) r1 (k1 + 1))) [] (e16).length = some r := h
        rw [dp_Holds_l2.eq_1] at h
        refine W.seq ?_
        refine W.region (by kernel_rfl) ?_
        refine WO.pureK 0 (some (.bool (decide (((e16).length : Int) < (e16.length : Int))))) (v := .bool false) (by kernel_rfl) (by rw [lt_false (l := e16)]) (e1 := [(1, l35 none a2), (5, .ptr (.agg [.int .i64 a3.f_From, .int .i64 a3.f_To])), (9, l3 none x1), (27, l35 none a2), (28, .int .i64 (a2.length : Int)), (29, .int .i64 (k1 : Int)), (36, l35 none e16), (37, .int .i64 (e16.length : Int)), (38, .int .i64 ((e16).length : Int)), (39, .bool false)]) (by kernel_rfl) ?_
        refine WO.fin ([1, 5, 9, 27, 28, 29, 36, 37, 38, 39]) [] [] [] (e2 := [(1, l35 none a2), (5, .ptr (.agg [.int .i64 a3.f_From, .int .i64 a3.f_To])), (9, l3 none x1), (27, l35 none a2), (28, .int .i64 (a2.length : Int)), (29, .int .i64 (k1 : Int)), (36, l35 none e16), (37, .int .i64 (e16.length : Int)), (38, .int .i64 ((e16).length : Int)), (39, .bool false)]) (by kernel_rfl) (fun _ h => h) ?_
        refine W.seq ?_
        refine W.condB false (by kernel_rfl) (fun h => Bool.noConfusion h) (fun _ => ?_)
        refine W.exit ?_
        refine W.weak [1, 5, 27, 28, 29] [] [] [] (env' := [(1, l35 none a2), (5, .ptr (.agg [.int .i64 a3.f_From, .int .i64 a3.f_To])), (27, l35 none a2), (28, .int .i64 (a2.length : Int)), (29, .int .i64 (k1 : Int))]) (by kernel_rfl) ?_
        exact hK13 () h
      · have h : dp_Holds_l2 x1 a3 (dp_Holds_j13 (dp_Holds_l1 a2 a3 (dp_Holds_j11) r1 (k1 + 1))) (x2 :: r2) k2 = some r := h
        rw [dp_Holds_l2.eq_2] at h
        refine W.seq ?_
        refine W.region (by kernel_rfl) ?_
        refine WO.pureK 0 (some (.bool (decide ((k2 : Int) < (e16.length : Int))))) (v := .bool true) (by kernel_rfl) (by rw [lt_true hk2]) (e1 := [(1, l35 none a2), (5, .ptr (.agg [.int .i64 a3.f_From, .int .i64 a3.f_To])), (9, l3 none x1), (27, l35 none a2), (28, .int .i64 (a2.length : Int)), (29, .int .i64 (k1 : Int)), (36, l35 none e16), (37, .int .i64 (e16.length : Int)), (38, .int .i64 (k2 : Int)), (39, .bool true)]) (by kernel_rfl) ?_
        refine WO.fin ([1, 5, 9, 27, 28, 29, 36, 37, 38, 39]) [] [] [] (e2 := [(1, l35 none a2), (5, .ptr (.agg [.int .i64 a3.f_From, .int .i64 a3.f_To])), (9, l3 none x1), (27, l35 none a2), (28, .int .i64 (a2.length : Int)), (29, .int .i64 (k1 : Int)), (36, l35 none e16), (37, .int .i64 (e16.length : Int)), (38, .int .i64 (k2 : Int)), (39, .bool true)]) (by kernel_rfl) (fun _ h => h) ?_
        refine W.seq ?_
        refine W.condB true (by kernel_rfl) (fun _ => ?_) (fun h => Bool.noConfusion h)
        refine W.skip ?_
        refine W.weak [1, 5, 9, 27, 28, 29, 36, 37, 38] [] [] [] (env' := [(1, l35 none a2), (5, .ptr (.agg [.int .i64 a3.f_From, .int .i64 a3.f_To])), (9, l3 none x1), (27, l35 none a2), (28, .int .i64 (a2.length : Int)), (29, .int .i64 (k1 : Int)), (36, l35 none e16), (37, .int .i64 (e16.length : Int)), (38, .int .i64 (k2 : Int))]) (by kernel_rfl) ?_
        refine W.seq ?_
        refine W.block ?_
        refine W.seq ?_
        refine W.region (by kernel_rfl) ?_
        refine WO.pureK 0 (if (0 : Int) ≤ (k2 : Int) then ((List.map (encL 3 1 (AV.int .i64)) e16)[Int.toNat (k2 : Int)]?).map AV.ptr else none) (v := .ptr (l3 none x2)) (by kernel_rfl) (idx_nat (f := (encL 3 1 (AV.int .i64))) hx2) (e1 := [(1, l35 none a2), (5, .ptr (.agg [.int .i64 a3.f_From, .int .i64 a3.f_To])), (9, l3 none x1), (27, l35 none a2), (28, .int .i64 (a2.length : Int)), (29, .int .i64 (k1 : Int)), (36, l35 none e16), (37, .int .i64 (e16.length : Int)), (38, .int .i64 (k2 : Int)), (40, .ptr (l3 none x2))]) (by kernel_rfl) ?_
        refine WO.fin [1, 5, 9, 11, 27, 28, 29, 36, 37, 38] [] [] [] (e2 := [(1, l35 none a2), (5, .ptr (.agg [.int .i64 a3.f_From, .int .i64 a3.f_To])), (9, l3 none x1), (11, l3 none x2), (27, l35 none a2), (28, .int .i64 (a2.length : Int)), (29, .int .i64 (k1 : Int)), (36, l35 none e16), (37, .int .i64 (e16.length : Int)), (38, .int .i64 (k2 : Int))]) (by kernel_rfl) (fun _ h => h) ?_
        refine W.seq ?_
        refine W.region (by kernel_rfl) ?_
        obtain ⟨w20, hw20, h⟩ := bind_some h
        refine WO.callK 2 (F := 66) (l := [l3 none x1, l3 none x2]) (C := []) (r := .int .i64 w20) (by kernel_rfl) (by kernel_rfl) (run_dp_agree x1 x2 w20 hw20) (e1 := [(1, l35 none a2), (5, .ptr (.agg [.int .i64 a3.f_From, .int .i64 a3.f_To])), (9, l3 none x1), (11, l3 none x2), (27, l35 none a2), (28, .int .i64 (a2.length : Int)), (29, .int .i64 (k1 : Int)), (36, l35 none e16), (37, .int .i64 (e16.length : Int)), (38, .int .i64 (k2 : Int)), (42, l3 none x1), (43, l3 none x2), (44, .int .i64 w20)]) (by kernel_rfl) ?_
        refine WO.fin [1, 5, 9, 12, 27, 28, 29, 36, 37, 38] [] [] [] (e2 := [(1, l35 none a2), (5, .ptr (.agg [.int .i64 a3.f_From, .int .i64 a3.f_To])), (9, l3 none x1), (12, .int .i64 w20), (27, l35 none a2), (28, .int .i64 (a2.length : Int)), (29, .int .i64 (k1 : Int)), (36, l35 none e16), (37, .int .i64 (e16.length : Int)), (38, .int .i64 (k2 : Int))]) (by kernel_rfl) (fun _ h => h) ?_
        refine W.seq ?_
        refine W.join (σ := (Bool)) (fun s => [(1, l35 none a2), (5, .ptr (.agg [.int .i64 a3.f_From, .int .i64 a3.f_To])), (9, l3 none x1), (27, l35 none a2), (28, .int .i64 (a2.length : Int)), (29, .int .i64 (k1 : Int)), (36, l35 none e16), (37, .int .i64 (e16.length : Int)), (38, .int .i64 (k2 : Int)), (56, .bool s)]) (fun s => (dp_Holds_j21 (dp_Holds_l2 x1 a3 (dp_Holds_j13 (dp_Holds_l1 a2 a3 (dp_Holds_j11) r1 (k1 + 1))) r2 (k2 + 1))) s = some r) (fun s h => ?_) (fun hK21 => ?_)
        · obtain ⟨v22, rfl⟩ : ∃ x, x = s := ⟨s, rfl⟩
          have h : (dp_Holds_j21 (dp_Holds_l2 x1 a3 (dp_Holds_j13 (dp_Holds_l1 a2 a3 (dp_Holds_j11) r1 (k1 + 1))) r2 (k2 + 1))) v22 = some r := h
          unfold dp_Holds_j21 at h
          refine W.condB v22 (by kernel_rfl) (fun hb => ?_) (fun hb => ?_)
          · replace h := cond_t hb h
            refine W.seq ?_
            refine W.regT [6, 7] [] [] [] (e2 := [(6, .bool false), (7, .int .i64 0)]) (by kernel_rfl) (by kernel_rfl) (fun _ h => h) ?_
            refine W.weak [6, 7] [] [] [] (env' := [(6, .bool false), (7, .int .i64 0)]) (by kernel_rfl) ?_
            have hr : aresults Try.prog Try.f41 [(6, .bool false), (7, .int .i64 0)] = some (.tup [.bool false, .int .i64 0]) := by kernel_rfl
            cases h
            exact W.ret hr
          replace h := cond_f hb h
          refine W.skip ?_
          refine W.weak [1, 5, 9, 27, 28, 29, 36, 37, 38] [] [] [] (env' := [(1, l35 none a2), (5, .ptr (.agg [.int .i64 a3.f_From, .int .i64 a3.f_To])), (9, l3 none x1), (27, l35 none a2), (28, .int .i64 (a2.length : Int)), (29, .int .i64 (k1 : Int)), (36, l35 none e16), (37, .int .i64 (e16.length : Int)), (38, .int .i64 (k2 : Int))]) (by kernel_rfl) ?_
          refine W.region (by kernel_rfl) ?_
          refine WO.pureK 0 (some (.int .i64 (IntKind.wrap .i64 ((k2 : Int) + 1)))) (v := .int .i64 ((k2 + 1 : Nat) : Int)) (by kernel_rfl) (by rw [wrap_succ hl2 hk2]) (e1 := [(1, l35 none a2), (5, .ptr (.agg [.int .i64 a3.f_From, .int .i64 a3.f_To])), (9, l3 none x1), (27, l35 none a2), (28, .int .i64 (a2.length : Int)), (29, .int .i64 (k1 : Int)), (36, l35 none e16), (37, .int .i64 (e16.length : Int)), (38, .int .i64 (k2 : Int)), (57, .int .i64 ((k2 + 1 : Nat) : Int))]) (by kernel_rfl) ?_
          refine WO.fin [1, 5, 9, 27, 28, 29, 36, 37, 38] [] [] [] (e2 := [(1, l35 none a2), (5, .ptr (.agg [.int .i64 a3.f_From, .int .i64 a3.f_To])), (9, l3 none x1), (27, l35 none a2), (28, .int .i64 (a2.length : Int)), (29, .int .i64 (k1 : Int)), (36, l35 none e16), (37, .int .i64 (e16.length : Int)), (38, .int .i64 ((k2 + 1 : Nat) : Int))]) (by kernel_rfl) (fun _ h => h) ?_
          exact hN2 () h
        refine W.region (by kernel_rfl) ?_
        refine WO.boolK 6 (fun b => [(1, l35 none a2), (5, .ptr (.agg [.int .i64 a3.f_From, .int .i64 a3.f_To])), (9, l3 none x1), (12, .int .i64 w20), (27, l35 none a2), (28, .int .i64 (a2.length : Int)), (29, .int .i64 (k1 : Int)), (36, l35 none e16), (37, .int .i64 (e16.length : Int)), (38, .int .i64 (k2 : Int)), (45, .ptr (.int .i64 a3.f_From)), (46, .int .i64 a3.f_From), (47, .int .i64 w20), (48, .int .i64 (iAndNot .i64 a3.f_From w20)), (49, .bool b), (50, .bool b)]) ((iAndNot .i64 a3.f_From w20) == 0) (by kernel_rfl) (fun hb => ?_) (fun hb => ?_)
        · replace h := cond_t hb h
          refine WO.fin [1, 5, 9, 27, 28, 29, 36, 37, 38, 56] [] [] [] (e2 := [(1, l35 none a2), (5, .ptr (.agg [.int .i64 a3.f_From, .int .i64 a3.f_To])), (9, l3 none x1), (27, l35 none a2), (28, .int .i64 (a2.length : Int)), (29, .int .i64 (k1 : Int)), (36, l35 none e16), (37, .int .i64 (e16.length : Int)), (38, .int .i64 (k2 : Int)), (56, .bool ((iAndNot .i64 a3.f_To w20) != 0))]) (by kernel_rfl) (fun _ h => h) ?_
          exact hK21 ((iAndNot .i64 a3.f_To w20) != 0) h
        replace h := cond_f hb h
        refine WO.fin [1, 5, 9, 27, 28, 29, 36, 37, 38, 56] [] [] [] (e2 := [(1, l35 none a2), (5, .ptr (.agg [.int .i64 a3.f_From, .int .i64 a3.f_To])), (9, l3 none x1), (27, l35 none a2), (28, .int .i64 (a2.length : Int)), (29, .int .i64 (k1 : Int)), (36, l35 none e16), (37, .int .i64 (e16.length : Int)), (38, .int .i64 (k2 : Int)), (56, .bool false)]) (by kernel_rfl) (fun _ h => h) ?_
        exact hK21 false h
  refine W.region (by kernel_rfl) ?_
  obtain ⟨w7, hw7, h⟩ := bind_some h
  refine WO.callK 2 (F := 65) (l := [.int .i64 a1, l35 none a2]) (C := []) (r := .bool w7) (by kernel_rfl) (by kernel_rfl) (run_dp_table a1 a2 w7 hw7) (e1 := [(0, .int .i64 a1), (1, l35 none a2), (5, .ptr (.agg [.int .i64 a3.f_From, .int .i64 a3.f_To])), (13, .int .i64 a1), (14, l35 none a2), (15, .bool w7)]) (by kernel_rfl) ?_
  refine WO.boolK 2 (fun b => [(0, .int .i64 a1), (1, l35 none a2), (5, .ptr (.agg [.int .i64 a3.f_From, .int .i64 a3.f_To])), (13, .int .i64 a1), (14, l35 none a2), (15, .bool w7), (16, .bool b), (17, .bool b)]) (!w7) (by kernel_rfl) (fun hb => ?_) (fun hb => ?_)
  · replace h := cond_t hb h
    refine WO.fin [1, 5, 26] [] [] [] (e2 := [(1, l35 none a2), (5, .ptr (.agg [.int .i64 a3.f_From, .int .i64 a3.f_To])), (26, .bool true)]) (by kernel_rfl) (fun _ h => h) ?_
    exact hK6 true h
  replace h := cond_f hb h
  obtain ⟨w8, hw8, h⟩ := bind_some h
  refine WO.callK 6 (F := 58) (l := [.int .i64 a1, l3 none [a3.f_From, a3.f_To]]) (C := []) (r := .bool w8) (by kernel_rfl) (by kernel_rfl) (run_dp_sets a1 [a3.f_From, a3.f_To] w8 hw8) (e1 := [(0, .int .i64 a1), (1, l35 none a2), (5, .ptr (.agg [.int .i64 a3.f_From, .int .i64 a3.f_To])), (13, .int .i64 a1), (14, l35 none a2), (15, .bool w7), (16, .bool false), (17, .bool false), (18, .int .i64 a1), (19, .ptr (.int .i64 a3.f_From)), (20, .int .i64 a3.f_From), (21, .ptr (.int .i64 a3.f_To)), (22, .int .i64 a3.f_To), (23, l3 (some 23) [a3.f_From, a3.f_To]), (24, .bool w8)]) (by kernel_rfl) ?_
  refine WO.fin [1, 5, 26] [] [] [] (e2 := [(1, l35 none a2), (5, .ptr (.agg [.int .i64 a3.f_From, .int .i64 a3.f_To])), (26, .bool (!w8))]) (by kernel_rfl) (fun _ h => h) ?_
  exact hK6 (!w8) h
def lw1_DependRefuted_j11 (v14 : Bool) : Option Bool :=
  (some v14)
def lw1_DependRefuted_j28 (v30 : Bool) : Option Bool :=
  (some v30)
def lw1_DependRefuted_j15 (fuel : Nat) (a1 : Int) (a3 : rf1Dep) (w8 : ((List (List Int)) × Int)) : Option Bool :=
  ((lw1_dep a3).bind fun w26 => ((dp_Holds a1 w8.1 w26).bind fun w27 => (bif (!w27.1) then (bif (w27.2 == 0) then ((lw1_awake fuel).bind fun w29 => ((lw1_DependRefuted_j28) w29)) else ((lw1_DependRefuted_j28) false)) else ((lw1_DependRefuted_j28) false))))
def lw1_DependRefuted_j22 (N1 : (Option Bool)) (v23 : Bool) : Option Bool :=
  (bif v23 then (some false) else N1)
def lw1_DependRefuted_l1 (a1 : Int) (w8 : ((List (List Int)) × Int)) (K15 : (Option Bool)) : List dpDep → Nat → Option Bool
  | [], k1 => K15
  | x1 :: r1, k1 => ((dp_Holds a1 w8.1 x1).bind fun w21 => (bif (!w21.1) then ((lw1_DependRefuted_j22 (lw1_DependRefuted_l1 a1 w8 K15 r1 (k1 + 1))) true) else ((lw1_DependRefuted_j22 (lw1_DependRefuted_l1 a1 w8 K15 r1 (k1 + 1))) (w21.2 != 0))))
def lw1_DependRefuted (fuel : Nat) (a1 : Int) (a2 : (List rf1Dep)) (a3 : rf1Dep) : Option Bool :=
  ((lw1_deps a2).bind fun w6 => ((lw1_dep a3).bind fun w7 => ((dp_Refute fuel a1 w6 w7).bind fun w8 => (bif (w8.2 != 0) then (bif (w8.2 == 2) then ((lw1_awake fuel).bind fun w12 => ((lw1_DependRefuted_j11) w12)) else (bif (w8.2 == 5) then ((lw1_awake fuel).bind fun w13 => ((lw1_DependRefuted_j11) w13)) else ((lw1_DependRefuted_j11) false))) else ((lw1_deps a2).bind fun w17 => (chk (lenOk w17) (lw1_DependRefuted_l1 a1 w8 (lw1_DependRefuted_j15 fuel a1 a3 w8) w17 0)))))))
theorem run_lw1_DependRefuted (fuel : Nat) (a1 : Int) (a2 : (List rf1Dep)) (a3 : rf1Dep) (r : Bool) (h : lw1_DependRefuted fuel a1 a2 a3 = some r) : Run Try.prog (.call 12 [.int .i64 a1, l40 none a2, .agg [.int .i64 a3.f_From, .int .i64 a3.f_To]] (.bool r)) := by
  refine call_of_W Try.func12 rfl (by kernel_rfl) (env0 := [(0, .int .i64 a1), (1, l40 none a2), (2, .agg [.int .i64 a3.f_From, .int .i64 a3.f_To])]) (by kernel_rfl) ?_
  unfold lw1_DependRefuted at h
  refine W.seq ?_
  refine W.regT [0, 1, 5] [5] [] [] (e2 := [(0, .int .i64 a1), (1, l40 none a2), (5, .ptr (.agg [.int .i64 a3.f_From, .int .i64 a3.f_To]))]) (by kernel_rfl) (by kernel_rfl) (fun _ h => h) ?_
  refine W.seq ?_
  refine W.region (by kernel_rfl) ?_
  obtain ⟨w6, hw6, h⟩ := bind_some h
  refine WO.callK 2 (F := 20) (l := [l40 none a2]) (C := []) (r := l33 (some 1) w6) (by kernel_rfl) (by kernel_rfl) (run_lw1_deps a2 w6 hw6) (e1 := [(0, .int .i64 a1), (1, l40 none a2), (5, .ptr (.agg [.int .i64 a3.f_From, .int .i64 a3.f_To])), (15, .int .i64 a1), (16, l40 none a2), (17, l33 none w6)]) (by kernel_rfl) ?_
  obtain ⟨w7, hw7, h⟩ := bind_some h
  refine WO.callK 1 (F := 25) (l := [.agg [.int .i64 a3.f_From, .int .i64 a3.f_To]]) (C := []) (r := .agg [.int .i64 w7.f_From, .int .i64 w7.f_To]) (by kernel_rfl) (by kernel_rfl) (run_lw1_dep a3 w7 hw7) (e1 := [(0, .int .i64 a1), (1, l40 none a2), (5, .ptr (.agg [.int .i64 a3.f_From, .int .i64 a3.f_To])), (15, .int .i64 a1), (16, l40 none a2), (17, l33 none w6), (18, .agg [.int .i64 a3.f_From, .int .i64 a3.f_To]), (19, .agg [.int .i64 w7.f_From, .int .i64 w7.f_To])]) (by kernel_rfl) ?_
  obtain ⟨w8, hw8, h⟩ := bind_some h
  refine WO.callK 0 (F := 36) (l := [.int .i64 a1, l33 none w6, .agg [.int .i64 w7.f_From, .int .i64 w7.f_To]]) (C := []) (r := .tup [l35 none w8.1, .int .i64 w8.2]) (by kernel_rfl) (by kernel_rfl) (run_dp_Refute fuel a1 w6 w7 w8 hw8) (e1 := [(0, .int .i64 a1), (1, l40 none a2), (5, .ptr (.agg [.int .i64 a3.f_From, .int .i64 a3.f_To])), (15, .int .i64 a1), (16, l40 none a2), (17, l33 none w6), (18, .agg [.int .i64 a3.f_From, .int .i64 a3.f_To]), (19, .agg [.int .i64 w7.f_From, .int .i64 w7.f_To]), (20, .tup [l35 none w8.1, .int .i64 w8.2])]) (by kernel_rfl) ?_
  refine WO.fin [0, 1, 5, 7, 8] [] [] [] (e2 := [(0, .int .i64 a1), (1, l40 none a2), (5, .ptr (.agg [.int .i64 a3.f_From, .int .i64 a3.f_To])), (7, l35 none w8.1), (8, .int .i64 w8.2)]) (by kernel_rfl) (fun _ h => h) ?_
  refine W.seq ?_
  refine W.seq ?_
  refine W.regT [0, 1, 5, 7, 8, 24] [] [] [] (e2 := [(0, .int .i64 a1), (1, l40 none a2), (5, .ptr (.agg [.int .i64 a3.f_From, .int .i64 a3.f_To])), (7, l35 none w8.1), (8, .int .i64 w8.2), (24, .bool (w8.2 != 0))]) (by kernel_rfl) (by kernel_rfl) (fun _ h => h) ?_
  refine W.condB (w8.2 != 0) (by kernel_rfl) (fun hb => ?_) (fun hb => ?_)
  · replace h := cond_t hb h
    refine W.seq ?_
    refine W.join (σ := (Bool)) (fun s => [(6, .bool s)]) (fun s => (lw1_DependRefuted_j11) s = some r) (fun s h => ?_) (fun hK11 => ?_)
    · obtain ⟨v14, rfl⟩ : ∃ x, x = s := ⟨s, rfl⟩
      have h : (lw1_DependRefuted_j11) v14 = some r := h
      unfold lw1_DependRefuted_j11 at h
      refine W.weak [6] [] [] [] (env' := [(6, .bool v14)]) (by kernel_rfl) ?_
      have hr : aresults Try.prog Try.f12 [(6, .bool v14)] = some (.bool v14) := by kernel_rfl
      cases h
      exact W.ret hr
    refine W.region (by kernel_rfl) ?_
    refine WO.boolK 3 (fun b => [(0, .int .i64 a1), (1, l40 none a2), (5, .ptr (.agg [.int .i64 a3.f_From, .int .i64 a3.f_To])), (7, l35 none w8.1), (8, .int .i64 w8.2), (24, .bool (w8.2 != 0)), (25, .int .i64 w8.2), (26, .bool b), (27, .bool b)]) (w8.2 == 2) (by kernel_rfl) (fun hb => ?_) (fun hb => ?_)
    · replace h := cond_t hb h
      obtain ⟨w12, hw12, h⟩ := bind_some h
      refine WO.callK 4 (F := 21) (l := []) (C := []) (r := .bool w12) (by kernel_rfl) (by kernel_rfl) (run_lw1_awake fuel w12 hw12) (e1 := [(0, .int .i64 a1), (1, l40 none a2), (5, .ptr (.agg [.int .i64 a3.f_From, .int .i64 a3.f_To])), (7, l35 none w8.1), (8, .int .i64 w8.2), (24, .bool (w8.2 != 0)), (25, .int .i64 w8.2), (26, .bool true), (27, .bool true), (28, .und), (29, .und), (30, .bool true), (31, .bool true), (32, .bool w12)]) (by kernel_rfl) ?_
      refine WO.fin [6] [] [] [] (e2 := [(6, .bool w12)]) (by kernel_rfl) (fun _ h => h) ?_
      exact hK11 w12 h
    replace h := cond_f hb h
    refine WO.boolK 4 (fun b => [(0, .int .i64 a1), (1, l40 none a2), (5, .ptr (.agg [.int .i64 a3.f_From, .int .i64 a3.f_To])), (7, l35 none w8.1), (8, .int .i64 w8.2), (24, .bool (w8.2 != 0)), (25, .int .i64 w8.2), (26, .bool false), (27, .bool false), (28, .int .i64 w8.2), (29, .bool b), (30, .bool b), (31, .bool b)]) (w8.2 == 5) (by kernel_rfl) (fun hb => ?_) (fun hb => ?_)
    · replace h := cond_t hb h
      obtain ⟨w13, hw13, h⟩ := bind_some h
      refine WO.callK 0 (F := 21) (l := []) (C := []) (r := .bool w13) (by kernel_rfl) (by kernel_rfl) (run_lw1_awake fuel w13 hw13) (e1 := [(0, .int .i64 a1), (1, l40 none a2), (5, .ptr (.agg [.int .i64 a3.f_From, .int .i64 a3.f_To])), (7, l35 none w8.1), (8, .int .i64 w8.2), (24, .bool (w8.2 != 0)), (25, .int .i64 w8.2), (26, .bool false), (27, .bool false), (28, .int .i64 w8.2), (29, .bool true), (30, .bool true), (31, .bool true), (32, .bool w13)]) (by kernel_rfl) ?_
      refine WO.fin [6] [] [] [] (e2 := [(6, .bool w13)]) (by kernel_rfl) (fun _ h => h) ?_
      exact hK11 w13 h
    replace h := cond_f hb h
    refine WO.fin [6] [] [] [] (e2 := [(6, .bool false)]) (by kernel_rfl) (fun _ h => h) ?_
    exact hK11 false h
  replace h := cond_f hb h
  refine W.skip ?_
  refine W.weak [0, 1, 5, 7] [] [] [] (env' := [(0, .int .i64 a1), (1, l40 none a2), (5, .ptr (.agg [.int .i64 a3.f_From, .int .i64 a3.f_To])), (7, l35 none w8.1)]) (by kernel_rfl) ?_
  refine W.seq ?_
  refine W.join (σ := Unit) (fun s => [(0, .int .i64 a1), (5, .ptr (.agg [.int .i64 a3.f_From, .int .i64 a3.f_To])), (7, l35 none w8.1)]) (fun s => (lw1_DependRefuted_j15 fuel a1 a3 w8) = some r) (fun s h => ?_) (fun hK15 => ?_)
  · have h : (lw1_DependRefuted_j15 fuel a1 a3 w8) = some r := h
    unfold lw1_DependRefuted_j15 at h
    refine W.seq ?_
    refine W.region (by kernel_rfl) ?_
    obtain ⟨w26, hw26, h⟩ := bind_some h
    refine WO.callK 3 (F := 25) (l := [.agg [.int .i64 a3.f_From, .int .i64 a3.f_To]]) (C := []) (r := .agg [.int .i64 w26.f_From, .int .i64 w26.f_To]) (by kernel_rfl) (by kernel_rfl) (run_lw1_dep a3 w26 hw26) (e1 := [(0, .int .i64 a1), (5, .ptr (.agg [.int .i64 a3.f_From, .int .i64 a3.f_To])), (7, l35 none w8.1), (56, .int .i64 a1), (57, l35 none w8.1), (58, .agg [.int .i64 a3.f_From, .int .i64 a3.f_To]), (59, .agg [.int .i64 w26.f_From, .int .i64 w26.f_To])]) (by kernel_rfl) ?_
    obtain ⟨w27, hw27, h⟩ := bind_some h
    refine WO.callK 0 (F := 41) (l := [.int .i64 a1, l35 none w8.1, .agg [.int .i64 w26.f_From, .int .i64 w26.f_To]]) (C := []) (r := .tup [.bool w27.1, .int .i64 w27.2]) (by kernel_rfl) (by kernel_rfl) (run_dp_Holds a1 w8.1 w26 w27 hw27) (e1 := [(0, .int .i64 a1), (5, .ptr (.agg [.int .i64 a3.f_From, .int .i64 a3.f_To])), (7, l35 none w8.1), (56, .int .i64 a1), (57, l35 none w8.1), (58, .agg [.int .i64 a3.f_From, .int .i64 a3.f_To]), (59, .agg [.int .i64 w26.f_From, .int .i64 w26.f_To]), (60, .tup [.bool w27.1, .int .i64 w27.2])]) (by kernel_rfl) ?_
    refine WO.fin [8, 13] [] [] [] (e2 := [(8, .int .i64 w27.2), (13, .bool w27.1)]) (by kernel_rfl) (fun _ h => h) ?_
    refine W.seq ?_
    refine W.join (σ := (Bool)) (fun s => [(6, .bool s)]) (fun s => (lw1_DependRefuted_j28) s = some r) (fun s h => ?_) (fun hK28 => ?_)
    · obtain ⟨v30, rfl⟩ : ∃ x, x = s := ⟨s, rfl⟩
      have h : (lw1_DependRefuted_j28) v30 = some r := h
      unfold lw1_DependRefuted_j28 at h
      refine W.weak [6] [] [] [] (env' := [(6, .bool v30)]) (by kernel_rfl) ?_
      have hr : aresults Try.prog Try.f12 [(6, .bool v30)] = some (.bool v30) := by kernel_rfl
      cases h
      exact W.ret hr
    refine W.region (by kernel_rfl) ?_
    refine WO.boolK 3 (fun b => [(8, .int .i64 w27.2), (13, .bool w27.1), (63, .bool w27.1), (64, .bool b), (65, .bool b)]) (!w27.1) (by kernel_rfl) (fun hb => ?_) (fun hb => ?_)
    · replace h := cond_t hb h
      refine WO.boolK 4 (fun b => [(8, .int .i64 w27.2), (13, .bool w27.1), (63, .bool w27.1), (64, .bool true), (65, .bool true), (66, .int .i64 w27.2), (67, .bool b), (68, .bool b), (69, .bool b)]) (w27.2 == 0) (by kernel_rfl) (fun hb => ?_) (fun hb => ?_)
      · replace h := cond_t hb h
        obtain ⟨w29, hw29, h⟩ := bind_some h
        refine WO.callK 0 (F := 21) (l := []) (C := []) (r := .bool w29) (by kernel_rfl) (by kernel_rfl) (run_lw1_awake fuel w29 hw29) (e1 := [(8, .int .i64 w27.2), (13, .bool w27.1), (63, .bool w27.1), (64, .bool true), (65, .bool true), (66, .int .i64 w27.2), (67, .bool true), (68, .bool true), (69, .bool true), (70, .bool w29)]) (by kernel_rfl) ?_
        refine WO.fin [6] [] [] [] (e2 := [(6, .bool w29)]) (by kernel_rfl) (fun _ h => h) ?_
        exact hK28 w29 h
      replace h := cond_f hb h
      refine WO.fin [6] [] [] [] (e2 := [(6, .bool false)]) (by kernel_rfl) (fun _ h => h) ?_
      exact hK28 false h
    replace h := cond_f hb h
    refine WO.fin [6] [] [] [] (e2 := [(6, .bool false)]) (by kernel_rfl) (fun _ h => h) ?_
    exact hK28 false h
  refine W.seq ?_
  refine W.region (by kernel_rfl) ?_
  obtain ⟨w17, hw17, h⟩ := bind_some h
  refine WO.callK 1 (F := 20) (l := [l40 none a2]) (C := []) (r := l33 (some 1) w17) (by kernel_rfl) (by kernel_rfl) (run_lw1_deps a2 w17 hw17) (e1 := [(0, .int .i64 a1), (1, l40 none a2), (5, .ptr (.agg [.int .i64 a3.f_From, .int .i64 a3.f_To])), (7, l35 none w8.1), (34, l40 none a2), (35, l33 (some 35) w17)]) (by kernel_rfl) ?_
  refine WO.pureK 0 (some (.int .i64 ((List.map e_dpDep w17).length : Int))) (v := .int .i64 (w17.length : Int)) (by kernel_rfl) (by rw [List.length_map]) (e1 := [(0, .int .i64 a1), (1, l40 none a2), (5, .ptr (.agg [.int .i64 a3.f_From, .int .i64 a3.f_To])), (7, l35 none w8.1), (34, l40 none a2), (35, l33 (some 35) w17), (36, .int .i64 (w17.length : Int))]) (by kernel_rfl) ?_
  refine WO.fin [0, 5, 7, 35, 36, 37] [] [] [] (e2 := [(0, .int .i64 a1), (5, .ptr (.agg [.int .i64 a3.f_From, .int .i64 a3.f_To])), (7, l35 none w8.1), (35, l33 (some 35) w17), (36, .int .i64 (w17.length : Int)), (37, .int .i64 0)]) (by kernel_rfl) (fun _ h => h) ?_
  refine W.block ?_
  obtain ⟨hl1, h⟩ := chk_some h
  refine W.weak [0, 5, 7, 35, 36, 37] [] [] [] (env' := [(0, .int .i64 a1), (5, .ptr (.agg [.int .i64 a3.f_From, .int .i64 a3.f_To])), (7, l35 none w8.1), (35, l33 (some 35) w17), (36, .int .i64 (w17.length : Int)), (37, .int .i64 ((0 : Nat) : Int))]) (by kernel_rfl) ?_
  refine W.range (σ := Unit) w17 (fun k1 s => [(0, .int .i64 a1), (5, .ptr (.agg [.int .i64 a3.f_From, .int .i64 a3.f_To])), (7, l35 none w8.1), (35, l33 (some 35) w17), (36, .int .i64 (w17.length : Int)), (37, .int .i64 (k1 : Int))]) (fun r0 k0 s => lw1_DependRefuted_l1 a1 w8 (lw1_DependRefuted_j15 fuel a1 a3 w8) r0 k0 = some r) (fun s h => ?_) (fun x1 r1 k1 s hx1 hk1 h hN1 => ?_) () h
  · have h : lw1_DependRefuted_l1 a1 w8 (lw1_DependRefuted_j15 fuel a1 a3 w8) [] (w17).length = some r := h
    rw [lw1_DependRefuted_l1.eq_1] at h
    refine W.seq ?_
    refine W.region (by kernel_rfl) ?_
    refine WO.pureK 0 (some (.bool (decide (((w17).length : Int) < (w17.length : Int))))) (v := .bool false) (by kernel_rfl) (by rw [lt_false (l := w17)]) (e1 := [(0, .int .i64 a1), (5, .ptr (.agg [.int .i64 a3.f_From, .int .i64 a3.f_To])), (7, l35 none w8.1), (35, l33 (some 35) w17), (36, .int .i64 (w17.length : Int)), (37, .int .i64 ((w17).length : Int)), (38, .bool false)]) (by kernel_rfl) ?_
    refine WO.fin ([0, 5, 7, 35, 36, 37, 38]) [] [] [] (e2 := [(0, .int .i64 a1), (5, .ptr (.agg [.int .i64 a3.f_From, .int .i64 a3.f_To])), (7, l35 none w8.1), (35, l33 (some 35) w17), (36, .int .i64 (w17.length : Int)), (37, .int .i64 ((w17).length : Int)), (38, .bool false)]) (by kernel_rfl) (fun _ h => h) ?_
    refine W.seq ?_
    refine W.condB false (by kernel_rfl) (fun h => Bool.noConfusion h) (fun _ => ?_)
    refine W.exit ?_
    refine W.weak [0, 5, 7] [] [] [] (env' := [(0, .int .i64 a1), (5, .ptr (.agg [.int .i64 a3.f_From, .int .i64 a3.f_To])), (7, l35 none w8.1)]) (by kernel_rfl) ?_
    exact hK15 () h
  · have h : lw1_DependRefuted_l1 a1 w8 (lw1_DependRefuted_j15 fuel a1 a3 w8) (x1 :: r1) k1 = some r := h
    rw [lw1_DependRefuted_l1.eq_2] at h
    refine W.seq ?_
    refine W.region (by kernel_rfl) ?_
    refine WO.pureK 0 (some (.bool (decide ((k1 : Int) < (w17.length : Int))))) (v := .bool true) (by kernel_rfl) (by rw [lt_true hk1]) (e1 := [(0, .int .i64 a1), (5, .ptr (.agg [.int .i64 a3.f_From, .int .i64 a3.f_To])), (7, l35 none w8.1), (35, l33 (some 35) w17), (36, .int .i64 (w17.length : Int)), (37, .int .i64 (k1 : Int)), (38, .bool true)]) (by kernel_rfl) ?_
    refine WO.fin ([0, 5, 7, 35, 36, 37, 38]) [] [] [] (e2 := [(0, .int .i64 a1), (5, .ptr (.agg [.int .i64 a3.f_From, .int .i64 a3.f_To])), (7, l35 none w8.1), (35, l33 (some 35) w17), (36, .int .i64 (w17.length : Int)), (37, .int .i64 (k1 : Int)), (38, .bool true)]) (by kernel_rfl) (fun _ h => h) ?_
    refine W.seq ?_
    refine W.condB true (by kernel_rfl) (fun _ => ?_) (fun h => Bool.noConfusion h)
    refine W.skip ?_
    refine W.weak [0, 5, 7, 35, 36, 37] [] [] [] (env' := [(0, .int .i64 a1), (5, .ptr (.agg [.int .i64 a3.f_From, .int .i64 a3.f_To])), (7, l35 none w8.1), (35, l33 (some 35) w17), (36, .int .i64 (w17.length : Int)), (37, .int .i64 (k1 : Int))]) (by kernel_rfl) ?_
    refine W.seq ?_
    refine W.block ?_
    refine W.seq ?_
    refine W.region (by kernel_rfl) ?_
    refine WO.pureK 0 (if (0 : Int) ≤ (k1 : Int) then ((List.map e_dpDep w17)[Int.toNat (k1 : Int)]?).map AV.ptr else none) (v := .ptr (.agg [.int .i64 x1.f_From, .int .i64 x1.f_To])) (by kernel_rfl) (idx_nat (f := e_dpDep) hx1) (e1 := [(0, .int .i64 a1), (5, .ptr (.agg [.int .i64 a3.f_From, .int .i64 a3.f_To])), (7, l35 none w8.1), (35, l33 (some 35) w17), (36, .int .i64 (w17.length : Int)), (37, .int .i64 (k1 : Int)), (39, .ptr (.agg [.int .i64 x1.f_From, .int .i64 x1.f_To]))]) (by kernel_rfl) ?_
    refine WO.fin [0, 5, 7, 10, 35, 36, 37] [10] [] [] (e2 := [(0, .int .i64 a1), (5, .ptr (.agg [.int .i64 a3.f_From, .int .i64 a3.f_To])), (7, l35 none w8.1), (10, .ptr (.agg [.int .i64 x1.f_From, .int .i64 x1.f_To])), (35, l33 (some 35) w17), (36, .int .i64 (w17.length : Int)), (37, .int .i64 (k1 : Int))]) (by kernel_rfl) (fun _ h => h) ?_
    refine W.seq ?_
    refine W.region (by kernel_rfl) ?_
    obtain ⟨w21, hw21, h⟩ := bind_some h
    refine WO.callK 3 (F := 41) (l := [.int .i64 a1, l35 none w8.1, .agg [.int .i64 x1.f_From, .int .i64 x1.f_To]]) (C := []) (r := .tup [.bool w21.1, .int .i64 w21.2]) (by kernel_rfl) (by kernel_rfl) (run_dp_Holds a1 w8.1 x1 w21 hw21) (e1 := [(0, .int .i64 a1), (5, .ptr (.agg [.int .i64 a3.f_From, .int .i64 a3.f_To])), (7, l35 none w8.1), (10, .ptr (.agg [.int .i64 x1.f_From, .int .i64 x1.f_To])), (35, l33 (some 35) w17), (36, .int .i64 (w17.length : Int)), (37, .int .i64 (k1 : Int)), (42, .int .i64 a1), (43, l35 none w8.1), (44, .agg [.int .i64 x1.f_From, .int .i64 x1.f_To]), (45, .tup [.bool w21.1, .int .i64 w21.2])]) (by kernel_rfl) ?_
    refine WO.fin [0, 5, 7, 11, 12, 35, 36, 37] [] [] [] (e2 := [(0, .int .i64 a1), (5, .ptr (.agg [.int .i64 a3.f_From, .int .i64 a3.f_To])), (7, l35 none w8.1), (11, .bool w21.1), (12, .int .i64 w21.2), (35, l33 (some 35) w17), (36, .int .i64 (w17.length : Int)), (37, .int .i64 (k1 : Int))]) (by kernel_rfl) (fun _ h => h) ?_
    refine W.seq ?_
    refine W.join (σ := (Bool)) (fun s => [(0, .int .i64 a1), (5, .ptr (.agg [.int .i64 a3.f_From, .int .i64 a3.f_To])), (7, l35 none w8.1), (35, l33 (some 35) w17), (36, .int .i64 (w17.length : Int)), (37, .int .i64 (k1 : Int)), (53, .bool s)]) (fun s => (lw1_DependRefuted_j22 (lw1_DependRefuted_l1 a1 w8 (lw1_DependRefuted_j15 fuel a1 a3 w8) r1 (k1 + 1))) s = some r) (fun s h => ?_) (fun hK22 => ?_)
    · obtain ⟨v23, rfl⟩ : ∃ x, x = s := ⟨s, rfl⟩
      have h : (lw1_DependRefuted_j22 (lw1_DependRefuted_l1 a1 w8 (lw1_DependRefuted_j15 fuel a1 a3 w8) r1 (k1 + 1))) v23 = some r := h
      unfold lw1_DependRefuted_j22 at h
      refine W.condB v23 (by kernel_rfl) (fun hb => ?_) (fun hb => ?_)
      · replace h := cond_t hb h
        refine W.seq ?_
        refine W.regT [6] [] [] [] (e2 := [(6, .bool false)]) (by kernel_rfl) (by kernel_rfl) (fun _ h => h) ?_
        refine W.weak [6] [] [] [] (env' := [(6, .bool false)]) (by kernel_rfl) ?_
        have hr : aresults Try.prog Try.f12 [(6, .bool false)] = some (.bool false) := by kernel_rfl
        cases h
        exact W.ret hr
      replace h := cond_f hb h
      refine W.skip ?_
      refine W.weak [0, 5, 7, 35, 36, 37] [] [] [] (env' := [(0, .int .i64 a1), (5, .ptr (.agg [.int .i64 a3.f_From, .int .i64 a3.f_To])), (7, l35 none w8.1), (35, l33 (some 35) w17), (36, .int .i64 (w17.length : Int)), (37, .int .i64 (k1 : Int))]) (by kernel_rfl) ?_
      refine W.region (by kernel_rfl) ?_
      refine WO.pureK 0 (some (.int .i64 (IntKind.wrap .i64 ((k1 : Int) + 1)))) (v := .int .i64 ((k1 + 1 : Nat) : Int)) (by kernel_rfl) (by rw [wrap_succ hl1 hk1]) (e1 := [(0, .int .i64 a1), (5, .ptr (.agg [.int .i64 a3.f_From, .int .i64 a3.f_To])), (7, l35 none w8.1), (35, l33 (some 35) w17), (36, .int .i64 (w17.length : Int)), (37, .int .i64 (k1 : Int)), (54, .int .i64 ((k1 + 1 : Nat) : Int))]) (by kernel_rfl) ?_
      refine WO.fin [0, 5, 7, 35, 36, 37] [] [] [] (e2 := [(0, .int .i64 a1), (5, .ptr (.agg [.int .i64 a3.f_From, .int .i64 a3.f_To])), (7, l35 none w8.1), (35, l33 (some 35) w17), (36, .int .i64 (w17.length : Int)), (37, .int .i64 ((k1 + 1 : Nat) : Int))]) (by kernel_rfl) (fun _ h => h) ?_
      exact hN1 () h
    refine W.region (by kernel_rfl) ?_
    refine WO.boolK 3 (fun b => [(0, .int .i64 a1), (5, .ptr (.agg [.int .i64 a3.f_From, .int .i64 a3.f_To])), (7, l35 none w8.1), (11, .bool w21.1), (12, .int .i64 w21.2), (35, l33 (some 35) w17), (36, .int .i64 (w17.length : Int)), (37, .int .i64 (k1 : Int)), (48, .bool w21.1), (49, .bool b), (50, .bool b)]) (!w21.1) (by kernel_rfl) (fun hb => ?_) (fun hb => ?_)
    · replace h := cond_t hb h
      refine WO.fin [0, 5, 7, 35, 36, 37, 53] [] [] [] (e2 := [(0, .int .i64 a1), (5, .ptr (.agg [.int .i64 a3.f_From, .int .i64 a3.f_To])), (7, l35 none w8.1), (35, l33 (some 35) w17), (36, .int .i64 (w17.length : Int)), (37, .int .i64 (k1 : Int)), (53, .bool true)]) (by kernel_rfl) (fun _ h => h) ?_
      exact hK22 true h
    replace h := cond_f hb h
    refine WO.fin [0, 5, 7, 35, 36, 37, 53] [] [] [] (e2 := [(0, .int .i64 a1), (5, .ptr (.agg [.int .i64 a3.f_From, .int .i64 a3.f_To])), (7, l35 none w8.1), (35, l33 (some 35) w17), (36, .int .i64 (w17.length : Int)), (37, .int .i64 (k1 : Int)), (53, .bool (w21.2 != 0))]) (by kernel_rfl) (fun _ h => h) ?_
    exact hK22 (w21.2 != 0) h
def dp_violation_j4 (v18 : Int) (v19 : Int) : Option (dpDep × Bool) :=
  (some ((dpDep.mk 0 0), false))
def dp_violation_j14 (k1 : Nat) (a2 : Int) (w13 : Int) (K8 : (Option (dpDep × Bool))) (v16 : Bool) : Option (dpDep × Bool) :=
  (bif v16 then (some ((dpDep.mk (k1 : Int) (iAndNot .i64 (iAnd .i64 w13 a2) (k1 : Int))), true)) else K8)
def dp_violation_j8 (v6 : Int) (v7 : Int) (N1 : (Int → Int → Option (dpDep × Bool))) : Option (dpDep × Bool) :=
  (N1 v6 v7)
def dp_violation_l1 (g1 : (Int → Option Int)) (a2 : Int) (K4 : (Int → Int → Option (dpDep × Bool))) : List Nat → Nat → Int → Int → Option (dpDep × Bool)
  | [], k1, v6, v7 => (K4 v6 v7)
  | x1 :: r1, k1, v6, v7 => (bif ((iAndNot .i64 (k1 : Int) a2) != 0) then (dp_violation_j8 v6 v7 (dp_violation_l1 g1 a2 K4 r1 (k1 + 1))) else ((g1 (k1 : Int)).bind fun w13 => (bif ((iAndNot .i64 (iAnd .i64 w13 a2) (k1 : Int)) != 0) then ((g1 (k1 : Int)).bind fun w15 => ((dp_violation_j14 k1 a2 w13 (dp_violation_j8 v6 v7 (dp_violation_l1 g1 a2 K4 r1 (k1 + 1)))) ((iAndNot .i64 a2 w15) != 0))) else ((dp_violation_j14 k1 a2 w13 (dp_violation_j8 v6 v7 (dp_violation_l1 g1 a2 K4 r1 (k1 + 1)))) false))))
def dp_violation (g1 : (Int → Option Int)) (a2 : Int) : Option (dpDep × Bool) :=
  (chk (lenOk (List.range (Int.toNat (IntKind.wrap .i64 (a2 + 1))))) (dp_violation_l1 g1 a2 (dp_violation_j4) (List.range (Int.toNat (IntKind.wrap .i64 (a2 + 1)))) 0 0 0))
theorem run_dp_violation (g1 : (Int → Option Int)) (F_g1 : Nat) (C_g1 : List AV) (hok_g1 : okFn Try.prog F_g1 = true) (hrun_g1 : ∀ (x0 : Int) r, g1 x0 = some r → Run Try.prog (.call F_g1 ([.int .i64 x0] ++ C_g1) (.int .i64 r))) (a2 : Int) (r : (dpDep × Bool)) (h : dp_violation g1 a2 = some r) : Run Try.prog (.call 68 [.clo F_g1 C_g1, .int .i64 a2] (.tup [.agg [.int .i64 r.1.f_From, .int .i64 r.1.f_To], .bool r.2])) := by
  refine call_of_W Try.func68 rfl (by kernel_rfl) (env0 := [(0, .clo F_g1 C_g1), (1, .int .i64 a2)]) (by kernel_rfl) ?_
  unfold dp_violation at h
  refine W.seq ?_
  refine W.regT [0, 1, 4] [] [] [] (e2 := [(0, .clo F_g1 C_g1), (1, .int .i64 a2), (4, .box [.int .i64 0, .int .i64 0])]) (by kernel_rfl) (by kernel_rfl) (fun _ h => h) ?_
  refine W.seq ?_
  refine W.join (σ := (Int × Int)) (fun s => [(4, .box [.int .i64 s.1, .int .i64 s.2])]) (fun s => (dp_violation_j4) s.1 s.2 = some r) (fun s h => ?_) (fun hK4 => ?_)
  · obtain ⟨v18, v19⟩ := s
    have h : (dp_violation_j4) v18 v19 = some r := h
    unfold dp_violation_j4 at h
    refine W.seq ?_
    refine W.regT [4, 5] [] [] [] (e2 := [(4, .box [.int .i64 0, .int .i64 0]), (5, .bool false)]) (by kernel_rfl) (by kernel_rfl) (fun _ h => h) ?_
    refine W.weak [4, 5] [] [] [] (env' := [(4, .box [.int .i64 0, .int .i64 0]), (5, .bool false)]) (by kernel_rfl) ?_
    have hr : aresults Try.prog Try.f68 [(4, .box [.int .i64 0, .int .i64 0]), (5, .bool false)] = some (.tup [.agg [.int .i64 0, .int .i64 0], .bool false]) := by kernel_rfl
    cases h
    exact W.ret hr
  refine W.seq ?_
  refine W.regT [0, 1, 4, 9, 10] [] [] [] (e2 := [(0, .clo F_g1 C_g1), (1, .int .i64 a2), (4, .box [.int .i64 0, .int .i64 0]), (9, .int .i64 (IntKind.wrap .i64 (a2 + 1))), (10, .int .i64 0)]) (by kernel_rfl) (by kernel_rfl) (fun _ h => h) ?_
  refine W.block ?_
  obtain ⟨hl1, h⟩ := chk_some h
  refine W.weak [0, 1, 4, 9, 10] [] [] [] (env' := [(0, .clo F_g1 C_g1), (1, .int .i64 a2), (4, .box [.int .i64 0, .int .i64 0]), (9, .int .i64 (IntKind.wrap .i64 (a2 + 1))), (10, .int .i64 ((0 : Nat) : Int))]) (by kernel_rfl) ?_
  refine W.range (σ := (Int × Int)) (List.range (Int.toNat (IntKind.wrap .i64 (a2 + 1)))) (fun k1 s => [(0, .clo F_g1 C_g1), (1, .int .i64 a2), (4, .box [.int .i64 s.1, .int .i64 s.2]), (9, .int .i64 (IntKind.wrap .i64 (a2 + 1))), (10, .int .i64 (k1 : Int))]) (fun r0 k0 s => dp_violation_l1 g1 a2 (dp_violation_j4) r0 k0 s.1 s.2 = some r) (fun s h => ?_) (fun x1 r1 k1 s hx1 hk1 h hN1 => ?_) (0, 0) h
  · obtain ⟨v6, v7⟩ := s
    have h : dp_violation_l1 g1 a2 (dp_violation_j4) [] ((List.range (Int.toNat (IntKind.wrap .i64 (a2 + 1))))).length v6 v7 = some r := h
    rw [dp_violation_l1.eq_1] at h
    refine W.seq ?_
    refine W.region (by kernel_rfl) ?_
    refine WO.pureK 0 (some (.bool (decide ((((List.range (Int.toNat (IntKind.wrap .i64 (a2 + 1))))).length : Int) < (IntKind.wrap .i64 (a2 + 1)))))) (v := .bool false) (by kernel_rfl) (by rw [ltr_false (n := (IntKind.wrap .i64 (a2 + 1)))]) (e1 := [(0, .clo F_g1 C_g1), (1, .int .i64 a2), (4, .box [.int .i64 v6, .int .i64 v7]), (9, .int .i64 (IntKind.wrap .i64 (a2 + 1))), (10, .int .i64 (((List.range (Int.toNat (IntKind.wrap .i64 (a2 + 1))))).length : Int)), (11, .bool false)]) (by kernel_rfl) ?_
    refine WO.fin ([0, 1, 4, 9, 10, 11]) [] [] [] (e2 := [(0, .clo F_g1 C_g1), (1, .int .i64 a2), (4, .box [.int .i64 v6, .int .i64 v7]), (9, .int .i64 (IntKind.wrap .i64 (a2 + 1))), (10, .int .i64 (((List.range (Int.toNat (IntKind.wrap .i64 (a2 + 1))))).length : Int)), (11, .bool false)]) (by kernel_rfl) (fun _ h => h) ?_
    refine W.seq ?_
    refine W.condB false (by kernel_rfl) (fun h => Bool.noConfusion h) (fun _ => ?_)
    refine W.exit ?_
    refine W.weak [4] [] [] [] (env' := [(4, .box [.int .i64 v6, .int .i64 v7])]) (by kernel_rfl) ?_
    exact hK4 (v6, v7) h
  · obtain ⟨v6, v7⟩ := s
    have h : dp_violation_l1 g1 a2 (dp_violation_j4) (x1 :: r1) k1 v6 v7 = some r := h
    rw [dp_violation_l1.eq_2] at h
    refine W.seq ?_
    refine W.region (by kernel_rfl) ?_
    refine WO.pureK 0 (some (.bool (decide ((k1 : Int) < (IntKind.wrap .i64 (a2 + 1)))))) (v := .bool true) (by kernel_rfl) (by rw [ltr_true hk1]) (e1 := [(0, .clo F_g1 C_g1), (1, .int .i64 a2), (4, .box [.int .i64 v6, .int .i64 v7]), (9, .int .i64 (IntKind.wrap .i64 (a2 + 1))), (10, .int .i64 (k1 : Int)), (11, .bool true)]) (by kernel_rfl) ?_
    refine WO.fin ([0, 1, 4, 9, 10, 11]) [] [] [] (e2 := [(0, .clo F_g1 C_g1), (1, .int .i64 a2), (4, .box [.int .i64 v6, .int .i64 v7]), (9, .int .i64 (IntKind.wrap .i64 (a2 + 1))), (10, .int .i64 (k1 : Int)), (11, .bool true)]) (by kernel_rfl) (fun _ h => h) ?_
    refine W.seq ?_
    refine W.condB true (by kernel_rfl) (fun _ => ?_) (fun h => Bool.noConfusion h)
    refine W.skip ?_
    refine W.weak [0, 1, 4, 9, 10] [] [] [] (env' := [(0, .clo F_g1 C_g1), (1, .int .i64 a2), (4, .box [.int .i64 v6, .int .i64 v7]), (9, .int .i64 (IntKind.wrap .i64 (a2 + 1))), (10, .int .i64 (k1 : Int))]) (by kernel_rfl) ?_
    refine W.seq ?_
    refine W.join (σ := Unit) (fun s => [(0, .clo F_g1 C_g1), (1, .int .i64 a2), (4, .box [.int .i64 v6, .int .i64 v7]), (9, .int .i64 (IntKind.wrap .i64 (a2 + 1))), (10, .int .i64 (k1 : Int))]) (fun s => (dp_violation_j8 v6 v7 (dp_violation_l1 g1 a2 (dp_violation_j4) r1 (k1 + 1))) = some r) (fun s h => ?_) (fun hK8 => ?_)
    · have h : (dp_violation_j8 v6 v7 (dp_violation_l1 g1 a2 (dp_violation_j4) r1 (k1 + 1))) = some r := h
      unfold dp_violation_j8 at h
      refine W.region (by kernel_rfl) ?_
      refine WO.pureK 0 (some (.int .i64 (IntKind.wrap .i64 ((k1 : Int) + 1)))) (v := .int .i64 ((k1 + 1 : Nat) : Int)) (by kernel_rfl) (by rw [wrap_succ hl1 hk1]) (e1 := [(0, .clo F_g1 C_g1), (1, .int .i64 a2), (4, .box [.int .i64 v6, .int .i64 v7]), (9, .int .i64 (IntKind.wrap .i64 (a2 + 1))), (10, .int .i64 (k1 : Int)), (37, .int .i64 ((k1 + 1 : Nat) : Int))]) (by kernel_rfl) ?_
      refine WO.fin [0, 1, 4, 9, 10] [] [] [] (e2 := [(0, .clo F_g1 C_g1), (1, .int .i64 a2), (4, .box [.int .i64 v6, .int .i64 v7]), (9, .int .i64 (IntKind.wrap .i64 (a2 + 1))), (10, .int .i64 ((k1 + 1 : Nat) : Int))]) (by kernel_rfl) (fun _ h => h) ?_
      exact hN1 (v6, v7) h
    refine W.block ?_
    refine W.seq ?_
    refine W.regT [0, 1, 4, 6, 9, 10] [] [] [] (e2 := [(0, .clo F_g1 C_g1), (1, .int .i64 a2), (4, .box [.int .i64 v6, .int .i64 v7]), (6, .int .i64 (k1 : Int)), (9, .int .i64 (IntKind.wrap .i64 (a2 + 1))), (10, .int .i64 (k1 : Int))]) (by kernel_rfl) (by kernel_rfl) (fun _ h => h) ?_
    refine W.seq ?_
    refine W.seq ?_
    refine W.regT [0, 1, 4, 6, 9, 10, 16] [] [] [] (e2 := [(0, .clo F_g1 C_g1), (1, .int .i64 a2), (4, .box [.int .i64 v6, .int .i64 v7]), (6, .int .i64 (k1 : Int)), (9, .int .i64 (IntKind.wrap .i64 (a2 + 1))), (10, .int .i64 (k1 : Int)), (16, .bool ((iAndNot .i64 (k1 : Int) a2) != 0))]) (by kernel_rfl) (by kernel_rfl) (fun _ h => h) ?_
    refine W.condB ((iAndNot .i64 (k1 : Int) a2) != 0) (by kernel_rfl) (fun hb => ?_) (fun hb => ?_)
    · replace h := cond_t hb h
      refine W.exit ?_
      refine W.weak [0, 1, 4, 9, 10] [] [] [] (env' := [(0, .clo F_g1 C_g1), (1, .int .i64 a2), (4, .box [.int .i64 v6, .int .i64 v7]), (9, .int .i64 (IntKind.wrap .i64 (a2 + 1))), (10, .int .i64 (k1 : Int))]) (by kernel_rfl) ?_
      exact hK8 () h
    replace h := cond_f hb h
    refine W.skip ?_
    refine W.weak [0, 1, 4, 6, 9, 10] [] [] [] (env' := [(0, .clo F_g1 C_g1), (1, .int .i64 a2), (4, .box [.int .i64 v6, .int .i64 v7]), (6, .int .i64 (k1 : Int)), (9, .int .i64 (IntKind.wrap .i64 (a2 + 1))), (10, .int .i64 (k1 : Int))]) (by kernel_rfl) ?_
    refine W.seq ?_
    refine W.region (by kernel_rfl) ?_
    obtain ⟨w13, hw13, h⟩ := bind_some h
    refine WO.callK 2 (F := F_g1) (l := [.int .i64 (k1 : Int)]) (C := C_g1) (r := .int .i64 w13) (by kernel_rfl) hok_g1 (hrun_g1 (k1 : Int) w13 hw13) (e1 := [(0, .clo F_g1 C_g1), (1, .int .i64 a2), (4, .box [.int .i64 v6, .int .i64 v7]), (6, .int .i64 (k1 : Int)), (9, .int .i64 (IntKind.wrap .i64 (a2 + 1))), (10, .int .i64 (k1 : Int)), (17, .clo F_g1 C_g1), (18, .int .i64 (k1 : Int)), (19, .int .i64 w13)]) (by kernel_rfl) ?_
    refine WO.fin [0, 1, 4, 6, 7, 9, 10] [] [] [] (e2 := [(0, .clo F_g1 C_g1), (1, .int .i64 a2), (4, .box [.int .i64 v6, .int .i64 v7]), (6, .int .i64 (k1 : Int)), (7, .int .i64 (iAndNot .i64 (iAnd .i64 w13 a2) (k1 : Int))), (9, .int .i64 (IntKind.wrap .i64 (a2 + 1))), (10, .int .i64 (k1 : Int))]) (by kernel_rfl) (fun _ h => h) ?_
    refine W.seq ?_
    refine W.join (σ := (Bool)) (fun s => [(0, .clo F_g1 C_g1), (1, .int .i64 a2), (4, .box [.int .i64 v6, .int .i64 v7]), (6, .int .i64 (k1 : Int)), (7, .int .i64 (iAndNot .i64 (iAnd .i64 w13 a2) (k1 : Int))), (9, .int .i64 (IntKind.wrap .i64 (a2 + 1))), (10, .int .i64 (k1 : Int)), (33, .bool s)]) (fun s => (dp_violation_j14 k1 a2 w13 (dp_violation_j8 v6 v7 (dp_violation_l1 g1 a2 (dp_violation_j4) r1 (k1 + 1)))) s = some r) (fun s h => ?_) (fun hK14 => ?_)
    · obtain ⟨v16, rfl⟩ : ∃ x, x = s := ⟨s, rfl⟩
      have h : (dp_violation_j14 k1 a2 w13 (dp_violation_j8 v6 v7 (dp_violation_l1 g1 a2 (dp_violation_j4) r1 (k1 + 1)))) v16 = some r := h
      unfold dp_violation_j14 at h
      refine W.condB v16 (by kernel_rfl) (fun hb => ?_) (fun hb => ?_)
      · replace h := cond_t hb h
        refine W.seq ?_
        refine W.regT [4, 5] [] [] [] (e2 := [(4, .box [.int .i64 (k1 : Int), .int .i64 (iAndNot .i64 (iAnd .i64 w13 a2) (k1 : Int))]), (5, .bool true)]) (by kernel_rfl) (by kernel_rfl) (fun _ h => h) ?_
        refine W.weak [4, 5] [] [] [] (env' := [(4, .box [.int .i64 (k1 : Int), .int .i64 (iAndNot .i64 (iAnd .i64 w13 a2) (k1 : Int))]), (5, .bool true)]) (by kernel_rfl) ?_
        have hr : aresults Try.prog Try.f68 [(4, .box [.int .i64 (k1 : Int), .int .i64 (iAndNot .i64 (iAnd .i64 w13 a2) (k1 : Int))]), (5, .bool true)] = some (.tup [.agg [.int .i64 (k1 : Int), .int .i64 (iAndNot .i64 (iAnd .i64 w13 a2) (k1 : Int))], .bool true]) := by kernel_rfl
        cases h
        exact W.ret hr
      replace h := cond_f hb h
      refine W.skip ?_
      refine W.weak [0, 1, 4, 9, 10] [] [] [] (env' := [(0, .clo F_g1 C_g1), (1, .int .i64 a2), (4, .box [.int .i64 v6, .int .i64 v7]), (9, .int .i64 (IntKind.wrap .i64 (a2 + 1))), (10, .int .i64 (k1 : Int))]) (by kernel_rfl) ?_
      exact hK8 () h
    refine W.region (by kernel_rfl) ?_
    refine WO.boolK 3 (fun b => [(0, .clo F_g1 C_g1), (1, .int .i64 a2), (4, .box [.int .i64 v6, .int .i64 v7]), (6, .int .i64 (k1 : Int)), (7, .int .i64 (iAndNot .i64 (iAnd .i64 w13 a2) (k1 : Int))), (9, .int .i64 (IntKind.wrap .i64 (a2 + 1))), (10, .int .i64 (k1 : Int)), (24, .int .i64 (iAndNot .i64 (iAnd .i64 w13 a2) (k1 : Int))), (25, .bool b), (26, .bool b)]) ((iAndNot .i64 (iAnd .i64 w13 a2) (k1 : Int)) != 0) (by kernel_rfl) (fun hb => ?_) (fun hb => ?_)
    · replace h := cond_t hb h
      obtain ⟨w15, hw15, h⟩ := bind_some h
      refine WO.callK 3 (F := F_g1) (l := [.int .i64 (k1 : Int)]) (C := C_g1) (r := .int .i64 w15) (by kernel_rfl) hok_g1 (hrun_g1 (k1 : Int) w15 hw15) (e1 := [(0, .clo F_g1 C_g1), (1, .int .i64 a2), (4, .box [.int .i64 v6, .int .i64 v7]), (6, .int .i64 (k1 : Int)), (7, .int .i64 (iAndNot .i64 (iAnd .i64 w13 a2) (k1 : Int))), (9, .int .i64 (IntKind.wrap .i64 (a2 + 1))), (10, .int .i64 (k1 : Int)), (24, .int .i64 (iAndNot .i64 (iAnd .i64 w13 a2) (k1 : Int))), (25, .bool true), (26, .bool true), (27, .int .i64 a2), (28, .clo F_g1 C_g1), (29, .int .i64 (k1 : Int)), (30, .int .i64 w15)]) (by kernel_rfl) ?_
      refine WO.fin [0, 1, 4, 6, 7, 9, 10, 33] [] [] [] (e2 := [(0, .clo F_g1 C_g1), (1, .int .i64 a2), (4, .box [.int .i64 v6, .int .i64 v7]), (6, .int .i64 (k1 : Int)), (7, .int .i64 (iAndNot .i64 (iAnd .i64 w13 a2) (k1 : Int))), (9, .int .i64 (IntKind.wrap .i64 (a2 + 1))), (10, .int .i64 (k1 : Int)), (33, .bool ((iAndNot .i64 a2 w15) != 0))]) (by kernel_rfl) (fun _ h => h) ?_
      exact hK14 ((iAndNot .i64 a2 w15) != 0) h
    replace h := cond_f hb h
    refine WO.fin [0, 1, 4, 6, 7, 9, 10, 33] [] [] [] (e2 := [(0, .clo F_g1 C_g1), (1, .int .i64 a2), (4, .box [.int .i64 v6, .int .i64 v7]), (6, .int .i64 (k1 : Int)), (7, .int .i64 (iAndNot .i64 (iAnd .i64 w13 a2) (k1 : Int))), (9, .int .i64 (IntKind.wrap .i64 (a2 + 1))), (10, .int .i64 (k1 : Int)), (33, .bool false)]) (by kernel_rfl) (fun _ h => h) ?_
    exact hK14 false h
def dp_Violation_j6 (fuel : Nat) (a2 : (List dpDep)) (a3 : Int) (v9 : Bool) : Option (dpDep × Int) :=
  (bif v9 then (some ((dpDep.mk 0 0), 2)) else ((dp_closure a2).bind fun w12 => ((dp_violation (fun y0 => dp_closure_1 fuel y0 w12) a3).bind fun w13 => (bif (!w13.2) then (some ((dpDep.mk 0 0), 5)) else (some (w13.1, 0))))))
def dp_Violation (fuel : Nat) (a1 : Int) (a2 : (List dpDep)) (a3 : Int) : Option (dpDep × Int) :=
  ((dp_valid a1 a2).bind fun w7 => (bif (!w7) then ((dp_Violation_j6 fuel a2 a3) true) else ((dp_sets a1 [a3]).bind fun w8 => ((dp_Violation_j6 fuel a2 a3) (!w8)))))
theorem run_dp_Violation (fuel : Nat) (a1 : Int) (a2 : (List dpDep)) (a3 : Int) (r : (dpDep × Int)) (h : dp_Violation fuel a1 a2 a3 = some r) : Run Try.prog (.call 43 [.int .i64 a1, l33 none a2, .int .i64 a3] (.tup [.agg [.int .i64 r.1.f_From, .int .i64 r.1.f_To], .int .i64 r.2])) := by
  refine call_of_W Try.func43 rfl (by kernel_rfl) (env0 := [(0, .int .i64 a1), (1, l33 none a2), (2, .int .i64 a3)]) (by kernel_rfl) ?_
  unfold dp_Violation at h
  refine W.seq ?_
  refine W.regT [0, 1, 2, 6] [] [] [] (e2 := [(0, .int .i64 a1), (1, l33 none a2), (2, .int .i64 a3), (6, .box [.int .i64 0, .int .i64 0])]) (by kernel_rfl) (by kernel_rfl) (fun _ h => h) ?_
  refine W.seq ?_
  refine W.seq ?_
  refine W.join (σ := (Bool)) (fun s => [(1, l33 none a2), (2, .int .i64 a3), (6, .box [.int .i64 0, .int .i64 0]), (20, .bool s)]) (fun s => (dp_Violation_j6 fuel a2 a3) s = some r) (fun s h => ?_) (fun hK6 => ?_)
  · obtain ⟨v9, rfl⟩ : ∃ x, x = s := ⟨s, rfl⟩
    have h : (dp_Violation_j6 fuel a2 a3) v9 = some r := h
    unfold dp_Violation_j6 at h
    refine W.condB v9 (by kernel_rfl) (fun hb => ?_) (fun hb => ?_)
    · replace h := cond_t hb h
      refine W.seq ?_
      refine W.regT [6, 7] [] [] [] (e2 := [(6, .box [.int .i64 0, .int .i64 0]), (7, .int .i64 2)]) (by kernel_rfl) (by kernel_rfl) (fun _ h => h) ?_
      refine W.weak [6, 7] [] [] [] (env' := [(6, .box [.int .i64 0, .int .i64 0]), (7, .int .i64 2)]) (by kernel_rfl) ?_
      have hr : aresults Try.prog Try.f43 [(6, .box [.int .i64 0, .int .i64 0]), (7, .int .i64 2)] = some (.tup [.agg [.int .i64 0, .int .i64 0], .int .i64 2]) := by kernel_rfl
      cases h
      exact W.ret hr
    replace h := cond_f hb h
    refine W.skip ?_
    refine W.weak [1, 2, 6] [] [] [] (env' := [(1, l33 none a2), (2, .int .i64 a3), (6, .box [.int .i64 0, .int .i64 0])]) (by kernel_rfl) ?_
    refine W.seq ?_
    refine W.region (by kernel_rfl) ?_
    obtain ⟨w12, hw12, h⟩ := bind_some h
    refine WO.callK 1 (F := 59) (l := [l33 none a2]) (C := []) (r := .clo 77 [.ptr (l33 none w12)]) (by kernel_rfl) (by kernel_rfl) (run_dp_closure a2 w12 hw12) (e1 := [(1, l33 none a2), (2, .int .i64 a3), (6, .box [.int .i64 0, .int .i64 0]), (23, l33 none a2), (24, .clo 77 [.ptr (l33 none w12)])]) (by kernel_rfl) ?_
    obtain ⟨w13, hw13, h⟩ := bind_some h
    refine WO.callK 1 (F := 68) (l := [.clo 77 [.ptr (l33 none w12)], .int .i64 a3]) (C := []) (r := .tup [.agg [.int .i64 w13.1.f_From, .int .i64 w13.1.f_To], .bool w13.2]) (by kernel_rfl) (by kernel_rfl) (run_dp_violation (fun y0 => dp_closure_1 fuel y0 w12) 77 [.ptr (l33 none w12)] (by kernel_rfl) (fun y0 r h => run_dp_closure_1 fuel y0 w12 r h) a3 w13 hw13) (e1 := [(1, l33 none a2), (2, .int .i64 a3), (6, .box [.int .i64 0, .int .i64 0]), (23, l33 none a2), (24, .clo 77 [.ptr (l33 none w12)]), (25, .int .i64 a3), (26, .tup [.agg [.int .i64 w13.1.f_From, .int .i64 w13.1.f_To], .bool w13.2])]) (by kernel_rfl) ?_
    refine WO.fin [6, 8, 9] [8] [] [] (e2 := [(6, .box [.int .i64 0, .int .i64 0]), (8, .ptr (.agg [.int .i64 w13.1.f_From, .int .i64 w13.1.f_To])), (9, .bool w13.2)]) (by kernel_rfl) (fun _ h => h) ?_
    refine W.seq ?_
    refine W.seq ?_
    refine W.regT [6, 8, 30] [] [] [] (e2 := [(6, .box [.int .i64 0, .int .i64 0]), (8, .ptr (.agg [.int .i64 w13.1.f_From, .int .i64 w13.1.f_To])), (30, .bool (!w13.2))]) (by kernel_rfl) (by kernel_rfl) (fun _ h => h) ?_
    refine W.condB (!w13.2) (by kernel_rfl) (fun hb => ?_) (fun hb => ?_)
    · replace h := cond_t hb h
      refine W.seq ?_
      refine W.regT [6, 7] [] [] [] (e2 := [(6, .box [.int .i64 0, .int .i64 0]), (7, .int .i64 5)]) (by kernel_rfl) (by kernel_rfl) (fun _ h => h) ?_
      refine W.weak [6, 7] [] [] [] (env' := [(6, .box [.int .i64 0, .int .i64 0]), (7, .int .i64 5)]) (by kernel_rfl) ?_
      have hr : aresults Try.prog Try.f43 [(6, .box [.int .i64 0, .int .i64 0]), (7, .int .i64 5)] = some (.tup [.agg [.int .i64 0, .int .i64 0], .int .i64 5]) := by kernel_rfl
      cases h
      exact W.ret hr
    replace h := cond_f hb h
    refine W.skip ?_
    refine W.weak [6, 8] [] [] [] (env' := [(6, .box [.int .i64 0, .int .i64 0]), (8, .ptr (.agg [.int .i64 w13.1.f_From, .int .i64 w13.1.f_To]))]) (by kernel_rfl) ?_
    refine W.seq ?_
    refine W.regT [6, 7] [] [] [] (e2 := [(6, .box [.int .i64 w13.1.f_From, .int .i64 w13.1.f_To]), (7, .int .i64 0)]) (by kernel_rfl) (by kernel_rfl) (fun _ h => h) ?_
    refine W.weak [6, 7] [] [] [] (env' := [(6, .box [.int .i64 w13.1.f_From, .int .i64 w13.1.f_To]), (7, .int .i64 0)]) (by kernel_rfl) ?_
    have hr : aresults Try.prog Try.f43 [(6, .box [.int .i64 w13.1.f_From, .int .i64 w13.1.f_To]), (7, .int .i64 0)] = some (.tup [.agg [.int .i64 w13.1.f_From, .int .i64 w13.1.f_To], .int .i64 0]) := by kernel_rfl
    cases h
    exact W.ret hr
  refine W.region (by kernel_rfl) ?_
  obtain ⟨w7, hw7, h⟩ := bind_some h
  refine WO.callK 2 (F := 57) (l := [.int .i64 a1, l33 none a2]) (C := []) (r := .bool w7) (by kernel_rfl) (by kernel_rfl) (run_dp_valid a1 a2 w7 hw7) (e1 := [(0, .int .i64 a1), (1, l33 none a2), (2, .int .i64 a3), (6, .box [.int .i64 0, .int .i64 0]), (10, .int .i64 a1), (11, l33 none a2), (12, .bool w7)]) (by kernel_rfl) ?_
  refine WO.boolK 2 (fun b => [(0, .int .i64 a1), (1, l33 none a2), (2, .int .i64 a3), (6, .box [.int .i64 0, .int .i64 0]), (10, .int .i64 a1), (11, l33 none a2), (12, .bool w7), (13, .bool b), (14, .bool b)]) (!w7) (by kernel_rfl) (fun hb => ?_) (fun hb => ?_)
  · replace h := cond_t hb h
    refine WO.fin [1, 2, 6, 20] [] [] [] (e2 := [(1, l33 none a2), (2, .int .i64 a3), (6, .box [.int .i64 0, .int .i64 0]), (20, .bool true)]) (by kernel_rfl) (fun _ h => h) ?_
    exact hK6 true h
  replace h := cond_f hb h
  obtain ⟨w8, hw8, h⟩ := bind_some h
  refine WO.callK 3 (F := 58) (l := [.int .i64 a1, l3 none [a3]]) (C := []) (r := .bool w8) (by kernel_rfl) (by kernel_rfl) (run_dp_sets a1 [a3] w8 hw8) (e1 := [(0, .int .i64 a1), (1, l33 none a2), (2, .int .i64 a3), (6, .box [.int .i64 0, .int .i64 0]), (10, .int .i64 a1), (11, l33 none a2), (12, .bool w7), (13, .bool false), (14, .bool false), (15, .int .i64 a1), (16, .int .i64 a3), (17, l3 (some 17) [a3]), (18, .bool w8)]) (by kernel_rfl) ?_
  refine WO.fin [1, 2, 6, 20] [] [] [] (e2 := [(1, l33 none a2), (2, .int .i64 a3), (6, .box [.int .i64 0, .int .i64 0]), (20, .bool (!w8))]) (by kernel_rfl) (fun _ h => h) ?_
  exact hK6 (!w8) h

end Go.AM
