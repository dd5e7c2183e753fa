/- PRINTED by gen.py: pure functions and the proofs that the code computes them. No statement of the seat is proved here. -/
import Derived.Test.YtoiejpkfpjingaaK4T
set_option maxRecDepth 100000
set_option linter.unusedVariables false
set_option linter.unusedSimpArgs false
namespace Go.AM
open Go.Proofs
def hs_History_from_j6 (v35 : (List Int)) : Option (List Int) :=
  (some v35)
def hs_History_from_j16 (v8 : (List Int)) (K9 : ((List Int) → Option (List Int))) (v32 : Int) : Option (List Int) :=
  (chk (capOk 8 ((v8 ++ [v32])).length) (K9 (v8 ++ [v32])))
def hs_History_from_j9 (N1 : ((List Int) → Option (List Int))) (v34 : (List Int)) : Option (List Int) :=
  (N1 v34)
def hs_History_from_j29 (v18 : Int) (v19 : Int) (e24 : hsOp) (N2 : (Int → Int → Option (List Int))) (K16 : (Int → Option (List Int))) (v30 : Bool) : Option (List Int) :=
  (bif v30 then (K16 e24.f_Txn) else (N2 v18 (IntKind.wrap .i64 (v19 - 1))))
def hs_History_from_j25 (x1 : hsOp) (v18 : Int) (v19 : Int) (e24 : hsOp) (N2 : (Int → Int → Option (List Int))) (K16 : (Int → Option (List Int))) (v28 : Bool) : Option (List Int) :=
  (bif (e24.f_Kind == 1) then (bif (e24.f_Item == x1.f_Item) then ((hs_History_from_j29 v18 v19 e24 N2 K16) (!v28)) else ((hs_History_from_j29 v18 v19 e24 N2 K16) false)) else ((hs_History_from_j29 v18 v19 e24 N2 K16) false))
def hs_History_from_l2 (a1 : (List hsOp)) (k1 : Nat) (x1 : hsOp) (w4 : (List (Int × Int))) (K16 : (Int → Option (List Int))) : Nat → Int → Int → Option (List Int)
  | 0, _, _ => none
  | m2 + 1, v18, v19 => (bif (decide (v19 ≥ 0)) then ((idx a1 v19).bind fun e24 => (chk (wfI .i64 e24.f_Txn) (bif (decide ((mget keq1 0 e24.f_Txn w4) ≥ 0)) then (chk (wfI .i64 e24.f_Txn) ((hs_History_from_j25 x1 v18 v19 e24 (hs_History_from_l2 a1 k1 x1 w4 K16 m2) K16) (decide ((mget keq1 0 e24.f_Txn w4) < (k1 : Int))))) else ((hs_History_from_j25 x1 v18 v19 e24 (hs_History_from_l2 a1 k1 x1 w4 K16 m2) K16) false)))) else (K16 v18))
def hs_History_from_l1 (fuel : Nat) (a1 : (List hsOp)) (w4 : (List (Int × Int))) (K6 : ((List Int) → Option (List Int))) : List hsOp → Nat → (List Int) → Option (List Int)
  | [], k1, v8 => (K6 v8)
  | x1 :: r1, k1, v8 => (bif (x1.f_Kind != 0) then (chk (capOk 8 ((v8 ++ [(-1)])).length) ((hs_History_from_j9 (hs_History_from_l1 fuel a1 w4 K6 r1 (k1 + 1))) (v8 ++ [(-1)]))) else (hs_History_from_l2 a1 k1 x1 w4 (hs_History_from_j16 v8 (hs_History_from_j9 (hs_History_from_l1 fuel a1 w4 K6 r1 (k1 + 1)))) fuel 0 (IntKind.wrap .i64 ((k1 : Int) - 1))))
def hs_History_from (fuel : Nat) (a1 : (List hsOp)) : Option (List Int) :=
  ((hs_History_ending fuel a1 3).bind fun w4 => (chk (lenOk a1) (hs_History_from_l1 fuel a1 w4 (hs_History_from_j6) a1 0 ([] : (List Int)))))
theorem run_hs_History_from (fuel : Nat) (a1 : (List hsOp)) (r : (List Int)) (h : hs_History_from fuel a1 = some r) : Run Try.prog (.call 60 [l44 none a1] (l3 (some 1) r)) := by
  refine call_of_W Try.func60 rfl (by kernel_rfl) (env0 := [(0, l44 none a1)]) (by kernel_rfl) ?_
  unfold hs_History_from at h
  refine W.seq ?_
  refine W.regT [0] [] [] [] (e2 := [(0, l44 none a1)]) (by kernel_rfl) (by kernel_rfl) (fun _ h => h) ?_
  refine W.seq ?_
  refine W.region (by kernel_rfl) ?_
  obtain ⟨w4, hw4, h⟩ := bind_some h
  refine WO.callK 1 (F := 62) (l := [l44 none a1, .int .i64 3]) (C := []) (r := mpE (AV.int .i64) (AV.int .i64) w4) (by kernel_rfl) (by kernel_rfl) (run_hs_History_ending fuel a1 3 w4 hw4) (e1 := [(0, l44 none a1), (11, l44 none a1), (12, mpE (AV.int .i64) (AV.int .i64) w4)]) (by kernel_rfl) ?_
  refine WO.fin [0, 3] [] [] [] (e2 := [(0, l44 none a1), (3, mpE (AV.int .i64) (AV.int .i64) w4)]) (by kernel_rfl) (fun _ h => h) ?_
  refine W.seq ?_
  refine W.regT [0, 3, 4] [] [] [] (e2 := [(0, l44 none a1), (3, mpE (AV.int .i64) (AV.int .i64) w4), (4, .nils)]) (by kernel_rfl) (by kernel_rfl) (fun _ h => h) ?_
  refine W.seq ?_
  refine W.join (σ := ((List Int))) (fun s => [(4, l3 (some 10400) s)]) (fun s => (hs_History_from_j6) s = some r) (fun s h => ?_) (fun hK6 => ?_)
  · obtain ⟨v35, rfl⟩ : ∃ x, x = s := ⟨s, rfl⟩
    have h : (hs_History_from_j6) v35 = some r := h
    unfold hs_History_from_j6 at h
    refine W.seq ?_
    refine W.regT [2] [] [] [] (e2 := [(2, l3 (some 10400) v35)]) (by kernel_rfl) (by kernel_rfl) (fun _ h => h) ?_
    refine W.weak [2] [] [] [(10400, some 1)] (env' := [(2, l3 (some 1) v35)]) (by kernel_rfl) ?_
    have hr : aresults Try.prog Try.f60 [(2, l3 (some 1) v35)] = some (l3 (some 1) v35) := by kernel_rfl
    cases h
    exact W.ret hr
  refine W.seq ?_
  refine W.region (by kernel_rfl) ?_
  refine WO.pureK 1 (some (.int .i64 ((List.map e_hsOp a1).length : Int))) (v := .int .i64 (a1.length : Int)) (by kernel_rfl) (by rw [List.length_map]) (e1 := [(0, l44 none a1), (3, mpE (AV.int .i64) (AV.int .i64) w4), (4, .nils), (13, l44 none a1), (14, .int .i64 (a1.length : Int))]) (by kernel_rfl) ?_
  refine WO.fin [0, 3, 4, 13, 14, 15] [] [] [] (e2 := [(0, l44 none a1), (3, mpE (AV.int .i64) (AV.int .i64) w4), (4, .nils), (13, l44 none a1), (14, .int .i64 (a1.length : Int)), (15, .int .i64 0)]) (by kernel_rfl) (fun _ h => h) ?_
  refine W.block ?_
  obtain ⟨hl1, h⟩ := chk_some h
  refine W.weak [0, 3, 4, 13, 14, 15] [] [(4, 0, 3, 1, 10400)] [] (env' := [(0, l44 none a1), (3, mpE (AV.int .i64) (AV.int .i64) w4), (4, l3 (some 10400) ([] : (List Int))), (13, l44 none a1), (14, .int .i64 (a1.length : Int)), (15, .int .i64 ((0 : Nat) : Int))]) (by kernel_rfl) ?_
  refine W.range (σ := ((List Int))) a1 (fun k1 s => [(0, l44 none a1), (3, mpE (AV.int .i64) (AV.int .i64) w4), (4, l3 (some 10400) s), (13, l44 none a1), (14, .int .i64 (a1.length : Int)), (15, .int .i64 (k1 : Int))]) (fun r0 k0 s => hs_History_from_l1 fuel a1 w4 (hs_History_from_j6) r0 k0 s = some r) (fun s h => ?_) (fun x1 r1 k1 s hx1 hk1 h hN1 => ?_) ([] : (List Int)) h
  · obtain ⟨v8, rfl⟩ : ∃ x, x = s := ⟨s, rfl⟩
    have h : hs_History_from_l1 fuel a1 w4 (hs_History_from_j6) [] (a1).length v8 = some r := h
    rw [hs_History_from_l1.eq_1] at h
    refine W.seq ?_
    refine W.region (by kernel_rfl) ?_
    refine WO.pureK 0 (some (.bool (decide (((a1).length : Int) < (a1.length : Int))))) (v := .bool false) (by kernel_rfl) (by rw [lt_false (l := a1)]) (e1 := [(0, l44 none a1), (3, mpE (AV.int .i64) (AV.int .i64) w4), (4, l3 (some 10400) v8), (13, l44 none a1), (14, .int .i64 (a1.length : Int)), (15, .int .i64 ((a1).length : Int)), (16, .bool false)]) (by kernel_rfl) ?_
    refine WO.fin ([0, 3, 4, 13, 14, 15, 16]) [] [] [] (e2 := [(0, l44 none a1), (3, mpE (AV.int .i64) (AV.int .i64) w4), (4, l3 (some 10400) v8), (13, l44 none a1), (14, .int .i64 (a1.length : Int)), (15, .int .i64 ((a1).length : Int)), (16, .bool false)]) (by kernel_rfl) (fun _ h => h) ?_
    refine W.seq ?_
    refine W.condB false (by kernel_rfl) (fun h => Bool.noConfusion h) (fun _ => ?_)
    refine W.exit ?_
    refine W.weak [4] [] [] [] (env' := [(4, l3 (some 10400) v8)]) (by kernel_rfl) ?_
    exact hK6 v8 h
  · obtain ⟨v8, rfl⟩ : ∃ x, x = s := ⟨s, rfl⟩
    have h : hs_History_from_l1 fuel a1 w4 (hs_History_from_j6) (x1 :: r1) k1 v8 = some r := h
    rw [hs_History_from_l1.eq_2] at h
    refine W.seq ?_
    refine W.region (by kernel_rfl) ?_
    refine WO.pureK 0 (some (.bool (decide ((k1 : Int) < (a1.length : Int))))) (v := .bool true) (by kernel_rfl) (by rw [lt_true hk1]) (e1 := [(0, l44 none a1), (3, mpE (AV.int .i64) (AV.int .i64) w4), (4, l3 (some 10400) v8), (13, l44 none a1), (14, .int .i64 (a1.length : Int)), (15, .int .i64 (k1 : Int)), (16, .bool true)]) (by kernel_rfl) ?_
    refine WO.fin ([0, 3, 4, 13, 14, 15, 16]) [] [] [] (e2 := [(0, l44 none a1), (3, mpE (AV.int .i64) (AV.int .i64) w4), (4, l3 (some 10400) v8), (13, l44 none a1), (14, .int .i64 (a1.length : Int)), (15, .int .i64 (k1 : Int)), (16, .bool true)]) (by kernel_rfl) (fun _ h => h) ?_
    refine W.seq ?_
    refine W.condB true (by kernel_rfl) (fun _ => ?_) (fun h => Bool.noConfusion h)
    refine W.skip ?_
    refine W.weak [0, 3, 4, 13, 14, 15] [] [] [] (env' := [(0, l44 none a1), (3, mpE (AV.int .i64) (AV.int .i64) w4), (4, l3 (some 10400) v8), (13, l44 none a1), (14, .int .i64 (a1.length : Int)), (15, .int .i64 (k1 : Int))]) (by kernel_rfl) ?_
    refine W.seq ?_
    refine W.join (σ := ((List Int))) (fun s => [(0, l44 none a1), (3, mpE (AV.int .i64) (AV.int .i64) w4), (4, l3 (some 10400) s), (13, l44 none a1), (14, .int .i64 (a1.length : Int)), (15, .int .i64 (k1 : Int))]) (fun s => (hs_History_from_j9 (hs_History_from_l1 fuel a1 w4 (hs_History_from_j6) r1 (k1 + 1))) s = some r) (fun s h => ?_) (fun hK9 => ?_)
    · obtain ⟨v34, rfl⟩ : ∃ x, x = s := ⟨s, rfl⟩
      have h : (hs_History_from_j9 (hs_History_from_l1 fuel a1 w4 (hs_History_from_j6) r1 (k1 + 1))) v34 = some r := h
      unfold hs_History_from_j9 at h
      refine W.region (by kernel_rfl) ?_
      refine WO.pureK 0 (some (.int .i64 (IntKind.wrap .i64 ((k1 : Int) + 1)))) (v := .int .i64 ((k1 + 1 : Nat) : Int)) (by kernel_rfl) (by rw [wrap_succ hl1 hk1]) (e1 := [(0, l44 none a1), (3, mpE (AV.int .i64) (AV.int .i64) w4), (4, l3 (some 10400) v34), (13, l44 none a1), (14, .int .i64 (a1.length : Int)), (15, .int .i64 (k1 : Int)), (69, .int .i64 ((k1 + 1 : Nat) : Int))]) (by kernel_rfl) ?_
      refine WO.fin [0, 3, 4, 13, 14, 15] [] [] [] (e2 := [(0, l44 none a1), (3, mpE (AV.int .i64) (AV.int .i64) w4), (4, l3 (some 10400) v34), (13, l44 none a1), (14, .int .i64 (a1.length : Int)), (15, .int .i64 ((k1 + 1 : Nat) : Int))]) (by kernel_rfl) (fun _ h => h) ?_
      exact hN1 v34 h
    refine W.block ?_
    refine W.seq ?_
    refine W.region (by kernel_rfl) ?_
    refine WO.pureK 1 (if (0 : Int) ≤ (k1 : Int) then ((List.map e_hsOp a1)[Int.toNat (k1 : Int)]?).map AV.ptr else none) (v := .ptr (.agg [.int .i64 x1.f_Txn, .int .i64 x1.f_Kind, .int .i64 x1.f_Item])) (by kernel_rfl) (idx_nat (f := e_hsOp) hx1) (e1 := [(0, l44 none a1), (3, mpE (AV.int .i64) (AV.int .i64) w4), (4, l3 (some 10400) v8), (13, l44 none a1), (14, .int .i64 (a1.length : Int)), (15, .int .i64 (k1 : Int)), (17, .int .i64 (k1 : Int)), (18, .ptr (.agg [.int .i64 x1.f_Txn, .int .i64 x1.f_Kind, .int .i64 x1.f_Item]))]) (by kernel_rfl) ?_
    refine WO.fin [0, 3, 4, 5, 6, 13, 14, 15] [6] [] [] (e2 := [(0, l44 none a1), (3, mpE (AV.int .i64) (AV.int .i64) w4), (4, l3 (some 10400) v8), (5, .int .i64 (k1 : Int)), (6, .ptr (.agg [.int .i64 x1.f_Txn, .int .i64 x1.f_Kind, .int .i64 x1.f_Item])), (13, l44 none a1), (14, .int .i64 (a1.length : Int)), (15, .int .i64 (k1 : Int))]) (by kernel_rfl) (fun _ h => h) ?_
    refine W.seq ?_
    refine W.seq ?_
    refine W.regT [0, 3, 4, 5, 6, 13, 14, 15, 22] [] [] [] (e2 := [(0, l44 none a1), (3, mpE (AV.int .i64) (AV.int .i64) w4), (4, l3 (some 10400) v8), (5, .int .i64 (k1 : Int)), (6, .ptr (.agg [.int .i64 x1.f_Txn, .int .i64 x1.f_Kind, .int .i64 x1.f_Item])), (13, l44 none a1), (14, .int .i64 (a1.length : Int)), (15, .int .i64 (k1 : Int)), (22, .bool (x1.f_Kind != 0))]) (by kernel_rfl) (by kernel_rfl) (fun _ h => h) ?_
    refine W.condB (x1.f_Kind != 0) (by kernel_rfl) (fun hb => ?_) (fun hb => ?_)
    · replace h := cond_t hb h
      refine W.seq ?_
      refine W.region (by kernel_rfl) ?_
      obtain ⟨hc14, h⟩ := chk_some h
      refine WO.appendK 2 (d := 25) (e := 3) (s := 1) (bytes := 8) (xs := (List.map (AV.int .i64) v8)) (ys := (List.map (AV.int .i64) [(-1)])) (zs := (List.map (AV.int .i64) (v8 ++ [(-1)]))) (env1 := [(0, l44 none a1), (3, mpE (AV.int .i64) (AV.int .i64) w4), (4, l3 none v8), (5, .int .i64 (k1 : Int)), (6, .ptr (.agg [.int .i64 x1.f_Txn, .int .i64 x1.f_Kind, .int .i64 x1.f_Item])), (13, l44 none a1), (14, .int .i64 (a1.length : Int)), (15, .int .i64 (k1 : Int)), (22, .bool (x1.f_Kind != 0)), (23, l3 none v8), (24, l3 (some 24) [(-1)])]) (by kernel_rfl) (List.map_append.symm) (by rw [List.length_map]; exact hc14) (e1 := [(0, l44 none a1), (3, mpE (AV.int .i64) (AV.int .i64) w4), (4, l3 none v8), (5, .int .i64 (k1 : Int)), (6, .ptr (.agg [.int .i64 x1.f_Txn, .int .i64 x1.f_Kind, .int .i64 x1.f_Item])), (13, l44 none a1), (14, .int .i64 (a1.length : Int)), (15, .int .i64 (k1 : Int)), (22, .bool (x1.f_Kind != 0)), (23, l3 none v8), (24, l3 (some 24) [(-1)]), (25, l3 (some 25) (v8 ++ [(-1)]))]) (by kernel_rfl) ?_
      refine WO.fin [0, 3, 4, 13, 14, 15] [] [] [] (e2 := [(0, l44 none a1), (3, mpE (AV.int .i64) (AV.int .i64) w4), (4, l3 (some 25) (v8 ++ [(-1)])), (13, l44 none a1), (14, .int .i64 (a1.length : Int)), (15, .int .i64 (k1 : Int))]) (by kernel_rfl) (fun _ h => h) ?_
      refine W.exit ?_
      refine W.weak [0, 3, 4, 13, 14, 15] [] [] [(25, some 10400)] (env' := [(0, l44 none a1), (3, mpE (AV.int .i64) (AV.int .i64) w4), (4, l3 (some 10400) (v8 ++ [(-1)])), (13, l44 none a1), (14, .int .i64 (a1.length : Int)), (15, .int .i64 (k1 : Int))]) (by kernel_rfl) ?_
      exact hK9 (v8 ++ [(-1)]) h
    replace h := cond_f hb h
    refine W.skip ?_
    refine W.weak [0, 3, 4, 5, 6, 13, 14, 15] [] [] [] (env' := [(0, l44 none a1), (3, mpE (AV.int .i64) (AV.int .i64) w4), (4, l3 (some 10400) v8), (5, .int .i64 (k1 : Int)), (6, .ptr (.agg [.int .i64 x1.f_Txn, .int .i64 x1.f_Kind, .int .i64 x1.f_Item])), (13, l44 none a1), (14, .int .i64 (a1.length : Int)), (15, .int .i64 (k1 : Int))]) (by kernel_rfl) ?_
    refine W.seq ?_
    refine W.regT [0, 3, 4, 5, 6, 7, 13, 14, 15] [] [] [] (e2 := [(0, l44 none a1), (3, mpE (AV.int .i64) (AV.int .i64) w4), (4, l3 (some 10400) v8), (5, .int .i64 (k1 : Int)), (6, .ptr (.agg [.int .i64 x1.f_Txn, .int .i64 x1.f_Kind, .int .i64 x1.f_Item])), (7, .int .i64 0), (13, l44 none a1), (14, .int .i64 (a1.length : Int)), (15, .int .i64 (k1 : Int))]) (by kernel_rfl) (by kernel_rfl) (fun _ h => h) ?_
    refine W.seq ?_
    refine W.join (σ := (Int)) (fun s => [(0, l44 none a1), (3, mpE (AV.int .i64) (AV.int .i64) w4), (4, l3 (some 10400) v8), (7, .int .i64 s), (13, l44 none a1), (14, .int .i64 (a1.length : Int)), (15, .int .i64 (k1 : Int))]) (fun s => (hs_History_from_j16 v8 (hs_History_from_j9 (hs_History_from_l1 fuel a1 w4 (hs_History_from_j6) r1 (k1 + 1)))) s = some r) (fun s h => ?_) (fun hK16 => ?_)
    · obtain ⟨v32, rfl⟩ : ∃ x, x = s := ⟨s, rfl⟩
      have h : (hs_History_from_j16 v8 (hs_History_from_j9 (hs_History_from_l1 fuel a1 w4 (hs_History_from_j6) r1 (k1 + 1)))) v32 = some r := h
      unfold hs_History_from_j16 at h
      refine W.region (by kernel_rfl) ?_
      obtain ⟨hc33, h⟩ := chk_some h
      refine WO.appendK 3 (d := 68) (e := 3) (s := 1) (bytes := 8) (xs := (List.map (AV.int .i64) v8)) (ys := (List.map (AV.int .i64) [v32])) (zs := (List.map (AV.int .i64) (v8 ++ [v32]))) (env1 := [(0, l44 none a1), (3, mpE (AV.int .i64) (AV.int .i64) w4), (4, l3 none v8), (7, .int .i64 v32), (13, l44 none a1), (14, .int .i64 (a1.length : Int)), (15, .int .i64 (k1 : Int)), (65, l3 none v8), (66, .int .i64 v32), (67, l3 (some 67) [v32])]) (by kernel_rfl) (List.map_append.symm) (by rw [List.length_map]; exact hc33) (e1 := [(0, l44 none a1), (3, mpE (AV.int .i64) (AV.int .i64) w4), (4, l3 none v8), (7, .int .i64 v32), (13, l44 none a1), (14, .int .i64 (a1.length : Int)), (15, .int .i64 (k1 : Int)), (65, l3 none v8), (66, .int .i64 v32), (67, l3 (some 67) [v32]), (68, l3 (some 68) (v8 ++ [v32]))]) (by kernel_rfl) ?_
      refine WO.fin [0, 3, 4, 13, 14, 15] [] [] [(68, some 10400)] (e2 := [(0, l44 none a1), (3, mpE (AV.int .i64) (AV.int .i64) w4), (4, l3 (some 10400) (v8 ++ [v32])), (13, l44 none a1), (14, .int .i64 (a1.length : Int)), (15, .int .i64 (k1 : Int))]) (by kernel_rfl) (fun _ h => h) ?_
      exact hK9 (v8 ++ [v32]) h
    refine W.seq ?_
    refine W.regT [0, 3, 4, 5, 6, 7, 8, 13, 14, 15] [] [] [] (e2 := [(0, l44 none a1), (3, mpE (AV.int .i64) (AV.int .i64) w4), (4, l3 (some 10400) v8), (5, .int .i64 (k1 : Int)), (6, .ptr (.agg [.int .i64 x1.f_Txn, .int .i64 x1.f_Kind, .int .i64 x1.f_Item])), (7, .int .i64 0), (8, .int .i64 (IntKind.wrap .i64 ((k1 : Int) - 1))), (13, l44 none a1), (14, .int .i64 (a1.length : Int)), (15, .int .i64 (k1 : Int))]) (by kernel_rfl) (by kernel_rfl) (fun _ h => h) ?_
    refine W.block ?_
    refine W.weak [0, 3, 4, 5, 6, 7, 8, 13, 14, 15] [] [] [] (env' := [(0, l44 none a1), (3, mpE (AV.int .i64) (AV.int .i64) w4), (4, l3 (some 10400) v8), (5, .int .i64 (k1 : Int)), (6, .ptr (.agg [.int .i64 x1.f_Txn, .int .i64 x1.f_Kind, .int .i64 x1.f_Item])), (7, .int .i64 0), (8, .int .i64 (IntKind.wrap .i64 ((k1 : Int) - 1))), (13, l44 none a1), (14, .int .i64 (a1.length : Int)), (15, .int .i64 (k1 : Int))]) (by kernel_rfl) ?_
    refine W.fuel (σ := (Int × Int)) (fun s => [(0, l44 none a1), (3, mpE (AV.int .i64) (AV.int .i64) w4), (4, l3 (some 10400) v8), (5, .int .i64 (k1 : Int)), (6, .ptr (.agg [.int .i64 x1.f_Txn, .int .i64 x1.f_Kind, .int .i64 x1.f_Item])), (7, .int .i64 s.1), (8, .int .i64 s.2), (13, l44 none a1), (14, .int .i64 (a1.length : Int)), (15, .int .i64 (k1 : Int))]) (fun m0 s => hs_History_from_l2 a1 k1 x1 w4 (hs_History_from_j16 v8 (hs_History_from_j9 (hs_History_from_l1 fuel a1 w4 (hs_History_from_j6) r1 (k1 + 1)))) m0 s.1 s.2 = some r) (fun s h => ?_) (fun m2 s h hN2 => ?_) fuel (0, (IntKind.wrap .i64 ((k1 : Int) - 1))) h
    · obtain ⟨v18, v19⟩ := s
      have h : hs_History_from_l2 a1 k1 x1 w4 (hs_History_from_j16 v8 (hs_History_from_j9 (hs_History_from_l1 fuel a1 w4 (hs_History_from_j6) r1 (k1 + 1)))) 0 v18 v19 = some r := h
      rw [hs_History_from_l2.eq_1] at h
      cases h
    · obtain ⟨v18, v19⟩ := s
      have h : hs_History_from_l2 a1 k1 x1 w4 (hs_History_from_j16 v8 (hs_History_from_j9 (hs_History_from_l1 fuel a1 w4 (hs_History_from_j6) r1 (k1 + 1)))) (m2 + 1) v18 v19 = some r := h
      rw [hs_History_from_l2.eq_2] at h
      refine W.seq ?_
      refine W.seq ?_
      refine W.regT [0, 3, 4, 5, 6, 7, 8, 13, 14, 15, 29] [] [] [] (e2 := [(0, l44 none a1), (3, mpE (AV.int .i64) (AV.int .i64) w4), (4, l3 (some 10400) v8), (5, .int .i64 (k1 : Int)), (6, .ptr (.agg [.int .i64 x1.f_Txn, .int .i64 x1.f_Kind, .int .i64 x1.f_Item])), (7, .int .i64 v18), (8, .int .i64 v19), (13, l44 none a1), (14, .int .i64 (a1.length : Int)), (15, .int .i64 (k1 : Int)), (29, .bool (decide (v19 ≥ 0)))]) (by kernel_rfl) (by kernel_rfl) (fun _ h => h) ?_
      refine W.condB (decide (v19 ≥ 0)) (by kernel_rfl) (fun hb => ?_) (fun hb => ?_)
      · replace h := cond_t hb h
        refine W.skip ?_
        refine W.weak [0, 3, 4, 5, 6, 7, 8, 13, 14, 15] [] [] [] (env' := [(0, l44 none a1), (3, mpE (AV.int .i64) (AV.int .i64) w4), (4, l3 (some 10400) v8), (5, .int .i64 (k1 : Int)), (6, .ptr (.agg [.int .i64 x1.f_Txn, .int .i64 x1.f_Kind, .int .i64 x1.f_Item])), (7, .int .i64 v18), (8, .int .i64 v19), (13, l44 none a1), (14, .int .i64 (a1.length : Int)), (15, .int .i64 (k1 : Int))]) (by kernel_rfl) ?_
        refine W.seq ?_
        refine W.block ?_
        refine W.seq ?_
        refine W.region (by kernel_rfl) ?_
        obtain ⟨e24, he24, h⟩ := bind_some h
        refine WO.pureK 2 (if (0 : Int) ≤ v19 then ((List.map e_hsOp a1)[Int.toNat v19]?).map AV.ptr else none) (v := .ptr (.agg [.int .i64 e24.f_Txn, .int .i64 e24.f_Kind, .int .i64 e24.f_Item])) (by kernel_rfl) (idx_av (f := e_hsOp) he24) (e1 := [(0, l44 none a1), (3, mpE (AV.int .i64) (AV.int .i64) w4), (4, l3 (some 10400) v8), (5, .int .i64 (k1 : Int)), (6, .ptr (.agg [.int .i64 x1.f_Txn, .int .i64 x1.f_Kind, .int .i64 x1.f_Item])), (7, .int .i64 v18), (8, .int .i64 v19), (13, l44 none a1), (14, .int .i64 (a1.length : Int)), (15, .int .i64 (k1 : Int)), (32, l44 none a1), (33, .int .i64 v19), (34, .ptr (.agg [.int .i64 e24.f_Txn, .int .i64 e24.f_Kind, .int .i64 e24.f_Item]))]) (by kernel_rfl) ?_
        refine WO.fin [0, 3, 4, 5, 6, 7, 8, 9, 13, 14, 15] [9] [] [] (e2 := [(0, l44 none a1), (3, mpE (AV.int .i64) (AV.int .i64) w4), (4, l3 (some 10400) v8), (5, .int .i64 (k1 : Int)), (6, .ptr (.agg [.int .i64 x1.f_Txn, .int .i64 x1.f_Kind, .int .i64 x1.f_Item])), (7, .int .i64 v18), (8, .int .i64 v19), (9, .ptr (.agg [.int .i64 e24.f_Txn, .int .i64 e24.f_Kind, .int .i64 e24.f_Item])), (13, l44 none a1), (14, .int .i64 (a1.length : Int)), (15, .int .i64 (k1 : Int))]) (by kernel_rfl) (fun _ h => h) ?_
        refine W.seq ?_
        refine W.join (σ := (Bool)) (fun s => [(0, l44 none a1), (3, mpE (AV.int .i64) (AV.int .i64) w4), (4, l3 (some 10400) v8), (5, .int .i64 (k1 : Int)), (6, .ptr (.agg [.int .i64 x1.f_Txn, .int .i64 x1.f_Kind, .int .i64 x1.f_Item])), (7, .int .i64 v18), (8, .int .i64 v19), (9, .ptr (.agg [.int .i64 e24.f_Txn, .int .i64 e24.f_Kind, .int .i64 e24.f_Item])), (10, .bool s), (13, l44 none a1), (14, .int .i64 (a1.length : Int)), (15, .int .i64 (k1 : Int))]) (fun s => (hs_History_from_j25 x1 v18 v19 e24 (hs_History_from_l2 a1 k1 x1 w4 (hs_History_from_j16 v8 (hs_History_from_j9 (hs_History_from_l1 fuel a1 w4 (hs_History_from_j6) r1 (k1 + 1)))) m2) (hs_History_from_j16 v8 (hs_History_from_j9 (hs_History_from_l1 fuel a1 w4 (hs_History_from_j6) r1 (k1 + 1))))) s = some r) (fun s h => ?_) (fun hK25 => ?_)
        · obtain ⟨v28, rfl⟩ : ∃ x, x = s := ⟨s, rfl⟩
          have h : (hs_History_from_j25 x1 v18 v19 e24 (hs_History_from_l2 a1 k1 x1 w4 (hs_History_from_j16 v8 (hs_History_from_j9 (hs_History_from_l1 fuel a1 w4 (hs_History_from_j6) r1 (k1 + 1)))) m2) (hs_History_from_j16 v8 (hs_History_from_j9 (hs_History_from_l1 fuel a1 w4 (hs_History_from_j6) r1 (k1 + 1))))) v28 = some r := h
          unfold hs_History_from_j25 at h
          refine W.seq ?_
          refine W.join (σ := (Bool)) (fun s => [(0, l44 none a1), (3, mpE (AV.int .i64) (AV.int .i64) w4), (4, l3 (some 10400) v8), (5, .int .i64 (k1 : Int)), (6, .ptr (.agg [.int .i64 x1.f_Txn, .int .i64 x1.f_Kind, .int .i64 x1.f_Item])), (7, .int .i64 v18), (8, .int .i64 v19), (9, .ptr (.agg [.int .i64 e24.f_Txn, .int .i64 e24.f_Kind, .int .i64 e24.f_Item])), (13, l44 none a1), (14, .int .i64 (a1.length : Int)), (15, .int .i64 (k1 : Int)), (62, .bool s)]) (fun s => (hs_History_from_j29 v18 v19 e24 (hs_History_from_l2 a1 k1 x1 w4 (hs_History_from_j16 v8 (hs_History_from_j9 (hs_History_from_l1 fuel a1 w4 (hs_History_from_j6) r1 (k1 + 1)))) m2) (hs_History_from_j16 v8 (hs_History_from_j9 (hs_History_from_l1 fuel a1 w4 (hs_History_from_j6) r1 (k1 + 1))))) s = some r) (fun s h => ?_) (fun hK29 => ?_)
          · obtain ⟨v30, rfl⟩ : ∃ x, x = s := ⟨s, rfl⟩
            have h : (hs_History_from_j29 v18 v19 e24 (hs_History_from_l2 a1 k1 x1 w4 (hs_History_from_j16 v8 (hs_History_from_j9 (hs_History_from_l1 fuel a1 w4 (hs_History_from_j6) r1 (k1 + 1)))) m2) (hs_History_from_j16 v8 (hs_History_from_j9 (hs_History_from_l1 fuel a1 w4 (hs_History_from_j6) r1 (k1 + 1))))) v30 = some r := h
            unfold hs_History_from_j29 at h
            refine W.condB v30 (by kernel_rfl) (fun hb => ?_) (fun hb => ?_)
            · replace h := cond_t hb h
              refine W.seq ?_
              refine W.regT [0, 3, 4, 7, 13, 14, 15] [] [] [] (e2 := [(0, l44 none a1), (3, mpE (AV.int .i64) (AV.int .i64) w4), (4, l3 (some 10400) v8), (7, .int .i64 e24.f_Txn), (13, l44 none a1), (14, .int .i64 (a1.length : Int)), (15, .int .i64 (k1 : Int))]) (by kernel_rfl) (by kernel_rfl) (fun _ h => h) ?_
              refine W.exit ?_
              refine W.weak [0, 3, 4, 7, 13, 14, 15] [] [] [] (env' := [(0, l44 none a1), (3, mpE (AV.int .i64) (AV.int .i64) w4), (4, l3 (some 10400) v8), (7, .int .i64 e24.f_Txn), (13, l44 none a1), (14, .int .i64 (a1.length : Int)), (15, .int .i64 (k1 : Int))]) (by kernel_rfl) ?_
              exact hK16 e24.f_Txn h
            replace h := cond_f hb h
            refine W.skip ?_
            refine W.weak [0, 3, 4, 5, 6, 7, 8, 13, 14, 15] [] [] [] (env' := [(0, l44 none a1), (3, mpE (AV.int .i64) (AV.int .i64) w4), (4, l3 (some 10400) v8), (5, .int .i64 (k1 : Int)), (6, .ptr (.agg [.int .i64 x1.f_Txn, .int .i64 x1.f_Kind, .int .i64 x1.f_Item])), (7, .int .i64 v18), (8, .int .i64 v19), (13, l44 none a1), (14, .int .i64 (a1.length : Int)), (15, .int .i64 (k1 : Int))]) (by kernel_rfl) ?_
            refine W.regT [0, 3, 4, 5, 6, 7, 8, 13, 14, 15] [] [] [] (e2 := [(0, l44 none a1), (3, mpE (AV.int .i64) (AV.int .i64) w4), (4, l3 (some 10400) v8), (5, .int .i64 (k1 : Int)), (6, .ptr (.agg [.int .i64 x1.f_Txn, .int .i64 x1.f_Kind, .int .i64 x1.f_Item])), (7, .int .i64 v18), (8, .int .i64 (IntKind.wrap .i64 (v19 - 1))), (13, l44 none a1), (14, .int .i64 (a1.length : Int)), (15, .int .i64 (k1 : Int))]) (by kernel_rfl) (by kernel_rfl) (fun _ h => h) ?_
            exact hN2 (v18, (IntKind.wrap .i64 (v19 - 1))) h
          refine W.region (by kernel_rfl) ?_
          refine WO.boolK 4 (fun b => [(0, l44 none a1), (3, mpE (AV.int .i64) (AV.int .i64) w4), (4, l3 (some 10400) v8), (5, .int .i64 (k1 : Int)), (6, .ptr (.agg [.int .i64 x1.f_Txn, .int .i64 x1.f_Kind, .int .i64 x1.f_Item])), (7, .int .i64 v18), (8, .int .i64 v19), (9, .ptr (.agg [.int .i64 e24.f_Txn, .int .i64 e24.f_Kind, .int .i64 e24.f_Item])), (10, .bool v28), (13, l44 none a1), (14, .int .i64 (a1.length : Int)), (15, .int .i64 (k1 : Int)), (49, .ptr (.int .i64 e24.f_Kind)), (50, .int .i64 e24.f_Kind), (51, .bool b), (52, .bool b)]) (e24.f_Kind == 1) (by kernel_rfl) (fun hb => ?_) (fun hb => ?_)
          · replace h := cond_t hb h
            refine WO.boolK 7 (fun b => [(0, l44 none a1), (3, mpE (AV.int .i64) (AV.int .i64) w4), (4, l3 (some 10400) v8), (5, .int .i64 (k1 : Int)), (6, .ptr (.agg [.int .i64 x1.f_Txn, .int .i64 x1.f_Kind, .int .i64 x1.f_Item])), (7, .int .i64 v18), (8, .int .i64 v19), (9, .ptr (.agg [.int .i64 e24.f_Txn, .int .i64 e24.f_Kind, .int .i64 e24.f_Item])), (10, .bool v28), (13, l44 none a1), (14, .int .i64 (a1.length : Int)), (15, .int .i64 (k1 : Int)), (49, .ptr (.int .i64 e24.f_Kind)), (50, .int .i64 e24.f_Kind), (51, .bool true), (52, .bool true), (53, .ptr (.int .i64 e24.f_Item)), (54, .int .i64 e24.f_Item), (55, .ptr (.int .i64 x1.f_Item)), (56, .int .i64 x1.f_Item), (57, .bool b), (58, .bool b), (59, .bool b)]) (e24.f_Item == x1.f_Item) (by kernel_rfl) (fun hb => ?_) (fun hb => ?_)
            · replace h := cond_t hb h
              refine WO.fin [0, 3, 4, 5, 6, 7, 8, 9, 13, 14, 15, 62] [] [] [] (e2 := [(0, l44 none a1), (3, mpE (AV.int .i64) (AV.int .i64) w4), (4, l3 (some 10400) v8), (5, .int .i64 (k1 : Int)), (6, .ptr (.agg [.int .i64 x1.f_Txn, .int .i64 x1.f_Kind, .int .i64 x1.f_Item])), (7, .int .i64 v18), (8, .int .i64 v19), (9, .ptr (.agg [.int .i64 e24.f_Txn, .int .i64 e24.f_Kind, .int .i64 e24.f_Item])), (13, l44 none a1), (14, .int .i64 (a1.length : Int)), (15, .int .i64 (k1 : Int)), (62, .bool (!v28))]) (by kernel_rfl) (fun _ h => h) ?_
              exact hK29 (!v28) h
            replace h := cond_f hb h
            refine WO.fin [0, 3, 4, 5, 6, 7, 8, 9, 13, 14, 15, 62] [] [] [] (e2 := [(0, l44 none a1), (3, mpE (AV.int .i64) (AV.int .i64) w4), (4, l3 (some 10400) v8), (5, .int .i64 (k1 : Int)), (6, .ptr (.agg [.int .i64 x1.f_Txn, .int .i64 x1.f_Kind, .int .i64 x1.f_Item])), (7, .int .i64 v18), (8, .int .i64 v19), (9, .ptr (.agg [.int .i64 e24.f_Txn, .int .i64 e24.f_Kind, .int .i64 e24.f_Item])), (13, l44 none a1), (14, .int .i64 (a1.length : Int)), (15, .int .i64 (k1 : Int)), (62, .bool false)]) (by kernel_rfl) (fun _ h => h) ?_
            exact hK29 false h
          replace h := cond_f hb h
          refine WO.fin [0, 3, 4, 5, 6, 7, 8, 9, 13, 14, 15, 62] [] [] [] (e2 := [(0, l44 none a1), (3, mpE (AV.int .i64) (AV.int .i64) w4), (4, l3 (some 10400) v8), (5, .int .i64 (k1 : Int)), (6, .ptr (.agg [.int .i64 x1.f_Txn, .int .i64 x1.f_Kind, .int .i64 x1.f_Item])), (7, .int .i64 v18), (8, .int .i64 v19), (9, .ptr (.agg [.int .i64 e24.f_Txn, .int .i64 e24.f_Kind, .int .i64 e24.f_Item])), (13, l44 none a1), (14, .int .i64 (a1.length : Int)), (15, .int .i64 (k1 : Int)), (62, .bool false)]) (by kernel_rfl) (fun _ h => h) ?_
          exact hK29 false h
        refine W.region (by kernel_rfl) ?_
        obtain ⟨hc26, h⟩ := chk_some h
        refine WO.pureK 3 ((alookup Try.prog 85 [] (mpE (AV.int .i64) (AV.int .i64) w4) (.int .i64 e24.f_Txn)).map AV.strip) (v := .int .i64 (mget keq1 0 e24.f_Txn w4)) (by kernel_rfl) (congrArg (Option.map AV.strip) (alookup_mp (F := (AV.int .i64)) (G := (AV.int .i64)) (eq := keq1) (l := w4) (k := e24.f_Txn) (z := 0) (kt := 3) (e := 3) (keyS_int hc26) (by kernel_rfl) (fun x => by kernel_rfl) (fun x y => by kernel_rfl) (by kernel_rfl))) (e1 := [(0, l44 none a1), (3, mpE (AV.int .i64) (AV.int .i64) w4), (4, l3 (some 10400) v8), (5, .int .i64 (k1 : Int)), (6, .ptr (.agg [.int .i64 x1.f_Txn, .int .i64 x1.f_Kind, .int .i64 x1.f_Item])), (7, .int .i64 v18), (8, .int .i64 v19), (9, .ptr (.agg [.int .i64 e24.f_Txn, .int .i64 e24.f_Kind, .int .i64 e24.f_Item])), (13, l44 none a1), (14, .int .i64 (a1.length : Int)), (15, .int .i64 (k1 : Int)), (36, mpE (AV.int .i64) (AV.int .i64) w4), (37, .ptr (.int .i64 e24.f_Txn)), (38, .int .i64 e24.f_Txn), (39, .int .i64 (mget keq1 0 e24.f_Txn w4))]) (by kernel_rfl) ?_
        refine WO.boolK 2 (fun b => [(0, l44 none a1), (3, mpE (AV.int .i64) (AV.int .i64) w4), (4, l3 (some 10400) v8), (5, .int .i64 (k1 : Int)), (6, .ptr (.agg [.int .i64 x1.f_Txn, .int .i64 x1.f_Kind, .int .i64 x1.f_Item])), (7, .int .i64 v18), (8, .int .i64 v19), (9, .ptr (.agg [.int .i64 e24.f_Txn, .int .i64 e24.f_Kind, .int .i64 e24.f_Item])), (13, l44 none a1), (14, .int .i64 (a1.length : Int)), (15, .int .i64 (k1 : Int)), (36, mpE (AV.int .i64) (AV.int .i64) w4), (37, .ptr (.int .i64 e24.f_Txn)), (38, .int .i64 e24.f_Txn), (39, .int .i64 (mget keq1 0 e24.f_Txn w4)), (40, .bool b), (41, .bool b)]) (decide ((mget keq1 0 e24.f_Txn w4) ≥ 0)) (by kernel_rfl) (fun hb => ?_) (fun hb => ?_)
        · replace h := cond_t hb h
          obtain ⟨hc27, h⟩ := chk_some h
          refine WO.pureK 3 ((alookup Try.prog 85 [] (mpE (AV.int .i64) (AV.int .i64) w4) (.int .i64 e24.f_Txn)).map AV.strip) (v := .int .i64 (mget keq1 0 e24.f_Txn w4)) (by kernel_rfl) (congrArg (Option.map AV.strip) (alookup_mp (F := (AV.int .i64)) (G := (AV.int .i64)) (eq := keq1) (l := w4) (k := e24.f_Txn) (z := 0) (kt := 3) (e := 3) (keyS_int hc27) (by kernel_rfl) (fun x => by kernel_rfl) (fun x y => by kernel_rfl) (by kernel_rfl))) (e1 := [(0, l44 none a1), (3, mpE (AV.int .i64) (AV.int .i64) w4), (4, l3 (some 10400) v8), (5, .int .i64 (k1 : Int)), (6, .ptr (.agg [.int .i64 x1.f_Txn, .int .i64 x1.f_Kind, .int .i64 x1.f_Item])), (7, .int .i64 v18), (8, .int .i64 v19), (9, .ptr (.agg [.int .i64 e24.f_Txn, .int .i64 e24.f_Kind, .int .i64 e24.f_Item])), (13, l44 none a1), (14, .int .i64 (a1.length : Int)), (15, .int .i64 (k1 : Int)), (36, mpE (AV.int .i64) (AV.int .i64) w4), (37, .ptr (.int .i64 e24.f_Txn)), (38, .int .i64 e24.f_Txn), (39, .int .i64 (mget keq1 0 e24.f_Txn w4)), (40, .bool true), (41, .bool true), (42, mpE (AV.int .i64) (AV.int .i64) w4), (43, .ptr (.int .i64 e24.f_Txn)), (44, .int .i64 e24.f_Txn), (45, .int .i64 (mget keq1 0 e24.f_Txn w4))]) (by kernel_rfl) ?_
          refine WO.fin [0, 3, 4, 5, 6, 7, 8, 9, 10, 13, 14, 15] [] [] [] (e2 := [(0, l44 none a1), (3, mpE (AV.int .i64) (AV.int .i64) w4), (4, l3 (some 10400) v8), (5, .int .i64 (k1 : Int)), (6, .ptr (.agg [.int .i64 x1.f_Txn, .int .i64 x1.f_Kind, .int .i64 x1.f_Item])), (7, .int .i64 v18), (8, .int .i64 v19), (9, .ptr (.agg [.int .i64 e24.f_Txn, .int .i64 e24.f_Kind, .int .i64 e24.f_Item])), (10, .bool (decide ((mget keq1 0 e24.f_Txn w4) < (k1 : Int)))), (13, l44 none a1), (14, .int .i64 (a1.length : Int)), (15, .int .i64 (k1 : Int))]) (by kernel_rfl) (fun _ h => h) ?_
          exact hK25 (decide ((mget keq1 0 e24.f_Txn w4) < (k1 : Int))) h
        replace h := cond_f hb h
        refine WO.fin [0, 3, 4, 5, 6, 7, 8, 9, 10, 13, 14, 15] [] [] [] (e2 := [(0, l44 none a1), (3, mpE (AV.int .i64) (AV.int .i64) w4), (4, l3 (some 10400) v8), (5, .int .i64 (k1 : Int)), (6, .ptr (.agg [.int .i64 x1.f_Txn, .int .i64 x1.f_Kind, .int .i64 x1.f_Item])), (7, .int .i64 v18), (8, .int .i64 v19), (9, .ptr (.agg [.int .i64 e24.f_Txn, .int .i64 e24.f_Kind, .int .i64 e24.f_Item])), (10, .bool false), (13, l44 none a1), (14, .int .i64 (a1.length : Int)), (15, .int .i64 (k1 : Int))]) (by kernel_rfl) (fun _ h => h) ?_
        exact hK25 false h
      replace h := cond_f hb h
      refine W.exit ?_
      refine W.weak [0, 3, 4, 7, 13, 14, 15] [] [] [] (env' := [(0, l44 none a1), (3, mpE (AV.int .i64) (AV.int .i64) w4), (4, l3 (some 10400) v8), (7, .int .i64 v18), (13, l44 none a1), (14, .int .i64 (a1.length : Int)), (15, .int .i64 (k1 : Int))]) (by kernel_rfl) ?_
      exact hK16 v18 h
def hs_From (fuel : Nat) (a1 : (List hsOp)) : Option ((List Int) × Int) :=
  ((hs_Valid a1).bind fun w5 => (bif (!w5) then (some (([] : (List Int)), 2)) else ((hs_History_from fuel a1).bind fun w8 => (some (w8, 0)))))
theorem run_hs_From (fuel : Nat) (a1 : (List hsOp)) (r : ((List Int) × Int)) (h : hs_From fuel a1 = some r) : Run Try.prog (.call 25 [l44 none a1] (.tup [l3 none r.1, .int .i64 r.2])) := by
  refine call_of_W Try.func25 rfl (by kernel_rfl) (env0 := [(0, l44 none a1)]) (by kernel_rfl) ?_
  unfold hs_From at h
  refine W.seq ?_
  refine W.regT [0] [] [] [] (e2 := [(0, l44 none a1)]) (by kernel_rfl) (by kernel_rfl) (fun _ h => h) ?_
  refine W.seq ?_
  refine W.seq ?_
  refine W.region (by kernel_rfl) ?_
  obtain ⟨w5, hw5, h⟩ := bind_some h
  refine WO.callK 1 (F := 26) (l := [l44 none a1]) (C := []) (r := .bool w5) (by kernel_rfl) (by kernel_rfl) (run_hs_Valid a1 w5 hw5) (e1 := [(0, l44 none a1), (4, l44 none a1), (5, .bool w5)]) (by kernel_rfl) ?_
  refine WO.fin [0, 6] [] [] [] (e2 := [(0, l44 none a1), (6, .bool (!w5))]) (by kernel_rfl) (fun _ h => h) ?_
  refine W.condB (!w5) (by kernel_rfl) (fun hb => ?_) (fun hb => ?_)
  · replace h := cond_t hb h
    refine W.seq ?_
    refine W.regT [2, 3] [] [] [] (e2 := [(2, .nils), (3, .int .i64 2)]) (by kernel_rfl) (by kernel_rfl) (fun _ h => h) ?_
    refine W.weak [2, 3] [] [(2, 0, 3, 1, 70002)] [] (env' := [(2, l3 (some 70002) ([] : (List Int))), (3, .int .i64 2)]) (by kernel_rfl) ?_
    have hr : aresults Try.prog Try.f25 [(2, l3 (some 70002) ([] : (List Int))), (3, .int .i64 2)] = some (.tup [l3 none ([] : (List Int)), .int .i64 2]) := by kernel_rfl
    cases h
    exact W.ret hr
  replace h := cond_f hb h
  refine W.skip ?_
  refine W.weak [0] [] [] [] (env' := [(0, l44 none a1)]) (by kernel_rfl) ?_
  refine W.seq ?_
  refine W.region (by kernel_rfl) ?_
  obtain ⟨w8, hw8, h⟩ := bind_some h
  refine WO.callK 1 (F := 60) (l := [l44 none a1]) (C := []) (r := l3 (some 1) w8) (by kernel_rfl) (by kernel_rfl) (run_hs_History_from fuel a1 w8 hw8) (e1 := [(0, l44 none a1), (7, l44 none a1), (8, l3 (some 8) w8)]) (by kernel_rfl) ?_
  refine WO.fin [2, 3] [] [] [] (e2 := [(2, l3 (some 8) w8), (3, .int .i64 0)]) (by kernel_rfl) (fun _ h => h) ?_
  refine W.weak [2, 3] [] [] [] (env' := [(2, l3 (some 8) w8), (3, .int .i64 0)]) (by kernel_rfl) ?_
  have hr : aresults Try.prog Try.f25 [(2, l3 (some 8) w8), (3, .int .i64 0)] = some (.tup [l3 none w8, .int .i64 0]) := by kernel_rfl
  cases h
  exact W.ret hr
def rf5_end_j5 : Option Int :=
  (some (-1))
def rf5_end_j9 (k1 : Nat) (N1 : (Option Int)) (v10 : Bool) : Option Int :=
  (bif v10 then (some (k1 : Int)) else N1)
def rf5_end_l1 (a2 : Int) (a3 : Int) (K5 : (Option Int)) : List rf5Op → Nat → Option Int
  | [], k1 => K5
  | x1 :: r1, k1 => (bif (x1.f_Txn == a2) then ((rf5_end_j9 k1 (rf5_end_l1 a2 a3 K5 r1 (k1 + 1))) (x1.f_Kind == a3)) else ((rf5_end_j9 k1 (rf5_end_l1 a2 a3 K5 r1 (k1 + 1))) false))
def rf5_end (a1 : (List rf5Op)) (a2 : Int) (a3 : Int) : Option Int :=
  (chk (lenOk a1) (rf5_end_l1 a2 a3 (rf5_end_j5) a1 0))
theorem run_rf5_end (a1 : (List rf5Op)) (a2 : Int) (a3 : Int) (r : Int) (h : rf5_end a1 a2 a3 = some r) : Run Try.prog (.call 61 [l43 none a1, .int .i64 a2, .int .i64 a3] (.int .i64 r)) := by
  refine call_of_W Try.func61 rfl (by kernel_rfl) (env0 := [(0, l43 none a1), (1, .int .i64 a2), (2, .int .i64 a3)]) (by kernel_rfl) ?_
  unfold rf5_end at h
  refine W.seq ?_
  refine W.regT [0, 1, 2] [] [] [] (e2 := [(0, l43 none a1), (1, .int .i64 a2), (2, .int .i64 a3)]) (by kernel_rfl) (by kernel_rfl) (fun _ h => h) ?_
  refine W.seq ?_
  refine W.join (σ := Unit) (fun s => []) (fun s => (rf5_end_j5) = some r) (fun s h => ?_) (fun hK5 => ?_)
  · have h : (rf5_end_j5) = some r := h
    unfold rf5_end_j5 at h
    refine W.seq ?_
    refine W.regT [6] [] [] [] (e2 := [(6, .int .i64 (-1))]) (by kernel_rfl) (by kernel_rfl) (fun _ h => h) ?_
    refine W.weak [6] [] [] [] (env' := [(6, .int .i64 (-1))]) (by kernel_rfl) ?_
    have hr : aresults Try.prog Try.f61 [(6, .int .i64 (-1))] = some (.int .i64 (-1)) := by kernel_rfl
    cases h
    exact W.ret hr
  refine W.seq ?_
  refine W.region (by kernel_rfl) ?_
  refine WO.pureK 1 (some (.int .i64 ((List.map e_rf5Op a1).length : Int))) (v := .int .i64 (a1.length : Int)) (by kernel_rfl) (by rw [List.length_map]) (e1 := [(0, l43 none a1), (1, .int .i64 a2), (2, .int .i64 a3), (9, l43 none a1), (10, .int .i64 (a1.length : Int))]) (by kernel_rfl) ?_
  refine WO.fin [1, 2, 9, 10, 11] [] [] [] (e2 := [(1, .int .i64 a2), (2, .int .i64 a3), (9, l43 none a1), (10, .int .i64 (a1.length : Int)), (11, .int .i64 0)]) (by kernel_rfl) (fun _ h => h) ?_
  refine W.block ?_
  obtain ⟨hl1, h⟩ := chk_some h
  refine W.weak [1, 2, 9, 10, 11] [] [] [] (env' := [(1, .int .i64 a2), (2, .int .i64 a3), (9, l43 none a1), (10, .int .i64 (a1.length : Int)), (11, .int .i64 ((0 : Nat) : Int))]) (by kernel_rfl) ?_
  refine W.range (σ := Unit) a1 (fun k1 s => [(1, .int .i64 a2), (2, .int .i64 a3), (9, l43 none a1), (10, .int .i64 (a1.length : Int)), (11, .int .i64 (k1 : Int))]) (fun r0 k0 s => rf5_end_l1 a2 a3 (rf5_end_j5) r0 k0 = some r) (fun s h => ?_) (fun x1 r1 k1 s hx1 hk1 h hN1 => ?_) () h
  · have h : rf5_end_l1 a2 a3 (rf5_end_j5) [] (a1).length = some r := h
    rw [rf5_end_l1.eq_1] at h
    refine W.seq ?_
    refine W.region (by kernel_rfl) ?_
    refine WO.pureK 0 (some (.bool (decide (((a1).length : Int) < (a1.length : Int))))) (v := .bool false) (by kernel_rfl) (by rw [lt_false (l := a1)]) (e1 := [(1, .int .i64 a2), (2, .int .i64 a3), (9, l43 none a1), (10, .int .i64 (a1.length : Int)), (11, .int .i64 ((a1).length : Int)), (12, .bool false)]) (by kernel_rfl) ?_
    refine WO.fin ([1, 2, 9, 10, 11, 12]) [] [] [] (e2 := [(1, .int .i64 a2), (2, .int .i64 a3), (9, l43 none a1), (10, .int .i64 (a1.length : Int)), (11, .int .i64 ((a1).length : Int)), (12, .bool false)]) (by kernel_rfl) (fun _ h => h) ?_
    refine W.seq ?_
    refine W.condB false (by kernel_rfl) (fun h => Bool.noConfusion h) (fun _ => ?_)
    refine W.exit ?_
    refine W.weak [] [] [] [] (env' := []) (by kernel_rfl) ?_
    exact hK5 () h
  · have h : rf5_end_l1 a2 a3 (rf5_end_j5) (x1 :: r1) k1 = some r := h
    rw [rf5_end_l1.eq_2] at h
    refine W.seq ?_
    refine W.region (by kernel_rfl) ?_
    refine WO.pureK 0 (some (.bool (decide ((k1 : Int) < (a1.length : Int))))) (v := .bool true) (by kernel_rfl) (by rw [lt_true hk1]) (e1 := [(1, .int .i64 a2), (2, .int .i64 a3), (9, l43 none a1), (10, .int .i64 (a1.length : Int)), (11, .int .i64 (k1 : Int)), (12, .bool true)]) (by kernel_rfl) ?_
    refine WO.fin ([1, 2, 9, 10, 11, 12]) [] [] [] (e2 := [(1, .int .i64 a2), (2, .int .i64 a3), (9, l43 none a1), (10, .int .i64 (a1.length : Int)), (11, .int .i64 (k1 : Int)), (12, .bool true)]) (by kernel_rfl) (fun _ h => h) ?_
    refine W.seq ?_
    refine W.condB true (by kernel_rfl) (fun _ => ?_) (fun h => Bool.noConfusion h)
    refine W.skip ?_
    refine W.weak [1, 2, 9, 10, 11] [] [] [] (env' := [(1, .int .i64 a2), (2, .int .i64 a3), (9, l43 none a1), (10, .int .i64 (a1.length : Int)), (11, .int .i64 (k1 : Int))]) (by kernel_rfl) ?_
    refine W.seq ?_
    refine W.block ?_
    refine W.seq ?_
    refine W.region (by kernel_rfl) ?_
    refine WO.pureK 1 (if (0 : Int) ≤ (k1 : Int) then ((List.map e_rf5Op a1)[Int.toNat (k1 : Int)]?).map AV.ptr else none) (v := .ptr (.agg [.int .i64 x1.f_Txn, .int .i64 x1.f_Kind, .int .i64 x1.f_Item])) (by kernel_rfl) (idx_nat (f := e_rf5Op) hx1) (e1 := [(1, .int .i64 a2), (2, .int .i64 a3), (9, l43 none a1), (10, .int .i64 (a1.length : Int)), (11, .int .i64 (k1 : Int)), (13, .int .i64 (k1 : Int)), (14, .ptr (.agg [.int .i64 x1.f_Txn, .int .i64 x1.f_Kind, .int .i64 x1.f_Item]))]) (by kernel_rfl) ?_
    refine WO.fin [1, 2, 7, 8, 9, 10, 11] [8] [] [] (e2 := [(1, .int .i64 a2), (2, .int .i64 a3), (7, .int .i64 (k1 : Int)), (8, .ptr (.agg [.int .i64 x1.f_Txn, .int .i64 x1.f_Kind, .int .i64 x1.f_Item])), (9, l43 none a1), (10, .int .i64 (a1.length : Int)), (11, .int .i64 (k1 : Int))]) (by kernel_rfl) (fun _ h => h) ?_
    refine W.seq ?_
    refine W.join (σ := (Bool)) (fun s => [(1, .int .i64 a2), (2, .int .i64 a3), (7, .int .i64 (k1 : Int)), (9, l43 none a1), (10, .int .i64 (a1.length : Int)), (11, .int .i64 (k1 : Int)), (25, .bool s)]) (fun s => (rf5_end_j9 k1 (rf5_end_l1 a2 a3 (rf5_end_j5) r1 (k1 + 1))) s = some r) (fun s h => ?_) (fun hK9 => ?_)
    · obtain ⟨v10, rfl⟩ : ∃ x, x = s := ⟨s, rfl⟩
      have h : (rf5_end_j9 k1 (rf5_end_l1 a2 a3 (rf5_end_j5) r1 (k1 + 1))) v10 = some r := h
      unfold rf5_end_j9 at h
      refine W.condB v10 (by kernel_rfl) (fun hb => ?_) (fun hb => ?_)
      · replace h := cond_t hb h
        refine W.seq ?_
        refine W.regT [6] [] [] [] (e2 := [(6, .int .i64 (k1 : Int))]) (by kernel_rfl) (by kernel_rfl) (fun _ h => h) ?_
        refine W.weak [6] [] [] [] (env' := [(6, .int .i64 (k1 : Int))]) (by kernel_rfl) ?_
        have hr : aresults Try.prog Try.f61 [(6, .int .i64 (k1 : Int))] = some (.int .i64 (k1 : Int)) := by kernel_rfl
        cases h
        exact W.ret hr
      replace h := cond_f hb h
      refine W.skip ?_
      refine W.weak [1, 2, 9, 10, 11] [] [] [] (env' := [(1, .int .i64 a2), (2, .int .i64 a3), (9, l43 none a1), (10, .int .i64 (a1.length : Int)), (11, .int .i64 (k1 : Int))]) (by kernel_rfl) ?_
      refine W.region (by kernel_rfl) ?_
      refine WO.pureK 0 (some (.int .i64 (IntKind.wrap .i64 ((k1 : Int) + 1)))) (v := .int .i64 ((k1 + 1 : Nat) : Int)) (by kernel_rfl) (by rw [wrap_succ hl1 hk1]) (e1 := [(1, .int .i64 a2), (2, .int .i64 a3), (9, l43 none a1), (10, .int .i64 (a1.length : Int)), (11, .int .i64 (k1 : Int)), (27, .int .i64 ((k1 + 1 : Nat) : Int))]) (by kernel_rfl) ?_
      refine WO.fin [1, 2, 9, 10, 11] [] [] [] (e2 := [(1, .int .i64 a2), (2, .int .i64 a3), (9, l43 none a1), (10, .int .i64 (a1.length : Int)), (11, .int .i64 ((k1 + 1 : Nat) : Int))]) (by kernel_rfl) (fun _ h => h) ?_
      exact hN1 () h
    refine W.region (by kernel_rfl) ?_
    refine WO.boolK 5 (fun b => [(1, .int .i64 a2), (2, .int .i64 a3), (7, .int .i64 (k1 : Int)), (8, .ptr (.agg [.int .i64 x1.f_Txn, .int .i64 x1.f_Kind, .int .i64 x1.f_Item])), (9, l43 none a1), (10, .int .i64 (a1.length : Int)), (11, .int .i64 (k1 : Int)), (16, .ptr (.int .i64 x1.f_Txn)), (17, .int .i64 x1.f_Txn), (18, .int .i64 a2), (19, .bool b), (20, .bool b)]) (x1.f_Txn == a2) (by kernel_rfl) (fun hb => ?_) (fun hb => ?_)
    · replace h := cond_t hb h
      refine WO.fin [1, 2, 7, 9, 10, 11, 25] [] [] [] (e2 := [(1, .int .i64 a2), (2, .int .i64 a3), (7, .int .i64 (k1 : Int)), (9, l43 none a1), (10, .int .i64 (a1.length : Int)), (11, .int .i64 (k1 : Int)), (25, .bool (x1.f_Kind == a3))]) (by kernel_rfl) (fun _ h => h) ?_
      exact hK9 (x1.f_Kind == a3) h
    replace h := cond_f hb h
    refine WO.fin [1, 2, 7, 9, 10, 11, 25] [] [] [] (e2 := [(1, .int .i64 a2), (2, .int .i64 a3), (7, .int .i64 (k1 : Int)), (9, l43 none a1), (10, .int .i64 (a1.length : Int)), (11, .int .i64 (k1 : Int)), (25, .bool false)]) (by kernel_rfl) (fun _ h => h) ?_
    exact hK9 false h
def rf5_From_j4 (v27 : (List Int)) : Option (List Int) :=
  (some v27)
def rf5_From_j10 (v6 : (List Int)) (N1 : ((List Int) → Option (List Int))) (v25 : Int) : Option (List Int) :=
  (chk (capOk 8 ((v6 ++ [v25])).length) (N1 (v6 ++ [v25])))
def rf5_From_j16 (N2 : (Int → Option (List Int))) (v24 : Int) : Option (List Int) :=
  (N2 v24)
def rf5_From_j22 (x2 : rf5Op) (v15 : Int) (K16 : (Int → Option (List Int))) (v23 : Bool) : Option (List Int) :=
  (bif v23 then (K16 x2.f_Txn) else (K16 v15))
def rf5_From_j18 (a1 : (List rf5Op)) (k1 : Nat) (x2 : rf5Op) (v15 : Int) (K16 : (Int → Option (List Int))) (v19 : Bool) : Option (List Int) :=
  (bif v19 then ((rf5_end a1 x2.f_Txn 3).bind fun w21 => (bif (decide (w21 < 0)) then ((rf5_From_j22 x2 v15 K16) true) else ((rf5_From_j22 x2 v15 K16) (decide (w21 > (k1 : Int)))))) else (K16 v15))
def rf5_From_l2 (a1 : (List rf5Op)) (k1 : Nat) (x1 : rf5Op) (K10 : (Int → Option (List Int))) : List rf5Op → Nat → Int → Option (List Int)
  | [], k2, v15 => (K10 v15)
  | x2 :: r2, k2, v15 => (bif (x2.f_Kind == 1) then ((rf5_From_j18 a1 k1 x2 v15 (rf5_From_j16 (rf5_From_l2 a1 k1 x1 K10 r2 (k2 + 1)))) (x2.f_Item == x1.f_Item)) else ((rf5_From_j18 a1 k1 x2 v15 (rf5_From_j16 (rf5_From_l2 a1 k1 x1 K10 r2 (k2 + 1)))) false))
def rf5_From_l1 (a1 : (List rf5Op)) (K4 : ((List Int) → Option (List Int))) : List rf5Op → Nat → (List Int) → Option (List Int)
  | [], k1, v6 => (K4 v6)
  | x1 :: r1, k1, v6 => (bif (x1.f_Kind == 0) then ((sub a1 0 (k1 : Int)).bind fun e14 => (chk (lenOk e14) (rf5_From_l2 a1 k1 x1 (rf5_From_j10 v6 (rf5_From_l1 a1 K4 r1 (k1 + 1))) e14 0 0))) else ((rf5_From_j10 v6 (rf5_From_l1 a1 K4 r1 (k1 + 1))) (-1)))
def rf5_From (a1 : (List rf5Op)) : Option (List Int) :=
  (chk (lenOk a1) (rf5_From_l1 a1 (rf5_From_j4) a1 0 ([] : (List Int))))
theorem run_rf5_From (a1 : (List rf5Op)) (r : (List Int)) (h : rf5_From a1 = some r) : Run Try.prog (.call 27 [l43 none a1] (l3 (some 1) r)) := by
  refine call_of_W Try.func27 rfl (by kernel_rfl) (env0 := [(0, l43 none a1)]) (by kernel_rfl) ?_
  unfold rf5_From at h
  refine W.seq ?_
  refine W.regT [0] [] [] [] (e2 := [(0, l43 none a1)]) (by kernel_rfl) (by kernel_rfl) (fun _ h => h) ?_
  refine W.seq ?_
  refine W.regT [0, 3] [] [] [] (e2 := [(0, l43 none a1), (3, .nils)]) (by kernel_rfl) (by kernel_rfl) (fun _ h => h) ?_
  refine W.seq ?_
  refine W.join (σ := ((List Int))) (fun s => [(3, l3 (some 10300) s)]) (fun s => (rf5_From_j4) s = some r) (fun s h => ?_) (fun hK4 => ?_)
  · obtain ⟨v27, rfl⟩ : ∃ x, x = s := ⟨s, rfl⟩
    have h : (rf5_From_j4) v27 = some r := h
    unfold rf5_From_j4 at h
    refine W.seq ?_
    refine W.regT [2] [] [] [] (e2 := [(2, l3 (some 10300) v27)]) (by kernel_rfl) (by kernel_rfl) (fun _ h => h) ?_
    refine W.weak [2] [] [] [(10300, some 1)] (env' := [(2, l3 (some 1) v27)]) (by kernel_rfl) ?_
    have hr : aresults Try.prog Try.f27 [(2, l3 (some 1) v27)] = some (l3 (some 1) v27) := by kernel_rfl
    cases h
    exact W.ret hr
  refine W.seq ?_
  refine W.region (by kernel_rfl) ?_
  refine WO.pureK 1 (some (.int .i64 ((List.map e_rf5Op a1).length : Int))) (v := .int .i64 (a1.length : Int)) (by kernel_rfl) (by rw [List.length_map]) (e1 := [(0, l43 none a1), (3, .nils), (10, l43 none a1), (11, .int .i64 (a1.length : Int))]) (by kernel_rfl) ?_
  refine WO.fin [0, 3, 10, 11, 12] [] [] [] (e2 := [(0, l43 none a1), (3, .nils), (10, l43 none a1), (11, .int .i64 (a1.length : Int)), (12, .int .i64 0)]) (by kernel_rfl) (fun _ h => h) ?_
  refine W.block ?_
  obtain ⟨hl1, h⟩ := chk_some h
  refine W.weak [0, 3, 10, 11, 12] [] [(3, 0, 3, 1, 10300)] [] (env' := [(0, l43 none a1), (3, l3 (some 10300) ([] : (List Int))), (10, l43 none a1), (11, .int .i64 (a1.length : Int)), (12, .int .i64 ((0 : Nat) : Int))]) (by kernel_rfl) ?_
  refine W.range (σ := ((List Int))) a1 (fun k1 s => [(0, l43 none a1), (3, l3 (some 10300) s), (10, l43 none a1), (11, .int .i64 (a1.length : Int)), (12, .int .i64 (k1 : Int))]) (fun r0 k0 s => rf5_From_l1 a1 (rf5_From_j4) r0 k0 s = some r) (fun s h => ?_) (fun x1 r1 k1 s hx1 hk1 h hN1 => ?_) ([] : (List Int)) h
  · obtain ⟨v6, rfl⟩ : ∃ x, x = s := ⟨s, rfl⟩
    have h : rf5_From_l1 a1 (rf5_From_j4) [] (a1).length v6 = some r := h
    rw [rf5_From_l1.eq_1] at h
    refine W.seq ?_
    refine W.region (by kernel_rfl) ?_
    refine WO.pureK 0 (some (.bool (decide (((a1).length : Int) < (a1.length : Int))))) (v := .bool false) (by kernel_rfl) (by rw [lt_false (l := a1)]) (e1 := [(0, l43 none a1), (3, l3 (some 10300) v6), (10, l43 none a1), (11, .int .i64 (a1.length : Int)), (12, .int .i64 ((a1).length : Int)), (13, .bool false)]) (by kernel_rfl) ?_
    refine WO.fin ([0, 3, 10, 11, 12, 13]) [] [] [] (e2 := [(0, l43 none a1), (3, l3 (some 10300) v6), (10, l43 none a1), (11, .int .i64 (a1.length : Int)), (12, .int .i64 ((a1).length : Int)), (13, .bool false)]) (by kernel_rfl) (fun _ h => h) ?_
    refine W.seq ?_
    refine W.condB false (by kernel_rfl) (fun h => Bool.noConfusion h) (fun _ => ?_)
    refine W.exit ?_
    refine W.weak [3] [] [] [] (env' := [(3, l3 (some 10300) v6)]) (by kernel_rfl) ?_
    exact hK4 v6 h
  · obtain ⟨v6, rfl⟩ : ∃ x, x = s := ⟨s, rfl⟩
    have h : rf5_From_l1 a1 (rf5_From_j4) (x1 :: r1) k1 v6 = some r := h
    rw [rf5_From_l1.eq_2] at h
    refine W.seq ?_
    refine W.region (by kernel_rfl) ?_
    refine WO.pureK 0 (some (.bool (decide ((k1 : Int) < (a1.length : Int))))) (v := .bool true) (by kernel_rfl) (by rw [lt_true hk1]) (e1 := [(0, l43 none a1), (3, l3 (some 10300) v6), (10, l43 none a1), (11, .int .i64 (a1.length : Int)), (12, .int .i64 (k1 : Int)), (13, .bool true)]) (by kernel_rfl) ?_
    refine WO.fin ([0, 3, 10, 11, 12, 13]) [] [] [] (e2 := [(0, l43 none a1), (3, l3 (some 10300) v6), (10, l43 none a1), (11, .int .i64 (a1.length : Int)), (12, .int .i64 (k1 : Int)), (13, .bool true)]) (by kernel_rfl) (fun _ h => h) ?_
    refine W.seq ?_
    refine W.condB true (by kernel_rfl) (fun _ => ?_) (fun h => Bool.noConfusion h)
    refine W.skip ?_
    refine W.weak [0, 3, 10, 11, 12] [] [] [] (env' := [(0, l43 none a1), (3, l3 (some 10300) v6), (10, l43 none a1), (11, .int .i64 (a1.length : Int)), (12, .int .i64 (k1 : Int))]) (by kernel_rfl) ?_
    refine W.seq ?_
    refine W.block ?_
    refine W.seq ?_
    refine W.region (by kernel_rfl) ?_
    refine WO.pureK 1 (if (0 : Int) ≤ (k1 : Int) then ((List.map e_rf5Op a1)[Int.toNat (k1 : Int)]?).map AV.ptr else none) (v := .ptr (.agg [.int .i64 x1.f_Txn, .int .i64 x1.f_Kind, .int .i64 x1.f_Item])) (by kernel_rfl) (idx_nat (f := e_rf5Op) hx1) (e1 := [(0, l43 none a1), (3, l3 (some 10300) v6), (10, l43 none a1), (11, .int .i64 (a1.length : Int)), (12, .int .i64 (k1 : Int)), (14, .int .i64 (k1 : Int)), (15, .ptr (.agg [.int .i64 x1.f_Txn, .int .i64 x1.f_Kind, .int .i64 x1.f_Item]))]) (by kernel_rfl) ?_
    refine WO.fin [0, 3, 4, 5, 10, 11, 12] [5] [] [] (e2 := [(0, l43 none a1), (3, l3 (some 10300) v6), (4, .int .i64 (k1 : Int)), (5, .ptr (.agg [.int .i64 x1.f_Txn, .int .i64 x1.f_Kind, .int .i64 x1.f_Item])), (10, l43 none a1), (11, .int .i64 (a1.length : Int)), (12, .int .i64 (k1 : Int))]) (by kernel_rfl) (fun _ h => h) ?_
    refine W.seq ?_
    refine W.regT [0, 3, 4, 5, 6, 10, 11, 12] [] [] [] (e2 := [(0, l43 none a1), (3, l3 (some 10300) v6), (4, .int .i64 (k1 : Int)), (5, .ptr (.agg [.int .i64 x1.f_Txn, .int .i64 x1.f_Kind, .int .i64 x1.f_Item])), (6, .int .i64 (-1)), (10, l43 none a1), (11, .int .i64 (a1.length : Int)), (12, .int .i64 (k1 : Int))]) (by kernel_rfl) (by kernel_rfl) (fun _ h => h) ?_
    refine W.seq ?_
    refine W.join (σ := (Int)) (fun s => [(0, l43 none a1), (3, l3 (some 10300) v6), (6, .int .i64 s), (10, l43 none a1), (11, .int .i64 (a1.length : Int)), (12, .int .i64 (k1 : Int))]) (fun s => (rf5_From_j10 v6 (rf5_From_l1 a1 (rf5_From_j4) r1 (k1 + 1))) s = some r) (fun s h => ?_) (fun hK10 => ?_)
    · obtain ⟨v25, rfl⟩ : ∃ x, x = s := ⟨s, rfl⟩
      have h : (rf5_From_j10 v6 (rf5_From_l1 a1 (rf5_From_j4) r1 (k1 + 1))) v25 = some r := h
      unfold rf5_From_j10 at h
      refine W.region (by kernel_rfl) ?_
      obtain ⟨hc26, h⟩ := chk_some h
      refine WO.appendK 3 (d := 55) (e := 3) (s := 1) (bytes := 8) (xs := (List.map (AV.int .i64) v6)) (ys := (List.map (AV.int .i64) [v25])) (zs := (List.map (AV.int .i64) (v6 ++ [v25]))) (env1 := [(0, l43 none a1), (3, l3 none v6), (6, .int .i64 v25), (10, l43 none a1), (11, .int .i64 (a1.length : Int)), (12, .int .i64 (k1 : Int)), (52, l3 none v6), (53, .int .i64 v25), (54, l3 (some 54) [v25])]) (by kernel_rfl) (List.map_append.symm) (by rw [List.length_map]; exact hc26) (e1 := [(0, l43 none a1), (3, l3 none v6), (6, .int .i64 v25), (10, l43 none a1), (11, .int .i64 (a1.length : Int)), (12, .int .i64 (k1 : Int)), (52, l3 none v6), (53, .int .i64 v25), (54, l3 (some 54) [v25]), (55, l3 (some 55) (v6 ++ [v25]))]) (by kernel_rfl) ?_
      refine WO.fin [0, 3, 10, 11, 12] [] [] [] (e2 := [(0, l43 none a1), (3, l3 (some 55) (v6 ++ [v25])), (10, l43 none a1), (11, .int .i64 (a1.length : Int)), (12, .int .i64 (k1 : Int))]) (by kernel_rfl) (fun _ h => h) ?_
      refine W.region (by kernel_rfl) ?_
      refine WO.pureK 0 (some (.int .i64 (IntKind.wrap .i64 ((k1 : Int) + 1)))) (v := .int .i64 ((k1 + 1 : Nat) : Int)) (by kernel_rfl) (by rw [wrap_succ hl1 hk1]) (e1 := [(0, l43 none a1), (3, l3 (some 55) (v6 ++ [v25])), (10, l43 none a1), (11, .int .i64 (a1.length : Int)), (12, .int .i64 (k1 : Int)), (56, .int .i64 ((k1 + 1 : Nat) : Int))]) (by kernel_rfl) ?_
      refine WO.fin [0, 3, 10, 11, 12] [] [] [(55, some 10300)] (e2 := [(0, l43 none a1), (3, l3 (some 10300) (v6 ++ [v25])), (10, l43 none a1), (11, .int .i64 (a1.length : Int)), (12, .int .i64 ((k1 + 1 : Nat) : Int))]) (by kernel_rfl) (fun _ h => h) ?_
      exact hN1 (v6 ++ [v25]) h
    refine W.seq ?_
    refine W.regT [0, 3, 4, 5, 6, 10, 11, 12, 19] [] [] [] (e2 := [(0, l43 none a1), (3, l3 (some 10300) v6), (4, .int .i64 (k1 : Int)), (5, .ptr (.agg [.int .i64 x1.f_Txn, .int .i64 x1.f_Kind, .int .i64 x1.f_Item])), (6, .int .i64 (-1)), (10, l43 none a1), (11, .int .i64 (a1.length : Int)), (12, .int .i64 (k1 : Int)), (19, .bool (x1.f_Kind == 0))]) (by kernel_rfl) (by kernel_rfl) (fun _ h => h) ?_
    refine W.condB (x1.f_Kind == 0) (by kernel_rfl) (fun hb => ?_) (fun hb => ?_)
    · replace h := cond_t hb h
      refine W.seq ?_
      refine W.regT [0, 3, 4, 5, 6, 10, 11, 12] [] [] [] (e2 := [(0, l43 none a1), (3, l3 (some 10300) v6), (4, .int .i64 (k1 : Int)), (5, .ptr (.agg [.int .i64 x1.f_Txn, .int .i64 x1.f_Kind, .int .i64 x1.f_Item])), (6, .int .i64 0), (10, l43 none a1), (11, .int .i64 (a1.length : Int)), (12, .int .i64 (k1 : Int))]) (by kernel_rfl) (by kernel_rfl) (fun _ h => h) ?_
      refine W.seq ?_
      refine W.region (by kernel_rfl) ?_
      obtain ⟨e14, he14, h⟩ := bind_some h
      refine WO.pureK 2 (if (0 : Int) ≤ 0 ∧ 0 ≤ (k1 : Int) ∧ (k1 : Int) ≤ ((List.map e_rf5Op a1).length : Int) then some (.lst 43 3 none (((List.map e_rf5Op a1).take (Int.toNat (k1 : Int))).drop (Int.toNat 0))) else none) (v := l43 none e14) (by kernel_rfl) (sub_av he14) (e1 := [(0, l43 none a1), (3, l3 (some 10300) v6), (4, .int .i64 (k1 : Int)), (5, .ptr (.agg [.int .i64 x1.f_Txn, .int .i64 x1.f_Kind, .int .i64 x1.f_Item])), (6, .int .i64 0), (10, l43 none a1), (11, .int .i64 (a1.length : Int)), (12, .int .i64 (k1 : Int)), (20, l43 none a1), (21, .int .i64 (k1 : Int)), (22, l43 none e14)]) (by kernel_rfl) ?_
      refine WO.pureK 0 (some (.int .i64 ((List.map e_rf5Op e14).length : Int))) (v := .int .i64 (e14.length : Int)) (by kernel_rfl) (by rw [List.length_map]) (e1 := [(0, l43 none a1), (3, l3 (some 10300) v6), (4, .int .i64 (k1 : Int)), (5, .ptr (.agg [.int .i64 x1.f_Txn, .int .i64 x1.f_Kind, .int .i64 x1.f_Item])), (6, .int .i64 0), (10, l43 none a1), (11, .int .i64 (a1.length : Int)), (12, .int .i64 (k1 : Int)), (20, l43 none a1), (21, .int .i64 (k1 : Int)), (22, l43 none e14), (23, .int .i64 (e14.length : Int))]) (by kernel_rfl) ?_
      refine WO.fin [0, 3, 4, 5, 6, 10, 11, 12, 22, 23, 24] [] [] [] (e2 := [(0, l43 none a1), (3, l3 (some 10300) v6), (4, .int .i64 (k1 : Int)), (5, .ptr (.agg [.int .i64 x1.f_Txn, .int .i64 x1.f_Kind, .int .i64 x1.f_Item])), (6, .int .i64 0), (10, l43 none a1), (11, .int .i64 (a1.length : Int)), (12, .int .i64 (k1 : Int)), (22, l43 none e14), (23, .int .i64 (e14.length : Int)), (24, .int .i64 0)]) (by kernel_rfl) (fun _ h => h) ?_
      refine W.block ?_
      obtain ⟨hl2, h⟩ := chk_some h
      refine W.weak [0, 3, 4, 5, 6, 10, 11, 12, 22, 23, 24] [] [] [] (env' := [(0, l43 none a1), (3, l3 (some 10300) v6), (4, .int .i64 (k1 : Int)), (5, .ptr (.agg [.int .i64 x1.f_Txn, .int .i64 x1.f_Kind, .int .i64 x1.f_Item])), (6, .int .i64 0), (10, l43 none a1), (11, .int .i64 (a1.length : Int)), (12, .int .i64 (k1 : Int)), (22, l43 none e14), (23, .int .i64 (e14.length : Int)), (24, .int .i64 ((0 : Nat) : Int))]) (by kernel_rfl) ?_
      refine W.range (σ := (Int)) e14 (fun k2 s => [(0, l43 none a1), (3, l3 (some 10300) v6), (4, .int .i64 (k1 : Int)), (5, .ptr (.agg [.int .i64 x1.f_Txn, .int .i64 x1.f_Kind, .int .i64 x1.f_Item])), (6, .int .i64 s), (10, l43 none a1), (11, .int .i64 (a1.length : Int)), (12, .int .i64 (k1 : Int)), (22, l43 none e14), (23, .int .i64 (e14.length : Int)), (24, .int .i64 (k2 : Int))]) (fun r0 k0 s => rf5_From_l2 a1 k1 x1 (rf5_From_j10 v6 (rf5_From_l1 a1 (rf5_From_j4) r1 (k1 + 1))) r0 k0 s = some r) (fun s h => ?_) (fun x2 r2 k2 s hx2 hk2 h hN2 => ?_) 0 h
      · obtain ⟨v15, rfl⟩ : ∃ x, x = s := ⟨s, rfl⟩
        have h : rf5_From_l2 a1 k1 x1 (rf5_From_j10 v6 (rf5_From_l1 a1 (rf5_From_j4) r1 (k1 + 1))) [] (e14).length v15 = some r := h
        rw [rf5_From_l2.eq_1] at h
        refine W.seq ?_
        refine W.region (by kernel_rfl) ?_
        refine WO.pureK 0 (some (.bool (decide (((e14).length : Int) < (e14.length : Int))))) (v := .bool false) (by kernel_rfl) (by rw [lt_false (l := e14)]) (e1 := [(0, l43 none a1), (3, l3 (some 10300) v6), (4, .int .i64 (k1 : Int)), (5, .ptr (.agg [.int .i64 x1.f_Txn, .int .i64 x1.f_Kind, .int .i64 x1.f_Item])), (6, .int .i64 v15), (10, l43 none a1), (11, .int .i64 (a1.length : Int)), (12, .int .i64 (k1 : Int)), (22, l43 none e14), (23, .int .i64 (e14.length : Int)), (24, .int .i64 ((e14).length : Int)), (25, .bool false)]) (by kernel_rfl) ?_
        refine WO.fin ([0, 3, 4, 5, 6, 10, 11, 12, 22, 23, 24, 25]) [] [] [] (e2 := [(0, l43 none a1), (3, l3 (some 10300) v6), (4, .int .i64 (k1 : Int)), (5, .ptr (.agg [.int .i64 x1.f_Txn, .int .i64 x1.f_Kind, .int .i64 x1.f_Item])), (6, .int .i64 v15), (10, l43 none a1), (11, .int .i64 (a1.length : Int)), (12, .int .i64 (k1 : Int)), (22, l43 none e14), (23, .int .i64 (e14.length : Int)), (24, .int .i64 ((e14).length : Int)), (25, .bool false)]) (by kernel_rfl) (fun _ h => h) ?_
        refine W.seq ?_
        refine W.condB false (by kernel_rfl) (fun h => Bool.noConfusion h) (fun _ => ?_)
        refine W.exit ?_
        refine W.weak [0, 3, 6, 10, 11, 12] [] [] [] (env' := [(0, l43 none a1), (3, l3 (some 10300) v6), (6, .int .i64 v15), (10, l43 none a1), (11, .int .i64 (a1.length : Int)), (12, .int .i64 (k1 : Int))]) (by kernel_rfl) ?_
        exact hK10 v15 h
      · obtain ⟨v15, rfl⟩ : ∃ x, x = s := ⟨s, rfl⟩
        have h : rf5_From_l2 a1 k1 x1 (rf5_From_j10 v6 (rf5_From_l1 a1 (rf5_From_j4) r1 (k1 + 1))) (x2 :: r2) k2 v15 = some r := h
        rw [rf5_From_l2.eq_2] at h
        refine W.seq ?_
        refine W.region (by kernel_rfl) ?_
        refine WO.pureK 0 (some (.bool (decide ((k2 : Int) < (e14.length : Int))))) (v := .bool true) (by kernel_rfl) (by rw [lt_true hk2]) (e1 := [(0, l43 none a1), (3, l3 (some 10300) v6), (4, .int .i64 (k1 : Int)), (5, .ptr (.agg [.int .i64 x1.f_Txn, .int .i64 x1.f_Kind, .int .i64 x1.f_Item])), (6, .int .i64 v15), (10, l43 none a1), (11, .int .i64 (a1.length : Int)), (12, .int .i64 (k1 : Int)), (22, l43 none e14), (23, .int .i64 (e14.length : Int)), (24, .int .i64 (k2 : Int)), (25, .bool true)]) (by kernel_rfl) ?_
        refine WO.fin ([0, 3, 4, 5, 6, 10, 11, 12, 22, 23, 24, 25]) [] [] [] (e2 := [(0, l43 none a1), (3, l3 (some 10300) v6), (4, .int .i64 (k1 : Int)), (5, .ptr (.agg [.int .i64 x1.f_Txn, .int .i64 x1.f_Kind, .int .i64 x1.f_Item])), (6, .int .i64 v15), (10, l43 none a1), (11, .int .i64 (a1.length : Int)), (12, .int .i64 (k1 : Int)), (22, l43 none e14), (23, .int .i64 (e14.length : Int)), (24, .int .i64 (k2 : Int)), (25, .bool true)]) (by kernel_rfl) (fun _ h => h) ?_
        refine W.seq ?_
        refine W.condB true (by kernel_rfl) (fun _ => ?_) (fun h => Bool.noConfusion h)
        refine W.skip ?_
        refine W.weak [0, 3, 4, 5, 6, 10, 11, 12, 22, 23, 24] [] [] [] (env' := [(0, l43 none a1), (3, l3 (some 10300) v6), (4, .int .i64 (k1 : Int)), (5, .ptr (.agg [.int .i64 x1.f_Txn, .int .i64 x1.f_Kind, .int .i64 x1.f_Item])), (6, .int .i64 v15), (10, l43 none a1), (11, .int .i64 (a1.length : Int)), (12, .int .i64 (k1 : Int)), (22, l43 none e14), (23, .int .i64 (e14.length : Int)), (24, .int .i64 (k2 : Int))]) (by kernel_rfl) ?_
        refine W.seq ?_
        refine W.join (σ := (Int)) (fun s => [(0, l43 none a1), (3, l3 (some 10300) v6), (4, .int .i64 (k1 : Int)), (5, .ptr (.agg [.int .i64 x1.f_Txn, .int .i64 x1.f_Kind, .int .i64 x1.f_Item])), (6, .int .i64 s), (10, l43 none a1), (11, .int .i64 (a1.length : Int)), (12, .int .i64 (k1 : Int)), (22, l43 none e14), (23, .int .i64 (e14.length : Int)), (24, .int .i64 (k2 : Int))]) (fun s => (rf5_From_j16 (rf5_From_l2 a1 k1 x1 (rf5_From_j10 v6 (rf5_From_l1 a1 (rf5_From_j4) r1 (k1 + 1))) r2 (k2 + 1))) s = some r) (fun s h => ?_) (fun hK16 => ?_)
        · obtain ⟨v24, rfl⟩ : ∃ x, x = s := ⟨s, rfl⟩
          have h : (rf5_From_j16 (rf5_From_l2 a1 k1 x1 (rf5_From_j10 v6 (rf5_From_l1 a1 (rf5_From_j4) r1 (k1 + 1))) r2 (k2 + 1))) v24 = some r := h
          unfold rf5_From_j16 at h
          refine W.region (by kernel_rfl) ?_
          refine WO.pureK 0 (some (.int .i64 (IntKind.wrap .i64 ((k2 : Int) + 1)))) (v := .int .i64 ((k2 + 1 : Nat) : Int)) (by kernel_rfl) (by rw [wrap_succ hl2 hk2]) (e1 := [(0, l43 none a1), (3, l3 (some 10300) v6), (4, .int .i64 (k1 : Int)), (5, .ptr (.agg [.int .i64 x1.f_Txn, .int .i64 x1.f_Kind, .int .i64 x1.f_Item])), (6, .int .i64 v24), (10, l43 none a1), (11, .int .i64 (a1.length : Int)), (12, .int .i64 (k1 : Int)), (22, l43 none e14), (23, .int .i64 (e14.length : Int)), (24, .int .i64 (k2 : Int)), (51, .int .i64 ((k2 + 1 : Nat) : Int))]) (by kernel_rfl) ?_
          refine WO.fin [0, 3, 4, 5, 6, 10, 11, 12, 22, 23, 24] [] [] [] (e2 := [(0, l43 none a1), (3, l3 (some 10300) v6), (4, .int .i64 (k1 : Int)), (5, .ptr (.agg [.int .i64 x1.f_Txn, .int .i64 x1.f_Kind, .int .i64 x1.f_Item])), (6, .int .i64 v24), (10, l43 none a1), (11, .int .i64 (a1.length : Int)), (12, .int .i64 (k1 : Int)), (22, l43 none e14), (23, .int .i64 (e14.length : Int)), (24, .int .i64 ((k2 + 1 : Nat) : Int))]) (by kernel_rfl) (fun _ h => h) ?_
          exact hN2 v24 h
        refine W.block ?_
        refine W.seq ?_
        refine W.region (by kernel_rfl) ?_
        refine WO.pureK 0 (if (0 : Int) ≤ (k2 : Int) then ((List.map e_rf5Op e14)[Int.toNat (k2 : Int)]?).map AV.ptr else none) (v := .ptr (.agg [.int .i64 x2.f_Txn, .int .i64 x2.f_Kind, .int .i64 x2.f_Item])) (by kernel_rfl) (idx_nat (f := e_rf5Op) hx2) (e1 := [(0, l43 none a1), (3, l3 (some 10300) v6), (4, .int .i64 (k1 : Int)), (5, .ptr (.agg [.int .i64 x1.f_Txn, .int .i64 x1.f_Kind, .int .i64 x1.f_Item])), (6, .int .i64 v15), (10, l43 none a1), (11, .int .i64 (a1.length : Int)), (12, .int .i64 (k1 : Int)), (22, l43 none e14), (23, .int .i64 (e14.length : Int)), (24, .int .i64 (k2 : Int)), (26, .ptr (.agg [.int .i64 x2.f_Txn, .int .i64 x2.f_Kind, .int .i64 x2.f_Item]))]) (by kernel_rfl) ?_
        refine WO.fin [0, 3, 4, 5, 6, 8, 10, 11, 12, 22, 23, 24] [8] [] [] (e2 := [(0, l43 none a1), (3, l3 (some 10300) v6), (4, .int .i64 (k1 : Int)), (5, .ptr (.agg [.int .i64 x1.f_Txn, .int .i64 x1.f_Kind, .int .i64 x1.f_Item])), (6, .int .i64 v15), (8, .ptr (.agg [.int .i64 x2.f_Txn, .int .i64 x2.f_Kind, .int .i64 x2.f_Item])), (10, l43 none a1), (11, .int .i64 (a1.length : Int)), (12, .int .i64 (k1 : Int)), (22, l43 none e14), (23, .int .i64 (e14.length : Int)), (24, .int .i64 (k2 : Int))]) (by kernel_rfl) (fun _ h => h) ?_
        refine W.seq ?_
        refine W.join (σ := (Bool)) (fun s => [(0, l43 none a1), (3, l3 (some 10300) v6), (4, .int .i64 (k1 : Int)), (5, .ptr (.agg [.int .i64 x1.f_Txn, .int .i64 x1.f_Kind, .int .i64 x1.f_Item])), (6, .int .i64 v15), (8, .ptr (.agg [.int .i64 x2.f_Txn, .int .i64 x2.f_Kind, .int .i64 x2.f_Item])), (10, l43 none a1), (11, .int .i64 (a1.length : Int)), (12, .int .i64 (k1 : Int)), (22, l43 none e14), (23, .int .i64 (e14.length : Int)), (24, .int .i64 (k2 : Int)), (37, .bool s)]) (fun s => (rf5_From_j18 a1 k1 x2 v15 (rf5_From_j16 (rf5_From_l2 a1 k1 x1 (rf5_From_j10 v6 (rf5_From_l1 a1 (rf5_From_j4) r1 (k1 + 1))) r2 (k2 + 1)))) s = some r) (fun s h => ?_) (fun hK18 => ?_)
        · obtain ⟨v19, rfl⟩ : ∃ x, x = s := ⟨s, rfl⟩
          have h : (rf5_From_j18 a1 k1 x2 v15 (rf5_From_j16 (rf5_From_l2 a1 k1 x1 (rf5_From_j10 v6 (rf5_From_l1 a1 (rf5_From_j4) r1 (k1 + 1))) r2 (k2 + 1)))) v19 = some r := h
          unfold rf5_From_j18 at h
          refine W.condB v19 (by kernel_rfl) (fun hb => ?_) (fun hb => ?_)
          · replace h := cond_t hb h
            refine W.seq ?_
            refine W.region (by kernel_rfl) ?_
            obtain ⟨w21, hw21, h⟩ := bind_some h
            refine WO.callK 3 (F := 61) (l := [l43 none a1, .int .i64 x2.f_Txn, .int .i64 3]) (C := []) (r := .int .i64 w21) (by kernel_rfl) (by kernel_rfl) (run_rf5_end a1 x2.f_Txn 3 w21 hw21) (e1 := [(0, l43 none a1), (3, l3 (some 10300) v6), (4, .int .i64 (k1 : Int)), (5, .ptr (.agg [.int .i64 x1.f_Txn, .int .i64 x1.f_Kind, .int .i64 x1.f_Item])), (6, .int .i64 v15), (8, .ptr (.agg [.int .i64 x2.f_Txn, .int .i64 x2.f_Kind, .int .i64 x2.f_Item])), (10, l43 none a1), (11, .int .i64 (a1.length : Int)), (12, .int .i64 (k1 : Int)), (22, l43 none e14), (23, .int .i64 (e14.length : Int)), (24, .int .i64 (k2 : Int)), (37, .bool v19), (38, l43 none a1), (39, .ptr (.int .i64 x2.f_Txn)), (40, .int .i64 x2.f_Txn), (41, .int .i64 w21)]) (by kernel_rfl) ?_
            refine WO.fin [0, 3, 4, 5, 6, 8, 9, 10, 11, 12, 22, 23, 24] [] [] [] (e2 := [(0, l43 none a1), (3, l3 (some 10300) v6), (4, .int .i64 (k1 : Int)), (5, .ptr (.agg [.int .i64 x1.f_Txn, .int .i64 x1.f_Kind, .int .i64 x1.f_Item])), (6, .int .i64 v15), (8, .ptr (.agg [.int .i64 x2.f_Txn, .int .i64 x2.f_Kind, .int .i64 x2.f_Item])), (9, .int .i64 w21), (10, l43 none a1), (11, .int .i64 (a1.length : Int)), (12, .int .i64 (k1 : Int)), (22, l43 none e14), (23, .int .i64 (e14.length : Int)), (24, .int .i64 (k2 : Int))]) (by kernel_rfl) (fun _ h => h) ?_
            refine W.seq ?_
            refine W.join (σ := (Bool)) (fun s => [(0, l43 none a1), (3, l3 (some 10300) v6), (4, .int .i64 (k1 : Int)), (5, .ptr (.agg [.int .i64 x1.f_Txn, .int .i64 x1.f_Kind, .int .i64 x1.f_Item])), (6, .int .i64 v15), (8, .ptr (.agg [.int .i64 x2.f_Txn, .int .i64 x2.f_Kind, .int .i64 x2.f_Item])), (10, l43 none a1), (11, .int .i64 (a1.length : Int)), (12, .int .i64 (k1 : Int)), (22, l43 none e14), (23, .int .i64 (e14.length : Int)), (24, .int .i64 (k2 : Int)), (48, .bool s)]) (fun s => (rf5_From_j22 x2 v15 (rf5_From_j16 (rf5_From_l2 a1 k1 x1 (rf5_From_j10 v6 (rf5_From_l1 a1 (rf5_From_j4) r1 (k1 + 1))) r2 (k2 + 1)))) s = some r) (fun s h => ?_) (fun hK22 => ?_)
            · obtain ⟨v23, rfl⟩ : ∃ x, x = s := ⟨s, rfl⟩
              have h : (rf5_From_j22 x2 v15 (rf5_From_j16 (rf5_From_l2 a1 k1 x1 (rf5_From_j10 v6 (rf5_From_l1 a1 (rf5_From_j4) r1 (k1 + 1))) r2 (k2 + 1)))) v23 = some r := h
              unfold rf5_From_j22 at h
              refine W.condB v23 (by kernel_rfl) (fun hb => ?_) (fun hb => ?_)
              · replace h := cond_t hb h
                refine W.regT [0, 3, 4, 5, 6, 10, 11, 12, 22, 23, 24] [] [] [] (e2 := [(0, l43 none a1), (3, l3 (some 10300) v6), (4, .int .i64 (k1 : Int)), (5, .ptr (.agg [.int .i64 x1.f_Txn, .int .i64 x1.f_Kind, .int .i64 x1.f_Item])), (6, .int .i64 x2.f_Txn), (10, l43 none a1), (11, .int .i64 (a1.length : Int)), (12, .int .i64 (k1 : Int)), (22, l43 none e14), (23, .int .i64 (e14.length : Int)), (24, .int .i64 (k2 : Int))]) (by kernel_rfl) (by kernel_rfl) (fun _ h => h) ?_
                exact hK16 x2.f_Txn h
              replace h := cond_f hb h
              refine W.skip ?_
              refine W.weak [0, 3, 4, 5, 6, 10, 11, 12, 22, 23, 24] [] [] [] (env' := [(0, l43 none a1), (3, l3 (some 10300) v6), (4, .int .i64 (k1 : Int)), (5, .ptr (.agg [.int .i64 x1.f_Txn, .int .i64 x1.f_Kind, .int .i64 x1.f_Item])), (6, .int .i64 v15), (10, l43 none a1), (11, .int .i64 (a1.length : Int)), (12, .int .i64 (k1 : Int)), (22, l43 none e14), (23, .int .i64 (e14.length : Int)), (24, .int .i64 (k2 : Int))]) (by kernel_rfl) ?_
              exact hK16 v15 h
            refine W.region (by kernel_rfl) ?_
            refine WO.boolK 3 (fun b => [(0, l43 none a1), (3, l3 (some 10300) v6), (4, .int .i64 (k1 : Int)), (5, .ptr (.agg [.int .i64 x1.f_Txn, .int .i64 x1.f_Kind, .int .i64 x1.f_Item])), (6, .int .i64 v15), (8, .ptr (.agg [.int .i64 x2.f_Txn, .int .i64 x2.f_Kind, .int .i64 x2.f_Item])), (9, .int .i64 w21), (10, l43 none a1), (11, .int .i64 (a1.length : Int)), (12, .int .i64 (k1 : Int)), (22, l43 none e14), (23, .int .i64 (e14.length : Int)), (24, .int .i64 (k2 : Int)), (42, .int .i64 w21), (43, .bool b), (44, .bool b)]) (decide (w21 < 0)) (by kernel_rfl) (fun hb => ?_) (fun hb => ?_)
            · replace h := cond_t hb h
              refine WO.fin [0, 3, 4, 5, 6, 8, 10, 11, 12, 22, 23, 24, 48] [] [] [] (e2 := [(0, l43 none a1), (3, l3 (some 10300) v6), (4, .int .i64 (k1 : Int)), (5, .ptr (.agg [.int .i64 x1.f_Txn, .int .i64 x1.f_Kind, .int .i64 x1.f_Item])), (6, .int .i64 v15), (8, .ptr (.agg [.int .i64 x2.f_Txn, .int .i64 x2.f_Kind, .int .i64 x2.f_Item])), (10, l43 none a1), (11, .int .i64 (a1.length : Int)), (12, .int .i64 (k1 : Int)), (22, l43 none e14), (23, .int .i64 (e14.length : Int)), (24, .int .i64 (k2 : Int)), (48, .bool true)]) (by kernel_rfl) (fun _ h => h) ?_
              exact hK22 true h
            replace h := cond_f hb h
            refine WO.fin [0, 3, 4, 5, 6, 8, 10, 11, 12, 22, 23, 24, 48] [] [] [] (e2 := [(0, l43 none a1), (3, l3 (some 10300) v6), (4, .int .i64 (k1 : Int)), (5, .ptr (.agg [.int .i64 x1.f_Txn, .int .i64 x1.f_Kind, .int .i64 x1.f_Item])), (6, .int .i64 v15), (8, .ptr (.agg [.int .i64 x2.f_Txn, .int .i64 x2.f_Kind, .int .i64 x2.f_Item])), (10, l43 none a1), (11, .int .i64 (a1.length : Int)), (12, .int .i64 (k1 : Int)), (22, l43 none e14), (23, .int .i64 (e14.length : Int)), (24, .int .i64 (k2 : Int)), (48, .bool (decide (w21 > (k1 : Int))))]) (by kernel_rfl) (fun _ h => h) ?_
            exact hK22 (decide (w21 > (k1 : Int))) h
          replace h := cond_f hb h
          refine W.skip ?_
          refine W.weak [0, 3, 4, 5, 6, 10, 11, 12, 22, 23, 24] [] [] [] (env' := [(0, l43 none a1), (3, l3 (some 10300) v6), (4, .int .i64 (k1 : Int)), (5, .ptr (.agg [.int .i64 x1.f_Txn, .int .i64 x1.f_Kind, .int .i64 x1.f_Item])), (6, .int .i64 v15), (10, l43 none a1), (11, .int .i64 (a1.length : Int)), (12, .int .i64 (k1 : Int)), (22, l43 none e14), (23, .int .i64 (e14.length : Int)), (24, .int .i64 (k2 : Int))]) (by kernel_rfl) ?_
          exact hK16 v15 h
        refine W.region (by kernel_rfl) ?_
        refine WO.boolK 4 (fun b => [(0, l43 none a1), (3, l3 (some 10300) v6), (4, .int .i64 (k1 : Int)), (5, .ptr (.agg [.int .i64 x1.f_Txn, .int .i64 x1.f_Kind, .int .i64 x1.f_Item])), (6, .int .i64 v15), (8, .ptr (.agg [.int .i64 x2.f_Txn, .int .i64 x2.f_Kind, .int .i64 x2.f_Item])), (10, l43 none a1), (11, .int .i64 (a1.length : Int)), (12, .int .i64 (k1 : Int)), (22, l43 none e14), (23, .int .i64 (e14.length : Int)), (24, .int .i64 (k2 : Int)), (28, .ptr (.int .i64 x2.f_Kind)), (29, .int .i64 x2.f_Kind), (30, .bool b), (31, .bool b)]) (x2.f_Kind == 1) (by kernel_rfl) (fun hb => ?_) (fun hb => ?_)
        · replace h := cond_t hb h
          refine WO.fin [0, 3, 4, 5, 6, 8, 10, 11, 12, 22, 23, 24, 37] [] [] [] (e2 := [(0, l43 none a1), (3, l3 (some 10300) v6), (4, .int .i64 (k1 : Int)), (5, .ptr (.agg [.int .i64 x1.f_Txn, .int .i64 x1.f_Kind, .int .i64 x1.f_Item])), (6, .int .i64 v15), (8, .ptr (.agg [.int .i64 x2.f_Txn, .int .i64 x2.f_Kind, .int .i64 x2.f_Item])), (10, l43 none a1), (11, .int .i64 (a1.length : Int)), (12, .int .i64 (k1 : Int)), (22, l43 none e14), (23, .int .i64 (e14.length : Int)), (24, .int .i64 (k2 : Int)), (37, .bool (x2.f_Item == x1.f_Item))]) (by kernel_rfl) (fun _ h => h) ?_
          exact hK18 (x2.f_Item == x1.f_Item) h
        replace h := cond_f hb h
        refine WO.fin [0, 3, 4, 5, 6, 8, 10, 11, 12, 22, 23, 24, 37] [] [] [] (e2 := [(0, l43 none a1), (3, l3 (some 10300) v6), (4, .int .i64 (k1 : Int)), (5, .ptr (.agg [.int .i64 x1.f_Txn, .int .i64 x1.f_Kind, .int .i64 x1.f_Item])), (6, .int .i64 v15), (8, .ptr (.agg [.int .i64 x2.f_Txn, .int .i64 x2.f_Kind, .int .i64 x2.f_Item])), (10, l43 none a1), (11, .int .i64 (a1.length : Int)), (12, .int .i64 (k1 : Int)), (22, l43 none e14), (23, .int .i64 (e14.length : Int)), (24, .int .i64 (k2 : Int)), (37, .bool false)]) (by kernel_rfl) (fun _ h => h) ?_
        exact hK18 false h
    replace h := cond_f hb h
    refine W.skip ?_
    refine W.weak [0, 3, 6, 10, 11, 12] [] [] [] (env' := [(0, l43 none a1), (3, l3 (some 10300) v6), (6, .int .i64 (-1)), (10, l43 none a1), (11, .int .i64 (a1.length : Int)), (12, .int .i64 (k1 : Int))]) (by kernel_rfl) ?_
    exact hK10 (-1) h
def lw5_HistoryReads_j17 (v18 : Bool) : Option Bool :=
  (some v18)
def lw5_HistoryReads_j19 (v22 : Bool) : Option Bool :=
  (some v22)
def lw5_HistoryReads_j7 (a1 : (List rf5Op)) (w5 : ((List Int) × Int)) (v12 : Bool) : Option Bool :=
  (bif v12 then (some false) else ((rf5_Valid a1).bind fun w16 => (bif (!w16) then (bif ((w5.1.length : Int) == 0) then ((lw5_HistoryReads_j17) (w5.2 == 2)) else ((lw5_HistoryReads_j17) false)) else ((rf5_From a1).bind fun w20 => ((sl_Equal_int w5.1 w20).bind fun w21 => (bif w21 then ((lw5_HistoryReads_j19) (w5.2 == 0)) else ((lw5_HistoryReads_j19) false)))))))
def lw5_HistoryReads (fuel : Nat) (a1 : (List rf5Op)) : Option Bool :=
  ((lw5_of a1).bind fun w4 => ((hs_From fuel w4).bind fun w5 => ((lw5_of a1).bind fun w8 => ((hs_Valid w8).bind fun w9 => ((rf5_Valid a1).bind fun w10 => (bif (!(w9 == w10)) then ((lw5_HistoryReads_j7 a1 w5) true) else ((lw5_awake fuel).bind fun w11 => ((lw5_HistoryReads_j7 a1 w5) (!w11)))))))))
theorem run_lw5_HistoryReads (fuel : Nat) (a1 : (List rf5Op)) (r : Bool) (h : lw5_HistoryReads fuel a1 = some r) : Run Try.prog (.call 4 [l43 none a1] (.bool r)) := by
  refine call_of_W Try.func4 rfl (by kernel_rfl) (env0 := [(0, l43 none a1)]) (by kernel_rfl) ?_
  unfold lw5_HistoryReads at h
  refine W.seq ?_
  refine W.regT [0] [] [] [] (e2 := [(0, l43 none a1)]) (by kernel_rfl) (by kernel_rfl) (fun _ h => h) ?_
  refine W.seq ?_
  refine W.region (by kernel_rfl) ?_
  obtain ⟨w4, hw4, h⟩ := bind_some h
  refine WO.callK 1 (F := 18) (l := [l43 none a1]) (C := []) (r := l44 (some 1) w4) (by kernel_rfl) (by kernel_rfl) (run_lw5_of a1 w4 hw4) (e1 := [(0, l43 none a1), (6, l43 none a1), (7, l44 (some 7) w4)]) (by kernel_rfl) ?_
  obtain ⟨w5, hw5, h⟩ := bind_some h
  refine WO.callK 0 (F := 25) (l := [l44 none w4]) (C := []) (r := .tup [l3 none w5.1, .int .i64 w5.2]) (by kernel_rfl) (by kernel_rfl) (run_hs_From fuel w4 w5 hw5) (e1 := [(0, l43 none a1), (6, l43 none a1), (7, l44 (some 7) w4), (8, .tup [l3 none w5.1, .int .i64 w5.2])]) (by kernel_rfl) ?_
  refine WO.fin [0, 3, 4] [] [] [] (e2 := [(0, l43 none a1), (3, l3 none w5.1), (4, .int .i64 w5.2)]) (by kernel_rfl) (fun _ h => h) ?_
  refine W.seq ?_
  refine W.seq ?_
  refine W.join (σ := (Bool)) (fun s => [(0, l43 none a1), (3, l3 none w5.1), (4, .int .i64 w5.2), (20, .bool s)]) (fun s => (lw5_HistoryReads_j7 a1 w5) s = some r) (fun s h => ?_) (fun hK7 => ?_)
  · obtain ⟨v12, rfl⟩ : ∃ x, x = s := ⟨s, rfl⟩
    have h : (lw5_HistoryReads_j7 a1 w5) v12 = some r := h
    unfold lw5_HistoryReads_j7 at h
    refine W.condB v12 (by kernel_rfl) (fun hb => ?_) (fun hb => ?_)
    · replace h := cond_t hb h
      refine W.seq ?_
      refine W.regT [2] [] [] [] (e2 := [(2, .bool false)]) (by kernel_rfl) (by kernel_rfl) (fun _ h => h) ?_
      refine W.weak [2] [] [] [] (env' := [(2, .bool false)]) (by kernel_rfl) ?_
      have hr : aresults Try.prog Try.f4 [(2, .bool false)] = some (.bool false) := by kernel_rfl
      cases h
      exact W.ret hr
    replace h := cond_f hb h
    refine W.skip ?_
    refine W.weak [0, 3, 4] [] [] [] (env' := [(0, l43 none a1), (3, l3 none w5.1), (4, .int .i64 w5.2)]) (by kernel_rfl) ?_
    refine W.seq ?_
    refine W.seq ?_
    refine W.region (by kernel_rfl) ?_
    obtain ⟨w16, hw16, h⟩ := bind_some h
    refine WO.callK 1 (F := 20) (l := [l43 none a1]) (C := []) (r := .bool w16) (by kernel_rfl) (by kernel_rfl) (run_rf5_Valid a1 w16 hw16) (e1 := [(0, l43 none a1), (3, l3 none w5.1), (4, .int .i64 w5.2), (21, l43 none a1), (22, .bool w16)]) (by kernel_rfl) ?_
    refine WO.fin [0, 3, 4, 23] [] [] [] (e2 := [(0, l43 none a1), (3, l3 none w5.1), (4, .int .i64 w5.2), (23, .bool (!w16))]) (by kernel_rfl) (fun _ h => h) ?_
    refine W.condB (!w16) (by kernel_rfl) (fun hb => ?_) (fun hb => ?_)
    · replace h := cond_t hb h
      refine W.seq ?_
      refine W.join (σ := (Bool)) (fun s => [(2, .bool s)]) (fun s => (lw5_HistoryReads_j17) s = some r) (fun s h => ?_) (fun hK17 => ?_)
      · obtain ⟨v18, rfl⟩ : ∃ x, x = s := ⟨s, rfl⟩
        have h : (lw5_HistoryReads_j17) v18 = some r := h
        unfold lw5_HistoryReads_j17 at h
        refine W.weak [2] [] [] [] (env' := [(2, .bool v18)]) (by kernel_rfl) ?_
        have hr : aresults Try.prog Try.f4 [(2, .bool v18)] = some (.bool v18) := by kernel_rfl
        cases h
        exact W.ret hr
      refine W.region (by kernel_rfl) ?_
      refine WO.pureK 1 (some (.int .i64 ((List.map (AV.int .i64) w5.1).length : Int))) (v := .int .i64 (w5.1.length : Int)) (by kernel_rfl) (by rw [List.length_map]) (e1 := [(0, l43 none a1), (3, l3 none w5.1), (4, .int .i64 w5.2), (23, .bool (!w16)), (24, l3 none w5.1), (25, .int .i64 (w5.1.length : Int))]) (by kernel_rfl) ?_
      refine WO.boolK 2 (fun b => [(0, l43 none a1), (3, l3 none w5.1), (4, .int .i64 w5.2), (23, .bool (!w16)), (24, l3 none w5.1), (25, .int .i64 (w5.1.length : Int)), (26, .bool b), (27, .bool b)]) ((w5.1.length : Int) == 0) (by kernel_rfl) (fun hb => ?_) (fun hb => ?_)
      · replace h := cond_t hb h
        refine WO.fin [2] [] [] [] (e2 := [(2, .bool (w5.2 == 2))]) (by kernel_rfl) (fun _ h => h) ?_
        exact hK17 (w5.2 == 2) h
      replace h := cond_f hb h
      refine WO.fin [2] [] [] [] (e2 := [(2, .bool false)]) (by kernel_rfl) (fun _ h => h) ?_
      exact hK17 false h
    replace h := cond_f hb h
    refine W.skip ?_
    refine W.weak [0, 3, 4] [] [] [] (env' := [(0, l43 none a1), (3, l3 none w5.1), (4, .int .i64 w5.2)]) (by kernel_rfl) ?_
    refine W.seq ?_
    refine W.join (σ := (Bool)) (fun s => [(2, .bool s)]) (fun s => (lw5_HistoryReads_j19) s = some r) (fun s h => ?_) (fun hK19 => ?_)
    · obtain ⟨v22, rfl⟩ : ∃ x, x = s := ⟨s, rfl⟩
      have h : (lw5_HistoryReads_j19) v22 = some r := h
      unfold lw5_HistoryReads_j19 at h
      refine W.weak [2] [] [] [] (env' := [(2, .bool v22)]) (by kernel_rfl) ?_
      have hr : aresults Try.prog Try.f4 [(2, .bool v22)] = some (.bool v22) := by kernel_rfl
      cases h
      exact W.ret hr
    refine W.region (by kernel_rfl) ?_
    obtain ⟨w20, hw20, h⟩ := bind_some h
    refine WO.callK 2 (F := 27) (l := [l43 none a1]) (C := []) (r := l3 (some 1) w20) (by kernel_rfl) (by kernel_rfl) (run_rf5_From a1 w20 hw20) (e1 := [(0, l43 none a1), (3, l3 none w5.1), (4, .int .i64 w5.2), (31, l3 none w5.1), (32, l43 none a1), (33, l3 (some 33) w20)]) (by kernel_rfl) ?_
    obtain ⟨w21, hw21, h⟩ := bind_some h
    refine WO.callK 0 (F := 24) (l := [l3 none w5.1, l3 none w20]) (C := []) (r := .bool w21) (by kernel_rfl) (by kernel_rfl) (run_sl_Equal_int w5.1 w20 w21 hw21) (e1 := [(0, l43 none a1), (3, l3 none w5.1), (4, .int .i64 w5.2), (31, l3 none w5.1), (32, l43 none a1), (33, l3 (some 33) w20), (34, .bool w21)]) (by kernel_rfl) ?_
    refine WO.boolK 1 (fun b => [(0, l43 none a1), (3, l3 none w5.1), (4, .int .i64 w5.2), (31, l3 none w5.1), (32, l43 none a1), (33, l3 (some 33) w20), (34, .bool b), (35, .bool b)]) w21 (by kernel_rfl) (fun hb => ?_) (fun hb => ?_)
    · replace h := cond_t hb h
      refine WO.fin [2] [] [] [] (e2 := [(2, .bool (w5.2 == 0))]) (by kernel_rfl) (fun _ h => h) ?_
      exact hK19 (w5.2 == 0) h
    replace h := cond_f hb h
    refine WO.fin [2] [] [] [] (e2 := [(2, .bool false)]) (by kernel_rfl) (fun _ h => h) ?_
    exact hK19 false h
  refine W.region (by kernel_rfl) ?_
  obtain ⟨w8, hw8, h⟩ := bind_some h
  refine WO.callK 1 (F := 18) (l := [l43 none a1]) (C := []) (r := l44 (some 1) w8) (by kernel_rfl) (by kernel_rfl) (run_lw5_of a1 w8 hw8) (e1 := [(0, l43 none a1), (3, l3 none w5.1), (4, .int .i64 w5.2), (11, l43 none a1), (12, l44 (some 12) w8)]) (by kernel_rfl) ?_
  obtain ⟨w9, hw9, h⟩ := bind_some h
  refine WO.callK 0 (F := 26) (l := [l44 none w8]) (C := []) (r := .bool w9) (by kernel_rfl) (by kernel_rfl) (run_hs_Valid w8 w9 hw9) (e1 := [(0, l43 none a1), (3, l3 none w5.1), (4, .int .i64 w5.2), (11, l43 none a1), (12, l44 (some 12) w8), (13, .bool w9)]) (by kernel_rfl) ?_
  obtain ⟨w10, hw10, h⟩ := bind_some h
  refine WO.callK 1 (F := 20) (l := [l43 none a1]) (C := []) (r := .bool w10) (by kernel_rfl) (by kernel_rfl) (run_rf5_Valid a1 w10 hw10) (e1 := [(0, l43 none a1), (3, l3 none w5.1), (4, .int .i64 w5.2), (11, l43 none a1), (12, l44 (some 12) w8), (13, .bool w9), (14, l43 none a1), (15, .bool w10)]) (by kernel_rfl) ?_
  refine WO.boolK 2 (fun b => [(0, l43 none a1), (3, l3 none w5.1), (4, .int .i64 w5.2), (11, l43 none a1), (12, l44 (some 12) w8), (13, .bool w9), (14, l43 none a1), (15, .bool w10), (16, .bool b), (17, .bool b)]) (!(w9 == w10)) (by kernel_rfl) (fun hb => ?_) (fun hb => ?_)
  · replace h := cond_t hb h
    refine WO.fin [0, 3, 4, 20] [] [] [] (e2 := [(0, l43 none a1), (3, l3 none w5.1), (4, .int .i64 w5.2), (20, .bool true)]) (by kernel_rfl) (fun _ h => h) ?_
    exact hK7 true h
  replace h := cond_f hb h
  obtain ⟨w11, hw11, h⟩ := bind_some h
  refine WO.callK 0 (F := 21) (l := []) (C := []) (r := .bool w11) (by kernel_rfl) (by kernel_rfl) (run_lw5_awake fuel w11 hw11) (e1 := [(0, l43 none a1), (3, l3 none w5.1), (4, .int .i64 w5.2), (11, l43 none a1), (12, l44 (some 12) w8), (13, .bool w9), (14, l43 none a1), (15, .bool w10), (16, .bool false), (17, .bool false), (18, .bool w11)]) (by kernel_rfl) ?_
  refine WO.fin [0, 3, 4, 20] [] [] [] (e2 := [(0, l43 none a1), (3, l3 none w5.1), (4, .int .i64 w5.2), (20, .bool (!w11))]) (by kernel_rfl) (fun _ h => h) ?_
  exact hK7 (!w11) h

end Go.AM
