/- PRINTED by gen.py: pure functions and the proofs that the code computes them. No statement of the seat is proved here. -/
import Derived.Test.YtoiejpkfpjingaaK6T
set_option maxRecDepth 100000
set_option linter.unusedVariables false
set_option linter.unusedSimpArgs false
namespace Go.AM
open Go.Proofs
def hs_History_from_j6 (v35 : (List Int)) : Option (List Int) :=
  (some v35)
def hs_History_from_j16 (v8 : (List Int)) (K9 : ((List Int) → Option (List Int))) (v32 : Int) : Option (List Int) :=
  (chk (capOk 8 ((v8 ++ [v32])).length) (K9 (v8 ++ [v32])))
def hs_History_from_j9 (N1 : ((List Int) → Option (List Int))) (v34 : (List Int)) : Option (List Int) :=
  (N1 v34)
def hs_History_from_j29 (v18 : Int) (v19 : Int) (e24 : hsOp) (N2 : (Int → Int → Option (List Int))) (K16 : (Int → Option (List Int))) (v30 : Bool) : Option (List Int) :=
  (bif v30 then (K16 e24.f_Txn) else (N2 v18 (IntKind.wrap .i64 (v19 - 1))))
def hs_History_from_j25 (x1 : hsOp) (v18 : Int) (v19 : Int) (e24 : hsOp) (N2 : (Int → Int → Option (List Int))) (K16 : (Int → Option (List Int))) (v28 : Bool) : Option (List Int) :=
  (bif (e24.f_Kind == 1) then (bif (e24.f_Item == x1.f_Item) then ((hs_History_from_j29 v18 v19 e24 N2 K16) (!v28)) else ((hs_History_from_j29 v18 v19 e24 N2 K16) false)) else ((hs_History_from_j29 v18 v19 e24 N2 K16) false))
def hs_History_from_l2 (a1 : (List hsOp)) (k1 : Nat) (x1 : hsOp) (w4 : (List (Int × Int))) (K16 : (Int → Option (List Int))) : Nat → Int → Int → Option (List Int)
  | 0, _, _ => none
  | m2 + 1, v18, v19 => (bif (decide (v19 ≥ 0)) then ((idx a1 v19).bind fun e24 => (chk (wfI .i64 e24.f_Txn) (bif (decide ((mget keq1 0 e24.f_Txn w4) ≥ 0)) then (chk (wfI .i64 e24.f_Txn) ((hs_History_from_j25 x1 v18 v19 e24 (hs_History_from_l2 a1 k1 x1 w4 K16 m2) K16) (decide ((mget keq1 0 e24.f_Txn w4) < (k1 : Int))))) else ((hs_History_from_j25 x1 v18 v19 e24 (hs_History_from_l2 a1 k1 x1 w4 K16 m2) K16) false)))) else (K16 v18))
def hs_History_from_l1 (fuel : Nat) (a1 : (List hsOp)) (w4 : (List (Int × Int))) (K6 : ((List Int) → Option (List Int))) : List hsOp → Nat → (List Int) → Option (List Int)
  | [], k1, v8 => (K6 v8)
  | x1 :: r1, k1, v8 => (bif (x1.f_Kind != 0) then (chk (capOk 8 ((v8 ++ [(-1)])).length) ((hs_History_from_j9 (hs_History_from_l1 fuel a1 w4 K6 r1 (k1 + 1))) (v8 ++ [(-1)]))) else (hs_History_from_l2 a1 k1 x1 w4 (hs_History_from_j16 v8 (hs_History_from_j9 (hs_History_from_l1 fuel a1 w4 K6 r1 (k1 + 1)))) fuel 0 (IntKind.wrap .i64 ((k1 : Int) - 1))))
def hs_History_from (fuel : Nat) (a1 : (List hsOp)) : Option (List Int) :=
  ((hs_History_ending fuel a1 3).bind fun w4 => (chk (lenOk a1) (hs_History_from_l1 fuel a1 w4 (hs_History_from_j6) a1 0 ([] : (List Int)))))
theorem run_hs_History_from (fuel : Nat) (a1 : (List hsOp)) (r : (List Int)) (h : hs_History_from fuel a1 = some r) : Run Try.prog (.call 60 [l44 none a1] (l3 (some 1) r)) := by
  refine call_of_W Try.func60 rfl (by kernel_rfl) (env0 := [(0, l44 none a1)]) (by kernel_rfl) ?_
  unfold hs_History_from at h
  refine W.seq ?_
  refine W.regT [0] [] [] [] (e2 := [(0, l44 none a1)]) (by kernel_rfl) (by kernel_rfl) (fun _ h => h) ?_
  refine W.seq ?_
  refine W.region (by kernel_rfl) ?_
  obtain ⟨w4, hw4, h⟩ := bind_some h
  refine WO.callK 1 (F := 62) (l := [l44 none a1, .int .i64 3]) (C := []) (r := mpE (AV.int .i64) (AV.int .i64) w4) (by kernel_rfl) (by kernel_rfl) (run_hs_History_ending fuel a1 3 w4 hw4) (e1 := [(0, l44 none a1), (11, l44 none a1), (12, mpE (AV.int .i64) (AV.int .i64) w4)]) (by kernel_rfl) ?_
  refine WO.fin [0, 3] [] [] [] (e2 := [(0, l44 none a1), (3, mpE (AV.int .i64) (AV.int .i64) w4)]) (by kernel_rfl) (fun _ h => h) ?_
  refine W.seq ?_
  refine W.regT [0, 3, 4] [] [] [] (e2 := [(0, l44 none a1), (3, mpE (AV.int .i64) (AV.int .i64) w4), (4, .nils)]) (by kernel_rfl) (by kernel_rfl) (fun _ h => h) ?_
  refine W.seq ?_
  refine W.join (σ := ((List Int))) (fun s => [(4, l3 (some 10400) s)]) (fun s => (hs_History_from_j6) s = some r) (fun s h => ?_) (fun hK6 => ?_)
  · obtain ⟨v35, rfl⟩ : ∃ x, x = s := ⟨s, rfl⟩
    have h : (hs_History_from_j6) v35 = some r := h
    unfold hs_History_from_j6 at h
    refine W.seq ?_
    refine W.regT [2] [] [] [] (e2 := [(2, l3 (some 10400) v35)]) (by kernel_rfl) (by kernel_rfl) (fun _ h => h) ?_
    refine W.weak [2] [] [] [(10400, some 1)] (env' := [(2, l3 (some 1) v35)]) (by kernel_rfl) ?_
    have hr : aresults Try.prog Try.f60 [(2, l3 (some 1) v35)] = some (l3 (some 1) v35) := by kernel_rfl
    cases h
    exact W.ret hr
  refine W.seq ?_
  refine W.region (by kernel_rfl) ?_
  refine WO.pureK 1 (some (.int .i64 ((List.map e_hsOp a1).length : Int))) (v := .int .i64 (a1.length : Int)) (by kernel_rfl) (by rw [List.length_map]) (e1 := [(0, l44 none a1), (3, mpE (AV.int .i64) (AV.int .i64) w4), (4, .nils), (13, l44 none a1), (14, .int .i64 (a1.length : Int))]) (by kernel_rfl) ?_
  refine WO.fin [0, 3, 4, 13, 14, 15] [] [] [] (e2 := [(0, l44 none a1), (3, mpE (AV.int .i64) (AV.int .i64) w4), (4, .nils), (13, l44 none a1), (14, .int .i64 (a1.length : Int)), (15, .int .i64 0)]) (by kernel_rfl) (fun _ h => h) ?_
  refine W.block ?_
  obtain ⟨hl1, h⟩ := chk_some h
  refine W.weak [0, 3, 4, 13, 14, 15] [] [(4, 0, 3, 1, 10400)] [] (env' := [(0, l44 none a1), (3, mpE (AV.int .i64) (AV.int .i64) w4), (4, l3 (some 10400) ([] : (List Int))), (13, l44 none a1), (14, .int .i64 (a1.length : Int)), (15, .int .i64 ((0 : Nat) : Int))]) (by kernel_rfl) ?_
  refine W.range (σ := ((List Int))) a1 (fun k1 s => [(0, l44 none a1), (3, mpE (AV.int .i64) (AV.int .i64) w4), (4, l3 (some 10400) s), (13, l44 none a1), (14, .int .i64 (a1.length : Int)), (15, .int .i64 (k1 : Int))]) (fun r0 k0 s => hs_History_from_l1 fuel a1 w4 (hs_History_from_j6) r0 k0 s = some r) (fun s h => ?_) (fun x1 r1 k1 s hx1 hk1 h hN1 => ?_) ([] : (List Int)) h
  · obtain ⟨v8, rfl⟩ : ∃ x, x = s := ⟨s, rfl⟩
    have h : hs_History_from_l1 fuel a1 w4 (hs_History_from_j6) [] (a1).length v8 = some r := h
    rw [hs_History_from_l1.eq_1] at h
    refine W.seq ?_
    refine W.region (by kernel_rfl) ?_
    refine WO.pureK 0 (some (.bool (decide (((a1).length : Int) < (a1.length : Int))))) (v := .bool false) (by kernel_rfl) (by rw [lt_false (l := a1)]) (e1 := [(0, l44 none a1), (3, mpE (AV.int .i64) (AV.int .i64) w4), (4, l3 (some 10400) v8), (13, l44 none a1), (14, .int .i64 (a1.length : Int)), (15, .int .i64 ((a1).length : Int)), (16, .bool false)]) (by kernel_rfl) ?_
    refine WO.fin ([0, 3, 4, 13, 14, 15, 16]) [] [] [] (e2 := [(0, l44 none a1), (3, mpE (AV.int .i64) (AV.int .i64) w4), (4, l3 (some 10400) v8), (13, l44 none a1), (14, .int .i64 (a1.length : Int)), (15, .int .i64 ((a1).length : Int)), (16, .bool false)]) (by kernel_rfl) (fun _ h => h) ?_
    refine W.seq ?_
    refine W.condB false (by kernel_rfl) (fun h => Bool.noConfusion h) (fun _ => ?_)
    refine W.exit ?_
    refine W.weak [4] [] [] [] (env' := [(4, l3 (some 10400) v8)]) (by kernel_rfl) ?_
    exact hK6 v8 h
  · obtain ⟨v8, rfl⟩ : ∃ x, x = s := ⟨s, rfl⟩
    have h : hs_History_from_l1 fuel a1 w4 (hs_History_from_j6) (x1 :: r1) k1 v8 = some r := h
    rw [hs_History_from_l1.eq_2] at h
    refine W.seq ?_
    refine W.region (by kernel_rfl) ?_
    refine WO.pureK 0 (some (.bool (decide ((k1 : Int) < (a1.length : Int))))) (v := .bool true) (by kernel_rfl) (by rw [lt_true hk1]) (e1 := [(0, l44 none a1), (3, mpE (AV.int .i64) (AV.int .i64) w4), (4, l3 (some 10400) v8), (13, l44 none a1), (14, .int .i64 (a1.length : Int)), (15, .int .i64 (k1 : Int)), (16, .bool true)]) (by kernel_rfl) ?_
    refine WO.fin ([0, 3, 4, 13, 14, 15, 16]) [] [] [] (e2 := [(0, l44 none a1), (3, mpE (AV.int .i64) (AV.int .i64) w4), (4, l3 (some 10400) v8), (13, l44 none a1), (14, .int .i64 (a1.length : Int)), (15, .int .i64 (k1 : Int)), (16, .bool true)]) (by kernel_rfl) (fun _ h => h) ?_
    refine W.seq ?_
    refine W.condB true (by kernel_rfl) (fun _ => ?_) (fun h => Bool.noConfusion h)
    refine W.skip ?_
    refine W.weak [0, 3, 4, 13, 14, 15] [] [] [] (env' := [(0, l44 none a1), (3, mpE (AV.int .i64) (AV.int .i64) w4), (4, l3 (some 10400) v8), (13, l44 none a1), (14, .int .i64 (a1.length : Int)), (15, .int .i64 (k1 : Int))]) (by kernel_rfl) ?_
    refine W.seq ?_
    refine W.join (σ := ((List Int))) (fun s => [(0, l44 none a1), (3, mpE (AV.int .i64) (AV.int .i64) w4), (4, l3 (some 10400) s), (13, l44 none a1), (14, .int .i64 (a1.length : Int)), (15, .int .i64 (k1 : Int))]) (fun s => (hs_History_from_j9 (hs_History_from_l1 fuel a1 w4 (hs_History_from_j6) r1 (k1 + 1))) s = some r) (fun s h => ?_) (fun hK9 => ?_)
    · obtain ⟨v34, rfl⟩ : ∃ x, x = s := ⟨s, rfl⟩
      have h : (hs_History_from_j9 (hs_History_from_l1 fuel a1 w4 (hs_History_from_j6) r1 (k1 + 1))) v34 = some r := h
      unfold hs_History_from_j9 at h
      refine W.region (by kernel_rfl) ?_
      refine WO.pureK 0 (some (.int .i64 (IntKind.wrap .i64 ((k1 : Int) + 1)))) (v := .int .i64 ((k1 + 1 : Nat) : Int)) (by kernel_rfl) (by rw [wrap_succ hl1 hk1]) (e1 := [(0, l44 none a1), (3, mpE (AV.int .i64) (AV.int .i64) w4), (4, l3 (some 10400) v34), (13, l44 none a1), (14, .int .i64 (a1.length : Int)), (15, .int .i64 (k1 : Int)), (69, .int .i64 ((k1 + 1 : Nat) : Int))]) (by kernel_rfl) ?_
      refine WO.fin [0, 3, 4, 13, 14, 15] [] [] [] (e2 := [(0, l44 none a1), (3, mpE (AV.int .i64) (AV.int .i64) w4), (4, l3 (some 10400) v34), (13, l44 none a1), (14, .int .i64 (a1.length : Int)), (15, .int .i64 ((k1 + 1 : Nat) : Int))]) (by kernel_rfl) (fun _ h => h) ?_
      exact hN1 v34 h
    refine W.block ?_
    refine W.seq ?_
    refine W.region (by kernel_rfl) ?_
    refine WO.pureK 1 (if (0 : Int) ≤ (k1 : Int) then ((List.map e_hsOp a1)[Int.toNat (k1 : Int)]?).map AV.ptr else none) (v := .ptr (.agg [.int .i64 x1.f_Txn, .int .i64 x1.f_Kind, .int .i64 x1.f_Item])) (by kernel_rfl) (idx_nat (f := e_hsOp) hx1) (e1 := [(0, l44 none a1), (3, mpE (AV.int .i64) (AV.int .i64) w4), (4, l3 (some 10400) v8), (13, l44 none a1), (14, .int .i64 (a1.length : Int)), (15, .int .i64 (k1 : Int)), (17, .int .i64 (k1 : Int)), (18, .ptr (.agg [.int .i64 x1.f_Txn, .int .i64 x1.f_Kind, .int .i64 x1.f_Item]))]) (by kernel_rfl) ?_
    refine WO.fin [0, 3, 4, 5, 6, 13, 14, 15] [6] [] [] (e2 := [(0, l44 none a1), (3, mpE (AV.int .i64) (AV.int .i64) w4), (4, l3 (some 10400) v8), (5, .int .i64 (k1 : Int)), (6, .ptr (.agg [.int .i64 x1.f_Txn, .int .i64 x1.f_Kind, .int .i64 x1.f_Item])), (13, l44 none a1), (14, .int .i64 (a1.length : Int)), (15, .int .i64 (k1 : Int))]) (by kernel_rfl) (fun _ h => h) ?_
    refine W.seq ?_
    refine W.seq ?_
    refine W.regT [0, 3, 4, 5, 6, 13, 14, 15, 22] [] [] [] (e2 := [(0, l44 none a1), (3, mpE (AV.int .i64) (AV.int .i64) w4), (4, l3 (some 10400) v8), (5, .int .i64 (k1 : Int)), (6, .ptr (.agg [.int .i64 x1.f_Txn, .int .i64 x1.f_Kind, .int .i64 x1.f_Item])), (13, l44 none a1), (14, .int .i64 (a1.length : Int)), (15, .int .i64 (k1 : Int)), (22, .bool (x1.f_Kind != 0))]) (by kernel_rfl) (by kernel_rfl) (fun _ h => h) ?_
    refine W.condB (x1.f_Kind != 0) (by kernel_rfl) (fun hb => ?_) (fun hb => ?_)
    · replace h := cond_t hb h
      refine W.seq ?_
      refine W.region (by kernel_rfl) ?_
      obtain ⟨hc14, h⟩ := chk_some h
      refine WO.appendK 2 (d := 25) (e := 3) (s := 1) (bytes := 8) (xs := (List.map (AV.int .i64) v8)) (ys := (List.map (AV.int .i64) [(-1)])) (zs := (List.map (AV.int .i64) (v8 ++ [(-1)]))) (env1 := [(0, l44 none a1), (3, mpE (AV.int .i64) (AV.int .i64) w4), (4, l3 none v8), (5, .int .i64 (k1 : Int)), (6, .ptr (.agg [.int .i64 x1.f_Txn, .int .i64 x1.f_Kind, .int .i64 x1.f_Item])), (13, l44 none a1), (14, .int .i64 (a1.length : Int)), (15, .int .i64 (k1 : Int)), (22, .bool (x1.f_Kind != 0)), (23, l3 none v8), (24, l3 (some 24) [(-1)])]) (by kernel_rfl) (List.map_append.symm) (by rw [List.length_map]; exact hc14) (e1 := [(0, l44 none a1), (3, mpE (AV.int .i64) (AV.int .i64) w4), (4, l3 none v8), (5, .int .i64 (k1 : Int)), (6, .ptr (.agg [.int .i64 x1.f_Txn, .int .i64 x1.f_Kind, .int .i64 x1.f_Item])), (13, l44 none a1), (14, .int .i64 (a1.length : Int)), (15, .int .i64 (k1 : Int)), (22, .bool (x1.f_Kind != 0)), (23, l3 none v8), (24, l3 (some 24) [(-1)]), (25, l3 (some 25) (v8 ++ [(-1)]))]) (by kernel_rfl) ?_
      refine WO.fin [0, 3, 4, 13, 14, 15] [] [] [] (e2 := [(0, l44 none a1), (3, mpE (AV.int .i64) (AV.int .i64) w4), (4, l3 (some 25) (v8 ++ [(-1)])), (13, l44 none a1), (14, .int .i64 (a1.length : Int)), (15, .int .i64 (k1 : Int))]) (by kernel_rfl) (fun _ h => h) ?_
      refine W.exit ?_
      refine W.weak [0, 3, 4, 13, 14, 15] [] [] [(25, some 10400)] (env' := [(0, l44 none a1), (3, mpE (AV.int .i64) (AV.int .i64) w4), (4, l3 (some 10400) (v8 ++ [(-1)])), (13, l44 none a1), (14, .int .i64 (a1.length : Int)), (15, .int .i64 (k1 : Int))]) (by kernel_rfl) ?_
      exact hK9 (v8 ++ [(-1)]) h
    replace h := cond_f hb h
    refine W.skip ?_
    refine W.weak [0, 3, 4, 5, 6, 13, 14, 15] [] [] [] (env' := [(0, l44 none a1), (3, mpE (AV.int .i64) (AV.int .i64) w4), (4, l3 (some 10400) v8), (5, .int .i64 (k1 : Int)), (6, .ptr (.agg [.int .i64 x1.f_Txn, .int .i64 x1.f_Kind, .int .i64 x1.f_Item])), (13, l44 none a1), (14, .int .i64 (a1.length : Int)), (15, .int .i64 (k1 : Int))]) (by kernel_rfl) ?_
    refine W.seq ?_
    refine W.regT [0, 3, 4, 5, 6, 7, 13, 14, 15] [] [] [] (e2 := [(0, l44 none a1), (3, mpE (AV.int .i64) (AV.int .i64) w4), (4, l3 (some 10400) v8), (5, .int .i64 (k1 : Int)), (6, .ptr (.agg [.int .i64 x1.f_Txn, .int .i64 x1.f_Kind, .int .i64 x1.f_Item])), (7, .int .i64 0), (13, l44 none a1), (14, .int .i64 (a1.length : Int)), (15, .int .i64 (k1 : Int))]) (by kernel_rfl) (by kernel_rfl) (fun _ h => h) ?_
    refine W.seq ?_
    refine W.join (σ := (Int)) (fun s => [(0, l44 none a1), (3, mpE (AV.int .i64) (AV.int .i64) w4), (4, l3 (some 10400) v8), (7, .int .i64 s), (13, l44 none a1), (14, .int .i64 (a1.length : Int)), (15, .int .i64 (k1 : Int))]) (fun s => (hs_History_from_j16 v8 (hs_History_from_j9 (hs_History_from_l1 fuel a1 w4 (hs_History_from_j6) r1 (k1 + 1)))) s = some r) (fun s h => ?_) (fun hK16 => ?_)
    · obtain ⟨v32, rfl⟩ : ∃ x, x = s := ⟨s, rfl⟩
      have h : (hs_History_from_j16 v8 (hs_History_from_j9 (hs_History_from_l1 fuel a1 w4 (hs_History_from_j6) r1 (k1 + 1)))) v32 = some r := h
      unfold hs_History_from_j16 at h
      refine W.region (by kernel_rfl) ?_
      obtain ⟨hc33, h⟩ := chk_some h
      refine WO.appendK 3 (d := 68) (e := 3) (s := 1) (bytes := 8) (xs := (List.map (AV.int .i64) v8)) (ys := (List.map (AV.int .i64) [v32])) (zs := (List.map (AV.int .i64) (v8 ++ [v32]))) (env1 := [(0, l44 none a1), (3, mpE (AV.int .i64) (AV.int .i64) w4), (4, l3 none v8), (7, .int .i64 v32), (13, l44 none a1), (14, .int .i64 (a1.length : Int)), (15, .int .i64 (k1 : Int)), (65, l3 none v8), (66, .int .i64 v32), (67, l3 (some 67) [v32])]) (by kernel_rfl) (List.map_append.symm) (by rw [List.length_map]; exact hc33) (e1 := [(0, l44 none a1), (3, mpE (AV.int .i64) (AV.int .i64) w4), (4, l3 none v8), (7, .int .i64 v32), (13, l44 none a1), (14, .int .i64 (a1.length : Int)), (15, .int .i64 (k1 : Int)), (65, l3 none v8), (66, .int .i64 v32), (67, l3 (some 67) [v32]), (68, l3 (some 68) (v8 ++ [v32]))]) (by kernel_rfl) ?_
      refine WO.fin [0, 3, 4, 13, 14, 15] [] [] [(68, some 10400)] (e2 := [(0, l44 none a1), (3, mpE (AV.int .i64) (AV.int .i64) w4), (4, l3 (some 10400) (v8 ++ [v32])), (13, l44 none a1), (14, .int .i64 (a1.length : Int)), (15, .int .i64 (k1 : Int))]) (by kernel_rfl) (fun _ h => h) ?_
      exact hK9 (v8 ++ [v32]) h
    refine W.seq ?_
    refine W.regT [0, 3, 4, 5, 6, 7, 8, 13, 14, 15] [] [] [] (e2 := [(0, l44 none a1), (3, mpE (AV.int .i64) (AV.int .i64) w4), (4, l3 (some 10400) v8), (5, .int .i64 (k1 : Int)), (6, .ptr (.agg [.int .i64 x1.f_Txn, .int .i64 x1.f_Kind, .int .i64 x1.f_Item])), (7, .int .i64 0), (8, .int .i64 (IntKind.wrap .i64 ((k1 : Int) - 1))), (13, l44 none a1), (14, .int .i64 (a1.length : Int)), (15, .int .i64 (k1 : Int))]) (by kernel_rfl) (by kernel_rfl) (fun _ h => h) ?_
    refine W.block ?_
    refine W.weak [0, 3, 4, 5, 6, 7, 8, 13, 14, 15] [] [] [] (env' := [(0, l44 none a1), (3, mpE (AV.int .i64) (AV.int .i64) w4), (4, l3 (some 10400) v8), (5, .int .i64 (k1 : Int)), (6, .ptr (.agg [.int .i64 x1.f_Txn, .int .i64 x1.f_Kind, .int .i64 x1.f_Item])), (7, .int .i64 0), (8, .int .i64 (IntKind.wrap .i64 ((k1 : Int) - 1))), (13, l44 none a1), (14, .int .i64 (a1.length : Int)), (15, .int .i64 (k1 : Int))]) (by kernel_rfl) ?_
    refine W.fuel (σ := (Int × Int)) (fun s => [(0, l44 none a1), (3, mpE (AV.int .i64) (AV.int .i64) w4), (4, l3 (some 10400) v8), (5, .int .i64 (k1 : Int)), (6, .ptr (.agg [.int .i64 x1.f_Txn, .int .i64 x1.f_Kind, .int .i64 x1.f_Item])), (7, .int .i64 s.1), (8, .int .i64 s.2), (13, l44 none a1), (14, .int .i64 (a1.length : Int)), (15, .int .i64 (k1 : Int))]) (fun m0 s => hs_History_from_l2 a1 k1 x1 w4 (hs_History_from_j16 v8 (hs_History_from_j9 (hs_History_from_l1 fuel a1 w4 (hs_History_from_j6) r1 (k1 + 1)))) m0 s.1 s.2 = some r) (fun s h => ?_) (fun m2 s h hN2 => ?_) fuel (0, (IntKind.wrap .i64 ((k1 : Int) - 1))) h
    · obtain ⟨v18, v19⟩ := s
      have h : hs_History_from_l2 a1 k1 x1 w4 (hs_History_from_j16 v8 (hs_History_from_j9 (hs_History_from_l1 fuel a1 w4 (hs_History_from_j6) r1 (k1 + 1)))) 0 v18 v19 = some r := h
      rw [hs_History_from_l2.eq_1] at h
      cases h
    · obtain ⟨v18, v19⟩ := s
      have h : hs_History_from_l2 a1 k1 x1 w4 (hs_History_from_j16 v8 (hs_History_from_j9 (hs_History_from_l1 fuel a1 w4 (hs_History_from_j6) r1 (k1 + 1)))) (m2 + 1) v18 v19 = some r := h
      rw [hs_History_from_l2.eq_2] at h
      refine W.seq ?_
      refine W.seq ?_
      refine W.regT [0, 3, 4, 5, 6, 7, 8, 13, 14, 15, 29] [] [] [] (e2 := [(0, l44 none a1), (3, mpE (AV.int .i64) (AV.int .i64) w4), (4, l3 (some 10400) v8), (5, .int .i64 (k1 : Int)), (6, .ptr (.agg [.int .i64 x1.f_Txn, .int .i64 x1.f_Kind, .int .i64 x1.f_Item])), (7, .int .i64 v18), (8, .int .i64 v19), (13, l44 none a1), (14, .int .i64 (a1.length : Int)), (15, .int .i64 (k1 : Int)), (29, .bool (decide (v19 ≥ 0)))]) (by kernel_rfl) (by kernel_rfl) (fun _ h => h) ?_
      refine W.condB (decide (v19 ≥ 0)) (by kernel_rfl) (fun hb => ?_) (fun hb => ?_)
      · replace h := cond_t hb h
        refine W.skip ?_
        refine W.weak [0, 3, 4, 5, 6, 7, 8, 13, 14, 15] [] [] [] (env' := [(0, l44 none a1), (3, mpE (AV.int .i64) (AV.int .i64) w4), (4, l3 (some 10400) v8), (5, .int .i64 (k1 : Int)), (6, .ptr (.agg [.int .i64 x1.f_Txn, .int .i64 x1.f_Kind, .int .i64 x1.f_Item])), (7, .int .i64 v18), (8, .int .i64 v19), (13, l44 none a1), (14, .int .i64 (a1.length : Int)), (15, .int .i64 (k1 : Int))]) (by kernel_rfl) ?_
        refine W.seq ?_
        refine W.block ?_
        refine W.seq ?_
        refine W.region (by kernel_rfl) ?_
        obtain ⟨e24, he24, h⟩ := bind_some h
        refine WO.pureK 2 (if (0 : Int) ≤ v19 then ((List.map e_hsOp a1)[Int.toNat v19]?).map AV.ptr else none) (v := .ptr (.agg [.int .i64 e24.f_Txn, .int .i64 e24.f_Kind, .int .i64 e24.f_Item])) (by kernel_rfl) (idx_av (f := e_hsOp) he24) (e1 := [(0, l44 none a1), (3, mpE (AV.int .i64) (AV.int .i64) w4), (4, l3 (some 10400) v8), (5, .int .i64 (k1 : Int)), (6, .ptr (.agg [.int .i64 x1.f_Txn, .int .i64 x1.f_Kind, .int .i64 x1.f_Item])), (7, .int .i64 v18), (8, .int .i64 v19), (13, l44 none a1), (14, .int .i64 (a1.length : Int)), (15, .int .i64 (k1 : Int)), (32, l44 none a1), (33, .int .i64 v19), (34, .ptr (.agg [.int .i64 e24.f_Txn, .int .i64 e24.f_Kind, .int .i64 e24.f_Item]))]) (by kernel_rfl) ?_
        refine WO.fin [0, 3, 4, 5, 6, 7, 8, 9, 13, 14, 15] [9] [] [] (e2 := [(0, l44 none a1), (3, mpE (AV.int .i64) (AV.int .i64) w4), (4, l3 (some 10400) v8), (5, .int .i64 (k1 : Int)), (6, .ptr (.agg [.int .i64 x1.f_Txn, .int .i64 x1.f_Kind, .int .i64 x1.f_Item])), (7, .int .i64 v18), (8, .int .i64 v19), (9, .ptr (.agg [.int .i64 e24.f_Txn, .int .i64 e24.f_Kind, .int .i64 e24.f_Item])), (13, l44 none a1), (14, .int .i64 (a1.length : Int)), (15, .int .i64 (k1 : Int))]) (by kernel_rfl) (fun _ h => h) ?_
        refine W.seq ?_
        refine W.join (σ := (Bool)) (fun s => [(0, l44 none a1), (3, mpE (AV.int .i64) (AV.int .i64) w4), (4, l3 (some 10400) v8), (5, .int .i64 (k1 : Int)), (6, .ptr (.agg [.int .i64 x1.f_Txn, .int .i64 x1.f_Kind, .int .i64 x1.f_Item])), (7, .int .i64 v18), (8, .int .i64 v19), (9, .ptr (.agg [.int .i64 e24.f_Txn, .int .i64 e24.f_Kind, .int .i64 e24.f_Item])), (10, .bool s), (13, l44 none a1), (14, .int .i64 (a1.length : Int)), (15, .int .i64 (k1 : Int))]) (fun s => (hs_History_from_j25 x1 v18 v19 e24 (hs_History_from_l2 a1 k1 x1 w4 (hs_History_from_j16 v8 (hs_History_from_j9 (hs_History_from_l1 fuel a1 w4 (hs_History_from_j6) r1 (k1 + 1)))) m2) (hs_History_from_j16 v8 (hs_History_from_j9 (hs_History_from_l1 fuel a1 w4 (hs_History_from_j6) r1 (k1 + 1))))) s = some r) (fun s h => ?_) (fun hK25 => ?_)
        · obtain ⟨v28, rfl⟩ : ∃ x, x = s := ⟨s, rfl⟩
          have h : (hs_History_from_j25 x1 v18 v19 e24 (hs_History_from_l2 a1 k1 x1 w4 (hs_History_from_j16 v8 (hs_History_from_j9 (hs_History_from_l1 fuel a1 w4 (hs_History_from_j6) r1 (k1 + 1)))) m2) (hs_History_from_j16 v8 (hs_History_from_j9 (hs_History_from_l1 fuel a1 w4 (hs_History_from_j6) r1 (k1 + 1))))) v28 = some r := h
          unfold hs_History_from_j25 at h
          refine W.seq ?_
          refine W.join (σ := (Bool)) (fun s => [(0, l44 none a1), (3, mpE (AV.int .i64) (AV.int .i64) w4), (4, l3 (some 10400) v8), (5, .int .i64 (k1 : Int)), (6, .ptr (.agg [.int .i64 x1.f_Txn, .int .i64 x1.f_Kind, .int .i64 x1.f_Item])), (7, .int .i64 v18), (8, .int .i64 v19), (9, .ptr (.agg [.int .i64 e24.f_Txn, .int .i64 e24.f_Kind, .int .i64 e24.f_Item])), (13, l44 none a1), (14, .int .i64 (a1.length : Int)), (15, .int .i64 (k1 : Int)), (62, .bool s)]) (fun s => (hs_History_from_j29 v18 v19 e24 (hs_History_from_l2 a1 k1 x1 w4 (hs_History_from_j16 v8 (hs_History_from_j9 (hs_History_from_l1 fuel a1 w4 (hs_History_from_j6) r1 (k1 + 1)))) m2) (hs_History_from_j16 v8 (hs_History_from_j9 (hs_History_from_l1 fuel a1 w4 (hs_History_from_j6) r1 (k1 + 1))))) s = some r) (fun s h => ?_) (fun hK29 => ?_)
          · obtain ⟨v30, rfl⟩ : ∃ x, x = s := ⟨s, rfl⟩
            have h : (hs_History_from_j29 v18 v19 e24 (hs_History_from_l2 a1 k1 x1 w4 (hs_History_from_j16 v8 (hs_History_from_j9 (hs_History_from_l1 fuel a1 w4 (hs_History_from_j6) r1 (k1 + 1)))) m2) (hs_History_from_j16 v8 (hs_History_from_j9 (hs_History_from_l1 fuel a1 w4 (hs_History_from_j6) r1 (k1 + 1))))) v30 = some r := h
            unfold hs_History_from_j29 at h
            refine W.condB v30 (by kernel_rfl) (fun hb => ?_) (fun hb => ?_)
            · replace h := cond_t hb h
              refine W.seq ?_
              refine W.regT [0, 3, 4, 7, 13, 14, 15] [] [] [] (e2 := [(0, l44 none a1), (3, mpE (AV.int .i64) (AV.int .i64) w4), (4, l3 (some 10400) v8), (7, .int .i64 e24.f_Txn), (13, l44 none a1), (14, .int .i64 (a1.length : Int)), (15, .int .i64 (k1 : Int))]) (by kernel_rfl) (by kernel_rfl) (fun _ h => h) ?_
              refine W.exit ?_
              refine W.weak [0, 3, 4, 7, 13, 14, 15] [] [] [] (env' := [(0, l44 none a1), (3, mpE (AV.int .i64) (AV.int .i64) w4), (4, l3 (some 10400) v8), (7, .int .i64 e24.f_Txn), (13, l44 none a1), (14, .int .i64 (a1.length : Int)), (15, .int .i64 (k1 : Int))]) (by kernel_rfl) ?_
              exact hK16 e24.f_Txn h
            replace h := cond_f hb h
            refine W.skip ?_
            refine W.weak [0, 3, 4, 5, 6, 7, 8, 13, 14, 15] [] [] [] (env' := [(0, l44 none a1), (3, mpE (AV.int .i64) (AV.int .i64) w4), (4, l3 (some 10400) v8), (5, .int .i64 (k1 : Int)), (6, .ptr (.agg [.int .i64 x1.f_Txn, .int .i64 x1.f_Kind, .int .i64 x1.f_Item])), (7, .int .i64 v18), (8, .int .i64 v19), (13, l44 none a1), (14, .int .i64 (a1.length : Int)), (15, .int .i64 (k1 : Int))]) (by kernel_rfl) ?_
            refine W.regT [0, 3, 4, 5, 6, 7, 8, 13, 14, 15] [] [] [] (e2 := [(0, l44 none a1), (3, mpE (AV.int .i64) (AV.int .i64) w4), (4, l3 (some 10400) v8), (5, .int .i64 (k1 : Int)), (6, .ptr (.agg [.int .i64 x1.f_Txn, .int .i64 x1.f_Kind, .int .i64 x1.f_Item])), (7, .int .i64 v18), (8, .int .i64 (IntKind.wrap .i64 (v19 - 1))), (13, l44 none a1), (14, .int .i64 (a1.length : Int)), (15, .int .i64 (k1 : Int))]) (by kernel_rfl) (by kernel_rfl) (fun _ h => h) ?_
            exact hN2 (v18, (IntKind.wrap .i64 (v19 - 1))) h
          refine W.region (by kernel_rfl) ?_
          refine WO.boolK 4 (fun b => [(0, l44 none a1), (3, mpE (AV.int .i64) (AV.int .i64) w4), (4, l3 (some 10400) v8), (5, .int .i64 (k1 : Int)), (6, .ptr (.agg [.int .i64 x1.f_Txn, .int .i64 x1.f_Kind, .int .i64 x1.f_Item])), (7, .int .i64 v18), (8, .int .i64 v19), (9, .ptr (.agg [.int .i64 e24.f_Txn, .int .i64 e24.f_Kind, .int .i64 e24.f_Item])), (10, .bool v28), (13, l44 none a1), (14, .int .i64 (a1.length : Int)), (15, .int .i64 (k1 : Int)), (49, .ptr (.int .i64 e24.f_Kind)), (50, .int .i64 e24.f_Kind), (51, .bool b), (52, .bool b)]) (e24.f_Kind == 1) (by kernel_rfl) (fun hb => ?_) (fun hb => ?_)
          · replace h := cond_t hb h
            refine WO.boolK 7 (fun b => [(0, l44 none a1), (3, mpE (AV.int .i64) (AV.int .i64) w4), (4, l3 (some 10400) v8), (5, .int .i64 (k1 : Int)), (6, .ptr (.agg [.int .i64 x1.f_Txn, .int .i64 x1.f_Kind, .int .i64 x1.f_Item])), (7, .int .i64 v18), (8, .int .i64 v19), (9, .ptr (.agg [.int .i64 e24.f_Txn, .int .i64 e24.f_Kind, .int .i64 e24.f_Item])), (10, .bool v28), (13, l44 none a1), (14, .int .i64 (a1.length : Int)), (15, .int .i64 (k1 : Int)), (49, .ptr (.int .i64 e24.f_Kind)), (50, .int .i64 e24.f_Kind), (51, .bool true), (52, .bool true), (53, .ptr (.int .i64 e24.f_Item)), (54, .int .i64 e24.f_Item), (55, .ptr (.int .i64 x1.f_Item)), (56, .int .i64 x1.f_Item), (57, .bool b), (58, .bool b), (59, .bool b)]) (e24.f_Item == x1.f_Item) (by kernel_rfl) (fun hb => ?_) (fun hb => ?_)
            · replace h := cond_t hb h
              refine WO.fin [0, 3, 4, 5, 6, 7, 8, 9, 13, 14, 15, 62] [] [] [] (e2 := [(0, l44 none a1), (3, mpE (AV.int .i64) (AV.int .i64) w4), (4, l3 (some 10400) v8), (5, .int .i64 (k1 : Int)), (6, .ptr (.agg [.int .i64 x1.f_Txn, .int .i64 x1.f_Kind, .int .i64 x1.f_Item])), (7, .int .i64 v18), (8, .int .i64 v19), (9, .ptr (.agg [.int .i64 e24.f_Txn, .int .i64 e24.f_Kind, .int .i64 e24.f_Item])), (13, l44 none a1), (14, .int .i64 (a1.length : Int)), (15, .int .i64 (k1 : Int)), (62, .bool (!v28))]) (by kernel_rfl) (fun _ h => h) ?_
              exact hK29 (!v28) h
            replace h := cond_f hb h
            refine WO.fin [0, 3, 4, 5, 6, 7, 8, 9, 13, 14, 15, 62] [] [] [] (e2 := [(0, l44 none a1), (3, mpE (AV.int .i64) (AV.int .i64) w4), (4, l3 (some 10400) v8), (5, .int .i64 (k1 : Int)), (6, .ptr (.agg [.int .i64 x1.f_Txn, .int .i64 x1.f_Kind, .int .i64 x1.f_Item])), (7, .int .i64 v18), (8, .int .i64 v19), (9, .ptr (.agg [.int .i64 e24.f_Txn, .int .i64 e24.f_Kind, .int .i64 e24.f_Item])), (13, l44 none a1), (14, .int .i64 (a1.length : Int)), (15, .int .i64 (k1 : Int)), (62, .bool false)]) (by kernel_rfl) (fun _ h => h) ?_
            exact hK29 false h
          replace h := cond_f hb h
          refine WO.fin [0, 3, 4, 5, 6, 7, 8, 9, 13, 14, 15, 62] [] [] [] (e2 := [(0, l44 none a1), (3, mpE (AV.int .i64) (AV.int .i64) w4), (4, l3 (some 10400) v8), (5, .int .i64 (k1 : Int)), (6, .ptr (.agg [.int .i64 x1.f_Txn, .int .i64 x1.f_Kind, .int .i64 x1.f_Item])), (7, .int .i64 v18), (8, .int .i64 v19), (9, .ptr (.agg [.int .i64 e24.f_Txn, .int .i64 e24.f_Kind, .int .i64 e24.f_Item])), (13, l44 none a1), (14, .int .i64 (a1.length : Int)), (15, .int .i64 (k1 : Int)), (62, .bool false)]) (by kernel_rfl) (fun _ h => h) ?_
          exact hK29 false h
        refine W.region (by kernel_rfl) ?_
        obtain ⟨hc26, h⟩ := chk_some h
        refine WO.pureK 3 ((alookup Try.prog 85 [] (mpE (AV.int .i64) (AV.int .i64) w4) (.int .i64 e24.f_Txn)).map AV.strip) (v := .int .i64 (mget keq1 0 e24.f_Txn w4)) (by kernel_rfl) (congrArg (Option.map AV.strip) (alookup_mp (F := (AV.int .i64)) (G := (AV.int .i64)) (eq := keq1) (l := w4) (k := e24.f_Txn) (z := 0) (kt := 3) (e := 3) (keyS_int hc26) (by kernel_rfl) (fun x => by kernel_rfl) (fun x y => by kernel_rfl) (by kernel_rfl))) (e1 := [(0, l44 none a1), (3, mpE (AV.int .i64) (AV.int .i64) w4), (4, l3 (some 10400) v8), (5, .int .i64 (k1 : Int)), (6, .ptr (.agg [.int .i64 x1.f_Txn, .int .i64 x1.f_Kind, .int .i64 x1.f_Item])), (7, .int .i64 v18), (8, .int .i64 v19), (9, .ptr (.agg [.int .i64 e24.f_Txn, .int .i64 e24.f_Kind, .int .i64 e24.f_Item])), (13, l44 none a1), (14, .int .i64 (a1.length : Int)), (15, .int .i64 (k1 : Int)), (36, mpE (AV.int .i64) (AV.int .i64) w4), (37, .ptr (.int .i64 e24.f_Txn)), (38, .int .i64 e24.f_Txn), (39, .int .i64 (mget keq1 0 e24.f_Txn w4))]) (by kernel_rfl) ?_
        refine WO.boolK 2 (fun b => [(0, l44 none a1), (3, mpE (AV.int .i64) (AV.int .i64) w4), (4, l3 (some 10400) v8), (5, .int .i64 (k1 : Int)), (6, .ptr (.agg [.int .i64 x1.f_Txn, .int .i64 x1.f_Kind, .int .i64 x1.f_Item])), (7, .int .i64 v18), (8, .int .i64 v19), (9, .ptr (.agg [.int .i64 e24.f_Txn, .int .i64 e24.f_Kind, .int .i64 e24.f_Item])), (13, l44 none a1), (14, .int .i64 (a1.length : Int)), (15, .int .i64 (k1 : Int)), (36, mpE (AV.int .i64) (AV.int .i64) w4), (37, .ptr (.int .i64 e24.f_Txn)), (38, .int .i64 e24.f_Txn), (39, .int .i64 (mget keq1 0 e24.f_Txn w4)), (40, .bool b), (41, .bool b)]) (decide ((mget keq1 0 e24.f_Txn w4) ≥ 0)) (by kernel_rfl) (fun hb => ?_) (fun hb => ?_)
        · replace h := cond_t hb h
          obtain ⟨hc27, h⟩ := chk_some h
          refine WO.pureK 3 ((alookup Try.prog 85 [] (mpE (AV.int .i64) (AV.int .i64) w4) (.int .i64 e24.f_Txn)).map AV.strip) (v := .int .i64 (mget keq1 0 e24.f_Txn w4)) (by kernel_rfl) (congrArg (Option.map AV.strip) (alookup_mp (F := (AV.int .i64)) (G := (AV.int .i64)) (eq := keq1) (l := w4) (k := e24.f_Txn) (z := 0) (kt := 3) (e := 3) (keyS_int hc27) (by kernel_rfl) (fun x => by kernel_rfl) (fun x y => by kernel_rfl) (by kernel_rfl))) (e1 := [(0, l44 none a1), (3, mpE (AV.int .i64) (AV.int .i64) w4), (4, l3 (some 10400) v8), (5, .int .i64 (k1 : Int)), (6, .ptr (.agg [.int .i64 x1.f_Txn, .int .i64 x1.f_Kind, .int .i64 x1.f_Item])), (7, .int .i64 v18), (8, .int .i64 v19), (9, .ptr (.agg [.int .i64 e24.f_Txn, .int .i64 e24.f_Kind, .int .i64 e24.f_Item])), (13, l44 none a1), (14, .int .i64 (a1.length : Int)), (15, .int .i64 (k1 : Int)), (36, mpE (AV.int .i64) (AV.int .i64) w4), (37, .ptr (.int .i64 e24.f_Txn)), (38, .int .i64 e24.f_Txn), (39, .int .i64 (mget keq1 0 e24.f_Txn w4)), (40, .bool true), (41, .bool true), (42, mpE (AV.int .i64) (AV.int .i64) w4), (43, .ptr (.int .i64 e24.f_Txn)), (44, .int .i64 e24.f_Txn), (45, .int .i64 (mget keq1 0 e24.f_Txn w4))]) (by kernel_rfl) ?_
          refine WO.fin [0, 3, 4, 5, 6, 7, 8, 9, 10, 13, 14, 15] [] [] [] (e2 := [(0, l44 none a1), (3, mpE (AV.int .i64) (AV.int .i64) w4), (4, l3 (some 10400) v8), (5, .int .i64 (k1 : Int)), (6, .ptr (.agg [.int .i64 x1.f_Txn, .int .i64 x1.f_Kind, .int .i64 x1.f_Item])), (7, .int .i64 v18), (8, .int .i64 v19), (9, .ptr (.agg [.int .i64 e24.f_Txn, .int .i64 e24.f_Kind, .int .i64 e24.f_Item])), (10, .bool (decide ((mget keq1 0 e24.f_Txn w4) < (k1 : Int)))), (13, l44 none a1), (14, .int .i64 (a1.length : Int)), (15, .int .i64 (k1 : Int))]) (by kernel_rfl) (fun _ h => h) ?_
          exact hK25 (decide ((mget keq1 0 e24.f_Txn w4) < (k1 : Int))) h
        replace h := cond_f hb h
        refine WO.fin [0, 3, 4, 5, 6, 7, 8, 9, 10, 13, 14, 15] [] [] [] (e2 := [(0, l44 none a1), (3, mpE (AV.int .i64) (AV.int .i64) w4), (4, l3 (some 10400) v8), (5, .int .i64 (k1 : Int)), (6, .ptr (.agg [.int .i64 x1.f_Txn, .int .i64 x1.f_Kind, .int .i64 x1.f_Item])), (7, .int .i64 v18), (8, .int .i64 v19), (9, .ptr (.agg [.int .i64 e24.f_Txn, .int .i64 e24.f_Kind, .int .i64 e24.f_Item])), (10, .bool false), (13, l44 none a1), (14, .int .i64 (a1.length : Int)), (15, .int .i64 (k1 : Int))]) (by kernel_rfl) (fun _ h => h) ?_
        exact hK25 false h
      replace h := cond_f hb h
      refine W.exit ?_
      refine W.weak [0, 3, 4, 7, 13, 14, 15] [] [] [] (env' := [(0, l44 none a1), (3, mpE (AV.int .i64) (AV.int .i64) w4), (4, l3 (some 10400) v8), (7, .int .i64 v18), (13, l44 none a1), (14, .int .i64 (a1.length : Int)), (15, .int .i64 (k1 : Int))]) (by kernel_rfl) ?_
      exact hK16 v18 h
def hs_Recovery_j11 (v47 : Bool) (v48 : Bool) (v49 : Bool) : Option (Bool × Bool × Bool × Int) :=
  (some (v47, v48, v49, 0))
def hs_Recovery_j17 (N1 : (Bool → Bool → Bool → Option (Bool × Bool × Bool × Int))) (v44 : Bool) (v45 : Bool) (v46 : Bool) : Option (Bool × Bool × Bool × Int) :=
  (N1 v44 v45 v46)
def hs_Recovery_j36 (N2 : (Bool → Option (Bool × Bool × Bool × Int))) (v43 : Bool) : Option (Bool × Bool × Bool × Int) :=
  (N2 v43)
def hs_Recovery_j41 (v35 : Bool) (K36 : (Bool → Option (Bool × Bool × Bool × Int))) (v42 : Bool) : Option (Bool × Bool × Bool × Int) :=
  (bif v42 then (K36 false) else (K36 v35))
def hs_Recovery_l2 (k1 : Nat) (w8 : (List (Int × Int))) (w9 : (List (Int × Int))) (e20 : hsOp) (v29 : Bool) (v30 : Bool) (K17 : (Bool → Bool → Bool → Option (Bool × Bool × Bool × Int))) : List hsOp → Nat → Bool → Option (Bool × Bool × Bool × Int)
  | [], k2, v35 => (K17 v29 v30 v35)
  | x2 :: r2, k2, v35 => (chk (wfI .i64 x2.f_Txn) (chk (wfI .i64 x2.f_Txn) (bif (x2.f_Kind == 1) then (bif (x2.f_Item == e20.f_Item) then (bif (x2.f_Txn != e20.f_Txn) then (bif (decide ((if (mget keq1 0 x2.f_Txn w9) > (mget keq1 0 x2.f_Txn w8) then (mget keq1 0 x2.f_Txn w9) else (mget keq1 0 x2.f_Txn w8)) < 0)) then ((hs_Recovery_j41 v35 (hs_Recovery_j36 (hs_Recovery_l2 k1 w8 w9 e20 v29 v30 K17 r2 (k2 + 1)))) true) else ((hs_Recovery_j41 v35 (hs_Recovery_j36 (hs_Recovery_l2 k1 w8 w9 e20 v29 v30 K17 r2 (k2 + 1)))) (decide ((if (mget keq1 0 x2.f_Txn w9) > (mget keq1 0 x2.f_Txn w8) then (mget keq1 0 x2.f_Txn w9) else (mget keq1 0 x2.f_Txn w8)) > (k1 : Int))))) else ((hs_Recovery_j41 v35 (hs_Recovery_j36 (hs_Recovery_l2 k1 w8 w9 e20 v29 v30 K17 r2 (k2 + 1)))) false)) else ((hs_Recovery_j41 v35 (hs_Recovery_j36 (hs_Recovery_l2 k1 w8 w9 e20 v29 v30 K17 r2 (k2 + 1)))) false)) else ((hs_Recovery_j41 v35 (hs_Recovery_j36 (hs_Recovery_l2 k1 w8 w9 e20 v29 v30 K17 r2 (k2 + 1)))) false))))
def hs_Recovery_j21 (a1 : (List hsOp)) (k1 : Nat) (w8 : (List (Int × Int))) (w9 : (List (Int × Int))) (v16 : Bool) (e20 : hsOp) (K17 : (Bool → Bool → Bool → Option (Bool × Bool × Bool × Int))) (v29 : Bool) (v30 : Bool) : Option (Bool × Bool × Bool × Int) :=
  (bif (decide (e20.f_Kind > 1)) then (K17 v29 v30 v16) else ((sub a1 0 (k1 : Int)).bind fun e34 => (chk (lenOk e34) (hs_Recovery_l2 k1 w8 w9 e20 v29 v30 K17 e34 0 v16))))
def hs_Recovery_j27 (k1 : Nat) (x1 : Int) (w8 : (List (Int × Int))) (v15 : Bool) (K21 : (Bool → Bool → Option (Bool × Bool × Bool × Int))) (v28 : Bool) : Option (Bool × Bool × Bool × Int) :=
  (bif v15 then (bif (decide ((mget keq1 0 x1 w8) ≥ 0)) then (K21 v28 (decide ((mget keq1 0 x1 w8) < (k1 : Int)))) else (K21 v28 false)) else (K21 v28 false))
def hs_Recovery_j22 (k1 : Nat) (x1 : Int) (w8 : (List (Int × Int))) (v14 : Bool) (v15 : Bool) (e20 : hsOp) (K21 : (Bool → Bool → Option (Bool × Bool × Bool × Int))) (v23 : Bool) : Option (Bool × Bool × Bool × Int) :=
  (bif v23 then (chk (wfI .i64 e20.f_Txn) (chk (wfI .i64 x1) (bif v14 then (bif (decide ((mget keq1 0 e20.f_Txn w8) < 0)) then ((hs_Recovery_j27 k1 x1 w8 v15 K21) true) else (bif (decide ((mget keq1 0 x1 w8) ≥ 0)) then ((hs_Recovery_j27 k1 x1 w8 v15 K21) (decide ((mget keq1 0 x1 w8) < (mget keq1 0 e20.f_Txn w8)))) else ((hs_Recovery_j27 k1 x1 w8 v15 K21) false))) else ((hs_Recovery_j27 k1 x1 w8 v15 K21) false)))) else (K21 v14 v15))
def hs_Recovery_l1 (a1 : (List hsOp)) (w8 : (List (Int × Int))) (w9 : (List (Int × Int))) (K11 : (Bool → Bool → Bool → Option (Bool × Bool × Bool × Int))) : List Int → Nat → Bool → Bool → Bool → Option (Bool × Bool × Bool × Int)
  | [], k1, v14, v15, v16 => (K11 v14 v15 v16)
  | x1 :: r1, k1, v14, v15, v16 => ((idx a1 (k1 : Int)).bind fun e20 => (bif (decide (x1 > 0)) then ((hs_Recovery_j22 k1 x1 w8 v14 v15 e20 (hs_Recovery_j21 a1 k1 w8 w9 v16 e20 (hs_Recovery_j17 (hs_Recovery_l1 a1 w8 w9 K11 r1 (k1 + 1))))) (x1 != e20.f_Txn)) else ((hs_Recovery_j22 k1 x1 w8 v14 v15 e20 (hs_Recovery_j21 a1 k1 w8 w9 v16 e20 (hs_Recovery_j17 (hs_Recovery_l1 a1 w8 w9 K11 r1 (k1 + 1))))) false)))
def hs_Recovery (fuel : Nat) (a1 : (List hsOp)) : Option (Bool × Bool × Bool × Int) :=
  ((hs_Valid a1).bind fun w5 => (bif (!w5) then (some (false, false, false, 2)) else ((hs_History_ending fuel a1 2).bind fun w8 => ((hs_History_ending fuel a1 3).bind fun w9 => ((hs_History_from fuel a1).bind fun w13 => (chk (lenOk w13) (hs_Recovery_l1 a1 w8 w9 (hs_Recovery_j11) w13 0 true true true)))))))
theorem run_hs_Recovery (fuel : Nat) (a1 : (List hsOp)) (r : (Bool × Bool × Bool × Int)) (h : hs_Recovery fuel a1 = some r) : Run Try.prog (.call 28 [l44 none a1] (.tup [.bool r.1, .bool r.2.1, .bool r.2.2.1, .int .i64 r.2.2.2])) := by
  refine call_of_W Try.func28 rfl (by kernel_rfl) (env0 := [(0, l44 none a1)]) (by kernel_rfl) ?_
  unfold hs_Recovery at h
  refine W.seq ?_
  refine W.regT [0] [] [] [] (e2 := [(0, l44 none a1)]) (by kernel_rfl) (by kernel_rfl) (fun _ h => h) ?_
  refine W.seq ?_
  refine W.seq ?_
  refine W.region (by kernel_rfl) ?_
  obtain ⟨w5, hw5, h⟩ := bind_some h
  refine WO.callK 1 (F := 26) (l := [l44 none a1]) (C := []) (r := .bool w5) (by kernel_rfl) (by kernel_rfl) (run_hs_Valid a1 w5 hw5) (e1 := [(0, l44 none a1), (16, l44 none a1), (17, .bool w5)]) (by kernel_rfl) ?_
  refine WO.fin [0, 18] [] [] [] (e2 := [(0, l44 none a1), (18, .bool (!w5))]) (by kernel_rfl) (fun _ h => h) ?_
  refine W.condB (!w5) (by kernel_rfl) (fun hb => ?_) (fun hb => ?_)
  · replace h := cond_t hb h
    refine W.seq ?_
    refine W.regT [2, 3, 4, 5] [] [] [] (e2 := [(2, .bool false), (3, .bool false), (4, .bool false), (5, .int .i64 2)]) (by kernel_rfl) (by kernel_rfl) (fun _ h => h) ?_
    refine W.weak [2, 3, 4, 5] [] [] [] (env' := [(2, .bool false), (3, .bool false), (4, .bool false), (5, .int .i64 2)]) (by kernel_rfl) ?_
    have hr : aresults Try.prog Try.f28 [(2, .bool false), (3, .bool false), (4, .bool false), (5, .int .i64 2)] = some (.tup [.bool false, .bool false, .bool false, .int .i64 2]) := by kernel_rfl
    cases h
    exact W.ret hr
  replace h := cond_f hb h
  refine W.skip ?_
  refine W.weak [0] [] [] [] (env' := [(0, l44 none a1)]) (by kernel_rfl) ?_
  refine W.seq ?_
  refine W.region (by kernel_rfl) ?_
  obtain ⟨w8, hw8, h⟩ := bind_some h
  refine WO.callK 1 (F := 62) (l := [l44 none a1, .int .i64 2]) (C := []) (r := mpE (AV.int .i64) (AV.int .i64) w8) (by kernel_rfl) (by kernel_rfl) (run_hs_History_ending fuel a1 2 w8 hw8) (e1 := [(0, l44 none a1), (19, l44 none a1), (20, mpE (AV.int .i64) (AV.int .i64) w8)]) (by kernel_rfl) ?_
  obtain ⟨w9, hw9, h⟩ := bind_some h
  refine WO.callK 1 (F := 62) (l := [l44 none a1, .int .i64 3]) (C := []) (r := mpE (AV.int .i64) (AV.int .i64) w9) (by kernel_rfl) (by kernel_rfl) (run_hs_History_ending fuel a1 3 w9 hw9) (e1 := [(0, l44 none a1), (19, l44 none a1), (20, mpE (AV.int .i64) (AV.int .i64) w8), (21, l44 none a1), (22, mpE (AV.int .i64) (AV.int .i64) w9)]) (by kernel_rfl) ?_
  refine WO.fin [0, 6, 7] [] [] [] (e2 := [(0, l44 none a1), (6, mpE (AV.int .i64) (AV.int .i64) w8), (7, mpE (AV.int .i64) (AV.int .i64) w9)]) (by kernel_rfl) (fun _ h => h) ?_
  refine W.seq ?_
  refine W.regT [0, 2, 3, 4, 6, 7] [] [] [] (e2 := [(0, l44 none a1), (2, .bool true), (3, .bool true), (4, .bool true), (6, mpE (AV.int .i64) (AV.int .i64) w8), (7, mpE (AV.int .i64) (AV.int .i64) w9)]) (by kernel_rfl) (by kernel_rfl) (fun _ h => h) ?_
  refine W.seq ?_
  refine W.join (σ := (Bool × Bool × Bool)) (fun s => [(2, .bool s.1), (3, .bool s.2.1), (4, .bool s.2.2)]) (fun s => (hs_Recovery_j11) s.1 s.2.1 s.2.2 = some r) (fun s h => ?_) (fun hK11 => ?_)
  · obtain ⟨v47, v48, v49⟩ := s
    have h : (hs_Recovery_j11) v47 v48 v49 = some r := h
    unfold hs_Recovery_j11 at h
    refine W.seq ?_
    refine W.regT [2, 3, 4, 5] [] [] [] (e2 := [(2, .bool v47), (3, .bool v48), (4, .bool v49), (5, .int .i64 0)]) (by kernel_rfl) (by kernel_rfl) (fun _ h => h) ?_
    refine W.weak [2, 3, 4, 5] [] [] [] (env' := [(2, .bool v47), (3, .bool v48), (4, .bool v49), (5, .int .i64 0)]) (by kernel_rfl) ?_
    have hr : aresults Try.prog Try.f28 [(2, .bool v47), (3, .bool v48), (4, .bool v49), (5, .int .i64 0)] = some (.tup [.bool v47, .bool v48, .bool v49, .int .i64 0]) := by kernel_rfl
    cases h
    exact W.ret hr
  refine W.seq ?_
  refine W.region (by kernel_rfl) ?_
  obtain ⟨w13, hw13, h⟩ := bind_some h
  refine WO.callK 1 (F := 60) (l := [l44 none a1]) (C := []) (r := l3 (some 1) w13) (by kernel_rfl) (by kernel_rfl) (run_hs_History_from fuel a1 w13 hw13) (e1 := [(0, l44 none a1), (2, .bool true), (3, .bool true), (4, .bool true), (6, mpE (AV.int .i64) (AV.int .i64) w8), (7, mpE (AV.int .i64) (AV.int .i64) w9), (23, l44 none a1), (24, l3 (some 24) w13)]) (by kernel_rfl) ?_
  refine WO.pureK 0 (some (.int .i64 ((List.map (AV.int .i64) w13).length : Int))) (v := .int .i64 (w13.length : Int)) (by kernel_rfl) (by rw [List.length_map]) (e1 := [(0, l44 none a1), (2, .bool true), (3, .bool true), (4, .bool true), (6, mpE (AV.int .i64) (AV.int .i64) w8), (7, mpE (AV.int .i64) (AV.int .i64) w9), (23, l44 none a1), (24, l3 (some 24) w13), (25, .int .i64 (w13.length : Int))]) (by kernel_rfl) ?_
  refine WO.fin [0, 2, 3, 4, 6, 7, 24, 25, 26] [] [] [] (e2 := [(0, l44 none a1), (2, .bool true), (3, .bool true), (4, .bool true), (6, mpE (AV.int .i64) (AV.int .i64) w8), (7, mpE (AV.int .i64) (AV.int .i64) w9), (24, l3 (some 24) w13), (25, .int .i64 (w13.length : Int)), (26, .int .i64 0)]) (by kernel_rfl) (fun _ h => h) ?_
  refine W.block ?_
  obtain ⟨hl1, h⟩ := chk_some h
  refine W.weak [0, 2, 3, 4, 6, 7, 24, 25, 26] [] [] [] (env' := [(0, l44 none a1), (2, .bool true), (3, .bool true), (4, .bool true), (6, mpE (AV.int .i64) (AV.int .i64) w8), (7, mpE (AV.int .i64) (AV.int .i64) w9), (24, l3 (some 24) w13), (25, .int .i64 (w13.length : Int)), (26, .int .i64 ((0 : Nat) : Int))]) (by kernel_rfl) ?_
  refine W.range (σ := (Bool × Bool × Bool)) w13 (fun k1 s => [(0, l44 none a1), (2, .bool s.1), (3, .bool s.2.1), (4, .bool s.2.2), (6, mpE (AV.int .i64) (AV.int .i64) w8), (7, mpE (AV.int .i64) (AV.int .i64) w9), (24, l3 (some 24) w13), (25, .int .i64 (w13.length : Int)), (26, .int .i64 (k1 : Int))]) (fun r0 k0 s => hs_Recovery_l1 a1 w8 w9 (hs_Recovery_j11) r0 k0 s.1 s.2.1 s.2.2 = some r) (fun s h => ?_) (fun x1 r1 k1 s hx1 hk1 h hN1 => ?_) (true, true, true) h
  · obtain ⟨v14, v15, v16⟩ := s
    have h : hs_Recovery_l1 a1 w8 w9 (hs_Recovery_j11) [] (w13).length v14 v15 v16 = some r := h
    rw [hs_Recovery_l1.eq_1] at h
    refine W.seq ?_
    refine W.region (by kernel_rfl) ?_
    refine WO.pureK 0 (some (.bool (decide (((w13).length : Int) < (w13.length : Int))))) (v := .bool false) (by kernel_rfl) (by rw [lt_false (l := w13)]) (e1 := [(0, l44 none a1), (2, .bool v14), (3, .bool v15), (4, .bool v16), (6, mpE (AV.int .i64) (AV.int .i64) w8), (7, mpE (AV.int .i64) (AV.int .i64) w9), (24, l3 (some 24) w13), (25, .int .i64 (w13.length : Int)), (26, .int .i64 ((w13).length : Int)), (27, .bool false)]) (by kernel_rfl) ?_
    refine WO.fin ([0, 2, 3, 4, 6, 7, 24, 25, 26, 27]) [] [] [] (e2 := [(0, l44 none a1), (2, .bool v14), (3, .bool v15), (4, .bool v16), (6, mpE (AV.int .i64) (AV.int .i64) w8), (7, mpE (AV.int .i64) (AV.int .i64) w9), (24, l3 (some 24) w13), (25, .int .i64 (w13.length : Int)), (26, .int .i64 ((w13).length : Int)), (27, .bool false)]) (by kernel_rfl) (fun _ h => h) ?_
    refine W.seq ?_
    refine W.condB false (by kernel_rfl) (fun h => Bool.noConfusion h) (fun _ => ?_)
    refine W.exit ?_
    refine W.weak [2, 3, 4] [] [] [] (env' := [(2, .bool v14), (3, .bool v15), (4, .bool v16)]) (by kernel_rfl) ?_
    exact hK11 (v14, v15, v16) h
  · obtain ⟨v14, v15, v16⟩ := s
    have h : hs_Recovery_l1 a1 w8 w9 (hs_Recovery_j11) (x1 :: r1) k1 v14 v15 v16 = some r := h
    rw [hs_Recovery_l1.eq_2] at h
    refine W.seq ?_
    refine W.region (by kernel_rfl) ?_
    refine WO.pureK 0 (some (.bool (decide ((k1 : Int) < (w13.length : Int))))) (v := .bool true) (by kernel_rfl) (by rw [lt_true hk1]) (e1 := [(0, l44 none a1), (2, .bool v14), (3, .bool v15), (4, .bool v16), (6, mpE (AV.int .i64) (AV.int .i64) w8), (7, mpE (AV.int .i64) (AV.int .i64) w9), (24, l3 (some 24) w13), (25, .int .i64 (w13.length : Int)), (26, .int .i64 (k1 : Int)), (27, .bool true)]) (by kernel_rfl) ?_
    refine WO.fin ([0, 2, 3, 4, 6, 7, 24, 25, 26, 27]) [] [] [] (e2 := [(0, l44 none a1), (2, .bool v14), (3, .bool v15), (4, .bool v16), (6, mpE (AV.int .i64) (AV.int .i64) w8), (7, mpE (AV.int .i64) (AV.int .i64) w9), (24, l3 (some 24) w13), (25, .int .i64 (w13.length : Int)), (26, .int .i64 (k1 : Int)), (27, .bool true)]) (by kernel_rfl) (fun _ h => h) ?_
    refine W.seq ?_
    refine W.condB true (by kernel_rfl) (fun _ => ?_) (fun h => Bool.noConfusion h)
    refine W.skip ?_
    refine W.weak [0, 2, 3, 4, 6, 7, 24, 25, 26] [] [] [] (env' := [(0, l44 none a1), (2, .bool v14), (3, .bool v15), (4, .bool v16), (6, mpE (AV.int .i64) (AV.int .i64) w8), (7, mpE (AV.int .i64) (AV.int .i64) w9), (24, l3 (some 24) w13), (25, .int .i64 (w13.length : Int)), (26, .int .i64 (k1 : Int))]) (by kernel_rfl) ?_
    refine W.seq ?_
    refine W.join (σ := (Bool × Bool × Bool)) (fun s => [(0, l44 none a1), (2, .bool s.1), (3, .bool s.2.1), (4, .bool s.2.2), (6, mpE (AV.int .i64) (AV.int .i64) w8), (7, mpE (AV.int .i64) (AV.int .i64) w9), (24, l3 (some 24) w13), (25, .int .i64 (w13.length : Int)), (26, .int .i64 (k1 : Int))]) (fun s => (hs_Recovery_j17 (hs_Recovery_l1 a1 w8 w9 (hs_Recovery_j11) r1 (k1 + 1))) s.1 s.2.1 s.2.2 = some r) (fun s h => ?_) (fun hK17 => ?_)
    · obtain ⟨v44, v45, v46⟩ := s
      have h : (hs_Recovery_j17 (hs_Recovery_l1 a1 w8 w9 (hs_Recovery_j11) r1 (k1 + 1))) v44 v45 v46 = some r := h
      unfold hs_Recovery_j17 at h
      refine W.region (by kernel_rfl) ?_
      refine WO.pureK 0 (some (.int .i64 (IntKind.wrap .i64 ((k1 : Int) + 1)))) (v := .int .i64 ((k1 + 1 : Nat) : Int)) (by kernel_rfl) (by rw [wrap_succ hl1 hk1]) (e1 := [(0, l44 none a1), (2, .bool v44), (3, .bool v45), (4, .bool v46), (6, mpE (AV.int .i64) (AV.int .i64) w8), (7, mpE (AV.int .i64) (AV.int .i64) w9), (24, l3 (some 24) w13), (25, .int .i64 (w13.length : Int)), (26, .int .i64 (k1 : Int)), (121, .int .i64 ((k1 + 1 : Nat) : Int))]) (by kernel_rfl) ?_
      refine WO.fin [0, 2, 3, 4, 6, 7, 24, 25, 26] [] [] [] (e2 := [(0, l44 none a1), (2, .bool v44), (3, .bool v45), (4, .bool v46), (6, mpE (AV.int .i64) (AV.int .i64) w8), (7, mpE (AV.int .i64) (AV.int .i64) w9), (24, l3 (some 24) w13), (25, .int .i64 (w13.length : Int)), (26, .int .i64 ((k1 + 1 : Nat) : Int))]) (by kernel_rfl) (fun _ h => h) ?_
      exact hN1 (v44, v45, v46) h
    refine W.block ?_
    refine W.seq ?_
    refine W.region (by kernel_rfl) ?_
    refine WO.pureK 1 (if (0 : Int) ≤ (k1 : Int) then ((List.map (AV.int .i64) w13)[Int.toNat (k1 : Int)]?).map AV.ptr else none) (v := .ptr (.int .i64 x1)) (by kernel_rfl) (idx_nat (f := (AV.int .i64)) hx1) (e1 := [(0, l44 none a1), (2, .bool v14), (3, .bool v15), (4, .bool v16), (6, mpE (AV.int .i64) (AV.int .i64) w8), (7, mpE (AV.int .i64) (AV.int .i64) w9), (24, l3 (some 24) w13), (25, .int .i64 (w13.length : Int)), (26, .int .i64 (k1 : Int)), (28, .int .i64 (k1 : Int)), (29, .ptr (.int .i64 x1))]) (by kernel_rfl) ?_
    refine WO.fin [0, 2, 3, 4, 6, 7, 8, 9, 24, 25, 26] [] [] [] (e2 := [(0, l44 none a1), (2, .bool v14), (3, .bool v15), (4, .bool v16), (6, mpE (AV.int .i64) (AV.int .i64) w8), (7, mpE (AV.int .i64) (AV.int .i64) w9), (8, .int .i64 (k1 : Int)), (9, .int .i64 x1), (24, l3 (some 24) w13), (25, .int .i64 (w13.length : Int)), (26, .int .i64 (k1 : Int))]) (by kernel_rfl) (fun _ h => h) ?_
    refine W.seq ?_
    refine W.region (by kernel_rfl) ?_
    obtain ⟨e20, he20, h⟩ := bind_some h
    refine WO.pureK 2 (if (0 : Int) ≤ (k1 : Int) then ((List.map e_hsOp a1)[Int.toNat (k1 : Int)]?).map AV.ptr else none) (v := .ptr (.agg [.int .i64 e20.f_Txn, .int .i64 e20.f_Kind, .int .i64 e20.f_Item])) (by kernel_rfl) (idx_av (f := e_hsOp) he20) (e1 := [(0, l44 none a1), (2, .bool v14), (3, .bool v15), (4, .bool v16), (6, mpE (AV.int .i64) (AV.int .i64) w8), (7, mpE (AV.int .i64) (AV.int .i64) w9), (8, .int .i64 (k1 : Int)), (9, .int .i64 x1), (24, l3 (some 24) w13), (25, .int .i64 (w13.length : Int)), (26, .int .i64 (k1 : Int)), (31, l44 none a1), (32, .int .i64 (k1 : Int)), (33, .ptr (.agg [.int .i64 e20.f_Txn, .int .i64 e20.f_Kind, .int .i64 e20.f_Item]))]) (by kernel_rfl) ?_
    refine WO.fin [0, 2, 3, 4, 6, 7, 8, 9, 10, 24, 25, 26] [10] [] [] (e2 := [(0, l44 none a1), (2, .bool v14), (3, .bool v15), (4, .bool v16), (6, mpE (AV.int .i64) (AV.int .i64) w8), (7, mpE (AV.int .i64) (AV.int .i64) w9), (8, .int .i64 (k1 : Int)), (9, .int .i64 x1), (10, .ptr (.agg [.int .i64 e20.f_Txn, .int .i64 e20.f_Kind, .int .i64 e20.f_Item])), (24, l3 (some 24) w13), (25, .int .i64 (w13.length : Int)), (26, .int .i64 (k1 : Int))]) (by kernel_rfl) (fun _ h => h) ?_
    refine W.seq ?_
    refine W.join (σ := (Bool × Bool)) (fun s => [(0, l44 none a1), (2, .bool s.1), (3, .bool s.2), (4, .bool v16), (6, mpE (AV.int .i64) (AV.int .i64) w8), (7, mpE (AV.int .i64) (AV.int .i64) w9), (8, .int .i64 (k1 : Int)), (10, .ptr (.agg [.int .i64 e20.f_Txn, .int .i64 e20.f_Kind, .int .i64 e20.f_Item])), (24, l3 (some 24) w13), (25, .int .i64 (w13.length : Int)), (26, .int .i64 (k1 : Int))]) (fun s => (hs_Recovery_j21 a1 k1 w8 w9 v16 e20 (hs_Recovery_j17 (hs_Recovery_l1 a1 w8 w9 (hs_Recovery_j11) r1 (k1 + 1)))) s.1 s.2 = some r) (fun s h => ?_) (fun hK21 => ?_)
    · obtain ⟨v29, v30⟩ := s
      have h : (hs_Recovery_j21 a1 k1 w8 w9 v16 e20 (hs_Recovery_j17 (hs_Recovery_l1 a1 w8 w9 (hs_Recovery_j11) r1 (k1 + 1)))) v29 v30 = some r := h
      unfold hs_Recovery_j21 at h
      refine W.seq ?_
      refine W.seq ?_
      refine W.regT [0, 2, 3, 4, 6, 7, 8, 10, 24, 25, 26, 76] [] [] [] (e2 := [(0, l44 none a1), (2, .bool v29), (3, .bool v30), (4, .bool v16), (6, mpE (AV.int .i64) (AV.int .i64) w8), (7, mpE (AV.int .i64) (AV.int .i64) w9), (8, .int .i64 (k1 : Int)), (10, .ptr (.agg [.int .i64 e20.f_Txn, .int .i64 e20.f_Kind, .int .i64 e20.f_Item])), (24, l3 (some 24) w13), (25, .int .i64 (w13.length : Int)), (26, .int .i64 (k1 : Int)), (76, .bool (decide (e20.f_Kind > 1)))]) (by kernel_rfl) (by kernel_rfl) (fun _ h => h) ?_
      refine W.condB (decide (e20.f_Kind > 1)) (by kernel_rfl) (fun hb => ?_) (fun hb => ?_)
      · replace h := cond_t hb h
        refine W.exit ?_
        refine W.weak [0, 2, 3, 4, 6, 7, 24, 25, 26] [] [] [] (env' := [(0, l44 none a1), (2, .bool v29), (3, .bool v30), (4, .bool v16), (6, mpE (AV.int .i64) (AV.int .i64) w8), (7, mpE (AV.int .i64) (AV.int .i64) w9), (24, l3 (some 24) w13), (25, .int .i64 (w13.length : Int)), (26, .int .i64 (k1 : Int))]) (by kernel_rfl) ?_
        exact hK17 (v29, v30, v16) h
      replace h := cond_f hb h
      refine W.skip ?_
      refine W.weak [0, 2, 3, 4, 6, 7, 8, 10, 24, 25, 26] [] [] [] (env' := [(0, l44 none a1), (2, .bool v29), (3, .bool v30), (4, .bool v16), (6, mpE (AV.int .i64) (AV.int .i64) w8), (7, mpE (AV.int .i64) (AV.int .i64) w9), (8, .int .i64 (k1 : Int)), (10, .ptr (.agg [.int .i64 e20.f_Txn, .int .i64 e20.f_Kind, .int .i64 e20.f_Item])), (24, l3 (some 24) w13), (25, .int .i64 (w13.length : Int)), (26, .int .i64 (k1 : Int))]) (by kernel_rfl) ?_
      refine W.seq ?_
      refine W.region (by kernel_rfl) ?_
      obtain ⟨e34, he34, h⟩ := bind_some h
      refine WO.pureK 2 (if (0 : Int) ≤ 0 ∧ 0 ≤ (k1 : Int) ∧ (k1 : Int) ≤ ((List.map e_hsOp a1).length : Int) then some (.lst 44 3 none (((List.map e_hsOp a1).take (Int.toNat (k1 : Int))).drop (Int.toNat 0))) else none) (v := l44 none e34) (by kernel_rfl) (sub_av he34) (e1 := [(0, l44 none a1), (2, .bool v29), (3, .bool v30), (4, .bool v16), (6, mpE (AV.int .i64) (AV.int .i64) w8), (7, mpE (AV.int .i64) (AV.int .i64) w9), (8, .int .i64 (k1 : Int)), (10, .ptr (.agg [.int .i64 e20.f_Txn, .int .i64 e20.f_Kind, .int .i64 e20.f_Item])), (24, l3 (some 24) w13), (25, .int .i64 (w13.length : Int)), (26, .int .i64 (k1 : Int)), (77, l44 none a1), (78, .int .i64 (k1 : Int)), (79, l44 none e34)]) (by kernel_rfl) ?_
      refine WO.pureK 0 (some (.int .i64 ((List.map e_hsOp e34).length : Int))) (v := .int .i64 (e34.length : Int)) (by kernel_rfl) (by rw [List.length_map]) (e1 := [(0, l44 none a1), (2, .bool v29), (3, .bool v30), (4, .bool v16), (6, mpE (AV.int .i64) (AV.int .i64) w8), (7, mpE (AV.int .i64) (AV.int .i64) w9), (8, .int .i64 (k1 : Int)), (10, .ptr (.agg [.int .i64 e20.f_Txn, .int .i64 e20.f_Kind, .int .i64 e20.f_Item])), (24, l3 (some 24) w13), (25, .int .i64 (w13.length : Int)), (26, .int .i64 (k1 : Int)), (77, l44 none a1), (78, .int .i64 (k1 : Int)), (79, l44 none e34), (80, .int .i64 (e34.length : Int))]) (by kernel_rfl) ?_
      refine WO.fin [0, 2, 3, 4, 6, 7, 8, 10, 24, 25, 26, 79, 80, 81] [] [] [] (e2 := [(0, l44 none a1), (2, .bool v29), (3, .bool v30), (4, .bool v16), (6, mpE (AV.int .i64) (AV.int .i64) w8), (7, mpE (AV.int .i64) (AV.int .i64) w9), (8, .int .i64 (k1 : Int)), (10, .ptr (.agg [.int .i64 e20.f_Txn, .int .i64 e20.f_Kind, .int .i64 e20.f_Item])), (24, l3 (some 24) w13), (25, .int .i64 (w13.length : Int)), (26, .int .i64 (k1 : Int)), (79, l44 none e34), (80, .int .i64 (e34.length : Int)), (81, .int .i64 0)]) (by kernel_rfl) (fun _ h => h) ?_
      refine W.block ?_
      obtain ⟨hl2, h⟩ := chk_some h
      refine W.weak [0, 2, 3, 4, 6, 7, 8, 10, 24, 25, 26, 79, 80, 81] [] [] [] (env' := [(0, l44 none a1), (2, .bool v29), (3, .bool v30), (4, .bool v16), (6, mpE (AV.int .i64) (AV.int .i64) w8), (7, mpE (AV.int .i64) (AV.int .i64) w9), (8, .int .i64 (k1 : Int)), (10, .ptr (.agg [.int .i64 e20.f_Txn, .int .i64 e20.f_Kind, .int .i64 e20.f_Item])), (24, l3 (some 24) w13), (25, .int .i64 (w13.length : Int)), (26, .int .i64 (k1 : Int)), (79, l44 none e34), (80, .int .i64 (e34.length : Int)), (81, .int .i64 ((0 : Nat) : Int))]) (by kernel_rfl) ?_
      refine W.range (σ := (Bool)) e34 (fun k2 s => [(0, l44 none a1), (2, .bool v29), (3, .bool v30), (4, .bool s), (6, mpE (AV.int .i64) (AV.int .i64) w8), (7, mpE (AV.int .i64) (AV.int .i64) w9), (8, .int .i64 (k1 : Int)), (10, .ptr (.agg [.int .i64 e20.f_Txn, .int .i64 e20.f_Kind, .int .i64 e20.f_Item])), (24, l3 (some 24) w13), (25, .int .i64 (w13.length : Int)), (26, .int .i64 (k1 : Int)), (79, l44 none e34), (80, .int .i64 (e34.length : Int)), (81, .int .i64 (k2 : Int))]) (fun r0 k0 s => hs_Recovery_l2 k1 w8 w9 e20 v29 v30 (hs_Recovery_j17 (hs_Recovery_l1 a1 w8 w9 (hs_Recovery_j11) r1 (k1 + 1))) r0 k0 s = some r) (fun s h => ?_) (fun x2 r2 k2 s hx2 hk2 h hN2 => ?_) v16 h
      · obtain ⟨v35, rfl⟩ : ∃ x, x = s := ⟨s, rfl⟩
        have h : hs_Recovery_l2 k1 w8 w9 e20 v29 v30 (hs_Recovery_j17 (hs_Recovery_l1 a1 w8 w9 (hs_Recovery_j11) r1 (k1 + 1))) [] (e34).length v35 = some r := h
        rw [hs_Recovery_l2.eq_1] at h
        refine W.seq ?_
        refine W.region (by kernel_rfl) ?_
        refine WO.pureK 0 (some (.bool (decide (((e34).length : Int) < (e34.length : Int))))) (v := .bool false) (by kernel_rfl) (by rw [lt_false (l := e34)]) (e1 := [(0, l44 none a1), (2, .bool v29), (3, .bool v30), (4, .bool v35), (6, mpE (AV.int .i64) (AV.int .i64) w8), (7, mpE (AV.int .i64) (AV.int .i64) w9), (8, .int .i64 (k1 : Int)), (10, .ptr (.agg [.int .i64 e20.f_Txn, .int .i64 e20.f_Kind, .int .i64 e20.f_Item])), (24, l3 (some 24) w13), (25, .int .i64 (w13.length : Int)), (26, .int .i64 (k1 : Int)), (79, l44 none e34), (80, .int .i64 (e34.length : Int)), (81, .int .i64 ((e34).length : Int)), (82, .bool false)]) (by kernel_rfl) ?_
        refine WO.fin ([0, 2, 3, 4, 6, 7, 8, 10, 24, 25, 26, 79, 80, 81, 82]) [] [] [] (e2 := [(0, l44 none a1), (2, .bool v29), (3, .bool v30), (4, .bool v35), (6, mpE (AV.int .i64) (AV.int .i64) w8), (7, mpE (AV.int .i64) (AV.int .i64) w9), (8, .int .i64 (k1 : Int)), (10, .ptr (.agg [.int .i64 e20.f_Txn, .int .i64 e20.f_Kind, .int .i64 e20.f_Item])), (24, l3 (some 24) w13), (25, .int .i64 (w13.length : Int)), (26, .int .i64 (k1 : Int)), (79, l44 none e34), (80, .int .i64 (e34.length : Int)), (81, .int .i64 ((e34).length : Int)), (82, .bool false)]) (by kernel_rfl) (fun _ h => h) ?_
        refine W.seq ?_
        refine W.condB false (by kernel_rfl) (fun h => Bool.noConfusion h) (fun _ => ?_)
        refine W.exit ?_
        refine W.weak [0, 2, 3, 4, 6, 7, 24, 25, 26] [] [] [] (env' := [(0, l44 none a1), (2, .bool v29), (3, .bool v30), (4, .bool v35), (6, mpE (AV.int .i64) (AV.int .i64) w8), (7, mpE (AV.int .i64) (AV.int .i64) w9), (24, l3 (some 24) w13), (25, .int .i64 (w13.length : Int)), (26, .int .i64 (k1 : Int))]) (by kernel_rfl) ?_
        exact hK17 (v29, v30, v35) h
      · obtain ⟨v35, rfl⟩ : ∃ x, x = s := ⟨s, rfl⟩
        have h : hs_Recovery_l2 k1 w8 w9 e20 v29 v30 (hs_Recovery_j17 (hs_Recovery_l1 a1 w8 w9 (hs_Recovery_j11) r1 (k1 + 1))) (x2 :: r2) k2 v35 = some r := h
        rw [hs_Recovery_l2.eq_2] at h
        refine W.seq ?_
        refine W.region (by kernel_rfl) ?_
        refine WO.pureK 0 (some (.bool (decide ((k2 : Int) < (e34.length : Int))))) (v := .bool true) (by kernel_rfl) (by rw [lt_true hk2]) (e1 := [(0, l44 none a1), (2, .bool v29), (3, .bool v30), (4, .bool v35), (6, mpE (AV.int .i64) (AV.int .i64) w8), (7, mpE (AV.int .i64) (AV.int .i64) w9), (8, .int .i64 (k1 : Int)), (10, .ptr (.agg [.int .i64 e20.f_Txn, .int .i64 e20.f_Kind, .int .i64 e20.f_Item])), (24, l3 (some 24) w13), (25, .int .i64 (w13.length : Int)), (26, .int .i64 (k1 : Int)), (79, l44 none e34), (80, .int .i64 (e34.length : Int)), (81, .int .i64 (k2 : Int)), (82, .bool true)]) (by kernel_rfl) ?_
        refine WO.fin ([0, 2, 3, 4, 6, 7, 8, 10, 24, 25, 26, 79, 80, 81, 82]) [] [] [] (e2 := [(0, l44 none a1), (2, .bool v29), (3, .bool v30), (4, .bool v35), (6, mpE (AV.int .i64) (AV.int .i64) w8), (7, mpE (AV.int .i64) (AV.int .i64) w9), (8, .int .i64 (k1 : Int)), (10, .ptr (.agg [.int .i64 e20.f_Txn, .int .i64 e20.f_Kind, .int .i64 e20.f_Item])), (24, l3 (some 24) w13), (25, .int .i64 (w13.length : Int)), (26, .int .i64 (k1 : Int)), (79, l44 none e34), (80, .int .i64 (e34.length : Int)), (81, .int .i64 (k2 : Int)), (82, .bool true)]) (by kernel_rfl) (fun _ h => h) ?_
        refine W.seq ?_
        refine W.condB true (by kernel_rfl) (fun _ => ?_) (fun h => Bool.noConfusion h)
        refine W.skip ?_
        refine W.weak [0, 2, 3, 4, 6, 7, 8, 10, 24, 25, 26, 79, 80, 81] [] [] [] (env' := [(0, l44 none a1), (2, .bool v29), (3, .bool v30), (4, .bool v35), (6, mpE (AV.int .i64) (AV.int .i64) w8), (7, mpE (AV.int .i64) (AV.int .i64) w9), (8, .int .i64 (k1 : Int)), (10, .ptr (.agg [.int .i64 e20.f_Txn, .int .i64 e20.f_Kind, .int .i64 e20.f_Item])), (24, l3 (some 24) w13), (25, .int .i64 (w13.length : Int)), (26, .int .i64 (k1 : Int)), (79, l44 none e34), (80, .int .i64 (e34.length : Int)), (81, .int .i64 (k2 : Int))]) (by kernel_rfl) ?_
        refine W.seq ?_
        refine W.join (σ := (Bool)) (fun s => [(0, l44 none a1), (2, .bool v29), (3, .bool v30), (4, .bool s), (6, mpE (AV.int .i64) (AV.int .i64) w8), (7, mpE (AV.int .i64) (AV.int .i64) w9), (8, .int .i64 (k1 : Int)), (10, .ptr (.agg [.int .i64 e20.f_Txn, .int .i64 e20.f_Kind, .int .i64 e20.f_Item])), (24, l3 (some 24) w13), (25, .int .i64 (w13.length : Int)), (26, .int .i64 (k1 : Int)), (79, l44 none e34), (80, .int .i64 (e34.length : Int)), (81, .int .i64 (k2 : Int))]) (fun s => (hs_Recovery_j36 (hs_Recovery_l2 k1 w8 w9 e20 v29 v30 (hs_Recovery_j17 (hs_Recovery_l1 a1 w8 w9 (hs_Recovery_j11) r1 (k1 + 1))) r2 (k2 + 1))) s = some r) (fun s h => ?_) (fun hK36 => ?_)
        · obtain ⟨v43, rfl⟩ : ∃ x, x = s := ⟨s, rfl⟩
          have h : (hs_Recovery_j36 (hs_Recovery_l2 k1 w8 w9 e20 v29 v30 (hs_Recovery_j17 (hs_Recovery_l1 a1 w8 w9 (hs_Recovery_j11) r1 (k1 + 1))) r2 (k2 + 1))) v43 = some r := h
          unfold hs_Recovery_j36 at h
          refine W.region (by kernel_rfl) ?_
          refine WO.pureK 0 (some (.int .i64 (IntKind.wrap .i64 ((k2 : Int) + 1)))) (v := .int .i64 ((k2 + 1 : Nat) : Int)) (by kernel_rfl) (by rw [wrap_succ hl2 hk2]) (e1 := [(0, l44 none a1), (2, .bool v29), (3, .bool v30), (4, .bool v43), (6, mpE (AV.int .i64) (AV.int .i64) w8), (7, mpE (AV.int .i64) (AV.int .i64) w9), (8, .int .i64 (k1 : Int)), (10, .ptr (.agg [.int .i64 e20.f_Txn, .int .i64 e20.f_Kind, .int .i64 e20.f_Item])), (24, l3 (some 24) w13), (25, .int .i64 (w13.length : Int)), (26, .int .i64 (k1 : Int)), (79, l44 none e34), (80, .int .i64 (e34.length : Int)), (81, .int .i64 (k2 : Int)), (120, .int .i64 ((k2 + 1 : Nat) : Int))]) (by kernel_rfl) ?_
          refine WO.fin [0, 2, 3, 4, 6, 7, 8, 10, 24, 25, 26, 79, 80, 81] [] [] [] (e2 := [(0, l44 none a1), (2, .bool v29), (3, .bool v30), (4, .bool v43), (6, mpE (AV.int .i64) (AV.int .i64) w8), (7, mpE (AV.int .i64) (AV.int .i64) w9), (8, .int .i64 (k1 : Int)), (10, .ptr (.agg [.int .i64 e20.f_Txn, .int .i64 e20.f_Kind, .int .i64 e20.f_Item])), (24, l3 (some 24) w13), (25, .int .i64 (w13.length : Int)), (26, .int .i64 (k1 : Int)), (79, l44 none e34), (80, .int .i64 (e34.length : Int)), (81, .int .i64 ((k2 + 1 : Nat) : Int))]) (by kernel_rfl) (fun _ h => h) ?_
          exact hN2 v43 h
        refine W.block ?_
        refine W.seq ?_
        refine W.region (by kernel_rfl) ?_
        refine WO.pureK 0 (if (0 : Int) ≤ (k2 : Int) then ((List.map e_hsOp e34)[Int.toNat (k2 : Int)]?).map AV.ptr else none) (v := .ptr (.agg [.int .i64 x2.f_Txn, .int .i64 x2.f_Kind, .int .i64 x2.f_Item])) (by kernel_rfl) (idx_nat (f := e_hsOp) hx2) (e1 := [(0, l44 none a1), (2, .bool v29), (3, .bool v30), (4, .bool v35), (6, mpE (AV.int .i64) (AV.int .i64) w8), (7, mpE (AV.int .i64) (AV.int .i64) w9), (8, .int .i64 (k1 : Int)), (10, .ptr (.agg [.int .i64 e20.f_Txn, .int .i64 e20.f_Kind, .int .i64 e20.f_Item])), (24, l3 (some 24) w13), (25, .int .i64 (w13.length : Int)), (26, .int .i64 (k1 : Int)), (79, l44 none e34), (80, .int .i64 (e34.length : Int)), (81, .int .i64 (k2 : Int)), (83, .ptr (.agg [.int .i64 x2.f_Txn, .int .i64 x2.f_Kind, .int .i64 x2.f_Item]))]) (by kernel_rfl) ?_
        refine WO.fin [0, 2, 3, 4, 6, 7, 8, 10, 14, 24, 25, 26, 79, 80, 81] [14] [] [] (e2 := [(0, l44 none a1), (2, .bool v29), (3, .bool v30), (4, .bool v35), (6, mpE (AV.int .i64) (AV.int .i64) w8), (7, mpE (AV.int .i64) (AV.int .i64) w9), (8, .int .i64 (k1 : Int)), (10, .ptr (.agg [.int .i64 e20.f_Txn, .int .i64 e20.f_Kind, .int .i64 e20.f_Item])), (14, .ptr (.agg [.int .i64 x2.f_Txn, .int .i64 x2.f_Kind, .int .i64 x2.f_Item])), (24, l3 (some 24) w13), (25, .int .i64 (w13.length : Int)), (26, .int .i64 (k1 : Int)), (79, l44 none e34), (80, .int .i64 (e34.length : Int)), (81, .int .i64 (k2 : Int))]) (by kernel_rfl) (fun _ h => h) ?_
        refine W.seq ?_
        refine W.region (by kernel_rfl) ?_
        obtain ⟨hc39, h⟩ := chk_some h
        refine WO.pureK 3 ((alookup Try.prog 85 [] (mpE (AV.int .i64) (AV.int .i64) w8) (.int .i64 x2.f_Txn)).map AV.strip) (v := .int .i64 (mget keq1 0 x2.f_Txn w8)) (by kernel_rfl) (congrArg (Option.map AV.strip) (alookup_mp (F := (AV.int .i64)) (G := (AV.int .i64)) (eq := keq1) (l := w8) (k := x2.f_Txn) (z := 0) (kt := 3) (e := 3) (keyS_int hc39) (by kernel_rfl) (fun x => by kernel_rfl) (fun x y => by kernel_rfl) (by kernel_rfl))) (e1 := [(0, l44 none a1), (2, .bool v29), (3, .bool v30), (4, .bool v35), (6, mpE (AV.int .i64) (AV.int .i64) w8), (7, mpE (AV.int .i64) (AV.int .i64) w9), (8, .int .i64 (k1 : Int)), (10, .ptr (.agg [.int .i64 e20.f_Txn, .int .i64 e20.f_Kind, .int .i64 e20.f_Item])), (14, .ptr (.agg [.int .i64 x2.f_Txn, .int .i64 x2.f_Kind, .int .i64 x2.f_Item])), (24, l3 (some 24) w13), (25, .int .i64 (w13.length : Int)), (26, .int .i64 (k1 : Int)), (79, l44 none e34), (80, .int .i64 (e34.length : Int)), (81, .int .i64 (k2 : Int)), (85, mpE (AV.int .i64) (AV.int .i64) w8), (86, .ptr (.int .i64 x2.f_Txn)), (87, .int .i64 x2.f_Txn), (88, .int .i64 (mget keq1 0 x2.f_Txn w8))]) (by kernel_rfl) ?_
        obtain ⟨hc40, h⟩ := chk_some h
        refine WO.pureK 3 ((alookup Try.prog 85 [] (mpE (AV.int .i64) (AV.int .i64) w9) (.int .i64 x2.f_Txn)).map AV.strip) (v := .int .i64 (mget keq1 0 x2.f_Txn w9)) (by kernel_rfl) (congrArg (Option.map AV.strip) (alookup_mp (F := (AV.int .i64)) (G := (AV.int .i64)) (eq := keq1) (l := w9) (k := x2.f_Txn) (z := 0) (kt := 3) (e := 3) (keyS_int hc40) (by kernel_rfl) (fun x => by kernel_rfl) (fun x y => by kernel_rfl) (by kernel_rfl))) (e1 := [(0, l44 none a1), (2, .bool v29), (3, .bool v30), (4, .bool v35), (6, mpE (AV.int .i64) (AV.int .i64) w8), (7, mpE (AV.int .i64) (AV.int .i64) w9), (8, .int .i64 (k1 : Int)), (10, .ptr (.agg [.int .i64 e20.f_Txn, .int .i64 e20.f_Kind, .int .i64 e20.f_Item])), (14, .ptr (.agg [.int .i64 x2.f_Txn, .int .i64 x2.f_Kind, .int .i64 x2.f_Item])), (24, l3 (some 24) w13), (25, .int .i64 (w13.length : Int)), (26, .int .i64 (k1 : Int)), (79, l44 none e34), (80, .int .i64 (e34.length : Int)), (81, .int .i64 (k2 : Int)), (85, mpE (AV.int .i64) (AV.int .i64) w8), (86, .ptr (.int .i64 x2.f_Txn)), (87, .int .i64 x2.f_Txn), (88, .int .i64 (mget keq1 0 x2.f_Txn w8)), (89, mpE (AV.int .i64) (AV.int .i64) w9), (90, .ptr (.int .i64 x2.f_Txn)), (91, .int .i64 x2.f_Txn), (92, .int .i64 (mget keq1 0 x2.f_Txn w9))]) (by kernel_rfl) ?_
        refine WO.fin [0, 2, 3, 4, 6, 7, 8, 10, 14, 15, 24, 25, 26, 79, 80, 81] [] [] [] (e2 := [(0, l44 none a1), (2, .bool v29), (3, .bool v30), (4, .bool v35), (6, mpE (AV.int .i64) (AV.int .i64) w8), (7, mpE (AV.int .i64) (AV.int .i64) w9), (8, .int .i64 (k1 : Int)), (10, .ptr (.agg [.int .i64 e20.f_Txn, .int .i64 e20.f_Kind, .int .i64 e20.f_Item])), (14, .ptr (.agg [.int .i64 x2.f_Txn, .int .i64 x2.f_Kind, .int .i64 x2.f_Item])), (15, .int .i64 (if (mget keq1 0 x2.f_Txn w9) > (mget keq1 0 x2.f_Txn w8) then (mget keq1 0 x2.f_Txn w9) else (mget keq1 0 x2.f_Txn w8))), (24, l3 (some 24) w13), (25, .int .i64 (w13.length : Int)), (26, .int .i64 (k1 : Int)), (79, l44 none e34), (80, .int .i64 (e34.length : Int)), (81, .int .i64 (k2 : Int))]) (by kernel_rfl) (fun _ h => h) ?_
        refine W.seq ?_
        refine W.join (σ := (Bool)) (fun s => [(0, l44 none a1), (2, .bool v29), (3, .bool v30), (4, .bool v35), (6, mpE (AV.int .i64) (AV.int .i64) w8), (7, mpE (AV.int .i64) (AV.int .i64) w9), (8, .int .i64 (k1 : Int)), (10, .ptr (.agg [.int .i64 e20.f_Txn, .int .i64 e20.f_Kind, .int .i64 e20.f_Item])), (24, l3 (some 24) w13), (25, .int .i64 (w13.length : Int)), (26, .int .i64 (k1 : Int)), (79, l44 none e34), (80, .int .i64 (e34.length : Int)), (81, .int .i64 (k2 : Int)), (119, .bool s)]) (fun s => (hs_Recovery_j41 v35 (hs_Recovery_j36 (hs_Recovery_l2 k1 w8 w9 e20 v29 v30 (hs_Recovery_j17 (hs_Recovery_l1 a1 w8 w9 (hs_Recovery_j11) r1 (k1 + 1))) r2 (k2 + 1)))) s = some r) (fun s h => ?_) (fun hK41 => ?_)
        · obtain ⟨v42, rfl⟩ : ∃ x, x = s := ⟨s, rfl⟩
          have h : (hs_Recovery_j41 v35 (hs_Recovery_j36 (hs_Recovery_l2 k1 w8 w9 e20 v29 v30 (hs_Recovery_j17 (hs_Recovery_l1 a1 w8 w9 (hs_Recovery_j11) r1 (k1 + 1))) r2 (k2 + 1)))) v42 = some r := h
          unfold hs_Recovery_j41 at h
          refine W.condB v42 (by kernel_rfl) (fun hb => ?_) (fun hb => ?_)
          · replace h := cond_t hb h
            refine W.regT [0, 2, 3, 4, 6, 7, 8, 10, 24, 25, 26, 79, 80, 81] [] [] [] (e2 := [(0, l44 none a1), (2, .bool v29), (3, .bool v30), (4, .bool false), (6, mpE (AV.int .i64) (AV.int .i64) w8), (7, mpE (AV.int .i64) (AV.int .i64) w9), (8, .int .i64 (k1 : Int)), (10, .ptr (.agg [.int .i64 e20.f_Txn, .int .i64 e20.f_Kind, .int .i64 e20.f_Item])), (24, l3 (some 24) w13), (25, .int .i64 (w13.length : Int)), (26, .int .i64 (k1 : Int)), (79, l44 none e34), (80, .int .i64 (e34.length : Int)), (81, .int .i64 (k2 : Int))]) (by kernel_rfl) (by kernel_rfl) (fun _ h => h) ?_
            exact hK36 false h
          replace h := cond_f hb h
          refine W.skip ?_
          refine W.weak [0, 2, 3, 4, 6, 7, 8, 10, 24, 25, 26, 79, 80, 81] [] [] [] (env' := [(0, l44 none a1), (2, .bool v29), (3, .bool v30), (4, .bool v35), (6, mpE (AV.int .i64) (AV.int .i64) w8), (7, mpE (AV.int .i64) (AV.int .i64) w9), (8, .int .i64 (k1 : Int)), (10, .ptr (.agg [.int .i64 e20.f_Txn, .int .i64 e20.f_Kind, .int .i64 e20.f_Item])), (24, l3 (some 24) w13), (25, .int .i64 (w13.length : Int)), (26, .int .i64 (k1 : Int)), (79, l44 none e34), (80, .int .i64 (e34.length : Int)), (81, .int .i64 (k2 : Int))]) (by kernel_rfl) ?_
          exact hK36 v35 h
        refine W.region (by kernel_rfl) ?_
        refine WO.boolK 4 (fun b => [(0, l44 none a1), (2, .bool v29), (3, .bool v30), (4, .bool v35), (6, mpE (AV.int .i64) (AV.int .i64) w8), (7, mpE (AV.int .i64) (AV.int .i64) w9), (8, .int .i64 (k1 : Int)), (10, .ptr (.agg [.int .i64 e20.f_Txn, .int .i64 e20.f_Kind, .int .i64 e20.f_Item])), (14, .ptr (.agg [.int .i64 x2.f_Txn, .int .i64 x2.f_Kind, .int .i64 x2.f_Item])), (15, .int .i64 (if (mget keq1 0 x2.f_Txn w9) > (mget keq1 0 x2.f_Txn w8) then (mget keq1 0 x2.f_Txn w9) else (mget keq1 0 x2.f_Txn w8))), (24, l3 (some 24) w13), (25, .int .i64 (w13.length : Int)), (26, .int .i64 (k1 : Int)), (79, l44 none e34), (80, .int .i64 (e34.length : Int)), (81, .int .i64 (k2 : Int)), (94, .ptr (.int .i64 x2.f_Kind)), (95, .int .i64 x2.f_Kind), (96, .bool b), (97, .bool b)]) (x2.f_Kind == 1) (by kernel_rfl) (fun hb => ?_) (fun hb => ?_)
        · replace h := cond_t hb h
          refine WO.boolK 7 (fun b => [(0, l44 none a1), (2, .bool v29), (3, .bool v30), (4, .bool v35), (6, mpE (AV.int .i64) (AV.int .i64) w8), (7, mpE (AV.int .i64) (AV.int .i64) w9), (8, .int .i64 (k1 : Int)), (10, .ptr (.agg [.int .i64 e20.f_Txn, .int .i64 e20.f_Kind, .int .i64 e20.f_Item])), (14, .ptr (.agg [.int .i64 x2.f_Txn, .int .i64 x2.f_Kind, .int .i64 x2.f_Item])), (15, .int .i64 (if (mget keq1 0 x2.f_Txn w9) > (mget keq1 0 x2.f_Txn w8) then (mget keq1 0 x2.f_Txn w9) else (mget keq1 0 x2.f_Txn w8))), (24, l3 (some 24) w13), (25, .int .i64 (w13.length : Int)), (26, .int .i64 (k1 : Int)), (79, l44 none e34), (80, .int .i64 (e34.length : Int)), (81, .int .i64 (k2 : Int)), (94, .ptr (.int .i64 x2.f_Kind)), (95, .int .i64 x2.f_Kind), (96, .bool true), (97, .bool true), (98, .ptr (.int .i64 x2.f_Item)), (99, .int .i64 x2.f_Item), (100, .ptr (.int .i64 e20.f_Item)), (101, .int .i64 e20.f_Item), (102, .bool b), (103, .bool b), (104, .bool b)]) (x2.f_Item == e20.f_Item) (by kernel_rfl) (fun hb => ?_) (fun hb => ?_)
          · replace h := cond_t hb h
            refine WO.boolK 7 (fun b => [(0, l44 none a1), (2, .bool v29), (3, .bool v30), (4, .bool v35), (6, mpE (AV.int .i64) (AV.int .i64) w8), (7, mpE (AV.int .i64) (AV.int .i64) w9), (8, .int .i64 (k1 : Int)), (10, .ptr (.agg [.int .i64 e20.f_Txn, .int .i64 e20.f_Kind, .int .i64 e20.f_Item])), (14, .ptr (.agg [.int .i64 x2.f_Txn, .int .i64 x2.f_Kind, .int .i64 x2.f_Item])), (15, .int .i64 (if (mget keq1 0 x2.f_Txn w9) > (mget keq1 0 x2.f_Txn w8) then (mget keq1 0 x2.f_Txn w9) else (mget keq1 0 x2.f_Txn w8))), (24, l3 (some 24) w13), (25, .int .i64 (w13.length : Int)), (26, .int .i64 (k1 : Int)), (79, l44 none e34), (80, .int .i64 (e34.length : Int)), (81, .int .i64 (k2 : Int)), (94, .ptr (.int .i64 x2.f_Kind)), (95, .int .i64 x2.f_Kind), (96, .bool true), (97, .bool true), (98, .ptr (.int .i64 x2.f_Item)), (99, .int .i64 x2.f_Item), (100, .ptr (.int .i64 e20.f_Item)), (101, .int .i64 e20.f_Item), (102, .bool true), (103, .bool true), (104, .bool true), (105, .ptr (.int .i64 x2.f_Txn)), (106, .int .i64 x2.f_Txn), (107, .ptr (.int .i64 e20.f_Txn)), (108, .int .i64 e20.f_Txn), (109, .bool b), (110, .bool b), (111, .bool b)]) (x2.f_Txn != e20.f_Txn) (by kernel_rfl) (fun hb => ?_) (fun hb => ?_)
            · replace h := cond_t hb h
              refine WO.boolK 3 (fun b => [(0, l44 none a1), (2, .bool v29), (3, .bool v30), (4, .bool v35), (6, mpE (AV.int .i64) (AV.int .i64) w8), (7, mpE (AV.int .i64) (AV.int .i64) w9), (8, .int .i64 (k1 : Int)), (10, .ptr (.agg [.int .i64 e20.f_Txn, .int .i64 e20.f_Kind, .int .i64 e20.f_Item])), (14, .ptr (.agg [.int .i64 x2.f_Txn, .int .i64 x2.f_Kind, .int .i64 x2.f_Item])), (15, .int .i64 (if (mget keq1 0 x2.f_Txn w9) > (mget keq1 0 x2.f_Txn w8) then (mget keq1 0 x2.f_Txn w9) else (mget keq1 0 x2.f_Txn w8))), (24, l3 (some 24) w13), (25, .int .i64 (w13.length : Int)), (26, .int .i64 (k1 : Int)), (79, l44 none e34), (80, .int .i64 (e34.length : Int)), (81, .int .i64 (k2 : Int)), (94, .ptr (.int .i64 x2.f_Kind)), (95, .int .i64 x2.f_Kind), (96, .bool true), (97, .bool true), (98, .ptr (.int .i64 x2.f_Item)), (99, .int .i64 x2.f_Item), (100, .ptr (.int .i64 e20.f_Item)), (101, .int .i64 e20.f_Item), (102, .bool true), (103, .bool true), (104, .bool true), (105, .ptr (.int .i64 x2.f_Txn)), (106, .int .i64 x2.f_Txn), (107, .ptr (.int .i64 e20.f_Txn)), (108, .int .i64 e20.f_Txn), (109, .bool true), (110, .bool true), (111, .bool true), (112, .int .i64 (if (mget keq1 0 x2.f_Txn w9) > (mget keq1 0 x2.f_Txn w8) then (mget keq1 0 x2.f_Txn w9) else (mget keq1 0 x2.f_Txn w8))), (113, .bool b), (114, .bool b)]) (decide ((if (mget keq1 0 x2.f_Txn w9) > (mget keq1 0 x2.f_Txn w8) then (mget keq1 0 x2.f_Txn w9) else (mget keq1 0 x2.f_Txn w8)) < 0)) (by kernel_rfl) (fun hb => ?_) (fun hb => ?_)
              · replace h := cond_t hb h
                refine WO.fin [0, 2, 3, 4, 6, 7, 8, 10, 24, 25, 26, 79, 80, 81, 119] [] [] [] (e2 := [(0, l44 none a1), (2, .bool v29), (3, .bool v30), (4, .bool v35), (6, mpE (AV.int .i64) (AV.int .i64) w8), (7, mpE (AV.int .i64) (AV.int .i64) w9), (8, .int .i64 (k1 : Int)), (10, .ptr (.agg [.int .i64 e20.f_Txn, .int .i64 e20.f_Kind, .int .i64 e20.f_Item])), (24, l3 (some 24) w13), (25, .int .i64 (w13.length : Int)), (26, .int .i64 (k1 : Int)), (79, l44 none e34), (80, .int .i64 (e34.length : Int)), (81, .int .i64 (k2 : Int)), (119, .bool true)]) (by kernel_rfl) (fun _ h => h) ?_
                exact hK41 true h
              replace h := cond_f hb h
              refine WO.fin [0, 2, 3, 4, 6, 7, 8, 10, 24, 25, 26, 79, 80, 81, 119] [] [] [] (e2 := [(0, l44 none a1), (2, .bool v29), (3, .bool v30), (4, .bool v35), (6, mpE (AV.int .i64) (AV.int .i64) w8), (7, mpE (AV.int .i64) (AV.int .i64) w9), (8, .int .i64 (k1 : Int)), (10, .ptr (.agg [.int .i64 e20.f_Txn, .int .i64 e20.f_Kind, .int .i64 e20.f_Item])), (24, l3 (some 24) w13), (25, .int .i64 (w13.length : Int)), (26, .int .i64 (k1 : Int)), (79, l44 none e34), (80, .int .i64 (e34.length : Int)), (81, .int .i64 (k2 : Int)), (119, .bool (decide ((if (mget keq1 0 x2.f_Txn w9) > (mget keq1 0 x2.f_Txn w8) then (mget keq1 0 x2.f_Txn w9) else (mget keq1 0 x2.f_Txn w8)) > (k1 : Int))))]) (by kernel_rfl) (fun _ h => h) ?_
              exact hK41 (decide ((if (mget keq1 0 x2.f_Txn w9) > (mget keq1 0 x2.f_Txn w8) then (mget keq1 0 x2.f_Txn w9) else (mget keq1 0 x2.f_Txn w8)) > (k1 : Int))) h
            replace h := cond_f hb h
            refine WO.fin [0, 2, 3, 4, 6, 7, 8, 10, 24, 25, 26, 79, 80, 81, 119] [] [] [] (e2 := [(0, l44 none a1), (2, .bool v29), (3, .bool v30), (4, .bool v35), (6, mpE (AV.int .i64) (AV.int .i64) w8), (7, mpE (AV.int .i64) (AV.int .i64) w9), (8, .int .i64 (k1 : Int)), (10, .ptr (.agg [.int .i64 e20.f_Txn, .int .i64 e20.f_Kind, .int .i64 e20.f_Item])), (24, l3 (some 24) w13), (25, .int .i64 (w13.length : Int)), (26, .int .i64 (k1 : Int)), (79, l44 none e34), (80, .int .i64 (e34.length : Int)), (81, .int .i64 (k2 : Int)), (119, .bool false)]) (by kernel_rfl) (fun _ h => h) ?_
            exact hK41 false h
          replace h := cond_f hb h
          refine WO.fin [0, 2, 3, 4, 6, 7, 8, 10, 24, 25, 26, 79, 80, 81, 119] [] [] [] (e2 := [(0, l44 none a1), (2, .bool v29), (3, .bool v30), (4, .bool v35), (6, mpE (AV.int .i64) (AV.int .i64) w8), (7, mpE (AV.int .i64) (AV.int .i64) w9), (8, .int .i64 (k1 : Int)), (10, .ptr (.agg [.int .i64 e20.f_Txn, .int .i64 e20.f_Kind, .int .i64 e20.f_Item])), (24, l3 (some 24) w13), (25, .int .i64 (w13.length : Int)), (26, .int .i64 (k1 : Int)), (79, l44 none e34), (80, .int .i64 (e34.length : Int)), (81, .int .i64 (k2 : Int)), (119, .bool false)]) (by kernel_rfl) (fun _ h => h) ?_
          exact hK41 false h
        replace h := cond_f hb h
        refine WO.fin [0, 2, 3, 4, 6, 7, 8, 10, 24, 25, 26, 79, 80, 81, 119] [] [] [] (e2 := [(0, l44 none a1), (2, .bool v29), (3, .bool v30), (4, .bool v35), (6, mpE (AV.int .i64) (AV.int .i64) w8), (7, mpE (AV.int .i64) (AV.int .i64) w9), (8, .int .i64 (k1 : Int)), (10, .ptr (.agg [.int .i64 e20.f_Txn, .int .i64 e20.f_Kind, .int .i64 e20.f_Item])), (24, l3 (some 24) w13), (25, .int .i64 (w13.length : Int)), (26, .int .i64 (k1 : Int)), (79, l44 none e34), (80, .int .i64 (e34.length : Int)), (81, .int .i64 (k2 : Int)), (119, .bool false)]) (by kernel_rfl) (fun _ h => h) ?_
        exact hK41 false h
    refine W.seq ?_
    refine W.join (σ := (Bool)) (fun s => [(0, l44 none a1), (2, .bool v14), (3, .bool v15), (4, .bool v16), (6, mpE (AV.int .i64) (AV.int .i64) w8), (7, mpE (AV.int .i64) (AV.int .i64) w9), (8, .int .i64 (k1 : Int)), (9, .int .i64 x1), (10, .ptr (.agg [.int .i64 e20.f_Txn, .int .i64 e20.f_Kind, .int .i64 e20.f_Item])), (24, l3 (some 24) w13), (25, .int .i64 (w13.length : Int)), (26, .int .i64 (k1 : Int)), (42, .bool s)]) (fun s => (hs_Recovery_j22 k1 x1 w8 v14 v15 e20 (hs_Recovery_j21 a1 k1 w8 w9 v16 e20 (hs_Recovery_j17 (hs_Recovery_l1 a1 w8 w9 (hs_Recovery_j11) r1 (k1 + 1))))) s = some r) (fun s h => ?_) (fun hK22 => ?_)
    · obtain ⟨v23, rfl⟩ : ∃ x, x = s := ⟨s, rfl⟩
      have h : (hs_Recovery_j22 k1 x1 w8 v14 v15 e20 (hs_Recovery_j21 a1 k1 w8 w9 v16 e20 (hs_Recovery_j17 (hs_Recovery_l1 a1 w8 w9 (hs_Recovery_j11) r1 (k1 + 1))))) v23 = some r := h
      unfold hs_Recovery_j22 at h
      refine W.condB v23 (by kernel_rfl) (fun hb => ?_) (fun hb => ?_)
      · replace h := cond_t hb h
        refine W.seq ?_
        refine W.region (by kernel_rfl) ?_
        obtain ⟨hc25, h⟩ := chk_some h
        refine WO.pureK 3 ((alookup Try.prog 85 [] (mpE (AV.int .i64) (AV.int .i64) w8) (.int .i64 e20.f_Txn)).map AV.strip) (v := .int .i64 (mget keq1 0 e20.f_Txn w8)) (by kernel_rfl) (congrArg (Option.map AV.strip) (alookup_mp (F := (AV.int .i64)) (G := (AV.int .i64)) (eq := keq1) (l := w8) (k := e20.f_Txn) (z := 0) (kt := 3) (e := 3) (keyS_int hc25) (by kernel_rfl) (fun x => by kernel_rfl) (fun x y => by kernel_rfl) (by kernel_rfl))) (e1 := [(0, l44 none a1), (2, .bool v14), (3, .bool v15), (4, .bool v16), (6, mpE (AV.int .i64) (AV.int .i64) w8), (7, mpE (AV.int .i64) (AV.int .i64) w9), (8, .int .i64 (k1 : Int)), (9, .int .i64 x1), (10, .ptr (.agg [.int .i64 e20.f_Txn, .int .i64 e20.f_Kind, .int .i64 e20.f_Item])), (24, l3 (some 24) w13), (25, .int .i64 (w13.length : Int)), (26, .int .i64 (k1 : Int)), (42, .bool v23), (43, mpE (AV.int .i64) (AV.int .i64) w8), (44, .ptr (.int .i64 e20.f_Txn)), (45, .int .i64 e20.f_Txn), (46, .int .i64 (mget keq1 0 e20.f_Txn w8))]) (by kernel_rfl) ?_
        obtain ⟨hc26, h⟩ := chk_some h
        refine WO.pureK 2 ((alookup Try.prog 85 [] (mpE (AV.int .i64) (AV.int .i64) w8) (.int .i64 x1)).map AV.strip) (v := .int .i64 (mget keq1 0 x1 w8)) (by kernel_rfl) (congrArg (Option.map AV.strip) (alookup_mp (F := (AV.int .i64)) (G := (AV.int .i64)) (eq := keq1) (l := w8) (k := x1) (z := 0) (kt := 3) (e := 3) (keyS_int hc26) (by kernel_rfl) (fun x => by kernel_rfl) (fun x y => by kernel_rfl) (by kernel_rfl))) (e1 := [(0, l44 none a1), (2, .bool v14), (3, .bool v15), (4, .bool v16), (6, mpE (AV.int .i64) (AV.int .i64) w8), (7, mpE (AV.int .i64) (AV.int .i64) w9), (8, .int .i64 (k1 : Int)), (9, .int .i64 x1), (10, .ptr (.agg [.int .i64 e20.f_Txn, .int .i64 e20.f_Kind, .int .i64 e20.f_Item])), (24, l3 (some 24) w13), (25, .int .i64 (w13.length : Int)), (26, .int .i64 (k1 : Int)), (42, .bool v23), (43, mpE (AV.int .i64) (AV.int .i64) w8), (44, .ptr (.int .i64 e20.f_Txn)), (45, .int .i64 e20.f_Txn), (46, .int .i64 (mget keq1 0 e20.f_Txn w8)), (47, mpE (AV.int .i64) (AV.int .i64) w8), (48, .int .i64 x1), (49, .int .i64 (mget keq1 0 x1 w8))]) (by kernel_rfl) ?_
        refine WO.fin [0, 2, 3, 4, 6, 7, 8, 10, 11, 12, 24, 25, 26] [] [] [] (e2 := [(0, l44 none a1), (2, .bool v14), (3, .bool v15), (4, .bool v16), (6, mpE (AV.int .i64) (AV.int .i64) w8), (7, mpE (AV.int .i64) (AV.int .i64) w9), (8, .int .i64 (k1 : Int)), (10, .ptr (.agg [.int .i64 e20.f_Txn, .int .i64 e20.f_Kind, .int .i64 e20.f_Item])), (11, .int .i64 (mget keq1 0 e20.f_Txn w8)), (12, .int .i64 (mget keq1 0 x1 w8)), (24, l3 (some 24) w13), (25, .int .i64 (w13.length : Int)), (26, .int .i64 (k1 : Int))]) (by kernel_rfl) (fun _ h => h) ?_
        refine W.seq ?_
        refine W.join (σ := (Bool)) (fun s => [(0, l44 none a1), (2, .bool s), (3, .bool v15), (4, .bool v16), (6, mpE (AV.int .i64) (AV.int .i64) w8), (7, mpE (AV.int .i64) (AV.int .i64) w9), (8, .int .i64 (k1 : Int)), (10, .ptr (.agg [.int .i64 e20.f_Txn, .int .i64 e20.f_Kind, .int .i64 e20.f_Item])), (12, .int .i64 (mget keq1 0 x1 w8)), (24, l3 (some 24) w13), (25, .int .i64 (w13.length : Int)), (26, .int .i64 (k1 : Int))]) (fun s => (hs_Recovery_j27 k1 x1 w8 v15 (hs_Recovery_j21 a1 k1 w8 w9 v16 e20 (hs_Recovery_j17 (hs_Recovery_l1 a1 w8 w9 (hs_Recovery_j11) r1 (k1 + 1))))) s = some r) (fun s h => ?_) (fun hK27 => ?_)
        · obtain ⟨v28, rfl⟩ : ∃ x, x = s := ⟨s, rfl⟩
          have h : (hs_Recovery_j27 k1 x1 w8 v15 (hs_Recovery_j21 a1 k1 w8 w9 v16 e20 (hs_Recovery_j17 (hs_Recovery_l1 a1 w8 w9 (hs_Recovery_j11) r1 (k1 + 1))))) v28 = some r := h
          unfold hs_Recovery_j27 at h
          refine W.region (by kernel_rfl) ?_
          refine WO.boolK 2 (fun b => [(0, l44 none a1), (2, .bool v28), (3, .bool b), (4, .bool v16), (6, mpE (AV.int .i64) (AV.int .i64) w8), (7, mpE (AV.int .i64) (AV.int .i64) w9), (8, .int .i64 (k1 : Int)), (10, .ptr (.agg [.int .i64 e20.f_Txn, .int .i64 e20.f_Kind, .int .i64 e20.f_Item])), (12, .int .i64 (mget keq1 0 x1 w8)), (24, l3 (some 24) w13), (25, .int .i64 (w13.length : Int)), (26, .int .i64 (k1 : Int)), (64, .bool b), (65, .bool b)]) v15 (by kernel_rfl) (fun hb => ?_) (fun hb => ?_)
          · replace h := cond_t hb h
            refine WO.boolK 4 (fun b => [(0, l44 none a1), (2, .bool v28), (3, .bool true), (4, .bool v16), (6, mpE (AV.int .i64) (AV.int .i64) w8), (7, mpE (AV.int .i64) (AV.int .i64) w9), (8, .int .i64 (k1 : Int)), (10, .ptr (.agg [.int .i64 e20.f_Txn, .int .i64 e20.f_Kind, .int .i64 e20.f_Item])), (12, .int .i64 (mget keq1 0 x1 w8)), (24, l3 (some 24) w13), (25, .int .i64 (w13.length : Int)), (26, .int .i64 (k1 : Int)), (64, .bool true), (65, .bool true), (66, .int .i64 (mget keq1 0 x1 w8)), (67, .bool b), (68, .bool b), (69, .bool b)]) (decide ((mget keq1 0 x1 w8) ≥ 0)) (by kernel_rfl) (fun hb => ?_) (fun hb => ?_)
            · replace h := cond_t hb h
              refine WO.fin [0, 2, 3, 4, 6, 7, 8, 10, 24, 25, 26] [] [] [] (e2 := [(0, l44 none a1), (2, .bool v28), (3, .bool (decide ((mget keq1 0 x1 w8) < (k1 : Int)))), (4, .bool v16), (6, mpE (AV.int .i64) (AV.int .i64) w8), (7, mpE (AV.int .i64) (AV.int .i64) w9), (8, .int .i64 (k1 : Int)), (10, .ptr (.agg [.int .i64 e20.f_Txn, .int .i64 e20.f_Kind, .int .i64 e20.f_Item])), (24, l3 (some 24) w13), (25, .int .i64 (w13.length : Int)), (26, .int .i64 (k1 : Int))]) (by kernel_rfl) (fun _ h => h) ?_
              exact hK21 (v28, (decide ((mget keq1 0 x1 w8) < (k1 : Int)))) h
            replace h := cond_f hb h
            refine WO.fin [0, 2, 3, 4, 6, 7, 8, 10, 24, 25, 26] [] [] [] (e2 := [(0, l44 none a1), (2, .bool v28), (3, .bool false), (4, .bool v16), (6, mpE (AV.int .i64) (AV.int .i64) w8), (7, mpE (AV.int .i64) (AV.int .i64) w9), (8, .int .i64 (k1 : Int)), (10, .ptr (.agg [.int .i64 e20.f_Txn, .int .i64 e20.f_Kind, .int .i64 e20.f_Item])), (24, l3 (some 24) w13), (25, .int .i64 (w13.length : Int)), (26, .int .i64 (k1 : Int))]) (by kernel_rfl) (fun _ h => h) ?_
            exact hK21 (v28, false) h
          replace h := cond_f hb h
          refine WO.fin [0, 2, 3, 4, 6, 7, 8, 10, 24, 25, 26] [] [] [] (e2 := [(0, l44 none a1), (2, .bool v28), (3, .bool false), (4, .bool v16), (6, mpE (AV.int .i64) (AV.int .i64) w8), (7, mpE (AV.int .i64) (AV.int .i64) w9), (8, .int .i64 (k1 : Int)), (10, .ptr (.agg [.int .i64 e20.f_Txn, .int .i64 e20.f_Kind, .int .i64 e20.f_Item])), (24, l3 (some 24) w13), (25, .int .i64 (w13.length : Int)), (26, .int .i64 (k1 : Int))]) (by kernel_rfl) (fun _ h => h) ?_
          exact hK21 (v28, false) h
        refine W.region (by kernel_rfl) ?_
        refine WO.boolK 2 (fun b => [(0, l44 none a1), (2, .bool b), (3, .bool v15), (4, .bool v16), (6, mpE (AV.int .i64) (AV.int .i64) w8), (7, mpE (AV.int .i64) (AV.int .i64) w9), (8, .int .i64 (k1 : Int)), (10, .ptr (.agg [.int .i64 e20.f_Txn, .int .i64 e20.f_Kind, .int .i64 e20.f_Item])), (11, .int .i64 (mget keq1 0 e20.f_Txn w8)), (12, .int .i64 (mget keq1 0 x1 w8)), (24, l3 (some 24) w13), (25, .int .i64 (w13.length : Int)), (26, .int .i64 (k1 : Int)), (50, .bool b), (51, .bool b)]) v14 (by kernel_rfl) (fun hb => ?_) (fun hb => ?_)
        · replace h := cond_t hb h
          refine WO.boolK 3 (fun b => [(0, l44 none a1), (2, .bool true), (3, .bool v15), (4, .bool v16), (6, mpE (AV.int .i64) (AV.int .i64) w8), (7, mpE (AV.int .i64) (AV.int .i64) w9), (8, .int .i64 (k1 : Int)), (10, .ptr (.agg [.int .i64 e20.f_Txn, .int .i64 e20.f_Kind, .int .i64 e20.f_Item])), (11, .int .i64 (mget keq1 0 e20.f_Txn w8)), (12, .int .i64 (mget keq1 0 x1 w8)), (24, l3 (some 24) w13), (25, .int .i64 (w13.length : Int)), (26, .int .i64 (k1 : Int)), (50, .bool true), (51, .bool true), (52, .int .i64 (mget keq1 0 e20.f_Txn w8)), (53, .bool b), (54, .bool b)]) (decide ((mget keq1 0 e20.f_Txn w8) < 0)) (by kernel_rfl) (fun hb => ?_) (fun hb => ?_)
          · replace h := cond_t hb h
            refine WO.fin [0, 2, 3, 4, 6, 7, 8, 10, 12, 24, 25, 26] [] [] [] (e2 := [(0, l44 none a1), (2, .bool true), (3, .bool v15), (4, .bool v16), (6, mpE (AV.int .i64) (AV.int .i64) w8), (7, mpE (AV.int .i64) (AV.int .i64) w9), (8, .int .i64 (k1 : Int)), (10, .ptr (.agg [.int .i64 e20.f_Txn, .int .i64 e20.f_Kind, .int .i64 e20.f_Item])), (12, .int .i64 (mget keq1 0 x1 w8)), (24, l3 (some 24) w13), (25, .int .i64 (w13.length : Int)), (26, .int .i64 (k1 : Int))]) (by kernel_rfl) (fun _ h => h) ?_
            exact hK27 true h
          replace h := cond_f hb h
          refine WO.boolK 3 (fun b => [(0, l44 none a1), (2, .bool true), (3, .bool v15), (4, .bool v16), (6, mpE (AV.int .i64) (AV.int .i64) w8), (7, mpE (AV.int .i64) (AV.int .i64) w9), (8, .int .i64 (k1 : Int)), (10, .ptr (.agg [.int .i64 e20.f_Txn, .int .i64 e20.f_Kind, .int .i64 e20.f_Item])), (11, .int .i64 (mget keq1 0 e20.f_Txn w8)), (12, .int .i64 (mget keq1 0 x1 w8)), (24, l3 (some 24) w13), (25, .int .i64 (w13.length : Int)), (26, .int .i64 (k1 : Int)), (50, .bool true), (51, .bool true), (52, .int .i64 (mget keq1 0 e20.f_Txn w8)), (53, .bool false), (54, .bool false), (55, .int .i64 (mget keq1 0 x1 w8)), (56, .bool b), (57, .bool b)]) (decide ((mget keq1 0 x1 w8) ≥ 0)) (by kernel_rfl) (fun hb => ?_) (fun hb => ?_)
          · replace h := cond_t hb h
            refine WO.fin [0, 2, 3, 4, 6, 7, 8, 10, 12, 24, 25, 26] [] [] [] (e2 := [(0, l44 none a1), (2, .bool (decide ((mget keq1 0 x1 w8) < (mget keq1 0 e20.f_Txn w8)))), (3, .bool v15), (4, .bool v16), (6, mpE (AV.int .i64) (AV.int .i64) w8), (7, mpE (AV.int .i64) (AV.int .i64) w9), (8, .int .i64 (k1 : Int)), (10, .ptr (.agg [.int .i64 e20.f_Txn, .int .i64 e20.f_Kind, .int .i64 e20.f_Item])), (12, .int .i64 (mget keq1 0 x1 w8)), (24, l3 (some 24) w13), (25, .int .i64 (w13.length : Int)), (26, .int .i64 (k1 : Int))]) (by kernel_rfl) (fun _ h => h) ?_
            exact hK27 (decide ((mget keq1 0 x1 w8) < (mget keq1 0 e20.f_Txn w8))) h
          replace h := cond_f hb h
          refine WO.fin [0, 2, 3, 4, 6, 7, 8, 10, 12, 24, 25, 26] [] [] [] (e2 := [(0, l44 none a1), (2, .bool false), (3, .bool v15), (4, .bool v16), (6, mpE (AV.int .i64) (AV.int .i64) w8), (7, mpE (AV.int .i64) (AV.int .i64) w9), (8, .int .i64 (k1 : Int)), (10, .ptr (.agg [.int .i64 e20.f_Txn, .int .i64 e20.f_Kind, .int .i64 e20.f_Item])), (12, .int .i64 (mget keq1 0 x1 w8)), (24, l3 (some 24) w13), (25, .int .i64 (w13.length : Int)), (26, .int .i64 (k1 : Int))]) (by kernel_rfl) (fun _ h => h) ?_
          exact hK27 false h
        replace h := cond_f hb h
        refine WO.fin [0, 2, 3, 4, 6, 7, 8, 10, 12, 24, 25, 26] [] [] [] (e2 := [(0, l44 none a1), (2, .bool false), (3, .bool v15), (4, .bool v16), (6, mpE (AV.int .i64) (AV.int .i64) w8), (7, mpE (AV.int .i64) (AV.int .i64) w9), (8, .int .i64 (k1 : Int)), (10, .ptr (.agg [.int .i64 e20.f_Txn, .int .i64 e20.f_Kind, .int .i64 e20.f_Item])), (12, .int .i64 (mget keq1 0 x1 w8)), (24, l3 (some 24) w13), (25, .int .i64 (w13.length : Int)), (26, .int .i64 (k1 : Int))]) (by kernel_rfl) (fun _ h => h) ?_
        exact hK27 false h
      replace h := cond_f hb h
      refine W.skip ?_
      refine W.weak [0, 2, 3, 4, 6, 7, 8, 10, 24, 25, 26] [] [] [] (env' := [(0, l44 none a1), (2, .bool v14), (3, .bool v15), (4, .bool v16), (6, mpE (AV.int .i64) (AV.int .i64) w8), (7, mpE (AV.int .i64) (AV.int .i64) w9), (8, .int .i64 (k1 : Int)), (10, .ptr (.agg [.int .i64 e20.f_Txn, .int .i64 e20.f_Kind, .int .i64 e20.f_Item])), (24, l3 (some 24) w13), (25, .int .i64 (w13.length : Int)), (26, .int .i64 (k1 : Int))]) (by kernel_rfl) ?_
      exact hK21 (v14, v15) h
    refine W.region (by kernel_rfl) ?_
    refine WO.boolK 3 (fun b => [(0, l44 none a1), (2, .bool v14), (3, .bool v15), (4, .bool v16), (6, mpE (AV.int .i64) (AV.int .i64) w8), (7, mpE (AV.int .i64) (AV.int .i64) w9), (8, .int .i64 (k1 : Int)), (9, .int .i64 x1), (10, .ptr (.agg [.int .i64 e20.f_Txn, .int .i64 e20.f_Kind, .int .i64 e20.f_Item])), (24, l3 (some 24) w13), (25, .int .i64 (w13.length : Int)), (26, .int .i64 (k1 : Int)), (35, .int .i64 x1), (36, .bool b), (37, .bool b)]) (decide (x1 > 0)) (by kernel_rfl) (fun hb => ?_) (fun hb => ?_)
    · replace h := cond_t hb h
      refine WO.fin [0, 2, 3, 4, 6, 7, 8, 9, 10, 24, 25, 26, 42] [] [] [] (e2 := [(0, l44 none a1), (2, .bool v14), (3, .bool v15), (4, .bool v16), (6, mpE (AV.int .i64) (AV.int .i64) w8), (7, mpE (AV.int .i64) (AV.int .i64) w9), (8, .int .i64 (k1 : Int)), (9, .int .i64 x1), (10, .ptr (.agg [.int .i64 e20.f_Txn, .int .i64 e20.f_Kind, .int .i64 e20.f_Item])), (24, l3 (some 24) w13), (25, .int .i64 (w13.length : Int)), (26, .int .i64 (k1 : Int)), (42, .bool (x1 != e20.f_Txn))]) (by kernel_rfl) (fun _ h => h) ?_
      exact hK22 (x1 != e20.f_Txn) h
    replace h := cond_f hb h
    refine WO.fin [0, 2, 3, 4, 6, 7, 8, 9, 10, 24, 25, 26, 42] [] [] [] (e2 := [(0, l44 none a1), (2, .bool v14), (3, .bool v15), (4, .bool v16), (6, mpE (AV.int .i64) (AV.int .i64) w8), (7, mpE (AV.int .i64) (AV.int .i64) w9), (8, .int .i64 (k1 : Int)), (9, .int .i64 x1), (10, .ptr (.agg [.int .i64 e20.f_Txn, .int .i64 e20.f_Kind, .int .i64 e20.f_Item])), (24, l3 (some 24) w13), (25, .int .i64 (w13.length : Int)), (26, .int .i64 (k1 : Int)), (42, .bool false)]) (by kernel_rfl) (fun _ h => h) ?_
    exact hK22 false h
def lw5_HistoryStrict_j6 (v14 : Bool) : Option Bool :=
  (some v14)
def lw5_HistoryStrict (fuel : Nat) (a1 : (List rf5Op)) : Option Bool :=
  ((lw5_of a1).bind fun w4 => ((hs_Recovery fuel w4).bind fun w5 => (bif (w5.2.2.2 == 0) then (bif (!w5.2.2.1) then (bif (!w5.2.1) then ((lw5_awake fuel).bind fun w7 => ((lw5_HistoryStrict_j6) w7)) else (bif w5.1 then ((lw5_awake fuel).bind fun w8 => ((lw5_HistoryStrict_j6) w8)) else ((lw5_HistoryStrict_j6) false))) else (bif w5.2.1 then (bif w5.1 then ((lw5_awake fuel).bind fun w9 => ((lw5_HistoryStrict_j6) w9)) else ((lw5_HistoryStrict_j6) false)) else ((lw5_HistoryStrict_j6) false))) else (bif (w5.2.2.2 == 2) then ((rf5_Valid a1).bind fun w10 => (bif (!w10) then (bif (!w5.2.2.1) then (bif (!w5.2.1) then ((lw5_awake fuel).bind fun w11 => ((lw5_HistoryStrict_j6) w11)) else (bif w5.1 then ((lw5_awake fuel).bind fun w12 => ((lw5_HistoryStrict_j6) w12)) else ((lw5_HistoryStrict_j6) false))) else (bif w5.2.1 then (bif w5.1 then ((lw5_awake fuel).bind fun w13 => ((lw5_HistoryStrict_j6) w13)) else ((lw5_HistoryStrict_j6) false)) else ((lw5_HistoryStrict_j6) false))) else ((lw5_HistoryStrict_j6) false))) else ((lw5_HistoryStrict_j6) false)))))
theorem run_lw5_HistoryStrict (fuel : Nat) (a1 : (List rf5Op)) (r : Bool) (h : lw5_HistoryStrict fuel a1 = some r) : Run Try.prog (.call 6 [l43 none a1] (.bool r)) := by
  refine call_of_W Try.func6 rfl (by kernel_rfl) (env0 := [(0, l43 none a1)]) (by kernel_rfl) ?_
  unfold lw5_HistoryStrict at h
  refine W.seq ?_
  refine W.regT [0] [] [] [] (e2 := [(0, l43 none a1)]) (by kernel_rfl) (by kernel_rfl) (fun _ h => h) ?_
  refine W.seq ?_
  refine W.region (by kernel_rfl) ?_
  obtain ⟨w4, hw4, h⟩ := bind_some h
  refine WO.callK 1 (F := 18) (l := [l43 none a1]) (C := []) (r := l44 (some 1) w4) (by kernel_rfl) (by kernel_rfl) (run_lw5_of a1 w4 hw4) (e1 := [(0, l43 none a1), (8, l43 none a1), (9, l44 (some 9) w4)]) (by kernel_rfl) ?_
  obtain ⟨w5, hw5, h⟩ := bind_some h
  refine WO.callK 0 (F := 28) (l := [l44 none w4]) (C := []) (r := .tup [.bool w5.1, .bool w5.2.1, .bool w5.2.2.1, .int .i64 w5.2.2.2]) (by kernel_rfl) (by kernel_rfl) (run_hs_Recovery fuel w4 w5 hw5) (e1 := [(0, l43 none a1), (8, l43 none a1), (9, l44 (some 9) w4), (10, .tup [.bool w5.1, .bool w5.2.1, .bool w5.2.2.1, .int .i64 w5.2.2.2])]) (by kernel_rfl) ?_
  refine WO.fin [0, 3, 4, 5, 6] [] [] [] (e2 := [(0, l43 none a1), (3, .bool w5.1), (4, .bool w5.2.1), (5, .bool w5.2.2.1), (6, .int .i64 w5.2.2.2)]) (by kernel_rfl) (fun _ h => h) ?_
  refine W.seq ?_
  refine W.join (σ := (Bool)) (fun s => [(2, .bool s)]) (fun s => (lw5_HistoryStrict_j6) s = some r) (fun s h => ?_) (fun hK6 => ?_)
  · obtain ⟨v14, rfl⟩ : ∃ x, x = s := ⟨s, rfl⟩
    have h : (lw5_HistoryStrict_j6) v14 = some r := h
    unfold lw5_HistoryStrict_j6 at h
    refine W.weak [2] [] [] [] (env' := [(2, .bool v14)]) (by kernel_rfl) ?_
    have hr : aresults Try.prog Try.f6 [(2, .bool v14)] = some (.bool v14) := by kernel_rfl
    cases h
    exact W.ret hr
  refine W.region (by kernel_rfl) ?_
  refine WO.boolK 3 (fun b => [(0, l43 none a1), (3, .bool w5.1), (4, .bool w5.2.1), (5, .bool w5.2.2.1), (6, .int .i64 w5.2.2.2), (15, .int .i64 w5.2.2.2), (16, .bool b), (17, .bool b)]) (w5.2.2.2 == 0) (by kernel_rfl) (fun hb => ?_) (fun hb => ?_)
  · replace h := cond_t hb h
    refine WO.boolK 12 (fun b => [(0, l43 none a1), (3, .bool w5.1), (4, .bool w5.2.1), (5, .bool w5.2.2.1), (6, .int .i64 w5.2.2.2), (15, .int .i64 w5.2.2.2), (16, .bool true), (17, .bool true), (18, .und), (19, .und), (20, .und), (21, .und), (22, .und), (23, .und), (24, .und), (25, .bool true), (26, .bool true), (27, .bool w5.2.2.1), (28, .bool b), (29, .bool b)]) (!w5.2.2.1) (by kernel_rfl) (fun hb => ?_) (fun hb => ?_)
    · replace h := cond_t hb h
      refine WO.boolK 7 (fun b => [(0, l43 none a1), (3, .bool w5.1), (4, .bool w5.2.1), (5, .bool w5.2.2.1), (6, .int .i64 w5.2.2.2), (15, .int .i64 w5.2.2.2), (16, .bool true), (17, .bool true), (18, .und), (19, .und), (20, .und), (21, .und), (22, .und), (23, .und), (24, .und), (25, .bool true), (26, .bool true), (27, .bool w5.2.2.1), (28, .bool true), (29, .bool true), (30, .und), (31, .bool true), (32, .bool true), (33, .bool true), (34, .bool w5.2.1), (35, .bool b), (36, .bool b)]) (!w5.2.1) (by kernel_rfl) (fun hb => ?_) (fun hb => ?_)
      · replace h := cond_t hb h
        obtain ⟨w7, hw7, h⟩ := bind_some h
        refine WO.callK 4 (F := 21) (l := []) (C := []) (r := .bool w7) (by kernel_rfl) (by kernel_rfl) (run_lw5_awake fuel w7 hw7) (e1 := [(0, l43 none a1), (3, .bool w5.1), (4, .bool w5.2.1), (5, .bool w5.2.2.1), (6, .int .i64 w5.2.2.2), (15, .int .i64 w5.2.2.2), (16, .bool true), (17, .bool true), (18, .und), (19, .und), (20, .und), (21, .und), (22, .und), (23, .und), (24, .und), (25, .bool true), (26, .bool true), (27, .bool w5.2.2.1), (28, .bool true), (29, .bool true), (30, .und), (31, .bool true), (32, .bool true), (33, .bool true), (34, .bool w5.2.1), (35, .bool true), (36, .bool true), (37, .und), (38, .bool true), (39, .bool true), (40, .bool true), (41, .bool w7)]) (by kernel_rfl) ?_
        refine WO.fin [2] [] [] [] (e2 := [(2, .bool w7)]) (by kernel_rfl) (fun _ h => h) ?_
        exact hK6 w7 h
      replace h := cond_f hb h
      refine WO.boolK 4 (fun b => [(0, l43 none a1), (3, .bool b), (4, .bool w5.2.1), (5, .bool w5.2.2.1), (6, .int .i64 w5.2.2.2), (15, .int .i64 w5.2.2.2), (16, .bool true), (17, .bool true), (18, .und), (19, .und), (20, .und), (21, .und), (22, .und), (23, .und), (24, .und), (25, .bool true), (26, .bool true), (27, .bool w5.2.2.1), (28, .bool true), (29, .bool true), (30, .und), (31, .bool true), (32, .bool true), (33, .bool true), (34, .bool w5.2.1), (35, .bool false), (36, .bool false), (37, .bool b), (38, .bool b), (39, .bool b), (40, .bool b)]) w5.1 (by kernel_rfl) (fun hb => ?_) (fun hb => ?_)
      · replace h := cond_t hb h
        obtain ⟨w8, hw8, h⟩ := bind_some h
        refine WO.callK 0 (F := 21) (l := []) (C := []) (r := .bool w8) (by kernel_rfl) (by kernel_rfl) (run_lw5_awake fuel w8 hw8) (e1 := [(0, l43 none a1), (3, .bool true), (4, .bool w5.2.1), (5, .bool w5.2.2.1), (6, .int .i64 w5.2.2.2), (15, .int .i64 w5.2.2.2), (16, .bool true), (17, .bool true), (18, .und), (19, .und), (20, .und), (21, .und), (22, .und), (23, .und), (24, .und), (25, .bool true), (26, .bool true), (27, .bool w5.2.2.1), (28, .bool true), (29, .bool true), (30, .und), (31, .bool true), (32, .bool true), (33, .bool true), (34, .bool w5.2.1), (35, .bool false), (36, .bool false), (37, .bool true), (38, .bool true), (39, .bool true), (40, .bool true), (41, .bool w8)]) (by kernel_rfl) ?_
        refine WO.fin [2] [] [] [] (e2 := [(2, .bool w8)]) (by kernel_rfl) (fun _ h => h) ?_
        exact hK6 w8 h
      replace h := cond_f hb h
      refine WO.fin [2] [] [] [] (e2 := [(2, .bool false)]) (by kernel_rfl) (fun _ h => h) ?_
      exact hK6 false h
    replace h := cond_f hb h
    refine WO.boolK 4 (fun b => [(0, l43 none a1), (3, .bool w5.1), (4, .bool b), (5, .bool w5.2.2.1), (6, .int .i64 w5.2.2.2), (15, .int .i64 w5.2.2.2), (16, .bool true), (17, .bool true), (18, .und), (19, .und), (20, .und), (21, .und), (22, .und), (23, .und), (24, .und), (25, .bool true), (26, .bool true), (27, .bool w5.2.2.1), (28, .bool false), (29, .bool false), (30, .bool b), (31, .bool b), (32, .bool b), (33, .bool b)]) w5.2.1 (by kernel_rfl) (fun hb => ?_) (fun hb => ?_)
    · replace h := cond_t hb h
      refine WO.boolK 7 (fun b => [(0, l43 none a1), (3, .bool b), (4, .bool true), (5, .bool w5.2.2.1), (6, .int .i64 w5.2.2.2), (15, .int .i64 w5.2.2.2), (16, .bool true), (17, .bool true), (18, .und), (19, .und), (20, .und), (21, .und), (22, .und), (23, .und), (24, .und), (25, .bool true), (26, .bool true), (27, .bool w5.2.2.1), (28, .bool false), (29, .bool false), (30, .bool true), (31, .bool true), (32, .bool true), (33, .bool true), (34, .bool true), (35, .bool false), (36, .bool false), (37, .bool b), (38, .bool b), (39, .bool b), (40, .bool b)]) w5.1 (by kernel_rfl) (fun hb => ?_) (fun hb => ?_)
      · replace h := cond_t hb h
        obtain ⟨w9, hw9, h⟩ := bind_some h
        refine WO.callK 0 (F := 21) (l := []) (C := []) (r := .bool w9) (by kernel_rfl) (by kernel_rfl) (run_lw5_awake fuel w9 hw9) (e1 := [(0, l43 none a1), (3, .bool true), (4, .bool true), (5, .bool w5.2.2.1), (6, .int .i64 w5.2.2.2), (15, .int .i64 w5.2.2.2), (16, .bool true), (17, .bool true), (18, .und), (19, .und), (20, .und), (21, .und), (22, .und), (23, .und), (24, .und), (25, .bool true), (26, .bool true), (27, .bool w5.2.2.1), (28, .bool false), (29, .bool false), (30, .bool true), (31, .bool true), (32, .bool true), (33, .bool true), (34, .bool true), (35, .bool false), (36, .bool false), (37, .bool true), (38, .bool true), (39, .bool true), (40, .bool true), (41, .bool w9)]) (by kernel_rfl) ?_
        refine WO.fin [2] [] [] [] (e2 := [(2, .bool w9)]) (by kernel_rfl) (fun _ h => h) ?_
        exact hK6 w9 h
      replace h := cond_f hb h
      refine WO.fin [2] [] [] [] (e2 := [(2, .bool false)]) (by kernel_rfl) (fun _ h => h) ?_
      exact hK6 false h
    replace h := cond_f hb h
    refine WO.fin [2] [] [] [] (e2 := [(2, .bool false)]) (by kernel_rfl) (fun _ h => h) ?_
    exact hK6 false h
  replace h := cond_f hb h
  refine WO.boolK 3 (fun b => [(0, l43 none a1), (3, .bool w5.1), (4, .bool w5.2.1), (5, .bool w5.2.2.1), (6, .int .i64 w5.2.2.2), (15, .int .i64 w5.2.2.2), (16, .bool false), (17, .bool false), (18, .int .i64 w5.2.2.2), (19, .bool b), (20, .bool b)]) (w5.2.2.2 == 2) (by kernel_rfl) (fun hb => ?_) (fun hb => ?_)
  · replace h := cond_t hb h
    obtain ⟨w10, hw10, h⟩ := bind_some h
    refine WO.callK 1 (F := 20) (l := [l43 none a1]) (C := []) (r := .bool w10) (by kernel_rfl) (by kernel_rfl) (run_rf5_Valid a1 w10 hw10) (e1 := [(0, l43 none a1), (3, .bool w5.1), (4, .bool w5.2.1), (5, .bool w5.2.2.1), (6, .int .i64 w5.2.2.2), (15, .int .i64 w5.2.2.2), (16, .bool false), (17, .bool false), (18, .int .i64 w5.2.2.2), (19, .bool true), (20, .bool true), (21, l43 none a1), (22, .bool w10)]) (by kernel_rfl) ?_
    refine WO.boolK 4 (fun b => [(0, l43 none a1), (3, .bool w5.1), (4, .bool w5.2.1), (5, .bool w5.2.2.1), (6, .int .i64 w5.2.2.2), (15, .int .i64 w5.2.2.2), (16, .bool false), (17, .bool false), (18, .int .i64 w5.2.2.2), (19, .bool true), (20, .bool true), (21, l43 none a1), (22, .bool w10), (23, .bool b), (24, .bool b), (25, .bool b), (26, .bool b)]) (!w10) (by kernel_rfl) (fun hb => ?_) (fun hb => ?_)
    · replace h := cond_t hb h
      refine WO.boolK 3 (fun b => [(0, l43 none a1), (3, .bool w5.1), (4, .bool w5.2.1), (5, .bool w5.2.2.1), (6, .int .i64 w5.2.2.2), (15, .int .i64 w5.2.2.2), (16, .bool false), (17, .bool false), (18, .int .i64 w5.2.2.2), (19, .bool true), (20, .bool true), (21, l43 none a1), (22, .bool w10), (23, .bool true), (24, .bool true), (25, .bool true), (26, .bool true), (27, .bool w5.2.2.1), (28, .bool b), (29, .bool b)]) (!w5.2.2.1) (by kernel_rfl) (fun hb => ?_) (fun hb => ?_)
      · replace h := cond_t hb h
        refine WO.boolK 7 (fun b => [(0, l43 none a1), (3, .bool w5.1), (4, .bool w5.2.1), (5, .bool w5.2.2.1), (6, .int .i64 w5.2.2.2), (15, .int .i64 w5.2.2.2), (16, .bool false), (17, .bool false), (18, .int .i64 w5.2.2.2), (19, .bool true), (20, .bool true), (21, l43 none a1), (22, .bool w10), (23, .bool true), (24, .bool true), (25, .bool true), (26, .bool true), (27, .bool w5.2.2.1), (28, .bool true), (29, .bool true), (30, .und), (31, .bool true), (32, .bool true), (33, .bool true), (34, .bool w5.2.1), (35, .bool b), (36, .bool b)]) (!w5.2.1) (by kernel_rfl) (fun hb => ?_) (fun hb => ?_)
        · replace h := cond_t hb h
          obtain ⟨w11, hw11, h⟩ := bind_some h
          refine WO.callK 4 (F := 21) (l := []) (C := []) (r := .bool w11) (by kernel_rfl) (by kernel_rfl) (run_lw5_awake fuel w11 hw11) (e1 := [(0, l43 none a1), (3, .bool w5.1), (4, .bool w5.2.1), (5, .bool w5.2.2.1), (6, .int .i64 w5.2.2.2), (15, .int .i64 w5.2.2.2), (16, .bool false), (17, .bool false), (18, .int .i64 w5.2.2.2), (19, .bool true), (20, .bool true), (21, l43 none a1), (22, .bool w10), (23, .bool true), (24, .bool true), (25, .bool true), (26, .bool true), (27, .bool w5.2.2.1), (28, .bool true), (29, .bool true), (30, .und), (31, .bool true), (32, .bool true), (33, .bool true), (34, .bool w5.2.1), (35, .bool true), (36, .bool true), (37, .und), (38, .bool true), (39, .bool true), (40, .bool true), (41, .bool w11)]) (by kernel_rfl) ?_
          refine WO.fin [2] [] [] [] (e2 := [(2, .bool w11)]) (by kernel_rfl) (fun _ h => h) ?_
          exact hK6 w11 h
        replace h := cond_f hb h
        refine WO.boolK 4 (fun b => [(0, l43 none a1), (3, .bool b), (4, .bool w5.2.1), (5, .bool w5.2.2.1), (6, .int .i64 w5.2.2.2), (15, .int .i64 w5.2.2.2), (16, .bool false), (17, .bool false), (18, .int .i64 w5.2.2.2), (19, .bool true), (20, .bool true), (21, l43 none a1), (22, .bool w10), (23, .bool true), (24, .bool true), (25, .bool true), (26, .bool true), (27, .bool w5.2.2.1), (28, .bool true), (29, .bool true), (30, .und), (31, .bool true), (32, .bool true), (33, .bool true), (34, .bool w5.2.1), (35, .bool false), (36, .bool false), (37, .bool b), (38, .bool b), (39, .bool b), (40, .bool b)]) w5.1 (by kernel_rfl) (fun hb => ?_) (fun hb => ?_)
        · replace h := cond_t hb h
          obtain ⟨w12, hw12, h⟩ := bind_some h
          refine WO.callK 0 (F := 21) (l := []) (C := []) (r := .bool w12) (by kernel_rfl) (by kernel_rfl) (run_lw5_awake fuel w12 hw12) (e1 := [(0, l43 none a1), (3, .bool true), (4, .bool w5.2.1), (5, .bool w5.2.2.1), (6, .int .i64 w5.2.2.2), (15, .int .i64 w5.2.2.2), (16, .bool false), (17, .bool false), (18, .int .i64 w5.2.2.2), (19, .bool true), (20, .bool true), (21, l43 none a1), (22, .bool w10), (23, .bool true), (24, .bool true), (25, .bool true), (26, .bool true), (27, .bool w5.2.2.1), (28, .bool true), (29, .bool true), (30, .und), (31, .bool true), (32, .bool true), (33, .bool true), (34, .bool w5.2.1), (35, .bool false), (36, .bool false), (37, .bool true), (38, .bool true), (39, .bool true), (40, .bool true), (41, .bool w12)]) (by kernel_rfl) ?_
          refine WO.fin [2] [] [] [] (e2 := [(2, .bool w12)]) (by kernel_rfl) (fun _ h => h) ?_
          exact hK6 w12 h
        replace h := cond_f hb h
        refine WO.fin [2] [] [] [] (e2 := [(2, .bool false)]) (by kernel_rfl) (fun _ h => h) ?_
        exact hK6 false h
      replace h := cond_f hb h
      refine WO.boolK 4 (fun b => [(0, l43 none a1), (3, .bool w5.1), (4, .bool b), (5, .bool w5.2.2.1), (6, .int .i64 w5.2.2.2), (15, .int .i64 w5.2.2.2), (16, .bool false), (17, .bool false), (18, .int .i64 w5.2.2.2), (19, .bool true), (20, .bool true), (21, l43 none a1), (22, .bool w10), (23, .bool true), (24, .bool true), (25, .bool true), (26, .bool true), (27, .bool w5.2.2.1), (28, .bool false), (29, .bool false), (30, .bool b), (31, .bool b), (32, .bool b), (33, .bool b)]) w5.2.1 (by kernel_rfl) (fun hb => ?_) (fun hb => ?_)
      · replace h := cond_t hb h
        refine WO.boolK 7 (fun b => [(0, l43 none a1), (3, .bool b), (4, .bool true), (5, .bool w5.2.2.1), (6, .int .i64 w5.2.2.2), (15, .int .i64 w5.2.2.2), (16, .bool false), (17, .bool false), (18, .int .i64 w5.2.2.2), (19, .bool true), (20, .bool true), (21, l43 none a1), (22, .bool w10), (23, .bool true), (24, .bool true), (25, .bool true), (26, .bool true), (27, .bool w5.2.2.1), (28, .bool false), (29, .bool false), (30, .bool true), (31, .bool true), (32, .bool true), (33, .bool true), (34, .bool true), (35, .bool false), (36, .bool false), (37, .bool b), (38, .bool b), (39, .bool b), (40, .bool b)]) w5.1 (by kernel_rfl) (fun hb => ?_) (fun hb => ?_)
        · replace h := cond_t hb h
          obtain ⟨w13, hw13, h⟩ := bind_some h
          refine WO.callK 0 (F := 21) (l := []) (C := []) (r := .bool w13) (by kernel_rfl) (by kernel_rfl) (run_lw5_awake fuel w13 hw13) (e1 := [(0, l43 none a1), (3, .bool true), (4, .bool true), (5, .bool w5.2.2.1), (6, .int .i64 w5.2.2.2), (15, .int .i64 w5.2.2.2), (16, .bool false), (17, .bool false), (18, .int .i64 w5.2.2.2), (19, .bool true), (20, .bool true), (21, l43 none a1), (22, .bool w10), (23, .bool true), (24, .bool true), (25, .bool true), (26, .bool true), (27, .bool w5.2.2.1), (28, .bool false), (29, .bool false), (30, .bool true), (31, .bool true), (32, .bool true), (33, .bool true), (34, .bool true), (35, .bool false), (36, .bool false), (37, .bool true), (38, .bool true), (39, .bool true), (40, .bool true), (41, .bool w13)]) (by kernel_rfl) ?_
          refine WO.fin [2] [] [] [] (e2 := [(2, .bool w13)]) (by kernel_rfl) (fun _ h => h) ?_
          exact hK6 w13 h
        replace h := cond_f hb h
        refine WO.fin [2] [] [] [] (e2 := [(2, .bool false)]) (by kernel_rfl) (fun _ h => h) ?_
        exact hK6 false h
      replace h := cond_f hb h
      refine WO.fin [2] [] [] [] (e2 := [(2, .bool false)]) (by kernel_rfl) (fun _ h => h) ?_
      exact hK6 false h
    replace h := cond_f hb h
    refine WO.fin [2] [] [] [] (e2 := [(2, .bool false)]) (by kernel_rfl) (fun _ h => h) ?_
    exact hK6 false h
  replace h := cond_f hb h
  refine WO.fin [2] [] [] [] (e2 := [(2, .bool false)]) (by kernel_rfl) (fun _ h => h) ?_
  exact hK6 false h

end Go.AM
