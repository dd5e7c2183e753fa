/- PRINTED by gen.py: pure functions and the proofs that the code computes them. No statement of the seat is proved here. -/
import Derived.Test.YtombfedoinhafaaK188
set_option maxRecDepth 100000
set_option linter.unusedVariables false
set_option linter.unusedSimpArgs false
namespace Go.AM
open Go.Proofs
def rf1_Table_j10 (v11 : Bool) : Option Bool :=
  (some v11)
def rf1_Table_j4 (a1 : Int) (a2 : (List (List Int))) : Option Bool :=
  (bif (decide (a1 ≥ 1)) then (bif (decide (a1 ≤ 8)) then ((rf1_Table_j10) (decide ((a2.length : Int) ≤ 60))) else ((rf1_Table_j10) false)) else ((rf1_Table_j10) false))
def rf1_Table_l1 (a1 : Int) (K4 : (Option Bool)) : List (List Int) → Nat → Option Bool
  | [], k1 => K4
  | x1 :: r1, k1 => (bif ((x1.length : Int) != a1) then (some false) else (rf1_Table_l1 a1 K4 r1 (k1 + 1)))
def rf1_Table (a1 : Int) (a2 : (List (List Int))) : Option Bool :=
  (chk (lenOk a2) (rf1_Table_l1 a1 (rf1_Table_j4 a1 a2) a2 0))
theorem run_rf1_Table (a1 : Int) (a2 : (List (List Int))) (r : Bool) (h : rf1_Table a1 a2 = some r) : Run Try.prog (.call 40 [I6 a1, l35 none a2] (.bool r)) := by
  refine call_of_W Try.func40 rfl (by kernel_rfl) (env0 := [(0, I6 a1), (1, l35 none a2)]) (by kernel_rfl) ?_
  unfold rf1_Table at h
  refine W.seq ?_
  refine W.regT [0, 1] [] [] [] (e2 := [(0, I6 a1), (1, l35 none a2)]) (by kernel_rfl) (by kernel_rfl) (fun _ h => h) ?_
  refine W.seq ?_
  refine W.join (σ := Unit) (fun s => [(0, I6 a1), (1, l35 none a2)]) (fun s => (rf1_Table_j4 a1 a2) = some r) (fun s h => ?_) (fun hK4 => ?_)
  · have h : (rf1_Table_j4 a1 a2) = some r := h
    unfold rf1_Table_j4 at h
    refine W.seq ?_
    refine W.join (σ := (Bool)) (fun s => [(4, .bool s)]) (fun s => (rf1_Table_j10) s = some r) (fun s h => ?_) (fun hK10 => ?_)
    · obtain ⟨v11, rfl⟩ : ∃ x, x = s := ⟨s, rfl⟩
      have h : (rf1_Table_j10) v11 = some r := h
      unfold rf1_Table_j10 at h
      refine W.weak [4] [] [] [] (env' := [(4, .bool v11)]) (by kernel_rfl) ?_
      have hr : aresults Try.prog Try.f40 [(4, .bool v11)] = some (.bool v11) := by kernel_rfl
      cases h
      exact W.ret hr
    refine W.region (by kernel_rfl) ?_
    refine WO.boolK 3 (fun b => [(0, I6 a1), (1, l35 none a2), (18, I6 a1), (19, .bool b), (20, .bool b)]) (decide (a1 ≥ 1)) (by kernel_rfl) (fun hb => ?_) (fun hb => ?_)
    · replace h := cond_t hb h
      refine WO.boolK 4 (fun b => [(0, I6 a1), (1, l35 none a2), (18, I6 a1), (19, .bool true), (20, .bool true), (21, I6 a1), (22, .bool b), (23, .bool b), (24, .bool b)]) (decide (a1 ≤ 8)) (by kernel_rfl) (fun hb => ?_) (fun hb => ?_)
      · replace h := cond_t hb h
        refine WO.pureK 1 (some (I6 ((List.map (encL 3 1 (AV.int .i64)) a2).length : Int))) (v := I6 (a2.length : Int)) (by kernel_rfl) (by rw [List.length_map]) (e1 := [(0, I6 a1), (1, l35 none a2), (18, I6 a1), (19, .bool true), (20, .bool true), (21, I6 a1), (22, .bool true), (23, .bool true), (24, .bool true), (25, l35 none a2), (26, I6 (a2.length : Int))]) (by kernel_rfl) ?_
        refine WO.fin [4] [] [] [] (e2 := [(4, .bool (decide ((a2.length : Int) ≤ 60)))]) (by kernel_rfl) (fun _ h => h) ?_
        exact hK10 (decide ((a2.length : Int) ≤ 60)) h
      replace h := cond_f hb h
      refine WO.fin [4] [] [] [] (e2 := [(4, .bool false)]) (by kernel_rfl) (fun _ h => h) ?_
      exact hK10 false h
    replace h := cond_f hb h
    refine WO.fin [4] [] [] [] (e2 := [(4, .bool false)]) (by kernel_rfl) (fun _ h => h) ?_
    exact hK10 false h
  refine W.seq ?_
  refine W.region (by kernel_rfl) ?_
  refine WO.pureK 1 (some (I6 ((List.map (encL 3 1 (AV.int .i64)) a2).length : Int))) (v := I6 (a2.length : Int)) (by kernel_rfl) (by rw [List.length_map]) (e1 := [(0, I6 a1), (1, l35 none a2), (7, l35 none a2), (8, I6 (a2.length : Int))]) (by kernel_rfl) ?_
  refine WO.fin [0, 1, 7, 8, 9] [] [] [] (e2 := [(0, I6 a1), (1, l35 none a2), (7, l35 none a2), (8, I6 (a2.length : Int)), (9, .int .i64 0)]) (by kernel_rfl) (fun _ h => h) ?_
  refine W.block ?_
  obtain ⟨hl1, h⟩ := chk_some h
  refine W.weak [0, 1, 7, 8, 9] [] [] [] (env' := [(0, I6 a1), (1, l35 none a2), (7, l35 none a2), (8, I6 (a2.length : Int)), (9, I6 ((0 : Nat) : Int))]) (by kernel_rfl) ?_
  refine W.range (σ := Unit) a2 (fun k1 s => [(0, I6 a1), (1, l35 none a2), (7, l35 none a2), (8, I6 (a2.length : Int)), (9, I6 (k1 : Int))]) (fun r0 k0 s => rf1_Table_l1 a1 (rf1_Table_j4 a1 a2) r0 k0 = some r) (fun s h => ?_) (fun x1 r1 k1 s hx1 hk1 h hN1 => ?_) () h
  · have h : rf1_Table_l1 a1 (rf1_Table_j4 a1 a2) [] (a2).length = some r := h
    rw [rf1_Table_l1.eq_1] at h
    refine W.seq ?_
    refine W.region (by kernel_rfl) ?_
    refine WO.pureK 0 (some (.bool (decide (((a2).length : Int) < (a2.length : Int))))) (v := .bool false) (by kernel_rfl) (by rw [lt_false (l := a2)]) (e1 := [(0, I6 a1), (1, l35 none a2), (7, l35 none a2), (8, I6 (a2.length : Int)), (9, I6 ((a2).length : Int)), (10, .bool false)]) (by kernel_rfl) ?_
    refine WO.fin ([0, 1, 7, 8, 9, 10]) [] [] [] (e2 := [(0, I6 a1), (1, l35 none a2), (7, l35 none a2), (8, I6 (a2.length : Int)), (9, I6 ((a2).length : Int)), (10, .bool false)]) (by kernel_rfl) (fun _ h => h) ?_
    refine W.seq ?_
    refine W.condB false (by kernel_rfl) (fun h => Bool.noConfusion h) (fun _ => ?_)
    refine W.exit ?_
    refine W.weak [0, 1] [] [] [] (env' := [(0, I6 a1), (1, l35 none a2)]) (by kernel_rfl) ?_
    exact hK4 () h
  · have h : rf1_Table_l1 a1 (rf1_Table_j4 a1 a2) (x1 :: r1) k1 = some r := h
    rw [rf1_Table_l1.eq_2] at h
    refine W.seq ?_
    refine W.region (by kernel_rfl) ?_
    refine WO.pureK 0 (some (.bool (decide ((k1 : Int) < (a2.length : Int))))) (v := .bool true) (by kernel_rfl) (by rw [lt_true hk1]) (e1 := [(0, I6 a1), (1, l35 none a2), (7, l35 none a2), (8, I6 (a2.length : Int)), (9, I6 (k1 : Int)), (10, .bool true)]) (by kernel_rfl) ?_
    refine WO.fin ([0, 1, 7, 8, 9, 10]) [] [] [] (e2 := [(0, I6 a1), (1, l35 none a2), (7, l35 none a2), (8, I6 (a2.length : Int)), (9, I6 (k1 : Int)), (10, .bool true)]) (by kernel_rfl) (fun _ h => h) ?_
    refine W.seq ?_
    refine W.condB true (by kernel_rfl) (fun _ => ?_) (fun h => Bool.noConfusion h)
    refine W.skip ?_
    refine W.weak [0, 1, 7, 8, 9] [] [] [] (env' := [(0, I6 a1), (1, l35 none a2), (7, l35 none a2), (8, I6 (a2.length : Int)), (9, I6 (k1 : Int))]) (by kernel_rfl) ?_
    refine W.seq ?_
    refine W.block ?_
    refine W.seq ?_
    refine W.region (by kernel_rfl) ?_
    refine WO.pureK 0 (if (0 : Int) ≤ (k1 : Int) then ((List.map (encL 3 1 (AV.int .i64)) a2)[Int.toNat (k1 : Int)]?).map AV.ptr else none) (v := .ptr (l3 none x1)) (by kernel_rfl) (idx_nat (f := (encL 3 1 (AV.int .i64))) hx1) (e1 := [(0, I6 a1), (1, l35 none a2), (7, l35 none a2), (8, I6 (a2.length : Int)), (9, I6 (k1 : Int)), (11, .ptr (l3 none x1))]) (by kernel_rfl) ?_
    refine WO.fin [0, 1, 6, 7, 8, 9] [] [] [] (e2 := [(0, I6 a1), (1, l35 none a2), (6, l3 none x1), (7, l35 none a2), (8, I6 (a2.length : Int)), (9, I6 (k1 : Int))]) (by kernel_rfl) (fun _ h => h) ?_
    refine W.seq ?_
    refine W.region (by kernel_rfl) ?_
    refine WO.pureK 1 (some (I6 ((List.map (AV.int .i64) x1).length : Int))) (v := I6 (x1.length : Int)) (by kernel_rfl) (by rw [List.length_map]) (e1 := [(0, I6 a1), (1, l35 none a2), (6, l3 none x1), (7, l35 none a2), (8, I6 (a2.length : Int)), (9, I6 (k1 : Int)), (13, l3 none x1), (14, I6 (x1.length : Int))]) (by kernel_rfl) ?_
    refine WO.fin [0, 1, 7, 8, 9, 16] [] [] [] (e2 := [(0, I6 a1), (1, l35 none a2), (7, l35 none a2), (8, I6 (a2.length : Int)), (9, I6 (k1 : Int)), (16, .bool ((x1.length : Int) != a1))]) (by kernel_rfl) (fun _ h => h) ?_
    refine W.condB ((x1.length : Int) != a1) (by kernel_rfl) (fun hb => ?_) (fun hb => ?_)
    · replace h := cond_t hb h
      refine W.seq ?_
      refine W.regT [4] [] [] [] (e2 := [(4, .bool false)]) (by kernel_rfl) (by kernel_rfl) (fun _ h => h) ?_
      refine W.weak [4] [] [] [] (env' := [(4, .bool false)]) (by kernel_rfl) ?_
      have hr : aresults Try.prog Try.f40 [(4, .bool false)] = some (.bool false) := by kernel_rfl
      cases h
      exact W.ret hr
    replace h := cond_f hb h
    refine W.skip ?_
    refine W.weak [0, 1, 7, 8, 9] [] [] [] (env' := [(0, I6 a1), (1, l35 none a2), (7, l35 none a2), (8, I6 (a2.length : Int)), (9, I6 (k1 : Int))]) (by kernel_rfl) ?_
    refine W.region (by kernel_rfl) ?_
    refine WO.pureK 0 (some (I6 (IntKind.wrap .i64 ((k1 : Int) + 1)))) (v := I6 ((k1 + 1 : Nat) : Int)) (by kernel_rfl) (by rw [wrap_succ hl1 hk1]) (e1 := [(0, I6 a1), (1, l35 none a2), (7, l35 none a2), (8, I6 (a2.length : Int)), (9, I6 (k1 : Int)), (17, I6 ((k1 + 1 : Nat) : Int))]) (by kernel_rfl) ?_
    refine WO.fin [0, 1, 7, 8, 9] [] [] [] (e2 := [(0, I6 a1), (1, l35 none a2), (7, l35 none a2), (8, I6 (a2.length : Int)), (9, I6 ((k1 + 1 : Nat) : Int))]) (by kernel_rfl) (fun _ h => h) ?_
    exact hN1 () h
def dp_valid_1 (a1 : dpDep) (c2 : Int) : Option Bool :=
  ((dp_sets c2 [a1.f_From, a1.f_To]).bind fun w5 => (some (!w5)))
theorem run_dp_valid_1 (a1 : dpDep) (c2 : Int) (r : Bool) (h : dp_valid_1 a1 c2 = some r) : Run Try.prog (.call 75 [.agg [I6 a1.f_From, I6 a1.f_To], .ptr (I6 c2)] (.bool r)) := by
  refine call_of_W Try.func75 rfl (by kernel_rfl) (env0 := [(0, .agg [I6 a1.f_From, I6 a1.f_To]), (1, .ptr (I6 c2))]) (by kernel_rfl) ?_
  unfold dp_valid_1 at h
  refine W.seq ?_
  refine W.regT [1, 2] [2] [] [] (e2 := [(1, .ptr (I6 c2)), (2, .ptr (.agg [I6 a1.f_From, I6 a1.f_To]))]) (by kernel_rfl) (by kernel_rfl) (fun _ h => h) ?_
  refine W.seq ?_
  refine W.region (by kernel_rfl) ?_
  obtain ⟨w5, hw5, h⟩ := bind_some h
  refine WO.callK 6 (F := 58) (l := [I6 c2, l3 none [a1.f_From, a1.f_To]]) (C := []) (r := .bool w5) (by kernel_rfl) (by kernel_rfl) (run_dp_sets c2 [a1.f_From, a1.f_To] w5 hw5) (e1 := [(1, .ptr (I6 c2)), (2, .ptr (.agg [I6 a1.f_From, I6 a1.f_To])), (4, I6 c2), (5, .ptr (I6 a1.f_From)), (6, I6 a1.f_From), (7, .ptr (I6 a1.f_To)), (8, I6 a1.f_To), (9, l3 (some 9) [a1.f_From, a1.f_To]), (10, .bool w5)]) (by kernel_rfl) ?_
  refine WO.fin [3] [] [] [] (e2 := [(3, .bool (!w5))]) (by kernel_rfl) (fun _ h => h) ?_
  refine W.weak [3] [] [] [] (env' := [(3, .bool (!w5))]) (by kernel_rfl) ?_
  have hr : aresults Try.prog Try.f75 [(3, .bool (!w5))] = some (.bool (!w5)) := by kernel_rfl
  cases h
  exact W.ret hr
def dp_valid_j5 (a1 : Int) (a2 : (List dpDep)) (v6 : Bool) : Option Bool :=
  (bif v6 then (some false) else ((sl_ContainsFunc_dpDep a2 (fun y0 => dp_valid_1 y0 a1)).bind fun w9 => (some (!w9))))
def dp_valid (a1 : Int) (a2 : (List dpDep)) : Option Bool :=
  (bif (decide (a1 < 1)) then ((dp_valid_j5 a1 a2) true) else (bif (decide (a1 > 8)) then ((dp_valid_j5 a1 a2) true) else ((dp_valid_j5 a1 a2) (decide ((a2.length : Int) > 12)))))
theorem run_dp_valid (a1 : Int) (a2 : (List dpDep)) (r : Bool) (h : dp_valid a1 a2 = some r) : Run Try.prog (.call 57 [I6 a1, l33 none a2] (.bool r)) := by
  refine call_of_W Try.func57 rfl (by kernel_rfl) (env0 := [(0, I6 a1), (1, l33 none a2)]) (by kernel_rfl) ?_
  unfold dp_valid at h
  refine W.seq ?_
  refine W.regT [1, 2] [2] [] [] (e2 := [(1, l33 none a2), (2, .ptr (I6 a1))]) (by kernel_rfl) (by kernel_rfl) (fun _ h => h) ?_
  refine W.seq ?_
  refine W.seq ?_
  refine W.join (σ := (Bool)) (fun s => [(1, l33 none a2), (2, .ptr (I6 a1)), (15, .bool s)]) (fun s => (dp_valid_j5 a1 a2) s = some r) (fun s h => ?_) (fun hK5 => ?_)
  · obtain ⟨v6, rfl⟩ : ∃ x, x = s := ⟨s, rfl⟩
    have h : (dp_valid_j5 a1 a2) v6 = some r := h
    unfold dp_valid_j5 at h
    refine W.condB v6 (by kernel_rfl) (fun hb => ?_) (fun hb => ?_)
    · replace h := cond_t hb h
      refine W.seq ?_
      refine W.regT [4] [] [] [] (e2 := [(4, .bool false)]) (by kernel_rfl) (by kernel_rfl) (fun _ h => h) ?_
      refine W.weak [4] [] [] [] (env' := [(4, .bool false)]) (by kernel_rfl) ?_
      have hr : aresults Try.prog Try.f57 [(4, .bool false)] = some (.bool false) := by kernel_rfl
      cases h
      exact W.ret hr
    replace h := cond_f hb h
    refine W.skip ?_
    refine W.weak [1, 2] [] [] [] (env' := [(1, l33 none a2), (2, .ptr (I6 a1))]) (by kernel_rfl) ?_
    refine W.seq ?_
    refine W.region (by kernel_rfl) ?_
    obtain ⟨w9, hw9, h⟩ := bind_some h
    refine WO.callK 2 (F := 74) (l := [l33 none a2, .clo 75 [.ptr (I6 a1)]]) (C := []) (r := .bool w9) (by kernel_rfl) (by kernel_rfl) (run_sl_ContainsFunc_dpDep a2 (fun y0 => dp_valid_1 y0 a1) 75 [.ptr (I6 a1)] (by kernel_rfl) (fun y0 r h => run_dp_valid_1 y0 a1 r h) w9 hw9) (e1 := [(1, l33 none a2), (2, .ptr (I6 a1)), (16, l33 none a2), (17, .clo 75 [.ptr (I6 a1)]), (18, .bool w9)]) (by kernel_rfl) ?_
    refine WO.fin [4] [] [] [] (e2 := [(4, .bool (!w9))]) (by kernel_rfl) (fun _ h => h) ?_
    refine W.weak [4] [] [] [] (env' := [(4, .bool (!w9))]) (by kernel_rfl) ?_
    have hr : aresults Try.prog Try.f57 [(4, .bool (!w9))] = some (.bool (!w9)) := by kernel_rfl
    cases h
    exact W.ret hr
  refine W.region (by kernel_rfl) ?_
  refine WO.boolK 3 (fun b => [(1, l33 none a2), (2, .ptr (I6 a1)), (5, I6 a1), (6, .bool b), (7, .bool b)]) (decide (a1 < 1)) (by kernel_rfl) (fun hb => ?_) (fun hb => ?_)
  · replace h := cond_t hb h
    refine WO.fin [1, 2, 15] [] [] [] (e2 := [(1, l33 none a2), (2, .ptr (I6 a1)), (15, .bool true)]) (by kernel_rfl) (fun _ h => h) ?_
    exact hK5 true h
  replace h := cond_f hb h
  refine WO.boolK 4 (fun b => [(1, l33 none a2), (2, .ptr (I6 a1)), (5, I6 a1), (6, .bool false), (7, .bool false), (8, I6 a1), (9, .bool b), (10, .bool b), (11, .bool b)]) (decide (a1 > 8)) (by kernel_rfl) (fun hb => ?_) (fun hb => ?_)
  · replace h := cond_t hb h
    refine WO.fin [1, 2, 15] [] [] [] (e2 := [(1, l33 none a2), (2, .ptr (I6 a1)), (15, .bool true)]) (by kernel_rfl) (fun _ h => h) ?_
    exact hK5 true h
  replace h := cond_f hb h
  refine WO.pureK 1 (some (I6 ((List.map e_dpDep a2).length : Int))) (v := I6 (a2.length : Int)) (by kernel_rfl) (by rw [List.length_map]) (e1 := [(1, l33 none a2), (2, .ptr (I6 a1)), (5, I6 a1), (6, .bool false), (7, .bool false), (8, I6 a1), (9, .bool false), (10, .bool false), (11, .bool false), (12, l33 none a2), (13, I6 (a2.length : Int))]) (by kernel_rfl) ?_
  refine WO.fin [1, 2, 15] [] [] [] (e2 := [(1, l33 none a2), (2, .ptr (I6 a1)), (15, .bool (decide ((a2.length : Int) > 12)))]) (by kernel_rfl) (fun _ h => h) ?_
  exact hK5 (decide ((a2.length : Int) > 12)) h
def dp_closure (a1 : (List dpDep)) : Option ((List dpDep)) :=
  (some a1)
theorem run_dp_closure (a1 : (List dpDep)) (r : ((List dpDep))) (h : dp_closure a1 = some r) : Run Try.prog (.call 59 [l33 none a1] (.clo 77 [.ptr (l33 none r)])) := by
  refine call_of_W Try.func59 rfl (by kernel_rfl) (env0 := [(0, l33 none a1)]) (by kernel_rfl) ?_
  unfold dp_closure at h
  refine W.seq ?_
  refine W.regT [1] [1] [] [] (e2 := [(1, .ptr (l33 none a1))]) (by kernel_rfl) (by kernel_rfl) (fun _ h => h) ?_
  refine W.seq ?_
  refine W.regT [2] [] [] [] (e2 := [(2, .clo 77 [.ptr (l33 none a1)])]) (by kernel_rfl) (by kernel_rfl) (fun _ h => h) ?_
  refine W.weak [2] [] [] [] (env' := [(2, .clo 77 [.ptr (l33 none a1)])]) (by kernel_rfl) ?_
  have hr : aresults Try.prog Try.f59 [(2, .clo 77 [.ptr (l33 none a1)])] = some (.clo 77 [.ptr (l33 none a1)]) := by kernel_rfl
  cases h
  exact W.ret hr
def dp_closure_1_j4 (v21 : Int) : Option Int :=
  (some v21)
def dp_closure_1_j14 (N2 : (Int → Bool → Option Int)) (v19 : Int) (v20 : Bool) : Option Int :=
  (N2 v19 v20)
def dp_closure_1_j16 (x2 : dpDep) (v12 : Int) (v13 : Bool) (K14 : (Int → Bool → Option Int)) (v17 : Bool) : Option Int :=
  (bif v17 then (K14 (iOr .i64 v12 x2.f_To) true) else (K14 v12 v13))
def dp_closure_1_l2 (N1 : (Int → Bool → Option Int)) : List dpDep → Nat → Int → Bool → Option Int
  | [], k2, v12, v13 => (N1 v12 v13)
  | x2 :: r2, k2, v12, v13 => (bif ((iAndNot .i64 x2.f_From v12) == 0) then ((dp_closure_1_j16 x2 v12 v13 (dp_closure_1_j14 (dp_closure_1_l2 N1 r2 (k2 + 1)))) ((iAndNot .i64 x2.f_To v12) != 0)) else ((dp_closure_1_j16 x2 v12 v13 (dp_closure_1_j14 (dp_closure_1_l2 N1 r2 (k2 + 1)))) false))
def dp_closure_1_l1 (c2 : (List dpDep)) (K4 : (Int → Option Int)) : Nat → Int → Bool → Option Int
  | 0, _, _ => none
  | m1 + 1, v6, v7 => (bif v7 then (chk (lenOk c2) (dp_closure_1_l2 (dp_closure_1_l1 c2 K4 m1) c2 0 v6 false)) else (K4 v6))
def dp_closure_1 (fuel : Nat) (a1 : Int) (c2 : (List dpDep)) : Option Int :=
  (dp_closure_1_l1 c2 (dp_closure_1_j4) fuel a1 true)
theorem run_dp_closure_1 (fuel : Nat) (a1 : Int) (c2 : (List dpDep)) (r : Int) (h : dp_closure_1 fuel a1 c2 = some r) : Run Try.prog (.call 77 [I6 a1, .ptr (l33 none c2)] (I6 r)) := by
  refine call_of_W Try.func77 rfl (by kernel_rfl) (env0 := [(0, I6 a1), (1, .ptr (l33 none c2))]) (by kernel_rfl) ?_
  unfold dp_closure_1 at h
  refine W.seq ?_
  refine W.regT [0, 1] [] [] [] (e2 := [(0, I6 a1), (1, .ptr (l33 none c2))]) (by kernel_rfl) (by kernel_rfl) (fun _ h => h) ?_
  refine W.seq ?_
  refine W.join (σ := (Int)) (fun s => [(0, I6 s)]) (fun s => (dp_closure_1_j4) s = some r) (fun s h => ?_) (fun hK4 => ?_)
  · obtain ⟨v21, rfl⟩ : ∃ x, x = s := ⟨s, rfl⟩
    have h : (dp_closure_1_j4) v21 = some r := h
    unfold dp_closure_1_j4 at h
    refine W.seq ?_
    refine W.regT [3] [] [] [] (e2 := [(3, I6 v21)]) (by kernel_rfl) (by kernel_rfl) (fun _ h => h) ?_
    refine W.weak [3] [] [] [] (env' := [(3, I6 v21)]) (by kernel_rfl) ?_
    have hr : aresults Try.prog Try.f77 [(3, I6 v21)] = some (I6 v21) := by kernel_rfl
    cases h
    exact W.ret hr
  refine W.seq ?_
  refine W.regT [0, 1, 4] [] [] [] (e2 := [(0, I6 a1), (1, .ptr (l33 none c2)), (4, .bool true)]) (by kernel_rfl) (by kernel_rfl) (fun _ h => h) ?_
  refine W.block ?_
  refine W.weak [0, 1, 4] [] [] [] (env' := [(0, I6 a1), (1, .ptr (l33 none c2)), (4, .bool true)]) (by kernel_rfl) ?_
  refine W.fuel (σ := (Int × Bool)) (fun s => [(0, I6 s.1), (1, .ptr (l33 none c2)), (4, .bool s.2)]) (fun m0 s => dp_closure_1_l1 c2 (dp_closure_1_j4) m0 s.1 s.2 = some r) (fun s h => ?_) (fun m1 s h hN1 => ?_) fuel (a1, true) h
  · obtain ⟨v6, v7⟩ := s
    have h : dp_closure_1_l1 c2 (dp_closure_1_j4) 0 v6 v7 = some r := h
    rw [dp_closure_1_l1.eq_1] at h
    cases h
  · obtain ⟨v6, v7⟩ := s
    have h : dp_closure_1_l1 c2 (dp_closure_1_j4) (m1 + 1) v6 v7 = some r := h
    rw [dp_closure_1_l1.eq_2] at h
    refine W.seq ?_
    refine W.seq ?_
    refine W.regT [0, 1, 7] [] [] [] (e2 := [(0, I6 v6), (1, .ptr (l33 none c2)), (7, .bool v7)]) (by kernel_rfl) (by kernel_rfl) (fun _ h => h) ?_
    refine W.condB v7 (by kernel_rfl) (fun hb => ?_) (fun hb => ?_)
    · replace h := cond_t hb h
      refine W.skip ?_
      refine W.weak [0, 1] [] [] [] (env' := [(0, I6 v6), (1, .ptr (l33 none c2))]) (by kernel_rfl) ?_
      refine W.block ?_
      refine W.seq ?_
      refine W.regT [0, 1, 4] [] [] [] (e2 := [(0, I6 v6), (1, .ptr (l33 none c2)), (4, .bool false)]) (by kernel_rfl) (by kernel_rfl) (fun _ h => h) ?_
      refine W.seq ?_
      refine W.region (by kernel_rfl) ?_
      refine WO.pureK 1 (some (I6 ((List.map e_dpDep c2).length : Int))) (v := I6 (c2.length : Int)) (by kernel_rfl) (by rw [List.length_map]) (e1 := [(0, I6 v6), (1, .ptr (l33 none c2)), (4, .bool false), (8, l33 none c2), (9, I6 (c2.length : Int))]) (by kernel_rfl) ?_
      refine WO.fin [0, 1, 4, 8, 9, 10] [] [] [] (e2 := [(0, I6 v6), (1, .ptr (l33 none c2)), (4, .bool false), (8, l33 none c2), (9, I6 (c2.length : Int)), (10, .int .i64 0)]) (by kernel_rfl) (fun _ h => h) ?_
      refine W.block ?_
      obtain ⟨hl2, h⟩ := chk_some h
      refine W.weak [0, 1, 4, 8, 9, 10] [] [] [] (env' := [(0, I6 v6), (1, .ptr (l33 none c2)), (4, .bool false), (8, l33 none c2), (9, I6 (c2.length : Int)), (10, I6 ((0 : Nat) : Int))]) (by kernel_rfl) ?_
      refine W.range (σ := (Int × Bool)) c2 (fun k2 s => [(0, I6 s.1), (1, .ptr (l33 none c2)), (4, .bool s.2), (8, l33 none c2), (9, I6 (c2.length : Int)), (10, I6 (k2 : Int))]) (fun r0 k0 s => dp_closure_1_l2 (dp_closure_1_l1 c2 (dp_closure_1_j4) m1) r0 k0 s.1 s.2 = some r) (fun s h => ?_) (fun x2 r2 k2 s hx2 hk2 h hN2 => ?_) (v6, false) h
      · obtain ⟨v12, v13⟩ := s
        have h : dp_closure_1_l2 (dp_closure_1_l1 c2 (dp_closure_1_j4) m1) [] (c2).length v12 v13 = some r := h
        rw [dp_closure_1_l2.eq_1] at h
        refine W.seq ?_
        refine W.region (by kernel_rfl) ?_
        refine WO.pureK 0 (some (.bool (decide (((c2).length : Int) < (c2.length : Int))))) (v := .bool false) (by kernel_rfl) (by rw [lt_false (l := c2)]) (e1 := [(0, I6 v12), (1, .ptr (l33 none c2)), (4, .bool v13), (8, l33 none c2), (9, I6 (c2.length : Int)), (10, I6 ((c2).length : Int)), (11, .bool false)]) (by kernel_rfl) ?_
        refine WO.fin ([0, 1, 4, 8, 9, 10, 11]) [] [] [] (e2 := [(0, I6 v12), (1, .ptr (l33 none c2)), (4, .bool v13), (8, l33 none c2), (9, I6 (c2.length : Int)), (10, I6 ((c2).length : Int)), (11, .bool false)]) (by kernel_rfl) (fun _ h => h) ?_
        refine W.seq ?_
        refine W.condB false (by kernel_rfl) (fun h => Bool.noConfusion h) (fun _ => ?_)
        refine W.exit ?_
        refine W.weak [0, 1, 4] [] [] [] (env' := [(0, I6 v12), (1, .ptr (l33 none c2)), (4, .bool v13)]) (by kernel_rfl) ?_
        exact hN1 (v12, v13) h
      · obtain ⟨v12, v13⟩ := s
        have h : dp_closure_1_l2 (dp_closure_1_l1 c2 (dp_closure_1_j4) m1) (x2 :: r2) k2 v12 v13 = some r := h
        rw [dp_closure_1_l2.eq_2] at h
        refine W.seq ?_
        refine W.region (by kernel_rfl) ?_
        refine WO.pureK 0 (some (.bool (decide ((k2 : Int) < (c2.length : Int))))) (v := .bool true) (by kernel_rfl) (by rw [lt_true hk2]) (e1 := [(0, I6 v12), (1, .ptr (l33 none c2)), (4, .bool v13), (8, l33 none c2), (9, I6 (c2.length : Int)), (10, I6 (k2 : Int)), (11, .bool true)]) (by kernel_rfl) ?_
        refine WO.fin ([0, 1, 4, 8, 9, 10, 11]) [] [] [] (e2 := [(0, I6 v12), (1, .ptr (l33 none c2)), (4, .bool v13), (8, l33 none c2), (9, I6 (c2.length : Int)), (10, I6 (k2 : Int)), (11, .bool true)]) (by kernel_rfl) (fun _ h => h) ?_
        refine W.seq ?_
        refine W.condB true (by kernel_rfl) (fun _ => ?_) (fun h => Bool.noConfusion h)
        refine W.skip ?_
        refine W.weak [0, 1, 4, 8, 9, 10] [] [] [] (env' := [(0, I6 v12), (1, .ptr (l33 none c2)), (4, .bool v13), (8, l33 none c2), (9, I6 (c2.length : Int)), (10, I6 (k2 : Int))]) (by kernel_rfl) ?_
        refine W.seq ?_
        refine W.join (σ := (Int × Bool)) (fun s => [(0, I6 s.1), (1, .ptr (l33 none c2)), (4, .bool s.2), (8, l33 none c2), (9, I6 (c2.length : Int)), (10, I6 (k2 : Int))]) (fun s => (dp_closure_1_j14 (dp_closure_1_l2 (dp_closure_1_l1 c2 (dp_closure_1_j4) m1) r2 (k2 + 1))) s.1 s.2 = some r) (fun s h => ?_) (fun hK14 => ?_)
        · obtain ⟨v19, v20⟩ := s
          have h : (dp_closure_1_j14 (dp_closure_1_l2 (dp_closure_1_l1 c2 (dp_closure_1_j4) m1) r2 (k2 + 1))) v19 v20 = some r := h
          unfold dp_closure_1_j14 at h
          refine W.region (by kernel_rfl) ?_
          refine WO.pureK 0 (some (I6 (IntKind.wrap .i64 ((k2 : Int) + 1)))) (v := I6 ((k2 + 1 : Nat) : Int)) (by kernel_rfl) (by rw [wrap_succ hl2 hk2]) (e1 := [(0, I6 v19), (1, .ptr (l33 none c2)), (4, .bool v20), (8, l33 none c2), (9, I6 (c2.length : Int)), (10, I6 (k2 : Int)), (30, I6 ((k2 + 1 : Nat) : Int))]) (by kernel_rfl) ?_
          refine WO.fin [0, 1, 4, 8, 9, 10] [] [] [] (e2 := [(0, I6 v19), (1, .ptr (l33 none c2)), (4, .bool v20), (8, l33 none c2), (9, I6 (c2.length : Int)), (10, I6 ((k2 + 1 : Nat) : Int))]) (by kernel_rfl) (fun _ h => h) ?_
          exact hN2 (v19, v20) h
        refine W.block ?_
        refine W.seq ?_
        refine W.region (by kernel_rfl) ?_
        refine WO.pureK 0 (if (0 : Int) ≤ (k2 : Int) then ((List.map e_dpDep c2)[Int.toNat (k2 : Int)]?).map AV.ptr else none) (v := .ptr (.agg [I6 x2.f_From, I6 x2.f_To])) (by kernel_rfl) (idx_nat (f := e_dpDep) hx2) (e1 := [(0, I6 v12), (1, .ptr (l33 none c2)), (4, .bool v13), (8, l33 none c2), (9, I6 (c2.length : Int)), (10, I6 (k2 : Int)), (12, .ptr (.agg [I6 x2.f_From, I6 x2.f_To]))]) (by kernel_rfl) ?_
        refine WO.fin [0, 1, 4, 6, 8, 9, 10] [6] [] [] (e2 := [(0, I6 v12), (1, .ptr (l33 none c2)), (4, .bool v13), (6, .ptr (.agg [I6 x2.f_From, I6 x2.f_To])), (8, l33 none c2), (9, I6 (c2.length : Int)), (10, I6 (k2 : Int))]) (by kernel_rfl) (fun _ h => h) ?_
        refine W.seq ?_
        refine W.join (σ := (Bool)) (fun s => [(0, I6 v12), (1, .ptr (l33 none c2)), (4, .bool v13), (6, .ptr (.agg [I6 x2.f_From, I6 x2.f_To])), (8, l33 none c2), (9, I6 (c2.length : Int)), (10, I6 (k2 : Int)), (25, .bool s)]) (fun s => (dp_closure_1_j16 x2 v12 v13 (dp_closure_1_j14 (dp_closure_1_l2 (dp_closure_1_l1 c2 (dp_closure_1_j4) m1) r2 (k2 + 1)))) s = some r) (fun s h => ?_) (fun hK16 => ?_)
        · obtain ⟨v17, rfl⟩ : ∃ x, x = s := ⟨s, rfl⟩
          have h : (dp_closure_1_j16 x2 v12 v13 (dp_closure_1_j14 (dp_closure_1_l2 (dp_closure_1_l1 c2 (dp_closure_1_j4) m1) r2 (k2 + 1)))) v17 = some r := h
          unfold dp_closure_1_j16 at h
          refine W.condB v17 (by kernel_rfl) (fun hb => ?_) (fun hb => ?_)
          · replace h := cond_t hb h
            refine W.seq ?_
            refine W.regT [0, 1, 8, 9, 10] [] [] [] (e2 := [(0, I6 (iOr .i64 v12 x2.f_To)), (1, .ptr (l33 none c2)), (8, l33 none c2), (9, I6 (c2.length : Int)), (10, I6 (k2 : Int))]) (by kernel_rfl) (by kernel_rfl) (fun _ h => h) ?_
            refine W.regT [0, 1, 4, 8, 9, 10] [] [] [] (e2 := [(0, I6 (iOr .i64 v12 x2.f_To)), (1, .ptr (l33 none c2)), (4, .bool true), (8, l33 none c2), (9, I6 (c2.length : Int)), (10, I6 (k2 : Int))]) (by kernel_rfl) (by kernel_rfl) (fun _ h => h) ?_
            exact hK14 ((iOr .i64 v12 x2.f_To), true) h
          replace h := cond_f hb h
          refine W.skip ?_
          refine W.weak [0, 1, 4, 8, 9, 10] [] [] [] (env' := [(0, I6 v12), (1, .ptr (l33 none c2)), (4, .bool v13), (8, l33 none c2), (9, I6 (c2.length : Int)), (10, I6 (k2 : Int))]) (by kernel_rfl) ?_
          exact hK14 (v12, v13) h
        refine W.region (by kernel_rfl) ?_
        refine WO.boolK 6 (fun b => [(0, I6 v12), (1, .ptr (l33 none c2)), (4, .bool v13), (6, .ptr (.agg [I6 x2.f_From, I6 x2.f_To])), (8, l33 none c2), (9, I6 (c2.length : Int)), (10, I6 (k2 : Int)), (14, .ptr (I6 x2.f_From)), (15, I6 x2.f_From), (16, I6 v12), (17, I6 (iAndNot .i64 x2.f_From v12)), (18, .bool b), (19, .bool b)]) ((iAndNot .i64 x2.f_From v12) == 0) (by kernel_rfl) (fun hb => ?_) (fun hb => ?_)
        · replace h := cond_t hb h
          refine WO.fin [0, 1, 4, 6, 8, 9, 10, 25] [] [] [] (e2 := [(0, I6 v12), (1, .ptr (l33 none c2)), (4, .bool v13), (6, .ptr (.agg [I6 x2.f_From, I6 x2.f_To])), (8, l33 none c2), (9, I6 (c2.length : Int)), (10, I6 (k2 : Int)), (25, .bool ((iAndNot .i64 x2.f_To v12) != 0))]) (by kernel_rfl) (fun _ h => h) ?_
          exact hK16 ((iAndNot .i64 x2.f_To v12) != 0) h
        replace h := cond_f hb h
        refine WO.fin [0, 1, 4, 6, 8, 9, 10, 25] [] [] [] (e2 := [(0, I6 v12), (1, .ptr (l33 none c2)), (4, .bool v13), (6, .ptr (.agg [I6 x2.f_From, I6 x2.f_To])), (8, l33 none c2), (9, I6 (c2.length : Int)), (10, I6 (k2 : Int)), (25, .bool false)]) (by kernel_rfl) (fun _ h => h) ?_
        exact hK16 false h
    replace h := cond_f hb h
    refine W.exit ?_
    refine W.weak [0] [] [] [] (env' := [(0, I6 v6)]) (by kernel_rfl) ?_
    exact hK4 v6 h
def dp_Closure_j6 (fuel : Nat) (a2 : (List dpDep)) (a3 : Int) (v9 : Bool) : Option (Int × Int) :=
  (bif v9 then (some (0, 2)) else ((dp_closure a2).bind fun w12 => ((dp_closure_1 fuel a3 w12).bind fun w13 => (some (w13, 0)))))
def dp_Closure (fuel : Nat) (a1 : Int) (a2 : (List dpDep)) (a3 : Int) : Option (Int × Int) :=
  ((dp_valid a1 a2).bind fun w7 => (bif (!w7) then ((dp_Closure_j6 fuel a2 a3) true) else ((dp_sets a1 [a3]).bind fun w8 => ((dp_Closure_j6 fuel a2 a3) (!w8)))))
theorem run_dp_Closure (fuel : Nat) (a1 : Int) (a2 : (List dpDep)) (a3 : Int) (r : (Int × Int)) (h : dp_Closure fuel a1 a2 a3 = some r) : Run Try.prog (.call 19 [I6 a1, l33 none a2, I6 a3] (.tup [I6 r.1, I6 r.2])) := by
  refine call_of_W Try.func19 rfl (by kernel_rfl) (env0 := [(0, I6 a1), (1, l33 none a2), (2, I6 a3)]) (by kernel_rfl) ?_
  unfold dp_Closure at h
  refine W.seq ?_
  refine W.regT [0, 1, 2] [] [] [] (e2 := [(0, I6 a1), (1, l33 none a2), (2, I6 a3)]) (by kernel_rfl) (by kernel_rfl) (fun _ h => h) ?_
  refine W.seq ?_
  refine W.seq ?_
  refine W.join (σ := (Bool)) (fun s => [(1, l33 none a2), (2, I6 a3), (18, .bool s)]) (fun s => (dp_Closure_j6 fuel a2 a3) s = some r) (fun s h => ?_) (fun hK6 => ?_)
  · obtain ⟨v9, rfl⟩ : ∃ x, x = s := ⟨s, rfl⟩
    have h : (dp_Closure_j6 fuel a2 a3) v9 = some r := h
    unfold dp_Closure_j6 at h
    refine W.condB v9 (by kernel_rfl) (fun hb => ?_) (fun hb => ?_)
    · replace h := cond_t hb h
      refine W.seq ?_
      refine W.regT [6, 7] [] [] [] (e2 := [(6, .int .i64 0), (7, .int .i64 2)]) (by kernel_rfl) (by kernel_rfl) (fun _ h => h) ?_
      refine W.weak [6, 7] [] [] [] (env' := [(6, .int .i64 0), (7, .int .i64 2)]) (by kernel_rfl) ?_
      have hr : aresults Try.prog Try.f19 [(6, .int .i64 0), (7, .int .i64 2)] = some (.tup [.int .i64 0, .int .i64 2]) := by kernel_rfl
      cases h
      exact W.ret hr
    replace h := cond_f hb h
    refine W.skip ?_
    refine W.weak [1, 2] [] [] [] (env' := [(1, l33 none a2), (2, I6 a3)]) (by kernel_rfl) ?_
    refine W.seq ?_
    refine W.region (by kernel_rfl) ?_
    obtain ⟨w12, hw12, h⟩ := bind_some h
    refine WO.callK 1 (F := 59) (l := [l33 none a2]) (C := []) (r := .clo 77 [.ptr (l33 none w12)]) (by kernel_rfl) (by kernel_rfl) (run_dp_closure a2 w12 hw12) (e1 := [(1, l33 none a2), (2, I6 a3), (19, l33 none a2), (20, .clo 77 [.ptr (l33 none w12)])]) (by kernel_rfl) ?_
    obtain ⟨w13, hw13, h⟩ := bind_some h
    refine WO.callK 1 (F := 77) (l := [I6 a3]) (C := [.ptr (l33 none w12)]) (r := I6 w13) (by kernel_rfl) (by kernel_rfl) (run_dp_closure_1 fuel a3 w12 w13 hw13) (e1 := [(1, l33 none a2), (2, I6 a3), (19, l33 none a2), (20, .clo 77 [.ptr (l33 none w12)]), (21, I6 a3), (22, I6 w13)]) (by kernel_rfl) ?_
    refine WO.fin [6, 7] [] [] [] (e2 := [(6, I6 w13), (7, .int .i64 0)]) (by kernel_rfl) (fun _ h => h) ?_
    refine W.weak [6, 7] [] [] [] (env' := [(6, I6 w13), (7, .int .i64 0)]) (by kernel_rfl) ?_
    have hr : aresults Try.prog Try.f19 [(6, I6 w13), (7, .int .i64 0)] = some (.tup [I6 w13, .int .i64 0]) := by kernel_rfl
    cases h
    exact W.ret hr
  refine W.region (by kernel_rfl) ?_
  obtain ⟨w7, hw7, h⟩ := bind_some h
  refine WO.callK 2 (F := 57) (l := [I6 a1, l33 none a2]) (C := []) (r := .bool w7) (by kernel_rfl) (by kernel_rfl) (run_dp_valid a1 a2 w7 hw7) (e1 := [(0, I6 a1), (1, l33 none a2), (2, I6 a3), (8, I6 a1), (9, l33 none a2), (10, .bool w7)]) (by kernel_rfl) ?_
  refine WO.boolK 2 (fun b => [(0, I6 a1), (1, l33 none a2), (2, I6 a3), (8, I6 a1), (9, l33 none a2), (10, .bool w7), (11, .bool b), (12, .bool b)]) (!w7) (by kernel_rfl) (fun hb => ?_) (fun hb => ?_)
  · replace h := cond_t hb h
    refine WO.fin [1, 2, 18] [] [] [] (e2 := [(1, l33 none a2), (2, I6 a3), (18, .bool true)]) (by kernel_rfl) (fun _ h => h) ?_
    exact hK6 true h
  replace h := cond_f hb h
  obtain ⟨w8, hw8, h⟩ := bind_some h
  refine WO.callK 3 (F := 58) (l := [I6 a1, l3 none [a3]]) (C := []) (r := .bool w8) (by kernel_rfl) (by kernel_rfl) (run_dp_sets a1 [a3] w8 hw8) (e1 := [(0, I6 a1), (1, l33 none a2), (2, I6 a3), (8, I6 a1), (9, l33 none a2), (10, .bool w7), (11, .bool false), (12, .bool false), (13, I6 a1), (14, I6 a3), (15, l3 (some 15) [a3]), (16, .bool w8)]) (by kernel_rfl) ?_
  refine WO.fin [1, 2, 18] [] [] [] (e2 := [(1, l33 none a2), (2, I6 a3), (18, .bool (!w8))]) (by kernel_rfl) (fun _ h => h) ?_
  exact hK6 (!w8) h
def lw1_awake_j4 (v5 : Bool) : Option Bool :=
  (some v5)
def lw1_awake (fuel : Nat) : Option Bool :=
  ((dp_Closure fuel 3 [(dpDep.mk 1 2), (dpDep.mk 2 4)] 1).bind fun w3 => (bif (w3.1 == 7) then ((lw1_awake_j4) (w3.2 == 0)) else ((lw1_awake_j4) false)))
theorem run_lw1_awake (fuel : Nat)  (r : Bool) (h : lw1_awake fuel = some r) : Run Try.prog (.call 21 [] (.bool r)) := by
  refine call_of_W Try.func21 rfl (by kernel_rfl) (env0 := []) (by kernel_rfl) ?_
  unfold lw1_awake at h
  refine W.seq ?_
  refine W.regT [] [] [] [] (e2 := []) (by kernel_rfl) (by kernel_rfl) (fun _ h => h) ?_
  refine W.seq ?_
  refine W.region (by kernel_rfl) ?_
  obtain ⟨w3, hw3, h⟩ := bind_some h
  refine WO.callK 3 (F := 19) (l := [.int .i64 3, l33 none [(dpDep.mk 1 2), (dpDep.mk 2 4)], .int .i64 1]) (C := []) (r := .tup [I6 w3.1, I6 w3.2]) (by kernel_rfl) (by kernel_rfl) (run_dp_Closure fuel 3 [(dpDep.mk 1 2), (dpDep.mk 2 4)] 1 w3 hw3) (e1 := [(4, .agg [.int .i64 1, .int .i64 2]), (5, .agg [.int .i64 2, .int .i64 4]), (6, l33 (some 6) [(dpDep.mk 1 2), (dpDep.mk 2 4)]), (7, .tup [I6 w3.1, I6 w3.2])]) (by kernel_rfl) ?_
  refine WO.fin [1, 2] [] [] [] (e2 := [(1, I6 w3.1), (2, I6 w3.2)]) (by kernel_rfl) (fun _ h => h) ?_
  refine W.seq ?_
  refine W.join (σ := (Bool)) (fun s => [(0, .bool s)]) (fun s => (lw1_awake_j4) s = some r) (fun s h => ?_) (fun hK4 => ?_)
  · obtain ⟨v5, rfl⟩ : ∃ x, x = s := ⟨s, rfl⟩
    have h : (lw1_awake_j4) v5 = some r := h
    unfold lw1_awake_j4 at h
    refine W.weak [0] [] [] [] (env' := [(0, .bool v5)]) (by kernel_rfl) ?_
    have hr : aresults Try.prog Try.f21 [(0, .bool v5)] = some (.bool v5) := by kernel_rfl
    cases h
    exact W.ret hr
  refine W.region (by kernel_rfl) ?_
  refine WO.boolK 3 (fun b => [(1, I6 w3.1), (2, I6 w3.2), (10, I6 w3.1), (11, .bool b), (12, .bool b)]) (w3.1 == 7) (by kernel_rfl) (fun hb => ?_) (fun hb => ?_)
  · replace h := cond_t hb h
    refine WO.fin [0] [] [] [] (e2 := [(0, .bool (w3.2 == 0))]) (by kernel_rfl) (fun _ h => h) ?_
    exact hK4 (w3.2 == 0) h
  replace h := cond_f hb h
  refine WO.fin [0] [] [] [] (e2 := [(0, .bool false)]) (by kernel_rfl) (fun _ h => h) ?_
  exact hK4 false h
def lw1_own_j4 (v10 : (List rf1Dep)) : Option (List rf1Dep) :=
  (some v10)
def lw1_own_l1 (K4 : ((List rf1Dep) → Option (List rf1Dep))) : List dpDep → Nat → (List rf1Dep) → Option (List rf1Dep)
  | [], k1, v6 => (K4 v6)
  | x1 :: r1, k1, v6 => (chk (capOk 16 ((v6 ++ [(rf1Dep.mk x1.f_From x1.f_To)])).length) ((lw1_own_l1 K4 r1 (k1 + 1)) (v6 ++ [(rf1Dep.mk x1.f_From x1.f_To)])))
def lw1_own (a1 : (List dpDep)) : Option (List rf1Dep) :=
  (chk (lenOk a1) (lw1_own_l1 (lw1_own_j4) a1 0 ([] : (List rf1Dep))))
theorem run_lw1_own (a1 : (List dpDep)) (r : (List rf1Dep)) (h : lw1_own a1 = some r) : Run Try.prog (.call 52 [l33 none a1] (l40 (some 1) r)) := by
  refine call_of_W Try.func52 rfl (by kernel_rfl) (env0 := [(0, l33 none a1)]) (by kernel_rfl) ?_
  unfold lw1_own at h
  refine W.seq ?_
  refine W.regT [0] [] [] [] (e2 := [(0, l33 none a1)]) (by kernel_rfl) (by kernel_rfl) (fun _ h => h) ?_
  refine W.seq ?_
  refine W.regT [0, 3] [] [] [] (e2 := [(0, l33 none a1), (3, .nils)]) (by kernel_rfl) (by kernel_rfl) (fun _ h => h) ?_
  refine W.seq ?_
  refine W.join (σ := ((List rf1Dep))) (fun s => [(3, l40 (some 10300) s)]) (fun s => (lw1_own_j4) s = some r) (fun s h => ?_) (fun hK4 => ?_)
  · obtain ⟨v10, rfl⟩ : ∃ x, x = s := ⟨s, rfl⟩
    have h : (lw1_own_j4) v10 = some r := h
    unfold lw1_own_j4 at h
    refine W.seq ?_
    refine W.regT [2] [] [] [] (e2 := [(2, l40 (some 10300) v10)]) (by kernel_rfl) (by kernel_rfl) (fun _ h => h) ?_
    refine W.weak [2] [] [] [(10300, some 1)] (env' := [(2, l40 (some 1) v10)]) (by kernel_rfl) ?_
    have hr : aresults Try.prog Try.f52 [(2, l40 (some 1) v10)] = some (l40 (some 1) v10) := by kernel_rfl
    cases h
    exact W.ret hr
  refine W.seq ?_
  refine W.region (by kernel_rfl) ?_
  refine WO.pureK 1 (some (I6 ((List.map e_dpDep a1).length : Int))) (v := I6 (a1.length : Int)) (by kernel_rfl) (by rw [List.length_map]) (e1 := [(0, l33 none a1), (3, .nils), (6, l33 none a1), (7, I6 (a1.length : Int))]) (by kernel_rfl) ?_
  refine WO.fin [3, 6, 7, 8] [] [] [] (e2 := [(3, .nils), (6, l33 none a1), (7, I6 (a1.length : Int)), (8, .int .i64 0)]) (by kernel_rfl) (fun _ h => h) ?_
  refine W.block ?_
  obtain ⟨hl1, h⟩ := chk_some h
  refine W.weak [3, 6, 7, 8] [] [(3, 0, 40, 2, 10300)] [] (env' := [(3, l40 (some 10300) ([] : (List rf1Dep))), (6, l33 none a1), (7, I6 (a1.length : Int)), (8, I6 ((0 : Nat) : Int))]) (by kernel_rfl) ?_
  refine W.range (σ := ((List rf1Dep))) a1 (fun k1 s => [(3, l40 (some 10300) s), (6, l33 none a1), (7, I6 (a1.length : Int)), (8, I6 (k1 : Int))]) (fun r0 k0 s => lw1_own_l1 (lw1_own_j4) r0 k0 s = some r) (fun s h => ?_) (fun x1 r1 k1 s hx1 hk1 h hN1 => ?_) ([] : (List rf1Dep)) h
  · obtain ⟨v6, rfl⟩ : ∃ x, x = s := ⟨s, rfl⟩
    have h : lw1_own_l1 (lw1_own_j4) [] (a1).length v6 = some r := h
    rw [lw1_own_l1.eq_1] at h
    refine W.seq ?_
    refine W.region (by kernel_rfl) ?_
    refine WO.pureK 0 (some (.bool (decide (((a1).length : Int) < (a1.length : Int))))) (v := .bool false) (by kernel_rfl) (by rw [lt_false (l := a1)]) (e1 := [(3, l40 (some 10300) v6), (6, l33 none a1), (7, I6 (a1.length : Int)), (8, I6 ((a1).length : Int)), (9, .bool false)]) (by kernel_rfl) ?_
    refine WO.fin ([3, 6, 7, 8, 9]) [] [] [] (e2 := [(3, l40 (some 10300) v6), (6, l33 none a1), (7, I6 (a1.length : Int)), (8, I6 ((a1).length : Int)), (9, .bool false)]) (by kernel_rfl) (fun _ h => h) ?_
    refine W.seq ?_
    refine W.condB false (by kernel_rfl) (fun h => Bool.noConfusion h) (fun _ => ?_)
    refine W.exit ?_
    refine W.weak [3] [] [] [] (env' := [(3, l40 (some 10300) v6)]) (by kernel_rfl) ?_
    exact hK4 v6 h
  · obtain ⟨v6, rfl⟩ : ∃ x, x = s := ⟨s, rfl⟩
    have h : lw1_own_l1 (lw1_own_j4) (x1 :: r1) k1 v6 = some r := h
    rw [lw1_own_l1.eq_2] at h
    refine W.seq ?_
    refine W.region (by kernel_rfl) ?_
    refine WO.pureK 0 (some (.bool (decide ((k1 : Int) < (a1.length : Int))))) (v := .bool true) (by kernel_rfl) (by rw [lt_true hk1]) (e1 := [(3, l40 (some 10300) v6), (6, l33 none a1), (7, I6 (a1.length : Int)), (8, I6 (k1 : Int)), (9, .bool true)]) (by kernel_rfl) ?_
    refine WO.fin ([3, 6, 7, 8, 9]) [] [] [] (e2 := [(3, l40 (some 10300) v6), (6, l33 none a1), (7, I6 (a1.length : Int)), (8, I6 (k1 : Int)), (9, .bool true)]) (by kernel_rfl) (fun _ h => h) ?_
    refine W.seq ?_
    refine W.condB true (by kernel_rfl) (fun _ => ?_) (fun h => Bool.noConfusion h)
    refine W.skip ?_
    refine W.weak [3, 6, 7, 8] [] [] [] (env' := [(3, l40 (some 10300) v6), (6, l33 none a1), (7, I6 (a1.length : Int)), (8, I6 (k1 : Int))]) (by kernel_rfl) ?_
    refine W.seq ?_
    refine W.block ?_
    refine W.seq ?_
    refine W.region (by kernel_rfl) ?_
    refine WO.pureK 0 (if (0 : Int) ≤ (k1 : Int) then ((List.map e_dpDep a1)[Int.toNat (k1 : Int)]?).map AV.ptr else none) (v := .ptr (.agg [I6 x1.f_From, I6 x1.f_To])) (by kernel_rfl) (idx_nat (f := e_dpDep) hx1) (e1 := [(3, l40 (some 10300) v6), (6, l33 none a1), (7, I6 (a1.length : Int)), (8, I6 (k1 : Int)), (10, .ptr (.agg [I6 x1.f_From, I6 x1.f_To]))]) (by kernel_rfl) ?_
    refine WO.fin [3, 5, 6, 7, 8] [5] [] [] (e2 := [(3, l40 (some 10300) v6), (5, .ptr (.agg [I6 x1.f_From, I6 x1.f_To])), (6, l33 none a1), (7, I6 (a1.length : Int)), (8, I6 (k1 : Int))]) (by kernel_rfl) (fun _ h => h) ?_
    refine W.region (by kernel_rfl) ?_
    obtain ⟨hc9, h⟩ := chk_some h
    refine WO.appendK 7 (d := 19) (e := 40) (s := 2) (bytes := 16) (xs := (List.map e_rf1Dep v6)) (ys := (List.map e_rf1Dep [(rf1Dep.mk x1.f_From x1.f_To)])) (zs := (List.map e_rf1Dep (v6 ++ [(rf1Dep.mk x1.f_From x1.f_To)]))) (env1 := [(3, l40 none v6), (5, .ptr (.agg [I6 x1.f_From, I6 x1.f_To])), (6, l33 none a1), (7, I6 (a1.length : Int)), (8, I6 (k1 : Int)), (12, l40 none v6), (13, .ptr (I6 x1.f_From)), (14, I6 x1.f_From), (15, .ptr (I6 x1.f_To)), (16, I6 x1.f_To), (17, .agg [I6 x1.f_From, I6 x1.f_To]), (18, l40 (some 18) [(rf1Dep.mk x1.f_From x1.f_To)])]) (by kernel_rfl) (List.map_append.symm) (by rw [List.length_map]; exact hc9) (e1 := [(3, l40 none v6), (5, .ptr (.agg [I6 x1.f_From, I6 x1.f_To])), (6, l33 none a1), (7, I6 (a1.length : Int)), (8, I6 (k1 : Int)), (12, l40 none v6), (13, .ptr (I6 x1.f_From)), (14, I6 x1.f_From), (15, .ptr (I6 x1.f_To)), (16, I6 x1.f_To), (17, .agg [I6 x1.f_From, I6 x1.f_To]), (18, l40 (some 18) [(rf1Dep.mk x1.f_From x1.f_To)]), (19, l40 (some 19) (v6 ++ [(rf1Dep.mk x1.f_From x1.f_To)]))]) (by kernel_rfl) ?_
    refine WO.fin [3, 6, 7, 8] [] [] [] (e2 := [(3, l40 (some 19) (v6 ++ [(rf1Dep.mk x1.f_From x1.f_To)])), (6, l33 none a1), (7, I6 (a1.length : Int)), (8, I6 (k1 : Int))]) (by kernel_rfl) (fun _ h => h) ?_
    refine W.region (by kernel_rfl) ?_
    refine WO.pureK 0 (some (I6 (IntKind.wrap .i64 ((k1 : Int) + 1)))) (v := I6 ((k1 + 1 : Nat) : Int)) (by kernel_rfl) (by rw [wrap_succ hl1 hk1]) (e1 := [(3, l40 (some 19) (v6 ++ [(rf1Dep.mk x1.f_From x1.f_To)])), (6, l33 none a1), (7, I6 (a1.length : Int)), (8, I6 (k1 : Int)), (20, I6 ((k1 + 1 : Nat) : Int))]) (by kernel_rfl) ?_
    refine WO.fin [3, 6, 7, 8] [] [] [(19, some 10300)] (e2 := [(3, l40 (some 10300) (v6 ++ [(rf1Dep.mk x1.f_From x1.f_To)])), (6, l33 none a1), (7, I6 (a1.length : Int)), (8, I6 ((k1 + 1 : Nat) : Int))]) (by kernel_rfl) (fun _ h => h) ?_
    exact hN1 (v6 ++ [(rf1Dep.mk x1.f_From x1.f_To)]) h
def rf1_agree_j5 : Option Bool :=
  (some true)
def rf1_agree_j9 (N1 : (Option Bool)) (v12 : Bool) : Option Bool :=
  (bif v12 then (some false) else N1)
def rf1_agree_l1 (a2 : (List Int)) (a3 : Int) (K5 : (Option Bool)) : List Int → Nat → Option Bool
  | [], k1 => K5
  | x1 :: r1, k1 => (chk (decide (0 ≤ (k1 : Int))) (bif ((iAnd .i64 (iShr .i64 a3 (k1 : Int)) 1) == 1) then ((idx a2 (k1 : Int)).bind fun e11 => ((rf1_agree_j9 (rf1_agree_l1 a2 a3 K5 r1 (k1 + 1))) (x1 != e11))) else ((rf1_agree_j9 (rf1_agree_l1 a2 a3 K5 r1 (k1 + 1))) false)))
def rf1_agree (a1 : (List Int)) (a2 : (List Int)) (a3 : Int) : Option Bool :=
  (chk (lenOk a1) (rf1_agree_l1 a2 a3 (rf1_agree_j5) a1 0))
theorem run_rf1_agree (a1 : (List Int)) (a2 : (List Int)) (a3 : Int) (r : Bool) (h : rf1_agree a1 a2 a3 = some r) : Run Try.prog (.call 73 [l3 none a1, l3 none a2, I6 a3] (.bool r)) := by
  refine call_of_W Try.func73 rfl (by kernel_rfl) (env0 := [(0, l3 none a1), (1, l3 none a2), (2, I6 a3)]) (by kernel_rfl) ?_
  unfold rf1_agree at h
  refine W.seq ?_
  refine W.regT [0, 1, 2] [] [] [] (e2 := [(0, l3 none a1), (1, l3 none a2), (2, I6 a3)]) (by kernel_rfl) (by kernel_rfl) (fun _ h => h) ?_
  refine W.seq ?_
  refine W.join (σ := Unit) (fun s => []) (fun s => (rf1_agree_j5) = some r) (fun s h => ?_) (fun hK5 => ?_)
  · have h : (rf1_agree_j5) = some r := h
    unfold rf1_agree_j5 at h
    refine W.seq ?_
    refine W.regT [6] [] [] [] (e2 := [(6, .bool true)]) (by kernel_rfl) (by kernel_rfl) (fun _ h => h) ?_
    refine W.weak [6] [] [] [] (env' := [(6, .bool true)]) (by kernel_rfl) ?_
    have hr : aresults Try.prog Try.f73 [(6, .bool true)] = some (.bool true) := by kernel_rfl
    cases h
    exact W.ret hr
  refine W.seq ?_
  refine W.region (by kernel_rfl) ?_
  refine WO.pureK 1 (some (I6 ((List.map (AV.int .i64) a1).length : Int))) (v := I6 (a1.length : Int)) (by kernel_rfl) (by rw [List.length_map]) (e1 := [(0, l3 none a1), (1, l3 none a2), (2, I6 a3), (8, l3 none a1), (9, I6 (a1.length : Int))]) (by kernel_rfl) ?_
  refine WO.fin [0, 1, 2, 9, 10] [] [] [] (e2 := [(0, l3 none a1), (1, l3 none a2), (2, I6 a3), (9, I6 (a1.length : Int)), (10, .int .i64 0)]) (by kernel_rfl) (fun _ h => h) ?_
  refine W.block ?_
  obtain ⟨hl1, h⟩ := chk_some h
  refine W.weak [0, 1, 2, 9, 10] [] [] [] (env' := [(0, l3 none a1), (1, l3 none a2), (2, I6 a3), (9, I6 (a1.length : Int)), (10, I6 ((0 : Nat) : Int))]) (by kernel_rfl) ?_
  refine W.range (σ := Unit) a1 (fun k1 s => [(0, l3 none a1), (1, l3 none a2), (2, I6 a3), (9, I6 (a1.length : Int)), (10, I6 (k1 : Int))]) (fun r0 k0 s => rf1_agree_l1 a2 a3 (rf1_agree_j5) r0 k0 = some r) (fun s h => ?_) (fun x1 r1 k1 s hx1 hk1 h hN1 => ?_) () h
  · have h : rf1_agree_l1 a2 a3 (rf1_agree_j5) [] (a1).length = some r := h
    rw [rf1_agree_l1.eq_1] at h
    refine W.seq ?_
    refine W.region (by kernel_rfl) ?_
    refine WO.pureK 0 (some (.bool (decide (((a1).length : Int) < (a1.length : Int))))) (v := .bool false) (by kernel_rfl) (by rw [lt_false (l := a1)]) (e1 := [(0, l3 none a1), (1, l3 none a2), (2, I6 a3), (9, I6 (a1.length : Int)), (10, I6 ((a1).length : Int)), (11, .bool false)]) (by kernel_rfl) ?_
    refine WO.fin ([0, 1, 2, 9, 10, 11]) [] [] [] (e2 := [(0, l3 none a1), (1, l3 none a2), (2, I6 a3), (9, I6 (a1.length : Int)), (10, I6 ((a1).length : Int)), (11, .bool false)]) (by kernel_rfl) (fun _ h => h) ?_
    refine W.seq ?_
    refine W.condB false (by kernel_rfl) (fun h => Bool.noConfusion h) (fun _ => ?_)
    refine W.exit ?_
    refine W.weak [] [] [] [] (env' := []) (by kernel_rfl) ?_
    exact hK5 () h
  · have h : rf1_agree_l1 a2 a3 (rf1_agree_j5) (x1 :: r1) k1 = some r := h
    rw [rf1_agree_l1.eq_2] at h
    refine W.seq ?_
    refine W.region (by kernel_rfl) ?_
    refine WO.pureK 0 (some (.bool (decide ((k1 : Int) < (a1.length : Int))))) (v := .bool true) (by kernel_rfl) (by rw [lt_true hk1]) (e1 := [(0, l3 none a1), (1, l3 none a2), (2, I6 a3), (9, I6 (a1.length : Int)), (10, I6 (k1 : Int)), (11, .bool true)]) (by kernel_rfl) ?_
    refine WO.fin ([0, 1, 2, 9, 10, 11]) [] [] [] (e2 := [(0, l3 none a1), (1, l3 none a2), (2, I6 a3), (9, I6 (a1.length : Int)), (10, I6 (k1 : Int)), (11, .bool true)]) (by kernel_rfl) (fun _ h => h) ?_
    refine W.seq ?_
    refine W.condB true (by kernel_rfl) (fun _ => ?_) (fun h => Bool.noConfusion h)
    refine W.skip ?_
    refine W.weak [0, 1, 2, 9, 10] [] [] [] (env' := [(0, l3 none a1), (1, l3 none a2), (2, I6 a3), (9, I6 (a1.length : Int)), (10, I6 (k1 : Int))]) (by kernel_rfl) ?_
    refine W.seq ?_
    refine W.block ?_
    refine W.seq ?_
    refine W.regT [0, 1, 2, 7, 9, 10] [] [] [] (e2 := [(0, l3 none a1), (1, l3 none a2), (2, I6 a3), (7, I6 (k1 : Int)), (9, I6 (a1.length : Int)), (10, I6 (k1 : Int))]) (by kernel_rfl) (by kernel_rfl) (fun _ h => h) ?_
    refine W.seq ?_
    refine W.join (σ := (Bool)) (fun s => [(0, l3 none a1), (1, l3 none a2), (2, I6 a3), (9, I6 (a1.length : Int)), (10, I6 (k1 : Int)), (28, .bool s)]) (fun s => (rf1_agree_j9 (rf1_agree_l1 a2 a3 (rf1_agree_j5) r1 (k1 + 1))) s = some r) (fun s h => ?_) (fun hK9 => ?_)
    · obtain ⟨v12, rfl⟩ : ∃ x, x = s := ⟨s, rfl⟩
      have h : (rf1_agree_j9 (rf1_agree_l1 a2 a3 (rf1_agree_j5) r1 (k1 + 1))) v12 = some r := h
      unfold rf1_agree_j9 at h
      refine W.condB v12 (by kernel_rfl) (fun hb => ?_) (fun hb => ?_)
      · replace h := cond_t hb h
        refine W.seq ?_
        refine W.regT [6] [] [] [] (e2 := [(6, .bool false)]) (by kernel_rfl) (by kernel_rfl) (fun _ h => h) ?_
        refine W.weak [6] [] [] [] (env' := [(6, .bool false)]) (by kernel_rfl) ?_
        have hr : aresults Try.prog Try.f73 [(6, .bool false)] = some (.bool false) := by kernel_rfl
        cases h
        exact W.ret hr
      replace h := cond_f hb h
      refine W.skip ?_
      refine W.weak [0, 1, 2, 9, 10] [] [] [] (env' := [(0, l3 none a1), (1, l3 none a2), (2, I6 a3), (9, I6 (a1.length : Int)), (10, I6 (k1 : Int))]) (by kernel_rfl) ?_
      refine W.region (by kernel_rfl) ?_
      refine WO.pureK 0 (some (I6 (IntKind.wrap .i64 ((k1 : Int) + 1)))) (v := I6 ((k1 + 1 : Nat) : Int)) (by kernel_rfl) (by rw [wrap_succ hl1 hk1]) (e1 := [(0, l3 none a1), (1, l3 none a2), (2, I6 a3), (9, I6 (a1.length : Int)), (10, I6 (k1 : Int)), (29, I6 ((k1 + 1 : Nat) : Int))]) (by kernel_rfl) ?_
      refine WO.fin [0, 1, 2, 9, 10] [] [] [] (e2 := [(0, l3 none a1), (1, l3 none a2), (2, I6 a3), (9, I6 (a1.length : Int)), (10, I6 ((k1 + 1 : Nat) : Int))]) (by kernel_rfl) (fun _ h => h) ?_
      exact hN1 () h
    refine W.region (by kernel_rfl) ?_
    obtain ⟨hc10, h⟩ := chk_some h
    refine WO.pureK 2 (if (k1 : Int) < 0 then none else some (I6 (iShr .i64 a3 (k1 : Int)))) (v := I6 (iShr .i64 a3 (k1 : Int))) (by kernel_rfl) (if_neg (not_lt_of_chk hc10)) (e1 := [(0, l3 none a1), (1, l3 none a2), (2, I6 a3), (7, I6 (k1 : Int)), (9, I6 (a1.length : Int)), (10, I6 (k1 : Int)), (13, I6 a3), (14, I6 (k1 : Int)), (15, I6 (iShr .i64 a3 (k1 : Int)))]) (by kernel_rfl) ?_
    refine WO.boolK 3 (fun b => [(0, l3 none a1), (1, l3 none a2), (2, I6 a3), (7, I6 (k1 : Int)), (9, I6 (a1.length : Int)), (10, I6 (k1 : Int)), (13, I6 a3), (14, I6 (k1 : Int)), (15, I6 (iShr .i64 a3 (k1 : Int))), (16, I6 (iAnd .i64 (iShr .i64 a3 (k1 : Int)) 1)), (17, .bool b), (18, .bool b)]) ((iAnd .i64 (iShr .i64 a3 (k1 : Int)) 1) == 1) (by kernel_rfl) (fun hb => ?_) (fun hb => ?_)
    · replace h := cond_t hb h
      refine WO.pureK 2 (if (0 : Int) ≤ (k1 : Int) then ((List.map (AV.int .i64) a1)[Int.toNat (k1 : Int)]?).map AV.ptr else none) (v := .ptr (I6 x1)) (by kernel_rfl) (idx_nat (f := (AV.int .i64)) hx1) (e1 := [(0, l3 none a1), (1, l3 none a2), (2, I6 a3), (7, I6 (k1 : Int)), (9, I6 (a1.length : Int)), (10, I6 (k1 : Int)), (13, I6 a3), (14, I6 (k1 : Int)), (15, I6 (iShr .i64 a3 (k1 : Int))), (16, I6 (iAnd .i64 (iShr .i64 a3 (k1 : Int)) 1)), (17, .bool true), (18, .bool true), (19, l3 none a1), (20, I6 (k1 : Int)), (21, .ptr (I6 x1))]) (by kernel_rfl) ?_
      obtain ⟨e11, he11, h⟩ := bind_some h
      refine WO.pureK 3 (if (0 : Int) ≤ (k1 : Int) then ((List.map (AV.int .i64) a2)[Int.toNat (k1 : Int)]?).map AV.ptr else none) (v := .ptr (I6 e11)) (by kernel_rfl) (idx_av (f := (AV.int .i64)) he11) (e1 := [(0, l3 none a1), (1, l3 none a2), (2, I6 a3), (7, I6 (k1 : Int)), (9, I6 (a1.length : Int)), (10, I6 (k1 : Int)), (13, I6 a3), (14, I6 (k1 : Int)), (15, I6 (iShr .i64 a3 (k1 : Int))), (16, I6 (iAnd .i64 (iShr .i64 a3 (k1 : Int)) 1)), (17, .bool true), (18, .bool true), (19, l3 none a1), (20, I6 (k1 : Int)), (21, .ptr (I6 x1)), (22, I6 x1), (23, l3 none a2), (24, I6 (k1 : Int)), (25, .ptr (I6 e11))]) (by kernel_rfl) ?_
      refine WO.fin [0, 1, 2, 9, 10, 28] [] [] [] (e2 := [(0, l3 none a1), (1, l3 none a2), (2, I6 a3), (9, I6 (a1.length : Int)), (10, I6 (k1 : Int)), (28, .bool (x1 != e11))]) (by kernel_rfl) (fun _ h => h) ?_
      exact hK9 (x1 != e11) h
    replace h := cond_f hb h
    refine WO.fin [0, 1, 2, 9, 10, 28] [] [] [] (e2 := [(0, l3 none a1), (1, l3 none a2), (2, I6 a3), (9, I6 (a1.length : Int)), (10, I6 (k1 : Int)), (28, .bool false)]) (by kernel_rfl) (fun _ h => h) ?_
    exact hK9 false h
def rf1_Holds_j4 : Option Bool :=
  (some true)
def rf1_Holds_j6 (N1 : (Option Bool)) : Option Bool :=
  N1
def rf1_Holds_j11 (N2 : (Option Bool)) (v14 : Bool) : Option Bool :=
  (bif v14 then (some false) else N2)
def rf1_Holds_l2 (x1 : (List Int)) (a2 : rf1Dep) (K6 : (Option Bool)) : List (List Int) → Nat → Option Bool
  | [], k2 => K6
  | x2 :: r2, k2 => ((rf1_agree x1 x2 a2.f_From).bind fun w12 => (bif w12 then ((rf1_agree x1 x2 a2.f_To).bind fun w13 => ((rf1_Holds_j11 (rf1_Holds_l2 x1 a2 K6 r2 (k2 + 1))) (!w13))) else ((rf1_Holds_j11 (rf1_Holds_l2 x1 a2 K6 r2 (k2 + 1))) false)))
def rf1_Holds_l1 (a1 : (List (List Int))) (a2 : rf1Dep) (K4 : (Option Bool)) : List (List Int) → Nat → Option Bool
  | [], k1 => K4
  | x1 :: r1, k1 => (chk (lenOk a1) (rf1_Holds_l2 x1 a2 (rf1_Holds_j6 (rf1_Holds_l1 a1 a2 K4 r1 (k1 + 1))) a1 0))
def rf1_Holds (a1 : (List (List Int))) (a2 : rf1Dep) : Option Bool :=
  (chk (lenOk a1) (rf1_Holds_l1 a1 a2 (rf1_Holds_j4) a1 0))
theorem run_rf1_Holds (a1 : (List (List Int))) (a2 : rf1Dep) (r : Bool) (h : rf1_Holds a1 a2 = some r) : Run Try.prog (.call 56 [l35 none a1, .agg [I6 a2.f_From, I6 a2.f_To]] (.bool r)) := by
  refine call_of_W Try.func56 rfl (by kernel_rfl) (env0 := [(0, l35 none a1), (1, .agg [I6 a2.f_From, I6 a2.f_To])]) (by kernel_rfl) ?_
  unfold rf1_Holds at h
  refine W.seq ?_
  refine W.regT [0, 3] [3] [] [] (e2 := [(0, l35 none a1), (3, .ptr (.agg [I6 a2.f_From, I6 a2.f_To]))]) (by kernel_rfl) (by kernel_rfl) (fun _ h => h) ?_
  refine W.seq ?_
  refine W.join (σ := Unit) (fun s => []) (fun s => (rf1_Holds_j4) = some r) (fun s h => ?_) (fun hK4 => ?_)
  · have h : (rf1_Holds_j4) = some r := h
    unfold rf1_Holds_j4 at h
    refine W.seq ?_
    refine W.regT [4] [] [] [] (e2 := [(4, .bool true)]) (by kernel_rfl) (by kernel_rfl) (fun _ h => h) ?_
    refine W.weak [4] [] [] [] (env' := [(4, .bool true)]) (by kernel_rfl) ?_
    have hr : aresults Try.prog Try.f56 [(4, .bool true)] = some (.bool true) := by kernel_rfl
    cases h
    exact W.ret hr
  refine W.seq ?_
  refine W.region (by kernel_rfl) ?_
  refine WO.pureK 1 (some (I6 ((List.map (encL 3 1 (AV.int .i64)) a1).length : Int))) (v := I6 (a1.length : Int)) (by kernel_rfl) (by rw [List.length_map]) (e1 := [(0, l35 none a1), (3, .ptr (.agg [I6 a2.f_From, I6 a2.f_To])), (9, l35 none a1), (10, I6 (a1.length : Int))]) (by kernel_rfl) ?_
  refine WO.fin [0, 3, 9, 10, 11] [] [] [] (e2 := [(0, l35 none a1), (3, .ptr (.agg [I6 a2.f_From, I6 a2.f_To])), (9, l35 none a1), (10, I6 (a1.length : Int)), (11, .int .i64 0)]) (by kernel_rfl) (fun _ h => h) ?_
  refine W.block ?_
  obtain ⟨hl1, h⟩ := chk_some h
  refine W.weak [0, 3, 9, 10, 11] [] [] [] (env' := [(0, l35 none a1), (3, .ptr (.agg [I6 a2.f_From, I6 a2.f_To])), (9, l35 none a1), (10, I6 (a1.length : Int)), (11, I6 ((0 : Nat) : Int))]) (by kernel_rfl) ?_
  refine W.range (σ := Unit) a1 (fun k1 s => [(0, l35 none a1), (3, .ptr (.agg [I6 a2.f_From, I6 a2.f_To])), (9, l35 none a1), (10, I6 (a1.length : Int)), (11, I6 (k1 : Int))]) (fun r0 k0 s => rf1_Holds_l1 a1 a2 (rf1_Holds_j4) r0 k0 = some r) (fun s h => ?_) (fun x1 r1 k1 s hx1 hk1 h hN1 => ?_) () h
  · have h : rf1_Holds_l1 a1 a2 (rf1_Holds_j4) [] (a1).length = some r := h
    rw [rf1_Holds_l1.eq_1] at h
    refine W.seq ?_
    refine W.region (by kernel_rfl) ?_
    refine WO.pureK 0 (some (.bool (decide (((a1).length : Int) < (a1.length : Int))))) (v := .bool false) (by kernel_rfl) (by rw [lt_false (l := a1)]) (e1 := [(0, l35 none a1), (3, .ptr (.agg [I6 a2.f_From, I6 a2.f_To])), (9, l35 none a1), (10, I6 (a1.length : Int)), (11, I6 ((a1).length : Int)), (12, .bool false)]) (by kernel_rfl) ?_
    refine WO.fin ([0, 3, 9, 10, 11, 12]) [] [] [] (e2 := [(0, l35 none a1), (3, .ptr (.agg [I6 a2.f_From, I6 a2.f_To])), (9, l35 none a1), (10, I6 (a1.length : Int)), (11, I6 ((a1).length : Int)), (12, .bool false)]) (by kernel_rfl) (fun _ h => h) ?_
    refine W.seq ?_
    refine W.condB false (by kernel_rfl) (fun h => Bool.noConfusion h) (fun _ => ?_)
    refine W.exit ?_
    refine W.weak [] [] [] [] (env' := []) (by kernel_rfl) ?_
    exact hK4 () h
  · have h : rf1_Holds_l1 a1 a2 (rf1_Holds_j4) (x1 :: r1) k1 = some r := h
    rw [rf1_Holds_l1.eq_2] at h
    refine W.seq ?_
    refine W.region (by kernel_rfl) ?_
    refine WO.pureK 0 (some (.bool (decide ((k1 : Int) < (a1.length : Int))))) (v := .bool true) (by kernel_rfl) (by rw [lt_true hk1]) (e1 := [(0, l35 none a1), (3, .ptr (.agg [I6 a2.f_From, I6 a2.f_To])), (9, l35 none a1), (10, I6 (a1.length : Int)), (11, I6 (k1 : Int)), (12, .bool true)]) (by kernel_rfl) ?_
    refine WO.fin ([0, 3, 9, 10, 11, 12]) [] [] [] (e2 := [(0, l35 none a1), (3, .ptr (.agg [I6 a2.f_From, I6 a2.f_To])), (9, l35 none a1), (10, I6 (a1.length : Int)), (11, I6 (k1 : Int)), (12, .bool true)]) (by kernel_rfl) (fun _ h => h) ?_
    refine W.seq ?_
    refine W.condB true (by kernel_rfl) (fun _ => ?_) (fun h => Bool.noConfusion h)
    refine W.skip ?_
    refine W.weak [0, 3, 9, 10, 11] [] [] [] (env' := [(0, l35 none a1), (3, .ptr (.agg [I6 a2.f_From, I6 a2.f_To])), (9, l35 none a1), (10, I6 (a1.length : Int)), (11, I6 (k1 : Int))]) (by kernel_rfl) ?_
    refine W.seq ?_
    refine W.join (σ := Unit) (fun s => [(0, l35 none a1), (3, .ptr (.agg [I6 a2.f_From, I6 a2.f_To])), (9, l35 none a1), (10, I6 (a1.length : Int)), (11, I6 (k1 : Int))]) (fun s => (rf1_Holds_j6 (rf1_Holds_l1 a1 a2 (rf1_Holds_j4) r1 (k1 + 1))) = some r) (fun s h => ?_) (fun hK6 => ?_)
    · have h : (rf1_Holds_j6 (rf1_Holds_l1 a1 a2 (rf1_Holds_j4) r1 (k1 + 1))) = some r := h
      unfold rf1_Holds_j6 at h
      refine W.region (by kernel_rfl) ?_
      refine WO.pureK 0 (some (I6 (IntKind.wrap .i64 ((k1 : Int) + 1)))) (v := I6 ((k1 + 1 : Nat) : Int)) (by kernel_rfl) (by rw [wrap_succ hl1 hk1]) (e1 := [(0, l35 none a1), (3, .ptr (.agg [I6 a2.f_From, I6 a2.f_To])), (9, l35 none a1), (10, I6 (a1.length : Int)), (11, I6 (k1 : Int)), (35, I6 ((k1 + 1 : Nat) : Int))]) (by kernel_rfl) ?_
      refine WO.fin [0, 3, 9, 10, 11] [] [] [] (e2 := [(0, l35 none a1), (3, .ptr (.agg [I6 a2.f_From, I6 a2.f_To])), (9, l35 none a1), (10, I6 (a1.length : Int)), (11, I6 ((k1 + 1 : Nat) : Int))]) (by kernel_rfl) (fun _ h => h) ?_
      exact hN1 () h
    refine W.block ?_
    refine W.seq ?_
    refine W.region (by kernel_rfl) ?_
    refine WO.pureK 0 (if (0 : Int) ≤ (k1 : Int) then ((List.map (encL 3 1 (AV.int .i64)) a1)[Int.toNat (k1 : Int)]?).map AV.ptr else none) (v := .ptr (l3 none x1)) (by kernel_rfl) (idx_nat (f := (encL 3 1 (AV.int .i64))) hx1) (e1 := [(0, l35 none a1), (3, .ptr (.agg [I6 a2.f_From, I6 a2.f_To])), (9, l35 none a1), (10, I6 (a1.length : Int)), (11, I6 (k1 : Int)), (13, .ptr (l3 none x1))]) (by kernel_rfl) ?_
    refine WO.fin [0, 3, 6, 9, 10, 11] [] [] [] (e2 := [(0, l35 none a1), (3, .ptr (.agg [I6 a2.f_From, I6 a2.f_To])), (6, l3 none x1), (9, l35 none a1), (10, I6 (a1.length : Int)), (11, I6 (k1 : Int))]) (by kernel_rfl) (fun _ h => h) ?_
    refine W.seq ?_
    refine W.region (by kernel_rfl) ?_
    refine WO.pureK 1 (some (I6 ((List.map (encL 3 1 (AV.int .i64)) a1).length : Int))) (v := I6 (a1.length : Int)) (by kernel_rfl) (by rw [List.length_map]) (e1 := [(0, l35 none a1), (3, .ptr (.agg [I6 a2.f_From, I6 a2.f_To])), (6, l3 none x1), (9, l35 none a1), (10, I6 (a1.length : Int)), (11, I6 (k1 : Int)), (15, l35 none a1), (16, I6 (a1.length : Int))]) (by kernel_rfl) ?_
    refine WO.fin [0, 3, 6, 9, 10, 11, 15, 16, 17] [] [] [] (e2 := [(0, l35 none a1), (3, .ptr (.agg [I6 a2.f_From, I6 a2.f_To])), (6, l3 none x1), (9, l35 none a1), (10, I6 (a1.length : Int)), (11, I6 (k1 : Int)), (15, l35 none a1), (16, I6 (a1.length : Int)), (17, .int .i64 0)]) (by kernel_rfl) (fun _ h => h) ?_
    refine W.block ?_
    obtain ⟨hl2, h⟩ := chk_some h
    refine W.weak [0, 3, 6, 9, 10, 11, 15, 16, 17] [] [] [] (env' := [(0, l35 none a1), (3, .ptr (.agg [I6 a2.f_From, I6 a2.f_To])), (6, l3 none x1), (9, l35 none a1), (10, I6 (a1.length : Int)), (11, I6 (k1 : Int)), (15, l35 none a1), (16, I6 (a1.length : Int)), (17, I6 ((0 : Nat) : Int))]) (by kernel_rfl) ?_
    refine W.range (σ := Unit) a1 (fun k2 s => [(0, l35 none a1), (3, .ptr (.agg [I6 a2.f_From, I6 a2.f_To])), (6, l3 none x1), (9, l35 none a1), (10, I6 (a1.length : Int)), (11, I6 (k1 : Int)), (15, l35 none a1), (16, I6 (a1.length : Int)), (17, I6 (k2 : Int))]) (fun r0 k0 s => rf1_Holds_l2 x1 a2 (rf1_Holds_j6 (rf1_Holds_l1 a1 a2 (rf1_Holds_j4) r1 (k1 + 1))) r0 k0 = some r) (fun s h => ?_) (fun x2 r2 k2 s hx2 hk2 h hN2 => ?_) () h
    · have h : rf1_Holds_l2 x1 a2 (rf1_Holds_j6 (rf1_Holds_l1 a1 a2 (rf1_Holds_j4) r1 (k1 + 1))) [] (a1).length = some r := h
      rw [rf1_Holds_l2.eq_1] at h
      refine W.seq ?_
      refine W.region (by kernel_rfl) ?_
      refine WO.pureK 0 (some (.bool (decide (((a1).length : Int) < (a1.length : Int))))) (v := .bool false) (by kernel_rfl) (by rw [lt_false (l := a1)]) (e1 := [(0, l35 none a1), (3, .ptr (.agg [I6 a2.f_From, I6 a2.f_To])), (6, l3 none x1), (9, l35 none a1), (10, I6 (a1.length : Int)), (11, I6 (k1 : Int)), (15, l35 none a1), (16, I6 (a1.length : Int)), (17, I6 ((a1).length : Int)), (18, .bool false)]) (by kernel_rfl) ?_
      refine WO.fin ([0, 3, 6, 9, 10, 11, 15, 16, 17, 18]) [] [] [] (e2 := [(0, l35 none a1), (3, .ptr (.agg [I6 a2.f_From, I6 a2.f_To])), (6, l3 none x1), (9, l35 none a1), (10, I6 (a1.length : Int)), (11, I6 (k1 : Int)), (15, l35 none a1), (16, I6 (a1.length : Int)), (17, I6 ((a1).length : Int)), (18, .bool false)]) (by kernel_rfl) (fun _ h => h) ?_
      refine W.seq ?_
      refine W.condB false (by kernel_rfl) (fun h => Bool.noConfusion h) (fun _ => ?_)
      refine W.exit ?_
      refine W.weak [0, 3, 9, 10, 11] [] [] [] (env' := [(0, l35 none a1), (3, .ptr (.agg [I6 a2.f_From, I6 a2.f_To])), (9, l35 none a1), (10, I6 (a1.length : Int)), (11, I6 (k1 : Int))]) (by kernel_rfl) ?_
      exact hK6 () h
    · have h : rf1_Holds_l2 x1 a2 (rf1_Holds_j6 (rf1_Holds_l1 a1 a2 (rf1_Holds_j4) r1 (k1 + 1))) (x2 :: r2) k2 = some r := h
      rw [rf1_Holds_l2.eq_2] at h
      refine W.seq ?_
      refine W.region (by kernel_rfl) ?_
      refine WO.pureK 0 (some (.bool (decide ((k2 : Int) < (a1.length : Int))))) (v := .bool true) (by kernel_rfl) (by rw [lt_true hk2]) (e1 := [(0, l35 none a1), (3, .ptr (.agg [I6 a2.f_From, I6 a2.f_To])), (6, l3 none x1), (9, l35 none a1), (10, I6 (a1.length : Int)), (11, I6 (k1 : Int)), (15, l35 none a1), (16, I6 (a1.length : Int)), (17, I6 (k2 : Int)), (18, .bool true)]) (by kernel_rfl) ?_
      refine WO.fin ([0, 3, 6, 9, 10, 11, 15, 16, 17, 18]) [] [] [] (e2 := [(0, l35 none a1), (3, .ptr (.agg [I6 a2.f_From, I6 a2.f_To])), (6, l3 none x1), (9, l35 none a1), (10, I6 (a1.length : Int)), (11, I6 (k1 : Int)), (15, l35 none a1), (16, I6 (a1.length : Int)), (17, I6 (k2 : Int)), (18, .bool true)]) (by kernel_rfl) (fun _ h => h) ?_
      refine W.seq ?_
      refine W.condB true (by kernel_rfl) (fun _ => ?_) (fun h => Bool.noConfusion h)
      refine W.skip ?_
      refine W.weak [0, 3, 6, 9, 10, 11, 15, 16, 17] [] [] [] (env' := [(0, l35 none a1), (3, .ptr (.agg [I6 a2.f_From, I6 a2.f_To])), (6, l3 none x1), (9, l35 none a1), (10, I6 (a1.length : Int)), (11, I6 (k1 : Int)), (15, l35 none a1), (16, I6 (a1.length : Int)), (17, I6 (k2 : Int))]) (by kernel_rfl) ?_
      refine W.seq ?_
      refine W.block ?_
      refine W.seq ?_
      refine W.region (by kernel_rfl) ?_
      refine WO.pureK 0 (if (0 : Int) ≤ (k2 : Int) then ((List.map (encL 3 1 (AV.int .i64)) a1)[Int.toNat (k2 : Int)]?).map AV.ptr else none) (v := .ptr (l3 none x2)) (by kernel_rfl) (idx_nat (f := (encL 3 1 (AV.int .i64))) hx2) (e1 := [(0, l35 none a1), (3, .ptr (.agg [I6 a2.f_From, I6 a2.f_To])), (6, l3 none x1), (9, l35 none a1), (10, I6 (a1.length : Int)), (11, I6 (k1 : Int)), (15, l35 none a1), (16, I6 (a1.length : Int)), (17, I6 (k2 : Int)), (19, .ptr (l3 none x2))]) (by kernel_rfl) ?_
      refine WO.fin [0, 3, 6, 8, 9, 10, 11, 15, 16, 17] [] [] [] (e2 := [(0, l35 none a1), (3, .ptr (.agg [I6 a2.f_From, I6 a2.f_To])), (6, l3 none x1), (8, l3 none x2), (9, l35 none a1), (10, I6 (a1.length : Int)), (11, I6 (k1 : Int)), (15, l35 none a1), (16, I6 (a1.length : Int)), (17, I6 (k2 : Int))]) (by kernel_rfl) (fun _ h => h) ?_
      refine W.seq ?_
      refine W.join (σ := (Bool)) (fun s => [(0, l35 none a1), (3, .ptr (.agg [I6 a2.f_From, I6 a2.f_To])), (6, l3 none x1), (9, l35 none a1), (10, I6 (a1.length : Int)), (11, I6 (k1 : Int)), (15, l35 none a1), (16, I6 (a1.length : Int)), (17, I6 (k2 : Int)), (33, .bool s)]) (fun s => (rf1_Holds_j11 (rf1_Holds_l2 x1 a2 (rf1_Holds_j6 (rf1_Holds_l1 a1 a2 (rf1_Holds_j4) r1 (k1 + 1))) r2 (k2 + 1))) s = some r) (fun s h => ?_) (fun hK11 => ?_)
      · obtain ⟨v14, rfl⟩ : ∃ x, x = s := ⟨s, rfl⟩
        have h : (rf1_Holds_j11 (rf1_Holds_l2 x1 a2 (rf1_Holds_j6 (rf1_Holds_l1 a1 a2 (rf1_Holds_j4) r1 (k1 + 1))) r2 (k2 + 1))) v14 = some r := h
        unfold rf1_Holds_j11 at h
        refine W.condB v14 (by kernel_rfl) (fun hb => ?_) (fun hb => ?_)
        · replace h := cond_t hb h
          refine W.seq ?_
          refine W.regT [4] [] [] [] (e2 := [(4, .bool false)]) (by kernel_rfl) (by kernel_rfl) (fun _ h => h) ?_
          refine W.weak [4] [] [] [] (env' := [(4, .bool false)]) (by kernel_rfl) ?_
          have hr : aresults Try.prog Try.f56 [(4, .bool false)] = some (.bool false) := by kernel_rfl
          cases h
          exact W.ret hr
        replace h := cond_f hb h
        refine W.skip ?_
        refine W.weak [0, 3, 6, 9, 10, 11, 15, 16, 17] [] [] [] (env' := [(0, l35 none a1), (3, .ptr (.agg [I6 a2.f_From, I6 a2.f_To])), (6, l3 none x1), (9, l35 none a1), (10, I6 (a1.length : Int)), (11, I6 (k1 : Int)), (15, l35 none a1), (16, I6 (a1.length : Int)), (17, I6 (k2 : Int))]) (by kernel_rfl) ?_
        refine W.region (by kernel_rfl) ?_
        refine WO.pureK 0 (some (I6 (IntKind.wrap .i64 ((k2 : Int) + 1)))) (v := I6 ((k2 + 1 : Nat) : Int)) (by kernel_rfl) (by rw [wrap_succ hl2 hk2]) (e1 := [(0, l35 none a1), (3, .ptr (.agg [I6 a2.f_From, I6 a2.f_To])), (6, l3 none x1), (9, l35 none a1), (10, I6 (a1.length : Int)), (11, I6 (k1 : Int)), (15, l35 none a1), (16, I6 (a1.length : Int)), (17, I6 (k2 : Int)), (34, I6 ((k2 + 1 : Nat) : Int))]) (by kernel_rfl) ?_
        refine WO.fin [0, 3, 6, 9, 10, 11, 15, 16, 17] [] [] [] (e2 := [(0, l35 none a1), (3, .ptr (.agg [I6 a2.f_From, I6 a2.f_To])), (6, l3 none x1), (9, l35 none a1), (10, I6 (a1.length : Int)), (11, I6 (k1 : Int)), (15, l35 none a1), (16, I6 (a1.length : Int)), (17, I6 ((k2 + 1 : Nat) : Int))]) (by kernel_rfl) (fun _ h => h) ?_
        exact hN2 () h
      refine W.region (by kernel_rfl) ?_
      obtain ⟨w12, hw12, h⟩ := bind_some h
      refine WO.callK 4 (F := 73) (l := [l3 none x1, l3 none x2, I6 a2.f_From]) (C := []) (r := .bool w12) (by kernel_rfl) (by kernel_rfl) (run_rf1_agree x1 x2 a2.f_From w12 hw12) (e1 := [(0, l35 none a1), (3, .ptr (.agg [I6 a2.f_From, I6 a2.f_To])), (6, l3 none x1), (8, l3 none x2), (9, l35 none a1), (10, I6 (a1.length : Int)), (11, I6 (k1 : Int)), (15, l35 none a1), (16, I6 (a1.length : Int)), (17, I6 (k2 : Int)), (21, l3 none x1), (22, l3 none x2), (23, .ptr (I6 a2.f_From)), (24, I6 a2.f_From), (25, .bool w12)]) (by kernel_rfl) ?_
      refine WO.boolK 1 (fun b => [(0, l35 none a1), (3, .ptr (.agg [I6 a2.f_From, I6 a2.f_To])), (6, l3 none x1), (8, l3 none x2), (9, l35 none a1), (10, I6 (a1.length : Int)), (11, I6 (k1 : Int)), (15, l35 none a1), (16, I6 (a1.length : Int)), (17, I6 (k2 : Int)), (21, l3 none x1), (22, l3 none x2), (23, .ptr (I6 a2.f_From)), (24, I6 a2.f_From), (25, .bool b), (26, .bool b)]) w12 (by kernel_rfl) (fun hb => ?_) (fun hb => ?_)
      · replace h := cond_t hb h
        obtain ⟨w13, hw13, h⟩ := bind_some h
        refine WO.callK 4 (F := 73) (l := [l3 none x1, l3 none x2, I6 a2.f_To]) (C := []) (r := .bool w13) (by kernel_rfl) (by kernel_rfl) (run_rf1_agree x1 x2 a2.f_To w13 hw13) (e1 := [(0, l35 none a1), (3, .ptr (.agg [I6 a2.f_From, I6 a2.f_To])), (6, l3 none x1), (8, l3 none x2), (9, l35 none a1), (10, I6 (a1.length : Int)), (11, I6 (k1 : Int)), (15, l35 none a1), (16, I6 (a1.length : Int)), (17, I6 (k2 : Int)), (21, l3 none x1), (22, l3 none x2), (23, .ptr (I6 a2.f_From)), (24, I6 a2.f_From), (25, .bool true), (26, .bool true), (27, l3 none x1), (28, l3 none x2), (29, .ptr (I6 a2.f_To)), (30, I6 a2.f_To), (31, .bool w13)]) (by kernel_rfl) ?_
        refine WO.fin [0, 3, 6, 9, 10, 11, 15, 16, 17, 33] [] [] [] (e2 := [(0, l35 none a1), (3, .ptr (.agg [I6 a2.f_From, I6 a2.f_To])), (6, l3 none x1), (9, l35 none a1), (10, I6 (a1.length : Int)), (11, I6 (k1 : Int)), (15, l35 none a1), (16, I6 (a1.length : Int)), (17, I6 (k2 : Int)), (33, .bool (!w13))]) (by kernel_rfl) (fun _ h => h) ?_
        exact hK11 (!w13) h
      replace h := cond_f hb h
      refine WO.fin [0, 3, 6, 9, 10, 11, 15, 16, 17, 33] [] [] [] (e2 := [(0, l35 none a1), (3, .ptr (.agg [I6 a2.f_From, I6 a2.f_To])), (6, l3 none x1), (9, l35 none a1), (10, I6 (a1.length : Int)), (11, I6 (k1 : Int)), (15, l35 none a1), (16, I6 (a1.length : Int)), (17, I6 (k2 : Int)), (33, .bool false)]) (by kernel_rfl) (fun _ h => h) ?_
      exact hK11 false h
def rf1_critical_j5 (v26 : (List rf1Dep)) : Option (List rf1Dep) :=
  (some v26)
def rf1_critical_j13 (k1 : Nat) (a2 : (List Int)) (v8 : (List rf1Dep)) (K9 : ((List rf1Dep) → Option (List rf1Dep))) (v21 : Bool) : Option (List rf1Dep) :=
  (bif v21 then ((idx a2 (k1 : Int)).bind fun e23 => (chk (capOk 16 ((v8 ++ [(rf1Dep.mk (k1 : Int) e23)])).length) (K9 (v8 ++ [(rf1Dep.mk (k1 : Int) e23)])))) else (K9 v8))
def rf1_critical_j9 (N1 : ((List rf1Dep) → Option (List rf1Dep))) (v25 : (List rf1Dep)) : Option (List rf1Dep) :=
  (N1 v25)
def rf1_critical_j16 (N2 : (Bool → Option (List rf1Dep))) (v20 : Bool) : Option (List rf1Dep) :=
  (N2 v20)
def rf1_critical_j18 (v15 : Bool) (K16 : (Bool → Option (List rf1Dep))) (v19 : Bool) : Option (List rf1Dep) :=
  (bif v19 then (K16 false) else (K16 v15))
def rf1_critical_l2 (k1 : Nat) (K13 : (Bool → Option (List rf1Dep))) : List rf1Dep → Nat → Bool → Option (List rf1Dep)
  | [], k2, v15 => (K13 v15)
  | x2 :: r2, k2, v15 => (bif ((iAndNot .i64 x2.f_From (k1 : Int)) == 0) then ((rf1_critical_j18 v15 (rf1_critical_j16 (rf1_critical_l2 k1 K13 r2 (k2 + 1)))) ((iAndNot .i64 x2.f_To (k1 : Int)) != 0)) else ((rf1_critical_j18 v15 (rf1_critical_j16 (rf1_critical_l2 k1 K13 r2 (k2 + 1)))) false))
def rf1_critical_l1 (a2 : (List Int)) (K5 : ((List rf1Dep) → Option (List rf1Dep))) : List Nat → Nat → (List rf1Dep) → Option (List rf1Dep)
  | [], k1, v8 => (K5 v8)
  | x1 :: r1, k1, v8 => ((idx a2 (k1 : Int)).bind fun e12 => (chk (lenOk v8) (rf1_critical_l2 k1 (rf1_critical_j13 k1 a2 v8 (rf1_critical_j9 (rf1_critical_l1 a2 K5 r1 (k1 + 1)))) v8 0 (e12 != (k1 : Int)))))
def rf1_critical (a1 : Int) (a2 : (List Int)) : Option (List rf1Dep) :=
  (chk (decide (0 ≤ a1)) (chk (lenOk (List.range (Int.toNat (iShl .i64 1 a1)))) (rf1_critical_l1 a2 (rf1_critical_j5) (List.range (Int.toNat (iShl .i64 1 a1))) 0 ([] : (List rf1Dep)))))
theorem run_rf1_critical (a1 : Int) (a2 : (List Int)) (r : (List rf1Dep)) (h : rf1_critical a1 a2 = some r) : Run Try.prog (.call 71 [I6 a1, l3 none a2] (l40 (some 1) r)) := by
  refine call_of_W Try.func71 rfl (by kernel_rfl) (env0 := [(0, I6 a1), (1, l3 none a2)]) (by kernel_rfl) ?_
  unfold rf1_critical at h
  refine W.seq ?_
  refine W.regT [0, 1] [] [] [] (e2 := [(0, I6 a1), (1, l3 none a2)]) (by kernel_rfl) (by kernel_rfl) (fun _ h => h) ?_
  refine W.seq ?_
  refine W.regT [0, 1, 5] [] [] [] (e2 := [(0, I6 a1), (1, l3 none a2), (5, .nils)]) (by kernel_rfl) (by kernel_rfl) (fun _ h => h) ?_
  refine W.seq ?_
  refine W.join (σ := ((List rf1Dep))) (fun s => [(5, l40 (some 10500) s)]) (fun s => (rf1_critical_j5) s = some r) (fun s h => ?_) (fun hK5 => ?_)
  · obtain ⟨v26, rfl⟩ : ∃ x, x = s := ⟨s, rfl⟩
    have h : (rf1_critical_j5) v26 = some r := h
    unfold rf1_critical_j5 at h
    refine W.seq ?_
    refine W.regT [4] [] [] [] (e2 := [(4, l40 (some 10500) v26)]) (by kernel_rfl) (by kernel_rfl) (fun _ h => h) ?_
    refine W.weak [4] [] [] [(10500, some 1)] (env' := [(4, l40 (some 1) v26)]) (by kernel_rfl) ?_
    have hr : aresults Try.prog Try.f71 [(4, l40 (some 1) v26)] = some (l40 (some 1) v26) := by kernel_rfl
    cases h
    exact W.ret hr
  refine W.seq ?_
  refine W.region (by kernel_rfl) ?_
  obtain ⟨hc7, h⟩ := chk_some h
  refine WO.pureK 1 (if a1 < 0 then none else some (I6 (iShl .i64 1 a1))) (v := I6 (iShl .i64 1 a1)) (by kernel_rfl) (if_neg (not_lt_of_chk hc7)) (e1 := [(0, I6 a1), (1, l3 none a2), (5, .nils), (10, I6 a1), (11, I6 (iShl .i64 1 a1))]) (by kernel_rfl) ?_
  refine WO.fin [1, 5, 11, 12] [] [] [] (e2 := [(1, l3 none a2), (5, .nils), (11, I6 (iShl .i64 1 a1)), (12, .int .i64 0)]) (by kernel_rfl) (fun _ h => h) ?_
  refine W.block ?_
  obtain ⟨hl1, h⟩ := chk_some h
  refine W.weak [1, 5, 11, 12] [] [(5, 0, 40, 2, 10500)] [] (env' := [(1, l3 none a2), (5, l40 (some 10500) ([] : (List rf1Dep))), (11, I6 (iShl .i64 1 a1)), (12, I6 ((0 : Nat) : Int))]) (by kernel_rfl) ?_
  refine W.range (σ := ((List rf1Dep))) (List.range (Int.toNat (iShl .i64 1 a1))) (fun k1 s => [(1, l3 none a2), (5, l40 (some 10500) s), (11, I6 (iShl .i64 1 a1)), (12, I6 (k1 : Int))]) (fun r0 k0 s => rf1_critical_l1 a2 (rf1_critical_j5) r0 k0 s = some r) (fun s h => ?_) (fun x1 r1 k1 s hx1 hk1 h hN1 => ?_) ([] : (List rf1Dep)) h
  · obtain ⟨v8, rfl⟩ : ∃ x, x = s := ⟨s, rfl⟩
    have h : rf1_critical_l1 a2 (rf1_critical_j5) [] ((List.range (Int.toNat (iShl .i64 1 a1)))).length v8 = some r := h
    rw [rf1_critical_l1.eq_1] at h
    refine W.seq ?_
    refine W.region (by kernel_rfl) ?_
    refine WO.pureK 0 (some (.bool (decide ((((List.range (Int.toNat (iShl .i64 1 a1)))).length : Int) < (iShl .i64 1 a1))))) (v := .bool false) (by kernel_rfl) (by rw [ltr_false (n := (iShl .i64 1 a1))]) (e1 := [(1, l3 none a2), (5, l40 (some 10500) v8), (11, I6 (iShl .i64 1 a1)), (12, I6 (((List.range (Int.toNat (iShl .i64 1 a1)))).length : Int)), (13, .bool false)]) (by kernel_rfl) ?_
    refine WO.fin ([1, 5, 11, 12, 13]) [] [] [] (e2 := [(1, l3 none a2), (5, l40 (some 10500) v8), (11, I6 (iShl .i64 1 a1)), (12, I6 (((List.range (Int.toNat (iShl .i64 1 a1)))).length : Int)), (13, .bool false)]) (by kernel_rfl) (fun _ h => h) ?_
    refine W.seq ?_
    refine W.condB false (by kernel_rfl) (fun h => Bool.noConfusion h) (fun _ => ?_)
    refine W.exit ?_
    refine W.weak [5] [] [] [] (env' := [(5, l40 (some 10500) v8)]) (by kernel_rfl) ?_
    exact hK5 v8 h
  · obtain ⟨v8, rfl⟩ : ∃ x, x = s := ⟨s, rfl⟩
    have h : rf1_critical_l1 a2 (rf1_critical_j5) (x1 :: r1) k1 v8 = some r := h
    rw [rf1_critical_l1.eq_2] at h
    refine W.seq ?_
    refine W.region (by kernel_rfl) ?_
    refine WO.pureK 0 (some (.bool (decide ((k1 : Int) < (iShl .i64 1 a1))))) (v := .bool true) (by kernel_rfl) (by rw [ltr_true hk1]) (e1 := [(1, l3 none a2), (5, l40 (some 10500) v8), (11, I6 (iShl .i64 1 a1)), (12, I6 (k1 : Int)), (13, .bool true)]) (by kernel_rfl) ?_
    refine WO.fin ([1, 5, 11, 12, 13]) [] [] [] (e2 := [(1, l3 none a2), (5, l40 (some 10500) v8), (11, I6 (iShl .i64 1 a1)), (12, I6 (k1 : Int)), (13, .bool true)]) (by kernel_rfl) (fun _ h => h) ?_
    refine W.seq ?_
    refine W.condB true (by kernel_rfl) (fun _ => ?_) (fun h => Bool.noConfusion h)
    refine W.skip ?_
    refine W.weak [1, 5, 11, 12] [] [] [] (env' := [(1, l3 none a2), (5, l40 (some 10500) v8), (11, I6 (iShl .i64 1 a1)), (12, I6 (k1 : Int))]) (by kernel_rfl) ?_
    refine W.seq ?_
    refine W.join (σ := ((List rf1Dep))) (fun s => [(1, l3 none a2), (5, l40 (some 10500) s), (11, I6 (iShl .i64 1 a1)), (12, I6 (k1 : Int))]) (fun s => (rf1_critical_j9 (rf1_critical_l1 a2 (rf1_critical_j5) r1 (k1 + 1))) s = some r) (fun s h => ?_) (fun hK9 => ?_)
    · obtain ⟨v25, rfl⟩ : ∃ x, x = s := ⟨s, rfl⟩
      have h : (rf1_critical_j9 (rf1_critical_l1 a2 (rf1_critical_j5) r1 (k1 + 1))) v25 = some r := h
      unfold rf1_critical_j9 at h
      refine W.region (by kernel_rfl) ?_
      refine WO.pureK 0 (some (I6 (IntKind.wrap .i64 ((k1 : Int) + 1)))) (v := I6 ((k1 + 1 : Nat) : Int)) (by kernel_rfl) (by rw [wrap_succ hl1 hk1]) (e1 := [(1, l3 none a2), (5, l40 (some 10500) v25), (11, I6 (iShl .i64 1 a1)), (12, I6 (k1 : Int)), (50, I6 ((k1 + 1 : Nat) : Int))]) (by kernel_rfl) ?_
      refine WO.fin [1, 5, 11, 12] [] [] [] (e2 := [(1, l3 none a2), (5, l40 (some 10500) v25), (11, I6 (iShl .i64 1 a1)), (12, I6 ((k1 + 1 : Nat) : Int))]) (by kernel_rfl) (fun _ h => h) ?_
      exact hN1 v25 h
    refine W.block ?_
    refine W.seq ?_
    refine W.regT [1, 5, 6, 11, 12] [] [] [] (e2 := [(1, l3 none a2), (5, l40 (some 10500) v8), (6, I6 (k1 : Int)), (11, I6 (iShl .i64 1 a1)), (12, I6 (k1 : Int))]) (by kernel_rfl) (by kernel_rfl) (fun _ h => h) ?_
    refine W.seq ?_
    refine W.region (by kernel_rfl) ?_
    obtain ⟨e12, he12, h⟩ := bind_some h
    refine WO.pureK 2 (if (0 : Int) ≤ (k1 : Int) then ((List.map (AV.int .i64) a2)[Int.toNat (k1 : Int)]?).map AV.ptr else none) (v := .ptr (I6 e12)) (by kernel_rfl) (idx_av (f := (AV.int .i64)) he12) (e1 := [(1, l3 none a2), (5, l40 (some 10500) v8), (6, I6 (k1 : Int)), (11, I6 (iShl .i64 1 a1)), (12, I6 (k1 : Int)), (15, l3 none a2), (16, I6 (k1 : Int)), (17, .ptr (I6 e12))]) (by kernel_rfl) ?_
    refine WO.fin [1, 5, 6, 7, 11, 12] [] [] [] (e2 := [(1, l3 none a2), (5, l40 (some 10500) v8), (6, I6 (k1 : Int)), (7, .bool (e12 != (k1 : Int))), (11, I6 (iShl .i64 1 a1)), (12, I6 (k1 : Int))]) (by kernel_rfl) (fun _ h => h) ?_
    refine W.seq ?_
    refine W.join (σ := (Bool)) (fun s => [(1, l3 none a2), (5, l40 (some 10500) v8), (6, I6 (k1 : Int)), (7, .bool s), (11, I6 (iShl .i64 1 a1)), (12, I6 (k1 : Int))]) (fun s => (rf1_critical_j13 k1 a2 v8 (rf1_critical_j9 (rf1_critical_l1 a2 (rf1_critical_j5) r1 (k1 + 1)))) s = some r) (fun s h => ?_) (fun hK13 => ?_)
    · obtain ⟨v21, rfl⟩ : ∃ x, x = s := ⟨s, rfl⟩
      have h : (rf1_critical_j13 k1 a2 v8 (rf1_critical_j9 (rf1_critical_l1 a2 (rf1_critical_j5) r1 (k1 + 1)))) v21 = some r := h
      unfold rf1_critical_j13 at h
      refine W.seq ?_
      refine W.regT [1, 5, 6, 11, 12, 40] [] [] [] (e2 := [(1, l3 none a2), (5, l40 (some 10500) v8), (6, I6 (k1 : Int)), (11, I6 (iShl .i64 1 a1)), (12, I6 (k1 : Int)), (40, .bool v21)]) (by kernel_rfl) (by kernel_rfl) (fun _ h => h) ?_
      refine W.condB v21 (by kernel_rfl) (fun hb => ?_) (fun hb => ?_)
      · replace h := cond_t hb h
        refine W.region (by kernel_rfl) ?_
        obtain ⟨e23, he23, h⟩ := bind_some h
        refine WO.pureK 4 (if (0 : Int) ≤ (k1 : Int) then ((List.map (AV.int .i64) a2)[Int.toNat (k1 : Int)]?).map AV.ptr else none) (v := .ptr (I6 e23)) (by kernel_rfl) (idx_av (f := (AV.int .i64)) he23) (e1 := [(1, l3 none a2), (5, l40 (some 10500) v8), (6, I6 (k1 : Int)), (11, I6 (iShl .i64 1 a1)), (12, I6 (k1 : Int)), (40, .bool v21), (41, l40 (some 10500) v8), (42, I6 (k1 : Int)), (43, l3 none a2), (44, I6 (k1 : Int)), (45, .ptr (I6 e23))]) (by kernel_rfl) ?_
        obtain ⟨hc24, h⟩ := chk_some h
        refine WO.appendK 3 (d := 49) (e := 40) (s := 2) (bytes := 16) (xs := (List.map e_rf1Dep v8)) (ys := (List.map e_rf1Dep [(rf1Dep.mk (k1 : Int) e23)])) (zs := (List.map e_rf1Dep (v8 ++ [(rf1Dep.mk (k1 : Int) e23)]))) (env1 := [(1, l3 none a2), (5, l40 none v8), (6, I6 (k1 : Int)), (11, I6 (iShl .i64 1 a1)), (12, I6 (k1 : Int)), (40, .bool v21), (41, l40 none v8), (42, I6 (k1 : Int)), (43, l3 none a2), (44, I6 (k1 : Int)), (45, .ptr (I6 e23)), (46, I6 e23), (47, .agg [I6 (k1 : Int), I6 e23]), (48, l40 (some 48) [(rf1Dep.mk (k1 : Int) e23)])]) (by kernel_rfl) (List.map_append.symm) (by rw [List.length_map]; exact hc24) (e1 := [(1, l3 none a2), (5, l40 none v8), (6, I6 (k1 : Int)), (11, I6 (iShl .i64 1 a1)), (12, I6 (k1 : Int)), (40, .bool v21), (41, l40 none v8), (42, I6 (k1 : Int)), (43, l3 none a2), (44, I6 (k1 : Int)), (45, .ptr (I6 e23)), (46, I6 e23), (47, .agg [I6 (k1 : Int), I6 e23]), (48, l40 (some 48) [(rf1Dep.mk (k1 : Int) e23)]), (49, l40 (some 49) (v8 ++ [(rf1Dep.mk (k1 : Int) e23)]))]) (by kernel_rfl) ?_
        refine WO.fin [1, 5, 11, 12] [] [] [(49, some 10500)] (e2 := [(1, l3 none a2), (5, l40 (some 10500) (v8 ++ [(rf1Dep.mk (k1 : Int) e23)])), (11, I6 (iShl .i64 1 a1)), (12, I6 (k1 : Int))]) (by kernel_rfl) (fun _ h => h) ?_
        exact hK9 (v8 ++ [(rf1Dep.mk (k1 : Int) e23)]) h
      replace h := cond_f hb h
      refine W.skip ?_
      refine W.weak [1, 5, 11, 12] [] [] [] (env' := [(1, l3 none a2), (5, l40 (some 10500) v8), (11, I6 (iShl .i64 1 a1)), (12, I6 (k1 : Int))]) (by kernel_rfl) ?_
      exact hK9 v8 h
    refine W.seq ?_
    refine W.region (by kernel_rfl) ?_
    refine WO.pureK 1 (some (I6 ((List.map e_rf1Dep v8).length : Int))) (v := I6 (v8.length : Int)) (by kernel_rfl) (by rw [List.length_map]) (e1 := [(1, l3 none a2), (5, l40 (some 10500) v8), (6, I6 (k1 : Int)), (7, .bool (e12 != (k1 : Int))), (11, I6 (iShl .i64 1 a1)), (12, I6 (k1 : Int)), (21, l40 (some 10500) v8), (22, I6 (v8.length : Int))]) (by kernel_rfl) ?_
    refine WO.fin [1, 5, 6, 7, 11, 12, 21, 22, 23] [] [] [] (e2 := [(1, l3 none a2), (5, l40 (some 10500) v8), (6, I6 (k1 : Int)), (7, .bool (e12 != (k1 : Int))), (11, I6 (iShl .i64 1 a1)), (12, I6 (k1 : Int)), (21, l40 (some 10500) v8), (22, I6 (v8.length : Int)), (23, .int .i64 0)]) (by kernel_rfl) (fun _ h => h) ?_
    refine W.block ?_
    obtain ⟨hl2, h⟩ := chk_some h
    refine W.weak [1, 5, 6, 7, 11, 12, 21, 22, 23] [] [] [] (env' := [(1, l3 none a2), (5, l40 (some 10500) v8), (6, I6 (k1 : Int)), (7, .bool (e12 != (k1 : Int))), (11, I6 (iShl .i64 1 a1)), (12, I6 (k1 : Int)), (21, l40 (some 10500) v8), (22, I6 (v8.length : Int)), (23, I6 ((0 : Nat) : Int))]) (by kernel_rfl) ?_
    refine W.range (σ := (Bool)) v8 (fun k2 s => [(1, l3 none a2), (5, l40 (some 10500) v8), (6, I6 (k1 : Int)), (7, .bool s), (11, I6 (iShl .i64 1 a1)), (12, I6 (k1 : Int)), (21, l40 (some 10500) v8), (22, I6 (v8.length : Int)), (23, I6 (k2 : Int))]) (fun r0 k0 s => rf1_critical_l2 k1 (rf1_critical_j13 k1 a2 v8 (rf1_critical_j9 (rf1_critical_l1 a2 (rf1_critical_j5) r1 (k1 + 1)))) r0 k0 s = some r) (fun s h => ?_) (fun x2 r2 k2 s hx2 hk2 h hN2 => ?_) (e12 != (k1 : Int)) h
    · obtain ⟨v15, rfl⟩ : ∃ x, x = s := ⟨s, rfl⟩
      have h : rf1_critical_l2 k1 (rf1_critical_j13 k1 a2 v8 (rf1_critical_j9 (rf1_critical_l1 a2 (rf1_critical_j5) r1 (k1 + 1)))) [] (v8).length v15 = some r := h
      rw [rf1_critical_l2.eq_1] at h
      refine W.seq ?_
      refine W.region (by kernel_rfl) ?_
      refine WO.pureK 0 (some (.bool (decide (((v8).length : Int) < (v8.length : Int))))) (v := .bool false) (by kernel_rfl) (by rw [lt_false (l := v8)]) (e1 := [(1, l3 none a2), (5, l40 (some 10500) v8), (6, I6 (k1 : Int)), (7, .bool v15), (11, I6 (iShl .i64 1 a1)), (12, I6 (k1 : Int)), (21, l40 (some 10500) v8), (22, I6 (v8.length : Int)), (23, I6 ((v8).length : Int)), (24, .bool false)]) (by kernel_rfl) ?_
      refine WO.fin ([1, 5, 6, 7, 11, 12, 21, 22, 23, 24]) [] [] [] (e2 := [(1, l3 none a2), (5, l40 (some 10500) v8), (6, I6 (k1 : Int)), (7, .bool v15), (11, I6 (iShl .i64 1 a1)), (12, I6 (k1 : Int)), (21, l40 (some 10500) v8), (22, I6 (v8.length : Int)), (23, I6 ((v8).length : Int)), (24, .bool false)]) (by kernel_rfl) (fun _ h => h) ?_
      refine W.seq ?_
      refine W.condB false (by kernel_rfl) (fun h => Bool.noConfusion h) (fun _ => ?_)
      refine W.exit ?_
      refine W.weak [1, 5, 6, 7, 11, 12] [] [] [] (env' := [(1, l3 none a2), (5, l40 (some 10500) v8), (6, I6 (k1 : Int)), (7, .bool v15), (11, I6 (iShl .i64 1 a1)), (12, I6 (k1 : Int))]) (by kernel_rfl) ?_
      exact hK13 v15 h
    · obtain ⟨v15, rfl⟩ : ∃ x, x = s := ⟨s, rfl⟩
      have h : rf1_critical_l2 k1 (rf1_critical_j13 k1 a2 v8 (rf1_critical_j9 (rf1_critical_l1 a2 (rf1_critical_j5) r1 (k1 + 1)))) (x2 :: r2) k2 v15 = some r := h
      rw [rf1_critical_l2.eq_2] at h
      refine W.seq ?_
      refine W.region (by kernel_rfl) ?_
      refine WO.pureK 0 (some (.bool (decide ((k2 : Int) < (v8.length : Int))))) (v := .bool true) (by kernel_rfl) (by rw [lt_true hk2]) (e1 := [(1, l3 none a2), (5, l40 (some 10500) v8), (6, I6 (k1 : Int)), (7, .bool v15), (11, I6 (iShl .i64 1 a1)), (12, I6 (k1 : Int)), (21, l40 (some 10500) v8), (22, I6 (v8.length : Int)), (23, I6 (k2 : Int)), (24, .bool true)]) (by kernel_rfl) ?_
      refine WO.fin ([1, 5, 6, 7, 11, 12, 21, 22, 23, 24]) [] [] [] (e2 := [(1, l3 none a2), (5, l40 (some 10500) v8), (6, I6 (k1 : Int)), (7, .bool v15), (11, I6 (iShl .i64 1 a1)), (12, I6 (k1 : Int)), (21, l40 (some 10500) v8), (22, I6 (v8.length : Int)), (23, I6 (k2 : Int)), (24, .bool true)]) (by kernel_rfl) (fun _ h => h) ?_
      refine W.seq ?_
      refine W.condB true (by kernel_rfl) (fun _ => ?_) (fun h => Bool.noConfusion h)
      refine W.skip ?_
      refine W.weak [1, 5, 6, 7, 11, 12, 21, 22, 23] [] [] [] (env' := [(1, l3 none a2), (5, l40 (some 10500) v8), (6, I6 (k1 : Int)), (7, .bool v15), (11, I6 (iShl .i64 1 a1)), (12, I6 (k1 : Int)), (21, l40 (some 10500) v8), (22, I6 (v8.length : Int)), (23, I6 (k2 : Int))]) (by kernel_rfl) ?_
      refine W.seq ?_
      refine W.join (σ := (Bool)) (fun s => [(1, l3 none a2), (5, l40 (some 10500) v8), (6, I6 (k1 : Int)), (7, .bool s), (11, I6 (iShl .i64 1 a1)), (12, I6 (k1 : Int)), (21, l40 (some 10500) v8), (22, I6 (v8.length : Int)), (23, I6 (k2 : Int))]) (fun s => (rf1_critical_j16 (rf1_critical_l2 k1 (rf1_critical_j13 k1 a2 v8 (rf1_critical_j9 (rf1_critical_l1 a2 (rf1_critical_j5) r1 (k1 + 1)))) r2 (k2 + 1))) s = some r) (fun s h => ?_) (fun hK16 => ?_)
      · obtain ⟨v20, rfl⟩ : ∃ x, x = s := ⟨s, rfl⟩
        have h : (rf1_critical_j16 (rf1_critical_l2 k1 (rf1_critical_j13 k1 a2 v8 (rf1_critical_j9 (rf1_critical_l1 a2 (rf1_critical_j5) r1 (k1 + 1)))) r2 (k2 + 1))) v20 = some r := h
        unfold rf1_critical_j16 at h
        refine W.region (by kernel_rfl) ?_
        refine WO.pureK 0 (some (I6 (IntKind.wrap .i64 ((k2 : Int) + 1)))) (v := I6 ((k2 + 1 : Nat) : Int)) (by kernel_rfl) (by rw [wrap_succ hl2 hk2]) (e1 := [(1, l3 none a2), (5, l40 (some 10500) v8), (6, I6 (k1 : Int)), (7, .bool v20), (11, I6 (iShl .i64 1 a1)), (12, I6 (k1 : Int)), (21, l40 (some 10500) v8), (22, I6 (v8.length : Int)), (23, I6 (k2 : Int)), (39, I6 ((k2 + 1 : Nat) : Int))]) (by kernel_rfl) ?_
        refine WO.fin [1, 5, 6, 7, 11, 12, 21, 22, 23] [] [] [] (e2 := [(1, l3 none a2), (5, l40 (some 10500) v8), (6, I6 (k1 : Int)), (7, .bool v20), (11, I6 (iShl .i64 1 a1)), (12, I6 (k1 : Int)), (21, l40 (some 10500) v8), (22, I6 (v8.length : Int)), (23, I6 ((k2 + 1 : Nat) : Int))]) (by kernel_rfl) (fun _ h => h) ?_
        exact hN2 v20 h
      refine W.block ?_
      refine W.seq ?_
      refine W.region (by kernel_rfl) ?_
      refine WO.pureK 0 (if (0 : Int) ≤ (k2 : Int) then ((List.map e_rf1Dep v8)[Int.toNat (k2 : Int)]?).map AV.ptr else none) (v := .ptr (.agg [I6 x2.f_From, I6 x2.f_To])) (by kernel_rfl) (idx_nat (f := e_rf1Dep) hx2) (e1 := [(1, l3 none a2), (5, l40 (some 10500) v8), (6, I6 (k1 : Int)), (7, .bool v15), (11, I6 (iShl .i64 1 a1)), (12, I6 (k1 : Int)), (21, l40 (some 10500) v8), (22, I6 (v8.length : Int)), (23, I6 (k2 : Int)), (25, .ptr (.agg [I6 x2.f_From, I6 x2.f_To]))]) (by kernel_rfl) ?_
      refine WO.fin [1, 5, 6, 7, 9, 11, 12, 21, 22, 23] [9] [] [] (e2 := [(1, l3 none a2), (5, l40 (some 10500) v8), (6, I6 (k1 : Int)), (7, .bool v15), (9, .ptr (.agg [I6 x2.f_From, I6 x2.f_To])), (11, I6 (iShl .i64 1 a1)), (12, I6 (k1 : Int)), (21, l40 (some 10500) v8), (22, I6 (v8.length : Int)), (23, I6 (k2 : Int))]) (by kernel_rfl) (fun _ h => h) ?_
      refine W.seq ?_
      refine W.join (σ := (Bool)) (fun s => [(1, l3 none a2), (5, l40 (some 10500) v8), (6, I6 (k1 : Int)), (7, .bool v15), (11, I6 (iShl .i64 1 a1)), (12, I6 (k1 : Int)), (21, l40 (some 10500) v8), (22, I6 (v8.length : Int)), (23, I6 (k2 : Int)), (38, .bool s)]) (fun s => (rf1_critical_j18 v15 (rf1_critical_j16 (rf1_critical_l2 k1 (rf1_critical_j13 k1 a2 v8 (rf1_critical_j9 (rf1_critical_l1 a2 (rf1_critical_j5) r1 (k1 + 1)))) r2 (k2 + 1)))) s = some r) (fun s h => ?_) (fun hK18 => ?_)
      · obtain ⟨v19, rfl⟩ : ∃ x, x = s := ⟨s, rfl⟩
        have h : (rf1_critical_j18 v15 (rf1_critical_j16 (rf1_critical_l2 k1 (rf1_critical_j13 k1 a2 v8 (rf1_critical_j9 (rf1_critical_l1 a2 (rf1_critical_j5) r1 (k1 + 1)))) r2 (k2 + 1)))) v19 = some r := h
        unfold rf1_critical_j18 at h
        refine W.condB v19 (by kernel_rfl) (fun hb => ?_) (fun hb => ?_)
        · replace h := cond_t hb h
          refine W.regT [1, 5, 6, 7, 11, 12, 21, 22, 23] [] [] [] (e2 := [(1, l3 none a2), (5, l40 (some 10500) v8), (6, I6 (k1 : Int)), (7, .bool false), (11, I6 (iShl .i64 1 a1)), (12, I6 (k1 : Int)), (21, l40 (some 10500) v8), (22, I6 (v8.length : Int)), (23, I6 (k2 : Int))]) (by kernel_rfl) (by kernel_rfl) (fun _ h => h) ?_
          exact hK16 false h
        replace h := cond_f hb h
        refine W.skip ?_
        refine W.weak [1, 5, 6, 7, 11, 12, 21, 22, 23] [] [] [] (env' := [(1, l3 none a2), (5, l40 (some 10500) v8), (6, I6 (k1 : Int)), (7, .bool v15), (11, I6 (iShl .i64 1 a1)), (12, I6 (k1 : Int)), (21, l40 (some 10500) v8), (22, I6 (v8.length : Int)), (23, I6 (k2 : Int))]) (by kernel_rfl) ?_
        exact hK16 v15 h
      refine W.region (by kernel_rfl) ?_
      refine WO.boolK 6 (fun b => [(1, l3 none a2), (5, l40 (some 10500) v8), (6, I6 (k1 : Int)), (7, .bool v15), (9, .ptr (.agg [I6 x2.f_From, I6 x2.f_To])), (11, I6 (iShl .i64 1 a1)), (12, I6 (k1 : Int)), (21, l40 (some 10500) v8), (22, I6 (v8.length : Int)), (23, I6 (k2 : Int)), (27, .ptr (I6 x2.f_From)), (28, I6 x2.f_From), (29, I6 (k1 : Int)), (30, I6 (iAndNot .i64 x2.f_From (k1 : Int))), (31, .bool b), (32, .bool b)]) ((iAndNot .i64 x2.f_From (k1 : Int)) == 0) (by kernel_rfl) (fun hb => ?_) (fun hb => ?_)
      · replace h := cond_t hb h
        refine WO.fin [1, 5, 6, 7, 11, 12, 21, 22, 23, 38] [] [] [] (e2 := [(1, l3 none a2), (5, l40 (some 10500) v8), (6, I6 (k1 : Int)), (7, .bool v15), (11, I6 (iShl .i64 1 a1)), (12, I6 (k1 : Int)), (21, l40 (some 10500) v8), (22, I6 (v8.length : Int)), (23, I6 (k2 : Int)), (38, .bool ((iAndNot .i64 x2.f_To (k1 : Int)) != 0))]) (by kernel_rfl) (fun _ h => h) ?_
        exact hK18 ((iAndNot .i64 x2.f_To (k1 : Int)) != 0) h
      replace h := cond_f hb h
      refine WO.fin [1, 5, 6, 7, 11, 12, 21, 22, 23, 38] [] [] [] (e2 := [(1, l3 none a2), (5, l40 (some 10500) v8), (6, I6 (k1 : Int)), (7, .bool v15), (11, I6 (iShl .i64 1 a1)), (12, I6 (k1 : Int)), (21, l40 (some 10500) v8), (22, I6 (v8.length : Int)), (23, I6 (k2 : Int)), (38, .bool false)]) (by kernel_rfl) (fun _ h => h) ?_
      exact hK18 false h
def rf1_Mine_j5 (a1 : Int) (v24 : (List Int)) : Option (List rf1Dep) :=
  ((rf1_critical a1 v24).bind fun w26 => (some w26))
def rf1_Mine_j12 (v8 : (List Int)) (N1 : ((List Int) → Option (List rf1Dep))) (v22 : Int) : Option (List rf1Dep) :=
  (chk (capOk 8 ((v8 ++ [v22])).length) (N1 (v8 ++ [v22])))
def rf1_Mine_j15 (N2 : (Int → Option (List rf1Dep))) (v21 : Int) : Option (List rf1Dep) :=
  (N2 v21)
def rf1_Mine_l2 (k1 : Nat) (a2 : (List (List Int))) (K12 : (Int → Option (List rf1Dep))) : List Nat → Nat → Int → Option (List rf1Dep)
  | [], k2, v14 => (K12 v14)
  | x2 :: r2, k2, v14 => (chk (decide (0 ≤ (k2 : Int))) ((rf1_Holds a2 (rf1Dep.mk (k1 : Int) (iShl .i64 1 (k2 : Int)))).bind fun w19 => (bif w19 then (chk (decide (0 ≤ (k2 : Int))) ((rf1_Mine_j15 (rf1_Mine_l2 k1 a2 K12 r2 (k2 + 1))) (iOr .i64 v14 (iShl .i64 1 (k2 : Int))))) else ((rf1_Mine_j15 (rf1_Mine_l2 k1 a2 K12 r2 (k2 + 1))) v14))))
def rf1_Mine_l1 (a1 : Int) (a2 : (List (List Int))) (K5 : ((List Int) → Option (List rf1Dep))) : List Nat → Nat → (List Int) → Option (List rf1Dep)
  | [], k1, v8 => (K5 v8)
  | x1 :: r1, k1, v8 => (chk (lenOk (List.range (Int.toNat a1))) (rf1_Mine_l2 k1 a2 (rf1_Mine_j12 v8 (rf1_Mine_l1 a1 a2 K5 r1 (k1 + 1))) (List.range (Int.toNat a1)) 0 0))
def rf1_Mine (a1 : Int) (a2 : (List (List Int))) : Option (List rf1Dep) :=
  (chk (decide (0 ≤ a1)) (chk (lenOk (List.range (Int.toNat (iShl .i64 1 a1)))) (rf1_Mine_l1 a1 a2 (rf1_Mine_j5 a1) (List.range (Int.toNat (iShl .i64 1 a1))) 0 ([] : (List Int)))))
theorem run_rf1_Mine (a1 : Int) (a2 : (List (List Int))) (r : (List rf1Dep)) (h : rf1_Mine a1 a2 = some r) : Run Try.prog (.call 55 [I6 a1, l35 none a2] (l40 (some 1) r)) := by
  refine call_of_W Try.func55 rfl (by kernel_rfl) (env0 := [(0, I6 a1), (1, l35 none a2)]) (by kernel_rfl) ?_
  unfold rf1_Mine at h
  refine W.seq ?_
  refine W.regT [0, 1] [] [] [] (e2 := [(0, I6 a1), (1, l35 none a2)]) (by kernel_rfl) (by kernel_rfl) (fun _ h => h) ?_
  refine W.seq ?_
  refine W.regT [0, 1, 5] [] [] [] (e2 := [(0, I6 a1), (1, l35 none a2), (5, .nils)]) (by kernel_rfl) (by kernel_rfl) (fun _ h => h) ?_
  refine W.seq ?_
  refine W.join (σ := ((List Int))) (fun s => [(0, I6 a1), (5, l3 (some 10500) s)]) (fun s => (rf1_Mine_j5 a1) s = some r) (fun s h => ?_) (fun hK5 => ?_)
  · obtain ⟨v24, rfl⟩ : ∃ x, x = s := ⟨s, rfl⟩
    have h : (rf1_Mine_j5 a1) v24 = some r := h
    unfold rf1_Mine_j5 at h
    refine W.seq ?_
    refine W.region (by kernel_rfl) ?_
    obtain ⟨w26, hw26, h⟩ := bind_some h
    refine WO.callK 2 (F := 71) (l := [I6 a1, l3 none v24]) (C := []) (r := l40 (some 1) w26) (by kernel_rfl) (by kernel_rfl) (run_rf1_critical a1 v24 w26 hw26) (e1 := [(0, I6 a1), (5, l3 (some 10500) v24), (34, I6 a1), (35, l3 (some 10500) v24), (36, l40 (some 36) w26)]) (by kernel_rfl) ?_
    refine WO.fin [4] [] [] [] (e2 := [(4, l40 (some 36) w26)]) (by kernel_rfl) (fun _ h => h) ?_
    refine W.weak [4] [] [] [(36, some 1)] (env' := [(4, l40 (some 1) w26)]) (by kernel_rfl) ?_
    have hr : aresults Try.prog Try.f55 [(4, l40 (some 1) w26)] = some (l40 (some 1) w26) := by kernel_rfl
    cases h
    exact W.ret hr
  refine W.seq ?_
  refine W.region (by kernel_rfl) ?_
  obtain ⟨hc7, h⟩ := chk_some h
  refine WO.pureK 1 (if a1 < 0 then none else some (I6 (iShl .i64 1 a1))) (v := I6 (iShl .i64 1 a1)) (by kernel_rfl) (if_neg (not_lt_of_chk hc7)) (e1 := [(0, I6 a1), (1, l35 none a2), (5, .nils), (9, I6 a1), (10, I6 (iShl .i64 1 a1))]) (by kernel_rfl) ?_
  refine WO.fin [0, 1, 5, 10, 11] [] [] [] (e2 := [(0, I6 a1), (1, l35 none a2), (5, .nils), (10, I6 (iShl .i64 1 a1)), (11, .int .i64 0)]) (by kernel_rfl) (fun _ h => h) ?_
  refine W.block ?_
  obtain ⟨hl1, h⟩ := chk_some h
  refine W.weak [0, 1, 5, 10, 11] [] [(5, 0, 3, 1, 10500)] [] (env' := [(0, I6 a1), (1, l35 none a2), (5, l3 (some 10500) ([] : (List Int))), (10, I6 (iShl .i64 1 a1)), (11, I6 ((0 : Nat) : Int))]) (by kernel_rfl) ?_
  refine W.range (σ := ((List Int))) (List.range (Int.toNat (iShl .i64 1 a1))) (fun k1 s => [(0, I6 a1), (1, l35 none a2), (5, l3 (some 10500) s), (10, I6 (iShl .i64 1 a1)), (11, I6 (k1 : Int))]) (fun r0 k0 s => rf1_Mine_l1 a1 a2 (rf1_Mine_j5 a1) r0 k0 s = some r) (fun s h => ?_) (fun x1 r1 k1 s hx1 hk1 h hN1 => ?_) ([] : (List Int)) h
  · obtain ⟨v8, rfl⟩ : ∃ x, x = s := ⟨s, rfl⟩
    have h : rf1_Mine_l1 a1 a2 (rf1_Mine_j5 a1) [] ((List.range (Int.toNat (iShl .i64 1 a1)))).length v8 = some r := h
    rw [rf1_Mine_l1.eq_1] at h
    refine W.seq ?_
    refine W.region (by kernel_rfl) ?_
    refine WO.pureK 0 (some (.bool (decide ((((List.range (Int.toNat (iShl .i64 1 a1)))).length : Int) < (iShl .i64 1 a1))))) (v := .bool false) (by kernel_rfl) (by rw [ltr_false (n := (iShl .i64 1 a1))]) (e1 := [(0, I6 a1), (1, l35 none a2), (5, l3 (some 10500) v8), (10, I6 (iShl .i64 1 a1)), (11, I6 (((List.range (Int.toNat (iShl .i64 1 a1)))).length : Int)), (12, .bool false)]) (by kernel_rfl) ?_
    refine WO.fin ([0, 1, 5, 10, 11, 12]) [] [] [] (e2 := [(0, I6 a1), (1, l35 none a2), (5, l3 (some 10500) v8), (10, I6 (iShl .i64 1 a1)), (11, I6 (((List.range (Int.toNat (iShl .i64 1 a1)))).length : Int)), (12, .bool false)]) (by kernel_rfl) (fun _ h => h) ?_
    refine W.seq ?_
    refine W.condB false (by kernel_rfl) (fun h => Bool.noConfusion h) (fun _ => ?_)
    refine W.exit ?_
    refine W.weak [0, 5] [] [] [] (env' := [(0, I6 a1), (5, l3 (some 10500) v8)]) (by kernel_rfl) ?_
    exact hK5 v8 h
  · obtain ⟨v8, rfl⟩ : ∃ x, x = s := ⟨s, rfl⟩
    have h : rf1_Mine_l1 a1 a2 (rf1_Mine_j5 a1) (x1 :: r1) k1 v8 = some r := h
    rw [rf1_Mine_l1.eq_2] at h
    refine W.seq ?_
    refine W.region (by kernel_rfl) ?_
    refine WO.pureK 0 (some (.bool (decide ((k1 : Int) < (iShl .i64 1 a1))))) (v := .bool true) (by kernel_rfl) (by rw [ltr_true hk1]) (e1 := [(0, I6 a1), (1, l35 none a2), (5, l3 (some 10500) v8), (10, I6 (iShl .i64 1 a1)), (11, I6 (k1 : Int)), (12, .bool true)]) (by kernel_rfl) ?_
    refine WO.fin ([0, 1, 5, 10, 11, 12]) [] [] [] (e2 := [(0, I6 a1), (1, l35 none a2), (5, l3 (some 10500) v8), (10, I6 (iShl .i64 1 a1)), (11, I6 (k1 : Int)), (12, .bool true)]) (by kernel_rfl) (fun _ h => h) ?_
    refine W.seq ?_
    refine W.condB true (by kernel_rfl) (fun _ => ?_) (fun h => Bool.noConfusion h)
    refine W.skip ?_
    refine W.weak [0, 1, 5, 10, 11] [] [] [] (env' := [(0, I6 a1), (1, l35 none a2), (5, l3 (some 10500) v8), (10, I6 (iShl .i64 1 a1)), (11, I6 (k1 : Int))]) (by kernel_rfl) ?_
    refine W.seq ?_
    refine W.block ?_
    refine W.seq ?_
    refine W.regT [0, 1, 5, 6, 10, 11] [] [] [] (e2 := [(0, I6 a1), (1, l35 none a2), (5, l3 (some 10500) v8), (6, I6 (k1 : Int)), (10, I6 (iShl .i64 1 a1)), (11, I6 (k1 : Int))]) (by kernel_rfl) (by kernel_rfl) (fun _ h => h) ?_
    refine W.seq ?_
    refine W.regT [0, 1, 5, 6, 7, 10, 11] [] [] [] (e2 := [(0, I6 a1), (1, l35 none a2), (5, l3 (some 10500) v8), (6, I6 (k1 : Int)), (7, .int .i64 0), (10, I6 (iShl .i64 1 a1)), (11, I6 (k1 : Int))]) (by kernel_rfl) (by kernel_rfl) (fun _ h => h) ?_
    refine W.seq ?_
    refine W.join (σ := (Int)) (fun s => [(0, I6 a1), (1, l35 none a2), (5, l3 (some 10500) v8), (7, I6 s), (10, I6 (iShl .i64 1 a1)), (11, I6 (k1 : Int))]) (fun s => (rf1_Mine_j12 v8 (rf1_Mine_l1 a1 a2 (rf1_Mine_j5 a1) r1 (k1 + 1))) s = some r) (fun s h => ?_) (fun hK12 => ?_)
    · obtain ⟨v22, rfl⟩ : ∃ x, x = s := ⟨s, rfl⟩
      have h : (rf1_Mine_j12 v8 (rf1_Mine_l1 a1 a2 (rf1_Mine_j5 a1) r1 (k1 + 1))) v22 = some r := h
      unfold rf1_Mine_j12 at h
      refine W.region (by kernel_rfl) ?_
      obtain ⟨hc23, h⟩ := chk_some h
      refine WO.appendK 3 (d := 32) (e := 3) (s := 1) (bytes := 8) (xs := (List.map (AV.int .i64) v8)) (ys := (List.map (AV.int .i64) [v22])) (zs := (List.map (AV.int .i64) (v8 ++ [v22]))) (env1 := [(0, I6 a1), (1, l35 none a2), (5, l3 none v8), (7, I6 v22), (10, I6 (iShl .i64 1 a1)), (11, I6 (k1 : Int)), (29, l3 none v8), (30, I6 v22), (31, l3 (some 31) [v22])]) (by kernel_rfl) (List.map_append.symm) (by rw [List.length_map]; exact hc23) (e1 := [(0, I6 a1), (1, l35 none a2), (5, l3 none v8), (7, I6 v22), (10, I6 (iShl .i64 1 a1)), (11, I6 (k1 : Int)), (29, l3 none v8), (30, I6 v22), (31, l3 (some 31) [v22]), (32, l3 (some 32) (v8 ++ [v22]))]) (by kernel_rfl) ?_
      refine WO.fin [0, 1, 5, 10, 11] [] [] [] (e2 := [(0, I6 a1), (1, l35 none a2), (5, l3 (some 32) (v8 ++ [v22])), (10, I6 (iShl .i64 1 a1)), (11, I6 (k1 : Int))]) (by kernel_rfl) (fun _ h => h) ?_
      refine W.region (by kernel_rfl) ?_
      refine WO.pureK 0 (some (I6 (IntKind.wrap .i64 ((k1 : Int) + 1)))) (v := I6 ((k1 + 1 : Nat) : Int)) (by kernel_rfl) (by rw [wrap_succ hl1 hk1]) (e1 := [(0, I6 a1), (1, l35 none a2), (5, l3 (some 32) (v8 ++ [v22])), (10, I6 (iShl .i64 1 a1)), (11, I6 (k1 : Int)), (33, I6 ((k1 + 1 : Nat) : Int))]) (by kernel_rfl) ?_
      refine WO.fin [0, 1, 5, 10, 11] [] [] [(32, some 10500)] (e2 := [(0, I6 a1), (1, l35 none a2), (5, l3 (some 10500) (v8 ++ [v22])), (10, I6 (iShl .i64 1 a1)), (11, I6 ((k1 + 1 : Nat) : Int))]) (by kernel_rfl) (fun _ h => h) ?_
      exact hN1 (v8 ++ [v22]) h
    refine W.seq ?_
    refine W.regT [0, 1, 5, 6, 7, 10, 11, 14, 15] [] [] [] (e2 := [(0, I6 a1), (1, l35 none a2), (5, l3 (some 10500) v8), (6, I6 (k1 : Int)), (7, .int .i64 0), (10, I6 (iShl .i64 1 a1)), (11, I6 (k1 : Int)), (14, I6 a1), (15, .int .i64 0)]) (by kernel_rfl) (by kernel_rfl) (fun _ h => h) ?_
    refine W.block ?_
    obtain ⟨hl2, h⟩ := chk_some h
    refine W.weak [0, 1, 5, 6, 7, 10, 11, 14, 15] [] [] [] (env' := [(0, I6 a1), (1, l35 none a2), (5, l3 (some 10500) v8), (6, I6 (k1 : Int)), (7, .int .i64 0), (10, I6 (iShl .i64 1 a1)), (11, I6 (k1 : Int)), (14, I6 a1), (15, I6 ((0 : Nat) : Int))]) (by kernel_rfl) ?_
    refine W.range (σ := (Int)) (List.range (Int.toNat a1)) (fun k2 s => [(0, I6 a1), (1, l35 none a2), (5, l3 (some 10500) v8), (6, I6 (k1 : Int)), (7, I6 s), (10, I6 (iShl .i64 1 a1)), (11, I6 (k1 : Int)), (14, I6 a1), (15, I6 (k2 : Int))]) (fun r0 k0 s => rf1_Mine_l2 k1 a2 (rf1_Mine_j12 v8 (rf1_Mine_l1 a1 a2 (rf1_Mine_j5 a1) r1 (k1 + 1))) r0 k0 s = some r) (fun s h => ?_) (fun x2 r2 k2 s hx2 hk2 h hN2 => ?_) 0 h
    · obtain ⟨v14, rfl⟩ : ∃ x, x = s := ⟨s, rfl⟩
      have h : rf1_Mine_l2 k1 a2 (rf1_Mine_j12 v8 (rf1_Mine_l1 a1 a2 (rf1_Mine_j5 a1) r1 (k1 + 1))) [] ((List.range (Int.toNat a1))).length v14 = some r := h
      rw [rf1_Mine_l2.eq_1] at h
      refine W.seq ?_
      refine W.region (by kernel_rfl) ?_
      refine WO.pureK 0 (some (.bool (decide ((((List.range (Int.toNat a1))).length : Int) < a1)))) (v := .bool false) (by kernel_rfl) (by rw [ltr_false (n := a1)]) (e1 := [(0, I6 a1), (1, l35 none a2), (5, l3 (some 10500) v8), (6, I6 (k1 : Int)), (7, I6 v14), (10, I6 (iShl .i64 1 a1)), (11, I6 (k1 : Int)), (14, I6 a1), (15, I6 (((List.range (Int.toNat a1))).length : Int)), (16, .bool false)]) (by kernel_rfl) ?_
      refine WO.fin ([0, 1, 5, 6, 7, 10, 11, 14, 15, 16]) [] [] [] (e2 := [(0, I6 a1), (1, l35 none a2), (5, l3 (some 10500) v8), (6, I6 (k1 : Int)), (7, I6 v14), (10, I6 (iShl .i64 1 a1)), (11, I6 (k1 : Int)), (14, I6 a1), (15, I6 (((List.range (Int.toNat a1))).length : Int)), (16, .bool false)]) (by kernel_rfl) (fun _ h => h) ?_
      refine W.seq ?_
      refine W.condB false (by kernel_rfl) (fun h => Bool.noConfusion h) (fun _ => ?_)
      refine W.exit ?_
      refine W.weak [0, 1, 5, 7, 10, 11] [] [] [] (env' := [(0, I6 a1), (1, l35 none a2), (5, l3 (some 10500) v8), (7, I6 v14), (10, I6 (iShl .i64 1 a1)), (11, I6 (k1 : Int))]) (by kernel_rfl) ?_
      exact hK12 v14 h
    · obtain ⟨v14, rfl⟩ : ∃ x, x = s := ⟨s, rfl⟩
      have h : rf1_Mine_l2 k1 a2 (rf1_Mine_j12 v8 (rf1_Mine_l1 a1 a2 (rf1_Mine_j5 a1) r1 (k1 + 1))) (x2 :: r2) k2 v14 = some r := h
      rw [rf1_Mine_l2.eq_2] at h
      refine W.seq ?_
      refine W.region (by kernel_rfl) ?_
      refine WO.pureK 0 (some (.bool (decide ((k2 : Int) < a1)))) (v := .bool true) (by kernel_rfl) (by rw [ltr_true hk2]) (e1 := [(0, I6 a1), (1, l35 none a2), (5, l3 (some 10500) v8), (6, I6 (k1 : Int)), (7, I6 v14), (10, I6 (iShl .i64 1 a1)), (11, I6 (k1 : Int)), (14, I6 a1), (15, I6 (k2 : Int)), (16, .bool true)]) (by kernel_rfl) ?_
      refine WO.fin ([0, 1, 5, 6, 7, 10, 11, 14, 15, 16]) [] [] [] (e2 := [(0, I6 a1), (1, l35 none a2), (5, l3 (some 10500) v8), (6, I6 (k1 : Int)), (7, I6 v14), (10, I6 (iShl .i64 1 a1)), (11, I6 (k1 : Int)), (14, I6 a1), (15, I6 (k2 : Int)), (16, .bool true)]) (by kernel_rfl) (fun _ h => h) ?_
      refine W.seq ?_
      refine W.condB true (by kernel_rfl) (fun _ => ?_) (fun h => Bool.noConfusion h)
      refine W.skip ?_
      refine W.weak [0, 1, 5, 6, 7, 10, 11, 14, 15] [] [] [] (env' := [(0, I6 a1), (1, l35 none a2), (5, l3 (some 10500) v8), (6, I6 (k1 : Int)), (7, I6 v14), (10, I6 (iShl .i64 1 a1)), (11, I6 (k1 : Int)), (14, I6 a1), (15, I6 (k2 : Int))]) (by kernel_rfl) ?_
      refine W.seq ?_
      refine W.join (σ := (Int)) (fun s => [(0, I6 a1), (1, l35 none a2), (5, l3 (some 10500) v8), (6, I6 (k1 : Int)), (7, I6 s), (10, I6 (iShl .i64 1 a1)), (11, I6 (k1 : Int)), (14, I6 a1), (15, I6 (k2 : Int))]) (fun s => (rf1_Mine_j15 (rf1_Mine_l2 k1 a2 (rf1_Mine_j12 v8 (rf1_Mine_l1 a1 a2 (rf1_Mine_j5 a1) r1 (k1 + 1))) r2 (k2 + 1))) s = some r) (fun s h => ?_) (fun hK15 => ?_)
      · obtain ⟨v21, rfl⟩ : ∃ x, x = s := ⟨s, rfl⟩
        have h : (rf1_Mine_j15 (rf1_Mine_l2 k1 a2 (rf1_Mine_j12 v8 (rf1_Mine_l1 a1 a2 (rf1_Mine_j5 a1) r1 (k1 + 1))) r2 (k2 + 1))) v21 = some r := h
        unfold rf1_Mine_j15 at h
        refine W.region (by kernel_rfl) ?_
        refine WO.pureK 0 (some (I6 (IntKind.wrap .i64 ((k2 : Int) + 1)))) (v := I6 ((k2 + 1 : Nat) : Int)) (by kernel_rfl) (by rw [wrap_succ hl2 hk2]) (e1 := [(0, I6 a1), (1, l35 none a2), (5, l3 (some 10500) v8), (6, I6 (k1 : Int)), (7, I6 v21), (10, I6 (iShl .i64 1 a1)), (11, I6 (k1 : Int)), (14, I6 a1), (15, I6 (k2 : Int)), (28, I6 ((k2 + 1 : Nat) : Int))]) (by kernel_rfl) ?_
        refine WO.fin [0, 1, 5, 6, 7, 10, 11, 14, 15] [] [] [] (e2 := [(0, I6 a1), (1, l35 none a2), (5, l3 (some 10500) v8), (6, I6 (k1 : Int)), (7, I6 v21), (10, I6 (iShl .i64 1 a1)), (11, I6 (k1 : Int)), (14, I6 a1), (15, I6 ((k2 + 1 : Nat) : Int))]) (by kernel_rfl) (fun _ h => h) ?_
        exact hN2 v21 h
      refine W.block ?_
      refine W.seq ?_
      refine W.regT [0, 1, 5, 6, 7, 8, 10, 11, 14, 15] [] [] [] (e2 := [(0, I6 a1), (1, l35 none a2), (5, l3 (some 10500) v8), (6, I6 (k1 : Int)), (7, I6 v14), (8, I6 (k2 : Int)), (10, I6 (iShl .i64 1 a1)), (11, I6 (k1 : Int)), (14, I6 a1), (15, I6 (k2 : Int))]) (by kernel_rfl) (by kernel_rfl) (fun _ h => h) ?_
      refine W.seq ?_
      refine W.region (by kernel_rfl) ?_
      obtain ⟨hc18, h⟩ := chk_some h
      refine WO.pureK 3 (if (k2 : Int) < 0 then none else some (I6 (iShl .i64 1 (k2 : Int)))) (v := I6 (iShl .i64 1 (k2 : Int))) (by kernel_rfl) (if_neg (not_lt_of_chk hc18)) (e1 := [(0, I6 a1), (1, l35 none a2), (5, l3 (some 10500) v8), (6, I6 (k1 : Int)), (7, I6 v14), (8, I6 (k2 : Int)), (10, I6 (iShl .i64 1 a1)), (11, I6 (k1 : Int)), (14, I6 a1), (15, I6 (k2 : Int)), (18, l35 none a2), (19, I6 (k1 : Int)), (20, I6 (k2 : Int)), (21, I6 (iShl .i64 1 (k2 : Int)))]) (by kernel_rfl) ?_
      obtain ⟨w19, hw19, h⟩ := bind_some h
      refine WO.callK 1 (F := 56) (l := [l35 none a2, .agg [I6 (k1 : Int), I6 (iShl .i64 1 (k2 : Int))]]) (C := []) (r := .bool w19) (by kernel_rfl) (by kernel_rfl) (run_rf1_Holds a2 (rf1Dep.mk (k1 : Int) (iShl .i64 1 (k2 : Int))) w19 hw19) (e1 := [(0, I6 a1), (1, l35 none a2), (5, l3 (some 10500) v8), (6, I6 (k1 : Int)), (7, I6 v14), (8, I6 (k2 : Int)), (10, I6 (iShl .i64 1 a1)), (11, I6 (k1 : Int)), (14, I6 a1), (15, I6 (k2 : Int)), (18, l35 none a2), (19, I6 (k1 : Int)), (20, I6 (k2 : Int)), (21, I6 (iShl .i64 1 (k2 : Int))), (22, .agg [I6 (k1 : Int), I6 (iShl .i64 1 (k2 : Int))]), (23, .bool w19)]) (by kernel_rfl) ?_
      refine WO.fin [0, 1, 5, 6, 7, 8, 10, 11, 14, 15, 23] [] [] [] (e2 := [(0, I6 a1), (1, l35 none a2), (5, l3 (some 10500) v8), (6, I6 (k1 : Int)), (7, I6 v14), (8, I6 (k2 : Int)), (10, I6 (iShl .i64 1 a1)), (11, I6 (k1 : Int)), (14, I6 a1), (15, I6 (k2 : Int)), (23, .bool w19)]) (by kernel_rfl) (fun _ h => h) ?_
      refine W.condB w19 (by kernel_rfl) (fun hb => ?_) (fun hb => ?_)
      · replace h := cond_t hb h
        refine W.region (by kernel_rfl) ?_
        obtain ⟨hc20, h⟩ := chk_some h
        refine WO.pureK 2 (if (k2 : Int) < 0 then none else some (I6 (iShl .i64 1 (k2 : Int)))) (v := I6 (iShl .i64 1 (k2 : Int))) (by kernel_rfl) (if_neg (not_lt_of_chk hc20)) (e1 := [(0, I6 a1), (1, l35 none a2), (5, l3 (some 10500) v8), (6, I6 (k1 : Int)), (7, I6 v14), (8, I6 (k2 : Int)), (10, I6 (iShl .i64 1 a1)), (11, I6 (k1 : Int)), (14, I6 a1), (15, I6 (k2 : Int)), (23, .bool w19), (24, I6 v14), (25, I6 (k2 : Int)), (26, I6 (iShl .i64 1 (k2 : Int)))]) (by kernel_rfl) ?_
        refine WO.fin [0, 1, 5, 6, 7, 10, 11, 14, 15] [] [] [] (e2 := [(0, I6 a1), (1, l35 none a2), (5, l3 (some 10500) v8), (6, I6 (k1 : Int)), (7, I6 (iOr .i64 v14 (iShl .i64 1 (k2 : Int)))), (10, I6 (iShl .i64 1 a1)), (11, I6 (k1 : Int)), (14, I6 a1), (15, I6 (k2 : Int))]) (by kernel_rfl) (fun _ h => h) ?_
        exact hK15 (iOr .i64 v14 (iShl .i64 1 (k2 : Int))) h
      replace h := cond_f hb h
      refine W.skip ?_
      refine W.weak [0, 1, 5, 6, 7, 10, 11, 14, 15] [] [] [] (env' := [(0, I6 a1), (1, l35 none a2), (5, l3 (some 10500) v8), (6, I6 (k1 : Int)), (7, I6 v14), (10, I6 (iShl .i64 1 a1)), (11, I6 (k1 : Int)), (14, I6 a1), (15, I6 (k2 : Int))]) (by kernel_rfl) ?_
      exact hK15 v14 h

end Go.AM
