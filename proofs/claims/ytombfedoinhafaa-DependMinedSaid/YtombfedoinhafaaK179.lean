/- PRINTED by gen.py: pure functions and the proofs that the code computes them. No statement of the seat is proved here. -/
import Derived.Test.YtombfedoinhafaaK178
set_option maxRecDepth 100000
set_option linter.unusedVariables false
set_option linter.unusedSimpArgs false
namespace Go.AM
open Go.Proofs
def sl_IndexFunc_int_j4 : Option Int :=
  (some (-1))
def sl_IndexFunc_int_l1 (g2 : (Int → Option Bool)) (K4 : (Option Int)) : List Int → Nat → Option Int
  | [], k1 => K4
  | x1 :: r1, k1 => ((g2 x1).bind fun w9 => (bif w9 then (some (k1 : Int)) else (sl_IndexFunc_int_l1 g2 K4 r1 (k1 + 1))))
def sl_IndexFunc_int (a1 : (List Int)) (g2 : (Int → Option Bool)) : Option Int :=
  (chk (lenOk a1) (sl_IndexFunc_int_l1 g2 (sl_IndexFunc_int_j4) a1 0))
theorem run_sl_IndexFunc_int (a1 : (List Int)) (g2 : (Int → Option Bool)) (F_g2 : Nat) (C_g2 : List AV) (hok_g2 : okFn Try.prog F_g2 = true) (hrun_g2 : ∀ (x0 : Int) r, g2 x0 = some r → Run Try.prog (.call F_g2 ([I6 x0] ++ C_g2) (.bool r))) (r : Int) (h : sl_IndexFunc_int a1 g2 = some r) : Run Try.prog (.call 78 [l3 none a1, .clo F_g2 C_g2] (I6 r)) := by
  refine call_of_W Try.func78 rfl (by kernel_rfl) (env0 := [(0, l3 none a1), (1, .clo F_g2 C_g2)]) (by kernel_rfl) ?_
  unfold sl_IndexFunc_int at h
  refine W.seq ?_
  refine W.regT [0, 1] [] [] [] (e2 := [(0, l3 none a1), (1, .clo F_g2 C_g2)]) (by kernel_rfl) (by kernel_rfl) (fun _ h => h) ?_
  refine W.seq ?_
  refine W.join (σ := Unit) (fun s => []) (fun s => (sl_IndexFunc_int_j4) = some r) (fun s h => ?_) (fun hK4 => ?_)
  · have h : (sl_IndexFunc_int_j4) = some r := h
    unfold sl_IndexFunc_int_j4 at h
    refine W.seq ?_
    refine W.regT [4] [] [] [] (e2 := [(4, I6 (-1))]) (by kernel_rfl) (by kernel_rfl) (fun _ h => h) ?_
    refine W.weak [4] [] [] [] (env' := [(4, I6 (-1))]) (by kernel_rfl) ?_
    have hr : aresults Try.prog Try.f78 [(4, I6 (-1))] = some (I6 (-1)) := by kernel_rfl
    cases h
    exact W.ret hr
  refine W.seq ?_
  refine W.region (by kernel_rfl) ?_
  refine WO.pureK 1 (some (I6 ((List.map (AV.int .i64) a1).length : Int))) (v := I6 (a1.length : Int)) (by kernel_rfl) (by rw [List.length_map]) (e1 := [(0, l3 none a1), (1, .clo F_g2 C_g2), (6, l3 none a1), (7, I6 (a1.length : Int))]) (by kernel_rfl) ?_
  refine WO.fin [0, 1, 7, 8] [] [] [] (e2 := [(0, l3 none a1), (1, .clo F_g2 C_g2), (7, I6 (a1.length : Int)), (8, .int .i64 0)]) (by kernel_rfl) (fun _ h => h) ?_
  refine W.block ?_
  obtain ⟨hl1, h⟩ := chk_some h
  refine W.weak [0, 1, 7, 8] [] [] [] (env' := [(0, l3 none a1), (1, .clo F_g2 C_g2), (7, I6 (a1.length : Int)), (8, I6 ((0 : Nat) : Int))]) (by kernel_rfl) ?_
  refine W.range (σ := Unit) a1 (fun k1 s => [(0, l3 none a1), (1, .clo F_g2 C_g2), (7, I6 (a1.length : Int)), (8, I6 (k1 : Int))]) (fun r0 k0 s => sl_IndexFunc_int_l1 g2 (sl_IndexFunc_int_j4) r0 k0 = some r) (fun s h => ?_) (fun x1 r1 k1 s hx1 hk1 h hN1 => ?_) () h
  · have h : sl_IndexFunc_int_l1 g2 (sl_IndexFunc_int_j4) [] (a1).length = some r := h
    rw [sl_IndexFunc_int_l1.eq_1] at h
    refine W.seq ?_
    refine W.region (by kernel_rfl) ?_
    refine WO.pureK 0 (some (.bool (decide (((a1).length : Int) < (a1.length : Int))))) (v := .bool false) (by kernel_rfl) (by rw [lt_false (l := a1)]) (e1 := [(0, l3 none a1), (1, .clo F_g2 C_g2), (7, I6 (a1.length : Int)), (8, I6 ((a1).length : Int)), (9, .bool false)]) (by kernel_rfl) ?_
    refine WO.fin ([0, 1, 7, 8, 9]) [] [] [] (e2 := [(0, l3 none a1), (1, .clo F_g2 C_g2), (7, I6 (a1.length : Int)), (8, I6 ((a1).length : Int)), (9, .bool false)]) (by kernel_rfl) (fun _ h => h) ?_
    refine W.seq ?_
    refine W.condB false (by kernel_rfl) (fun h => Bool.noConfusion h) (fun _ => ?_)
    refine W.exit ?_
    refine W.weak [] [] [] [] (env' := []) (by kernel_rfl) ?_
    exact hK4 () h
  · have h : sl_IndexFunc_int_l1 g2 (sl_IndexFunc_int_j4) (x1 :: r1) k1 = some r := h
    rw [sl_IndexFunc_int_l1.eq_2] at h
    refine W.seq ?_
    refine W.region (by kernel_rfl) ?_
    refine WO.pureK 0 (some (.bool (decide ((k1 : Int) < (a1.length : Int))))) (v := .bool true) (by kernel_rfl) (by rw [lt_true hk1]) (e1 := [(0, l3 none a1), (1, .clo F_g2 C_g2), (7, I6 (a1.length : Int)), (8, I6 (k1 : Int)), (9, .bool true)]) (by kernel_rfl) ?_
    refine WO.fin ([0, 1, 7, 8, 9]) [] [] [] (e2 := [(0, l3 none a1), (1, .clo F_g2 C_g2), (7, I6 (a1.length : Int)), (8, I6 (k1 : Int)), (9, .bool true)]) (by kernel_rfl) (fun _ h => h) ?_
    refine W.seq ?_
    refine W.condB true (by kernel_rfl) (fun _ => ?_) (fun h => Bool.noConfusion h)
    refine W.skip ?_
    refine W.weak [0, 1, 7, 8] [] [] [] (env' := [(0, l3 none a1), (1, .clo F_g2 C_g2), (7, I6 (a1.length : Int)), (8, I6 (k1 : Int))]) (by kernel_rfl) ?_
    refine W.seq ?_
    refine W.block ?_
    refine W.seq ?_
    refine W.regT [0, 1, 5, 7, 8] [] [] [] (e2 := [(0, l3 none a1), (1, .clo F_g2 C_g2), (5, I6 (k1 : Int)), (7, I6 (a1.length : Int)), (8, I6 (k1 : Int))]) (by kernel_rfl) (by kernel_rfl) (fun _ h => h) ?_
    refine W.seq ?_
    refine W.region (by kernel_rfl) ?_
    refine WO.pureK 3 (if (0 : Int) ≤ (k1 : Int) then ((List.map (AV.int .i64) a1)[Int.toNat (k1 : Int)]?).map AV.ptr else none) (v := .ptr (I6 x1)) (by kernel_rfl) (idx_nat (f := (AV.int .i64)) hx1) (e1 := [(0, l3 none a1), (1, .clo F_g2 C_g2), (5, I6 (k1 : Int)), (7, I6 (a1.length : Int)), (8, I6 (k1 : Int)), (11, .clo F_g2 C_g2), (12, l3 none a1), (13, I6 (k1 : Int)), (14, .ptr (I6 x1))]) (by kernel_rfl) ?_
    obtain ⟨w9, hw9, h⟩ := bind_some h
    refine WO.callK 1 (F := F_g2) (l := [I6 x1]) (C := C_g2) (r := .bool w9) (by kernel_rfl) hok_g2 (hrun_g2 x1 w9 hw9) (e1 := [(0, l3 none a1), (1, .clo F_g2 C_g2), (5, I6 (k1 : Int)), (7, I6 (a1.length : Int)), (8, I6 (k1 : Int)), (11, .clo F_g2 C_g2), (12, l3 none a1), (13, I6 (k1 : Int)), (14, .ptr (I6 x1)), (15, I6 x1), (16, .bool w9)]) (by kernel_rfl) ?_
    refine WO.fin [0, 1, 5, 7, 8, 16] [] [] [] (e2 := [(0, l3 none a1), (1, .clo F_g2 C_g2), (5, I6 (k1 : Int)), (7, I6 (a1.length : Int)), (8, I6 (k1 : Int)), (16, .bool w9)]) (by kernel_rfl) (fun _ h => h) ?_
    refine W.condB w9 (by kernel_rfl) (fun hb => ?_) (fun hb => ?_)
    · replace h := cond_t hb h
      refine W.seq ?_
      refine W.regT [4] [] [] [] (e2 := [(4, I6 (k1 : Int))]) (by kernel_rfl) (by kernel_rfl) (fun _ h => h) ?_
      refine W.weak [4] [] [] [] (env' := [(4, I6 (k1 : Int))]) (by kernel_rfl) ?_
      have hr : aresults Try.prog Try.f78 [(4, I6 (k1 : Int))] = some (I6 (k1 : Int)) := by kernel_rfl
      cases h
      exact W.ret hr
    replace h := cond_f hb h
    refine W.skip ?_
    refine W.weak [0, 1, 7, 8] [] [] [] (env' := [(0, l3 none a1), (1, .clo F_g2 C_g2), (7, I6 (a1.length : Int)), (8, I6 (k1 : Int))]) (by kernel_rfl) ?_
    refine W.region (by kernel_rfl) ?_
    refine WO.pureK 0 (some (I6 (IntKind.wrap .i64 ((k1 : Int) + 1)))) (v := I6 ((k1 + 1 : Nat) : Int)) (by kernel_rfl) (by rw [wrap_succ hl1 hk1]) (e1 := [(0, l3 none a1), (1, .clo F_g2 C_g2), (7, I6 (a1.length : Int)), (8, I6 (k1 : Int)), (18, I6 ((k1 + 1 : Nat) : Int))]) (by kernel_rfl) ?_
    refine WO.fin [0, 1, 7, 8] [] [] [] (e2 := [(0, l3 none a1), (1, .clo F_g2 C_g2), (7, I6 (a1.length : Int)), (8, I6 ((k1 + 1 : Nat) : Int))]) (by kernel_rfl) (fun _ h => h) ?_
    exact hN1 () h
def sl_ContainsFunc_int (a1 : (List Int)) (g2 : (Int → Option Bool)) : Option Bool :=
  ((sl_IndexFunc_int a1 g2).bind fun w5 => (some (decide (w5 ≥ 0))))
theorem run_sl_ContainsFunc_int (a1 : (List Int)) (g2 : (Int → Option Bool)) (F_g2 : Nat) (C_g2 : List AV) (hok_g2 : okFn Try.prog F_g2 = true) (hrun_g2 : ∀ (x0 : Int) r, g2 x0 = some r → Run Try.prog (.call F_g2 ([I6 x0] ++ C_g2) (.bool r))) (r : Bool) (h : sl_ContainsFunc_int a1 g2 = some r) : Run Try.prog (.call 60 [l3 none a1, .clo F_g2 C_g2] (.bool r)) := by
  refine call_of_W Try.func60 rfl (by kernel_rfl) (env0 := [(0, l3 none a1), (1, .clo F_g2 C_g2)]) (by kernel_rfl) ?_
  unfold sl_ContainsFunc_int at h
  refine W.seq ?_
  refine W.regT [0, 1] [] [] [] (e2 := [(0, l3 none a1), (1, .clo F_g2 C_g2)]) (by kernel_rfl) (by kernel_rfl) (fun _ h => h) ?_
  refine W.seq ?_
  refine W.region (by kernel_rfl) ?_
  obtain ⟨w5, hw5, h⟩ := bind_some h
  refine WO.callK 2 (F := 78) (l := [l3 none a1, .clo F_g2 C_g2]) (C := []) (r := I6 w5) (by kernel_rfl) (by kernel_rfl) (run_sl_IndexFunc_int a1 g2 F_g2 C_g2 hok_g2 hrun_g2 w5 hw5) (e1 := [(0, l3 none a1), (1, .clo F_g2 C_g2), (5, l3 none a1), (6, .clo F_g2 C_g2), (7, I6 w5)]) (by kernel_rfl) ?_
  refine WO.fin [4] [] [] [] (e2 := [(4, .bool (decide (w5 ≥ 0)))]) (by kernel_rfl) (fun _ h => h) ?_
  refine W.weak [4] [] [] [] (env' := [(4, .bool (decide (w5 ≥ 0)))]) (by kernel_rfl) ?_
  have hr : aresults Try.prog Try.f60 [(4, .bool (decide (w5 ≥ 0)))] = some (.bool (decide (w5 ≥ 0))) := by kernel_rfl
  cases h
  exact W.ret hr
def dp_sets_1_j4 (v6 : Bool) : Option Bool :=
  (some v6)
def dp_sets_1 (a1 : Int) (c2 : Int) : Option Bool :=
  (bif (decide (a1 < 0)) then ((dp_sets_1_j4) true) else (chk (decide (0 ≤ c2)) ((dp_sets_1_j4) (decide (a1 ≥ (iShl .i64 1 c2))))))
theorem run_dp_sets_1 (a1 : Int) (c2 : Int) (r : Bool) (h : dp_sets_1 a1 c2 = some r) : Run Try.prog (.call 76 [I6 a1, .ptr (I6 c2)] (.bool r)) := by
  refine call_of_W Try.func76 rfl (by kernel_rfl) (env0 := [(0, I6 a1), (1, .ptr (I6 c2))]) (by kernel_rfl) ?_
  unfold dp_sets_1 at h
  refine W.seq ?_
  refine W.regT [0, 1] [] [] [] (e2 := [(0, I6 a1), (1, .ptr (I6 c2))]) (by kernel_rfl) (by kernel_rfl) (fun _ h => h) ?_
  refine W.seq ?_
  refine W.join (σ := (Bool)) (fun s => [(3, .bool s)]) (fun s => (dp_sets_1_j4) s = some r) (fun s h => ?_) (fun hK4 => ?_)
  · obtain ⟨v6, rfl⟩ : ∃ x, x = s := ⟨s, rfl⟩
    have h : (dp_sets_1_j4) v6 = some r := h
    unfold dp_sets_1_j4 at h
    refine W.weak [3] [] [] [] (env' := [(3, .bool v6)]) (by kernel_rfl) ?_
    have hr : aresults Try.prog Try.f76 [(3, .bool v6)] = some (.bool v6) := by kernel_rfl
    cases h
    exact W.ret hr
  refine W.region (by kernel_rfl) ?_
  refine WO.boolK 3 (fun b => [(0, I6 a1), (1, .ptr (I6 c2)), (4, I6 a1), (5, .bool b), (6, .bool b)]) (decide (a1 < 0)) (by kernel_rfl) (fun hb => ?_) (fun hb => ?_)
  · replace h := cond_t hb h
    refine WO.fin [3] [] [] [] (e2 := [(3, .bool true)]) (by kernel_rfl) (fun _ h => h) ?_
    exact hK4 true h
  replace h := cond_f hb h
  obtain ⟨hc5, h⟩ := chk_some h
  refine WO.pureK 2 (if c2 < 0 then none else some (I6 (iShl .i64 1 c2))) (v := I6 (iShl .i64 1 c2)) (by kernel_rfl) (if_neg (not_lt_of_chk hc5)) (e1 := [(0, I6 a1), (1, .ptr (I6 c2)), (4, I6 a1), (5, .bool false), (6, .bool false), (7, I6 a1), (8, I6 c2), (9, I6 (iShl .i64 1 c2))]) (by kernel_rfl) ?_
  refine WO.fin [3] [] [] [] (e2 := [(3, .bool (decide (a1 ≥ (iShl .i64 1 c2))))]) (by kernel_rfl) (fun _ h => h) ?_
  exact hK4 (decide (a1 ≥ (iShl .i64 1 c2))) h
def dp_sets (a1 : Int) (a2 : (List Int)) : Option Bool :=
  ((sl_ContainsFunc_int a2 (fun y0 => dp_sets_1 y0 a1)).bind fun w5 => (some (!w5)))
theorem run_dp_sets (a1 : Int) (a2 : (List Int)) (r : Bool) (h : dp_sets a1 a2 = some r) : Run Try.prog (.call 58 [I6 a1, l3 none a2] (.bool r)) := by
  refine call_of_W Try.func58 rfl (by kernel_rfl) (env0 := [(0, I6 a1), (1, l3 none a2)]) (by kernel_rfl) ?_
  unfold dp_sets at h
  refine W.seq ?_
  refine W.regT [1, 2] [2] [] [] (e2 := [(1, l3 none a2), (2, .ptr (I6 a1))]) (by kernel_rfl) (by kernel_rfl) (fun _ h => h) ?_
  refine W.seq ?_
  refine W.region (by kernel_rfl) ?_
  obtain ⟨w5, hw5, h⟩ := bind_some h
  refine WO.callK 2 (F := 60) (l := [l3 none a2, .clo 76 [.ptr (I6 a1)]]) (C := []) (r := .bool w5) (by kernel_rfl) (by kernel_rfl) (run_sl_ContainsFunc_int a2 (fun y0 => dp_sets_1 y0 a1) 76 [.ptr (I6 a1)] (by kernel_rfl) (fun y0 r h => run_dp_sets_1 y0 a1 r h) w5 hw5) (e1 := [(1, l3 none a2), (2, .ptr (I6 a1)), (5, l3 none a2), (6, .clo 76 [.ptr (I6 a1)]), (7, .bool w5)]) (by kernel_rfl) ?_
  refine WO.fin [4] [] [] [] (e2 := [(4, .bool (!w5))]) (by kernel_rfl) (fun _ h => h) ?_
  refine W.weak [4] [] [] [] (env' := [(4, .bool (!w5))]) (by kernel_rfl) ?_
  have hr : aresults Try.prog Try.f58 [(4, .bool (!w5))] = some (.bool (!w5)) := by kernel_rfl
  cases h
  exact W.ret hr
def dp_Holds_j11 : Option (Bool × Int) :=
  (some (true, 0))
def dp_Holds_j13 (N1 : (Option (Bool × Int))) : Option (Bool × Int) :=
  N1
def dp_Holds_j21 (N2 : (Option (Bool × Int))) (v22 : Bool) : Option (Bool × Int) :=
  (bif v22 then (some (false, 0)) else N2)
def dp_Holds_l2 (x1 : (List Int)) (a3 : dpDep) (K13 : (Option (Bool × Int))) : List (List Int) → Nat → Option (Bool × Int)
  | [], k2 => K13
  | x2 :: r2, k2 => ((dp_agree x1 x2).bind fun w20 => (bif ((iAndNot .i64 a3.f_From w20) == 0) then ((dp_Holds_j21 (dp_Holds_l2 x1 a3 K13 r2 (k2 + 1))) ((iAndNot .i64 a3.f_To w20) != 0)) else ((dp_Holds_j21 (dp_Holds_l2 x1 a3 K13 r2 (k2 + 1))) false)))
def dp_Holds_l1 (a2 : (List (List Int))) (a3 : dpDep) (K11 : (Option (Bool × Int))) : List (List Int) → Nat → Option (Bool × Int)
  | [], k1 => K11
  | x1 :: r1, k1 => ((sub a2 0 (k1 : Int)).bind fun e16 => (chk (lenOk e16) (dp_Holds_l2 x1 a3 (dp_Holds_j13 (dp_Holds_l1 a2 a3 K11 r1 (k1 + 1))) e16 0)))
def dp_Holds_j6 (a2 : (List (List Int))) (a3 : dpDep) (v9 : Bool) : Option (Bool × Int) :=
  (bif v9 then (some (false, 2)) else (chk (lenOk a2) (dp_Holds_l1 a2 a3 (dp_Holds_j11) a2 0)))
def dp_Holds (a1 : Int) (a2 : (List (List Int))) (a3 : dpDep) : Option (Bool × Int) :=
  ((dp_table a1 a2).bind fun w7 => (bif (!w7) then ((dp_Holds_j6 a2 a3) true) else ((dp_sets a1 [a3.f_From, a3.f_To]).bind fun w8 => ((dp_Holds_j6 a2 a3) (!w8)))))
theorem run_dp_Holds (a1 : Int) (a2 : (List (List Int))) (a3 : dpDep) (r : (Bool × Int)) (h : dp_Holds a1 a2 a3 = some r) : Run Try.prog (.call 41 [I6 a1, l35 none a2, .agg [I6 a3.f_From, I6 a3.f_To]] (.tup [.bool r.1, I6 r.2])) := by
  refine call_of_W Try.func41 rfl (by kernel_rfl) (env0 := [(0, I6 a1), (1, l35 none a2), (2, .agg [I6 a3.f_From, I6 a3.f_To])]) (by kernel_rfl) ?_
  unfold dp_Holds at h
  refine W.seq ?_
  refine W.regT [0, 1, 5] [5] [] [] (e2 := [(0, I6 a1), (1, l35 none a2), (5, .ptr (.agg [I6 a3.f_From, I6 a3.f_To]))]) (by kernel_rfl) (by kernel_rfl) (fun _ h => h) ?_
  refine W.seq ?_
  refine W.seq ?_
  refine W.join (σ := (Bool)) (fun s => [(1, l35 none a2), (5, .ptr (.agg [I6 a3.f_From, I6 a3.f_To])), (26, .bool s)]) (fun s => (dp_Holds_j6 a2 a3) s = some r) (fun s h => ?_) (fun hK6 => ?_)
  · obtain ⟨v9, rfl⟩ : ∃ x, x = s := ⟨s, rfl⟩
    have h : (dp_Holds_j6 a2 a3) v9 = some r := h
    unfold dp_Holds_j6 at h
    refine W.condB v9 (by kernel_rfl) (fun hb => ?_) (fun hb => ?_)
    · replace h := cond_t hb h
      refine W.seq ?_
      refine W.regT [6, 7] [] [] [] (e2 := [(6, .bool false), (7, .int .i64 2)]) (by kernel_rfl) (by kernel_rfl) (fun _ h => h) ?_
      refine W.weak [6, 7] [] [] [] (env' := [(6, .bool false), (7, .int .i64 2)]) (by kernel_rfl) ?_
      have hr : aresults Try.prog Try.f41 [(6, .bool false), (7, .int .i64 2)] = some (.tup [.bool false, .int .i64 2]) := by kernel_rfl
      cases h
      exact W.ret hr
    replace h := cond_f hb h
    refine W.skip ?_
    refine W.weak [1, 5] [] [] [] (env' := [(1, l35 none a2), (5, .ptr (.agg [I6 a3.f_From, I6 a3.f_To]))]) (by kernel_rfl) ?_
    refine W.seq ?_
    refine W.join (σ := Unit) (fun s => []) (fun s => (dp_Holds_j11) = some r) (fun s h => ?_) (fun hK11 => ?_)
    · have h : (dp_Holds_j11) = some r := h
      unfold dp_Holds_j11 at h
      refine W.seq ?_
      refine W.regT [6, 7] [] [] [] (e2 := [(6, .bool true), (7, .int .i64 0)]) (by kernel_rfl) (by kernel_rfl) (fun _ h => h) ?_
      refine W.weak [6, 7] [] [] [] (env' := [(6, .bool true), (7, .int .i64 0)]) (by kernel_rfl) ?_
      have hr : aresults Try.prog Try.f41 [(6, .bool true), (7, .int .i64 0)] = some (.tup [.bool true, .int .i64 0]) := by kernel_rfl
      cases h
      exact W.ret hr
    refine W.seq ?_
    refine W.region (by kernel_rfl) ?_
    refine WO.pureK 1 (some (I6 ((List.map (encL 3 1 (AV.int .i64)) a2).length : Int))) (v := I6 (a2.length : Int)) (by kernel_rfl) (by rw [List.length_map]) (e1 := [(1, l35 none a2), (5, .ptr (.agg [I6 a3.f_From, I6 a3.f_To])), (27, l35 none a2), (28, I6 (a2.length : Int))]) (by kernel_rfl) ?_
    refine WO.fin [1, 5, 27, 28, 29] [] [] [] (e2 := [(1, l35 none a2), (5, .ptr (.agg [I6 a3.f_From, I6 a3.f_To])), (27, l35 none a2), (28, I6 (a2.length : Int)), (29, .int .i64 0)]) (by kernel_rfl) (fun _ h => h) ?_
    refine W.block ?_
    obtain ⟨hl1, h⟩ := chk_some h
    refine W.weak [1, 5, 27, 28, 29] [] [] [] (env' := [(1, l35 none a2), (5, .ptr (.agg [I6 a3.f_From, I6 a3.f_To])), (27, l35 none a2), (28, I6 (a2.length : Int)), (29, I6 ((0 : Nat) : Int))]) (by kernel_rfl) ?_
    refine W.range (σ := Unit) a2 (fun k1 s => [(1, l35 none a2), (5, .ptr (.agg [I6 a3.f_From, I6 a3.f_To])), (27, l35 none a2), (28, I6 (a2.length : Int)), (29, I6 (k1 : Int))]) (fun r0 k0 s => dp_Holds_l1 a2 a3 (dp_Holds_j11) r0 k0 = some r) (fun s h => ?_) (fun x1 r1 k1 s hx1 hk1 h hN1 => ?_) () h
    · have h : dp_Holds_l1 a2 a3 (dp_Holds_j11) [] (a2).length = some r := h
      rw [dp_Holds_l1.eq_1] at h
      refine W.seq ?_
      refine W.region (by kernel_rfl) ?_
      refine WO.pureK 0 (some (.bool (decide (((a2).length : Int) < (a2.length : Int))))) (v := .bool false) (by kernel_rfl) (by rw [lt_false (l := a2)]) (e1 := [(1, l35 none a2), (5, .ptr (.agg [I6 a3.f_From, I6 a3.f_To])), (27, l35 none a2), (28, I6 (a2.length : Int)), (29, I6 ((a2).length : Int)), (30, .bool false)]) (by kernel_rfl) ?_
      refine WO.fin ([1, 5, 27, 28, 29, 30]) [] [] [] (e2 := [(1, l35 none a2), (5, .ptr (.agg [I6 a3.f_From, I6 a3.f_To])), (27, l35 none a2), (28, I6 (a2.length : Int)), (29, I6 ((a2).length : Int)), (30, .bool false)]) (by kernel_rfl) (fun _ h => h) ?_
      refine W.seq ?_
      refine W.condB false (by kernel_rfl) (fun h => Bool.noConfusion h) (fun _ => ?_)
      refine W.exit ?_
      refine W.weak [] [] [] [] (env' := []) (by kernel_rfl) ?_
      exact hK11 () h
    · have h : dp_Holds_l1 a2 a3 (dp_Holds_j11) (x1 :: r1) k1 = some r := h
      rw [dp_Holds_l1.eq_2] at h
      refine W.seq ?_
      refine W.region (by kernel_rfl) ?_
      refine WO.pureK 0 (some (.bool (decide ((k1 : Int) < (a2.length : Int))))) (v := .bool true) (by kernel_rfl) (by rw [lt_true hk1]) (e1 := [(1, l35 none a2), (5, .ptr (.agg [I6 a3.f_From, I6 a3.f_To])), (27, l35 none a2), (28, I6 (a2.length : Int)), (29, I6 (k1 : Int)), (30, .bool true)]) (by kernel_rfl) ?_
      refine WO.fin ([1, 5, 27, 28, 29, 30]) [] [] [] (e2 := [(1, l35 none a2), (5, .ptr (.agg [I6 a3.f_From, I6 a3.f_To])), (27, l35 none a2), (28, I6 (a2.length : Int)), (29, I6 (k1 : Int)), (30, .bool true)]) (by kernel_rfl) (fun _ h => h) ?_
      refine W.seq ?_
      refine W.condB true (by kernel_rfl) (fun _ => ?_) (fun h => Bool.noConfusion h)
      refine W.skip ?_
      refine W.weak [1, 5, 27, 28, 29] [] [] [] (env' := [(1, l35 none a2), (5, .ptr (.agg [I6 a3.f_From, I6 a3.f_To])), (27, l35 none a2), (28, I6 (a2.length : Int)), (29, I6 (k1 : Int))]) (by kernel_rfl) ?_
      refine W.seq ?_
      refine W.join (σ := Unit) (fun s => [(1, l35 none a2), (5, .ptr (.agg [I6 a3.f_From, I6 a3.f_To])), (27, l35 none a2), (28, I6 (a2.length : Int)), (29, I6 (k1 : Int))]) (fun s => (dp_Holds_j13 (dp_Holds_l1 a2 a3 (dp_Holds_j11) r1 (k1 + 1))) = some r) (fun s h => ?_) (fun hK13 => ?_)
      · have h : (dp_Holds_j13 (dp_Holds_l1 a2 a3 (dp_Holds_j11) r1 (k1 + 1))) = some r := h
        unfold dp_Holds_j13 at h
        refine W.region (by kernel_rfl) ?_
        refine WO.pureK 0 (some (I6 (IntKind.wrap .i64 ((k1 : Int) + 1)))) (v := I6 ((k1 + 1 : Nat) : Int)) (by kernel_rfl) (by rw [wrap_succ hl1 hk1]) (e1 := [(1, l35 none a2), (5, .ptr (.agg [I6 a3.f_From, I6 a3.f_To])), (27, l35 none a2), (28, I6 (a2.length : Int)), (29, I6 (k1 : Int)), (58, I6 ((k1 + 1 : Nat) : Int))]) (by kernel_rfl) ?_
        refine WO.fin [1, 5, 27, 28, 29] [] [] [] (e2 := [(1, l35 none a2), (5, .ptr (.agg [I6 a3.f_From, I6 a3.f_To])), (27, l35 none a2), (28, I6 (a2.length : Int)), (29, I6 ((k1 + 1 : Nat) : Int))]) (by kernel_rfl) (fun _ h => h) ?_
        exact hN1 () h
      refine W.block ?_
      refine W.seq ?_
      refine W.region (by kernel_rfl) ?_
      refine WO.pureK 1 (if (0 : Int) ≤ (k1 : Int) then ((List.map (encL 3 1 (AV.int .i64)) a2)[Int.toNat (k1 : Int)]?).map AV.ptr else none) (v := .ptr (l3 none x1)) (by kernel_rfl) (idx_nat (f := (encL 3 1 (AV.int .i64))) hx1) (e1 := [(1, l35 none a2), (5, .ptr (.agg [I6 a3.f_From, I6 a3.f_To])), (27, l35 none a2), (28, I6 (a2.length : Int)), (29, I6 (k1 : Int)), (31, I6 (k1 : Int)), (32, .ptr (l3 none x1))]) (by kernel_rfl) ?_
      refine WO.fin [1, 5, 8, 9, 27, 28, 29] [] [] [] (e2 := [(1, l35 none a2), (5, .ptr (.agg [I6 a3.f_From, I6 a3.f_To])), (8, I6 (k1 : Int)), (9, l3 none x1), (27, l35 none a2), (28, I6 (a2.length : Int)), (29, I6 (k1 : Int))]) (by kernel_rfl) (fun _ h => h) ?_
      refine W.seq ?_
      refine W.region (by kernel_rfl) ?_
      obtain ⟨e16, he16, h⟩ := bind_some h
      refine WO.pureK 2 (if (0 : Int) ≤ 0 ∧ 0 ≤ (k1 : Int) ∧ (k1 : Int) ≤ ((List.map (encL 3 1 (AV.int .i64)) a2).length : Int) then some (.lst 35 1 none (((List.map (encL 3 1 (AV.int .i64)) a2).take (Int.toNat (k1 : Int))).drop (Int.toNat 0))) else none) (v := l35 none e16) (by kernel_rfl) (sub_av he16) (e1 := [(1, l35 none a2), (5, .ptr (.agg [I6 a3.f_From, I6 a3.f_To])), (8, I6 (k1 : Int)), (9, l3 none x1), (27, l35 none a2), (28, I6 (a2.length : Int)), (29, I6 (k1 : Int)), (34, l35 none a2), (35, I6 (k1 : Int)), (36, l35 none e16)]) (by kernel_rfl) ?_
      refine WO.pureK 0 (some (I6 ((List.map (encL 3 1 (AV.int .i64)) e16).length : Int))) (v := I6 (e16.length : Int)) (by kernel_rfl) (by rw [List.length_map]) (e1 := [(1, l35 none a2), (5, .ptr (.agg [I6 a3.f_From, I6 a3.f_To])), (8, I6 (k1 : Int)), (9, l3 none x1), (27, l35 none a2), (28, I6 (a2.length : Int)), (29, I6 (k1 : Int)), (34, l35 none a2), (35, I6 (k1 : Int)), (36, l35 none e16), (37, I6 (e16.length : Int))]) (by kernel_rfl) ?_
      refine WO.fin [1, 5, 9, 27, 28, 29, 36, 37, 38] [] [] [] (e2 := [(1, l35 none a2), (5, .ptr (.agg [I6 a3.f_From, I6 a3.f_To])), (9, l3 none x1), (27, l35 none a2), (28, I6 (a2.length : Int)), (29, I6 (k1 : Int)), (36, l35 none e16), (37, I6 (e16.length : Int)), (38, .int .i64 0)]) (by kernel_rfl) (fun _ h => h) ?_
      refine W.block ?_
      obtain ⟨hl2, h⟩ := chk_some h
      refine W.weak [1, 5, 9, 27, 28, 29, 36, 37, 38] [] [] [] (env' := [(1, l35 none a2), (5, .ptr (.agg [I6 a3.f_From, I6 a3.f_To])), (9, l3 none x1), (27, l35 none a2), (28, I6 (a2.length : Int)), (29, I6 (k1 : Int)), (36, l35 none e16), (37, I6 (e16.length : Int)), (38, I6 ((0 : Nat) : Int))]) (by kernel_rfl) ?_
      refine W.range (σ := Unit) e16 (fun k2 s => [(1, l35 none a2), (5, .ptr (.agg [I6 a3.f_From, I6 a3.f_To])), (9, l3 none x1), (27, l35 none a2), (28, I6 (a2.length : Int)), (29, I6 (k1 : Int)), (36, l35 none e16), (37, I6 (e16.length : Int)), (38, I6 (k2 : Int))]) (fun r0 k0 s => dp_Holds_l2 x1 a3 (dp_Holds_j13 (dp_Holds_l1 a2 a3 (dp_Holds_j11) r1 (k1 + 1))) r0 k0 = some r) (fun s h => ?_) (fun x2 r2 k2 s hx2 hk2 h hN2 => ?_) () h
      · have h : dp_Holds_l2 x1 a3 (dp_Holds_j13 (dp_Holds_l1 a2 a3 (dp_Holds_j11) r1 (k1 + 1))) [] (e16).length = some r := h
        rw [dp_Holds_l2.eq_1] at h
        refine W.seq ?_
        refine W.region (by kernel_rfl) ?_
        refine WO.pureK 0 (some (.bool (decide (((e16).length : Int) < (e16.length : Int))))) (v := .bool false) (by kernel_rfl) (by rw [lt_false (l := e16)]) (e1 := [(1, l35 none a2), (5, .ptr (.agg [I6 a3.f_From, I6 a3.f_To])), (9, l3 none x1), (27, l35 none a2), (28, I6 (a2.length : Int)), (29, I6 (k1 : Int)), (36, l35 none e16), (37, I6 (e16.length : Int)), (38, I6 ((e16).length : Int)), (39, .bool false)]) (by kernel_rfl) ?_
        refine WO.fin ([1, 5, 9, 27, 28, 29, 36, 37, 38, 39]) [] [] [] (e2 := [(1, l35 none a2), (5, .ptr (.agg [I6 a3.f_From, I6 a3.f_To])), (9, l3 none x1), (27, l35 none a2), (28, I6 (a2.length : Int)), (29, I6 (k1 : Int)), (36, l35 none e16), (37, I6 (e16.length : Int)), (38, I6 ((e16).length : Int)), (39, .bool false)]) (by kernel_rfl) (fun _ h => h) ?_
        refine W.seq ?_
        refine W.condB false (by kernel_rfl) (fun h => Bool.noConfusion h) (fun _ => ?_)
        refine W.exit ?_
        refine W.weak [1, 5, 27, 28, 29] [] [] [] (env' := [(1, l35 none a2), (5, .ptr (.agg [I6 a3.f_From, I6 a3.f_To])), (27, l35 none a2), (28, I6 (a2.length : Int)), (29, I6 (k1 : Int))]) (by kernel_rfl) ?_
        exact hK13 () h
      · have h : dp_Holds_l2 x1 a3 (dp_Holds_j13 (dp_Holds_l1 a2 a3 (dp_Holds_j11) r1 (k1 + 1))) (x2 :: r2) k2 = some r := h
        rw [dp_Holds_l2.eq_2] at h
        refine W.seq ?_
        refine W.region (by kernel_rfl) ?_
        refine WO.pureK 0 (some (.bool (decide ((k2 : Int) < (e16.length : Int))))) (v := .bool true) (by kernel_rfl) (by rw [lt_true hk2]) (e1 := [(1, l35 none a2), (5, .ptr (.agg [I6 a3.f_From, I6 a3.f_To])), (9, l3 none x1), (27, l35 none a2), (28, I6 (a2.length : Int)), (29, I6 (k1 : Int)), (36, l35 none e16), (37, I6 (e16.length : Int)), (38, I6 (k2 : Int)), (39, .bool true)]) (by kernel_rfl) ?_
        refine WO.fin ([1, 5, 9, 27, 28, 29, 36, 37, 38, 39]) [] [] [] (e2 := [(1, l35 none a2), (5, .ptr (.agg [I6 a3.f_From, I6 a3.f_To])), (9, l3 none x1), (27, l35 none a2), (28, I6 (a2.length : Int)), (29, I6 (k1 : Int)), (36, l35 none e16), (37, I6 (e16.length : Int)), (38, I6 (k2 : Int)), (39, .bool true)]) (by kernel_rfl) (fun _ h => h) ?_
        refine W.seq ?_
        refine W.condB true (by kernel_rfl) (fun _ => ?_) (fun h => Bool.noConfusion h)
        refine W.skip ?_
        refine W.weak [1, 5, 9, 27, 28, 29, 36, 37, 38] [] [] [] (env' := [(1, l35 none a2), (5, .ptr (.agg [I6 a3.f_From, I6 a3.f_To])), (9, l3 none x1), (27, l35 none a2), (28, I6 (a2.length : Int)), (29, I6 (k1 : Int)), (36, l35 none e16), (37, I6 (e16.length : Int)), (38, I6 (k2 : Int))]) (by kernel_rfl) ?_
        refine W.seq ?_
        refine W.block ?_
        refine W.seq ?_
        refine W.region (by kernel_rfl) ?_
        refine WO.pureK 0 (if (0 : Int) ≤ (k2 : Int) then ((List.map (encL 3 1 (AV.int .i64)) e16)[Int.toNat (k2 : Int)]?).map AV.ptr else none) (v := .ptr (l3 none x2)) (by kernel_rfl) (idx_nat (f := (encL 3 1 (AV.int .i64))) hx2) (e1 := [(1, l35 none a2), (5, .ptr (.agg [I6 a3.f_From, I6 a3.f_To])), (9, l3 none x1), (27, l35 none a2), (28, I6 (a2.length : Int)), (29, I6 (k1 : Int)), (36, l35 none e16), (37, I6 (e16.length : Int)), (38, I6 (k2 : Int)), (40, .ptr (l3 none x2))]) (by kernel_rfl) ?_
        refine WO.fin [1, 5, 9, 11, 27, 28, 29, 36, 37, 38] [] [] [] (e2 := [(1, l35 none a2), (5, .ptr (.agg [I6 a3.f_From, I6 a3.f_To])), (9, l3 none x1), (11, l3 none x2), (27, l35 none a2), (28, I6 (a2.length : Int)), (29, I6 (k1 : Int)), (36, l35 none e16), (37, I6 (e16.length : Int)), (38, I6 (k2 : Int))]) (by kernel_rfl) (fun _ h => h) ?_
        refine W.seq ?_
        refine W.region (by kernel_rfl) ?_
        obtain ⟨w20, hw20, h⟩ := bind_some h
        refine WO.callK 2 (F := 66) (l := [l3 none x1, l3 none x2]) (C := []) (r := I6 w20) (by kernel_rfl) (by kernel_rfl) (run_dp_agree x1 x2 w20 hw20) (e1 := [(1, l35 none a2), (5, .ptr (.agg [I6 a3.f_From, I6 a3.f_To])), (9, l3 none x1), (11, l3 none x2), (27, l35 none a2), (28, I6 (a2.length : Int)), (29, I6 (k1 : Int)), (36, l35 none e16), (37, I6 (e16.length : Int)), (38, I6 (k2 : Int)), (42, l3 none x1), (43, l3 none x2), (44, I6 w20)]) (by kernel_rfl) ?_
        refine WO.fin [1, 5, 9, 12, 27, 28, 29, 36, 37, 38] [] [] [] (e2 := [(1, l35 none a2), (5, .ptr (.agg [I6 a3.f_From, I6 a3.f_To])), (9, l3 none x1), (12, I6 w20), (27, l35 none a2), (28, I6 (a2.length : Int)), (29, I6 (k1 : Int)), (36, l35 none e16), (37, I6 (e16.length : Int)), (38, I6 (k2 : Int))]) (by kernel_rfl) (fun _ h => h) ?_
        refine W.seq ?_
        refine W.join (σ := (Bool)) (fun s => [(1, l35 none a2), (5, .ptr (.agg [I6 a3.f_From, I6 a3.f_To])), (9, l3 none x1), (27, l35 none a2), (28, I6 (a2.length : Int)), (29, I6 (k1 : Int)), (36, l35 none e16), (37, I6 (e16.length : Int)), (38, I6 (k2 : Int)), (56, .bool s)]) (fun s => (dp_Holds_j21 (dp_Holds_l2 x1 a3 (dp_Holds_j13 (dp_Holds_l1 a2 a3 (dp_Holds_j11) r1 (k1 + 1))) r2 (k2 + 1))) s = some r) (fun s h => ?_) (fun hK21 => ?_)
        · obtain ⟨v22, rfl⟩ : ∃ x, x = s := ⟨s, rfl⟩
          have h : (dp_Holds_j21 (dp_Holds_l2 x1 a3 (dp_Holds_j13 (dp_Holds_l1 a2 a3 (dp_Holds_j11) r1 (k1 + 1))) r2 (k2 + 1))) v22 = some r := h
          unfold dp_Holds_j21 at h
          refine W.condB v22 (by kernel_rfl) (fun hb => ?_) (fun hb => ?_)
          · replace h := cond_t hb h
            refine W.seq ?_
            refine W.regT [6, 7] [] [] [] (e2 := [(6, .bool false), (7, .int .i64 0)]) (by kernel_rfl) (by kernel_rfl) (fun _ h => h) ?_
            refine W.weak [6, 7] [] [] [] (env' := [(6, .bool false), (7, .int .i64 0)]) (by kernel_rfl) ?_
            have hr : aresults Try.prog Try.f41 [(6, .bool false), (7, .int .i64 0)] = some (.tup [.bool false, .int .i64 0]) := by kernel_rfl
            cases h
            exact W.ret hr
          replace h := cond_f hb h
          refine W.skip ?_
          refine W.weak [1, 5, 9, 27, 28, 29, 36, 37, 38] [] [] [] (env' := [(1, l35 none a2), (5, .ptr (.agg [I6 a3.f_From, I6 a3.f_To])), (9, l3 none x1), (27, l35 none a2), (28, I6 (a2.length : Int)), (29, I6 (k1 : Int)), (36, l35 none e16), (37, I6 (e16.length : Int)), (38, I6 (k2 : Int))]) (by kernel_rfl) ?_
          refine W.region (by kernel_rfl) ?_
          refine WO.pureK 0 (some (I6 (IntKind.wrap .i64 ((k2 : Int) + 1)))) (v := I6 ((k2 + 1 : Nat) : Int)) (by kernel_rfl) (by rw [wrap_succ hl2 hk2]) (e1 := [(1, l35 none a2), (5, .ptr (.agg [I6 a3.f_From, I6 a3.f_To])), (9, l3 none x1), (27, l35 none a2), (28, I6 (a2.length : Int)), (29, I6 (k1 : Int)), (36, l35 none e16), (37, I6 (e16.length : Int)), (38, I6 (k2 : Int)), (57, I6 ((k2 + 1 : Nat) : Int))]) (by kernel_rfl) ?_
          refine WO.fin [1, 5, 9, 27, 28, 29, 36, 37, 38] [] [] [] (e2 := [(1, l35 none a2), (5, .ptr (.agg [I6 a3.f_From, I6 a3.f_To])), (9, l3 none x1), (27, l35 none a2), (28, I6 (a2.length : Int)), (29, I6 (k1 : Int)), (36, l35 none e16), (37, I6 (e16.length : Int)), (38, I6 ((k2 + 1 : Nat) : Int))]) (by kernel_rfl) (fun _ h => h) ?_
          exact hN2 () h
        refine W.region (by kernel_rfl) ?_
        refine WO.boolK 6 (fun b => [(1, l35 none a2), (5, .ptr (.agg [I6 a3.f_From, I6 a3.f_To])), (9, l3 none x1), (12, I6 w20), (27, l35 none a2), (28, I6 (a2.length : Int)), (29, I6 (k1 : Int)), (36, l35 none e16), (37, I6 (e16.length : Int)), (38, I6 (k2 : Int)), (45, .ptr (I6 a3.f_From)), (46, I6 a3.f_From), (47, I6 w20), (48, I6 (iAndNot .i64 a3.f_From w20)), (49, .bool b), (50, .bool b)]) ((iAndNot .i64 a3.f_From w20) == 0) (by kernel_rfl) (fun hb => ?_) (fun hb => ?_)
        · replace h := cond_t hb h
          refine WO.fin [1, 5, 9, 27, 28, 29, 36, 37, 38, 56] [] [] [] (e2 := [(1, l35 none a2), (5, .ptr (.agg [I6 a3.f_From, I6 a3.f_To])), (9, l3 none x1), (27, l35 none a2), (28, I6 (a2.length : Int)), (29, I6 (k1 : Int)), (36, l35 none e16), (37, I6 (e16.length : Int)), (38, I6 (k2 : Int)), (56, .bool ((iAndNot .i64 a3.f_To w20) != 0))]) (by kernel_rfl) (fun _ h => h) ?_
          exact hK21 ((iAndNot .i64 a3.f_To w20) != 0) h
        replace h := cond_f hb h
        refine WO.fin [1, 5, 9, 27, 28, 29, 36, 37, 38, 56] [] [] [] (e2 := [(1, l35 none a2), (5, .ptr (.agg [I6 a3.f_From, I6 a3.f_To])), (9, l3 none x1), (27, l35 none a2), (28, I6 (a2.length : Int)), (29, I6 (k1 : Int)), (36, l35 none e16), (37, I6 (e16.length : Int)), (38, I6 (k2 : Int)), (56, .bool false)]) (by kernel_rfl) (fun _ h => h) ?_
        exact hK21 false h
  refine W.region (by kernel_rfl) ?_
  obtain ⟨w7, hw7, h⟩ := bind_some h
  refine WO.callK 2 (F := 65) (l := [I6 a1, l35 none a2]) (C := []) (r := .bool w7) (by kernel_rfl) (by kernel_rfl) (run_dp_table a1 a2 w7 hw7) (e1 := [(0, I6 a1), (1, l35 none a2), (5, .ptr (.agg [I6 a3.f_From, I6 a3.f_To])), (13, I6 a1), (14, l35 none a2), (15, .bool w7)]) (by kernel_rfl) ?_
  refine WO.boolK 2 (fun b => [(0, I6 a1), (1, l35 none a2), (5, .ptr (.agg [I6 a3.f_From, I6 a3.f_To])), (13, I6 a1), (14, l35 none a2), (15, .bool w7), (16, .bool b), (17, .bool b)]) (!w7) (by kernel_rfl) (fun hb => ?_) (fun hb => ?_)
  · replace h := cond_t hb h
    refine WO.fin [1, 5, 26] [] [] [] (e2 := [(1, l35 none a2), (5, .ptr (.agg [I6 a3.f_From, I6 a3.f_To])), (26, .bool true)]) (by kernel_rfl) (fun _ h => h) ?_
    exact hK6 true h
  replace h := cond_f hb h
  obtain ⟨w8, hw8, h⟩ := bind_some h
  refine WO.callK 6 (F := 58) (l := [I6 a1, l3 none [a3.f_From, a3.f_To]]) (C := []) (r := .bool w8) (by kernel_rfl) (by kernel_rfl) (run_dp_sets a1 [a3.f_From, a3.f_To] w8 hw8) (e1 := [(0, I6 a1), (1, l35 none a2), (5, .ptr (.agg [I6 a3.f_From, I6 a3.f_To])), (13, I6 a1), (14, l35 none a2), (15, .bool w7), (16, .bool false), (17, .bool false), (18, I6 a1), (19, .ptr (I6 a3.f_From)), (20, I6 a3.f_From), (21, .ptr (I6 a3.f_To)), (22, I6 a3.f_To), (23, l3 (some 23) [a3.f_From, a3.f_To]), (24, .bool w8)]) (by kernel_rfl) ?_
  refine WO.fin [1, 5, 26] [] [] [] (e2 := [(1, l35 none a2), (5, .ptr (.agg [I6 a3.f_From, I6 a3.f_To])), (26, .bool (!w8))]) (by kernel_rfl) (fun _ h => h) ?_
  exact hK6 (!w8) h
def dp_valid_1 (a1 : dpDep) (c2 : Int) : Option Bool :=
  ((dp_sets c2 [a1.f_From, a1.f_To]).bind fun w5 => (some (!w5)))
theorem run_dp_valid_1 (a1 : dpDep) (c2 : Int) (r : Bool) (h : dp_valid_1 a1 c2 = some r) : Run Try.prog (.call 75 [.agg [I6 a1.f_From, I6 a1.f_To], .ptr (I6 c2)] (.bool r)) := by
  refine call_of_W Try.func75 rfl (by kernel_rfl) (env0 := [(0, .agg [I6 a1.f_From, I6 a1.f_To]), (1, .ptr (I6 c2))]) (by kernel_rfl) ?_
  unfold dp_valid_1 at h
  refine W.seq ?_
  refine W.regT [1, 2] [2] [] [] (e2 := [(1, .ptr (I6 c2)), (2, .ptr (.agg [I6 a1.f_From, I6 a1.f_To]))]) (by kernel_rfl) (by kernel_rfl) (fun _ h => h) ?_
  refine W.seq ?_
  refine W.region (by kernel_rfl) ?_
  obtain ⟨w5, hw5, h⟩ := bind_some h
  refine WO.callK 6 (F := 58) (l := [I6 c2, l3 none [a1.f_From, a1.f_To]]) (C := []) (r := .bool w5) (by kernel_rfl) (by kernel_rfl) (run_dp_sets c2 [a1.f_From, a1.f_To] w5 hw5) (e1 := [(1, .ptr (I6 c2)), (2, .ptr (.agg [I6 a1.f_From, I6 a1.f_To])), (4, I6 c2), (5, .ptr (I6 a1.f_From)), (6, I6 a1.f_From), (7, .ptr (I6 a1.f_To)), (8, I6 a1.f_To), (9, l3 (some 9) [a1.f_From, a1.f_To]), (10, .bool w5)]) (by kernel_rfl) ?_
  refine WO.fin [3] [] [] [] (e2 := [(3, .bool (!w5))]) (by kernel_rfl) (fun _ h => h) ?_
  refine W.weak [3] [] [] [] (env' := [(3, .bool (!w5))]) (by kernel_rfl) ?_
  have hr : aresults Try.prog Try.f75 [(3, .bool (!w5))] = some (.bool (!w5)) := by kernel_rfl
  cases h
  exact W.ret hr
def dp_valid_j5 (a1 : Int) (a2 : (List dpDep)) (v6 : Bool) : Option Bool :=
  (bif v6 then (some false) else ((sl_ContainsFunc_dpDep a2 (fun y0 => dp_valid_1 y0 a1)).bind fun w9 => (some (!w9))))
def dp_valid (a1 : Int) (a2 : (List dpDep)) : Option Bool :=
  (bif (decide (a1 < 1)) then ((dp_valid_j5 a1 a2) true) else (bif (decide (a1 > 8)) then ((dp_valid_j5 a1 a2) true) else ((dp_valid_j5 a1 a2) (decide ((a2.length : Int) > 12)))))
theorem run_dp_valid (a1 : Int) (a2 : (List dpDep)) (r : Bool) (h : dp_valid a1 a2 = some r) : Run Try.prog (.call 57 [I6 a1, l33 none a2] (.bool r)) := by
  refine call_of_W Try.func57 rfl (by kernel_rfl) (env0 := [(0, I6 a1), (1, l33 none a2)]) (by kernel_rfl) ?_
  unfold dp_valid at h
  refine W.seq ?_
  refine W.regT [1, 2] [2] [] [] (e2 := [(1, l33 none a2), (2, .ptr (I6 a1))]) (by kernel_rfl) (by kernel_rfl) (fun _ h => h) ?_
  refine W.seq ?_
  refine W.seq ?_
  refine W.join (σ := (Bool)) (fun s => [(1, l33 none a2), (2, .ptr (I6 a1)), (15, .bool s)]) (fun s => (dp_valid_j5 a1 a2) s = some r) (fun s h => ?_) (fun hK5 => ?_)
  · obtain ⟨v6, rfl⟩ : ∃ x, x = s := ⟨s, rfl⟩
    have h : (dp_valid_j5 a1 a2) v6 = some r := h
    unfold dp_valid_j5 at h
    refine W.condB v6 (by kernel_rfl) (fun hb => ?_) (fun hb => ?_)
    · replace h := cond_t hb h
      refine W.seq ?_
      refine W.regT [4] [] [] [] (e2 := [(4, .bool false)]) (by kernel_rfl) (by kernel_rfl) (fun _ h => h) ?_
      refine W.weak [4] [] [] [] (env' := [(4, .bool false)]) (by kernel_rfl) ?_
      have hr : aresults Try.prog Try.f57 [(4, .bool false)] = some (.bool false) := by kernel_rfl
      cases h
      exact W.ret hr
    replace h := cond_f hb h
    refine W.skip ?_
    refine W.weak [1, 2] [] [] [] (env' := [(1, l33 none a2), (2, .ptr (I6 a1))]) (by kernel_rfl) ?_
    refine W.seq ?_
    refine W.region (by kernel_rfl) ?_
    obtain ⟨w9, hw9, h⟩ := bind_some h
    refine WO.callK 2 (F := 74) (l := [l33 none a2, .clo 75 [.ptr (I6 a1)]]) (C := []) (r := .bool w9) (by kernel_rfl) (by kernel_rfl) (run_sl_ContainsFunc_dpDep a2 (fun y0 => dp_valid_1 y0 a1) 75 [.ptr (I6 a1)] (by kernel_rfl) (fun y0 r h => run_dp_valid_1 y0 a1 r h) w9 hw9) (e1 := [(1, l33 none a2), (2, .ptr (I6 a1)), (16, l33 none a2), (17, .clo 75 [.ptr (I6 a1)]), (18, .bool w9)]) (by kernel_rfl) ?_
    refine WO.fin [4] [] [] [] (e2 := [(4, .bool (!w9))]) (by kernel_rfl) (fun _ h => h) ?_
    refine W.weak [4] [] [] [] (env' := [(4, .bool (!w9))]) (by kernel_rfl) ?_
    have hr : aresults Try.prog Try.f57 [(4, .bool (!w9))] = some (.bool (!w9)) := by kernel_rfl
    cases h
    exact W.ret hr
  refine W.region (by kernel_rfl) ?_
  refine WO.boolK 3 (fun b => [(1, l33 none a2), (2, .ptr (I6 a1)), (5, I6 a1), (6, .bool b), (7, .bool b)]) (decide (a1 < 1)) (by kernel_rfl) (fun hb => ?_) (fun hb => ?_)
  · replace h := cond_t hb h
    refine WO.fin [1, 2, 15] [] [] [] (e2 := [(1, l33 none a2), (2, .ptr (I6 a1)), (15, .bool true)]) (by kernel_rfl) (fun _ h => h) ?_
    exact hK5 true h
  replace h := cond_f hb h
  refine WO.boolK 4 (fun b => [(1, l33 none a2), (2, .ptr (I6 a1)), (5, I6 a1), (6, .bool false), (7, .bool false), (8, I6 a1), (9, .bool b), (10, .bool b), (11, .bool b)]) (decide (a1 > 8)) (by kernel_rfl) (fun hb => ?_) (fun hb => ?_)
  · replace h := cond_t hb h
    refine WO.fin [1, 2, 15] [] [] [] (e2 := [(1, l33 none a2), (2, .ptr (I6 a1)), (15, .bool true)]) (by kernel_rfl) (fun _ h => h) ?_
    exact hK5 true h
  replace h := cond_f hb h
  refine WO.pureK 1 (some (I6 ((List.map e_dpDep a2).length : Int))) (v := I6 (a2.length : Int)) (by kernel_rfl) (by rw [List.length_map]) (e1 := [(1, l33 none a2), (2, .ptr (I6 a1)), (5, I6 a1), (6, .bool false), (7, .bool false), (8, I6 a1), (9, .bool false), (10, .bool false), (11, .bool false), (12, l33 none a2), (13, I6 (a2.length : Int))]) (by kernel_rfl) ?_
  refine WO.fin [1, 2, 15] [] [] [] (e2 := [(1, l33 none a2), (2, .ptr (I6 a1)), (15, .bool (decide ((a2.length : Int) > 12)))]) (by kernel_rfl) (fun _ h => h) ?_
  exact hK5 (decide ((a2.length : Int) > 12)) h
def dp_closure (a1 : (List dpDep)) : Option ((List dpDep)) :=
  (some a1)
theorem run_dp_closure (a1 : (List dpDep)) (r : ((List dpDep))) (h : dp_closure a1 = some r) : Run Try.prog (.call 59 [l33 none a1] (.clo 77 [.ptr (l33 none r)])) := by
  refine call_of_W Try.func59 rfl (by kernel_rfl) (env0 := [(0, l33 none a1)]) (by kernel_rfl) ?_
  unfold dp_closure at h
  refine W.seq ?_
  refine W.regT [1] [1] [] [] (e2 := [(1, .ptr (l33 none a1))]) (by kernel_rfl) (by kernel_rfl) (fun _ h => h) ?_
  refine W.seq ?_
  refine W.regT [2] [] [] [] (e2 := [(2, .clo 77 [.ptr (l33 none a1)])]) (by kernel_rfl) (by kernel_rfl) (fun _ h => h) ?_
  refine W.weak [2] [] [] [] (env' := [(2, .clo 77 [.ptr (l33 none a1)])]) (by kernel_rfl) ?_
  have hr : aresults Try.prog Try.f59 [(2, .clo 77 [.ptr (l33 none a1)])] = some (.clo 77 [.ptr (l33 none a1)]) := by kernel_rfl
  cases h
  exact W.ret hr
def dp_closure_1_j4 (v21 : Int) : Option Int :=
  (some v21)
def dp_closure_1_j14 (N2 : (Int → Bool → Option Int)) (v19 : Int) (v20 : Bool) : Option Int :=
  (N2 v19 v20)
def dp_closure_1_j16 (x2 : dpDep) (v12 : Int) (v13 : Bool) (K14 : (Int → Bool → Option Int)) (v17 : Bool) : Option Int :=
  (bif v17 then (K14 (iOr .i64 v12 x2.f_To) true) else (K14 v12 v13))
def dp_closure_1_l2 (N1 : (Int → Bool → Option Int)) : List dpDep → Nat → Int → Bool → Option Int
  | [], k2, v12, v13 => (N1 v12 v13)
  | x2 :: r2, k2, v12, v13 => (bif ((iAndNot .i64 x2.f_From v12) == 0) then ((dp_closure_1_j16 x2 v12 v13 (dp_closure_1_j14 (dp_closure_1_l2 N1 r2 (k2 + 1)))) ((iAndNot .i64 x2.f_To v12) != 0)) else ((dp_closure_1_j16 x2 v12 v13 (dp_closure_1_j14 (dp_closure_1_l2 N1 r2 (k2 + 1)))) false))
def dp_closure_1_l1 (c2 : (List dpDep)) (K4 : (Int → Option Int)) : Nat → Int → Bool → Option Int
  | 0, _, _ => none
  | m1 + 1, v6, v7 => (bif v7 then (chk (lenOk c2) (dp_closure_1_l2 (dp_closure_1_l1 c2 K4 m1) c2 0 v6 false)) else (K4 v6))
def dp_closure_1 (fuel : Nat) (a1 : Int) (c2 : (List dpDep)) : Option Int :=
  (dp_closure_1_l1 c2 (dp_closure_1_j4) fuel a1 true)
theorem run_dp_closure_1 (fuel : Nat) (a1 : Int) (c2 : (List dpDep)) (r : Int) (h : dp_closure_1 fuel a1 c2 = some r) : Run Try.prog (.call 77 [I6 a1, .ptr (l33 none c2)] (I6 r)) := by
  refine call_of_W Try.func77 rfl (by kernel_rfl) (env0 := [(0, I6 a1), (1, .ptr (l33 none c2))]) (by kernel_rfl) ?_
  unfold dp_closure_1 at h
  refine W.seq ?_
  refine W.regT [0, 1] [] [] [] (e2 := [(0, I6 a1), (1, .ptr (l33 none c2))]) (by kernel_rfl) (by kernel_rfl) (fun _ h => h) ?_
  refine W.seq ?_
  refine W.join (σ := (Int)) (fun s => [(0, I6 s)]) (fun s => (dp_closure_1_j4) s = some r) (fun s h => ?_) (fun hK4 => ?_)
  · obtain ⟨v21, rfl⟩ : ∃ x, x = s := ⟨s, rfl⟩
    have h : (dp_closure_1_j4) v21 = some r := h
    unfold dp_closure_1_j4 at h
    refine W.seq ?_
    refine W.regT [3] [] [] [] (e2 := [(3, I6 v21)]) (by kernel_rfl) (by kernel_rfl) (fun _ h => h) ?_
    refine W.weak [3] [] [] [] (env' := [(3, I6 v21)]) (by kernel_rfl) ?_
    have hr : aresults Try.prog Try.f77 [(3, I6 v21)] = some (I6 v21) := by kernel_rfl
    cases h
    exact W.ret hr
  refine W.seq ?_
  refine W.regT [0, 1, 4] [] [] [] (e2 := [(0, I6 a1), (1, .ptr (l33 none c2)), (4, .bool true)]) (by kernel_rfl) (by kernel_rfl) (fun _ h => h) ?_
  refine W.block ?_
  refine W.weak [0, 1, 4] [] [] [] (env' := [(0, I6 a1), (1, .ptr (l33 none c2)), (4, .bool true)]) (by kernel_rfl) ?_
  refine W.fuel (σ := (Int × Bool)) (fun s => [(0, I6 s.1), (1, .ptr (l33 none c2)), (4, .bool s.2)]) (fun m0 s => dp_closure_1_l1 c2 (dp_closure_1_j4) m0 s.1 s.2 = some r) (fun s h => ?_) (fun m1 s h hN1 => ?_) fuel (a1, true) h
  · obtain ⟨v6, v7⟩ := s
    have h : dp_closure_1_l1 c2 (dp_closure_1_j4) 0 v6 v7 = some r := h
    rw [dp_closure_1_l1.eq_1] at h
    cases h
  · obtain ⟨v6, v7⟩ := s
    have h : dp_closure_1_l1 c2 (dp_closure_1_j4) (m1 + 1) v6 v7 = some r := h
    rw [dp_closure_1_l1.eq_2] at h
    refine W.seq ?_
    refine W.seq ?_
    refine W.regT [0, 1, 7] [] [] [] (e2 := [(0, I6 v6), (1, .ptr (l33 none c2)), (7, .bool v7)]) (by kernel_rfl) (by kernel_rfl) (fun _ h => h) ?_
    refine W.condB v7 (by kernel_rfl) (fun hb => ?_) (fun hb => ?_)
    · replace h := cond_t hb h
      refine W.skip ?_
      refine W.weak [0, 1] [] [] [] (env' := [(0, I6 v6), (1, .ptr (l33 none c2))]) (by kernel_rfl) ?_
      refine W.block ?_
      refine W.seq ?_
      refine W.regT [0, 1, 4] [] [] [] (e2 := [(0, I6 v6), (1, .ptr (l33 none c2)), (4, .bool false)]) (by kernel_rfl) (by kernel_rfl) (fun _ h => h) ?_
      refine W.seq ?_
      refine W.region (by kernel_rfl) ?_
      refine WO.pureK 1 (some (I6 ((List.map e_dpDep c2).length : Int))) (v := I6 (c2.length : Int)) (by kernel_rfl) (by rw [List.length_map]) (e1 := [(0, I6 v6), (1, .ptr (l33 none c2)), (4, .bool false), (8, l33 none c2), (9, I6 (c2.length : Int))]) (by kernel_rfl) ?_
      refine WO.fin [0, 1, 4, 8, 9, 10] [] [] [] (e2 := [(0, I6 v6), (1, .ptr (l33 none c2)), (4, .bool false), (8, l33 none c2), (9, I6 (c2.length : Int)), (10, .int .i64 0)]) (by kernel_rfl) (fun _ h => h) ?_
      refine W.block ?_
      obtain ⟨hl2, h⟩ := chk_some h
      refine W.weak [0, 1, 4, 8, 9, 10] [] [] [] (env' := [(0, I6 v6), (1, .ptr (l33 none c2)), (4, .bool false), (8, l33 none c2), (9, I6 (c2.length : Int)), (10, I6 ((0 : Nat) : Int))]) (by kernel_rfl) ?_
      refine W.range (σ := (Int × Bool)) c2 (fun k2 s => [(0, I6 s.1), (1, .ptr (l33 none c2)), (4, .bool s.2), (8, l33 none c2), (9, I6 (c2.length : Int)), (10, I6 (k2 : Int))]) (fun r0 k0 s => dp_closure_1_l2 (dp_closure_1_l1 c2 (dp_closure_1_j4) m1) r0 k0 s.1 s.2 = some r) (fun s h => ?_) (fun x2 r2 k2 s hx2 hk2 h hN2 => ?_) (v6, false) h
      · obtain ⟨v12, v13⟩ := s
        have h : dp_closure_1_l2 (dp_closure_1_l1 c2 (dp_closure_1_j4) m1) [] (c2).length v12 v13 = some r := h
        rw [dp_closure_1_l2.eq_1] at h
        refine W.seq ?_
        refine W.region (by kernel_rfl) ?_
        refine WO.pureK 0 (some (.bool (decide (((c2).length : Int) < (c2.length : Int))))) (v := .bool false) (by kernel_rfl) (by rw [lt_false (l := c2)]) (e1 := [(0, I6 v12), (1, .ptr (l33 none c2)), (4, .bool v13), (8, l33 none c2), (9, I6 (c2.length : Int)), (10, I6 ((c2).length : Int)), (11, .bool false)]) (by kernel_rfl) ?_
        refine WO.fin ([0, 1, 4, 8, 9, 10, 11]) [] [] [] (e2 := [(0, I6 v12), (1, .ptr (l33 none c2)), (4, .bool v13), (8, l33 none c2), (9, I6 (c2.length : Int)), (10, I6 ((c2).length : Int)), (11, .bool false)]) (by kernel_rfl) (fun _ h => h) ?_
        refine W.seq ?_
        refine W.condB false (by kernel_rfl) (fun h => Bool.noConfusion h) (fun _ => ?_)
        refine W.exit ?_
        refine W.weak [0, 1, 4] [] [] [] (env' := [(0, I6 v12), (1, .ptr (l33 none c2)), (4, .bool v13)]) (by kernel_rfl) ?_
        exact hN1 (v12, v13) h
      · obtain ⟨v12, v13⟩ := s
        have h : dp_closure_1_l2 (dp_closure_1_l1 c2 (dp_closure_1_j4) m1) (x2 :: r2) k2 v12 v13 = some r := h
        rw [dp_closure_1_l2.eq_2] at h
        refine W.seq ?_
        refine W.region (by kernel_rfl) ?_
        refine WO.pureK 0 (some (.bool (decide ((k2 : Int) < (c2.length : Int))))) (v := .bool true) (by kernel_rfl) (by rw [lt_true hk2]) (e1 := [(0, I6 v12), (1, .ptr (l33 none c2)), (4, .bool v13), (8, l33 none c2), (9, I6 (c2.length : Int)), (10, I6 (k2 : Int)), (11, .bool true)]) (by kernel_rfl) ?_
        refine WO.fin ([0, 1, 4, 8, 9, 10, 11]) [] [] [] (e2 := [(0, I6 v12), (1, .ptr (l33 none c2)), (4, .bool v13), (8, l33 none c2), (9, I6 (c2.length : Int)), (10, I6 (k2 : Int)), (11, .bool true)]) (by kernel_rfl) (fun _ h => h) ?_
        refine W.seq ?_
        refine W.condB true (by kernel_rfl) (fun _ => ?_) (fun h => Bool.noConfusion h)
        refine W.skip ?_
        refine W.weak [0, 1, 4, 8, 9, 10] [] [] [] (env' := [(0, I6 v12), (1, .ptr (l33 none c2)), (4, .bool v13), (8, l33 none c2), (9, I6 (c2.length : Int)), (10, I6 (k2 : Int))]) (by kernel_rfl) ?_
        refine W.seq ?_
        refine W.join (σ := (Int × Bool)) (fun s => [(0, I6 s.1), (1, .ptr (l33 none c2)), (4, .bool s.2), (8, l33 none c2), (9, I6 (c2.length : Int)), (10, I6 (k2 : Int))]) (fun s => (dp_closure_1_j14 (dp_closure_1_l2 (dp_closure_1_l1 c2 (dp_closure_1_j4) m1) r2 (k2 + 1))) s.1 s.2 = some r) (fun s h => ?_) (fun hK14 => ?_)
        · obtain ⟨v19, v20⟩ := s
          have h : (dp_closure_1_j14 (dp_closure_1_l2 (dp_closure_1_l1 c2 (dp_closure_1_j4) m1) r2 (k2 + 1))) v19 v20 = some r := h
          unfold dp_closure_1_j14 at h
          refine W.region (by kernel_rfl) ?_
          refine WO.pureK 0 (some (I6 (IntKind.wrap .i64 ((k2 : Int) + 1)))) (v := I6 ((k2 + 1 : Nat) : Int)) (by kernel_rfl) (by rw [wrap_succ hl2 hk2]) (e1 := [(0, I6 v19), (1, .ptr (l33 none c2)), (4, .bool v20), (8, l33 none c2), (9, I6 (c2.length : Int)), (10, I6 (k2 : Int)), (30, I6 ((k2 + 1 : Nat) : Int))]) (by kernel_rfl) ?_
          refine WO.fin [0, 1, 4, 8, 9, 10] [] [] [] (e2 := [(0, I6 v19), (1, .ptr (l33 none c2)), (4, .bool v20), (8, l33 none c2), (9, I6 (c2.length : Int)), (10, I6 ((k2 + 1 : Nat) : Int))]) (by kernel_rfl) (fun _ h => h) ?_
          exact hN2 (v19, v20) h
        refine W.block ?_
        refine W.seq ?_
        refine W.region (by kernel_rfl) ?_
        refine WO.pureK 0 (if (0 : Int) ≤ (k2 : Int) then ((List.map e_dpDep c2)[Int.toNat (k2 : Int)]?).map AV.ptr else none) (v := .ptr (.agg [I6 x2.f_From, I6 x2.f_To])) (by kernel_rfl) (idx_nat (f := e_dpDep) hx2) (e1 := [(0, I6 v12), (1, .ptr (l33 none c2)), (4, .bool v13), (8, l33 none c2), (9, I6 (c2.length : Int)), (10, I6 (k2 : Int)), (12, .ptr (.agg [I6 x2.f_From, I6 x2.f_To]))]) (by kernel_rfl) ?_
        refine WO.fin [0, 1, 4, 6, 8, 9, 10] [6] [] [] (e2 := [(0, I6 v12), (1, .ptr (l33 none c2)), (4, .bool v13), (6, .ptr (.agg [I6 x2.f_From, I6 x2.f_To])), (8, l33 none c2), (9, I6 (c2.length : Int)), (10, I6 (k2 : Int))]) (by kernel_rfl) (fun _ h => h) ?_
        refine W.seq ?_
        refine W.join (σ := (Bool)) (fun s => [(0, I6 v12), (1, .ptr (l33 none c2)), (4, .bool v13), (6, .ptr (.agg [I6 x2.f_From, I6 x2.f_To])), (8, l33 none c2), (9, I6 (c2.length : Int)), (10, I6 (k2 : Int)), (25, .bool s)]) (fun s => (dp_closure_1_j16 x2 v12 v13 (dp_closure_1_j14 (dp_closure_1_l2 (dp_closure_1_l1 c2 (dp_closure_1_j4) m1) r2 (k2 + 1)))) s = some r) (fun s h => ?_) (fun hK16 => ?_)
        · obtain ⟨v17, rfl⟩ : ∃ x, x = s := ⟨s, rfl⟩
          have h : (dp_closure_1_j16 x2 v12 v13 (dp_closure_1_j14 (dp_closure_1_l2 (dp_closure_1_l1 c2 (dp_closure_1_j4) m1) r2 (k2 + 1)))) v17 = some r := h
          unfold dp_closure_1_j16 at h
          refine W.condB v17 (by kernel_rfl) (fun hb => ?_) (fun hb => ?_)
          · replace h := cond_t hb h
            refine W.seq ?_
            refine W.regT [0, 1, 8, 9, 10] [] [] [] (e2 := [(0, I6 (iOr .i64 v12 x2.f_To)), (1, .ptr (l33 none c2)), (8, l33 none c2), (9, I6 (c2.length : Int)), (10, I6 (k2 : Int))]) (by kernel_rfl) (by kernel_rfl) (fun _ h => h) ?_
            refine W.regT [0, 1, 4, 8, 9, 10] [] [] [] (e2 := [(0, I6 (iOr .i64 v12 x2.f_To)), (1, .ptr (l33 none c2)), (4, .bool true), (8, l33 none c2), (9, I6 (c2.length : Int)), (10, I6 (k2 : Int))]) (by kernel_rfl) (by kernel_rfl) (fun _ h => h) ?_
            exact hK14 ((iOr .i64 v12 x2.f_To), true) h
          replace h := cond_f hb h
          refine W.skip ?_
          refine W.weak [0, 1, 4, 8, 9, 10] [] [] [] (env' := [(0, I6 v12), (1, .ptr (l33 none c2)), (4, .bool v13), (8, l33 none c2), (9, I6 (c2.length : Int)), (10, I6 (k2 : Int))]) (by kernel_rfl) ?_
          exact hK14 (v12, v13) h
        refine W.region (by kernel_rfl) ?_
        refine WO.boolK 6 (fun b => [(0, I6 v12), (1, .ptr (l33 none c2)), (4, .bool v13), (6, .ptr (.agg [I6 x2.f_From, I6 x2.f_To])), (8, l33 none c2), (9, I6 (c2.length : Int)), (10, I6 (k2 : Int)), (14, .ptr (I6 x2.f_From)), (15, I6 x2.f_From), (16, I6 v12), (17, I6 (iAndNot .i64 x2.f_From v12)), (18, .bool b), (19, .bool b)]) ((iAndNot .i64 x2.f_From v12) == 0) (by kernel_rfl) (fun hb => ?_) (fun hb => ?_)
        · replace h := cond_t hb h
          refine WO.fin [0, 1, 4, 6, 8, 9, 10, 25] [] [] [] (e2 := [(0, I6 v12), (1, .ptr (l33 none c2)), (4, .bool v13), (6, .ptr (.agg [I6 x2.f_From, I6 x2.f_To])), (8, l33 none c2), (9, I6 (c2.length : Int)), (10, I6 (k2 : Int)), (25, .bool ((iAndNot .i64 x2.f_To v12) != 0))]) (by kernel_rfl) (fun _ h => h) ?_
          exact hK16 ((iAndNot .i64 x2.f_To v12) != 0) h
        replace h := cond_f hb h
        refine WO.fin [0, 1, 4, 6, 8, 9, 10, 25] [] [] [] (e2 := [(0, I6 v12), (1, .ptr (l33 none c2)), (4, .bool v13), (6, .ptr (.agg [I6 x2.f_From, I6 x2.f_To])), (8, l33 none c2), (9, I6 (c2.length : Int)), (10, I6 (k2 : Int)), (25, .bool false)]) (by kernel_rfl) (fun _ h => h) ?_
        exact hK16 false h
    replace h := cond_f hb h
    refine W.exit ?_
    refine W.weak [0] [] [] [] (env' := [(0, I6 v6)]) (by kernel_rfl) ?_
    exact hK4 v6 h
def dp_Closure_j6 (fuel : Nat) (a2 : (List dpDep)) (a3 : Int) (v9 : Bool) : Option (Int × Int) :=
  (bif v9 then (some (0, 2)) else ((dp_closure a2).bind fun w12 => ((dp_closure_1 fuel a3 w12).bind fun w13 => (some (w13, 0)))))
def dp_Closure (fuel : Nat) (a1 : Int) (a2 : (List dpDep)) (a3 : Int) : Option (Int × Int) :=
  ((dp_valid a1 a2).bind fun w7 => (bif (!w7) then ((dp_Closure_j6 fuel a2 a3) true) else ((dp_sets a1 [a3]).bind fun w8 => ((dp_Closure_j6 fuel a2 a3) (!w8)))))
theorem run_dp_Closure (fuel : Nat) (a1 : Int) (a2 : (List dpDep)) (a3 : Int) (r : (Int × Int)) (h : dp_Closure fuel a1 a2 a3 = some r) : Run Try.prog (.call 19 [I6 a1, l33 none a2, I6 a3] (.tup [I6 r.1, I6 r.2])) := by
  refine call_of_W Try.func19 rfl (by kernel_rfl) (env0 := [(0, I6 a1), (1, l33 none a2), (2, I6 a3)]) (by kernel_rfl) ?_
  unfold dp_Closure at h
  refine W.seq ?_
  refine W.regT [0, 1, 2] [] [] [] (e2 := [(0, I6 a1), (1, l33 none a2), (2, I6 a3)]) (by kernel_rfl) (by kernel_rfl) (fun _ h => h) ?_
  refine W.seq ?_
  refine W.seq ?_
  refine W.join (σ := (Bool)) (fun s => [(1, l33 none a2), (2, I6 a3), (18, .bool s)]) (fun s => (dp_Closure_j6 fuel a2 a3) s = some r) (fun s h => ?_) (fun hK6 => ?_)
  · obtain ⟨v9, rfl⟩ : ∃ x, x = s := ⟨s, rfl⟩
    have h : (dp_Closure_j6 fuel a2 a3) v9 = some r := h
    unfold dp_Closure_j6 at h
    refine W.condB v9 (by kernel_rfl) (fun hb => ?_) (fun hb => ?_)
    · replace h := cond_t hb h
      refine W.seq ?_
      refine W.regT [6, 7] [] [] [] (e2 := [(6, .int .i64 0), (7, .int .i64 2)]) (by kernel_rfl) (by kernel_rfl) (fun _ h => h) ?_
      refine W.weak [6, 7] [] [] [] (env' := [(6, .int .i64 0), (7, .int .i64 2)]) (by kernel_rfl) ?_
      have hr : aresults Try.prog Try.f19 [(6, .int .i64 0), (7, .int .i64 2)] = some (.tup [.int .i64 0, .int .i64 2]) := by kernel_rfl
      cases h
      exact W.ret hr
    replace h := cond_f hb h
    refine W.skip ?_
    refine W.weak [1, 2] [] [] [] (env' := [(1, l33 none a2), (2, I6 a3)]) (by kernel_rfl) ?_
    refine W.seq ?_
    refine W.region (by kernel_rfl) ?_
    obtain ⟨w12, hw12, h⟩ := bind_some h
    refine WO.callK 1 (F := 59) (l := [l33 none a2]) (C := []) (r := .clo 77 [.ptr (l33 none w12)]) (by kernel_rfl) (by kernel_rfl) (run_dp_closure a2 w12 hw12) (e1 := [(1, l33 none a2), (2, I6 a3), (19, l33 none a2), (20, .clo 77 [.ptr (l33 none w12)])]) (by kernel_rfl) ?_
    obtain ⟨w13, hw13, h⟩ := bind_some h
    refine WO.callK 1 (F := 77) (l := [I6 a3]) (C := [.ptr (l33 none w12)]) (r := I6 w13) (by kernel_rfl) (by kernel_rfl) (run_dp_closure_1 fuel a3 w12 w13 hw13) (e1 := [(1, l33 none a2), (2, I6 a3), (19, l33 none a2), (20, .clo 77 [.ptr (l33 none w12)]), (21, I6 a3), (22, I6 w13)]) (by kernel_rfl) ?_
    refine WO.fin [6, 7] [] [] [] (e2 := [(6, I6 w13), (7, .int .i64 0)]) (by kernel_rfl) (fun _ h => h) ?_
    refine W.weak [6, 7] [] [] [] (env' := [(6, I6 w13), (7, .int .i64 0)]) (by kernel_rfl) ?_
    have hr : aresults Try.prog Try.f19 [(6, I6 w13), (7, .int .i64 0)] = some (.tup [I6 w13, .int .i64 0]) := by kernel_rfl
    cases h
    exact W.ret hr
  refine W.region (by kernel_rfl) ?_
  obtain ⟨w7, hw7, h⟩ := bind_some h
  refine WO.callK 2 (F := 57) (l := [I6 a1, l33 none a2]) (C := []) (r := .bool w7) (by kernel_rfl) (by kernel_rfl) (run_dp_valid a1 a2 w7 hw7) (e1 := [(0, I6 a1), (1, l33 none a2), (2, I6 a3), (8, I6 a1), (9, l33 none a2), (10, .bool w7)]) (by kernel_rfl) ?_
  refine WO.boolK 2 (fun b => [(0, I6 a1), (1, l33 none a2), (2, I6 a3), (8, I6 a1), (9, l33 none a2), (10, .bool w7), (11, .bool b), (12, .bool b)]) (!w7) (by kernel_rfl) (fun hb => ?_) (fun hb => ?_)
  · replace h := cond_t hb h
    refine WO.fin [1, 2, 18] [] [] [] (e2 := [(1, l33 none a2), (2, I6 a3), (18, .bool true)]) (by kernel_rfl) (fun _ h => h) ?_
    exact hK6 true h
  replace h := cond_f hb h
  obtain ⟨w8, hw8, h⟩ := bind_some h
  refine WO.callK 3 (F := 58) (l := [I6 a1, l3 none [a3]]) (C := []) (r := .bool w8) (by kernel_rfl) (by kernel_rfl) (run_dp_sets a1 [a3] w8 hw8) (e1 := [(0, I6 a1), (1, l33 none a2), (2, I6 a3), (8, I6 a1), (9, l33 none a2), (10, .bool w7), (11, .bool false), (12, .bool false), (13, I6 a1), (14, I6 a3), (15, l3 (some 15) [a3]), (16, .bool w8)]) (by kernel_rfl) ?_
  refine WO.fin [1, 2, 18] [] [] [] (e2 := [(1, l33 none a2), (2, I6 a3), (18, .bool (!w8))]) (by kernel_rfl) (fun _ h => h) ?_
  exact hK6 (!w8) h
def lw1_awake_j4 (v5 : Bool) : Option Bool :=
  (some v5)
def lw1_awake (fuel : Nat) : Option Bool :=
  ((dp_Closure fuel 3 [(dpDep.mk 1 2), (dpDep.mk 2 4)] 1).bind fun w3 => (bif (w3.1 == 7) then ((lw1_awake_j4) (w3.2 == 0)) else ((lw1_awake_j4) false)))
theorem run_lw1_awake (fuel : Nat)  (r : Bool) (h : lw1_awake fuel = some r) : Run Try.prog (.call 21 [] (.bool r)) := by
  refine call_of_W Try.func21 rfl (by kernel_rfl) (env0 := []) (by kernel_rfl) ?_
  unfold lw1_awake at h
  refine W.seq ?_
  refine W.regT [] [] [] [] (e2 := []) (by kernel_rfl) (by kernel_rfl) (fun _ h => h) ?_
  refine W.seq ?_
  refine W.region (by kernel_rfl) ?_
  obtain ⟨w3, hw3, h⟩ := bind_some h
  refine WO.callK 3 (F := 19) (l := [.int .i64 3, l33 none [(dpDep.mk 1 2), (dpDep.mk 2 4)], .int .i64 1]) (C := []) (r := .tup [I6 w3.1, I6 w3.2]) (by kernel_rfl) (by kernel_rfl) (run_dp_Closure fuel 3 [(dpDep.mk 1 2), (dpDep.mk 2 4)] 1 w3 hw3) (e1 := [(4, .agg [.int .i64 1, .int .i64 2]), (5, .agg [.int .i64 2, .int .i64 4]), (6, l33 (some 6) [(dpDep.mk 1 2), (dpDep.mk 2 4)]), (7, .tup [I6 w3.1, I6 w3.2])]) (by kernel_rfl) ?_
  refine WO.fin [1, 2] [] [] [] (e2 := [(1, I6 w3.1), (2, I6 w3.2)]) (by kernel_rfl) (fun _ h => h) ?_
  refine W.seq ?_
  refine W.join (σ := (Bool)) (fun s => [(0, .bool s)]) (fun s => (lw1_awake_j4) s = some r) (fun s h => ?_) (fun hK4 => ?_)
  · obtain ⟨v5, rfl⟩ : ∃ x, x = s := ⟨s, rfl⟩
    have h : (lw1_awake_j4) v5 = some r := h
    unfold lw1_awake_j4 at h
    refine W.weak [0] [] [] [] (env' := [(0, .bool v5)]) (by kernel_rfl) ?_
    have hr : aresults Try.prog Try.f21 [(0, .bool v5)] = some (.bool v5) := by kernel_rfl
    cases h
    exact W.ret hr
  refine W.region (by kernel_rfl) ?_
  refine WO.boolK 3 (fun b => [(1, I6 w3.1), (2, I6 w3.2), (10, I6 w3.1), (11, .bool b), (12, .bool b)]) (w3.1 == 7) (by kernel_rfl) (fun hb => ?_) (fun hb => ?_)
  · replace h := cond_t hb h
    refine WO.fin [0] [] [] [] (e2 := [(0, .bool (w3.2 == 0))]) (by kernel_rfl) (fun _ h => h) ?_
    exact hK4 (w3.2 == 0) h
  replace h := cond_f hb h
  refine WO.fin [0] [] [] [] (e2 := [(0, .bool false)]) (by kernel_rfl) (fun _ h => h) ?_
  exact hK4 false h
def dp_Follows_j6 (fuel : Nat) (a2 : (List dpDep)) (a3 : dpDep) (v9 : Bool) : Option (Bool × Int) :=
  (bif v9 then (some (false, 2)) else ((dp_closure a2).bind fun w12 => ((dp_closure_1 fuel a3.f_From w12).bind fun w13 => (some (((iAndNot .i64 a3.f_To w13) == 0), 0)))))
def dp_Follows (fuel : Nat) (a1 : Int) (a2 : (List dpDep)) (a3 : dpDep) : Option (Bool × Int) :=
  ((dp_valid a1 a2).bind fun w7 => (bif (!w7) then ((dp_Follows_j6 fuel a2 a3) true) else ((dp_sets a1 [a3.f_From, a3.f_To]).bind fun w8 => ((dp_Follows_j6 fuel a2 a3) (!w8)))))
theorem run_dp_Follows (fuel : Nat) (a1 : Int) (a2 : (List dpDep)) (a3 : dpDep) (r : (Bool × Int)) (h : dp_Follows fuel a1 a2 a3 = some r) : Run Try.prog (.call 22 [I6 a1, l33 none a2, .agg [I6 a3.f_From, I6 a3.f_To]] (.tup [.bool r.1, I6 r.2])) := by
  refine call_of_W Try.func22 rfl (by kernel_rfl) (env0 := [(0, I6 a1), (1, l33 none a2), (2, .agg [I6 a3.f_From, I6 a3.f_To])]) (by kernel_rfl) ?_
  unfold dp_Follows at h
  refine W.seq ?_
  refine W.regT [0, 1, 5] [5] [] [] (e2 := [(0, I6 a1), (1, l33 none a2), (5, .ptr (.agg [I6 a3.f_From, I6 a3.f_To]))]) (by kernel_rfl) (by kernel_rfl) (fun _ h => h) ?_
  refine W.seq ?_
  refine W.seq ?_
  refine W.join (σ := (Bool)) (fun s => [(1, l33 none a2), (5, .ptr (.agg [I6 a3.f_From, I6 a3.f_To])), (21, .bool s)]) (fun s => (dp_Follows_j6 fuel a2 a3) s = some r) (fun s h => ?_) (fun hK6 => ?_)
  · obtain ⟨v9, rfl⟩ : ∃ x, x = s := ⟨s, rfl⟩
    have h : (dp_Follows_j6 fuel a2 a3) v9 = some r := h
    unfold dp_Follows_j6 at h
    refine W.condB v9 (by kernel_rfl) (fun hb => ?_) (fun hb => ?_)
    · replace h := cond_t hb h
      refine W.seq ?_
      refine W.regT [6, 7] [] [] [] (e2 := [(6, .bool false), (7, .int .i64 2)]) (by kernel_rfl) (by kernel_rfl) (fun _ h => h) ?_
      refine W.weak [6, 7] [] [] [] (env' := [(6, .bool false), (7, .int .i64 2)]) (by kernel_rfl) ?_
      have hr : aresults Try.prog Try.f22 [(6, .bool false), (7, .int .i64 2)] = some (.tup [.bool false, .int .i64 2]) := by kernel_rfl
      cases h
      exact W.ret hr
    replace h := cond_f hb h
    refine W.skip ?_
    refine W.weak [1, 5] [] [] [] (env' := [(1, l33 none a2), (5, .ptr (.agg [I6 a3.f_From, I6 a3.f_To]))]) (by kernel_rfl) ?_
    refine W.seq ?_
    refine W.region (by kernel_rfl) ?_
    obtain ⟨w12, hw12, h⟩ := bind_some h
    refine WO.callK 3 (F := 59) (l := [l33 none a2]) (C := []) (r := .clo 77 [.ptr (l33 none w12)]) (by kernel_rfl) (by kernel_rfl) (run_dp_closure a2 w12 hw12) (e1 := [(1, l33 none a2), (5, .ptr (.agg [I6 a3.f_From, I6 a3.f_To])), (22, .ptr (I6 a3.f_To)), (23, I6 a3.f_To), (24, l33 none a2), (25, .clo 77 [.ptr (l33 none w12)])]) (by kernel_rfl) ?_
    obtain ⟨w13, hw13, h⟩ := bind_some h
    refine WO.callK 2 (F := 77) (l := [I6 a3.f_From]) (C := [.ptr (l33 none w12)]) (r := I6 w13) (by kernel_rfl) (by kernel_rfl) (run_dp_closure_1 fuel a3.f_From w12 w13 hw13) (e1 := [(1, l33 none a2), (5, .ptr (.agg [I6 a3.f_From, I6 a3.f_To])), (22, .ptr (I6 a3.f_To)), (23, I6 a3.f_To), (24, l33 none a2), (25, .clo 77 [.ptr (l33 none w12)]), (26, .ptr (I6 a3.f_From)), (27, I6 a3.f_From), (28, I6 w13)]) (by kernel_rfl) ?_
    refine WO.fin [6, 7] [] [] [] (e2 := [(6, .bool ((iAndNot .i64 a3.f_To w13) == 0)), (7, .int .i64 0)]) (by kernel_rfl) (fun _ h => h) ?_
    refine W.weak [6, 7] [] [] [] (env' := [(6, .bool ((iAndNot .i64 a3.f_To w13) == 0)), (7, .int .i64 0)]) (by kernel_rfl) ?_
    have hr : aresults Try.prog Try.f22 [(6, .bool ((iAndNot .i64 a3.f_To w13) == 0)), (7, .int .i64 0)] = some (.tup [.bool ((iAndNot .i64 a3.f_To w13) == 0), .int .i64 0]) := by kernel_rfl
    cases h
    exact W.ret hr
  refine W.region (by kernel_rfl) ?_
  obtain ⟨w7, hw7, h⟩ := bind_some h
  refine WO.callK 2 (F := 57) (l := [I6 a1, l33 none a2]) (C := []) (r := .bool w7) (by kernel_rfl) (by kernel_rfl) (run_dp_valid a1 a2 w7 hw7) (e1 := [(0, I6 a1), (1, l33 none a2), (5, .ptr (.agg [I6 a3.f_From, I6 a3.f_To])), (8, I6 a1), (9, l33 none a2), (10, .bool w7)]) (by kernel_rfl) ?_
  refine WO.boolK 2 (fun b => [(0, I6 a1), (1, l33 none a2), (5, .ptr (.agg [I6 a3.f_From, I6 a3.f_To])), (8, I6 a1), (9, l33 none a2), (10, .bool w7), (11, .bool b), (12, .bool b)]) (!w7) (by kernel_rfl) (fun hb => ?_) (fun hb => ?_)
  · replace h := cond_t hb h
    refine WO.fin [1, 5, 21] [] [] [] (e2 := [(1, l33 none a2), (5, .ptr (.agg [I6 a3.f_From, I6 a3.f_To])), (21, .bool true)]) (by kernel_rfl) (fun _ h => h) ?_
    exact hK6 true h
  replace h := cond_f hb h
  obtain ⟨w8, hw8, h⟩ := bind_some h
  refine WO.callK 6 (F := 58) (l := [I6 a1, l3 none [a3.f_From, a3.f_To]]) (C := []) (r := .bool w8) (by kernel_rfl) (by kernel_rfl) (run_dp_sets a1 [a3.f_From, a3.f_To] w8 hw8) (e1 := [(0, I6 a1), (1, l33 none a2), (5, .ptr (.agg [I6 a3.f_From, I6 a3.f_To])), (8, I6 a1), (9, l33 none a2), (10, .bool w7), (11, .bool false), (12, .bool false), (13, I6 a1), (14, .ptr (I6 a3.f_From)), (15, I6 a3.f_From), (16, .ptr (I6 a3.f_To)), (17, I6 a3.f_To), (18, l3 (some 18) [a3.f_From, a3.f_To]), (19, .bool w8)]) (by kernel_rfl) ?_
  refine WO.fin [1, 5, 21] [] [] [] (e2 := [(1, l33 none a2), (5, .ptr (.agg [I6 a3.f_From, I6 a3.f_To])), (21, .bool (!w8))]) (by kernel_rfl) (fun _ h => h) ?_
  exact hK6 (!w8) h
def lw1_DependMined_j15 (v17 : Bool) : Option Bool :=
  (some v17)
def lw1_DependMined_j25 (v27 : Bool) : Option Bool :=
  (some v27)
def lw1_DependMined_j13 (fuel : Nat) (a1 : Int) (a3 : rf1Dep) (w7 : ((List dpDep) × Int)) (w11 : (Bool × Int)) (v14 : Bool) : Option Bool :=
  (bif v14 then (bif (w11.2 == 2) then ((lw1_awake fuel).bind fun w16 => ((lw1_DependMined_j15) w16)) else ((lw1_DependMined_j15) false)) else (bif (decide ((w7.1.length : Int) > 12)) then ((lw1_awake fuel).bind fun w21 => (some w21)) else ((lw1_dep a3).bind fun w23 => ((dp_Follows fuel a1 w7.1 w23).bind fun w24 => (bif (w24.2 == 0) then (bif (w24.1 == w11.1) then ((lw1_awake fuel).bind fun w26 => ((lw1_DependMined_j25) w26)) else ((lw1_DependMined_j25) false)) else ((lw1_DependMined_j25) false))))))
def lw1_DependMined (fuel : Nat) (a1 : Int) (a2 : (List (List Int))) (a3 : rf1Dep) : Option Bool :=
  ((lw1_few a2).bind fun w6 => ((dp_Mine fuel a1 w6).bind fun w7 => ((lw1_few a2).bind fun w9 => ((lw1_dep a3).bind fun w10 => ((dp_Holds a1 w9 w10).bind fun w11 => (bif (w7.2 != 0) then ((lw1_DependMined_j13 fuel a1 a3 w7 w11) true) else ((lw1_DependMined_j13 fuel a1 a3 w7 w11) (w11.2 != 0))))))))
theorem run_lw1_DependMined (fuel : Nat) (a1 : Int) (a2 : (List (List Int))) (a3 : rf1Dep) (r : Bool) (h : lw1_DependMined fuel a1 a2 a3 = some r) : Run Try.prog (.call 17 [I6 a1, l35 none a2, .agg [I6 a3.f_From, I6 a3.f_To]] (.bool r)) := by
  refine call_of_W Try.func17 rfl (by kernel_rfl) (env0 := [(0, I6 a1), (1, l35 none a2), (2, .agg [I6 a3.f_From, I6 a3.f_To])]) (by kernel_rfl) ?_
  unfold lw1_DependMined at h
  refine W.seq ?_
  refine W.regT [0, 1, 5] [5] [] [] (e2 := [(0, I6 a1), (1, l35 none a2), (5, .ptr (.agg [I6 a3.f_From, I6 a3.f_To]))]) (by kernel_rfl) (by kernel_rfl) (fun _ h => h) ?_
  refine W.seq ?_
  refine W.region (by kernel_rfl) ?_
  obtain ⟨w6, hw6, h⟩ := bind_some h
  refine WO.callK 2 (F := 42) (l := [l35 none a2]) (C := []) (r := l35 (some 1) w6) (by kernel_rfl) (by kernel_rfl) (run_lw1_few a2 w6 hw6) (e1 := [(0, I6 a1), (1, l35 none a2), (5, .ptr (.agg [I6 a3.f_From, I6 a3.f_To])), (13, I6 a1), (14, l35 none a2), (15, l35 (some 15) w6)]) (by kernel_rfl) ?_
  obtain ⟨w7, hw7, h⟩ := bind_some h
  refine WO.callK 0 (F := 54) (l := [I6 a1, l35 none w6]) (C := []) (r := .tup [l33 none w7.1, I6 w7.2]) (by kernel_rfl) (by kernel_rfl) (run_dp_Mine fuel a1 w6 w7 hw7) (e1 := [(0, I6 a1), (1, l35 none a2), (5, .ptr (.agg [I6 a3.f_From, I6 a3.f_To])), (13, I6 a1), (14, l35 none a2), (15, l35 (some 15) w6), (16, .tup [l33 none w7.1, I6 w7.2])]) (by kernel_rfl) ?_
  refine WO.fin [0, 1, 5, 7, 8] [] [] [] (e2 := [(0, I6 a1), (1, l35 none a2), (5, .ptr (.agg [I6 a3.f_From, I6 a3.f_To])), (7, l33 none w7.1), (8, I6 w7.2)]) (by kernel_rfl) (fun _ h => h) ?_
  refine W.seq ?_
  refine W.region (by kernel_rfl) ?_
  obtain ⟨w9, hw9, h⟩ := bind_some h
  refine WO.callK 2 (F := 42) (l := [l35 none a2]) (C := []) (r := l35 (some 1) w9) (by kernel_rfl) (by kernel_rfl) (run_lw1_few a2 w9 hw9) (e1 := [(0, I6 a1), (1, l35 none a2), (5, .ptr (.agg [I6 a3.f_From, I6 a3.f_To])), (7, l33 none w7.1), (8, I6 w7.2), (20, I6 a1), (21, l35 none a2), (22, l35 none w9)]) (by kernel_rfl) ?_
  obtain ⟨w10, hw10, h⟩ := bind_some h
  refine WO.callK 1 (F := 25) (l := [.agg [I6 a3.f_From, I6 a3.f_To]]) (C := []) (r := .agg [I6 w10.f_From, I6 w10.f_To]) (by kernel_rfl) (by kernel_rfl) (run_lw1_dep a3 w10 hw10) (e1 := [(0, I6 a1), (1, l35 none a2), (5, .ptr (.agg [I6 a3.f_From, I6 a3.f_To])), (7, l33 none w7.1), (8, I6 w7.2), (20, I6 a1), (21, l35 none a2), (22, l35 none w9), (23, .agg [I6 a3.f_From, I6 a3.f_To]), (24, .agg [I6 w10.f_From, I6 w10.f_To])]) (by kernel_rfl) ?_
  obtain ⟨w11, hw11, h⟩ := bind_some h
  refine WO.callK 0 (F := 41) (l := [I6 a1, l35 none w9, .agg [I6 w10.f_From, I6 w10.f_To]]) (C := []) (r := .tup [.bool w11.1, I6 w11.2]) (by kernel_rfl) (by kernel_rfl) (run_dp_Holds a1 w9 w10 w11 hw11) (e1 := [(0, I6 a1), (1, l35 none a2), (5, .ptr (.agg [I6 a3.f_From, I6 a3.f_To])), (7, l33 none w7.1), (8, I6 w7.2), (20, I6 a1), (21, l35 none a2), (22, l35 none w9), (23, .agg [I6 a3.f_From, I6 a3.f_To]), (24, .agg [I6 w10.f_From, I6 w10.f_To]), (25, .tup [.bool w11.1, I6 w11.2])]) (by kernel_rfl) ?_
  refine WO.fin [0, 5, 7, 8, 9, 10] [] [] [] (e2 := [(0, I6 a1), (5, .ptr (.agg [I6 a3.f_From, I6 a3.f_To])), (7, l33 none w7.1), (8, I6 w7.2), (9, .bool w11.1), (10, I6 w11.2)]) (by kernel_rfl) (fun _ h => h) ?_
  refine W.seq ?_
  refine W.seq ?_
  refine W.join (σ := (Bool)) (fun s => [(0, I6 a1), (5, .ptr (.agg [I6 a3.f_From, I6 a3.f_To])), (7, l33 none w7.1), (9, .bool w11.1), (10, I6 w11.2), (33, .bool s)]) (fun s => (lw1_DependMined_j13 fuel a1 a3 w7 w11) s = some r) (fun s h => ?_) (fun hK13 => ?_)
  · obtain ⟨v14, rfl⟩ : ∃ x, x = s := ⟨s, rfl⟩
    have h : (lw1_DependMined_j13 fuel a1 a3 w7 w11) v14 = some r := h
    unfold lw1_DependMined_j13 at h
    refine W.condB v14 (by kernel_rfl) (fun hb => ?_) (fun hb => ?_)
    · replace h := cond_t hb h
      refine W.seq ?_
      refine W.join (σ := (Bool)) (fun s => [(6, .bool s)]) (fun s => (lw1_DependMined_j15) s = some r) (fun s h => ?_) (fun hK15 => ?_)
      · obtain ⟨v17, rfl⟩ : ∃ x, x = s := ⟨s, rfl⟩
        have h : (lw1_DependMined_j15) v17 = some r := h
        unfold lw1_DependMined_j15 at h
        refine W.weak [6] [] [] [] (env' := [(6, .bool v17)]) (by kernel_rfl) ?_
        have hr : aresults Try.prog Try.f17 [(6, .bool v17)] = some (.bool v17) := by kernel_rfl
        cases h
        exact W.ret hr
      refine W.region (by kernel_rfl) ?_
      refine WO.boolK 3 (fun b => [(0, I6 a1), (5, .ptr (.agg [I6 a3.f_From, I6 a3.f_To])), (7, l33 none w7.1), (9, .bool w11.1), (10, I6 w11.2), (33, .bool v14), (34, I6 w11.2), (35, .bool b), (36, .bool b)]) (w11.2 == 2) (by kernel_rfl) (fun hb => ?_) (fun hb => ?_)
      · replace h := cond_t hb h
        obtain ⟨w16, hw16, h⟩ := bind_some h
        refine WO.callK 0 (F := 21) (l := []) (C := []) (r := .bool w16) (by kernel_rfl) (by kernel_rfl) (run_lw1_awake fuel w16 hw16) (e1 := [(0, I6 a1), (5, .ptr (.agg [I6 a3.f_From, I6 a3.f_To])), (7, l33 none w7.1), (9, .bool w11.1), (10, I6 w11.2), (33, .bool v14), (34, I6 w11.2), (35, .bool true), (36, .bool true), (37, .bool w16)]) (by kernel_rfl) ?_
        refine WO.fin [6] [] [] [] (e2 := [(6, .bool w16)]) (by kernel_rfl) (fun _ h => h) ?_
        exact hK15 w16 h
      replace h := cond_f hb h
      refine WO.fin [6] [] [] [] (e2 := [(6, .bool false)]) (by kernel_rfl) (fun _ h => h) ?_
      exact hK15 false h
    replace h := cond_f hb h
    refine W.skip ?_
    refine W.weak [0, 5, 7, 9] [] [] [] (env' := [(0, I6 a1), (5, .ptr (.agg [I6 a3.f_From, I6 a3.f_To])), (7, l33 none w7.1), (9, .bool w11.1)]) (by kernel_rfl) ?_
    refine W.seq ?_
    refine W.seq ?_
    refine W.region (by kernel_rfl) ?_
    refine WO.pureK 1 (some (I6 ((List.map e_dpDep w7.1).length : Int))) (v := I6 (w7.1.length : Int)) (by kernel_rfl) (by rw [List.length_map]) (e1 := [(0, I6 a1), (5, .ptr (.agg [I6 a3.f_From, I6 a3.f_To])), (7, l33 none w7.1), (9, .bool w11.1), (39, l33 none w7.1), (40, I6 (w7.1.length : Int))]) (by kernel_rfl) ?_
    refine WO.fin [0, 5, 7, 9, 41] [] [] [] (e2 := [(0, I6 a1), (5, .ptr (.agg [I6 a3.f_From, I6 a3.f_To])), (7, l33 none w7.1), (9, .bool w11.1), (41, .bool (decide ((w7.1.length : Int) > 12)))]) (by kernel_rfl) (fun _ h => h) ?_
    refine W.condB (decide ((w7.1.length : Int) > 12)) (by kernel_rfl) (fun hb => ?_) (fun hb => ?_)
    · replace h := cond_t hb h
      refine W.seq ?_
      refine W.region (by kernel_rfl) ?_
      obtain ⟨w21, hw21, h⟩ := bind_some h
      refine WO.callK 0 (F := 21) (l := []) (C := []) (r := .bool w21) (by kernel_rfl) (by kernel_rfl) (run_lw1_awake fuel w21 hw21) (e1 := [(0, I6 a1), (5, .ptr (.agg [I6 a3.f_From, I6 a3.f_To])), (7, l33 none w7.1), (9, .bool w11.1), (41, .bool (decide ((w7.1.length : Int) > 12))), (42, .bool w21)]) (by kernel_rfl) ?_
      refine WO.fin [6] [] [] [] (e2 := [(6, .bool w21)]) (by kernel_rfl) (fun _ h => h) ?_
      refine W.weak [6] [] [] [] (env' := [(6, .bool w21)]) (by kernel_rfl) ?_
      have hr : aresults Try.prog Try.f17 [(6, .bool w21)] = some (.bool w21) := by kernel_rfl
      cases h
      exact W.ret hr
    replace h := cond_f hb h
    refine W.skip ?_
    refine W.weak [0, 5, 7, 9] [] [] [] (env' := [(0, I6 a1), (5, .ptr (.agg [I6 a3.f_From, I6 a3.f_To])), (7, l33 none w7.1), (9, .bool w11.1)]) (by kernel_rfl) ?_
    refine W.seq ?_
    refine W.region (by kernel_rfl) ?_
    obtain ⟨w23, hw23, h⟩ := bind_some h
    refine WO.callK 3 (F := 25) (l := [.agg [I6 a3.f_From, I6 a3.f_To]]) (C := []) (r := .agg [I6 w23.f_From, I6 w23.f_To]) (by kernel_rfl) (by kernel_rfl) (run_lw1_dep a3 w23 hw23) (e1 := [(0, I6 a1), (5, .ptr (.agg [I6 a3.f_From, I6 a3.f_To])), (7, l33 none w7.1), (9, .bool w11.1), (44, I6 a1), (45, l33 none w7.1), (46, .agg [I6 a3.f_From, I6 a3.f_To]), (47, .agg [I6 w23.f_From, I6 w23.f_To])]) (by kernel_rfl) ?_
    obtain ⟨w24, hw24, h⟩ := bind_some h
    refine WO.callK 0 (F := 22) (l := [I6 a1, l33 none w7.1, .agg [I6 w23.f_From, I6 w23.f_To]]) (C := []) (r := .tup [.bool w24.1, I6 w24.2]) (by kernel_rfl) (by kernel_rfl) (run_dp_Follows fuel a1 w7.1 w23 w24 hw24) (e1 := [(0, I6 a1), (5, .ptr (.agg [I6 a3.f_From, I6 a3.f_To])), (7, l33 none w7.1), (9, .bool w11.1), (44, I6 a1), (45, l33 none w7.1), (46, .agg [I6 a3.f_From, I6 a3.f_To]), (47, .agg [I6 w23.f_From, I6 w23.f_To]), (48, .tup [.bool w24.1, I6 w24.2])]) (by kernel_rfl) ?_
    refine WO.fin [8, 9, 11] [] [] [] (e2 := [(8, I6 w24.2), (9, .bool w11.1), (11, .bool w24.1)]) (by kernel_rfl) (fun _ h => h) ?_
    refine W.seq ?_
    refine W.join (σ := (Bool)) (fun s => [(6, .bool s)]) (fun s => (lw1_DependMined_j25) s = some r) (fun s h => ?_) (fun hK25 => ?_)
    · obtain ⟨v27, rfl⟩ : ∃ x, x = s := ⟨s, rfl⟩
      have h : (lw1_DependMined_j25) v27 = some r := h
      unfold lw1_DependMined_j25 at h
      refine W.weak [6] [] [] [] (env' := [(6, .bool v27)]) (by kernel_rfl) ?_
      have hr : aresults Try.prog Try.f17 [(6, .bool v27)] = some (.bool v27) := by kernel_rfl
      cases h
      exact W.ret hr
    refine W.region (by kernel_rfl) ?_
    refine WO.boolK 3 (fun b => [(8, I6 w24.2), (9, .bool w11.1), (11, .bool w24.1), (51, I6 w24.2), (52, .bool b), (53, .bool b)]) (w24.2 == 0) (by kernel_rfl) (fun hb => ?_) (fun hb => ?_)
    · replace h := cond_t hb h
      refine WO.boolK 5 (fun b => [(8, I6 w24.2), (9, .bool w11.1), (11, .bool w24.1), (51, I6 w24.2), (52, .bool true), (53, .bool true), (54, .bool w24.1), (55, .bool w11.1), (56, .bool b), (57, .bool b), (58, .bool b)]) (w24.1 == w11.1) (by kernel_rfl) (fun hb => ?_) (fun hb => ?_)
      · replace h := cond_t hb h
        obtain ⟨w26, hw26, h⟩ := bind_some h
        refine WO.callK 0 (F := 21) (l := []) (C := []) (r := .bool w26) (by kernel_rfl) (by kernel_rfl) (run_lw1_awake fuel w26 hw26) (e1 := [(8, I6 w24.2), (9, .bool w11.1), (11, .bool w24.1), (51, I6 w24.2), (52, .bool true), (53, .bool true), (54, .bool w24.1), (55, .bool w11.1), (56, .bool true), (57, .bool true), (58, .bool true), (59, .bool w26)]) (by kernel_rfl) ?_
        refine WO.fin [6] [] [] [] (e2 := [(6, .bool w26)]) (by kernel_rfl) (fun _ h => h) ?_
        exact hK25 w26 h
      replace h := cond_f hb h
      refine WO.fin [6] [] [] [] (e2 := [(6, .bool false)]) (by kernel_rfl) (fun _ h => h) ?_
      exact hK25 false h
    replace h := cond_f hb h
    refine WO.fin [6] [] [] [] (e2 := [(6, .bool false)]) (by kernel_rfl) (fun _ h => h) ?_
    exact hK25 false h
  refine W.region (by kernel_rfl) ?_
  refine WO.boolK 3 (fun b => [(0, I6 a1), (5, .ptr (.agg [I6 a3.f_From, I6 a3.f_To])), (7, l33 none w7.1), (8, I6 w7.2), (9, .bool w11.1), (10, I6 w11.2), (28, I6 w7.2), (29, .bool b), (30, .bool b)]) (w7.2 != 0) (by kernel_rfl) (fun hb => ?_) (fun hb => ?_)
  · replace h := cond_t hb h
    refine WO.fin [0, 5, 7, 9, 10, 33] [] [] [] (e2 := [(0, I6 a1), (5, .ptr (.agg [I6 a3.f_From, I6 a3.f_To])), (7, l33 none w7.1), (9, .bool w11.1), (10, I6 w11.2), (33, .bool true)]) (by kernel_rfl) (fun _ h => h) ?_
    exact hK13 true h
  replace h := cond_f hb h
  refine WO.fin [0, 5, 7, 9, 10, 33] [] [] [] (e2 := [(0, I6 a1), (5, .ptr (.agg [I6 a3.f_From, I6 a3.f_To])), (7, l33 none w7.1), (9, .bool w11.1), (10, I6 w11.2), (33, .bool (w11.2 != 0))]) (by kernel_rfl) (fun _ h => h) ?_
  exact hK13 (w11.2 != 0) h

end Go.AM
