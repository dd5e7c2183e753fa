/- PRINTED by gen.py: pure functions and the proofs that the code computes them. No statement of the seat is proved here. -/
import Derived.Test.YtombfedoinhafaaK18T
set_option maxRecDepth 100000
set_option linter.unusedVariables false
set_option linter.unusedSimpArgs false
namespace Go.AM
open Go.Proofs
def sl_Clone_int (a1 : (List Int)) : Option (List Int) := chk (capOk 8 a1.length) (some a1)
theorem run_sl_Clone_int (a1 : (List Int)) (r : (List Int)) (h : sl_Clone_int a1 = some r) : Run Try.prog (.call 67 [l3 none a1] (l3 (some 1) r)) := by
  refine call_of_W Try.func67 rfl (by kernel_rfl) (env0 := [(0, l3 none a1)]) (by kernel_rfl) ?_
  unfold sl_Clone_int at h
  obtain ⟨hc, h⟩ := chk_some h
  cases h
  refine W.regS [0] [] [] [] (e2 := [(0, l3 none a1)]) (by kernel_rfl) (by kernel_rfl) ?_
  refine W.seqU (e0 := [(0, l3 none a1), (3, l3 none a1), (4, .ub (List.map (AV.int .i64) a1).isEmpty)]) (e2 := [(2, l3 (some 1) a1)]) (ei := [(0, l3 none a1)]) (List.map (AV.int .i64) a1).isEmpty ?_ (by kernel_rfl) (fun hp => ?_) ?_ ?_ ?_
  · exact W.region (by kernel_rfl) (WO.end0 (e2 := [(0, l3 none a1), (3, l3 none a1), (4, .ub (List.map (AV.int .i64) a1).isEmpty)]) (by kernel_rfl) ⟨rfl, rfl⟩)
  · have hl : a1 = [] := by simpa using hp
    subst hl
    refine W.regS [2] [] [] [] (e2 := [(2, .nils)]) (by kernel_rfl) (by kernel_rfl) ?_
    refine W.weak [2] [] [(2, 0, 3, 1, 1)] [] (env' := [(2, l3 (some 1) [])]) (by kernel_rfl) ?_
    exact W.ret ⟨rfl, rfl⟩
  · refine W.weak [0] [] [] [] (env' := [(0, l3 none a1)]) (by kernel_rfl) ?_
    exact W.skip ⟨rfl, rfl⟩
  · refine W.seq ?_
    refine W.region (by kernel_rfl) ?_
    refine WO.appendK 2 (d := 7) (e := 3) (s := 1) (bytes := 8) (xs := []) (ys := (List.map (AV.int .i64) a1)) (zs := (List.map (AV.int .i64) a1)) (env1 := [(0, l3 none a1), (5, .lst 3 1 none []), (6, l3 none a1)]) (by kernel_rfl) rfl (by rw [List.length_map]; exact hc) (e1 := [(0, l3 none a1), (5, .lst 3 1 none []), (6, l3 none a1), (7, l3 (some 7) a1)]) (by kernel_rfl) ?_
    refine WO.fin [2] [] [] [(7, some 1)] (e2 := [(2, l3 (some 1) a1)]) (by kernel_rfl) (fun _ h => h) ?_
    exact W.ret ⟨rfl, rfl⟩
  · have hr : aresults Try.prog Try.f67 [(2, l3 (some 1) a1)] = some (l3 (some 1) a1) := by kernel_rfl
    exact hr
def lw1_few_j4 (v14 : (List (List Int))) : Option (List (List Int)) :=
  (some v14)
def lw1_few_l1 (K4 : ((List (List Int)) → Option (List (List Int)))) : List (List Int) → Nat → (List (List Int)) → Option (List (List Int))
  | [], k1, v6 => (K4 v6)
  | x1 :: r1, k1, v6 => (bif (decide ((k1 : Int) > 61)) then (K4 v6) else ((sub x1 0 (if 10 < (x1.length : Int) then 10 else (x1.length : Int))).bind fun e11 => ((sl_Clone_int e11).bind fun w12 => (chk (capOk 24 ((v6 ++ [w12])).length) ((lw1_few_l1 K4 r1 (k1 + 1)) (v6 ++ [w12]))))))
def lw1_few (a1 : (List (List Int))) : Option (List (List Int)) :=
  (chk (lenOk a1) (lw1_few_l1 (lw1_few_j4) a1 0 ([] : (List (List Int)))))
theorem run_lw1_few (a1 : (List (List Int))) (r : (List (List Int))) (h : lw1_few a1 = some r) : Run Try.prog (.call 42 [l35 none a1] (l35 (some 1) r)) := by
  refine call_of_W Try.func42 rfl (by kernel_rfl) (env0 := [(0, l35 none a1)]) (by kernel_rfl) ?_
  unfold lw1_few at h
  refine W.seq ?_
  refine W.regT [0] [] [] [] (e2 := [(0, l35 none a1)]) (by kernel_rfl) (by kernel_rfl) (fun _ h => h) ?_
  refine W.seq ?_
  refine W.regT [0, 3] [] [] [] (e2 := [(0, l35 none a1), (3, .nils)]) (by kernel_rfl) (by kernel_rfl) (fun _ h => h) ?_
  refine W.seq ?_
  refine W.join (σ := ((List (List Int)))) (fun s => [(3, l35 (some 10300) s)]) (fun s => (lw1_few_j4) s = some r) (fun s h => ?_) (fun hK4 => ?_)
  · obtain ⟨v14, rfl⟩ : ∃ x, x = s := ⟨s, rfl⟩
    have h : (lw1_few_j4) v14 = some r := h
    unfold lw1_few_j4 at h
    refine W.seq ?_
    refine W.regT [2] [] [] [] (e2 := [(2, l35 (some 10300) v14)]) (by kernel_rfl) (by kernel_rfl) (fun _ h => h) ?_
    refine W.weak [2] [] [] [(10300, some 1)] (env' := [(2, l35 (some 1) v14)]) (by kernel_rfl) ?_
    have hr : aresults Try.prog Try.f42 [(2, l35 (some 1) v14)] = some (l35 (some 1) v14) := by kernel_rfl
    cases h
    exact W.ret hr
  refine W.seq ?_
  refine W.region (by kernel_rfl) ?_
  refine WO.pureK 1 (some (I6 ((List.map (encL 3 1 (AV.int .i64)) a1).length : Int))) (v := I6 (a1.length : Int)) (by kernel_rfl) (by rw [List.length_map]) (e1 := [(0, l35 none a1), (3, .nils), (6, l35 none a1), (7, I6 (a1.length : Int))]) (by kernel_rfl) ?_
  refine WO.fin [3, 6, 7, 8] [] [] [] (e2 := [(3, .nils), (6, l35 none a1), (7, I6 (a1.length : Int)), (8, .int .i64 0)]) (by kernel_rfl) (fun _ h => h) ?_
  refine W.block ?_
  obtain ⟨hl1, h⟩ := chk_some h
  refine W.weak [3, 6, 7, 8] [] [(3, 0, 35, 1, 10300)] [] (env' := [(3, l35 (some 10300) ([] : (List (List Int)))), (6, l35 none a1), (7, I6 (a1.length : Int)), (8, I6 ((0 : Nat) : Int))]) (by kernel_rfl) ?_
  refine W.range (σ := ((List (List Int)))) a1 (fun k1 s => [(3, l35 (some 10300) s), (6, l35 none a1), (7, I6 (a1.length : Int)), (8, I6 (k1 : Int))]) (fun r0 k0 s => lw1_few_l1 (lw1_few_j4) r0 k0 s = some r) (fun s h => ?_) (fun x1 r1 k1 s hx1 hk1 h hN1 => ?_) ([] : (List (List Int))) h
  · obtain ⟨v6, rfl⟩ : ∃ x, x = s := ⟨s, rfl⟩
    have h : lw1_few_l1 (lw1_few_j4) [] (a1).length v6 = some r := h
    rw [lw1_few_l1.eq_1] at h
    refine W.seq ?_
    refine W.region (by kernel_rfl) ?_
    refine WO.pureK 0 (some (.bool (decide (((a1).length : Int) < (a1.length : Int))))) (v := .bool false) (by kernel_rfl) (by rw [lt_false (l := a1)]) (e1 := [(3, l35 (some 10300) v6), (6, l35 none a1), (7, I6 (a1.length : Int)), (8, I6 ((a1).length : Int)), (9, .bool false)]) (by kernel_rfl) ?_
    refine WO.fin ([3, 6, 7, 8, 9]) [] [] [] (e2 := [(3, l35 (some 10300) v6), (6, l35 none a1), (7, I6 (a1.length : Int)), (8, I6 ((a1).length : Int)), (9, .bool false)]) (by kernel_rfl) (fun _ h => h) ?_
    refine W.seq ?_
    refine W.condB false (by kernel_rfl) (fun h => Bool.noConfusion h) (fun _ => ?_)
    refine W.exit ?_
    refine W.weak [3] [] [] [] (env' := [(3, l35 (some 10300) v6)]) (by kernel_rfl) ?_
    exact hK4 v6 h
  · obtain ⟨v6, rfl⟩ : ∃ x, x = s := ⟨s, rfl⟩
    have h : lw1_few_l1 (lw1_few_j4) (x1 :: r1) k1 v6 = some r := h
    rw [lw1_few_l1.eq_2] at h
    refine W.seq ?_
    refine W.region (by kernel_rfl) ?_
    refine WO.pureK 0 (some (.bool (decide ((k1 : Int) < (a1.length : Int))))) (v := .bool true) (by kernel_rfl) (by rw [lt_true hk1]) (e1 := [(3, l35 (some 10300) v6), (6, l35 none a1), (7, I6 (a1.length : Int)), (8, I6 (k1 : Int)), (9, .bool true)]) (by kernel_rfl) ?_
    refine WO.fin ([3, 6, 7, 8, 9]) [] [] [] (e2 := [(3, l35 (some 10300) v6), (6, l35 none a1), (7, I6 (a1.length : Int)), (8, I6 (k1 : Int)), (9, .bool true)]) (by kernel_rfl) (fun _ h => h) ?_
    refine W.seq ?_
    refine W.condB true (by kernel_rfl) (fun _ => ?_) (fun h => Bool.noConfusion h)
    refine W.skip ?_
    refine W.weak [3, 6, 7, 8] [] [] [] (env' := [(3, l35 (some 10300) v6), (6, l35 none a1), (7, I6 (a1.length : Int)), (8, I6 (k1 : Int))]) (by kernel_rfl) ?_
    refine W.seq ?_
    refine W.block ?_
    refine W.seq ?_
    refine W.region (by kernel_rfl) ?_
    refine WO.pureK 1 (if (0 : Int) ≤ (k1 : Int) then ((List.map (encL 3 1 (AV.int .i64)) a1)[Int.toNat (k1 : Int)]?).map AV.ptr else none) (v := .ptr (l3 none x1)) (by kernel_rfl) (idx_nat (f := (encL 3 1 (AV.int .i64))) hx1) (e1 := [(3, l35 (some 10300) v6), (6, l35 none a1), (7, I6 (a1.length : Int)), (8, I6 (k1 : Int)), (10, I6 (k1 : Int)), (11, .ptr (l3 none x1))]) (by kernel_rfl) ?_
    refine WO.fin [3, 4, 5, 6, 7, 8] [] [] [] (e2 := [(3, l35 (some 10300) v6), (4, I6 (k1 : Int)), (5, l3 none x1), (6, l35 none a1), (7, I6 (a1.length : Int)), (8, I6 (k1 : Int))]) (by kernel_rfl) (fun _ h => h) ?_
    refine W.seq ?_
    refine W.seq ?_
    refine W.regT [3, 5, 6, 7, 8, 14] [] [] [] (e2 := [(3, l35 (some 10300) v6), (5, l3 none x1), (6, l35 none a1), (7, I6 (a1.length : Int)), (8, I6 (k1 : Int)), (14, .bool (decide ((k1 : Int) > 61)))]) (by kernel_rfl) (by kernel_rfl) (fun _ h => h) ?_
    refine W.condB (decide ((k1 : Int) > 61)) (by kernel_rfl) (fun hb => ?_) (fun hb => ?_)
    · replace h := cond_t hb h
      refine W.exit ?_
      refine W.weak [3] [] [] [] (env' := [(3, l35 (some 10300) v6)]) (by kernel_rfl) ?_
      exact hK4 v6 h
    replace h := cond_f hb h
    refine W.skip ?_
    refine W.weak [3, 5, 6, 7, 8] [] [] [] (env' := [(3, l35 (some 10300) v6), (5, l3 none x1), (6, l35 none a1), (7, I6 (a1.length : Int)), (8, I6 (k1 : Int))]) (by kernel_rfl) ?_
    refine W.region (by kernel_rfl) ?_
    refine WO.pureK 3 (some (I6 ((List.map (AV.int .i64) x1).length : Int))) (v := I6 (x1.length : Int)) (by kernel_rfl) (by rw [List.length_map]) (e1 := [(3, l35 (some 10300) v6), (5, l3 none x1), (6, l35 none a1), (7, I6 (a1.length : Int)), (8, I6 (k1 : Int)), (15, l35 (some 10300) v6), (16, l3 none x1), (17, l3 none x1), (18, I6 (x1.length : Int))]) (by kernel_rfl) ?_
    obtain ⟨e11, he11, h⟩ := bind_some h
    refine WO.pureK 1 (if (0 : Int) ≤ 0 ∧ 0 ≤ (if 10 < (x1.length : Int) then 10 else (x1.length : Int)) ∧ (if 10 < (x1.length : Int) then 10 else (x1.length : Int)) ≤ ((List.map (AV.int .i64) x1).length : Int) then some (.lst 3 1 none (((List.map (AV.int .i64) x1).take (Int.toNat (if 10 < (x1.length : Int) then 10 else (x1.length : Int)))).drop (Int.toNat 0))) else none) (v := l3 none e11) (by kernel_rfl) (sub_av he11) (e1 := [(3, l35 (some 10300) v6), (5, l3 none x1), (6, l35 none a1), (7, I6 (a1.length : Int)), (8, I6 (k1 : Int)), (15, l35 (some 10300) v6), (16, l3 none x1), (17, l3 none x1), (18, I6 (x1.length : Int)), (19, I6 (if 10 < (x1.length : Int) then 10 else (x1.length : Int))), (20, l3 none e11)]) (by kernel_rfl) ?_
    obtain ⟨w12, hw12, h⟩ := bind_some h
    refine WO.callK 0 (F := 67) (l := [l3 none e11]) (C := []) (r := l3 (some 1) w12) (by kernel_rfl) (by kernel_rfl) (run_sl_Clone_int e11 w12 hw12) (e1 := [(3, l35 (some 10300) v6), (5, l3 none x1), (6, l35 none a1), (7, I6 (a1.length : Int)), (8, I6 (k1 : Int)), (15, l35 (some 10300) v6), (16, l3 none x1), (17, l3 none x1), (18, I6 (x1.length : Int)), (19, I6 (if 10 < (x1.length : Int) then 10 else (x1.length : Int))), (20, l3 none e11), (21, l3 (some 21) w12)]) (by kernel_rfl) ?_
    obtain ⟨hc13, h⟩ := chk_some h
    refine WO.appendK 1 (d := 23) (e := 35) (s := 1) (bytes := 24) (xs := (List.map (encL 3 1 (AV.int .i64)) v6)) (ys := (List.map (encL 3 1 (AV.int .i64)) [w12])) (zs := (List.map (encL 3 1 (AV.int .i64)) (v6 ++ [w12]))) (env1 := [(3, l35 none v6), (5, l3 none x1), (6, l35 none a1), (7, I6 (a1.length : Int)), (8, I6 (k1 : Int)), (15, l35 none v6), (16, l3 none x1), (17, l3 none x1), (18, I6 (x1.length : Int)), (19, I6 (if 10 < (x1.length : Int) then 10 else (x1.length : Int))), (20, l3 none e11), (21, l3 (some 21) w12), (22, l35 (some 22) [w12])]) (by kernel_rfl) (List.map_append.symm) (by rw [List.length_map]; exact hc13) (e1 := [(3, l35 none v6), (5, l3 none x1), (6, l35 none a1), (7, I6 (a1.length : Int)), (8, I6 (k1 : Int)), (15, l35 none v6), (16, l3 none x1), (17, l3 none x1), (18, I6 (x1.length : Int)), (19, I6 (if 10 < (x1.length : Int) then 10 else (x1.length : Int))), (20, l3 none e11), (21, l3 (some 21) w12), (22, l35 (some 22) [w12]), (23, l35 (some 23) (v6 ++ [w12]))]) (by kernel_rfl) ?_
    refine WO.fin [3, 6, 7, 8] [] [] [] (e2 := [(3, l35 (some 23) (v6 ++ [w12])), (6, l35 none a1), (7, I6 (a1.length : Int)), (8, I6 (k1 : Int))]) (by kernel_rfl) (fun _ h => h) ?_
    refine W.region (by kernel_rfl) ?_
    refine WO.pureK 0 (some (I6 (IntKind.wrap .i64 ((k1 : Int) + 1)))) (v := I6 ((k1 + 1 : Nat) : Int)) (by kernel_rfl) (by rw [wrap_succ hl1 hk1]) (e1 := [(3, l35 (some 23) (v6 ++ [w12])), (6, l35 none a1), (7, I6 (a1.length : Int)), (8, I6 (k1 : Int)), (24, I6 ((k1 + 1 : Nat) : Int))]) (by kernel_rfl) ?_
    refine WO.fin [3, 6, 7, 8] [] [] [(23, some 10300)] (e2 := [(3, l35 (some 10300) (v6 ++ [w12])), (6, l35 none a1), (7, I6 (a1.length : Int)), (8, I6 ((k1 + 1 : Nat) : Int))]) (by kernel_rfl) (fun _ h => h) ?_
    exact hN1 (v6 ++ [w12]) h
def lw1_dep (a1 : rf1Dep) : Option dpDep :=
  (some (dpDep.mk a1.f_From a1.f_To))
theorem run_lw1_dep (a1 : rf1Dep) (r : dpDep) (h : lw1_dep a1 = some r) : Run Try.prog (.call 25 [.agg [I6 a1.f_From, I6 a1.f_To]] (.agg [I6 r.f_From, I6 r.f_To])) := by
  refine call_of_W Try.func25 rfl (by kernel_rfl) (env0 := [(0, .agg [I6 a1.f_From, I6 a1.f_To])]) (by kernel_rfl) ?_
  unfold lw1_dep at h
  refine W.seq ?_
  refine W.regT [1, 2] [1] [] [] (e2 := [(1, .ptr (.agg [I6 a1.f_From, I6 a1.f_To])), (2, .box [.int .i64 0, .int .i64 0])]) (by kernel_rfl) (by kernel_rfl) (fun _ h => h) ?_
  refine W.seq ?_
  refine W.regT [2] [] [] [] (e2 := [(2, .box [I6 a1.f_From, I6 a1.f_To])]) (by kernel_rfl) (by kernel_rfl) (fun _ h => h) ?_
  refine W.weak [2] [] [] [] (env' := [(2, .box [I6 a1.f_From, I6 a1.f_To])]) (by kernel_rfl) ?_
  have hr : aresults Try.prog Try.f25 [(2, .box [I6 a1.f_From, I6 a1.f_To])] = some (.agg [I6 a1.f_From, I6 a1.f_To]) := by kernel_rfl
  cases h
  exact W.ret hr
def sl_IndexFunc_Lint_j4 : Option Int :=
  (some (-1))
def sl_IndexFunc_Lint_l1 (g2 : ((List Int) → Option Bool)) (K4 : (Option Int)) : List (List Int) → Nat → Option Int
  | [], k1 => K4
  | x1 :: r1, k1 => ((g2 x1).bind fun w9 => (bif w9 then (some (k1 : Int)) else (sl_IndexFunc_Lint_l1 g2 K4 r1 (k1 + 1))))
def sl_IndexFunc_Lint (a1 : (List (List Int))) (g2 : ((List Int) → Option Bool)) : Option Int :=
  (chk (lenOk a1) (sl_IndexFunc_Lint_l1 g2 (sl_IndexFunc_Lint_j4) a1 0))
theorem run_sl_IndexFunc_Lint (a1 : (List (List Int))) (g2 : ((List Int) → Option Bool)) (F_g2 : Nat) (C_g2 : List AV) (hok_g2 : okFn Try.prog F_g2 = true) (hrun_g2 : ∀ (x0 : (List Int)) r, g2 x0 = some r → Run Try.prog (.call F_g2 ([l3 none x0] ++ C_g2) (.bool r))) (r : Int) (h : sl_IndexFunc_Lint a1 g2 = some r) : Run Try.prog (.call 93 [l35 none a1, .clo F_g2 C_g2] (I6 r)) := by
  refine call_of_W Try.func93 rfl (by kernel_rfl) (env0 := [(0, l35 none a1), (1, .clo F_g2 C_g2)]) (by kernel_rfl) ?_
  unfold sl_IndexFunc_Lint at h
  refine W.seq ?_
  refine W.regT [0, 1] [] [] [] (e2 := [(0, l35 none a1), (1, .clo F_g2 C_g2)]) (by kernel_rfl) (by kernel_rfl) (fun _ h => h) ?_
  refine W.seq ?_
  refine W.join (σ := Unit) (fun s => []) (fun s => (sl_IndexFunc_Lint_j4) = some r) (fun s h => ?_) (fun hK4 => ?_)
  · have h : (sl_IndexFunc_Lint_j4) = some r := h
    unfold sl_IndexFunc_Lint_j4 at h
    refine W.seq ?_
    refine W.regT [4] [] [] [] (e2 := [(4, I6 (-1))]) (by kernel_rfl) (by kernel_rfl) (fun _ h => h) ?_
    refine W.weak [4] [] [] [] (env' := [(4, I6 (-1))]) (by kernel_rfl) ?_
    have hr : aresults Try.prog Try.f93 [(4, I6 (-1))] = some (I6 (-1)) := by kernel_rfl
    cases h
    exact W.ret hr
  refine W.seq ?_
  refine W.region (by kernel_rfl) ?_
  refine WO.pureK 1 (some (I6 ((List.map (encL 3 1 (AV.int .i64)) a1).length : Int))) (v := I6 (a1.length : Int)) (by kernel_rfl) (by rw [List.length_map]) (e1 := [(0, l35 none a1), (1, .clo F_g2 C_g2), (6, l35 none a1), (7, I6 (a1.length : Int))]) (by kernel_rfl) ?_
  refine WO.fin [0, 1, 7, 8] [] [] [] (e2 := [(0, l35 none a1), (1, .clo F_g2 C_g2), (7, I6 (a1.length : Int)), (8, .int .i64 0)]) (by kernel_rfl) (fun _ h => h) ?_
  refine W.block ?_
  obtain ⟨hl1, h⟩ := chk_some h
  refine W.weak [0, 1, 7, 8] [] [] [] (env' := [(0, l35 none a1), (1, .clo F_g2 C_g2), (7, I6 (a1.length : Int)), (8, I6 ((0 : Nat) : Int))]) (by kernel_rfl) ?_
  refine W.range (σ := Unit) a1 (fun k1 s => [(0, l35 none a1), (1, .clo F_g2 C_g2), (7, I6 (a1.length : Int)), (8, I6 (k1 : Int))]) (fun r0 k0 s => sl_IndexFunc_Lint_l1 g2 (sl_IndexFunc_Lint_j4) r0 k0 = some r) (fun s h => ?_) (fun x1 r1 k1 s hx1 hk1 h hN1 => ?_) () h
  · have h : sl_IndexFunc_Lint_l1 g2 (sl_IndexFunc_Lint_j4) [] (a1).length = some r := h
    rw [sl_IndexFunc_Lint_l1.eq_1] at h
    refine W.seq ?_
    refine W.region (by kernel_rfl) ?_
    refine WO.pureK 0 (some (.bool (decide (((a1).length : Int) < (a1.length : Int))))) (v := .bool false) (by kernel_rfl) (by rw [lt_false (l := a1)]) (e1 := [(0, l35 none a1), (1, .clo F_g2 C_g2), (7, I6 (a1.length : Int)), (8, I6 ((a1).length : Int)), (9, .bool false)]) (by kernel_rfl) ?_
    refine WO.fin ([0, 1, 7, 8, 9]) [] [] [] (e2 := [(0, l35 none a1), (1, .clo F_g2 C_g2), (7, I6 (a1.length : Int)), (8, I6 ((a1).length : Int)), (9, .bool false)]) (by kernel_rfl) (fun _ h => h) ?_
    refine W.seq ?_
    refine W.condB false (by kernel_rfl) (fun h => Bool.noConfusion h) (fun _ => ?_)
    refine W.exit ?_
    refine W.weak [] [] [] [] (env' := []) (by kernel_rfl) ?_
    exact hK4 () h
  · have h : sl_IndexFunc_Lint_l1 g2 (sl_IndexFunc_Lint_j4) (x1 :: r1) k1 = some r := h
    rw [sl_IndexFunc_Lint_l1.eq_2] at h
    refine W.seq ?_
    refine W.region (by kernel_rfl) ?_
    refine WO.pureK 0 (some (.bool (decide ((k1 : Int) < (a1.length : Int))))) (v := .bool true) (by kernel_rfl) (by rw [lt_true hk1]) (e1 := [(0, l35 none a1), (1, .clo F_g2 C_g2), (7, I6 (a1.length : Int)), (8, I6 (k1 : Int)), (9, .bool true)]) (by kernel_rfl) ?_
    refine WO.fin ([0, 1, 7, 8, 9]) [] [] [] (e2 := [(0, l35 none a1), (1, .clo F_g2 C_g2), (7, I6 (a1.length : Int)), (8, I6 (k1 : Int)), (9, .bool true)]) (by kernel_rfl) (fun _ h => h) ?_
    refine W.seq ?_
    refine W.condB true (by kernel_rfl) (fun _ => ?_) (fun h => Bool.noConfusion h)
    refine W.skip ?_
    refine W.weak [0, 1, 7, 8] [] [] [] (env' := [(0, l35 none a1), (1, .clo F_g2 C_g2), (7, I6 (a1.length : Int)), (8, I6 (k1 : Int))]) (by kernel_rfl) ?_
    refine W.seq ?_
    refine W.block ?_
    refine W.seq ?_
    refine W.regT [0, 1, 5, 7, 8] [] [] [] (e2 := [(0, l35 none a1), (1, .clo F_g2 C_g2), (5, I6 (k1 : Int)), (7, I6 (a1.length : Int)), (8, I6 (k1 : Int))]) (by kernel_rfl) (by kernel_rfl) (fun _ h => h) ?_
    refine W.seq ?_
    refine W.region (by kernel_rfl) ?_
    refine WO.pureK 3 (if (0 : Int) ≤ (k1 : Int) then ((List.map (encL 3 1 (AV.int .i64)) a1)[Int.toNat (k1 : Int)]?).map AV.ptr else none) (v := .ptr (l3 none x1)) (by kernel_rfl) (idx_nat (f := (encL 3 1 (AV.int .i64))) hx1) (e1 := [(0, l35 none a1), (1, .clo F_g2 C_g2), (5, I6 (k1 : Int)), (7, I6 (a1.length : Int)), (8, I6 (k1 : Int)), (11, .clo F_g2 C_g2), (12, l35 none a1), (13, I6 (k1 : Int)), (14, .ptr (l3 none x1))]) (by kernel_rfl) ?_
    obtain ⟨w9, hw9, h⟩ := bind_some h
    refine WO.callK 1 (F := F_g2) (l := [l3 none x1]) (C := C_g2) (r := .bool w9) (by kernel_rfl) hok_g2 (hrun_g2 x1 w9 hw9) (e1 := [(0, l35 none a1), (1, .clo F_g2 C_g2), (5, I6 (k1 : Int)), (7, I6 (a1.length : Int)), (8, I6 (k1 : Int)), (11, .clo F_g2 C_g2), (12, l35 none a1), (13, I6 (k1 : Int)), (14, .ptr (l3 none x1)), (15, l3 none x1), (16, .bool w9)]) (by kernel_rfl) ?_
    refine WO.fin [0, 1, 5, 7, 8, 16] [] [] [] (e2 := [(0, l35 none a1), (1, .clo F_g2 C_g2), (5, I6 (k1 : Int)), (7, I6 (a1.length : Int)), (8, I6 (k1 : Int)), (16, .bool w9)]) (by kernel_rfl) (fun _ h => h) ?_
    refine W.condB w9 (by kernel_rfl) (fun hb => ?_) (fun hb => ?_)
    · replace h := cond_t hb h
      refine W.seq ?_
      refine W.regT [4] [] [] [] (e2 := [(4, I6 (k1 : Int))]) (by kernel_rfl) (by kernel_rfl) (fun _ h => h) ?_
      refine W.weak [4] [] [] [] (env' := [(4, I6 (k1 : Int))]) (by kernel_rfl) ?_
      have hr : aresults Try.prog Try.f93 [(4, I6 (k1 : Int))] = some (I6 (k1 : Int)) := by kernel_rfl
      cases h
      exact W.ret hr
    replace h := cond_f hb h
    refine W.skip ?_
    refine W.weak [0, 1, 7, 8] [] [] [] (env' := [(0, l35 none a1), (1, .clo F_g2 C_g2), (7, I6 (a1.length : Int)), (8, I6 (k1 : Int))]) (by kernel_rfl) ?_
    refine W.region (by kernel_rfl) ?_
    refine WO.pureK 0 (some (I6 (IntKind.wrap .i64 ((k1 : Int) + 1)))) (v := I6 ((k1 + 1 : Nat) : Int)) (by kernel_rfl) (by rw [wrap_succ hl1 hk1]) (e1 := [(0, l35 none a1), (1, .clo F_g2 C_g2), (7, I6 (a1.length : Int)), (8, I6 (k1 : Int)), (18, I6 ((k1 + 1 : Nat) : Int))]) (by kernel_rfl) ?_
    refine WO.fin [0, 1, 7, 8] [] [] [] (e2 := [(0, l35 none a1), (1, .clo F_g2 C_g2), (7, I6 (a1.length : Int)), (8, I6 ((k1 + 1 : Nat) : Int))]) (by kernel_rfl) (fun _ h => h) ?_
    exact hN1 () h
def sl_ContainsFunc_Lint (a1 : (List (List Int))) (g2 : ((List Int) → Option Bool)) : Option Bool :=
  ((sl_IndexFunc_Lint a1 g2).bind fun w5 => (some (decide (w5 ≥ 0))))
theorem run_sl_ContainsFunc_Lint (a1 : (List (List Int))) (g2 : ((List Int) → Option Bool)) (F_g2 : Nat) (C_g2 : List AV) (hok_g2 : okFn Try.prog F_g2 = true) (hrun_g2 : ∀ (x0 : (List Int)) r, g2 x0 = some r → Run Try.prog (.call F_g2 ([l3 none x0] ++ C_g2) (.bool r))) (r : Bool) (h : sl_ContainsFunc_Lint a1 g2 = some r) : Run Try.prog (.call 80 [l35 none a1, .clo F_g2 C_g2] (.bool r)) := by
  refine call_of_W Try.func80 rfl (by kernel_rfl) (env0 := [(0, l35 none a1), (1, .clo F_g2 C_g2)]) (by kernel_rfl) ?_
  unfold sl_ContainsFunc_Lint at h
  refine W.seq ?_
  refine W.regT [0, 1] [] [] [] (e2 := [(0, l35 none a1), (1, .clo F_g2 C_g2)]) (by kernel_rfl) (by kernel_rfl) (fun _ h => h) ?_
  refine W.seq ?_
  refine W.region (by kernel_rfl) ?_
  obtain ⟨w5, hw5, h⟩ := bind_some h
  refine WO.callK 2 (F := 93) (l := [l35 none a1, .clo F_g2 C_g2]) (C := []) (r := I6 w5) (by kernel_rfl) (by kernel_rfl) (run_sl_IndexFunc_Lint a1 g2 F_g2 C_g2 hok_g2 hrun_g2 w5 hw5) (e1 := [(0, l35 none a1), (1, .clo F_g2 C_g2), (5, l35 none a1), (6, .clo F_g2 C_g2), (7, I6 w5)]) (by kernel_rfl) ?_
  refine WO.fin [4] [] [] [] (e2 := [(4, .bool (decide (w5 ≥ 0)))]) (by kernel_rfl) (fun _ h => h) ?_
  refine W.weak [4] [] [] [] (env' := [(4, .bool (decide (w5 ≥ 0)))]) (by kernel_rfl) ?_
  have hr : aresults Try.prog Try.f80 [(4, .bool (decide (w5 ≥ 0)))] = some (.bool (decide (w5 ≥ 0))) := by kernel_rfl
  cases h
  exact W.ret hr
def dp_table_1 (a1 : (List Int)) (c2 : Int) : Option Bool :=
  (some ((a1.length : Int) != c2))
theorem run_dp_table_1 (a1 : (List Int)) (c2 : Int) (r : Bool) (h : dp_table_1 a1 c2 = some r) : Run Try.prog (.call 81 [l3 none a1, .ptr (I6 c2)] (.bool r)) := by
  refine call_of_W Try.func81 rfl (by kernel_rfl) (env0 := [(0, l3 none a1), (1, .ptr (I6 c2))]) (by kernel_rfl) ?_
  unfold dp_table_1 at h
  refine W.seq ?_
  refine W.regT [0, 1] [] [] [] (e2 := [(0, l3 none a1), (1, .ptr (I6 c2))]) (by kernel_rfl) (by kernel_rfl) (fun _ h => h) ?_
  refine W.seq ?_
  refine W.region (by kernel_rfl) ?_
  refine WO.pureK 1 (some (I6 ((List.map (AV.int .i64) a1).length : Int))) (v := I6 (a1.length : Int)) (by kernel_rfl) (by rw [List.length_map]) (e1 := [(0, l3 none a1), (1, .ptr (I6 c2)), (4, l3 none a1), (5, I6 (a1.length : Int))]) (by kernel_rfl) ?_
  refine WO.fin [3] [] [] [] (e2 := [(3, .bool ((a1.length : Int) != c2))]) (by kernel_rfl) (fun _ h => h) ?_
  refine W.weak [3] [] [] [] (env' := [(3, .bool ((a1.length : Int) != c2))]) (by kernel_rfl) ?_
  have hr : aresults Try.prog Try.f81 [(3, .bool ((a1.length : Int) != c2))] = some (.bool ((a1.length : Int) != c2)) := by kernel_rfl
  cases h
  exact W.ret hr
def dp_table_j4 (v6 : Bool) : Option Bool :=
  (some v6)
def dp_table (a1 : Int) (a2 : (List (List Int))) : Option Bool :=
  (bif (decide (a1 ≥ 1)) then (bif (decide (a1 ≤ 8)) then (bif (decide ((a2.length : Int) ≤ 60)) then ((sl_ContainsFunc_Lint a2 (fun y0 => dp_table_1 y0 a1)).bind fun w5 => ((dp_table_j4) (!w5))) else ((dp_table_j4) false)) else ((dp_table_j4) false)) else ((dp_table_j4) false))
theorem run_dp_table (a1 : Int) (a2 : (List (List Int))) (r : Bool) (h : dp_table a1 a2 = some r) : Run Try.prog (.call 65 [I6 a1, l35 none a2] (.bool r)) := by
  refine call_of_W Try.func65 rfl (by kernel_rfl) (env0 := [(0, I6 a1), (1, l35 none a2)]) (by kernel_rfl) ?_
  unfold dp_table at h
  refine W.seq ?_
  refine W.regT [1, 2] [2] [] [] (e2 := [(1, l35 none a2), (2, .ptr (I6 a1))]) (by kernel_rfl) (by kernel_rfl) (fun _ h => h) ?_
  refine W.seq ?_
  refine W.join (σ := (Bool)) (fun s => [(4, .bool s)]) (fun s => (dp_table_j4) s = some r) (fun s h => ?_) (fun hK4 => ?_)
  · obtain ⟨v6, rfl⟩ : ∃ x, x = s := ⟨s, rfl⟩
    have h : (dp_table_j4) v6 = some r := h
    unfold dp_table_j4 at h
    refine W.weak [4] [] [] [] (env' := [(4, .bool v6)]) (by kernel_rfl) ?_
    have hr : aresults Try.prog Try.f65 [(4, .bool v6)] = some (.bool v6) := by kernel_rfl
    cases h
    exact W.ret hr
  refine W.region (by kernel_rfl) ?_
  refine WO.boolK 3 (fun b => [(1, l35 none a2), (2, .ptr (I6 a1)), (5, I6 a1), (6, .bool b), (7, .bool b)]) (decide (a1 ≥ 1)) (by kernel_rfl) (fun hb => ?_) (fun hb => ?_)
  · replace h := cond_t hb h
    refine WO.boolK 4 (fun b => [(1, l35 none a2), (2, .ptr (I6 a1)), (5, I6 a1), (6, .bool true), (7, .bool true), (8, I6 a1), (9, .bool b), (10, .bool b), (11, .bool b)]) (decide (a1 ≤ 8)) (by kernel_rfl) (fun hb => ?_) (fun hb => ?_)
    · replace h := cond_t hb h
      refine WO.pureK 1 (some (I6 ((List.map (encL 3 1 (AV.int .i64)) a2).length : Int))) (v := I6 (a2.length : Int)) (by kernel_rfl) (by rw [List.length_map]) (e1 := [(1, l35 none a2), (2, .ptr (I6 a1)), (5, I6 a1), (6, .bool true), (7, .bool true), (8, I6 a1), (9, .bool true), (10, .bool true), (11, .bool true), (12, l35 none a2), (13, I6 (a2.length : Int))]) (by kernel_rfl) ?_
      refine WO.boolK 3 (fun b => [(1, l35 none a2), (2, .ptr (I6 a1)), (5, I6 a1), (6, .bool true), (7, .bool true), (8, I6 a1), (9, .bool true), (10, .bool true), (11, .bool true), (12, l35 none a2), (13, I6 (a2.length : Int)), (14, .bool b), (15, .bool b), (16, .bool b)]) (decide ((a2.length : Int) ≤ 60)) (by kernel_rfl) (fun hb => ?_) (fun hb => ?_)
      · replace h := cond_t hb h
        obtain ⟨w5, hw5, h⟩ := bind_some h
        refine WO.callK 2 (F := 80) (l := [l35 none a2, .clo 81 [.ptr (I6 a1)]]) (C := []) (r := .bool w5) (by kernel_rfl) (by kernel_rfl) (run_sl_ContainsFunc_Lint a2 (fun y0 => dp_table_1 y0 a1) 81 [.ptr (I6 a1)] (by kernel_rfl) (fun y0 r h => run_dp_table_1 y0 a1 r h) w5 hw5) (e1 := [(1, l35 none a2), (2, .ptr (I6 a1)), (5, I6 a1), (6, .bool true), (7, .bool true), (8, I6 a1), (9, .bool true), (10, .bool true), (11, .bool true), (12, l35 none a2), (13, I6 (a2.length : Int)), (14, .bool true), (15, .bool true), (16, .bool true), (17, l35 none a2), (18, .clo 81 [.ptr (I6 a1)]), (19, .bool w5)]) (by kernel_rfl) ?_
        refine WO.fin [4] [] [] [] (e2 := [(4, .bool (!w5))]) (by kernel_rfl) (fun _ h => h) ?_
        exact hK4 (!w5) h
      replace h := cond_f hb h
      refine WO.fin [4] [] [] [] (e2 := [(4, .bool false)]) (by kernel_rfl) (fun _ h => h) ?_
      exact hK4 false h
    replace h := cond_f hb h
    refine WO.fin [4] [] [] [] (e2 := [(4, .bool false)]) (by kernel_rfl) (fun _ h => h) ?_
    exact hK4 false h
  replace h := cond_f hb h
  refine WO.fin [4] [] [] [] (e2 := [(4, .bool false)]) (by kernel_rfl) (fun _ h => h) ?_
  exact hK4 false h
def sl_IndexFunc_int_j4 : Option Int :=
  (some (-1))
def sl_IndexFunc_int_l1 (g2 : (Int → Option Bool)) (K4 : (Option Int)) : List Int → Nat → Option Int
  | [], k1 => K4
  | x1 :: r1, k1 => ((g2 x1).bind fun w9 => (bif w9 then (some (k1 : Int)) else (sl_IndexFunc_int_l1 g2 K4 r1 (k1 + 1))))
def sl_IndexFunc_int (a1 : (List Int)) (g2 : (Int → Option Bool)) : Option Int :=
  (chk (lenOk a1) (sl_IndexFunc_int_l1 g2 (sl_IndexFunc_int_j4) a1 0))
theorem run_sl_IndexFunc_int (a1 : (List Int)) (g2 : (Int → Option Bool)) (F_g2 : Nat) (C_g2 : List AV) (hok_g2 : okFn Try.prog F_g2 = true) (hrun_g2 : ∀ (x0 : Int) r, g2 x0 = some r → Run Try.prog (.call F_g2 ([I6 x0] ++ C_g2) (.bool r))) (r : Int) (h : sl_IndexFunc_int a1 g2 = some r) : Run Try.prog (.call 78 [l3 none a1, .clo F_g2 C_g2] (I6 r)) := by
  refine call_of_W Try.func78 rfl (by kernel_rfl) (env0 := [(0, l3 none a1), (1, .clo F_g2 C_g2)]) (by kernel_rfl) ?_
  unfold sl_IndexFunc_int at h
  refine W.seq ?_
  refine W.regT [0, 1] [] [] [] (e2 := [(0, l3 none a1), (1, .clo F_g2 C_g2)]) (by kernel_rfl) (by kernel_rfl) (fun _ h => h) ?_
  refine W.seq ?_
  refine W.join (σ := Unit) (fun s => []) (fun s => (sl_IndexFunc_int_j4) = some r) (fun s h => ?_) (fun hK4 => ?_)
  · have h : (sl_IndexFunc_int_j4) = some r := h
    unfold sl_IndexFunc_int_j4 at h
    refine W.seq ?_
    refine W.regT [4] [] [] [] (e2 := [(4, I6 (-1))]) (by kernel_rfl) (by kernel_rfl) (fun _ h => h) ?_
    refine W.weak [4] [] [] [] (env' := [(4, I6 (-1))]) (by kernel_rfl) ?_
    have hr : aresults Try.prog Try.f78 [(4, I6 (-1))] = some (I6 (-1)) := by kernel_rfl
    cases h
    exact W.ret hr
  refine W.seq ?_
  refine W.region (by kernel_rfl) ?_
  refine WO.pureK 1 (some (I6 ((List.map (AV.int .i64) a1).length : Int))) (v := I6 (a1.length : Int)) (by kernel_rfl) (by rw [List.length_map]) (e1 := [(0, l3 none a1), (1, .clo F_g2 C_g2), (6, l3 none a1), (7, I6 (a1.length : Int))]) (by kernel_rfl) ?_
  refine WO.fin [0, 1, 7, 8] [] [] [] (e2 := [(0, l3 none a1), (1, .clo F_g2 C_g2), (7, I6 (a1.length : Int)), (8, .int .i64 0)]) (by kernel_rfl) (fun _ h => h) ?_
  refine W.block ?_
  obtain ⟨hl1, h⟩ := chk_some h
  refine W.weak [0, 1, 7, 8] [] [] [] (env' := [(0, l3 none a1), (1, .clo F_g2 C_g2), (7, I6 (a1.length : Int)), (8, I6 ((0 : Nat) : Int))]) (by kernel_rfl) ?_
  refine W.range (σ := Unit) a1 (fun k1 s => [(0, l3 none a1), (1, .clo F_g2 C_g2), (7, I6 (a1.length : Int)), (8, I6 (k1 : Int))]) (fun r0 k0 s => sl_IndexFunc_int_l1 g2 (sl_IndexFunc_int_j4) r0 k0 = some r) (fun s h => ?_) (fun x1 r1 k1 s hx1 hk1 h hN1 => ?_) () h
  · have h : sl_IndexFunc_int_l1 g2 (sl_IndexFunc_int_j4) [] (a1).length = some r := h
    rw [sl_IndexFunc_int_l1.eq_1] at h
    refine W.seq ?_
    refine W.region (by kernel_rfl) ?_
    refine WO.pureK 0 (some (.bool (decide (((a1).length : Int) < (a1.length : Int))))) (v := .bool false) (by kernel_rfl) (by rw [lt_false (l := a1)]) (e1 := [(0, l3 none a1), (1, .clo F_g2 C_g2), (7, I6 (a1.length : Int)), (8, I6 ((a1).length : Int)), (9, .bool false)]) (by kernel_rfl) ?_
    refine WO.fin ([0, 1, 7, 8, 9]) [] [] [] (e2 := [(0, l3 none a1), (1, .clo F_g2 C_g2), (7, I6 (a1.length : Int)), (8, I6 ((a1).length : Int)), (9, .bool false)]) (by kernel_rfl) (fun _ h => h) ?_
    refine W.seq ?_
    refine W.condB false (by kernel_rfl) (fun h => Bool.noConfusion h) (fun _ => ?_)
    refine W.exit ?_
    refine W.weak [] [] [] [] (env' := []) (by kernel_rfl) ?_
    exact hK4 () h
  · have h : sl_IndexFunc_int_l1 g2 (sl_IndexFunc_int_j4) (x1 :: r1) k1 = some r := h
    rw [sl_IndexFunc_int_l1.eq_2] at h
    refine W.seq ?_
    refine W.region (by kernel_rfl) ?_
    refine WO.pureK 0 (some (.bool (decide ((k1 : Int) < (a1.length : Int))))) (v := .bool true) (by kernel_rfl) (by rw [lt_true hk1]) (e1 := [(0, l3 none a1), (1, .clo F_g2 C_g2), (7, I6 (a1.length : Int)), (8, I6 (k1 : Int)), (9, .bool true)]) (by kernel_rfl) ?_
    refine WO.fin ([0, 1, 7, 8, 9]) [] [] [] (e2 := [(0, l3 none a1), (1, .clo F_g2 C_g2), (7, I6 (a1.length : Int)), (8, I6 (k1 : Int)), (9, .bool true)]) (by kernel_rfl) (fun _ h => h) ?_
    refine W.seq ?_
    refine W.condB true (by kernel_rfl) (fun _ => ?_) (fun h => Bool.noConfusion h)
    refine W.skip ?_
    refine W.weak [0, 1, 7, 8] [] [] [] (env' := [(0, l3 none a1), (1, .clo F_g2 C_g2), (7, I6 (a1.length : Int)), (8, I6 (k1 : Int))]) (by kernel_rfl) ?_
    refine W.seq ?_
    refine W.block ?_
    refine W.seq ?_
    refine W.regT [0, 1, 5, 7, 8] [] [] [] (e2 := [(0, l3 none a1), (1, .clo F_g2 C_g2), (5, I6 (k1 : Int)), (7, I6 (a1.length : Int)), (8, I6 (k1 : Int))]) (by kernel_rfl) (by kernel_rfl) (fun _ h => h) ?_
    refine W.seq ?_
    refine W.region (by kernel_rfl) ?_
    refine WO.pureK 3 (if (0 : Int) ≤ (k1 : Int) then ((List.map (AV.int .i64) a1)[Int.toNat (k1 : Int)]?).map AV.ptr else none) (v := .ptr (I6 x1)) (by kernel_rfl) (idx_nat (f := (AV.int .i64)) hx1) (e1 := [(0, l3 none a1), (1, .clo F_g2 C_g2), (5, I6 (k1 : Int)), (7, I6 (a1.length : Int)), (8, I6 (k1 : Int)), (11, .clo F_g2 C_g2), (12, l3 none a1), (13, I6 (k1 : Int)), (14, .ptr (I6 x1))]) (by kernel_rfl) ?_
    obtain ⟨w9, hw9, h⟩ := bind_some h
    refine WO.callK 1 (F := F_g2) (l := [I6 x1]) (C := C_g2) (r := .bool w9) (by kernel_rfl) hok_g2 (hrun_g2 x1 w9 hw9) (e1 := [(0, l3 none a1), (1, .clo F_g2 C_g2), (5, I6 (k1 : Int)), (7, I6 (a1.length : Int)), (8, I6 (k1 : Int)), (11, .clo F_g2 C_g2), (12, l3 none a1), (13, I6 (k1 : Int)), (14, .ptr (I6 x1)), (15, I6 x1), (16, .bool w9)]) (by kernel_rfl) ?_
    refine WO.fin [0, 1, 5, 7, 8, 16] [] [] [] (e2 := [(0, l3 none a1), (1, .clo F_g2 C_g2), (5, I6 (k1 : Int)), (7, I6 (a1.length : Int)), (8, I6 (k1 : Int)), (16, .bool w9)]) (by kernel_rfl) (fun _ h => h) ?_
    refine W.condB w9 (by kernel_rfl) (fun hb => ?_) (fun hb => ?_)
    · replace h := cond_t hb h
      refine W.seq ?_
      refine W.regT [4] [] [] [] (e2 := [(4, I6 (k1 : Int))]) (by kernel_rfl) (by kernel_rfl) (fun _ h => h) ?_
      refine W.weak [4] [] [] [] (env' := [(4, I6 (k1 : Int))]) (by kernel_rfl) ?_
      have hr : aresults Try.prog Try.f78 [(4, I6 (k1 : Int))] = some (I6 (k1 : Int)) := by kernel_rfl
      cases h
      exact W.ret hr
    replace h := cond_f hb h
    refine W.skip ?_
    refine W.weak [0, 1, 7, 8] [] [] [] (env' := [(0, l3 none a1), (1, .clo F_g2 C_g2), (7, I6 (a1.length : Int)), (8, I6 (k1 : Int))]) (by kernel_rfl) ?_
    refine W.region (by kernel_rfl) ?_
    refine WO.pureK 0 (some (I6 (IntKind.wrap .i64 ((k1 : Int) + 1)))) (v := I6 ((k1 + 1 : Nat) : Int)) (by kernel_rfl) (by rw [wrap_succ hl1 hk1]) (e1 := [(0, l3 none a1), (1, .clo F_g2 C_g2), (7, I6 (a1.length : Int)), (8, I6 (k1 : Int)), (18, I6 ((k1 + 1 : Nat) : Int))]) (by kernel_rfl) ?_
    refine WO.fin [0, 1, 7, 8] [] [] [] (e2 := [(0, l3 none a1), (1, .clo F_g2 C_g2), (7, I6 (a1.length : Int)), (8, I6 ((k1 + 1 : Nat) : Int))]) (by kernel_rfl) (fun _ h => h) ?_
    exact hN1 () h
def sl_ContainsFunc_int (a1 : (List Int)) (g2 : (Int → Option Bool)) : Option Bool :=
  ((sl_IndexFunc_int a1 g2).bind fun w5 => (some (decide (w5 ≥ 0))))
theorem run_sl_ContainsFunc_int (a1 : (List Int)) (g2 : (Int → Option Bool)) (F_g2 : Nat) (C_g2 : List AV) (hok_g2 : okFn Try.prog F_g2 = true) (hrun_g2 : ∀ (x0 : Int) r, g2 x0 = some r → Run Try.prog (.call F_g2 ([I6 x0] ++ C_g2) (.bool r))) (r : Bool) (h : sl_ContainsFunc_int a1 g2 = some r) : Run Try.prog (.call 60 [l3 none a1, .clo F_g2 C_g2] (.bool r)) := by
  refine call_of_W Try.func60 rfl (by kernel_rfl) (env0 := [(0, l3 none a1), (1, .clo F_g2 C_g2)]) (by kernel_rfl) ?_
  unfold sl_ContainsFunc_int at h
  refine W.seq ?_
  refine W.regT [0, 1] [] [] [] (e2 := [(0, l3 none a1), (1, .clo F_g2 C_g2)]) (by kernel_rfl) (by kernel_rfl) (fun _ h => h) ?_
  refine W.seq ?_
  refine W.region (by kernel_rfl) ?_
  obtain ⟨w5, hw5, h⟩ := bind_some h
  refine WO.callK 2 (F := 78) (l := [l3 none a1, .clo F_g2 C_g2]) (C := []) (r := I6 w5) (by kernel_rfl) (by kernel_rfl) (run_sl_IndexFunc_int a1 g2 F_g2 C_g2 hok_g2 hrun_g2 w5 hw5) (e1 := [(0, l3 none a1), (1, .clo F_g2 C_g2), (5, l3 none a1), (6, .clo F_g2 C_g2), (7, I6 w5)]) (by kernel_rfl) ?_
  refine WO.fin [4] [] [] [] (e2 := [(4, .bool (decide (w5 ≥ 0)))]) (by kernel_rfl) (fun _ h => h) ?_
  refine W.weak [4] [] [] [] (env' := [(4, .bool (decide (w5 ≥ 0)))]) (by kernel_rfl) ?_
  have hr : aresults Try.prog Try.f60 [(4, .bool (decide (w5 ≥ 0)))] = some (.bool (decide (w5 ≥ 0))) := by kernel_rfl
  cases h
  exact W.ret hr
def dp_sets_1_j4 (v6 : Bool) : Option Bool :=
  (some v6)
def dp_sets_1 (a1 : Int) (c2 : Int) : Option Bool :=
  (bif (decide (a1 < 0)) then ((dp_sets_1_j4) true) else (chk (decide (0 ≤ c2)) ((dp_sets_1_j4) (decide (a1 ≥ (iShl .i64 1 c2))))))
theorem run_dp_sets_1 (a1 : Int) (c2 : Int) (r : Bool) (h : dp_sets_1 a1 c2 = some r) : Run Try.prog (.call 76 [I6 a1, .ptr (I6 c2)] (.bool r)) := by
  refine call_of_W Try.func76 rfl (by kernel_rfl) (env0 := [(0, I6 a1), (1, .ptr (I6 c2))]) (by kernel_rfl) ?_
  unfold dp_sets_1 at h
  refine W.seq ?_
  refine W.regT [0, 1] [] [] [] (e2 := [(0, I6 a1), (1, .ptr (I6 c2))]) (by kernel_rfl) (by kernel_rfl) (fun _ h => h) ?_
  refine W.seq ?_
  refine W.join (σ := (Bool)) (fun s => [(3, .bool s)]) (fun s => (dp_sets_1_j4) s = some r) (fun s h => ?_) (fun hK4 => ?_)
  · obtain ⟨v6, rfl⟩ : ∃ x, x = s := ⟨s, rfl⟩
    have h : (dp_sets_1_j4) v6 = some r := h
    unfold dp_sets_1_j4 at h
    refine W.weak [3] [] [] [] (env' := [(3, .bool v6)]) (by kernel_rfl) ?_
    have hr : aresults Try.prog Try.f76 [(3, .bool v6)] = some (.bool v6) := by kernel_rfl
    cases h
    exact W.ret hr
  refine W.region (by kernel_rfl) ?_
  refine WO.boolK 3 (fun b => [(0, I6 a1), (1, .ptr (I6 c2)), (4, I6 a1), (5, .bool b), (6, .bool b)]) (decide (a1 < 0)) (by kernel_rfl) (fun hb => ?_) (fun hb => ?_)
  · replace h := cond_t hb h
    refine WO.fin [3] [] [] [] (e2 := [(3, .bool true)]) (by kernel_rfl) (fun _ h => h) ?_
    exact hK4 true h
  replace h := cond_f hb h
  obtain ⟨hc5, h⟩ := chk_some h
  refine WO.pureK 2 (if c2 < 0 then none else some (I6 (iShl .i64 1 c2))) (v := I6 (iShl .i64 1 c2)) (by kernel_rfl) (if_neg (not_lt_of_chk hc5)) (e1 := [(0, I6 a1), (1, .ptr (I6 c2)), (4, I6 a1), (5, .bool false), (6, .bool false), (7, I6 a1), (8, I6 c2), (9, I6 (iShl .i64 1 c2))]) (by kernel_rfl) ?_
  refine WO.fin [3] [] [] [] (e2 := [(3, .bool (decide (a1 ≥ (iShl .i64 1 c2))))]) (by kernel_rfl) (fun _ h => h) ?_
  exact hK4 (decide (a1 ≥ (iShl .i64 1 c2))) h
def dp_sets (a1 : Int) (a2 : (List Int)) : Option Bool :=
  ((sl_ContainsFunc_int a2 (fun y0 => dp_sets_1 y0 a1)).bind fun w5 => (some (!w5)))
theorem run_dp_sets (a1 : Int) (a2 : (List Int)) (r : Bool) (h : dp_sets a1 a2 = some r) : Run Try.prog (.call 58 [I6 a1, l3 none a2] (.bool r)) := by
  refine call_of_W Try.func58 rfl (by kernel_rfl) (env0 := [(0, I6 a1), (1, l3 none a2)]) (by kernel_rfl) ?_
  unfold dp_sets at h
  refine W.seq ?_
  refine W.regT [1, 2] [2] [] [] (e2 := [(1, l3 none a2), (2, .ptr (I6 a1))]) (by kernel_rfl) (by kernel_rfl) (fun _ h => h) ?_
  refine W.seq ?_
  refine W.region (by kernel_rfl) ?_
  obtain ⟨w5, hw5, h⟩ := bind_some h
  refine WO.callK 2 (F := 60) (l := [l3 none a2, .clo 76 [.ptr (I6 a1)]]) (C := []) (r := .bool w5) (by kernel_rfl) (by kernel_rfl) (run_sl_ContainsFunc_int a2 (fun y0 => dp_sets_1 y0 a1) 76 [.ptr (I6 a1)] (by kernel_rfl) (fun y0 r h => run_dp_sets_1 y0 a1 r h) w5 hw5) (e1 := [(1, l3 none a2), (2, .ptr (I6 a1)), (5, l3 none a2), (6, .clo 76 [.ptr (I6 a1)]), (7, .bool w5)]) (by kernel_rfl) ?_
  refine WO.fin [4] [] [] [] (e2 := [(4, .bool (!w5))]) (by kernel_rfl) (fun _ h => h) ?_
  refine W.weak [4] [] [] [] (env' := [(4, .bool (!w5))]) (by kernel_rfl) ?_
  have hr : aresults Try.prog Try.f58 [(4, .bool (!w5))] = some (.bool (!w5)) := by kernel_rfl
  cases h
  exact W.ret hr
def dp_agree_j5 (v14 : Int) : Option Int :=
  (some v14)
def dp_agree_j8 (N1 : (Int → Option Int)) (v13 : Int) : Option Int :=
  (N1 v13)
def dp_agree_l1 (a2 : (List Int)) (K5 : (Int → Option Int)) : List Int → Nat → Int → Option Int
  | [], k1, v7 => (K5 v7)
  | x1 :: r1, k1, v7 => ((idx a2 (k1 : Int)).bind fun e11 => (bif (x1 == e11) then (chk (decide (0 ≤ (k1 : Int))) ((dp_agree_j8 (dp_agree_l1 a2 K5 r1 (k1 + 1))) (iOr .i64 v7 (iShl .i64 1 (k1 : Int))))) else ((dp_agree_j8 (dp_agree_l1 a2 K5 r1 (k1 + 1))) v7)))
def dp_agree (a1 : (List Int)) (a2 : (List Int)) : Option Int :=
  (chk (lenOk a1) (dp_agree_l1 a2 (dp_agree_j5) a1 0 0))
theorem run_dp_agree (a1 : (List Int)) (a2 : (List Int)) (r : Int) (h : dp_agree a1 a2 = some r) : Run Try.prog (.call 66 [l3 none a1, l3 none a2] (I6 r)) := by
  refine call_of_W Try.func66 rfl (by kernel_rfl) (env0 := [(0, l3 none a1), (1, l3 none a2)]) (by kernel_rfl) ?_
  unfold dp_agree at h
  refine W.seq ?_
  refine W.regT [0, 1] [] [] [] (e2 := [(0, l3 none a1), (1, l3 none a2)]) (by kernel_rfl) (by kernel_rfl) (fun _ h => h) ?_
  refine W.seq ?_
  refine W.regT [0, 1, 5] [] [] [] (e2 := [(0, l3 none a1), (1, l3 none a2), (5, .int .i64 0)]) (by kernel_rfl) (by kernel_rfl) (fun _ h => h) ?_
  refine W.seq ?_
  refine W.join (σ := (Int)) (fun s => [(5, I6 s)]) (fun s => (dp_agree_j5) s = some r) (fun s h => ?_) (fun hK5 => ?_)
  · obtain ⟨v14, rfl⟩ : ∃ x, x = s := ⟨s, rfl⟩
    have h : (dp_agree_j5) v14 = some r := h
    unfold dp_agree_j5 at h
    refine W.seq ?_
    refine W.regT [4] [] [] [] (e2 := [(4, I6 v14)]) (by kernel_rfl) (by kernel_rfl) (fun _ h => h) ?_
    refine W.weak [4] [] [] [] (env' := [(4, I6 v14)]) (by kernel_rfl) ?_
    have hr : aresults Try.prog Try.f66 [(4, I6 v14)] = some (I6 v14) := by kernel_rfl
    cases h
    exact W.ret hr
  refine W.seq ?_
  refine W.region (by kernel_rfl) ?_
  refine WO.pureK 1 (some (I6 ((List.map (AV.int .i64) a1).length : Int))) (v := I6 (a1.length : Int)) (by kernel_rfl) (by rw [List.length_map]) (e1 := [(0, l3 none a1), (1, l3 none a2), (5, .int .i64 0), (8, l3 none a1), (9, I6 (a1.length : Int))]) (by kernel_rfl) ?_
  refine WO.fin [1, 5, 8, 9, 10] [] [] [] (e2 := [(1, l3 none a2), (5, .int .i64 0), (8, l3 none a1), (9, I6 (a1.length : Int)), (10, .int .i64 0)]) (by kernel_rfl) (fun _ h => h) ?_
  refine W.block ?_
  obtain ⟨hl1, h⟩ := chk_some h
  refine W.weak [1, 5, 8, 9, 10] [] [] [] (env' := [(1, l3 none a2), (5, .int .i64 0), (8, l3 none a1), (9, I6 (a1.length : Int)), (10, I6 ((0 : Nat) : Int))]) (by kernel_rfl) ?_
  refine W.range (σ := (Int)) a1 (fun k1 s => [(1, l3 none a2), (5, I6 s), (8, l3 none a1), (9, I6 (a1.length : Int)), (10, I6 (k1 : Int))]) (fun r0 k0 s => dp_agree_l1 a2 (dp_agree_j5) r0 k0 s = some r) (fun s h => ?_) (fun x1 r1 k1 s hx1 hk1 h hN1 => ?_) 0 h
  · obtain ⟨v7, rfl⟩ : ∃ x, x = s := ⟨s, rfl⟩
    have h : dp_agree_l1 a2 (dp_agree_j5) [] (a1).length v7 = some r := h
    rw [dp_agree_l1.eq_1] at h
    refine W.seq ?_
    refine W.region (by kernel_rfl) ?_
    refine WO.pureK 0 (some (.bool (decide (((a1).length : Int) < (a1.length : Int))))) (v := .bool false) (by kernel_rfl) (by rw [lt_false (l := a1)]) (e1 := [(1, l3 none a2), (5, I6 v7), (8, l3 none a1), (9, I6 (a1.length : Int)), (10, I6 ((a1).length : Int)), (11, .bool false)]) (by kernel_rfl) ?_
    refine WO.fin ([1, 5, 8, 9, 10, 11]) [] [] [] (e2 := [(1, l3 none a2), (5, I6 v7), (8, l3 none a1), (9, I6 (a1.length : Int)), (10, I6 ((a1).length : Int)), (11, .bool false)]) (by kernel_rfl) (fun _ h => h) ?_
    refine W.seq ?_
    refine W.condB false (by kernel_rfl) (fun h => Bool.noConfusion h) (fun _ => ?_)
    refine W.exit ?_
    refine W.weak [5] [] [] [] (env' := [(5, I6 v7)]) (by kernel_rfl) ?_
    exact hK5 v7 h
  · obtain ⟨v7, rfl⟩ : ∃ x, x = s := ⟨s, rfl⟩
    have h : dp_agree_l1 a2 (dp_agree_j5) (x1 :: r1) k1 v7 = some r := h
    rw [dp_agree_l1.eq_2] at h
    refine W.seq ?_
    refine W.region (by kernel_rfl) ?_
    refine WO.pureK 0 (some (.bool (decide ((k1 : Int) < (a1.length : Int))))) (v := .bool true) (by kernel_rfl) (by rw [lt_true hk1]) (e1 := [(1, l3 none a2), (5, I6 v7), (8, l3 none a1), (9, I6 (a1.length : Int)), (10, I6 (k1 : Int)), (11, .bool true)]) (by kernel_rfl) ?_
    refine WO.fin ([1, 5, 8, 9, 10, 11]) [] [] [] (e2 := [(1, l3 none a2), (5, I6 v7), (8, l3 none a1), (9, I6 (a1.length : Int)), (10, I6 (k1 : Int)), (11, .bool true)]) (by kernel_rfl) (fun _ h => h) ?_
    refine W.seq ?_
    refine W.condB true (by kernel_rfl) (fun _ => ?_) (fun h => Bool.noConfusion h)
    refine W.skip ?_
    refine W.weak [1, 5, 8, 9, 10] [] [] [] (env' := [(1, l3 none a2), (5, I6 v7), (8, l3 none a1), (9, I6 (a1.length : Int)), (10, I6 (k1 : Int))]) (by kernel_rfl) ?_
    refine W.seq ?_
    refine W.join (σ := (Int)) (fun s => [(1, l3 none a2), (5, I6 s), (8, l3 none a1), (9, I6 (a1.length : Int)), (10, I6 (k1 : Int))]) (fun s => (dp_agree_j8 (dp_agree_l1 a2 (dp_agree_j5) r1 (k1 + 1))) s = some r) (fun s h => ?_) (fun hK8 => ?_)
    · obtain ⟨v13, rfl⟩ : ∃ x, x = s := ⟨s, rfl⟩
      have h : (dp_agree_j8 (dp_agree_l1 a2 (dp_agree_j5) r1 (k1 + 1))) v13 = some r := h
      unfold dp_agree_j8 at h
      refine W.region (by kernel_rfl) ?_
      refine WO.pureK 0 (some (I6 (IntKind.wrap .i64 ((k1 : Int) + 1)))) (v := I6 ((k1 + 1 : Nat) : Int)) (by kernel_rfl) (by rw [wrap_succ hl1 hk1]) (e1 := [(1, l3 none a2), (5, I6 v13), (8, l3 none a1), (9, I6 (a1.length : Int)), (10, I6 (k1 : Int)), (25, I6 ((k1 + 1 : Nat) : Int))]) (by kernel_rfl) ?_
      refine WO.fin [1, 5, 8, 9, 10] [] [] [] (e2 := [(1, l3 none a2), (5, I6 v13), (8, l3 none a1), (9, I6 (a1.length : Int)), (10, I6 ((k1 + 1 : Nat) : Int))]) (by kernel_rfl) (fun _ h => h) ?_
      exact hN1 v13 h
    refine W.block ?_
    refine W.seq ?_
    refine W.region (by kernel_rfl) ?_
    refine WO.pureK 1 (if (0 : Int) ≤ (k1 : Int) then ((List.map (AV.int .i64) a1)[Int.toNat (k1 : Int)]?).map AV.ptr else none) (v := .ptr (I6 x1)) (by kernel_rfl) (idx_nat (f := (AV.int .i64)) hx1) (e1 := [(1, l3 none a2), (5, I6 v7), (8, l3 none a1), (9, I6 (a1.length : Int)), (10, I6 (k1 : Int)), (12, I6 (k1 : Int)), (13, .ptr (I6 x1))]) (by kernel_rfl) ?_
    refine WO.fin [1, 5, 6, 7, 8, 9, 10] [] [] [] (e2 := [(1, l3 none a2), (5, I6 v7), (6, I6 (k1 : Int)), (7, I6 x1), (8, l3 none a1), (9, I6 (a1.length : Int)), (10, I6 (k1 : Int))]) (by kernel_rfl) (fun _ h => h) ?_
    refine W.seq ?_
    refine W.region (by kernel_rfl) ?_
    obtain ⟨e11, he11, h⟩ := bind_some h
    refine WO.pureK 3 (if (0 : Int) ≤ (k1 : Int) then ((List.map (AV.int .i64) a2)[Int.toNat (k1 : Int)]?).map AV.ptr else none) (v := .ptr (I6 e11)) (by kernel_rfl) (idx_av (f := (AV.int .i64)) he11) (e1 := [(1, l3 none a2), (5, I6 v7), (6, I6 (k1 : Int)), (7, I6 x1), (8, l3 none a1), (9, I6 (a1.length : Int)), (10, I6 (k1 : Int)), (15, I6 x1), (16, l3 none a2), (17, I6 (k1 : Int)), (18, .ptr (I6 e11))]) (by kernel_rfl) ?_
    refine WO.fin [1, 5, 6, 8, 9, 10, 20] [] [] [] (e2 := [(1, l3 none a2), (5, I6 v7), (6, I6 (k1 : Int)), (8, l3 none a1), (9, I6 (a1.length : Int)), (10, I6 (k1 : Int)), (20, .bool (x1 == e11))]) (by kernel_rfl) (fun _ h => h) ?_
    refine W.condB (x1 == e11) (by kernel_rfl) (fun hb => ?_) (fun hb => ?_)
    · replace h := cond_t hb h
      refine W.region (by kernel_rfl) ?_
      obtain ⟨hc12, h⟩ := chk_some h
      refine WO.pureK 2 (if (k1 : Int) < 0 then none else some (I6 (iShl .i64 1 (k1 : Int)))) (v := I6 (iShl .i64 1 (k1 : Int))) (by kernel_rfl) (if_neg (not_lt_of_chk hc12)) (e1 := [(1, l3 none a2), (5, I6 v7), (6, I6 (k1 : Int)), (8, l3 none a1), (9, I6 (a1.length : Int)), (10, I6 (k1 : Int)), (20, .bool (x1 == e11)), (21, I6 v7), (22, I6 (k1 : Int)), (23, I6 (iShl .i64 1 (k1 : Int)))]) (by kernel_rfl) ?_
      refine WO.fin [1, 5, 8, 9, 10] [] [] [] (e2 := [(1, l3 none a2), (5, I6 (iOr .i64 v7 (iShl .i64 1 (k1 : Int)))), (8, l3 none a1), (9, I6 (a1.length : Int)), (10, I6 (k1 : Int))]) (by kernel_rfl) (fun _ h => h) ?_
      exact hK8 (iOr .i64 v7 (iShl .i64 1 (k1 : Int))) h
    replace h := cond_f hb h
    refine W.skip ?_
    refine W.weak [1, 5, 8, 9, 10] [] [] [] (env' := [(1, l3 none a2), (5, I6 v7), (8, l3 none a1), (9, I6 (a1.length : Int)), (10, I6 (k1 : Int))]) (by kernel_rfl) ?_
    exact hK8 v7 h
def dp_Holds_j11 : Option (Bool × Int) :=
  (some (true, 0))
def dp_Holds_j13 (N1 : (Option (Bool × Int))) : Option (Bool × Int) :=
  N1
def dp_Holds_j21 (N2 : (Option (Bool × Int))) (v22 : Bool) : Option (Bool × Int) :=
  (bif v22 then (some (false, 0)) else N2)
def dp_Holds_l2 (x1 : (List Int)) (a3 : dpDep) (K13 : (Option (Bool × Int))) : List (List Int) → Nat → Option (Bool × Int)
  | [], k2 => K13
  | x2 :: r2, k2 => ((dp_agree x1 x2).bind fun w20 => (bif ((iAndNot .i64 a3.f_From w20) == 0) then ((dp_Holds_j21 (dp_Holds_l2 x1 a3 K13 r2 (k2 + 1))) ((iAndNot .i64 a3.f_To w20) != 0)) else ((dp_Holds_j21 (dp_Holds_l2 x1 a3 K13 r2 (k2 + 1))) false)))
def dp_Holds_l1 (a2 : (List (List Int))) (a3 : dpDep) (K11 : (Option (Bool × Int))) : List (List Int) → Nat → Option (Bool × Int)
  | [], k1 => K11
  | x1 :: r1, k1 => ((sub a2 0 (k1 : Int)).bind fun e16 => (chk (lenOk e16) (dp_Holds_l2 x1 a3 (dp_Holds_j13 (dp_Holds_l1 a2 a3 K11 r1 (k1 + 1))) e16 0)))
def dp_Holds_j6 (a2 : (List (List Int))) (a3 : dpDep) (v9 : Bool) : Option (Bool × Int) :=
  (bif v9 then (some (false, 2)) else (chk (lenOk a2) (dp_Holds_l1 a2 a3 (dp_Holds_j11) a2 0)))
def dp_Holds (a1 : Int) (a2 : (List (List Int))) (a3 : dpDep) : Option (Bool × Int) :=
  ((dp_table a1 a2).bind fun w7 => (bif (!w7) then ((dp_Holds_j6 a2 a3) true) else ((dp_sets a1 [a3.f_From, a3.f_To]).bind fun w8 => ((dp_Holds_j6 a2 a3) (!w8)))))
theorem run_dp_Holds (a1 : Int) (a2 : (List (List Int))) (a3 : dpDep) (r : (Bool × Int)) (h : dp_Holds a1 a2 a3 = some r) : Run Try.prog (.call 41 [I6 a1, l35 none a2, .agg [I6 a3.f_From, I6 a3.f_To]] (.tup [.bool r.1, I6 r.2])) := by
  refine call_of_W Try.func41 rfl (by kernel_rfl) (env0 := [(0, I6 a1), (1, l35 none a2), (2, .agg [I6 a3.f_From, I6 a3.f_To])]) (by kernel_rfl) ?_
  unfold dp_Holds at h
  refine W.seq ?_
  refine W.regT [0, 1, 5] [5] [] [] (e2 := [(0, I6 a1), (1, l35 none a2), (5, .ptr (.agg [I6 a3.f_From, I6 a3.f_To]))]) (by kernel_rfl) (by kernel_rfl) (fun _ h => h) ?_
  refine W.seq ?_
  refine W.seq ?_
  refine W.join (σ := (Bool)) (fun s => [(1, l35 none a2), (5, .ptr (.agg [I6 a3.f_From, I6 a3.f_To])), (26, .bool s)]) (fun s => (dp_Holds_j6 a2 a3) s = some r) (fun s h => ?_) (fun hK6 => ?_)
  · obtain ⟨v9, rfl⟩ : ∃ x, x = s := ⟨s, rfl⟩
    have h : (dp_Holds_j6 a2 a3) v9 = some r := h
    unfold dp_Holds_j6 at h
    refine W.condB v9 (by kernel_rfl) (fun hb => ?_) (fun hb => ?_)
    · replace h := cond_t hb h
      refine W.seq ?_
      refine W.regT [6, 7] [] [] [] (e2 := [(6, .bool false), (7, .int .i64 2)]) (by kernel_rfl) (by kernel_rfl) (fun _ h => h) ?_
      refine W.weak [6, 7] [] [] [] (env' := [(6, .bool false), (7, .int .i64 2)]) (by kernel_rfl) ?_
      have hr : aresults Try.prog Try.f41 [(6, .bool false), (7, .int .i64 2)] = some (.tup [.bool false, .int .i64 2]) := by kernel_rfl
      cases h
      exact W.ret hr
    replace h := cond_f hb h
    refine W.skip ?_
    refine W.weak [1, 5] [] [] [] (env' := [(1, l35 none a2), (5, .ptr (.agg [I6 a3.f_From, I6 a3.f_To]))]) (by kernel_rfl) ?_
    refine W.seq ?_
    refine W.join (σ := Unit) (fun s => []) (fun s => (dp_Holds_j11) = some r) (fun s h => ?_) (fun hK11 => ?_)
    · have h : (dp_Holds_j11) = some r := h
      unfold dp_Holds_j11 at h
      refine W.seq ?_
      refine W.regT [6, 7] [] [] [] (e2 := [(6, .bool true), (7, .int .i64 0)]) (by kernel_rfl) (by kernel_rfl) (fun _ h => h) ?_
      refine W.weak [6, 7] [] [] [] (env' := [(6, .bool true), (7, .int .i64 0)]) (by kernel_rfl) ?_
      have hr : aresults Try.prog Try.f41 [(6, .bool true), (7, .int .i64 0)] = some (.tup [.bool true, .int .i64 0]) := by kernel_rfl
      cases h
      exact W.ret hr
    refine W.seq ?_
    refine W.region (by kernel_rfl) ?_
    refine WO.pureK 1 (some (I6 ((List.map (encL 3 1 (AV.int .i64)) a2).length : Int))) (v := I6 (a2.length : Int)) (by kernel_rfl) (by rw [List.length_map]) (e1 := [(1, l35 none a2), (5, .ptr (.agg [I6 a3.f_From, I6 a3.f_To])), (27, l35 none a2), (28, I6 (a2.length : Int))]) (by kernel_rfl) ?_
    refine WO.fin [1, 5, 27, 28, 29] [] [] [] (e2 := [(1, l35 none a2), (5, .ptr (.agg [I6 a3.f_From, I6 a3.f_To])), (27, l35 none a2), (28, I6 (a2.length : Int)), (29, .int .i64 0)]) (by kernel_rfl) (fun _ h => h) ?_
    refine W.block ?_
    obtain ⟨hl1, h⟩ := chk_some h
    refine W.weak [1, 5, 27, 28, 29] [] [] [] (env' := [(1, l35 none a2), (5, .ptr (.agg [I6 a3.f_From, I6 a3.f_To])), (27, l35 none a2), (28, I6 (a2.length : Int)), (29, I6 ((0 : Nat) : Int))]) (by kernel_rfl) ?_
    refine W.range (σ := Unit) a2 (fun k1 s => [(1, l35 none a2), (5, .ptr (.agg [I6 a3.f_From, I6 a3.f_To])), (27, l35 none a2), (28, I6 (a2.length : Int)), (29, I6 (k1 : Int))]) (fun r0 k0 s => dp_Holds_l1 a2 a3 (dp_Holds_j11) r0 k0 = some r) (fun s h => ?_) (fun x1 r1 k1 s hx1 hk1 h hN1 => ?_) () h
    · have h : dp_Holds_l1 a2 a3 (dp_Holds_j11) [] (a2).length = some r := h
      rw [dp_Holds_l1.eq_1] at h
      refine W.seq ?_
      refine W.region (by kernel_rfl) ?_
      refine WO.pureK 0 (some (.bool (decide (((a2).length : Int) < (a2.length : Int))))) (v := .bool false) (by kernel_rfl) (by rw [lt_false (l := a2)]) (e1 := [(1, l35 none a2), (5, .ptr (.agg [I6 a3.f_From, I6 a3.f_To])), (27, l35 none a2), (28, I6 (a2.length : Int)), (29, I6 ((a2).length : Int)), (30, .bool false)]) (by kernel_rfl) ?_
      refine WO.fin ([1, 5, 27, 28, 29, 30]) [] [] [] (e2 := [(1, l35 none a2), (5, .ptr (.agg [I6 a3.f_From, I6 a3.f_To])), (27, l35 none a2), (28, I6 (a2.length : Int)), (29, I6 ((a2).length : Int)), (30, .bool false)]) (by kernel_rfl) (fun _ h => h) ?_
      refine W.seq ?_
      refine W.condB false (by kernel_rfl) (fun h => Bool.noConfusion h) (fun _ => ?_)
      refine W.exit ?_
      refine W.weak [] [] [] [] (env' := []) (by kernel_rfl) ?_
      exact hK11 () h
    · have h : dp_Holds_l1 a2 a3 (dp_Holds_j11) (x1 :: r1) k1 = some r := h
      rw [dp_Holds_l1.eq_2] at h
      refine W.seq ?_
      refine W.region (by kernel_rfl) ?_
      refine WO.pureK 0 (some (.bool (decide ((k1 : Int) < (a2.length : Int))))) (v := .bool true) (by kernel_rfl) (by rw [lt_true hk1]) (e1 := [(1, l35 none a2), (5, .ptr (.agg [I6 a3.f_From, I6 a3.f_To])), (27, l35 none a2), (28, I6 (a2.length : Int)), (29, I6 (k1 : Int)), (30, .bool true)]) (by kernel_rfl) ?_
      refine WO.fin ([1, 5, 27, 28, 29, 30]) [] [] [] (e2 := [(1, l35 none a2), (5, .ptr (.agg [I6 a3.f_From, I6 a3.f_To])), (27, l35 none a2), (28, I6 (a2.length : Int)), (29, I6 (k1 : Int)), (30, .bool true)]) (by kernel_rfl) (fun _ h => h) ?_
      refine W.seq ?_
      refine W.condB true (by kernel_rfl) (fun _ => ?_) (fun h => Bool.noConfusion h)
      refine W.skip ?_
      refine W.weak [1, 5, 27, 28, 29] [] [] [] (env' := [(1, l35 none a2), (5, .ptr (.agg [I6 a3.f_From, I6 a3.f_To])), (27, l35 none a2), (28, I6 (a2.length : Int)), (29, I6 (k1 : Int))]) (by kernel_rfl) ?_
      refine W.seq ?_
      refine W.join (σ := Unit) (fun s => [(1, l35 none a2), (5, .ptr (.agg [I6 a3.f_From, I6 a3.f_To])), (27, l35 none a2), (28, I6 (a2.length : Int)), (29, I6 (k1 : Int))]) (fun s => (dp_Holds_j13 (dp_Holds_l1 a2 a3 (dp_Holds_j11) r1 (k1 + 1))) = some r) (fun s h => ?_) (fun hK13 => ?_)
      · have h : (dp_Holds_j13 (dp_Holds_l1 a2 a3 (dp_Holds_j11) r1 (k1 + 1))) = some r := h
        unfold dp_Holds_j13 at h
        refine W.region (by kernel_rfl) ?_
        refine WO.pureK 0 (some (I6 (IntKind.wrap .i64 ((k1 : Int) + 1)))) (v := I6 ((k1 + 1 : Nat) : Int)) (by kernel_rfl) (by rw [wrap_succ hl1 hk1]) (e1 := [(1, l35 none a2), (5, .ptr (.agg [I6 a3.f_From, I6 a3.f_To])), (27, l35 none a2), (28, I6 (a2.length : Int)), (29, I6 (k1 : Int)), (58, I6 ((k1 + 1 : Nat) : Int))]) (by kernel_rfl) ?_
        refine WO.fin [1, 5, 27, 28, 29] [] [] [] (e2 := [(1, l35 none a2), (5, .ptr (.agg [I6 a3.f_From, I6 a3.f_To])), (27, l35 none a2), (28, I6 (a2.length : Int)), (29, I6 ((k1 + 1 : Nat) : Int))]) (by kernel_rfl) (fun _ h => h) ?_
        exact hN1 () h
      refine W.block ?_
      refine W.seq ?_
      refine W.region (by kernel_rfl) ?_
      refine WO.pureK 1 (if (0 : Int) ≤ (k1 : Int) then ((List.map (encL 3 1 (AV.int .i64)) a2)[Int.toNat (k1 : Int)]?).map AV.ptr else none) (v := .ptr (l3 none x1)) (by kernel_rfl) (idx_nat (f := (encL 3 1 (AV.int .i64))) hx1) (e1 := [(1, l35 none a2), (5, .ptr (.agg [I6 a3.f_From, I6 a3.f_To])), (27, l35 none a2), (28, I6 (a2.length : Int)), (29, I6 (k1 : Int)), (31, I6 (k1 : Int)), (32, .ptr (l3 none x1))]) (by kernel_rfl) ?_
      refine WO.fin [1, 5, 8, 9, 27, 28, 29] [] [] [] (e2 := [(1, l35 none a2), (5, .ptr (.agg [I6 a3.f_From, I6 a3.f_To])), (8, I6 (k1 : Int)), (9, l3 none x1), (27, l35 none a2), (28, I6 (a2.length : Int)), (29, I6 (k1 : Int))]) (by kernel_rfl) (fun _ h => h) ?_
      refine W.seq ?_
      refine W.region (by kernel_rfl) ?_
      obtain ⟨e16, he16, h⟩ := bind_some h
      refine WO.pureK 2 (if (0 : Int) ≤ 0 ∧ 0 ≤ (k1 : Int) ∧ (k1 : Int) ≤ ((List.map (encL 3 1 (AV.int .i64)) a2).length : Int) then some (.lst 35 1 none (((List.map (encL 3 1 (AV.int .i64)) a2).take (Int.toNat (k1 : Int))).drop (Int.toNat 0))) else none) (v := l35 none e16) (by kernel_rfl) (sub_av he16) (e1 := [(1, l35 none a2), (5, .ptr (.agg [I6 a3.f_From, I6 a3.f_To])), (8, I6 (k1 : Int)), (9, l3 none x1), (27, l35 none a2), (28, I6 (a2.length : Int)), (29, I6 (k1 : Int)), (34, l35 none a2), (35, I6 (k1 : Int)), (36, l35 none e16)]) (by kernel_rfl) ?_
      refine WO.pureK 0 (some (I6 ((List.map (encL 3 1 (AV.int .i64)) e16).length : Int))) (v := I6 (e16.length : Int)) (by kernel_rfl) (by rw [List.length_map]) (e1 := [(1, l35 none a2), (5, .ptr (.agg [I6 a3.f_From, I6 a3.f_To])), (8, I6 (k1 : Int)), (9, l3 none x1), (27, l35 none a2), (28, I6 (a2.length : Int)), (29, I6 (k1 : Int)), (34, l35 none a2), (35, I6 (k1 : Int)), (36, l35 none e16), (37, I6 (e16.length : Int))]) (by kernel_rfl) ?_
      refine WO.fin [1, 5, 9, 27, 28, 29, 36, 37, 38] [] [] [] (e2 := [(1, l35 none a2), (5, .ptr (.agg [I6 a3.f_From, I6 a3.f_To])), (9, l3 none x1), (27, l35 none a2), (28, I6 (a2.length : Int)), (29, I6 (k1 : Int)), (36, l35 none e16), (37, I6 (e16.length : Int)), (38, .int .i64 0)]) (by kernel_rfl) (fun _ h => h) ?_
      refine W.block ?_
      obtain ⟨hl2, h⟩ := chk_some h
      refine W.weak [1, 5, 9, 27, 28, 29, 36, 37, 38] [] [] [] (env' := [(1, l35 none a2), (5, .ptr (.agg [I6 a3.f_From, I6 a3.f_To])), (9, l3 none x1), (27, l35 none a2), (28, I6 (a2.length : Int)), (29, I6 (k1 : Int)), (36, l35 none e16), (37, I6 (e16.length : Int)), (38, I6 ((0 : Nat) : Int))]) (by kernel_rfl) ?_
      refine W.range (σ := Unit) e16 (fun k2 s => [(1, l35 none a2), (5, .ptr (.agg [I6 a3.f_From, I6 a3.f_To])), (9, l3 none x1), (27, l35 none a2), (28, I6 (a2.length : Int)), (29, I6 (k1 : Int)), (36, l35 none e16), (37, I6 (e16.length : Int)), (38, I6 (k2 : Int))]) (fun r0 k0 s => dp_Holds_l2 x1 a3 (dp_Holds_j13 (dp_Holds_l1 a2 a3 (dp_Holds_j11) r1 (k1 + 1))) r0 k0 = some r) (fun s h => ?_) (fun x2 r2 k2 s hx2 hk2 h hN2 => ?_) () h
      · have h : dp_Holds_l2 x1 a3 (dp_Holds_j13 (dp_Holds_l1 a2 a3 (dp_Holds_j11) r1 (k1 + 1))) [] (e16).length = some r := h
        rw [dp_Holds_l2.eq_1] at h
        refine W.seq ?_
        refine W.region (by kernel_rfl) ?_
        refine WO.pureK 0 (some (.bool (decide (((e16).length : Int) < (e16.length : Int))))) (v := .bool false) (by kernel_rfl) (by rw [lt_false (l := e16)]) (e1 := [(1, l35 none a2), (5, .ptr (.agg [I6 a3.f_From, I6 a3.f_To])), (9, l3 none x1), (27, l35 none a2), (28, I6 (a2.length : Int)), (29, I6 (k1 : Int)), (36, l35 none e16), (37, I6 (e16.length : Int)), (38, I6 ((e16).length : Int)), (39, .bool false)]) (by kernel_rfl) ?_
        refine WO.fin ([1, 5, 9, 27, 28, 29, 36, 37, 38, 39]) [] [] [] (e2 := [(1, l35 none a2), (5, .ptr (.agg [I6 a3.f_From, I6 a3.f_To])), (9, l3 none x1), (27, l35 none a2), (28, I6 (a2.length : Int)), (29, I6 (k1 : Int)), (36, l35 none e16), (37, I6 (e16.length : Int)), (38, I6 ((e16).length : Int)), (39, .bool false)]) (by kernel_rfl) (fun _ h => h) ?_
        refine W.seq ?_
        refine W.condB false (by kernel_rfl) (fun h => Bool.noConfusion h) (fun _ => ?_)
        refine W.exit ?_
        refine W.weak [1, 5, 27, 28, 29] [] [] [] (env' := [(1, l35 none a2), (5, .ptr (.agg [I6 a3.f_From, I6 a3.f_To])), (27, l35 none a2), (28, I6 (a2.length : Int)), (29, I6 (k1 : Int))]) (by kernel_rfl) ?_
        exact hK13 () h
      · have h : dp_Holds_l2 x1 a3 (dp_Holds_j13 (dp_Holds_l1 a2 a3 (dp_Holds_j11) r1 (k1 + 1))) (x2 :: r2) k2 = some r := h
        rw [dp_Holds_l2.eq_2] at h
        refine W.seq ?_
        refine W.region (by kernel_rfl) ?_
        refine WO.pureK 0 (some (.bool (decide ((k2 : Int) < (e16.length : Int))))) (v := .bool true) (by kernel_rfl) (by rw [lt_true hk2]) (e1 := [(1, l35 none a2), (5, .ptr (.agg [I6 a3.f_From, I6 a3.f_To])), (9, l3 none x1), (27, l35 none a2), (28, I6 (a2.length : Int)), (29, I6 (k1 : Int)), (36, l35 none e16), (37, I6 (e16.length : Int)), (38, I6 (k2 : Int)), (39, .bool true)]) (by kernel_rfl) ?_
        refine WO.fin ([1, 5, 9, 27, 28, 29, 36, 37, 38, 39]) [] [] [] (e2 := [(1, l35 none a2), (5, .ptr (.agg [I6 a3.f_From, I6 a3.f_To])), (9, l3 none x1), (27, l35 none a2), (28, I6 (a2.length : Int)), (29, I6 (k1 : Int)), (36, l35 none e16), (37, I6 (e16.length : Int)), (38, I6 (k2 : Int)), (39, .bool true)]) (by kernel_rfl) (fun _ h => h) ?_
        refine W.seq ?_
        refine W.condB true (by kernel_rfl) (fun _ => ?_) (fun h => Bool.noConfusion h)
        refine W.skip ?_
        refine W.weak [1, 5, 9, 27, 28, 29, 36, 37, 38] [] [] [] (env' := [(1, l35 none a2), (5, .ptr (.agg [I6 a3.f_From, I6 a3.f_To])), (9, l3 none x1), (27, l35 none a2), (28, I6 (a2.length : Int)), (29, I6 (k1 : Int)), (36, l35 none e16), (37, I6 (e16.length : Int)), (38, I6 (k2 : Int))]) (by kernel_rfl) ?_
        refine W.seq ?_
        refine W.block ?_
        refine W.seq ?_
        refine W.region (by kernel_rfl) ?_
        refine WO.pureK 0 (if (0 : Int) ≤ (k2 : Int) then ((List.map (encL 3 1 (AV.int .i64)) e16)[Int.toNat (k2 : Int)]?).map AV.ptr else none) (v := .ptr (l3 none x2)) (by kernel_rfl) (idx_nat (f := (encL 3 1 (AV.int .i64))) hx2) (e1 := [(1, l35 none a2), (5, .ptr (.agg [I6 a3.f_From, I6 a3.f_To])), (9, l3 none x1), (27, l35 none a2), (28, I6 (a2.length : Int)), (29, I6 (k1 : Int)), (36, l35 none e16), (37, I6 (e16.length : Int)), (38, I6 (k2 : Int)), (40, .ptr (l3 none x2))]) (by kernel_rfl) ?_
        refine WO.fin [1, 5, 9, 11, 27, 28, 29, 36, 37, 38] [] [] [] (e2 := [(1, l35 none a2), (5, .ptr (.agg [I6 a3.f_From, I6 a3.f_To])), (9, l3 none x1), (11, l3 none x2), (27, l35 none a2), (28, I6 (a2.length : Int)), (29, I6 (k1 : Int)), (36, l35 none e16), (37, I6 (e16.length : Int)), (38, I6 (k2 : Int))]) (by kernel_rfl) (fun _ h => h) ?_
        refine W.seq ?_
        refine W.region (by kernel_rfl) ?_
        obtain ⟨w20, hw20, h⟩ := bind_some h
        refine WO.callK 2 (F := 66) (l := [l3 none x1, l3 none x2]) (C := []) (r := I6 w20) (by kernel_rfl) (by kernel_rfl) (run_dp_agree x1 x2 w20 hw20) (e1 := [(1, l35 none a2), (5, .ptr (.agg [I6 a3.f_From, I6 a3.f_To])), (9, l3 none x1), (11, l3 none x2), (27, l35 none a2), (28, I6 (a2.length : Int)), (29, I6 (k1 : Int)), (36, l35 none e16), (37, I6 (e16.length : Int)), (38, I6 (k2 : Int)), (42, l3 none x1), (43, l3 none x2), (44, I6 w20)]) (by kernel_rfl) ?_
        refine WO.fin [1, 5, 9, 12, 27, 28, 29, 36, 37, 38] [] [] [] (e2 := [(1, l35 none a2), (5, .ptr (.agg [I6 a3.f_From, I6 a3.f_To])), (9, l3 none x1), (12, I6 w20), (27, l35 none a2), (28, I6 (a2.length : Int)), (29, I6 (k1 : Int)), (36, l35 none e16), (37, I6 (e16.length : Int)), (38, I6 (k2 : Int))]) (by kernel_rfl) (fun _ h => h) ?_
        refine W.seq ?_
        refine W.join (σ := (Bool)) (fun s => [(1, l35 none a2), (5, .ptr (.agg [I6 a3.f_From, I6 a3.f_To])), (9, l3 none x1), (27, l35 none a2), (28, I6 (a2.length : Int)), (29, I6 (k1 : Int)), (36, l35 none e16), (37, I6 (e16.length : Int)), (38, I6 (k2 : Int)), (56, .bool s)]) (fun s => (dp_Holds_j21 (dp_Holds_l2 x1 a3 (dp_Holds_j13 (dp_Holds_l1 a2 a3 (dp_Holds_j11) r1 (k1 + 1))) r2 (k2 + 1))) s = some r) (fun s h => ?_) (fun hK21 => ?_)
        · obtain ⟨v22, rfl⟩ : ∃ x, x = s := ⟨s, rfl⟩
          have h : (dp_Holds_j21 (dp_Holds_l2 x1 a3 (dp_Holds_j13 (dp_Holds_l1 a2 a3 (dp_Holds_j11) r1 (k1 + 1))) r2 (k2 + 1))) v22 = some r := h
          unfold dp_Holds_j21 at h
          refine W.condB v22 (by kernel_rfl) (fun hb => ?_) (fun hb => ?_)
          · replace h := cond_t hb h
            refine W.seq ?_
            refine W.regT [6, 7] [] [] [] (e2 := [(6, .bool false), (7, .int .i64 0)]) (by kernel_rfl) (by kernel_rfl) (fun _ h => h) ?_
            refine W.weak [6, 7] [] [] [] (env' := [(6, .bool false), (7, .int .i64 0)]) (by kernel_rfl) ?_
            have hr : aresults Try.prog Try.f41 [(6, .bool false), (7, .int .i64 0)] = some (.tup [.bool false, .int .i64 0]) := by kernel_rfl
            cases h
            exact W.ret hr
          replace h := cond_f hb h
          refine W.skip ?_
          refine W.weak [1, 5, 9, 27, 28, 29, 36, 37, 38] [] [] [] (env' := [(1, l35 none a2), (5, .ptr (.agg [I6 a3.f_From, I6 a3.f_To])), (9, l3 none x1), (27, l35 none a2), (28, I6 (a2.length : Int)), (29, I6 (k1 : Int)), (36, l35 none e16), (37, I6 (e16.length : Int)), (38, I6 (k2 : Int))]) (by kernel_rfl) ?_
          refine W.region (by kernel_rfl) ?_
          refine WO.pureK 0 (some (I6 (IntKind.wrap .i64 ((k2 : Int) + 1)))) (v := I6 ((k2 + 1 : Nat) : Int)) (by kernel_rfl) (by rw [wrap_succ hl2 hk2]) (e1 := [(1, l35 none a2), (5, .ptr (.agg [I6 a3.f_From, I6 a3.f_To])), (9, l3 none x1), (27, l35 none a2), (28, I6 (a2.length : Int)), (29, I6 (k1 : Int)), (36, l35 none e16), (37, I6 (e16.length : Int)), (38, I6 (k2 : Int)), (57, I6 ((k2 + 1 : Nat) : Int))]) (by kernel_rfl) ?_
          refine WO.fin [1, 5, 9, 27, 28, 29, 36, 37, 38] [] [] [] (e2 := [(1, l35 none a2), (5, .ptr (.agg [I6 a3.f_From, I6 a3.f_To])), (9, l3 none x1), (27, l35 none a2), (28, I6 (a2.length : Int)), (29, I6 (k1 : Int)), (36, l35 none e16), (37, I6 (e16.length : Int)), (38, I6 ((k2 + 1 : Nat) : Int))]) (by kernel_rfl) (fun _ h => h) ?_
          exact hN2 () h
        refine W.region (by kernel_rfl) ?_
        refine WO.boolK 6 (fun b => [(1, l35 none a2), (5, .ptr (.agg [I6 a3.f_From, I6 a3.f_To])), (9, l3 none x1), (12, I6 w20), (27, l35 none a2), (28, I6 (a2.length : Int)), (29, I6 (k1 : Int)), (36, l35 none e16), (37, I6 (e16.length : Int)), (38, I6 (k2 : Int)), (45, .ptr (I6 a3.f_From)), (46, I6 a3.f_From), (47, I6 w20), (48, I6 (iAndNot .i64 a3.f_From w20)), (49, .bool b), (50, .bool b)]) ((iAndNot .i64 a3.f_From w20) == 0) (by kernel_rfl) (fun hb => ?_) (fun hb => ?_)
        · replace h := cond_t hb h
          refine WO.fin [1, 5, 9, 27, 28, 29, 36, 37, 38, 56] [] [] [] (e2 := [(1, l35 none a2), (5, .ptr (.agg [I6 a3.f_From, I6 a3.f_To])), (9, l3 none x1), (27, l35 none a2), (28, I6 (a2.length : Int)), (29, I6 (k1 : Int)), (36, l35 none e16), (37, I6 (e16.length : Int)), (38, I6 (k2 : Int)), (56, .bool ((iAndNot .i64 a3.f_To w20) != 0))]) (by kernel_rfl) (fun _ h => h) ?_
          exact hK21 ((iAndNot .i64 a3.f_To w20) != 0) h
        replace h := cond_f hb h
        refine WO.fin [1, 5, 9, 27, 28, 29, 36, 37, 38, 56] [] [] [] (e2 := [(1, l35 none a2), (5, .ptr (.agg [I6 a3.f_From, I6 a3.f_To])), (9, l3 none x1), (27, l35 none a2), (28, I6 (a2.length : Int)), (29, I6 (k1 : Int)), (36, l35 none e16), (37, I6 (e16.length : Int)), (38, I6 (k2 : Int)), (56, .bool false)]) (by kernel_rfl) (fun _ h => h) ?_
        exact hK21 false h
  refine W.region (by kernel_rfl) ?_
  obtain ⟨w7, hw7, h⟩ := bind_some h
  refine WO.callK 2 (F := 65) (l := [I6 a1, l35 none a2]) (C := []) (r := .bool w7) (by kernel_rfl) (by kernel_rfl) (run_dp_table a1 a2 w7 hw7) (e1 := [(0, I6 a1), (1, l35 none a2), (5, .ptr (.agg [I6 a3.f_From, I6 a3.f_To])), (13, I6 a1), (14, l35 none a2), (15, .bool w7)]) (by kernel_rfl) ?_
  refine WO.boolK 2 (fun b => [(0, I6 a1), (1, l35 none a2), (5, .ptr (.agg [I6 a3.f_From, I6 a3.f_To])), (13, I6 a1), (14, l35 none a2), (15, .bool w7), (16, .bool b), (17, .bool b)]) (!w7) (by kernel_rfl) (fun hb => ?_) (fun hb => ?_)
  · replace h := cond_t hb h
    refine WO.fin [1, 5, 26] [] [] [] (e2 := [(1, l35 none a2), (5, .ptr (.agg [I6 a3.f_From, I6 a3.f_To])), (26, .bool true)]) (by kernel_rfl) (fun _ h => h) ?_
    exact hK6 true h
  replace h := cond_f hb h
  obtain ⟨w8, hw8, h⟩ := bind_some h
  refine WO.callK 6 (F := 58) (l := [I6 a1, l3 none [a3.f_From, a3.f_To]]) (C := []) (r := .bool w8) (by kernel_rfl) (by kernel_rfl) (run_dp_sets a1 [a3.f_From, a3.f_To] w8 hw8) (e1 := [(0, I6 a1), (1, l35 none a2), (5, .ptr (.agg [I6 a3.f_From, I6 a3.f_To])), (13, I6 a1), (14, l35 none a2), (15, .bool w7), (16, .bool false), (17, .bool false), (18, I6 a1), (19, .ptr (I6 a3.f_From)), (20, I6 a3.f_From), (21, .ptr (I6 a3.f_To)), (22, I6 a3.f_To), (23, l3 (some 23) [a3.f_From, a3.f_To]), (24, .bool w8)]) (by kernel_rfl) ?_
  refine WO.fin [1, 5, 26] [] [] [] (e2 := [(1, l35 none a2), (5, .ptr (.agg [I6 a3.f_From, I6 a3.f_To])), (26, .bool (!w8))]) (by kernel_rfl) (fun _ h => h) ?_
  exact hK6 (!w8) h
def sl_insertionSortCmpFunc_int_j11 (v8 : Int) (N1 : ((List Int) → Int → Option (List Int))) (v34 : (List Int)) : Option (List Int) :=
  (N1 v34 (IntKind.wrap .i64 (v8 + 1)))
def sl_insertionSortCmpFunc_int_j16 (n2 : Nat) (v13 : (List Int)) (v14 : Int) (N2 : ((List Int) → Int → Option (List Int))) (K11 : ((List Int) → Option (List Int))) (v22 : Bool) : Option (List Int) :=
  (bif v22 then (chk (decide ((0 : Int) ≤ (IntKind.wrap .i64 (v14 - 1)) ∧ (IntKind.wrap .i64 (v14 - 1)) < ((n2 : Nat) : Int))) ((v13[(0 + Int.toNat (IntKind.wrap .i64 (v14 - 1)))]?).bind fun e25 => (chk (decide ((0 : Int) ≤ v14 ∧ v14 < ((n2 : Nat) : Int))) ((v13[(0 + Int.toNat v14)]?).bind fun e27 => (chk (decide ((0 : Int) ≤ v14 ∧ v14 < ((n2 : Nat) : Int))) ((upd v13 (0 + Int.toNat v14) e25).bind fun u29 => (chk (decide ((0 : Int) ≤ (IntKind.wrap .i64 (v14 - 1)) ∧ (IntKind.wrap .i64 (v14 - 1)) < ((n2 : Nat) : Int))) ((upd u29 (0 + Int.toNat (IntKind.wrap .i64 (v14 - 1))) e27).bind fun u32 => (N2 u32 (IntKind.wrap .i64 (v14 - 1))))))))))) else (K11 v13))
def sl_insertionSortCmpFunc_int_l2 (n2 : Nat) (a3 : Int) (g5 : (Int → Int → Option Int)) (K11 : ((List Int) → Option (List Int))) : Nat → (List Int) → Int → Option (List Int)
  | 0, _, _ => none
  | m2 + 1, v13, v14 => (bif (decide (v14 > a3)) then (chk (decide ((0 : Int) ≤ v14 ∧ v14 < ((n2 : Nat) : Int))) ((v13[(0 + Int.toNat v14)]?).bind fun e18 => (chk (decide ((0 : Int) ≤ (IntKind.wrap .i64 (v14 - 1)) ∧ (IntKind.wrap .i64 (v14 - 1)) < ((n2 : Nat) : Int))) ((v13[(0 + Int.toNat (IntKind.wrap .i64 (v14 - 1)))]?).bind fun e20 => ((g5 e18 e20).bind fun w21 => ((sl_insertionSortCmpFunc_int_j16 n2 v13 v14 (sl_insertionSortCmpFunc_int_l2 n2 a3 g5 K11 m2) K11) (decide (w21 < 0)))))))) else ((sl_insertionSortCmpFunc_int_j16 n2 v13 v14 (sl_insertionSortCmpFunc_int_l2 n2 a3 g5 K11 m2) K11) false))
def sl_insertionSortCmpFunc_int_l1 (fuel : Nat) (n2 : Nat) (a3 : Int) (a4 : Int) (g5 : (Int → Int → Option Int)) : Nat → (List Int) → Int → Option (List Int)
  | 0, _, _ => none
  | m1 + 1, v7, v8 => (bif (decide (v8 < a4)) then (sl_insertionSortCmpFunc_int_l2 n2 a3 g5 (sl_insertionSortCmpFunc_int_j11 v8 (sl_insertionSortCmpFunc_int_l1 fuel n2 a3 a4 g5 m1)) fuel v7 v8) else (some v7))
def sl_insertionSortCmpFunc_int (fuel : Nat) (a1 : (List Int)) (n2 : Nat) (a3 : Int) (a4 : Int) (g5 : (Int → Int → Option Int)) : Option (List Int) :=
  (sl_insertionSortCmpFunc_int_l1 fuel n2 a3 a4 g5 fuel a1 (IntKind.wrap .i64 (a3 + 1)))
theorem run_sl_insertionSortCmpFunc_int (fuel : Nat) (a1 : (List Int)) (n2 : Nat) (a3 : Int) (a4 : Int) (g5 : (Int → Int → Option Int)) (F_g5 : Nat) (C_g5 : List AV) (hok_g5 : okFn Try.prog F_g5 = true) (hrun_g5 : ∀ (x0 : Int) (x1 : Int) r, g5 x0 x1 = some r → Run Try.prog (.call F_g5 ([I6 x0, I6 x1] ++ C_g5) (I6 r))) (r : (List Int)) (h : sl_insertionSortCmpFunc_int fuel a1 n2 a3 a4 g5 = some r) : Run Try.prog (.callM 101 [S1 n2, I6 a3, I6 a4, .clo F_g5 C_g5] [O1 a1] (.tup []) [O1 r]) := by
  refine callM_of_W Try.func101 rfl (by kernel_rfl) (env0 := [(0, S1 n2), (1, I6 a3), (2, I6 a4), (3, .clo F_g5 C_g5), O1 a1]) (by kernel_rfl) ?_
  unfold sl_insertionSortCmpFunc_int at h
  refine W.seq ?_
  refine W.regT [0, 1, 2, 3, 8, 2000000] [] [] [] (e2 := [(0, S1 n2), (1, I6 a3), (2, I6 a4), (3, .clo F_g5 C_g5), (8, I6 (W6 (a3 + 1))), O1 a1]) (by kernel_rfl) (by kernel_rfl) (fun _ h => h) ?_
  refine W.block ?_
  refine W.weak [0, 1, 2, 3, 8, 2000000] [] [] [] (env' := [(0, S1 n2), (1, I6 a3), (2, I6 a4), (3, .clo F_g5 C_g5), (8, I6 (W6 (a3 + 1))), O1 a1]) (by kernel_rfl) ?_
  refine W.fuel (σ := ((List Int) × Int)) (fun s => [(0, S1 n2), (1, I6 a3), (2, I6 a4), (3, .clo F_g5 C_g5), (8, I6 s.2), (2000000, .obj 3 1 (List.map (AV.int .i64) s.1))]) (fun m0 s => sl_insertionSortCmpFunc_int_l1 fuel n2 a3 a4 g5 m0 s.1 s.2 = some r) (fun s h => ?_) (fun m1 s h hN1 => ?_) fuel (a1, (W6 (a3 + 1))) h
  · obtain ⟨v7, v8⟩ := s
    have h : sl_insertionSortCmpFunc_int_l1 fuel n2 a3 a4 g5 0 v7 v8 = some r := h
    rw [sl_insertionSortCmpFunc_int_l1.eq_1] at h
    cases h
  · obtain ⟨v7, v8⟩ := s
    have h : sl_insertionSortCmpFunc_int_l1 fuel n2 a3 a4 g5 (m1 + 1) v7 v8 = some r := h
    rw [sl_insertionSortCmpFunc_int_l1.eq_2] at h
    refine W.seq ?_
    refine W.seq ?_
    refine W.regT [0, 1, 2, 3, 8, 14, 2000000] [] [] [] (e2 := [(0, S1 n2), (1, I6 a3), (2, I6 a4), (3, .clo F_g5 C_g5), (8, I6 v8), (14, .bool (decide (v8 < a4))), O1 v7]) (by kernel_rfl) (by kernel_rfl) (fun _ h => h) ?_
    refine W.condB (decide (v8 < a4)) (by kernel_rfl) (fun hb => ?_) (fun hb => ?_)
    · replace h := cond_t hb h
      refine W.skip ?_
      refine W.weak [0, 1, 2, 3, 8, 2000000] [] [] [] (env' := [(0, S1 n2), (1, I6 a3), (2, I6 a4), (3, .clo F_g5 C_g5), (8, I6 v8), O1 v7]) (by kernel_rfl) ?_
      refine W.seq ?_
      refine W.join (σ := ((List Int))) (fun s => [(0, S1 n2), (1, I6 a3), (2, I6 a4), (3, .clo F_g5 C_g5), (8, I6 v8), O1 s]) (fun s => (sl_insertionSortCmpFunc_int_j11 v8 (sl_insertionSortCmpFunc_int_l1 fuel n2 a3 a4 g5 m1)) s = some r) (fun s h => ?_) (fun hK11 => ?_)
      · obtain ⟨v34, rfl⟩ : ∃ x, x = s := ⟨s, rfl⟩
        have h : (sl_insertionSortCmpFunc_int_j11 v8 (sl_insertionSortCmpFunc_int_l1 fuel n2 a3 a4 g5 m1)) v34 = some r := h
        unfold sl_insertionSortCmpFunc_int_j11 at h
        refine W.regT [0, 1, 2, 3, 8, 2000000] [] [] [] (e2 := [(0, S1 n2), (1, I6 a3), (2, I6 a4), (3, .clo F_g5 C_g5), (8, I6 (W6 (v8 + 1))), O1 v34]) (by kernel_rfl) (by kernel_rfl) (fun _ h => h) ?_
        exact hN1 (v34, (W6 (v8 + 1))) h
      refine W.block ?_
      refine W.seq ?_
      refine W.regT [0, 1, 2, 3, 8, 9, 2000000] [] [] [] (e2 := [(0, S1 n2), (1, I6 a3), (2, I6 a4), (3, .clo F_g5 C_g5), (8, I6 v8), (9, I6 v8), O1 v7]) (by kernel_rfl) (by kernel_rfl) (fun _ h => h) ?_
      refine W.block ?_
      refine W.weak [0, 1, 2, 3, 8, 9, 2000000] [] [] [] (env' := [(0, S1 n2), (1, I6 a3), (2, I6 a4), (3, .clo F_g5 C_g5), (8, I6 v8), (9, I6 v8), O1 v7]) (by kernel_rfl) ?_
      refine W.fuel (σ := ((List Int) × Int)) (fun s => [(0, S1 n2), (1, I6 a3), (2, I6 a4), (3, .clo F_g5 C_g5), (8, I6 v8), (9, I6 s.2), (2000000, .obj 3 1 (List.map (AV.int .i64) s.1))]) (fun m0 s => sl_insertionSortCmpFunc_int_l2 n2 a3 g5 (sl_insertionSortCmpFunc_int_j11 v8 (sl_insertionSortCmpFunc_int_l1 fuel n2 a3 a4 g5 m1)) m0 s.1 s.2 = some r) (fun s h => ?_) (fun m2 s h hN2 => ?_) fuel (v7, v8) h
      · obtain ⟨v13, v14⟩ := s
        have h : sl_insertionSortCmpFunc_int_l2 n2 a3 g5 (sl_insertionSortCmpFunc_int_j11 v8 (sl_insertionSortCmpFunc_int_l1 fuel n2 a3 a4 g5 m1)) 0 v13 v14 = some r := h
        rw [sl_insertionSortCmpFunc_int_l2.eq_1] at h
        cases h
      · obtain ⟨v13, v14⟩ := s
        have h : sl_insertionSortCmpFunc_int_l2 n2 a3 g5 (sl_insertionSortCmpFunc_int_j11 v8 (sl_insertionSortCmpFunc_int_l1 fuel n2 a3 a4 g5 m1)) (m2 + 1) v13 v14 = some r := h
        rw [sl_insertionSortCmpFunc_int_l2.eq_2] at h
        refine W.seq ?_
        refine W.seq ?_
        refine W.join (σ := (Bool)) (fun s => [(0, S1 n2), (1, I6 a3), (2, I6 a4), (3, .clo F_g5 C_g5), (8, I6 v8), (9, I6 v14), (34, .bool s), O1 v13]) (fun s => (sl_insertionSortCmpFunc_int_j16 n2 v13 v14 (sl_insertionSortCmpFunc_int_l2 n2 a3 g5 (sl_insertionSortCmpFunc_int_j11 v8 (sl_insertionSortCmpFunc_int_l1 fuel n2 a3 a4 g5 m1)) m2) (sl_insertionSortCmpFunc_int_j11 v8 (sl_insertionSortCmpFunc_int_l1 fuel n2 a3 a4 g5 m1))) s = some r) (fun s h => ?_) (fun hK16 => ?_)
        · obtain ⟨v22, rfl⟩ : ∃ x, x = s := ⟨s, rfl⟩
          have h : (sl_insertionSortCmpFunc_int_j16 n2 v13 v14 (sl_insertionSortCmpFunc_int_l2 n2 a3 g5 (sl_insertionSortCmpFunc_int_j11 v8 (sl_insertionSortCmpFunc_int_l1 fuel n2 a3 a4 g5 m1)) m2) (sl_insertionSortCmpFunc_int_j11 v8 (sl_insertionSortCmpFunc_int_l1 fuel n2 a3 a4 g5 m1))) v22 = some r := h
          unfold sl_insertionSortCmpFunc_int_j16 at h
          refine W.condB v22 (by kernel_rfl) (fun hb => ?_) (fun hb => ?_)
          · replace h := cond_t hb h
            refine W.skip ?_
            refine W.weak [0, 1, 2, 3, 8, 9, 2000000] [] [] [] (env' := [(0, S1 n2), (1, I6 a3), (2, I6 a4), (3, .clo F_g5 C_g5), (8, I6 v8), (9, I6 v14), O1 v13]) (by kernel_rfl) ?_
            refine W.seq ?_
            refine W.block ?_
            refine W.region (by kernel_rfl) ?_
            obtain ⟨hc24, h⟩ := chk_some h
            refine WO.pureK 8 (if (0 : Int) ≤ (W6 (v14 - 1)) ∧ (W6 (v14 - 1)) < ((n2 : Nat) : Int) then some (.pe 2000000 1 (0 + Int.toNat (W6 (v14 - 1))) 0) else none) (v := .pe 2000000 1 (0 + Int.toNat (W6 (v14 - 1))) 0) (by kernel_rfl) (ite_some hc24) (e1 := [(0, S1 n2), (1, I6 a3), (2, I6 a4), (3, .clo F_g5 C_g5), (8, I6 v8), (9, I6 v14), (37, S1 n2), (38, I6 v14), (39, S1 n2), (40, I6 v14), (41, I6 (W6 (v14 - 1))), (42, S1 n2), (43, I6 v14), (44, I6 (W6 (v14 - 1))), (45, .pe 2000000 1 (0 + Int.toNat (W6 (v14 - 1))) 0), O1 v13]) (by kernel_rfl) ?_
            obtain ⟨e25, he25, h⟩ := bind_some h
            refine WO.pureK 0 (match (List.map (AV.int .i64) v13)[(0 + Int.toNat (W6 (v14 - 1)))]? with | some y => cut Try.prog 3 (y.cells.map AV.strip) 0 | none => none) (v := I6 e25) (by kernel_rfl) ((pe_ld (f := (AV.int .i64)) (G := (fun y => cut Try.prog 3 (y.cells.map AV.strip) 0)) he25).trans (by kernel_rfl)) (e1 := [(0, S1 n2), (1, I6 a3), (2, I6 a4), (3, .clo F_g5 C_g5), (8, I6 v8), (9, I6 v14), (37, S1 n2), (38, I6 v14), (39, S1 n2), (40, I6 v14), (41, I6 (W6 (v14 - 1))), (42, S1 n2), (43, I6 v14), (44, I6 (W6 (v14 - 1))), (45, .pe 2000000 1 (0 + Int.toNat (W6 (v14 - 1))) 0), (46, I6 e25), O1 v13]) (by kernel_rfl) ?_
            obtain ⟨hc26, h⟩ := chk_some h
            refine WO.pureK 2 (if (0 : Int) ≤ v14 ∧ v14 < ((n2 : Nat) : Int) then some (.pe 2000000 1 (0 + Int.toNat v14) 0) else none) (v := .pe 2000000 1 (0 + Int.toNat v14) 0) (by kernel_rfl) (ite_some hc26) (e1 := [(0, S1 n2), (1, I6 a3), (2, I6 a4), (3, .clo F_g5 C_g5), (8, I6 v8), (9, I6 v14), (37, S1 n2), (38, I6 v14), (39, S1 n2), (40, I6 v14), (41, I6 (W6 (v14 - 1))), (42, S1 n2), (43, I6 v14), (44, I6 (W6 (v14 - 1))), (45, .pe 2000000 1 (0 + Int.toNat (W6 (v14 - 1))) 0), (46, I6 e25), (47, S1 n2), (48, I6 v14), (49, .pe 2000000 1 (0 + Int.toNat v14) 0), O1 v13]) (by kernel_rfl) ?_
            obtain ⟨e27, he27, h⟩ := bind_some h
            refine WO.pureK 0 (match (List.map (AV.int .i64) v13)[(0 + Int.toNat v14)]? with | some y => cut Try.prog 3 (y.cells.map AV.strip) 0 | none => none) (v := I6 e27) (by kernel_rfl) ((pe_ld (f := (AV.int .i64)) (G := (fun y => cut Try.prog 3 (y.cells.map AV.strip) 0)) he27).trans (by kernel_rfl)) (e1 := [(0, S1 n2), (1, I6 a3), (2, I6 a4), (3, .clo F_g5 C_g5), (8, I6 v8), (9, I6 v14), (37, S1 n2), (38, I6 v14), (39, S1 n2), (40, I6 v14), (41, I6 (W6 (v14 - 1))), (42, S1 n2), (43, I6 v14), (44, I6 (W6 (v14 - 1))), (45, .pe 2000000 1 (0 + Int.toNat (W6 (v14 - 1))) 0), (46, I6 e25), (47, S1 n2), (48, I6 v14), (49, .pe 2000000 1 (0 + Int.toNat v14) 0), (50, I6 e27), O1 v13]) (by kernel_rfl) ?_
            obtain ⟨hc28, h⟩ := chk_some h
            refine WO.pureK 0 (if (0 : Int) ≤ v14 ∧ v14 < ((n2 : Nat) : Int) then some (.pe 2000000 1 (0 + Int.toNat v14) 0) else none) (v := .pe 2000000 1 (0 + Int.toNat v14) 0) (by kernel_rfl) (ite_some hc28) (e1 := [(0, S1 n2), (1, I6 a3), (2, I6 a4), (3, .clo F_g5 C_g5), (8, I6 v8), (9, I6 v14), (37, S1 n2), (38, I6 v14), (39, S1 n2), (40, I6 v14), (41, I6 (W6 (v14 - 1))), (42, S1 n2), (43, I6 v14), (44, I6 (W6 (v14 - 1))), (45, .pe 2000000 1 (0 + Int.toNat (W6 (v14 - 1))) 0), (46, I6 e25), (47, S1 n2), (48, I6 v14), (49, .pe 2000000 1 (0 + Int.toNat v14) 0), (50, I6 e27), (51, .pe 2000000 1 (0 + Int.toNat v14) 0), O1 v13]) (by kernel_rfl) ?_
            obtain ⟨u29, hu29, h⟩ := bind_some h
            obtain ⟨y30, hyy30, hzy30⟩ := upd_some hu29
            refine WO.storeK 0 (id := 2000000) (e := 3) (s := 1) (j := (0 + Int.toNat v14)) (off := 0) (vs := [I6 e25]) (xs := (List.map (AV.int .i64) v13)) (zs := (List.map (AV.int .i64) u29)) (y := ((AV.int .i64)) y30) (y' := ((AV.int .i64)) e25) (by kernel_rfl) (upd_get hyy30) (by kernel_rfl) (upd_set hzy30) (e1 := [(0, S1 n2), (1, I6 a3), (2, I6 a4), (3, .clo F_g5 C_g5), (8, I6 v8), (9, I6 v14), (37, S1 n2), (38, I6 v14), (39, S1 n2), (40, I6 v14), (41, I6 (W6 (v14 - 1))), (42, S1 n2), (43, I6 v14), (44, I6 (W6 (v14 - 1))), (45, .pe 2000000 1 (0 + Int.toNat (W6 (v14 - 1))) 0), (46, I6 e25), (47, S1 n2), (48, I6 v14), (49, .pe 2000000 1 (0 + Int.toNat v14) 0), (50, I6 e27), (51, .pe 2000000 1 (0 + Int.toNat v14) 0), O1 u29]) (by kernel_rfl) ?_
            obtain ⟨hc31, h⟩ := chk_some h
            refine WO.pureK 0 (if (0 : Int) ≤ (W6 (v14 - 1)) ∧ (W6 (v14 - 1)) < ((n2 : Nat) : Int) then some (.pe 2000000 1 (0 + Int.toNat (W6 (v14 - 1))) 0) else none) (v := .pe 2000000 1 (0 + Int.toNat (W6 (v14 - 1))) 0) (by kernel_rfl) (ite_some hc31) (e1 := [(0, S1 n2), (1, I6 a3), (2, I6 a4), (3, .clo F_g5 C_g5), (8, I6 v8), (9, I6 v14), (37, S1 n2), (38, I6 v14), (39, S1 n2), (40, I6 v14), (41, I6 (W6 (v14 - 1))), (42, S1 n2), (43, I6 v14), (44, I6 (W6 (v14 - 1))), (45, .pe 2000000 1 (0 + Int.toNat (W6 (v14 - 1))) 0), (46, I6 e25), (47, S1 n2), (48, I6 v14), (49, .pe 2000000 1 (0 + Int.toNat v14) 0), (50, I6 e27), (51, .pe 2000000 1 (0 + Int.toNat v14) 0), (52, .pe 2000000 1 (0 + Int.toNat (W6 (v14 - 1))) 0), O1 u29]) (by kernel_rfl) ?_
            obtain ⟨u32, hu32, h⟩ := bind_some h
            obtain ⟨y33, hyy33, hzy33⟩ := upd_some hu32
            refine WO.storeK 0 (id := 2000000) (e := 3) (s := 1) (j := (0 + Int.toNat (W6 (v14 - 1)))) (off := 0) (vs := [I6 e27]) (xs := (List.map (AV.int .i64) u29)) (zs := (List.map (AV.int .i64) u32)) (y := ((AV.int .i64)) y33) (y' := ((AV.int .i64)) e27) (by kernel_rfl) (upd_get hyy33) (by kernel_rfl) (upd_set hzy33) (e1 := [(0, S1 n2), (1, I6 a3), (2, I6 a4), (3, .clo F_g5 C_g5), (8, I6 v8), (9, I6 v14), (37, S1 n2), (38, I6 v14), (39, S1 n2), (40, I6 v14), (41, I6 (W6 (v14 - 1))), (42, S1 n2), (43, I6 v14), (44, I6 (W6 (v14 - 1))), (45, .pe 2000000 1 (0 + Int.toNat (W6 (v14 - 1))) 0), (46, I6 e25), (47, S1 n2), (48, I6 v14), (49, .pe 2000000 1 (0 + Int.toNat v14) 0), (50, I6 e27), (51, .pe 2000000 1 (0 + Int.toNat v14) 0), (52, .pe 2000000 1 (0 + Int.toNat (W6 (v14 - 1))) 0), O1 u32]) (by kernel_rfl) ?_
            refine WO.fin [0, 1, 2, 3, 8, 9, 2000000] [] [] [] (e2 := [(0, S1 n2), (1, I6 a3), (2, I6 a4), (3, .clo F_g5 C_g5), (8, I6 v8), (9, I6 v14), O1 u32]) (by kernel_rfl) (fun _ h => h) ?_
            refine W.regT [0, 1, 2, 3, 8, 9, 2000000] [] [] [] (e2 := [(0, S1 n2), (1, I6 a3), (2, I6 a4), (3, .clo F_g5 C_g5), (8, I6 v8), (9, I6 (W6 (v14 - 1))), O1 u32]) (by kernel_rfl) (by kernel_rfl) (fun _ h => h) ?_
            exact hN2 (u32, (W6 (v14 - 1))) h
          replace h := cond_f hb h
          refine W.exit ?_
          refine W.weak [0, 1, 2, 3, 8, 2000000] [] [] [] (env' := [(0, S1 n2), (1, I6 a3), (2, I6 a4), (3, .clo F_g5 C_g5), (8, I6 v8), O1 v13]) (by kernel_rfl) ?_
          exact hK11 v13 h
        refine W.region (by kernel_rfl) ?_
        refine WO.boolK 4 (fun b => [(0, S1 n2), (1, I6 a3), (2, I6 a4), (3, .clo F_g5 C_g5), (8, I6 v8), (9, I6 v14), (18, I6 v14), (19, I6 a3), (20, .bool b), (21, .bool b), O1 v13]) (decide (v14 > a3)) (by kernel_rfl) (fun hb => ?_) (fun hb => ?_)
        · replace h := cond_t hb h
          obtain ⟨hc17, h⟩ := chk_some h
          refine WO.pureK 3 (if (0 : Int) ≤ v14 ∧ v14 < ((n2 : Nat) : Int) then some (.pe 2000000 1 (0 + Int.toNat v14) 0) else none) (v := .pe 2000000 1 (0 + Int.toNat v14) 0) (by kernel_rfl) (ite_some hc17) (e1 := [(0, S1 n2), (1, I6 a3), (2, I6 a4), (3, .clo F_g5 C_g5), (8, I6 v8), (9, I6 v14), (18, I6 v14), (19, I6 a3), (20, .bool true), (21, .bool true), (22, .clo F_g5 C_g5), (23, S1 n2), (24, I6 v14), (25, .pe 2000000 1 (0 + Int.toNat v14) 0), O1 v13]) (by kernel_rfl) ?_
          obtain ⟨e18, he18, h⟩ := bind_some h
          refine WO.pureK 0 (match (List.map (AV.int .i64) v13)[(0 + Int.toNat v14)]? with | some y => cut Try.prog 3 (y.cells.map AV.strip) 0 | none => none) (v := I6 e18) (by kernel_rfl) ((pe_ld (f := (AV.int .i64)) (G := (fun y => cut Try.prog 3 (y.cells.map AV.strip) 0)) he18).trans (by kernel_rfl)) (e1 := [(0, S1 n2), (1, I6 a3), (2, I6 a4), (3, .clo F_g5 C_g5), (8, I6 v8), (9, I6 v14), (18, I6 v14), (19, I6 a3), (20, .bool true), (21, .bool true), (22, .clo F_g5 C_g5), (23, S1 n2), (24, I6 v14), (25, .pe 2000000 1 (0 + Int.toNat v14) 0), (26, I6 e18), O1 v13]) (by kernel_rfl) ?_
          obtain ⟨hc19, h⟩ := chk_some h
          refine WO.pureK 3 (if (0 : Int) ≤ (W6 (v14 - 1)) ∧ (W6 (v14 - 1)) < ((n2 : Nat) : Int) then some (.pe 2000000 1 (0 + Int.toNat (W6 (v14 - 1))) 0) else none) (v := .pe 2000000 1 (0 + Int.toNat (W6 (v14 - 1))) 0) (by kernel_rfl) (ite_some hc19) (e1 := [(0, S1 n2), (1, I6 a3), (2, I6 a4), (3, .clo F_g5 C_g5), (8, I6 v8), (9, I6 v14), (18, I6 v14), (19, I6 a3), (20, .bool true), (21, .bool true), (22, .clo F_g5 C_g5), (23, S1 n2), (24, I6 v14), (25, .pe 2000000 1 (0 + Int.toNat v14) 0), (26, I6 e18), (27, S1 n2), (28, I6 v14), (29, I6 (W6 (v14 - 1))), (30, .pe 2000000 1 (0 + Int.toNat (W6 (v14 - 1))) 0), O1 v13]) (by kernel_rfl) ?_
          obtain ⟨e20, he20, h⟩ := bind_some h
          refine WO.pureK 0 (match (List.map (AV.int .i64) v13)[(0 + Int.toNat (W6 (v14 - 1)))]? with | some y => cut Try.prog 3 (y.cells.map AV.strip) 0 | none => none) (v := I6 e20) (by kernel_rfl) ((pe_ld (f := (AV.int .i64)) (G := (fun y => cut Try.prog 3 (y.cells.map AV.strip) 0)) he20).trans (by kernel_rfl)) (e1 := [(0, S1 n2), (1, I6 a3), (2, I6 a4), (3, .clo F_g5 C_g5), (8, I6 v8), (9, I6 v14), (18, I6 v14), (19, I6 a3), (20, .bool true), (21, .bool true), (22, .clo F_g5 C_g5), (23, S1 n2), (24, I6 v14), (25, .pe 2000000 1 (0 + Int.toNat v14) 0), (26, I6 e18), (27, S1 n2), (28, I6 v14), (29, I6 (W6 (v14 - 1))), (30, .pe 2000000 1 (0 + Int.toNat (W6 (v14 - 1))) 0), (31, I6 e20), O1 v13]) (by kernel_rfl) ?_
          obtain ⟨w21, hw21, h⟩ := bind_some h
          refine WO.callK 0 (F := F_g5) (l := [I6 e18, I6 e20]) (C := C_g5) (r := I6 w21) (by kernel_rfl) hok_g5 (hrun_g5 e18 e20 w21 hw21) (e1 := [(0, S1 n2), (1, I6 a3), (2, I6 a4), (3, .clo F_g5 C_g5), (8, I6 v8), (9, I6 v14), (18, I6 v14), (19, I6 a3), (20, .bool true), (21, .bool true), (22, .clo F_g5 C_g5), (23, S1 n2), (24, I6 v14), (25, .pe 2000000 1 (0 + Int.toNat v14) 0), (26, I6 e18), (27, S1 n2), (28, I6 v14), (29, I6 (W6 (v14 - 1))), (30, .pe 2000000 1 (0 + Int.toNat (W6 (v14 - 1))) 0), (31, I6 e20), (32, I6 w21), O1 v13]) (by kernel_rfl) ?_
          refine WO.fin [0, 1, 2, 3, 8, 9, 34, 2000000] [] [] [] (e2 := [(0, S1 n2), (1, I6 a3), (2, I6 a4), (3, .clo F_g5 C_g5), (8, I6 v8), (9, I6 v14), (34, .bool (decide (w21 < 0))), O1 v13]) (by kernel_rfl) (fun _ h => h) ?_
          exact hK16 (decide (w21 < 0)) h
        replace h := cond_f hb h
        refine WO.fin [0, 1, 2, 3, 8, 9, 34, 2000000] [] [] [] (e2 := [(0, S1 n2), (1, I6 a3), (2, I6 a4), (3, .clo F_g5 C_g5), (8, I6 v8), (9, I6 v14), (34, .bool false), O1 v13]) (by kernel_rfl) (fun _ h => h) ?_
        exact hK16 false h
    replace h := cond_f hb h
    have hr : PostM Try.prog Try.f101 (.tup []) [O1 v7] .normal [(0, S1 n2), (1, I6 a3), (2, I6 a4), (3, .clo F_g5 C_g5), (8, I6 v8), (14, .bool (decide (v8 < a4))), O1 v7] := ⟨by kernel_rfl, by kernel_rfl⟩
    cases h
    exact W.exit hr
def sl_swapRangeCmpFunc_int_l1 (n2 : Nat) (a3 : Int) (a4 : Int) (a5 : Int) : Nat → (List Int) → Int → Option (List Int)
  | 0, _, _ => none
  | m1 + 1, v8, v9 => (bif (decide (v9 < a5)) then (chk (decide ((0 : Int) ≤ (IntKind.wrap .i64 (a4 + v9)) ∧ (IntKind.wrap .i64 (a4 + v9)) < ((n2 : Nat) : Int))) ((v8[(0 + Int.toNat (IntKind.wrap .i64 (a4 + v9)))]?).bind fun e14 => (chk (decide ((0 : Int) ≤ (IntKind.wrap .i64 (a3 + v9)) ∧ (IntKind.wrap .i64 (a3 + v9)) < ((n2 : Nat) : Int))) ((v8[(0 + Int.toNat (IntKind.wrap .i64 (a3 + v9)))]?).bind fun e16 => (chk (decide ((0 : Int) ≤ (IntKind.wrap .i64 (a3 + v9)) ∧ (IntKind.wrap .i64 (a3 + v9)) < ((n2 : Nat) : Int))) ((upd v8 (0 + Int.toNat (IntKind.wrap .i64 (a3 + v9))) e14).bind fun u18 => (chk (decide ((0 : Int) ≤ (IntKind.wrap .i64 (a4 + v9)) ∧ (IntKind.wrap .i64 (a4 + v9)) < ((n2 : Nat) : Int))) ((upd u18 (0 + Int.toNat (IntKind.wrap .i64 (a4 + v9))) e16).bind fun u21 => ((sl_swapRangeCmpFunc_int_l1 n2 a3 a4 a5 m1) u21 (IntKind.wrap .i64 (v9 + 1))))))))))) else (some v8))
def sl_swapRangeCmpFunc_int (fuel : Nat) (a1 : (List Int)) (n2 : Nat) (a3 : Int) (a4 : Int) (a5 : Int) (g6 : (Int → Int → Option Int)) : Option (List Int) :=
  (sl_swapRangeCmpFunc_int_l1 n2 a3 a4 a5 fuel a1 0)
theorem run_sl_swapRangeCmpFunc_int (fuel : Nat) (a1 : (List Int)) (n2 : Nat) (a3 : Int) (a4 : Int) (a5 : Int) (g6 : (Int → Int → Option Int)) (F_g6 : Nat) (C_g6 : List AV) (hok_g6 : okFn Try.prog F_g6 = true) (hrun_g6 : ∀ (x0 : Int) (x1 : Int) r, g6 x0 x1 = some r → Run Try.prog (.call F_g6 ([I6 x0, I6 x1] ++ C_g6) (I6 r))) (r : (List Int)) (h : sl_swapRangeCmpFunc_int fuel a1 n2 a3 a4 a5 g6 = some r) : Run Try.prog (.callM 119 [S1 n2, I6 a3, I6 a4, I6 a5, .clo F_g6 C_g6] [O1 a1] (.tup []) [O1 r]) := by
  refine callM_of_W Try.func119 rfl (by kernel_rfl) (env0 := [(0, S1 n2), (1, I6 a3), (2, I6 a4), (3, I6 a5), (4, .clo F_g6 C_g6), O1 a1]) (by kernel_rfl) ?_
  unfold sl_swapRangeCmpFunc_int at h
  refine W.seq ?_
  refine W.regT [0, 1, 2, 3, 10, 2000000] [] [] [] (e2 := [(0, S1 n2), (1, I6 a3), (2, I6 a4), (3, I6 a5), (10, .int .i64 0), O1 a1]) (by kernel_rfl) (by kernel_rfl) (fun _ h => h) ?_
  refine W.block ?_
  refine W.weak [0, 1, 2, 3, 10, 2000000] [] [] [] (env' := [(0, S1 n2), (1, I6 a3), (2, I6 a4), (3, I6 a5), (10, .int .i64 0), O1 a1]) (by kernel_rfl) ?_
  refine W.fuel (σ := ((List Int) × Int)) (fun s => [(0, S1 n2), (1, I6 a3), (2, I6 a4), (3, I6 a5), (10, I6 s.2), (2000000, .obj 3 1 (List.map (AV.int .i64) s.1))]) (fun m0 s => sl_swapRangeCmpFunc_int_l1 n2 a3 a4 a5 m0 s.1 s.2 = some r) (fun s h => ?_) (fun m1 s h hN1 => ?_) fuel (a1, 0) h
  · obtain ⟨v8, v9⟩ := s
    have h : sl_swapRangeCmpFunc_int_l1 n2 a3 a4 a5 0 v8 v9 = some r := h
    rw [sl_swapRangeCmpFunc_int_l1.eq_1] at h
    cases h
  · obtain ⟨v8, v9⟩ := s
    have h : sl_swapRangeCmpFunc_int_l1 n2 a3 a4 a5 (m1 + 1) v8 v9 = some r := h
    rw [sl_swapRangeCmpFunc_int_l1.eq_2] at h
    refine W.seq ?_
    refine W.seq ?_
    refine W.regT [0, 1, 2, 3, 10, 13, 2000000] [] [] [] (e2 := [(0, S1 n2), (1, I6 a3), (2, I6 a4), (3, I6 a5), (10, I6 v9), (13, .bool (decide (v9 < a5))), O1 v8]) (by kernel_rfl) (by kernel_rfl) (fun _ h => h) ?_
    refine W.condB (decide (v9 < a5)) (by kernel_rfl) (fun hb => ?_) (fun hb => ?_)
    · replace h := cond_t hb h
      refine W.skip ?_
      refine W.weak [0, 1, 2, 3, 10, 2000000] [] [] [] (env' := [(0, S1 n2), (1, I6 a3), (2, I6 a4), (3, I6 a5), (10, I6 v9), O1 v8]) (by kernel_rfl) ?_
      refine W.seq ?_
      refine W.block ?_
      refine W.region (by kernel_rfl) ?_
      obtain ⟨hc13, h⟩ := chk_some h
      refine WO.pureK 12 (if (0 : Int) ≤ (W6 (a4 + v9)) ∧ (W6 (a4 + v9)) < ((n2 : Nat) : Int) then some (.pe 2000000 1 (0 + Int.toNat (W6 (a4 + v9))) 0) else none) (v := .pe 2000000 1 (0 + Int.toNat (W6 (a4 + v9))) 0) (by kernel_rfl) (ite_some hc13) (e1 := [(0, S1 n2), (1, I6 a3), (2, I6 a4), (3, I6 a5), (10, I6 v9), (16, S1 n2), (17, I6 a3), (18, I6 v9), (19, I6 (W6 (a3 + v9))), (20, S1 n2), (21, I6 a4), (22, I6 v9), (23, I6 (W6 (a4 + v9))), (24, S1 n2), (25, I6 a4), (26, I6 v9), (27, I6 (W6 (a4 + v9))), (28, .pe 2000000 1 (0 + Int.toNat (W6 (a4 + v9))) 0), O1 v8]) (by kernel_rfl) ?_
      obtain ⟨e14, he14, h⟩ := bind_some h
      refine WO.pureK 0 (match (List.map (AV.int .i64) v8)[(0 + Int.toNat (W6 (a4 + v9)))]? with | some y => cut Try.prog 3 (y.cells.map AV.strip) 0 | none => none) (v := I6 e14) (by kernel_rfl) ((pe_ld (f := (AV.int .i64)) (G := (fun y => cut Try.prog 3 (y.cells.map AV.strip) 0)) he14).trans (by kernel_rfl)) (e1 := [(0, S1 n2), (1, I6 a3), (2, I6 a4), (3, I6 a5), (10, I6 v9), (16, S1 n2), (17, I6 a3), (18, I6 v9), (19, I6 (W6 (a3 + v9))), (20, S1 n2), (21, I6 a4), (22, I6 v9), (23, I6 (W6 (a4 + v9))), (24, S1 n2), (25, I6 a4), (26, I6 v9), (27, I6 (W6 (a4 + v9))), (28, .pe 2000000 1 (0 + Int.toNat (W6 (a4 + v9))) 0), (29, I6 e14), O1 v8]) (by kernel_rfl) ?_
      obtain ⟨hc15, h⟩ := chk_some h
      refine WO.pureK 4 (if (0 : Int) ≤ (W6 (a3 + v9)) ∧ (W6 (a3 + v9)) < ((n2 : Nat) : Int) then some (.pe 2000000 1 (0 + Int.toNat (W6 (a3 + v9))) 0) else none) (v := .pe 2000000 1 (0 + Int.toNat (W6 (a3 + v9))) 0) (by kernel_rfl) (ite_some hc15) (e1 := [(0, S1 n2), (1, I6 a3), (2, I6 a4), (3, I6 a5), (10, I6 v9), (16, S1 n2), (17, I6 a3), (18, I6 v9), (19, I6 (W6 (a3 + v9))), (20, S1 n2), (21, I6 a4), (22, I6 v9), (23, I6 (W6 (a4 + v9))), (24, S1 n2), (25, I6 a4), (26, I6 v9), (27, I6 (W6 (a4 + v9))), (28, .pe 2000000 1 (0 + Int.toNat (W6 (a4 + v9))) 0), (29, I6 e14), (30, S1 n2), (31, I6 a3), (32, I6 v9), (33, I6 (W6 (a3 + v9))), (34, .pe 2000000 1 (0 + Int.toNat (W6 (a3 + v9))) 0), O1 v8]) (by kernel_rfl) ?_
      obtain ⟨e16, he16, h⟩ := bind_some h
      refine WO.pureK 0 (match (List.map (AV.int .i64) v8)[(0 + Int.toNat (W6 (a3 + v9)))]? with | some y => cut Try.prog 3 (y.cells.map AV.strip) 0 | none => none) (v := I6 e16) (by kernel_rfl) ((pe_ld (f := (AV.int .i64)) (G := (fun y => cut Try.prog 3 (y.cells.map AV.strip) 0)) he16).trans (by kernel_rfl)) (e1 := [(0, S1 n2), (1, I6 a3), (2, I6 a4), (3, I6 a5), (10, I6 v9), (16, S1 n2), (17, I6 a3), (18, I6 v9), (19, I6 (W6 (a3 + v9))), (20, S1 n2), (21, I6 a4), (22, I6 v9), (23, I6 (W6 (a4 + v9))), (24, S1 n2), (25, I6 a4), (26, I6 v9), (27, I6 (W6 (a4 + v9))), (28, .pe 2000000 1 (0 + Int.toNat (W6 (a4 + v9))) 0), (29, I6 e14), (30, S1 n2), (31, I6 a3), (32, I6 v9), (33, I6 (W6 (a3 + v9))), (34, .pe 2000000 1 (0 + Int.toNat (W6 (a3 + v9))) 0), (35, I6 e16), O1 v8]) (by kernel_rfl) ?_
      obtain ⟨hc17, h⟩ := chk_some h
      refine WO.pureK 0 (if (0 : Int) ≤ (W6 (a3 + v9)) ∧ (W6 (a3 + v9)) < ((n2 : Nat) : Int) then some (.pe 2000000 1 (0 + Int.toNat (W6 (a3 + v9))) 0) else none) (v := .pe 2000000 1 (0 + Int.toNat (W6 (a3 + v9))) 0) (by kernel_rfl) (ite_some hc17) (e1 := [(0, S1 n2), (1, I6 a3), (2, I6 a4), (3, I6 a5), (10, I6 v9), (16, S1 n2), (17, I6 a3), (18, I6 v9), (19, I6 (W6 (a3 + v9))), (20, S1 n2), (21, I6 a4), (22, I6 v9), (23, I6 (W6 (a4 + v9))), (24, S1 n2), (25, I6 a4), (26, I6 v9), (27, I6 (W6 (a4 + v9))), (28, .pe 2000000 1 (0 + Int.toNat (W6 (a4 + v9))) 0), (29, I6 e14), (30, S1 n2), (31, I6 a3), (32, I6 v9), (33, I6 (W6 (a3 + v9))), (34, .pe 2000000 1 (0 + Int.toNat (W6 (a3 + v9))) 0), (35, I6 e16), (36, .pe 2000000 1 (0 + Int.toNat (W6 (a3 + v9))) 0), O1 v8]) (by kernel_rfl) ?_
      obtain ⟨u18, hu18, h⟩ := bind_some h
      obtain ⟨y19, hyy19, hzy19⟩ := upd_some hu18
      refine WO.storeK 0 (id := 2000000) (e := 3) (s := 1) (j := (0 + Int.toNat (W6 (a3 + v9)))) (off := 0) (vs := [I6 e14]) (xs := (List.map (AV.int .i64) v8)) (zs := (List.map (AV.int .i64) u18)) (y := ((AV.int .i64)) y19) (y' := ((AV.int .i64)) e14) (by kernel_rfl) (upd_get hyy19) (by kernel_rfl) (upd_set hzy19) (e1 := [(0, S1 n2), (1, I6 a3), (2, I6 a4), (3, I6 a5), (10, I6 v9), (16, S1 n2), (17, I6 a3), (18, I6 v9), (19, I6 (W6 (a3 + v9))), (20, S1 n2), (21, I6 a4), (22, I6 v9), (23, I6 (W6 (a4 + v9))), (24, S1 n2), (25, I6 a4), (26, I6 v9), (27, I6 (W6 (a4 + v9))), (28, .pe 2000000 1 (0 + Int.toNat (W6 (a4 + v9))) 0), (29, I6 e14), (30, S1 n2), (31, I6 a3), (32, I6 v9), (33, I6 (W6 (a3 + v9))), (34, .pe 2000000 1 (0 + Int.toNat (W6 (a3 + v9))) 0), (35, I6 e16), (36, .pe 2000000 1 (0 + Int.toNat (W6 (a3 + v9))) 0), O1 u18]) (by kernel_rfl) ?_
      obtain ⟨hc20, h⟩ := chk_some h
      refine WO.pureK 0 (if (0 : Int) ≤ (W6 (a4 + v9)) ∧ (W6 (a4 + v9)) < ((n2 : Nat) : Int) then some (.pe 2000000 1 (0 + Int.toNat (W6 (a4 + v9))) 0) else none) (v := .pe 2000000 1 (0 + Int.toNat (W6 (a4 + v9))) 0) (by kernel_rfl) (ite_some hc20) (e1 := [(0, S1 n2), (1, I6 a3), (2, I6 a4), (3, I6 a5), (10, I6 v9), (16, S1 n2), (17, I6 a3), (18, I6 v9), (19, I6 (W6 (a3 + v9))), (20, S1 n2), (21, I6 a4), (22, I6 v9), (23, I6 (W6 (a4 + v9))), (24, S1 n2), (25, I6 a4), (26, I6 v9), (27, I6 (W6 (a4 + v9))), (28, .pe 2000000 1 (0 + Int.toNat (W6 (a4 + v9))) 0), (29, I6 e14), (30, S1 n2), (31, I6 a3), (32, I6 v9), (33, I6 (W6 (a3 + v9))), (34, .pe 2000000 1 (0 + Int.toNat (W6 (a3 + v9))) 0), (35, I6 e16), (36, .pe 2000000 1 (0 + Int.toNat (W6 (a3 + v9))) 0), (37, .pe 2000000 1 (0 + Int.toNat (W6 (a4 + v9))) 0), O1 u18]) (by kernel_rfl) ?_
      obtain ⟨u21, hu21, h⟩ := bind_some h
      obtain ⟨y22, hyy22, hzy22⟩ := upd_some hu21
      refine WO.storeK 0 (id := 2000000) (e := 3) (s := 1) (j := (0 + Int.toNat (W6 (a4 + v9)))) (off := 0) (vs := [I6 e16]) (xs := (List.map (AV.int .i64) u18)) (zs := (List.map (AV.int .i64) u21)) (y := ((AV.int .i64)) y22) (y' := ((AV.int .i64)) e16) (by kernel_rfl) (upd_get hyy22) (by kernel_rfl) (upd_set hzy22) (e1 := [(0, S1 n2), (1, I6 a3), (2, I6 a4), (3, I6 a5), (10, I6 v9), (16, S1 n2), (17, I6 a3), (18, I6 v9), (19, I6 (W6 (a3 + v9))), (20, S1 n2), (21, I6 a4), (22, I6 v9), (23, I6 (W6 (a4 + v9))), (24, S1 n2), (25, I6 a4), (26, I6 v9), (27, I6 (W6 (a4 + v9))), (28, .pe 2000000 1 (0 + Int.toNat (W6 (a4 + v9))) 0), (29, I6 e14), (30, S1 n2), (31, I6 a3), (32, I6 v9), (33, I6 (W6 (a3 + v9))), (34, .pe 2000000 1 (0 + Int.toNat (W6 (a3 + v9))) 0), (35, I6 e16), (36, .pe 2000000 1 (0 + Int.toNat (W6 (a3 + v9))) 0), (37, .pe 2000000 1 (0 + Int.toNat (W6 (a4 + v9))) 0), O1 u21]) (by kernel_rfl) ?_
      refine WO.fin [0, 1, 2, 3, 10, 2000000] [] [] [] (e2 := [(0, S1 n2), (1, I6 a3), (2, I6 a4), (3, I6 a5), (10, I6 v9), O1 u21]) (by kernel_rfl) (fun _ h => h) ?_
      refine W.regT [0, 1, 2, 3, 10, 2000000] [] [] [] (e2 := [(0, S1 n2), (1, I6 a3), (2, I6 a4), (3, I6 a5), (10, I6 (W6 (v9 + 1))), O1 u21]) (by kernel_rfl) (by kernel_rfl) (fun _ h => h) ?_
      exact hN1 (u21, (W6 (v9 + 1))) h
    replace h := cond_f hb h
    have hr : PostM Try.prog Try.f119 (.tup []) [O1 v8] .normal [(0, S1 n2), (1, I6 a3), (2, I6 a4), (3, I6 a5), (10, I6 v9), (13, .bool (decide (v9 < a5))), O1 v8] := ⟨by kernel_rfl, by kernel_rfl⟩
    cases h
    exact W.exit hr

end Go.AM
