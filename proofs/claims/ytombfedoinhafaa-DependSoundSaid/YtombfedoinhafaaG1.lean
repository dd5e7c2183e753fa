/- PRINTED by gen.py: pure functions and the proofs that the code computes them. No statement of the seat is proved here. -/
import Derived.Test.YtombfedoinhafaaGT
set_option linter.unusedVariables false
namespace Go.AM
open Go.Proofs
def lw1_deps_j4 (v12 : (List dpDep)) : Option (List dpDep) :=
  (some v12)
def lw1_deps_l1 (K4 : ((List dpDep) → Option (List dpDep))) : List rf1Dep → Nat → (List dpDep) → Option (List dpDep)
  | [], k1, v6 => (K4 v6)
  | x1 :: r1, k1, v6 => (bif (decide ((k1 : Int) > 13)) then (K4 v6) else (chk (capOk 16 ((v6 ++ [(dpDep.mk x1.f_From x1.f_To)])).length) ((lw1_deps_l1 K4 r1 (k1 + 1)) (v6 ++ [(dpDep.mk x1.f_From x1.f_To)]))))
def lw1_deps (a1 : (List rf1Dep)) : Option (List dpDep) :=
  (chk (lenOk a1) (lw1_deps_l1 (lw1_deps_j4) a1 0 ([] : (List dpDep))))
theorem run_lw1_deps (a1 : (List rf1Dep)) (r : (List dpDep)) (h : lw1_deps a1 = some r) : Run Try.prog (.call 20 [l40 none a1] (l33 (some 1) r)) := by
  refine call_of_W Try.func20 rfl (by kernel_rfl) (env0 := [(0, l40 none a1)]) (by kernel_rfl) ?_
  unfold lw1_deps at h
  refine W.seq ?_
  refine W.regT [0] [] [] [] (e2 := [(0, l40 none a1)]) (by kernel_rfl) (by kernel_rfl) (fun _ h => h) ?_
  refine W.seq ?_
  refine W.regT [0, 3] [] [] [] (e2 := [(0, l40 none a1), (3, .nils)]) (by kernel_rfl) (by kernel_rfl) (fun _ h => h) ?_
  refine W.seq ?_
  refine W.join (σ := ((List dpDep))) (fun s => [(3, l33 (some 10300) s)]) (fun s => (lw1_deps_j4) s = some r) (fun s h => ?_) (fun hK4 => ?_)
  · obtain ⟨v12, rfl⟩ : ∃ x, x = s := ⟨s, rfl⟩
    have h : (lw1_deps_j4) v12 = some r := h
    unfold lw1_deps_j4 at h
    refine W.seq ?_
    refine W.regT [2] [] [] [] (e2 := [(2, l33 (some 10300) v12)]) (by kernel_rfl) (by kernel_rfl) (fun _ h => h) ?_
    refine W.weak [2] [] [] [(10300, some 1)] (env' := [(2, l33 (some 1) v12)]) (by kernel_rfl) ?_
    have hr : aresults Try.prog Try.f20 [(2, l33 (some 1) v12)] = some (l33 (some 1) v12) := by kernel_rfl
    cases h
    exact W.ret hr
  refine W.seq ?_
  refine W.region (by kernel_rfl) ?_
  refine WO.pureK 1 (some (.int .i64 ((List.map e_rf1Dep a1).length : Int))) (v := .int .i64 (a1.length : Int)) (by kernel_rfl) (by rw [List.length_map]) (e1 := [(0, l40 none a1), (3, .nils), (6, l40 none a1), (7, .int .i64 (a1.length : Int))]) (by kernel_rfl) ?_
  refine WO.fin [3, 6, 7, 8] [] [] [] (e2 := [(3, .nils), (6, l40 none a1), (7, .int .i64 (a1.length : Int)), (8, .int .i64 0)]) (by kernel_rfl) (fun _ h => h) ?_
  refine W.block ?_
  obtain ⟨hl1, h⟩ := chk_some h
  refine W.weak [3, 6, 7, 8] [] [(3, 0, 33, 2, 10300)] [] (env' := [(3, l33 (some 10300) ([] : (List dpDep))), (6, l40 none a1), (7, .int .i64 (a1.length : Int)), (8, .int .i64 ((0 : Nat) : Int))]) (by kernel_rfl) ?_
  refine W.range (σ := ((List dpDep))) a1 (fun k1 s => [(3, l33 (some 10300) s), (6, l40 none a1), (7, .int .i64 (a1.length : Int)), (8, .int .i64 (k1 : Int))]) (fun r0 k0 s => lw1_deps_l1 (lw1_deps_j4) r0 k0 s = some r) (fun s h => ?_) (fun x1 r1 k1 s hx1 hk1 h hN1 => ?_) ([] : (List dpDep)) h
  · obtain ⟨v6, rfl⟩ : ∃ x, x = s := ⟨s, rfl⟩
    have h : lw1_deps_l1 (lw1_deps_j4) [] (a1).length v6 = some r := h
    rw [lw1_deps_l1.eq_1] at h
    refine W.seq ?_
    refine W.region (by kernel_rfl) ?_
    refine WO.pureK 0 (some (.bool (decide (((a1).length : Int) < (a1.length : Int))))) (v := .bool false) (by kernel_rfl) (by rw [lt_false (l := a1)]) (e1 := [(3, l33 (some 10300) v6), (6, l40 none a1), (7, .int .i64 (a1.length : Int)), (8, .int .i64 ((a1).length : Int)), (9, .bool false)]) (by kernel_rfl) ?_
    refine WO.fin ([3, 6, 7, 8, 9]) [] [] [] (e2 := [(3, l33 (some 10300) v6), (6, l40 none a1), (7, .int .i64 (a1.length : Int)), (8, .int .i64 ((a1).length : Int)), (9, .bool false)]) (by kernel_rfl) (fun _ h => h) ?_
    refine W.seq ?_
    refine W.condB false (by kernel_rfl) (fun h => Bool.noConfusion h) (fun _ => ?_)
    refine W.exit ?_
    refine W.weak [3] [] [] [] (env' := [(3, l33 (some 10300) v6)]) (by kernel_rfl) ?_
    exact hK4 v6 h
  · obtain ⟨v6, rfl⟩ : ∃ x, x = s := ⟨s, rfl⟩
    have h : lw1_deps_l1 (lw1_deps_j4) (x1 :: r1) k1 v6 = some r := h
    rw [lw1_deps_l1.eq_2] at h
    refine W.seq ?_
    refine W.region (by kernel_rfl) ?_
    refine WO.pureK 0 (some (.bool (decide ((k1 : Int) < (a1.length : Int))))) (v := .bool true) (by kernel_rfl) (by rw [lt_true hk1]) (e1 := [(3, l33 (some 10300) v6), (6, l40 none a1), (7, .int .i64 (a1.length : Int)), (8, .int .i64 (k1 : Int)), (9, .bool true)]) (by kernel_rfl) ?_
    refine WO.fin ([3, 6, 7, 8, 9]) [] [] [] (e2 := [(3, l33 (some 10300) v6), (6, l40 none a1), (7, .int .i64 (a1.length : Int)), (8, .int .i64 (k1 : Int)), (9, .bool true)]) (by kernel_rfl) (fun _ h => h) ?_
    refine W.seq ?_
    refine W.condB true (by kernel_rfl) (fun _ => ?_) (fun h => Bool.noConfusion h)
    refine W.skip ?_
    refine W.weak [3, 6, 7, 8] [] [] [] (env' := [(3, l33 (some 10300) v6), (6, l40 none a1), (7, .int .i64 (a1.length : Int)), (8, .int .i64 (k1 : Int))]) (by kernel_rfl) ?_
    refine W.seq ?_
    refine W.block ?_
    refine W.seq ?_
    refine W.region (by kernel_rfl) ?_
    refine WO.pureK 1 (if (0 : Int) ≤ (k1 : Int) then ((List.map e_rf1Dep a1)[Int.toNat (k1 : Int)]?).map AV.ptr else none) (v := .ptr (.agg [.int .i64 x1.f_From, .int .i64 x1.f_To])) (by kernel_rfl) (idx_nat (f := e_rf1Dep) hx1) (e1 := [(3, l33 (some 10300) v6), (6, l40 none a1), (7, .int .i64 (a1.length : Int)), (8, .int .i64 (k1 : Int)), (10, .int .i64 (k1 : Int)), (11, .ptr (.agg [.int .i64 x1.f_From, .int .i64 x1.f_To]))]) (by kernel_rfl) ?_
    refine WO.fin [3, 4, 5, 6, 7, 8] [5] [] [] (e2 := [(3, l33 (some 10300) v6), (4, .int .i64 (k1 : Int)), (5, .ptr (.agg [.int .i64 x1.f_From, .int .i64 x1.f_To])), (6, l40 none a1), (7, .int .i64 (a1.length : Int)), (8, .int .i64 (k1 : Int))]) (by kernel_rfl) (fun _ h => h) ?_
    refine W.seq ?_
    refine W.seq ?_
    refine W.regT [3, 5, 6, 7, 8, 14] [] [] [] (e2 := [(3, l33 (some 10300) v6), (5, .ptr (.agg [.int .i64 x1.f_From, .int .i64 x1.f_To])), (6, l40 none a1), (7, .int .i64 (a1.length : Int)), (8, .int .i64 (k1 : Int)), (14, .bool (decide ((k1 : Int) > 13)))]) (by kernel_rfl) (by kernel_rfl) (fun _ h => h) ?_
    refine W.condB (decide ((k1 : Int) > 13)) (by kernel_rfl) (fun hb => ?_) (fun hb => ?_)
    · replace h := cond_t hb h
      refine W.exit ?_
      refine W.weak [3] [] [] [] (env' := [(3, l33 (some 10300) v6)]) (by kernel_rfl) ?_
      exact hK4 v6 h
    replace h := cond_f hb h
    refine W.skip ?_
    refine W.weak [3, 5, 6, 7, 8] [] [] [] (env' := [(3, l33 (some 10300) v6), (5, .ptr (.agg [.int .i64 x1.f_From, .int .i64 x1.f_To])), (6, l40 none a1), (7, .int .i64 (a1.length : Int)), (8, .int .i64 (k1 : Int))]) (by kernel_rfl) ?_
    refine W.region (by kernel_rfl) ?_
    obtain ⟨hc11, h⟩ := chk_some h
    refine WO.appendK 7 (d := 22) (e := 33) (s := 2) (bytes := 16) (xs := (List.map e_dpDep v6)) (ys := (List.map e_dpDep [(dpDep.mk x1.f_From x1.f_To)])) (zs := (List.map e_dpDep (v6 ++ [(dpDep.mk x1.f_From x1.f_To)]))) (env1 := [(3, l33 none v6), (5, .ptr (.agg [.int .i64 x1.f_From, .int .i64 x1.f_To])), (6, l40 none a1), (7, .int .i64 (a1.length : Int)), (8, .int .i64 (k1 : Int)), (15, l33 none v6), (16, .ptr (.int .i64 x1.f_From)), (17, .int .i64 x1.f_From), (18, .ptr (.int .i64 x1.f_To)), (19, .int .i64 x1.f_To), (20, .agg [.int .i64 x1.f_From, .int .i64 x1.f_To]), (21, l33 (some 21) [(dpDep.mk x1.f_From x1.f_To)])]) (by kernel_rfl) (List.map_append.symm) (by rw [List.length_map]; exact hc11) (e1 := [(3, l33 none v6), (5, .ptr (.agg [.int .i64 x1.f_From, .int .i64 x1.f_To])), (6, l40 none a1), (7, .int .i64 (a1.length : Int)), (8, .int .i64 (k1 : Int)), (15, l33 none v6), (16, .ptr (.int .i64 x1.f_From)), (17, .int .i64 x1.f_From), (18, .ptr (.int .i64 x1.f_To)), (19, .int .i64 x1.f_To), (20, .agg [.int .i64 x1.f_From, .int .i64 x1.f_To]), (21, l33 (some 21) [(dpDep.mk x1.f_From x1.f_To)]), (22, l33 (some 22) (v6 ++ [(dpDep.mk x1.f_From x1.f_To)]))]) (by kernel_rfl) ?_
    refine WO.fin [3, 6, 7, 8] [] [] [] (e2 := [(3, l33 (some 22) (v6 ++ [(dpDep.mk x1.f_From x1.f_To)])), (6, l40 none a1), (7, .int .i64 (a1.length : Int)), (8, .int .i64 (k1 : Int))]) (by kernel_rfl) (fun _ h => h) ?_
    refine W.region (by kernel_rfl) ?_
    refine WO.pureK 0 (some (.int .i64 (IntKind.wrap .i64 ((k1 : Int) + 1)))) (v := .int .i64 ((k1 + 1 : Nat) : Int)) (by kernel_rfl) (by rw [wrap_succ hl1 hk1]) (e1 := [(3, l33 (some 22) (v6 ++ [(dpDep.mk x1.f_From x1.f_To)])), (6, l40 none a1), (7, .int .i64 (a1.length : Int)), (8, .int .i64 (k1 : Int)), (23, .int .i64 ((k1 + 1 : Nat) : Int))]) (by kernel_rfl) ?_
    refine WO.fin [3, 6, 7, 8] [] [] [(22, some 10300)] (e2 := [(3, l33 (some 10300) (v6 ++ [(dpDep.mk x1.f_From x1.f_To)])), (6, l40 none a1), (7, .int .i64 (a1.length : Int)), (8, .int .i64 ((k1 + 1 : Nat) : Int))]) (by kernel_rfl) (fun _ h => h) ?_
    exact hN1 (v6 ++ [(dpDep.mk x1.f_From x1.f_To)]) h
def sl_IndexFunc_dpDep_j4 : Option Int :=
  (some (-1))
def sl_IndexFunc_dpDep_l1 (g2 : (dpDep → Option Bool)) (K4 : (Option Int)) : List dpDep → Nat → Option Int
  | [], k1 => K4
  | x1 :: r1, k1 => ((g2 x1).bind fun w9 => (bif w9 then (some (k1 : Int)) else (sl_IndexFunc_dpDep_l1 g2 K4 r1 (k1 + 1))))
def sl_IndexFunc_dpDep (a1 : (List dpDep)) (g2 : (dpDep → Option Bool)) : Option Int :=
  (chk (lenOk a1) (sl_IndexFunc_dpDep_l1 g2 (sl_IndexFunc_dpDep_j4) a1 0))
theorem run_sl_IndexFunc_dpDep (a1 : (List dpDep)) (g2 : (dpDep → Option Bool)) (F_g2 : Nat) (C_g2 : List AV) (hok_g2 : okFn Try.prog F_g2 = true) (hrun_g2 : ∀ (x0 : dpDep) r, g2 x0 = some r → Run Try.prog (.call F_g2 ([.agg [.int .i64 x0.f_From, .int .i64 x0.f_To]] ++ C_g2) (.bool r))) (r : Int) (h : sl_IndexFunc_dpDep a1 g2 = some r) : Run Try.prog (.call 92 [l33 none a1, .clo F_g2 C_g2] (.int .i64 r)) := by
  refine call_of_W Try.func92 rfl (by kernel_rfl) (env0 := [(0, l33 none a1), (1, .clo F_g2 C_g2)]) (by kernel_rfl) ?_
  unfold sl_IndexFunc_dpDep at h
  refine W.seq ?_
  refine W.regT [0, 1] [] [] [] (e2 := [(0, l33 none a1), (1, .clo F_g2 C_g2)]) (by kernel_rfl) (by kernel_rfl) (fun _ h => h) ?_
  refine W.seq ?_
  refine W.join (σ := Unit) (fun s => []) (fun s => (sl_IndexFunc_dpDep_j4) = some r) (fun s h => ?_) (fun hK4 => ?_)
  · have h : (sl_IndexFunc_dpDep_j4) = some r := h
    unfold sl_IndexFunc_dpDep_j4 at h
    refine W.seq ?_
    refine W.regT [4] [] [] [] (e2 := [(4, .int .i64 (-1))]) (by kernel_rfl) (by kernel_rfl) (fun _ h => h) ?_
    refine W.weak [4] [] [] [] (env' := [(4, .int .i64 (-1))]) (by kernel_rfl) ?_
    have hr : aresults Try.prog Try.f92 [(4, .int .i64 (-1))] = some (.int .i64 (-1)) := by kernel_rfl
    cases h
    exact W.ret hr
  refine W.seq ?_
  refine W.region (by kernel_rfl) ?_
  refine WO.pureK 1 (some (.int .i64 ((List.map e_dpDep a1).length : Int))) (v := .int .i64 (a1.length : Int)) (by kernel_rfl) (by rw [List.length_map]) (e1 := [(0, l33 none a1), (1, .clo F_g2 C_g2), (6, l33 none a1), (7, .int .i64 (a1.length : Int))]) (by kernel_rfl) ?_
  refine WO.fin [0, 1, 7, 8] [] [] [] (e2 := [(0, l33 none a1), (1, .clo F_g2 C_g2), (7, .int .i64 (a1.length : Int)), (8, .int .i64 0)]) (by kernel_rfl) (fun _ h => h) ?_
  refine W.block ?_
  obtain ⟨hl1, h⟩ := chk_some h
  refine W.weak [0, 1, 7, 8] [] [] [] (env' := [(0, l33 none a1), (1, .clo F_g2 C_g2), (7, .int .i64 (a1.length : Int)), (8, .int .i64 ((0 : Nat) : Int))]) (by kernel_rfl) ?_
  refine W.range (σ := Unit) a1 (fun k1 s => [(0, l33 none a1), (1, .clo F_g2 C_g2), (7, .int .i64 (a1.length : Int)), (8, .int .i64 (k1 : Int))]) (fun r0 k0 s => sl_IndexFunc_dpDep_l1 g2 (sl_IndexFunc_dpDep_j4) r0 k0 = some r) (fun s h => ?_) (fun x1 r1 k1 s hx1 hk1 h hN1 => ?_) () h
  · have h : sl_IndexFunc_dpDep_l1 g2 (sl_IndexFunc_dpDep_j4) [] (a1).length = some r := h
    rw [sl_IndexFunc_dpDep_l1.eq_1] at h
    refine W.seq ?_
    refine W.region (by kernel_rfl) ?_
    refine WO.pureK 0 (some (.bool (decide (((a1).length : Int) < (a1.length : Int))))) (v := .bool false) (by kernel_rfl) (by rw [lt_false (l := a1)]) (e1 := [(0, l33 none a1), (1, .clo F_g2 C_g2), (7, .int .i64 (a1.length : Int)), (8, .int .i64 ((a1).length : Int)), (9, .bool false)]) (by kernel_rfl) ?_
    refine WO.fin ([0, 1, 7, 8, 9]) [] [] [] (e2 := [(0, l33 none a1), (1, .clo F_g2 C_g2), (7, .int .i64 (a1.length : Int)), (8, .int .i64 ((a1).length : Int)), (9, .bool false)]) (by kernel_rfl) (fun _ h => h) ?_
    refine W.seq ?_
    refine W.condB false (by kernel_rfl) (fun h => Bool.noConfusion h) (fun _ => ?_)
    refine W.exit ?_
    refine W.weak [] [] [] [] (env' := []) (by kernel_rfl) ?_
    exact hK4 () h
  · have h : sl_IndexFunc_dpDep_l1 g2 (sl_IndexFunc_dpDep_j4) (x1 :: r1) k1 = some r := h
    rw [sl_IndexFunc_dpDep_l1.eq_2] at h
    refine W.seq ?_
    refine W.region (by kernel_rfl) ?_
    refine WO.pureK 0 (some (.bool (decide ((k1 : Int) < (a1.length : Int))))) (v := .bool true) (by kernel_rfl) (by rw [lt_true hk1]) (e1 := [(0, l33 none a1), (1, .clo F_g2 C_g2), (7, .int .i64 (a1.length : Int)), (8, .int .i64 (k1 : Int)), (9, .bool true)]) (by kernel_rfl) ?_
    refine WO.fin ([0, 1, 7, 8, 9]) [] [] [] (e2 := [(0, l33 none a1), (1, .clo F_g2 C_g2), (7, .int .i64 (a1.length : Int)), (8, .int .i64 (k1 : Int)), (9, .bool true)]) (by kernel_rfl) (fun _ h => h) ?_
    refine W.seq ?_
    refine W.condB true (by kernel_rfl) (fun _ => ?_) (fun h => Bool.noConfusion h)
    refine W.skip ?_
    refine W.weak [0, 1, 7, 8] [] [] [] (env' := [(0, l33 none a1), (1, .clo F_g2 C_g2), (7, .int .i64 (a1.length : Int)), (8, .int .i64 (k1 : Int))]) (by kernel_rfl) ?_
    refine W.seq ?_
    refine W.block ?_
    refine W.seq ?_
    refine W.regT [0, 1, 5, 7, 8] [] [] [] (e2 := [(0, l33 none a1), (1, .clo F_g2 C_g2), (5, .int .i64 (k1 : Int)), (7, .int .i64 (a1.length : Int)), (8, .int .i64 (k1 : Int))]) (by kernel_rfl) (by kernel_rfl) (fun _ h => h) ?_
    refine W.seq ?_
    refine W.region (by kernel_rfl) ?_
    refine WO.pureK 3 (if (0 : Int) ≤ (k1 : Int) then ((List.map e_dpDep a1)[Int.toNat (k1 : Int)]?).map AV.ptr else none) (v := .ptr (.agg [.int .i64 x1.f_From, .int .i64 x1.f_To])) (by kernel_rfl) (idx_nat (f := e_dpDep) hx1) (e1 := [(0, l33 none a1), (1, .clo F_g2 C_g2), (5, .int .i64 (k1 : Int)), (7, .int .i64 (a1.length : Int)), (8, .int .i64 (k1 : Int)), (11, .clo F_g2 C_g2), (12, l33 none a1), (13, .int .i64 (k1 : Int)), (14, .ptr (.agg [.int .i64 x1.f_From, .int .i64 x1.f_To]))]) (by kernel_rfl) ?_
    obtain ⟨w9, hw9, h⟩ := bind_some h
    refine WO.callK 1 (F := F_g2) (l := [.agg [.int .i64 x1.f_From, .int .i64 x1.f_To]]) (C := C_g2) (r := .bool w9) (by kernel_rfl) hok_g2 (hrun_g2 x1 w9 hw9) (e1 := [(0, l33 none a1), (1, .clo F_g2 C_g2), (5, .int .i64 (k1 : Int)), (7, .int .i64 (a1.length : Int)), (8, .int .i64 (k1 : Int)), (11, .clo F_g2 C_g2), (12, l33 none a1), (13, .int .i64 (k1 : Int)), (14, .ptr (.agg [.int .i64 x1.f_From, .int .i64 x1.f_To])), (15, .agg [.int .i64 x1.f_From, .int .i64 x1.f_To]), (16, .bool w9)]) (by kernel_rfl) ?_
    refine WO.fin [0, 1, 5, 7, 8, 16] [] [] [] (e2 := [(0, l33 none a1), (1, .clo F_g2 C_g2), (5, .int .i64 (k1 : Int)), (7, .int .i64 (a1.length : Int)), (8, .int .i64 (k1 : Int)), (16, .bool w9)]) (by kernel_rfl) (fun _ h => h) ?_
    refine W.condB w9 (by kernel_rfl) (fun hb => ?_) (fun hb => ?_)
    · replace h := cond_t hb h
      refine W.seq ?_
      refine W.regT [4] [] [] [] (e2 := [(4, .int .i64 (k1 : Int))]) (by kernel_rfl) (by kernel_rfl) (fun _ h => h) ?_
      refine W.weak [4] [] [] [] (env' := [(4, .int .i64 (k1 : Int))]) (by kernel_rfl) ?_
      have hr : aresults Try.prog Try.f92 [(4, .int .i64 (k1 : Int))] = some (.int .i64 (k1 : Int)) := by kernel_rfl
      cases h
      exact W.ret hr
    replace h := cond_f hb h
    refine W.skip ?_
    refine W.weak [0, 1, 7, 8] [] [] [] (env' := [(0, l33 none a1), (1, .clo F_g2 C_g2), (7, .int .i64 (a1.length : Int)), (8, .int .i64 (k1 : Int))]) (by kernel_rfl) ?_
    refine W.region (by kernel_rfl) ?_
    refine WO.pureK 0 (some (.int .i64 (IntKind.wrap .i64 ((k1 : Int) + 1)))) (v := .int .i64 ((k1 + 1 : Nat) : Int)) (by kernel_rfl) (by rw [wrap_succ hl1 hk1]) (e1 := [(0, l33 none a1), (1, .clo F_g2 C_g2), (7, .int .i64 (a1.length : Int)), (8, .int .i64 (k1 : Int)), (18, .int .i64 ((k1 + 1 : Nat) : Int))]) (by kernel_rfl) ?_
    refine WO.fin [0, 1, 7, 8] [] [] [] (e2 := [(0, l33 none a1), (1, .clo F_g2 C_g2), (7, .int .i64 (a1.length : Int)), (8, .int .i64 ((k1 + 1 : Nat) : Int))]) (by kernel_rfl) (fun _ h => h) ?_
    exact hN1 () h
def sl_ContainsFunc_dpDep (a1 : (List dpDep)) (g2 : (dpDep → Option Bool)) : Option Bool :=
  ((sl_IndexFunc_dpDep a1 g2).bind fun w5 => (some (decide (w5 ≥ 0))))
theorem run_sl_ContainsFunc_dpDep (a1 : (List dpDep)) (g2 : (dpDep → Option Bool)) (F_g2 : Nat) (C_g2 : List AV) (hok_g2 : okFn Try.prog F_g2 = true) (hrun_g2 : ∀ (x0 : dpDep) r, g2 x0 = some r → Run Try.prog (.call F_g2 ([.agg [.int .i64 x0.f_From, .int .i64 x0.f_To]] ++ C_g2) (.bool r))) (r : Bool) (h : sl_ContainsFunc_dpDep a1 g2 = some r) : Run Try.prog (.call 74 [l33 none a1, .clo F_g2 C_g2] (.bool r)) := by
  refine call_of_W Try.func74 rfl (by kernel_rfl) (env0 := [(0, l33 none a1), (1, .clo F_g2 C_g2)]) (by kernel_rfl) ?_
  unfold sl_ContainsFunc_dpDep at h
  refine W.seq ?_
  refine W.regT [0, 1] [] [] [] (e2 := [(0, l33 none a1), (1, .clo F_g2 C_g2)]) (by kernel_rfl) (by kernel_rfl) (fun _ h => h) ?_
  refine W.seq ?_
  refine W.region (by kernel_rfl) ?_
  obtain ⟨w5, hw5, h⟩ := bind_some h
  refine WO.callK 2 (F := 92) (l := [l33 none a1, .clo F_g2 C_g2]) (C := []) (r := .int .i64 w5) (by kernel_rfl) (by kernel_rfl) (run_sl_IndexFunc_dpDep a1 g2 F_g2 C_g2 hok_g2 hrun_g2 w5 hw5) (e1 := [(0, l33 none a1), (1, .clo F_g2 C_g2), (5, l33 none a1), (6, .clo F_g2 C_g2), (7, .int .i64 w5)]) (by kernel_rfl) ?_
  refine WO.fin [4] [] [] [] (e2 := [(4, .bool (decide (w5 ≥ 0)))]) (by kernel_rfl) (fun _ h => h) ?_
  refine W.weak [4] [] [] [] (env' := [(4, .bool (decide (w5 ≥ 0)))]) (by kernel_rfl) ?_
  have hr : aresults Try.prog Try.f74 [(4, .bool (decide (w5 ≥ 0)))] = some (.bool (decide (w5 ≥ 0))) := by kernel_rfl
  cases h
  exact W.ret hr
def sl_IndexFunc_int_j4 : Option Int :=
  (some (-1))
def sl_IndexFunc_int_l1 (g2 : (Int → Option Bool)) (K4 : (Option Int)) : List Int → Nat → Option Int
  | [], k1 => K4
  | x1 :: r1, k1 => ((g2 x1).bind fun w9 => (bif w9 then (some (k1 : Int)) else (sl_IndexFunc_int_l1 g2 K4 r1 (k1 + 1))))
def sl_IndexFunc_int (a1 : (List Int)) (g2 : (Int → Option Bool)) : Option Int :=
  (chk (lenOk a1) (sl_IndexFunc_int_l1 g2 (sl_IndexFunc_int_j4) a1 0))
theorem run_sl_IndexFunc_int (a1 : (List Int)) (g2 : (Int → Option Bool)) (F_g2 : Nat) (C_g2 : List AV) (hok_g2 : okFn Try.prog F_g2 = true) (hrun_g2 : ∀ (x0 : Int) r, g2 x0 = some r → Run Try.prog (.call F_g2 ([.int .i64 x0] ++ C_g2) (.bool r))) (r : Int) (h : sl_IndexFunc_int a1 g2 = some r) : Run Try.prog (.call 78 [l3 none a1, .clo F_g2 C_g2] (.int .i64 r)) := by
  refine call_of_W Try.func78 rfl (by kernel_rfl) (env0 := [(0, l3 none a1), (1, .clo F_g2 C_g2)]) (by kernel_rfl) ?_
  unfold sl_IndexFunc_int at h
  refine W.seq ?_
  refine W.regT [0, 1] [] [] [] (e2 := [(0, l3 none a1), (1, .clo F_g2 C_g2)]) (by kernel_rfl) (by kernel_rfl) (fun _ h => h) ?_
  refine W.seq ?_
  refine W.join (σ := Unit) (fun s => []) (fun s => (sl_IndexFunc_int_j4) = some r) (fun s h => ?_) (fun hK4 => ?_)
  · have h : (sl_IndexFunc_int_j4) = some r := h
    unfold sl_IndexFunc_int_j4 at h
    refine W.seq ?_
    refine W.regT [4] [] [] [] (e2 := [(4, .int .i64 (-1))]) (by kernel_rfl) (by kernel_rfl) (fun _ h => h) ?_
    refine W.weak [4] [] [] [] (env' := [(4, .int .i64 (-1))]) (by kernel_rfl) ?_
    have hr : aresults Try.prog Try.f78 [(4, .int .i64 (-1))] = some (.int .i64 (-1)) := by kernel_rfl
    cases h
    exact W.ret hr
  refine W.seq ?_
  refine W.region (by kernel_rfl) ?_
  refine WO.pureK 1 (some (.int .i64 ((List.map (AV.int .i64) a1).length : Int))) (v := .int .i64 (a1.length : Int)) (by kernel_rfl) (by rw [List.length_map]) (e1 := [(0, l3 none a1), (1, .clo F_g2 C_g2), (6, l3 none a1), (7, .int .i64 (a1.length : Int))]) (by kernel_rfl) ?_
  refine WO.fin [0, 1, 7, 8] [] [] [] (e2 := [(0, l3 none a1), (1, .clo F_g2 C_g2), (7, .int .i64 (a1.length : Int)), (8, .int .i64 0)]) (by kernel_rfl) (fun _ h => h) ?_
  refine W.block ?_
  obtain ⟨hl1, h⟩ := chk_some h
  refine W.weak [0, 1, 7, 8] [] [] [] (env' := [(0, l3 none a1), (1, .clo F_g2 C_g2), (7, .int .i64 (a1.length : Int)), (8, .int .i64 ((0 : Nat) : Int))]) (by kernel_rfl) ?_
  refine W.range (σ := Unit) a1 (fun k1 s => [(0, l3 none a1), (1, .clo F_g2 C_g2), (7, .int .i64 (a1.length : Int)), (8, .int .i64 (k1 : Int))]) (fun r0 k0 s => sl_IndexFunc_int_l1 g2 (sl_IndexFunc_int_j4) r0 k0 = some r) (fun s h => ?_) (fun x1 r1 k1 s hx1 hk1 h hN1 => ?_) () h
  · have h : sl_IndexFunc_int_l1 g2 (sl_IndexFunc_int_j4) [] (a1).length = some r := h
    rw [sl_IndexFunc_int_l1.eq_1] at h
    refine W.seq ?_
    refine W.region (by kernel_rfl) ?_
    refine WO.pureK 0 (some (.bool (decide (((a1).length : Int) < (a1.length : Int))))) (v := .bool false) (by kernel_rfl) (by rw [lt_false (l := a1)]) (e1 := [(0, l3 none a1), (1, .clo F_g2 C_g2), (7, .int .i64 (a1.length : Int)), (8, .int .i64 ((a1).length : Int)), (9, .bool false)]) (by kernel_rfl) ?_
    refine WO.fin ([0, 1, 7, 8, 9]) [] [] [] (e2 := [(0, l3 none a1), (1, .clo F_g2 C_g2), (7, .int .i64 (a1.length : Int)), (8, .int .i64 ((a1).length : Int)), (9, .bool false)]) (by kernel_rfl) (fun _ h => h) ?_
    refine W.seq ?_
    refine W.condB false (by kernel_rfl) (fun h => Bool.noConfusion h) (fun _ => ?_)
    refine W.exit ?_
    refine W.weak [] [] [] [] (env' := []) (by kernel_rfl) ?_
    exact hK4 () h
  · have h : sl_IndexFunc_int_l1 g2 (sl_IndexFunc_int_j4) (x1 :: r1) k1 = some r := h
    rw [sl_IndexFunc_int_l1.eq_2] at h
    refine W.seq ?_
    refine W.region (by kernel_rfl) ?_
    refine WO.pureK 0 (some (.bool (decide ((k1 : Int) < (a1.length : Int))))) (v := .bool true) (by kernel_rfl) (by rw [lt_true hk1]) (e1 := [(0, l3 none a1), (1, .clo F_g2 C_g2), (7, .int .i64 (a1.length : Int)), (8, .int .i64 (k1 : Int)), (9, .bool true)]) (by kernel_rfl) ?_
    refine WO.fin ([0, 1, 7, 8, 9]) [] [] [] (e2 := [(0, l3 none a1), (1, .clo F_g2 C_g2), (7, .int .i64 (a1.length : Int)), (8, .int .i64 (k1 : Int)), (9, .bool true)]) (by kernel_rfl) (fun _ h => h) ?_
    refine W.seq ?_
    refine W.condB true (by kernel_rfl) (fun _ => ?_) (fun h => Bool.noConfusion h)
    refine W.skip ?_
    refine W.weak [0, 1, 7, 8] [] [] [] (env' := [(0, l3 none a1), (1, .clo F_g2 C_g2), (7, .int .i64 (a1.length : Int)), (8, .int .i64 (k1 : Int))]) (by kernel_rfl) ?_
    refine W.seq ?_
    refine W.block ?_
    refine W.seq ?_
    refine W.regT [0, 1, 5, 7, 8] [] [] [] (e2 := [(0, l3 none a1), (1, .clo F_g2 C_g2), (5, .int .i64 (k1 : Int)), (7, .int .i64 (a1.length : Int)), (8, .int .i64 (k1 : Int))]) (by kernel_rfl) (by kernel_rfl) (fun _ h => h) ?_
    refine W.seq ?_
    refine W.region (by kernel_rfl) ?_
    refine WO.pureK 3 (if (0 : Int) ≤ (k1 : Int) then ((List.map (AV.int .i64) a1)[Int.toNat (k1 : Int)]?).map AV.ptr else none) (v := .ptr (.int .i64 x1)) (by kernel_rfl) (idx_nat (f := (AV.int .i64)) hx1) (e1 := [(0, l3 none a1), (1, .clo F_g2 C_g2), (5, .int .i64 (k1 : Int)), (7, .int .i64 (a1.length : Int)), (8, .int .i64 (k1 : Int)), (11, .clo F_g2 C_g2), (12, l3 none a1), (13, .int .i64 (k1 : Int)), (14, .ptr (.int .i64 x1))]) (by kernel_rfl) ?_
    obtain ⟨w9, hw9, h⟩ := bind_some h
    refine WO.callK 1 (F := F_g2) (l := [.int .i64 x1]) (C := C_g2) (r := .bool w9) (by kernel_rfl) hok_g2 (hrun_g2 x1 w9 hw9) (e1 := [(0, l3 none a1), (1, .clo F_g2 C_g2), (5, .int .i64 (k1 : Int)), (7, .int .i64 (a1.length : Int)), (8, .int .i64 (k1 : Int)), (11, .clo F_g2 C_g2), (12, l3 none a1), (13, .int .i64 (k1 : Int)), (14, .ptr (.int .i64 x1)), (15, .int .i64 x1), (16, .bool w9)]) (by kernel_rfl) ?_
    refine WO.fin [0, 1, 5, 7, 8, 16] [] [] [] (e2 := [(0, l3 none a1), (1, .clo F_g2 C_g2), (5, .int .i64 (k1 : Int)), (7, .int .i64 (a1.length : Int)), (8, .int .i64 (k1 : Int)), (16, .bool w9)]) (by kernel_rfl) (fun _ h => h) ?_
    refine W.condB w9 (by kernel_rfl) (fun hb => ?_) (fun hb => ?_)
    · replace h := cond_t hb h
      refine W.seq ?_
      refine W.regT [4] [] [] [] (e2 := [(4, .int .i64 (k1 : Int))]) (by kernel_rfl) (by kernel_rfl) (fun _ h => h) ?_
      refine W.weak [4] [] [] [] (env' := [(4, .int .i64 (k1 : Int))]) (by kernel_rfl) ?_
      have hr : aresults Try.prog Try.f78 [(4, .int .i64 (k1 : Int))] = some (.int .i64 (k1 : Int)) := by kernel_rfl
      cases h
      exact W.ret hr
    replace h := cond_f hb h
    refine W.skip ?_
    refine W.weak [0, 1, 7, 8] [] [] [] (env' := [(0, l3 none a1), (1, .clo F_g2 C_g2), (7, .int .i64 (a1.length : Int)), (8, .int .i64 (k1 : Int))]) (by kernel_rfl) ?_
    refine W.region (by kernel_rfl) ?_
    refine WO.pureK 0 (some (.int .i64 (IntKind.wrap .i64 ((k1 : Int) + 1)))) (v := .int .i64 ((k1 + 1 : Nat) : Int)) (by kernel_rfl) (by rw [wrap_succ hl1 hk1]) (e1 := [(0, l3 none a1), (1, .clo F_g2 C_g2), (7, .int .i64 (a1.length : Int)), (8, .int .i64 (k1 : Int)), (18, .int .i64 ((k1 + 1 : Nat) : Int))]) (by kernel_rfl) ?_
    refine WO.fin [0, 1, 7, 8] [] [] [] (e2 := [(0, l3 none a1), (1, .clo F_g2 C_g2), (7, .int .i64 (a1.length : Int)), (8, .int .i64 ((k1 + 1 : Nat) : Int))]) (by kernel_rfl) (fun _ h => h) ?_
    exact hN1 () h
def sl_ContainsFunc_int (a1 : (List Int)) (g2 : (Int → Option Bool)) : Option Bool :=
  ((sl_IndexFunc_int a1 g2).bind fun w5 => (some (decide (w5 ≥ 0))))
theorem run_sl_ContainsFunc_int (a1 : (List Int)) (g2 : (Int → Option Bool)) (F_g2 : Nat) (C_g2 : List AV) (hok_g2 : okFn Try.prog F_g2 = true) (hrun_g2 : ∀ (x0 : Int) r, g2 x0 = some r → Run Try.prog (.call F_g2 ([.int .i64 x0] ++ C_g2) (.bool r))) (r : Bool) (h : sl_ContainsFunc_int a1 g2 = some r) : Run Try.prog (.call 60 [l3 none a1, .clo F_g2 C_g2] (.bool r)) := by
  refine call_of_W Try.func60 rfl (by kernel_rfl) (env0 := [(0, l3 none a1), (1, .clo F_g2 C_g2)]) (by kernel_rfl) ?_
  unfold sl_ContainsFunc_int at h
  refine W.seq ?_
  refine W.regT [0, 1] [] [] [] (e2 := [(0, l3 none a1), (1, .clo F_g2 C_g2)]) (by kernel_rfl) (by kernel_rfl) (fun _ h => h) ?_
  refine W.seq ?_
  refine W.region (by kernel_rfl) ?_
  obtain ⟨w5, hw5, h⟩ := bind_some h
  refine WO.callK 2 (F := 78) (l := [l3 none a1, .clo F_g2 C_g2]) (C := []) (r := .int .i64 w5) (by kernel_rfl) (by kernel_rfl) (run_sl_IndexFunc_int a1 g2 F_g2 C_g2 hok_g2 hrun_g2 w5 hw5) (e1 := [(0, l3 none a1), (1, .clo F_g2 C_g2), (5, l3 none a1), (6, .clo F_g2 C_g2), (7, .int .i64 w5)]) (by kernel_rfl) ?_
  refine WO.fin [4] [] [] [] (e2 := [(4, .bool (decide (w5 ≥ 0)))]) (by kernel_rfl) (fun _ h => h) ?_
  refine W.weak [4] [] [] [] (env' := [(4, .bool (decide (w5 ≥ 0)))]) (by kernel_rfl) ?_
  have hr : aresults Try.prog Try.f60 [(4, .bool (decide (w5 ≥ 0)))] = some (.bool (decide (w5 ≥ 0))) := by kernel_rfl
  cases h
  exact W.ret hr
def dp_sets_1_j4 (v6 : Bool) : Option Bool :=
  (some v6)
def dp_sets_1 (a1 : Int) (c2 : Int) : Option Bool :=
  (bif (decide (a1 < 0)) then ((dp_sets_1_j4) true) else (chk (decide (0 ≤ c2)) ((dp_sets_1_j4) (decide (a1 ≥ (iShl .i64 1 c2))))))
theorem run_dp_sets_1 (a1 : Int) (c2 : Int) (r : Bool) (h : dp_sets_1 a1 c2 = some r) : Run Try.prog (.call 76 [.int .i64 a1, .ptr (.int .i64 c2)] (.bool r)) := by
  refine call_of_W Try.func76 rfl (by kernel_rfl) (env0 := [(0, .int .i64 a1), (1, .ptr (.int .i64 c2))]) (by kernel_rfl) ?_
  unfold dp_sets_1 at h
  refine W.seq ?_
  refine W.regT [0, 1] [] [] [] (e2 := [(0, .int .i64 a1), (1, .ptr (.int .i64 c2))]) (by kernel_rfl) (by kernel_rfl) (fun _ h => h) ?_
  refine W.seq ?_
  refine W.join (σ := (Bool)) (fun s => [(3, .bool s)]) (fun s => (dp_sets_1_j4) s = some r) (fun s h => ?_) (fun hK4 => ?_)
  · obtain ⟨v6, rfl⟩ : ∃ x, x = s := ⟨s, rfl⟩
    have h : (dp_sets_1_j4) v6 = some r := h
    unfold dp_sets_1_j4 at h
    refine W.weak [3] [] [] [] (env' := [(3, .bool v6)]) (by kernel_rfl) ?_
    have hr : aresults Try.prog Try.f76 [(3, .bool v6)] = some (.bool v6) := by kernel_rfl
    cases h
    exact W.ret hr
  refine W.region (by kernel_rfl) ?_
  refine WO.boolK 3 (fun b => [(0, .int .i64 a1), (1, .ptr (.int .i64 c2)), (4, .int .i64 a1), (5, .bool b), (6, .bool b)]) (decide (a1 < 0)) (by kernel_rfl) (fun hb => ?_) (fun hb => ?_)
  · replace h := cond_t hb h
    refine WO.fin [3] [] [] [] (e2 := [(3, .bool true)]) (by kernel_rfl) (fun _ h => h) ?_
    exact hK4 true h
  replace h := cond_f hb h
  obtain ⟨hc5, h⟩ := chk_some h
  refine WO.pureK 2 (if c2 < 0 then none else some (.int .i64 (iShl .i64 1 c2))) (v := .int .i64 (iShl .i64 1 c2)) (by kernel_rfl) (if_neg (not_lt_of_chk hc5)) (e1 := [(0, .int .i64 a1), (1, .ptr (.int .i64 c2)), (4, .int .i64 a1), (5, .bool false), (6, .bool false), (7, .int .i64 a1), (8, .int .i64 c2), (9, .int .i64 (iShl .i64 1 c2))]) (by kernel_rfl) ?_
  refine WO.fin [3] [] [] [] (e2 := [(3, .bool (decide (a1 ≥ (iShl .i64 1 c2))))]) (by kernel_rfl) (fun _ h => h) ?_
  exact hK4 (decide (a1 ≥ (iShl .i64 1 c2))) h
def dp_sets (a1 : Int) (a2 : (List Int)) : Option Bool :=
  ((sl_ContainsFunc_int a2 (fun y0 => dp_sets_1 y0 a1)).bind fun w5 => (some (!w5)))
theorem run_dp_sets (a1 : Int) (a2 : (List Int)) (r : Bool) (h : dp_sets a1 a2 = some r) : Run Try.prog (.call 58 [.int .i64 a1, l3 none a2] (.bool r)) := by
  refine call_of_W Try.func58 rfl (by kernel_rfl) (env0 := [(0, .int .i64 a1), (1, l3 none a2)]) (by kernel_rfl) ?_
  unfold dp_sets at h
  refine W.seq ?_
  refine W.regT [1, 2] [2] [] [] (e2 := [(1, l3 none a2), (2, .ptr (.int .i64 a1))]) (by kernel_rfl) (by kernel_rfl) (fun _ h => h) ?_
  refine W.seq ?_
  refine W.region (by kernel_rfl) ?_
  obtain ⟨w5, hw5, h⟩ := bind_some h
  refine WO.callK 2 (F := 60) (l := [l3 none a2, .clo 76 [.ptr (.int .i64 a1)]]) (C := []) (r := .bool w5) (by kernel_rfl) (by kernel_rfl) (run_sl_ContainsFunc_int a2 (fun y0 => dp_sets_1 y0 a1) 76 [.ptr (.int .i64 a1)] (by kernel_rfl) (fun y0 r h => run_dp_sets_1 y0 a1 r h) w5 hw5) (e1 := [(1, l3 none a2), (2, .ptr (.int .i64 a1)), (5, l3 none a2), (6, .clo 76 [.ptr (.int .i64 a1)]), (7, .bool w5)]) (by kernel_rfl) ?_
  refine WO.fin [4] [] [] [] (e2 := [(4, .bool (!w5))]) (by kernel_rfl) (fun _ h => h) ?_
  refine W.weak [4] [] [] [] (env' := [(4, .bool (!w5))]) (by kernel_rfl) ?_
  have hr : aresults Try.prog Try.f58 [(4, .bool (!w5))] = some (.bool (!w5)) := by kernel_rfl
  cases h
  exact W.ret hr
def dp_valid_1 (a1 : dpDep) (c2 : Int) : Option Bool :=
  ((dp_sets c2 [a1.f_From, a1.f_To]).bind fun w5 => (some (!w5)))
theorem run_dp_valid_1 (a1 : dpDep) (c2 : Int) (r : Bool) (h : dp_valid_1 a1 c2 = some r) : Run Try.prog (.call 75 [.agg [.int .i64 a1.f_From, .int .i64 a1.f_To], .ptr (.int .i64 c2)] (.bool r)) := by
  refine call_of_W Try.func75 rfl (by kernel_rfl) (env0 := [(0, .agg [.int .i64 a1.f_From, .int .i64 a1.f_To]), (1, .ptr (.int .i64 c2))]) (by kernel_rfl) ?_
  unfold dp_valid_1 at h
  refine W.seq ?_
  refine W.regT [1, 2] [2] [] [] (e2 := [(1, .ptr (.int .i64 c2)), (2, .ptr (.agg [.int .i64 a1.f_From, .int .i64 a1.f_To]))]) (by kernel_rfl) (by kernel_rfl) (fun _ h => h) ?_
  refine W.seq ?_
  refine W.region (by kernel_rfl) ?_
  obtain ⟨w5, hw5, h⟩ := bind_some h
  refine WO.callK 6 (F := 58) (l := [.int .i64 c2, l3 none [a1.f_From, a1.f_To]]) (C := []) (r := .bool w5) (by kernel_rfl) (by kernel_rfl) (run_dp_sets c2 [a1.f_From, a1.f_To] w5 hw5) (e1 := [(1, .ptr (.int .i64 c2)), (2, .ptr (.agg [.int .i64 a1.f_From, .int .i64 a1.f_To])), (4, .int .i64 c2), (5, .ptr (.int .i64 a1.f_From)), (6, .int .i64 a1.f_From), (7, .ptr (.int .i64 a1.f_To)), (8, .int .i64 a1.f_To), (9, l3 (some 9) [a1.f_From, a1.f_To]), (10, .bool w5)]) (by kernel_rfl) ?_
  refine WO.fin [3] [] [] [] (e2 := [(3, .bool (!w5))]) (by kernel_rfl) (fun _ h => h) ?_
  refine W.weak [3] [] [] [] (env' := [(3, .bool (!w5))]) (by kernel_rfl) ?_
  have hr : aresults Try.prog Try.f75 [(3, .bool (!w5))] = some (.bool (!w5)) := by kernel_rfl
  cases h
  exact W.ret hr
def dp_valid_j5 (a1 : Int) (a2 : (List dpDep)) (v6 : Bool) : Option Bool :=
  (bif v6 then (some false) else ((sl_ContainsFunc_dpDep a2 (fun y0 => dp_valid_1 y0 a1)).bind fun w9 => (some (!w9))))
def dp_valid (a1 : Int) (a2 : (List dpDep)) : Option Bool :=
  (bif (decide (a1 < 1)) then ((dp_valid_j5 a1 a2) true) else (bif (decide (a1 > 8)) then ((dp_valid_j5 a1 a2) true) else ((dp_valid_j5 a1 a2) (decide ((a2.length : Int) > 12)))))
theorem run_dp_valid (a1 : Int) (a2 : (List dpDep)) (r : Bool) (h : dp_valid a1 a2 = some r) : Run Try.prog (.call 57 [.int .i64 a1, l33 none a2] (.bool r)) := by
  refine call_of_W Try.func57 rfl (by kernel_rfl) (env0 := [(0, .int .i64 a1), (1, l33 none a2)]) (by kernel_rfl) ?_
  unfold dp_valid at h
  refine W.seq ?_
  refine W.regT [1, 2] [2] [] [] (e2 := [(1, l33 none a2), (2, .ptr (.int .i64 a1))]) (by kernel_rfl) (by kernel_rfl) (fun _ h => h) ?_
  refine W.seq ?_
  refine W.seq ?_
  refine W.join (σ := (Bool)) (fun s => [(1, l33 none a2), (2, .ptr (.int .i64 a1)), (15, .bool s)]) (fun s => (dp_valid_j5 a1 a2) s = some r) (fun s h => ?_) (fun hK5 => ?_)
  · obtain ⟨v6, rfl⟩ : ∃ x, x = s := ⟨s, rfl⟩
    have h : (dp_valid_j5 a1 a2) v6 = some r := h
    unfold dp_valid_j5 at h
    refine W.condB v6 (by kernel_rfl) (fun hb => ?_) (fun hb => ?_)
    · replace h := cond_t hb h
      refine W.seq ?_
      refine W.regT [4] [] [] [] (e2 := [(4, .bool false)]) (by kernel_rfl) (by kernel_rfl) (fun _ h => h) ?_
      refine W.weak [4] [] [] [] (env' := [(4, .bool false)]) (by kernel_rfl) ?_
      have hr : aresults Try.prog Try.f57 [(4, .bool false)] = some (.bool false) := by kernel_rfl
      cases h
      exact W.ret hr
    replace h := cond_f hb h
    refine W.skip ?_
    refine W.weak [1, 2] [] [] [] (env' := [(1, l33 none a2), (2, .ptr (.int .i64 a1))]) (by kernel_rfl) ?_
    refine W.seq ?_
    refine W.region (by kernel_rfl) ?_
    obtain ⟨w9, hw9, h⟩ := bind_some h
    refine WO.callK 2 (F := 74) (l := [l33 none a2, .clo 75 [.ptr (.int .i64 a1)]]) (C := []) (r := .bool w9) (by kernel_rfl) (by kernel_rfl) (run_sl_ContainsFunc_dpDep a2 (fun y0 => dp_valid_1 y0 a1) 75 [.ptr (.int .i64 a1)] (by kernel_rfl) (fun y0 r h => run_dp_valid_1 y0 a1 r h) w9 hw9) (e1 := [(1, l33 none a2), (2, .ptr (.int .i64 a1)), (16, l33 none a2), (17, .clo 75 [.ptr (.int .i64 a1)]), (18, .bool w9)]) (by kernel_rfl) ?_
    refine WO.fin [4] [] [] [] (e2 := [(4, .bool (!w9))]) (by kernel_rfl) (fun _ h => h) ?_
    refine W.weak [4] [] [] [] (env' := [(4, .bool (!w9))]) (by kernel_rfl) ?_
    have hr : aresults Try.prog Try.f57 [(4, .bool (!w9))] = some (.bool (!w9)) := by kernel_rfl
    cases h
    exact W.ret hr
  refine W.region (by kernel_rfl) ?_
  refine WO.boolK 3 (fun b => [(1, l33 none a2), (2, .ptr (.int .i64 a1)), (5, .int .i64 a1), (6, .bool b), (7, .bool b)]) (decide (a1 < 1)) (by kernel_rfl) (fun hb => ?_) (fun hb => ?_)
  · replace h := cond_t hb h
    refine WO.fin [1, 2, 15] [] [] [] (e2 := [(1, l33 none a2), (2, .ptr (.int .i64 a1)), (15, .bool true)]) (by kernel_rfl) (fun _ h => h) ?_
    exact hK5 true h
  replace h := cond_f hb h
  refine WO.boolK 4 (fun b => [(1, l33 none a2), (2, .ptr (.int .i64 a1)), (5, .int .i64 a1), (6, .bool false), (7, .bool false), (8, .int .i64 a1), (9, .bool b), (10, .bool b), (11, .bool b)]) (decide (a1 > 8)) (by kernel_rfl) (fun hb => ?_) (fun hb => ?_)
  · replace h := cond_t hb h
    refine WO.fin [1, 2, 15] [] [] [] (e2 := [(1, l33 none a2), (2, .ptr (.int .i64 a1)), (15, .bool true)]) (by kernel_rfl) (fun _ h => h) ?_
    exact hK5 true h
  replace h := cond_f hb h
  refine WO.pureK 1 (some (.int .i64 ((List.map e_dpDep a2).length : Int))) (v := .int .i64 (a2.length : Int)) (by kernel_rfl) (by rw [List.length_map]) (e1 := [(1, l33 none a2), (2, .ptr (.int .i64 a1)), (5, .int .i64 a1), (6, .bool false), (7, .bool false), (8, .int .i64 a1), (9, .bool false), (10, .bool false), (11, .bool false), (12, l33 none a2), (13, .int .i64 (a2.length : Int))]) (by kernel_rfl) ?_
  refine WO.fin [1, 2, 15] [] [] [] (e2 := [(1, l33 none a2), (2, .ptr (.int .i64 a1)), (15, .bool (decide ((a2.length : Int) > 12)))]) (by kernel_rfl) (fun _ h => h) ?_
  exact hK5 (decide ((a2.length : Int) > 12)) h
def dp_closure (a1 : (List dpDep)) : Option ((List dpDep)) :=
  (some a1)
theorem run_dp_closure (a1 : (List dpDep)) (r : ((List dpDep))) (h : dp_closure a1 = some r) : Run Try.prog (.call 59 [l33 none a1] (.clo 77 [.ptr (l33 none r)])) := by
  refine call_of_W Try.func59 rfl (by kernel_rfl) (env0 := [(0, l33 none a1)]) (by kernel_rfl) ?_
  unfold dp_closure at h
  refine W.seq ?_
  refine W.regT [1] [1] [] [] (e2 := [(1, .ptr (l33 none a1))]) (by kernel_rfl) (by kernel_rfl) (fun _ h => h) ?_
  refine W.seq ?_
  refine W.regT [2] [] [] [] (e2 := [(2, .clo 77 [.ptr (l33 none a1)])]) (by kernel_rfl) (by kernel_rfl) (fun _ h => h) ?_
  refine W.weak [2] [] [] [] (env' := [(2, .clo 77 [.ptr (l33 none a1)])]) (by kernel_rfl) ?_
  have hr : aresults Try.prog Try.f59 [(2, .clo 77 [.ptr (l33 none a1)])] = some (.clo 77 [.ptr (l33 none a1)]) := by kernel_rfl
  cases h
  exact W.ret hr
def dp_closure_1_j4 (v21 : Int) : Option Int :=
  (some v21)
def dp_closure_1_j14 (N2 : (Int → Bool → Option Int)) (v19 : Int) (v20 : Bool) : Option Int :=
  (N2 v19 v20)
def dp_closure_1_j16 (x2 : dpDep) (v12 : Int) (v13 : Bool) (K14 : (Int → Bool → Option Int)) (v17 : Bool) : Option Int :=
  (bif v17 then (K14 (iOr .i64 v12 x2.f_To) true) else (K14 v12 v13))
def dp_closure_1_l2 (N1 : (Int → Bool → Option Int)) : List dpDep → Nat → Int → Bool → Option Int
  | [], k2, v12, v13 => (N1 v12 v13)
  | x2 :: r2, k2, v12, v13 => (bif ((iAndNot .i64 x2.f_From v12) == 0) then ((dp_closure_1_j16 x2 v12 v13 (dp_closure_1_j14 (dp_closure_1_l2 N1 r2 (k2 + 1)))) ((iAndNot .i64 x2.f_To v12) != 0)) else ((dp_closure_1_j16 x2 v12 v13 (dp_closure_1_j14 (dp_closure_1_l2 N1 r2 (k2 + 1)))) false))
def dp_closure_1_l1 (c2 : (List dpDep)) (K4 : (Int → Option Int)) : Nat → Int → Bool → Option Int
  | 0, _, _ => none
  | m1 + 1, v6, v7 => (bif v7 then (chk (lenOk c2) (dp_closure_1_l2 (dp_closure_1_l1 c2 K4 m1) c2 0 v6 false)) else (K4 v6))
def dp_closure_1 (fuel : Nat) (a1 : Int) (c2 : (List dpDep)) : Option Int :=
  (dp_closure_1_l1 c2 (dp_closure_1_j4) fuel a1 true)
theorem run_dp_closure_1 (fuel : Nat) (a1 : Int) (c2 : (List dpDep)) (r : Int) (h : dp_closure_1 fuel a1 c2 = some r) : Run Try.prog (.call 77 [.int .i64 a1, .ptr (l33 none c2)] (.int .i64 r)) := by
  refine call_of_W Try.func77 rfl (by kernel_rfl) (env0 := [(0, .int .i64 a1), (1, .ptr (l33 none c2))]) (by kernel_rfl) ?_
  unfold dp_closure_1 at h
  refine W.seq ?_
  refine W.regT [0, 1] [] [] [] (e2 := [(0, .int .i64 a1), (1, .ptr (l33 none c2))]) (by kernel_rfl) (by kernel_rfl) (fun _ h => h) ?_
  refine W.seq ?_
  refine W.join (σ := (Int)) (fun s => [(0, .int .i64 s)]) (fun s => (dp_closure_1_j4) s = some r) (fun s h => ?_) (fun hK4 => ?_)
  · obtain ⟨v21, rfl⟩ : ∃ x, x = s := ⟨s, rfl⟩
    have h : (dp_closure_1_j4) v21 = some r := h
    unfold dp_closure_1_j4 at h
    refine W.seq ?_
    refine W.regT [3] [] [] [] (e2 := [(3, .int .i64 v21)]) (by kernel_rfl) (by kernel_rfl) (fun _ h => h) ?_
    refine W.weak [3] [] [] [] (env' := [(3, .int .i64 v21)]) (by kernel_rfl) ?_
    have hr : aresults Try.prog Try.f77 [(3, .int .i64 v21)] = some (.int .i64 v21) := by kernel_rfl
    cases h
    exact W.ret hr
  refine W.seq ?_
  refine W.regT [0, 1, 4] [] [] [] (e2 := [(0, .int .i64 a1), (1, .ptr (l33 none c2)), (4, .bool true)]) (by kernel_rfl) (by kernel_rfl) (fun _ h => h) ?_
  refine W.block ?_
  refine W.weak [0, 1, 4] [] [] [] (env' := [(0, .int .i64 a1), (1, .ptr (l33 none c2)), (4, .bool true)]) (by kernel_rfl) ?_
  refine W.fuel (σ := (Int × Bool)) (fun s => [(0, .int .i64 s.1), (1, .ptr (l33 none c2)), (4, .bool s.2)]) (fun m0 s => dp_closure_1_l1 c2 (dp_closure_1_j4) m0 s.1 s.2 = some r) (fun s h => ?_) (fun m1 s h hN1 => ?_) fuel (a1, true) h
  · obtain ⟨v6, v7⟩ := s
    have h : dp_closure_1_l1 c2 (dp_closure_1_j4) 0 v6 v7 = some r := h
    rw [dp_closure_1_l1.eq_1] at h
    cases h
  · obtain ⟨v6, v7⟩ := s
    have h : dp_closure_1_l1 c2 (dp_closure_1_j4) (m1 + 1) v6 v7 = some r := h
    rw [dp_closure_1_l1.eq_2] at h
    refine W.seq ?_
    refine W.seq ?_
    refine W.regT [0, 1, 7] [] [] [] (e2 := [(0, .int .i64 v6), (1, .ptr (l33 none c2)), (7, .bool v7)]) (by kernel_rfl) (by kernel_rfl) (fun _ h => h) ?_
    refine W.condB v7 (by kernel_rfl) (fun hb => ?_) (fun hb => ?_)
    · replace h := cond_t hb h
      refine W.skip ?_
      refine W.weak [0, 1] [] [] [] (env' := [(0, .int .i64 v6), (1, .ptr (l33 none c2))]) (by kernel_rfl) ?_
      refine W.block ?_
      refine W.seq ?_
      refine W.regT [0, 1, 4] [] [] [] (e2 := [(0, .int .i64 v6), (1, .ptr (l33 none c2)), (4, .bool false)]) (by kernel_rfl) (by kernel_rfl) (fun _ h => h) ?_
      refine W.seq ?_
      refine W.region (by kernel_rfl) ?_
      refine WO.pureK 1 (some (.int .i64 ((List.map e_dpDep c2).length : Int))) (v := .int .i64 (c2.length : Int)) (by kernel_rfl) (by rw [List.length_map]) (e1 := [(0, .int .i64 v6), (1, .ptr (l33 none c2)), (4, .bool false), (8, l33 none c2), (9, .int .i64 (c2.length : Int))]) (by kernel_rfl) ?_
      refine WO.fin [0, 1, 4, 8, 9, 10] [] [] [] (e2 := [(0, .int .i64 v6), (1, .ptr (l33 none c2)), (4, .bool false), (8, l33 none c2), (9, .int .i64 (c2.length : Int)), (10, .int .i64 0)]) (by kernel_rfl) (fun _ h => h) ?_
      refine W.block ?_
      obtain ⟨hl2, h⟩ := chk_some h
      refine W.weak [0, 1, 4, 8, 9, 10] [] [] [] (env' := [(0, .int .i64 v6), (1, .ptr (l33 none c2)), (4, .bool false), (8, l33 none c2), (9, .int .i64 (c2.length : Int)), (10, .int .i64 ((0 : Nat) : Int))]) (by kernel_rfl) ?_
      refine W.range (σ := (Int × Bool)) c2 (fun k2 s => [(0, .int .i64 s.1), (1, .ptr (l33 none c2)), (4, .bool s.2), (8, l33 none c2), (9, .int .i64 (c2.length : Int)), (10, .int .i64 (k2 : Int))]) (fun r0 k0 s => dp_closure_1_l2 (dp_closure_1_l1 c2 (dp_closure_1_j4) m1) r0 k0 s.1 s.2 = some r) (fun s h => ?_) (fun x2 r2 k2 s hx2 hk2 h hN2 => ?_) (v6, false) h
      · obtain ⟨v12, v13⟩ := s
        have h : dp_closure_1_l2 (dp_closure_1_l1 c2 (dp_closure_1_j4) m1) [] (c2).length v12 v13 = some r := h
        rw [dp_closure_1_l2.eq_1] at h
        refine W.seq ?_
        refine W.region (by kernel_rfl) ?_
        refine WO.pureK 0 (some (.bool (decide (((c2).length : Int) < (c2.length : Int))))) (v := .bool false) (by kernel_rfl) (by rw [lt_false (l := c2)]) (e1 := [(0, .int .i64 v12), (1, .ptr (l33 none c2)), (4, .bool v13), (8, l33 none c2), (9, .int .i64 (c2.length : Int)), (10, .int .i64 ((c2).length : Int)), (11, .bool false)]) (by kernel_rfl) ?_
        refine WO.fin ([0, 1, 4, 8, 9, 10, 11]) [] [] [] (e2 := [(0, .int .i64 v12), (1, .ptr (l33 none c2)), (4, .bool v13), (8, l33 none c2), (9, .int .i64 (c2.length : Int)), (10, .int .i64 ((c2).length : Int)), (11, .bool false)]) (by kernel_rfl) (fun _ h => h) ?_
        refine W.seq ?_
        refine W.condB false (by kernel_rfl) (fun h => Bool.noConfusion h) (fun _ => ?_)
        refine W.exit ?_
        refine W.weak [0, 1, 4] [] [] [] (env' := [(0, .int .i64 v12), (1, .ptr (l33 none c2)), (4, .bool v13)]) (by kernel_rfl) ?_
        exact hN1 (v12, v13) h
      · obtain ⟨v12, v13⟩ := s
        have h : dp_closure_1_l2 (dp_closure_1_l1 c2 (dp_closure_1_j4) m1) (x2 :: r2) k2 v12 v13 = some r := h
        rw [dp_closure_1_l2.eq_2] at h
        refine W.seq ?_
        refine W.region (by kernel_rfl) ?_
        refine WO.pureK 0 (some (.bool (decide ((k2 : Int) < (c2.length : Int))))) (v := .bool true) (by kernel_rfl) (by rw [lt_true hk2]) (e1 := [(0, .int .i64 v12), (1, .ptr (l33 none c2)), (4, .bool v13), (8, l33 none c2), (9, .int .i64 (c2.length : Int)), (10, .int .i64 (k2 : Int)), (11, .bool true)]) (by kernel_rfl) ?_
        refine WO.fin ([0, 1, 4, 8, 9, 10, 11]) [] [] [] (e2 := [(0, .int .i64 v12), (1, .ptr (l33 none c2)), (4, .bool v13), (8, l33 none c2), (9, .int .i64 (c2.length : Int)), (10, .int .i64 (k2 : Int)), (11, .bool true)]) (by kernel_rfl) (fun _ h => h) ?_
        refine W.seq ?_
        refine W.condB true (by kernel_rfl) (fun _ => ?_) (fun h => Bool.noConfusion h)
        refine W.skip ?_
        refine W.weak [0, 1, 4, 8, 9, 10] [] [] [] (env' := [(0, .int .i64 v12), (1, .ptr (l33 none c2)), (4, .bool v13), (8, l33 none c2), (9, .int .i64 (c2.length : Int)), (10, .int .i64 (k2 : Int))]) (by kernel_rfl) ?_
        refine W.seq ?_
        refine W.join (σ := (Int × Bool)) (fun s => [(0, .int .i64 s.1), (1, .ptr (l33 none c2)), (4, .bool s.2), (8, l33 none c2), (9, .int .i64 (c2.length : Int)), (10, .int .i64 (k2 : Int))]) (fun s => (dp_closure_1_j14 (dp_closure_1_l2 (dp_closure_1_l1 c2 (dp_closure_1_j4) m1) r2 (k2 + 1))) s.1 s.2 = some r) (fun s h => ?_) (fun hK14 => ?_)
        · obtain ⟨v19, v20⟩ := s
          have h : (dp_closure_1_j14 (dp_closure_1_l2 (dp_closure_1_l1 c2 (dp_closure_1_j4) m1) r2 (k2 + 1))) v19 v20 = some r := h
          unfold dp_closure_1_j14 at h
          refine W.region (by kernel_rfl) ?_
          refine WO.pureK 0 (some (.int .i64 (IntKind.wrap .i64 ((k2 : Int) + 1)))) (v := .int .i64 ((k2 + 1 : Nat) : Int)) (by kernel_rfl) (by rw [wrap_succ hl2 hk2]) (e1 := [(0, .int .i64 v19), (1, .ptr (l33 none c2)), (4, .bool v20), (8, l33 none c2), (9, .int .i64 (c2.length : Int)), (10, .int .i64 (k2 : Int)), (30, .int .i64 ((k2 + 1 : Nat) : Int))]) (by kernel_rfl) ?_
          refine WO.fin [0, 1, 4, 8, 9, 10] [] [] [] (e2 := [(0, .int .i64 v19), (1, .ptr (l33 none c2)), (4, .bool v20), (8, l33 none c2), (9, .int .i64 (c2.length : Int)), (10, .int .i64 ((k2 + 1 : Nat) : Int))]) (by kernel_rfl) (fun _ h => h) ?_
          exact hN2 (v19, v20) h
        refine W.block ?_
        refine W.seq ?_
        refine W.region (by kernel_rfl) ?_
        refine WO.pureK 0 (if (0 : Int) ≤ (k2 : Int) then ((List.map e_dpDep c2)[Int.toNat (k2 : Int)]?).map AV.ptr else none) (v := .ptr (.agg [.int .i64 x2.f_From, .int .i64 x2.f_To])) (by kernel_rfl) (idx_nat (f := e_dpDep) hx2) (e1 := [(0, .int .i64 v12), (1, .ptr (l33 none c2)), (4, .bool v13), (8, l33 none c2), (9, .int .i64 (c2.length : Int)), (10, .int .i64 (k2 : Int)), (12, .ptr (.agg [.int .i64 x2.f_From, .int .i64 x2.f_To]))]) (by kernel_rfl) ?_
        refine WO.fin [0, 1, 4, 6, 8, 9, 10] [6] [] [] (e2 := [(0, .int .i64 v12), (1, .ptr (l33 none c2)), (4, .bool v13), (6, .ptr (.agg [.int .i64 x2.f_From, .int .i64 x2.f_To])), (8, l33 none c2), (9, .int .i64 (c2.length : Int)), (10, .int .i64 (k2 : Int))]) (by kernel_rfl) (fun _ h => h) ?_
        refine W.seq ?_
        refine W.join (σ := (Bool)) (fun s => [(0, .int .i64 v12), (1, .ptr (l33 none c2)), (4, .bool v13), (6, .ptr (.agg [.int .i64 x2.f_From, .int .i64 x2.f_To])), (8, l33 none c2), (9, .int .i64 (c2.length : Int)), (10, .int .i64 (k2 : Int)), (25, .bool s)]) (fun s => (dp_closure_1_j16 x2 v12 v13 (dp_closure_1_j14 (dp_closure_1_l2 (dp_closure_1_l1 c2 (dp_closure_1_j4) m1) r2 (k2 + 1)))) s = some r) (fun s h => ?_) (fun hK16 => ?_)
        · obtain ⟨v17, rfl⟩ : ∃ x, x = s := ⟨s, rfl⟩
          have h : (dp_closure_1_j16 x2 v12 v13 (dp_closure_1_j14 (dp_closure_1_l2 (dp_closure_1_l1 c2 (dp_closure_1_j4) m1) r2 (k2 + 1)))) v17 = some r := h
          unfold dp_closure_1_j16 at h
          refine W.condB v17 (by kernel_rfl) (fun hb => ?_) (fun hb => ?_)
          · replace h := cond_t hb h
            refine W.seq ?_
            refine W.regT [0, 1, 8, 9, 10] [] [] [] (e2 := [(0, .int .i64 (iOr .i64 v12 x2.f_To)), (1, .ptr (l33 none c2)), (8, l33 none c2), (9, .int .i64 (c2.length : Int)), (10, .int .i64 (k2 : Int))]) (by kernel_rfl) (by kernel_rfl) (fun _ h => h) ?_
            refine W.regT [0, 1, 4, 8, 9, 10] [] [] [] (e2 := [(0, .int .i64 (iOr .i64 v12 x2.f_To)), (1, .ptr (l33 none c2)), (4, .bool true), (8, l33 none c2), (9, .int .i64 (c2.length : Int)), (10, .int .i64 (k2 : Int))]) (by kernel_rfl) (by kernel_rfl) (fun _ h => h) ?_
            exact hK14 ((iOr .i64 v12 x2.f_To), true) h
          replace h := cond_f hb h
          refine W.skip ?_
          refine W.weak [0, 1, 4, 8, 9, 10] [] [] [] (env' := [(0, .int .i64 v12), (1, .ptr (l33 none c2)), (4, .bool v13), (8, l33 none c2), (9, .int .i64 (c2.length : Int)), (10, .int .i64 (k2 : Int))]) (by kernel_rfl) ?_
          exact hK14 (v12, v13) h
        refine W.region (by kernel_rfl) ?_
        refine WO.boolK 6 (fun b => [(0, .int .i64 v12), (1, .ptr (l33 none c2)), (4, .bool v13), (6, .ptr (.agg [.int .i64 x2.f_From, .int .i64 x2.f_To])), (8, l33 none c2), (9, .int .i64 (c2.length : Int)), (10, .int .i64 (k2 : Int)), (14, .ptr (.int .i64 x2.f_From)), (15, .int .i64 x2.f_From), (16, .int .i64 v12), (17, .int .i64 (iAndNot .i64 x2.f_From v12)), (18, .bool b), (19, .bool b)]) ((iAndNot .i64 x2.f_From v12) == 0) (by kernel_rfl) (fun hb => ?_) (fun hb => ?_)
        · replace h := cond_t hb h
          refine WO.fin [0, 1, 4, 6, 8, 9, 10, 25] [] [] [] (e2 := [(0, .int .i64 v12), (1, .ptr (l33 none c2)), (4, .bool v13), (6, .ptr (.agg [.int .i64 x2.f_From, .int .i64 x2.f_To])), (8, l33 none c2), (9, .int .i64 (c2.length : Int)), (10, .int .i64 (k2 : Int)), (25, .bool ((iAndNot .i64 x2.f_To v12) != 0))]) (by kernel_rfl) (fun _ h => h) ?_
          exact hK16 ((iAndNot .i64 x2.f_To v12) != 0) h
        replace h := cond_f hb h
        refine WO.fin [0, 1, 4, 6, 8, 9, 10, 25] [] [] [] (e2 := [(0, .int .i64 v12), (1, .ptr (l33 none c2)), (4, .bool v13), (6, .ptr (.agg [.int .i64 x2.f_From, .int .i64 x2.f_To])), (8, l33 none c2), (9, .int .i64 (c2.length : Int)), (10, .int .i64 (k2 : Int)), (25, .bool false)]) (by kernel_rfl) (fun _ h => h) ?_
        exact hK16 false h
    replace h := cond_f hb h
    refine W.exit ?_
    refine W.weak [0] [] [] [] (env' := [(0, .int .i64 v6)]) (by kernel_rfl) ?_
    exact hK4 v6 h
def dp_Closure_j6 (fuel : Nat) (a2 : (List dpDep)) (a3 : Int) (v9 : Bool) : Option (Int × Int) :=
  (bif v9 then (some (0, 2)) else ((dp_closure a2).bind fun w12 => ((dp_closure_1 fuel a3 w12).bind fun w13 => (some (w13, 0)))))
def dp_Closure (fuel : Nat) (a1 : Int) (a2 : (List dpDep)) (a3 : Int) : Option (Int × Int) :=
  ((dp_valid a1 a2).bind fun w7 => (bif (!w7) then ((dp_Closure_j6 fuel a2 a3) true) else ((dp_sets a1 [a3]).bind fun w8 => ((dp_Closure_j6 fuel a2 a3) (!w8)))))
theorem run_dp_Closure (fuel : Nat) (a1 : Int) (a2 : (List dpDep)) (a3 : Int) (r : (Int × Int)) (h : dp_Closure fuel a1 a2 a3 = some r) : Run Try.prog (.call 19 [.int .i64 a1, l33 none a2, .int .i64 a3] (.tup [.int .i64 r.1, .int .i64 r.2])) := by
  refine call_of_W Try.func19 rfl (by kernel_rfl) (env0 := [(0, .int .i64 a1), (1, l33 none a2), (2, .int .i64 a3)]) (by kernel_rfl) ?_
  unfold dp_Closure at h
  refine W.seq ?_
  refine W.regT [0, 1, 2] [] [] [] (e2 := [(0, .int .i64 a1), (1, l33 none a2), (2, .int .i64 a3)]) (by kernel_rfl) (by kernel_rfl) (fun _ h => h) ?_
  refine W.seq ?_
  refine W.seq ?_
  refine W.join (σ := (Bool)) (fun s => [(1, l33 none a2), (2, .int .i64 a3), (18, .bool s)]) (fun s => (dp_Closure_j6 fuel a2 a3) s = some r) (fun s h => ?_) (fun hK6 => ?_)
  · obtain ⟨v9, rfl⟩ : ∃ x, x = s := ⟨s, rfl⟩
    have h : (dp_Closure_j6 fuel a2 a3) v9 = some r := h
    unfold dp_Closure_j6 at h
    refine W.condB v9 (by kernel_rfl) (fun hb => ?_) (fun hb => ?_)
    · replace h := cond_t hb h
      refine W.seq ?_
      refine W.regT [6, 7] [] [] [] (e2 := [(6, .int .i64 0), (7, .int .i64 2)]) (by kernel_rfl) (by kernel_rfl) (fun _ h => h) ?_
      refine W.weak [6, 7] [] [] [] (env' := [(6, .int .i64 0), (7, .int .i64 2)]) (by kernel_rfl) ?_
      have hr : aresults Try.prog Try.f19 [(6, .int .i64 0), (7, .int .i64 2)] = some (.tup [.int .i64 0, .int .i64 2]) := by kernel_rfl
      cases h
      exact W.ret hr
    replace h := cond_f hb h
    refine W.skip ?_
    refine W.weak [1, 2] [] [] [] (env' := [(1, l33 none a2), (2, .int .i64 a3)]) (by kernel_rfl) ?_
    refine W.seq ?_
    refine W.region (by kernel_rfl) ?_
    obtain ⟨w12, hw12, h⟩ := bind_some h
    refine WO.callK 1 (F := 59) (l := [l33 none a2]) (C := []) (r := .clo 77 [.ptr (l33 none w12)]) (by kernel_rfl) (by kernel_rfl) (run_dp_closure a2 w12 hw12) (e1 := [(1, l33 none a2), (2, .int .i64 a3), (19, l33 none a2), (20, .clo 77 [.ptr (l33 none w12)])]) (by kernel_rfl) ?_
    obtain ⟨w13, hw13, h⟩ := bind_some h
    refine WO.callK 1 (F := 77) (l := [.int .i64 a3]) (C := [.ptr (l33 none w12)]) (r := .int .i64 w13) (by kernel_rfl) (by kernel_rfl) (run_dp_closure_1 fuel a3 w12 w13 hw13) (e1 := [(1, l33 none a2), (2, .int .i64 a3), (19, l33 none a2), (20, .clo 77 [.ptr (l33 none w12)]), (21, .int .i64 a3), (22, .int .i64 w13)]) (by kernel_rfl) ?_
    refine WO.fin [6, 7] [] [] [] (e2 := [(6, .int .i64 w13), (7, .int .i64 0)]) (by kernel_rfl) (fun _ h => h) ?_
    refine W.weak [6, 7] [] [] [] (env' := [(6, .int .i64 w13), (7, .int .i64 0)]) (by kernel_rfl) ?_
    have hr : aresults Try.prog Try.f19 [(6, .int .i64 w13), (7, .int .i64 0)] = some (.tup [.int .i64 w13, .int .i64 0]) := by kernel_rfl
    cases h
    exact W.ret hr
  refine W.region (by kernel_rfl) ?_
  obtain ⟨w7, hw7, h⟩ := bind_some h
  refine WO.callK 2 (F := 57) (l := [.int .i64 a1, l33 none a2]) (C := []) (r := .bool w7) (by kernel_rfl) (by kernel_rfl) (run_dp_valid a1 a2 w7 hw7) (e1 := [(0, .int .i64 a1), (1, l33 none a2), (2, .int .i64 a3), (8, .int .i64 a1), (9, l33 none a2), (10, .bool w7)]) (by kernel_rfl) ?_
  refine WO.boolK 2 (fun b => [(0, .int .i64 a1), (1, l33 none a2), (2, .int .i64 a3), (8, .int .i64 a1), (9, l33 none a2), (10, .bool w7), (11, .bool b), (12, .bool b)]) (!w7) (by kernel_rfl) (fun hb => ?_) (fun hb => ?_)
  · replace h := cond_t hb h
    refine WO.fin [1, 2, 18] [] [] [] (e2 := [(1, l33 none a2), (2, .int .i64 a3), (18, .bool true)]) (by kernel_rfl) (fun _ h => h) ?_
    exact hK6 true h
  replace h := cond_f hb h
  obtain ⟨w8, hw8, h⟩ := bind_some h
  refine WO.callK 3 (F := 58) (l := [.int .i64 a1, l3 none [a3]]) (C := []) (r := .bool w8) (by kernel_rfl) (by kernel_rfl) (run_dp_sets a1 [a3] w8 hw8) (e1 := [(0, .int .i64 a1), (1, l33 none a2), (2, .int .i64 a3), (8, .int .i64 a1), (9, l33 none a2), (10, .bool w7), (11, .bool false), (12, .bool false), (13, .int .i64 a1), (14, .int .i64 a3), (15, l3 (some 15) [a3]), (16, .bool w8)]) (by kernel_rfl) ?_
  refine WO.fin [1, 2, 18] [] [] [] (e2 := [(1, l33 none a2), (2, .int .i64 a3), (18, .bool (!w8))]) (by kernel_rfl) (fun _ h => h) ?_
  exact hK6 (!w8) h
def lw1_awake_j4 (v5 : Bool) : Option Bool :=
  (some v5)
def lw1_awake (fuel : Nat) : Option Bool :=
  ((dp_Closure fuel 3 [(dpDep.mk 1 2), (dpDep.mk 2 4)] 1).bind fun w3 => (bif (w3.1 == 7) then ((lw1_awake_j4) (w3.2 == 0)) else ((lw1_awake_j4) false)))
theorem run_lw1_awake (fuel : Nat)  (r : Bool) (h : lw1_awake fuel = some r) : Run Try.prog (.call 21 [] (.bool r)) := by
  refine call_of_W Try.func21 rfl (by kernel_rfl) (env0 := []) (by kernel_rfl) ?_
  unfold lw1_awake at h
  refine W.seq ?_
  refine W.regT [] [] [] [] (e2 := []) (by kernel_rfl) (by kernel_rfl) (fun _ h => h) ?_
  refine W.seq ?_
  refine W.region (by kernel_rfl) ?_
  obtain ⟨w3, hw3, h⟩ := bind_some h
  refine WO.callK 3 (F := 19) (l := [.int .i64 3, l33 none [(dpDep.mk 1 2), (dpDep.mk 2 4)], .int .i64 1]) (C := []) (r := .tup [.int .i64 w3.1, .int .i64 w3.2]) (by kernel_rfl) (by kernel_rfl) (run_dp_Closure fuel 3 [(dpDep.mk 1 2), (dpDep.mk 2 4)] 1 w3 hw3) (e1 := [(4, .agg [.int .i64 1, .int .i64 2]), (5, .agg [.int .i64 2, .int .i64 4]), (6, l33 (some 6) [(dpDep.mk 1 2), (dpDep.mk 2 4)]), (7, .tup [.int .i64 w3.1, .int .i64 w3.2])]) (by kernel_rfl) ?_
  refine WO.fin [1, 2] [] [] [] (e2 := [(1, .int .i64 w3.1), (2, .int .i64 w3.2)]) (by kernel_rfl) (fun _ h => h) ?_
  refine W.seq ?_
  refine W.join (σ := (Bool)) (fun s => [(0, .bool s)]) (fun s => (lw1_awake_j4) s = some r) (fun s h => ?_) (fun hK4 => ?_)
  · obtain ⟨v5, rfl⟩ : ∃ x, x = s := ⟨s, rfl⟩
    have h : (lw1_awake_j4) v5 = some r := h
    unfold lw1_awake_j4 at h
    refine W.weak [0] [] [] [] (env' := [(0, .bool v5)]) (by kernel_rfl) ?_
    have hr : aresults Try.prog Try.f21 [(0, .bool v5)] = some (.bool v5) := by kernel_rfl
    cases h
    exact W.ret hr
  refine W.region (by kernel_rfl) ?_
  refine WO.boolK 3 (fun b => [(1, .int .i64 w3.1), (2, .int .i64 w3.2), (10, .int .i64 w3.1), (11, .bool b), (12, .bool b)]) (w3.1 == 7) (by kernel_rfl) (fun hb => ?_) (fun hb => ?_)
  · replace h := cond_t hb h
    refine WO.fin [0] [] [] [] (e2 := [(0, .bool (w3.2 == 0))]) (by kernel_rfl) (fun _ h => h) ?_
    exact hK4 (w3.2 == 0) h
  replace h := cond_f hb h
  refine WO.fin [0] [] [] [] (e2 := [(0, .bool false)]) (by kernel_rfl) (fun _ h => h) ?_
  exact hK4 false h
def lw1_DependClosed_j15 (v18 : Bool) : Option Bool :=
  (some v18)
def lw1_DependClosed_j25 (v27 : Bool) : Option Bool :=
  (some v27)
def lw1_DependClosed_j13 (fuel : Nat) (a1 : Int) (a2 : (List rf1Dep)) (a3 : Int) (a4 : Int) (w8 : (Int × Int)) (w11 : (Int × Int)) (v14 : Bool) : Option Bool :=
  (bif v14 then (bif (w8.2 == 2) then ((lw1_awake fuel).bind fun w16 => ((lw1_DependClosed_j15) w16)) else (bif (w11.2 == 2) then ((lw1_awake fuel).bind fun w17 => ((lw1_DependClosed_j15) w17)) else ((lw1_DependClosed_j15) false))) else ((lw1_deps a2).bind fun w20 => ((dp_Closure fuel a1 w20 w8.1).bind fun w21 => ((lw1_deps a2).bind fun w23 => ((dp_Closure fuel a1 w23 (iOr .i64 a3 a4)).bind fun w24 => (bif (w21.2 == 0) then (bif (w24.2 == 0) then (bif ((iAndNot .i64 a3 w8.1) == 0) then (bif (w21.1 == w8.1) then (bif ((iAndNot .i64 (iOr .i64 w8.1 w11.1) w24.1) == 0) then ((lw1_awake fuel).bind fun w26 => ((lw1_DependClosed_j25) w26)) else ((lw1_DependClosed_j25) false)) else ((lw1_DependClosed_j25) false)) else ((lw1_DependClosed_j25) false)) else ((lw1_DependClosed_j25) false)) else ((lw1_DependClosed_j25) false)))))))
def lw1_DependClosed (fuel : Nat) (a1 : Int) (a2 : (List rf1Dep)) (a3 : Int) (a4 : Int) : Option Bool :=
  ((lw1_deps a2).bind fun w7 => ((dp_Closure fuel a1 w7 a3).bind fun w8 => ((lw1_deps a2).bind fun w10 => ((dp_Closure fuel a1 w10 a4).bind fun w11 => (bif (w8.2 != 0) then ((lw1_DependClosed_j13 fuel a1 a2 a3 a4 w8 w11) true) else ((lw1_DependClosed_j13 fuel a1 a2 a3 a4 w8 w11) (w11.2 != 0)))))))
theorem run_lw1_DependClosed (fuel : Nat) (a1 : Int) (a2 : (List rf1Dep)) (a3 : Int) (a4 : Int) (r : Bool) (h : lw1_DependClosed fuel a1 a2 a3 a4 = some r) : Run Try.prog (.call 3 [.int .i64 a1, l40 none a2, .int .i64 a3, .int .i64 a4] (.bool r)) := by
  refine call_of_W Try.func3 rfl (by kernel_rfl) (env0 := [(0, .int .i64 a1), (1, l40 none a2), (2, .int .i64 a3), (3, .int .i64 a4)]) (by kernel_rfl) ?_
  unfold lw1_DependClosed at h
  refine W.seq ?_
  refine W.regT [0, 1, 2, 3] [] [] [] (e2 := [(0, .int .i64 a1), (1, l40 none a2), (2, .int .i64 a3), (3, .int .i64 a4)]) (by kernel_rfl) (by kernel_rfl) (fun _ h => h) ?_
  refine W.seq ?_
  refine W.region (by kernel_rfl) ?_
  obtain ⟨w7, hw7, h⟩ := bind_some h
  refine WO.callK 2 (F := 20) (l := [l40 none a2]) (C := []) (r := l33 (some 1) w7) (by kernel_rfl) (by kernel_rfl) (run_lw1_deps a2 w7 hw7) (e1 := [(0, .int .i64 a1), (1, l40 none a2), (2, .int .i64 a3), (3, .int .i64 a4), (16, .int .i64 a1), (17, l40 none a2), (18, l33 (some 18) w7)]) (by kernel_rfl) ?_
  obtain ⟨w8, hw8, h⟩ := bind_some h
  refine WO.callK 1 (F := 19) (l := [.int .i64 a1, l33 none w7, .int .i64 a3]) (C := []) (r := .tup [.int .i64 w8.1, .int .i64 w8.2]) (by kernel_rfl) (by kernel_rfl) (run_dp_Closure fuel a1 w7 a3 w8 hw8) (e1 := [(0, .int .i64 a1), (1, l40 none a2), (2, .int .i64 a3), (3, .int .i64 a4), (16, .int .i64 a1), (17, l40 none a2), (18, l33 (some 18) w7), (19, .int .i64 a3), (20, .tup [.int .i64 w8.1, .int .i64 w8.2])]) (by kernel_rfl) ?_
  refine WO.fin [0, 1, 2, 3, 9, 10] [] [] [] (e2 := [(0, .int .i64 a1), (1, l40 none a2), (2, .int .i64 a3), (3, .int .i64 a4), (9, .int .i64 w8.1), (10, .int .i64 w8.2)]) (by kernel_rfl) (fun _ h => h) ?_
  refine W.seq ?_
  refine W.region (by kernel_rfl) ?_
  obtain ⟨w10, hw10, h⟩ := bind_some h
  refine WO.callK 2 (F := 20) (l := [l40 none a2]) (C := []) (r := l33 (some 1) w10) (by kernel_rfl) (by kernel_rfl) (run_lw1_deps a2 w10 hw10) (e1 := [(0, .int .i64 a1), (1, l40 none a2), (2, .int .i64 a3), (3, .int .i64 a4), (9, .int .i64 w8.1), (10, .int .i64 w8.2), (24, .int .i64 a1), (25, l40 none a2), (26, l33 (some 26) w10)]) (by kernel_rfl) ?_
  obtain ⟨w11, hw11, h⟩ := bind_some h
  refine WO.callK 1 (F := 19) (l := [.int .i64 a1, l33 none w10, .int .i64 a4]) (C := []) (r := .tup [.int .i64 w11.1, .int .i64 w11.2]) (by kernel_rfl) (by kernel_rfl) (run_dp_Closure fuel a1 w10 a4 w11 hw11) (e1 := [(0, .int .i64 a1), (1, l40 none a2), (2, .int .i64 a3), (3, .int .i64 a4), (9, .int .i64 w8.1), (10, .int .i64 w8.2), (24, .int .i64 a1), (25, l40 none a2), (26, l33 (some 26) w10), (27, .int .i64 a4), (28, .tup [.int .i64 w11.1, .int .i64 w11.2])]) (by kernel_rfl) ?_
  refine WO.fin [0, 1, 2, 3, 9, 10, 11, 12] [] [] [] (e2 := [(0, .int .i64 a1), (1, l40 none a2), (2, .int .i64 a3), (3, .int .i64 a4), (9, .int .i64 w8.1), (10, .int .i64 w8.2), (11, .int .i64 w11.1), (12, .int .i64 w11.2)]) (by kernel_rfl) (fun _ h => h) ?_
  refine W.seq ?_
  refine W.seq ?_
  refine W.join (σ := (Bool)) (fun s => [(0, .int .i64 a1), (1, l40 none a2), (2, .int .i64 a3), (3, .int .i64 a4), (9, .int .i64 w8.1), (10, .int .i64 w8.2), (11, .int .i64 w11.1), (12, .int .i64 w11.2), (36, .bool s)]) (fun s => (lw1_DependClosed_j13 fuel a1 a2 a3 a4 w8 w11) s = some r) (fun s h => ?_) (fun hK13 => ?_)
  · obtain ⟨v14, rfl⟩ : ∃ x, x = s := ⟨s, rfl⟩
    have h : (lw1_DependClosed_j13 fuel a1 a2 a3 a4 w8 w11) v14 = some r := h
    unfold lw1_DependClosed_j13 at h
    refine W.condB v14 (by kernel_rfl) (fun hb => ?_) (fun hb => ?_)
    · replace h := cond_t hb h
      refine W.seq ?_
      refine W.join (σ := (Bool)) (fun s => [(8, .bool s)]) (fun s => (lw1_DependClosed_j15) s = some r) (fun s h => ?_) (fun hK15 => ?_)
      · obtain ⟨v18, rfl⟩ : ∃ x, x = s := ⟨s, rfl⟩
        have h : (lw1_DependClosed_j15) v18 = some r := h
        unfold lw1_DependClosed_j15 at h
        refine W.weak [8] [] [] [] (env' := [(8, .bool v18)]) (by kernel_rfl) ?_
        have hr : aresults Try.prog Try.f3 [(8, .bool v18)] = some (.bool v18) := by kernel_rfl
        cases h
        exact W.ret hr
      refine W.region (by kernel_rfl) ?_
      refine WO.boolK 3 (fun b => [(0, .int .i64 a1), (1, l40 none a2), (2, .int .i64 a3), (3, .int .i64 a4), (9, .int .i64 w8.1), (10, .int .i64 w8.2), (11, .int .i64 w11.1), (12, .int .i64 w11.2), (36, .bool v14), (37, .int .i64 w8.2), (38, .bool b), (39, .bool b)]) (w8.2 == 2) (by kernel_rfl) (fun hb => ?_) (fun hb => ?_)
      · replace h := cond_t hb h
        obtain ⟨w16, hw16, h⟩ := bind_some h
        refine WO.callK 4 (F := 21) (l := []) (C := []) (r := .bool w16) (by kernel_rfl) (by kernel_rfl) (run_lw1_awake fuel w16 hw16) (e1 := [(0, .int .i64 a1), (1, l40 none a2), (2, .int .i64 a3), (3, .int .i64 a4), (9, .int .i64 w8.1), (10, .int .i64 w8.2), (11, .int .i64 w11.1), (12, .int .i64 w11.2), (36, .bool v14), (37, .int .i64 w8.2), (38, .bool true), (39, .bool true), (40, .und), (41, .und), (42, .bool true), (43, .bool true), (44, .bool w16)]) (by kernel_rfl) ?_
        refine WO.fin [8] [] [] [] (e2 := [(8, .bool w16)]) (by kernel_rfl) (fun _ h => h) ?_
        exact hK15 w16 h
      replace h := cond_f hb h
      refine WO.boolK 4 (fun b => [(0, .int .i64 a1), (1, l40 none a2), (2, .int .i64 a3), (3, .int .i64 a4), (9, .int .i64 w8.1), (10, .int .i64 w8.2), (11, .int .i64 w11.1), (12, .int .i64 w11.2), (36, .bool v14), (37, .int .i64 w8.2), (38, .bool false), (39, .bool false), (40, .int .i64 w11.2), (41, .bool b), (42, .bool b), (43, .bool b)]) (w11.2 == 2) (by kernel_rfl) (fun hb => ?_) (fun hb => ?_)
      · replace h := cond_t hb h
        obtain ⟨w17, hw17, h⟩ := bind_some h
        refine WO.callK 0 (F := 21) (l := []) (C := []) (r := .bool w17) (by kernel_rfl) (by kernel_rfl) (run_lw1_awake fuel w17 hw17) (e1 := [(0, .int .i64 a1), (1, l40 none a2), (2, .int .i64 a3), (3, .int .i64 a4), (9, .int .i64 w8.1), (10, .int .i64 w8.2), (11, .int .i64 w11.1), (12, .int .i64 w11.2), (36, .bool v14), (37, .int .i64 w8.2), (38, .bool false), (39, .bool false), (40, .int .i64 w11.2), (41, .bool true), (42, .bool true), (43, .bool true), (44, .bool w17)]) (by kernel_rfl) ?_
        refine WO.fin [8] [] [] [] (e2 := [(8, .bool w17)]) (by kernel_rfl) (fun _ h => h) ?_
        exact hK15 w17 h
      replace h := cond_f hb h
      refine WO.fin [8] [] [] [] (e2 := [(8, .bool false)]) (by kernel_rfl) (fun _ h => h) ?_
      exact hK15 false h
    replace h := cond_f hb h
    refine W.skip ?_
    refine W.weak [0, 1, 2, 3, 9, 11] [] [] [] (env' := [(0, .int .i64 a1), (1, l40 none a2), (2, .int .i64 a3), (3, .int .i64 a4), (9, .int .i64 w8.1), (11, .int .i64 w11.1)]) (by kernel_rfl) ?_
    refine W.seq ?_
    refine W.region (by kernel_rfl) ?_
    obtain ⟨w20, hw20, h⟩ := bind_some h
    refine WO.callK 2 (F := 20) (l := [l40 none a2]) (C := []) (r := l33 (some 1) w20) (by kernel_rfl) (by kernel_rfl) (run_lw1_deps a2 w20 hw20) (e1 := [(0, .int .i64 a1), (1, l40 none a2), (2, .int .i64 a3), (3, .int .i64 a4), (9, .int .i64 w8.1), (11, .int .i64 w11.1), (47, .int .i64 a1), (48, l40 none a2), (49, l33 (some 49) w20)]) (by kernel_rfl) ?_
    obtain ⟨w21, hw21, h⟩ := bind_some h
    refine WO.callK 1 (F := 19) (l := [.int .i64 a1, l33 none w20, .int .i64 w8.1]) (C := []) (r := .tup [.int .i64 w21.1, .int .i64 w21.2]) (by kernel_rfl) (by kernel_rfl) (run_dp_Closure fuel a1 w20 w8.1 w21 hw21) (e1 := [(0, .int .i64 a1), (1, l40 none a2), (2, .int .i64 a3), (3, .int .i64 a4), (9, .int .i64 w8.1), (11, .int .i64 w11.1), (47, .int .i64 a1), (48, l40 none a2), (49, l33 (some 49) w20), (50, .int .i64 w8.1), (51, .tup [.int .i64 w21.1, .int .i64 w21.2])]) (by kernel_rfl) ?_
    refine WO.fin [0, 1, 2, 3, 9, 10, 11, 13] [] [] [] (e2 := [(0, .int .i64 a1), (1, l40 none a2), (2, .int .i64 a3), (3, .int .i64 a4), (9, .int .i64 w8.1), (10, .int .i64 w21.2), (11, .int .i64 w11.1), (13, .int .i64 w21.1)]) (by kernel_rfl) (fun _ h => h) ?_
    refine W.seq ?_
    refine W.region (by kernel_rfl) ?_
    obtain ⟨w23, hw23, h⟩ := bind_some h
    refine WO.callK 2 (F := 20) (l := [l40 none a2]) (C := []) (r := l33 (some 1) w23) (by kernel_rfl) (by kernel_rfl) (run_lw1_deps a2 w23 hw23) (e1 := [(0, .int .i64 a1), (1, l40 none a2), (2, .int .i64 a3), (3, .int .i64 a4), (9, .int .i64 w8.1), (10, .int .i64 w21.2), (11, .int .i64 w11.1), (13, .int .i64 w21.1), (55, .int .i64 a1), (56, l40 none a2), (57, l33 (some 57) w23)]) (by kernel_rfl) ?_
    obtain ⟨w24, hw24, h⟩ := bind_some h
    refine WO.callK 3 (F := 19) (l := [.int .i64 a1, l33 none w23, .int .i64 (iOr .i64 a3 a4)]) (C := []) (r := .tup [.int .i64 w24.1, .int .i64 w24.2]) (by kernel_rfl) (by kernel_rfl) (run_dp_Closure fuel a1 w23 (iOr .i64 a3 a4) w24 hw24) (e1 := [(0, .int .i64 a1), (1, l40 none a2), (2, .int .i64 a3), (3, .int .i64 a4), (9, .int .i64 w8.1), (10, .int .i64 w21.2), (11, .int .i64 w11.1), (13, .int .i64 w21.1), (55, .int .i64 a1), (56, l40 none a2), (57, l33 (some 57) w23), (58, .int .i64 a3), (59, .int .i64 a4), (60, .int .i64 (iOr .i64 a3 a4)), (61, .tup [.int .i64 w24.1, .int .i64 w24.2])]) (by kernel_rfl) ?_
    refine WO.fin [2, 9, 10, 11, 12, 13, 14] [] [] [] (e2 := [(2, .int .i64 a3), (9, .int .i64 w8.1), (10, .int .i64 w21.2), (11, .int .i64 w11.1), (12, .int .i64 w24.2), (13, .int .i64 w21.1), (14, .int .i64 w24.1)]) (by kernel_rfl) (fun _ h => h) ?_
    refine W.seq ?_
    refine W.join (σ := (Bool)) (fun s => [(8, .bool s)]) (fun s => (lw1_DependClosed_j25) s = some r) (fun s h => ?_) (fun hK25 => ?_)
    · obtain ⟨v27, rfl⟩ : ∃ x, x = s := ⟨s, rfl⟩
      have h : (lw1_DependClosed_j25) v27 = some r := h
      unfold lw1_DependClosed_j25 at h
      refine W.weak [8] [] [] [] (env' := [(8, .bool v27)]) (by kernel_rfl) ?_
      have hr : aresults Try.prog Try.f3 [(8, .bool v27)] = some (.bool v27) := by kernel_rfl
      cases h
      exact W.ret hr
    refine W.region (by kernel_rfl) ?_
    refine WO.boolK 3 (fun b => [(2, .int .i64 a3), (9, .int .i64 w8.1), (10, .int .i64 w21.2), (11, .int .i64 w11.1), (12, .int .i64 w24.2), (13, .int .i64 w21.1), (14, .int .i64 w24.1), (64, .int .i64 w21.2), (65, .bool b), (66, .bool b)]) (w21.2 == 0) (by kernel_rfl) (fun hb => ?_) (fun hb => ?_)
    · replace h := cond_t hb h
      refine WO.boolK 4 (fun b => [(2, .int .i64 a3), (9, .int .i64 w8.1), (10, .int .i64 w21.2), (11, .int .i64 w11.1), (12, .int .i64 w24.2), (13, .int .i64 w21.1), (14, .int .i64 w24.1), (64, .int .i64 w21.2), (65, .bool true), (66, .bool true), (67, .int .i64 w24.2), (68, .bool b), (69, .bool b), (70, .bool b)]) (w24.2 == 0) (by kernel_rfl) (fun hb => ?_) (fun hb => ?_)
      · replace h := cond_t hb h
        refine WO.boolK 6 (fun b => [(2, .int .i64 a3), (9, .int .i64 w8.1), (10, .int .i64 w21.2), (11, .int .i64 w11.1), (12, .int .i64 w24.2), (13, .int .i64 w21.1), (14, .int .i64 w24.1), (64, .int .i64 w21.2), (65, .bool true), (66, .bool true), (67, .int .i64 w24.2), (68, .bool true), (69, .bool true), (70, .bool true), (71, .int .i64 a3), (72, .int .i64 w8.1), (73, .int .i64 (iAndNot .i64 a3 w8.1)), (74, .bool b), (75, .bool b), (76, .bool b)]) ((iAndNot .i64 a3 w8.1) == 0) (by kernel_rfl) (fun hb => ?_) (fun hb => ?_)
        · replace h := cond_t hb h
          refine WO.boolK 5 (fun b => [(2, .int .i64 a3), (9, .int .i64 w8.1), (10, .int .i64 w21.2), (11, .int .i64 w11.1), (12, .int .i64 w24.2), (13, .int .i64 w21.1), (14, .int .i64 w24.1), (64, .int .i64 w21.2), (65, .bool true), (66, .bool true), (67, .int .i64 w24.2), (68, .bool true), (69, .bool true), (70, .bool true), (71, .int .i64 a3), (72, .int .i64 w8.1), (73, .int .i64 (iAndNot .i64 a3 w8.1)), (74, .bool true), (75, .bool true), (76, .bool true), (77, .int .i64 w21.1), (78, .int .i64 w8.1), (79, .bool b), (80, .bool b), (81, .bool b)]) (w21.1 == w8.1) (by kernel_rfl) (fun hb => ?_) (fun hb => ?_)
          · replace h := cond_t hb h
            refine WO.boolK 8 (fun b => [(2, .int .i64 a3), (9, .int .i64 w8.1), (10, .int .i64 w21.2), (11, .int .i64 w11.1), (12, .int .i64 w24.2), (13, .int .i64 w21.1), (14, .int .i64 w24.1), (64, .int .i64 w21.2), (65, .bool true), (66, .bool true), (67, .int .i64 w24.2), (68, .bool true), (69, .bool true), (70, .bool true), (71, .int .i64 a3), (72, .int .i64 w8.1), (73, .int .i64 (iAndNot .i64 a3 w8.1)), (74, .bool true), (75, .bool true), (76, .bool true), (77, .int .i64 w21.1), (78, .int .i64 w8.1), (79, .bool true), (80, .bool true), (81, .bool true), (82, .int .i64 w8.1), (83, .int .i64 w11.1), (84, .int .i64 (iOr .i64 w8.1 w11.1)), (85, .int .i64 w24.1), (86, .int .i64 (iAndNot .i64 (iOr .i64 w8.1 w11.1) w24.1)), (87, .bool b), (88, .bool b), (89, .bool b)]) ((iAndNot .i64 (iOr .i64 w8.1 w11.1) w24.1) == 0) (by kernel_rfl) (fun hb => ?_) (fun hb => ?_)
            · replace h := cond_t hb h
              obtain ⟨w26, hw26, h⟩ := bind_some h
              refine WO.callK 0 (F := 21) (l := []) (C := []) (r := .bool w26) (by kernel_rfl) (by kernel_rfl) (run_lw1_awake fuel w26 hw26) (e1 := [(2, .int .i64 a3), (9, .int .i64 w8.1), (10, .int .i64 w21.2), (11, .int .i64 w11.1), (12, .int .i64 w24.2), (13, .int .i64 w21.1), (14, .int .i64 w24.1), (64, .int .i64 w21.2), (65, .bool true), (66, .bool true), (67, .int .i64 w24.2), (68, .bool true), (69, .bool true), (70, .bool true), (71, .int .i64 a3), (72, .int .i64 w8.1), (73, .int .i64 (iAndNot .i64 a3 w8.1)), (74, .bool true), (75, .bool true), (76, .bool true), (77, .int .i64 w21.1), (78, .int .i64 w8.1), (79, .bool true), (80, .bool true), (81, .bool true), (82, .int .i64 w8.1), (83, .int .i64 w11.1), (84, .int .i64 (iOr .i64 w8.1 w11.1)), (85, .int .i64 w24.1), (86, .int .i64 (iAndNot .i64 (iOr .i64 w8.1 w11.1) w24.1)), (87, .bool true), (88, .bool true), (89, .bool true), (90, .bool w26)]) (by kernel_rfl) ?_
              refine WO.fin [8] [] [] [] (e2 := [(8, .bool w26)]) (by kernel_rfl) (fun _ h => h) ?_
              exact hK25 w26 h
            replace h := cond_f hb h
            refine WO.fin [8] [] [] [] (e2 := [(8, .bool false)]) (by kernel_rfl) (fun _ h => h) ?_
            exact hK25 false h
          replace h := cond_f hb h
          refine WO.fin [8] [] [] [] (e2 := [(8, .bool false)]) (by kernel_rfl) (fun _ h => h) ?_
          exact hK25 false h
        replace h := cond_f hb h
        refine WO.fin [8] [] [] [] (e2 := [(8, .bool false)]) (by kernel_rfl) (fun _ h => h) ?_
        exact hK25 false h
      replace h := cond_f hb h
      refine WO.fin [8] [] [] [] (e2 := [(8, .bool false)]) (by kernel_rfl) (fun _ h => h) ?_
      exact hK25 false h
    replace h := cond_f hb h
    refine WO.fin [8] [] [] [] (e2 := [(8, .bool false)]) (by kernel_rfl) (fun _ h => h) ?_
    exact hK25 false h
  refine W.region (by kernel_rfl) ?_
  refine WO.boolK 3 (fun b => [(0, .int .i64 a1), (1, l40 none a2), (2, .int .i64 a3), (3, .int .i64 a4), (9, .int .i64 w8.1), (10, .int .i64 w8.2), (11, .int .i64 w11.1), (12, .int .i64 w11.2), (31, .int .i64 w8.2), (32, .bool b), (33, .bool b)]) (w8.2 != 0) (by kernel_rfl) (fun hb => ?_) (fun hb => ?_)
  · replace h := cond_t hb h
    refine WO.fin [0, 1, 2, 3, 9, 10, 11, 12, 36] [] [] [] (e2 := [(0, .int .i64 a1), (1, l40 none a2), (2, .int .i64 a3), (3, .int .i64 a4), (9, .int .i64 w8.1), (10, .int .i64 w8.2), (11, .int .i64 w11.1), (12, .int .i64 w11.2), (36, .bool true)]) (by kernel_rfl) (fun _ h => h) ?_
    exact hK13 true h
  replace h := cond_f hb h
  refine WO.fin [0, 1, 2, 3, 9, 10, 11, 12, 36] [] [] [] (e2 := [(0, .int .i64 a1), (1, l40 none a2), (2, .int .i64 a3), (3, .int .i64 a4), (9, .int .i64 w8.1), (10, .int .i64 w8.2), (11, .int .i64 w11.1), (12, .int .i64 w11.2), (36, .bool (w11.2 != 0))]) (by kernel_rfl) (fun _ h => h) ?_
  exact hK13 (w11.2 != 0) h
def dp_Follows_j6 (fuel : Nat) (a2 : (List dpDep)) (a3 : dpDep) (v9 : Bool) : Option (Bool × Int) :=
  (bif v9 then (some (false, 2)) else ((dp_closure a2).bind fun w12 => ((dp_closure_1 fuel a3.f_From w12).bind fun w13 => (some (((iAndNot .i64 a3.f_To w13) == 0), 0)))))
def dp_Follows (fuel : Nat) (a1 : Int) (a2 : (List dpDep)) (a3 : dpDep) : Option (Bool × Int) :=
  ((dp_valid a1 a2).bind fun w7 => (bif (!w7) then ((dp_Follows_j6 fuel a2 a3) true) else ((dp_sets a1 [a3.f_From, a3.f_To]).bind fun w8 => ((dp_Follows_j6 fuel a2 a3) (!w8)))))
theorem run_dp_Follows (fuel : Nat) (a1 : Int) (a2 : (List dpDep)) (a3 : dpDep) (r : (Bool × Int)) (h : dp_Follows fuel a1 a2 a3 = some r) : Run Try.prog (.call 22 [.int .i64 a1, l33 none a2, .agg [.int .i64 a3.f_From, .int .i64 a3.f_To]] (.tup [.bool r.1, .int .i64 r.2])) := by
  refine call_of_W Try.func22 rfl (by kernel_rfl) (env0 := [(0, .int .i64 a1), (1, l33 none a2), (2, .agg [.int .i64 a3.f_From, .int .i64 a3.f_To])]) (by kernel_rfl) ?_
  unfold dp_Follows at h
  refine W.seq ?_
  refine W.regT [0, 1, 5] [5] [] [] (e2 := [(0, .int .i64 a1), (1, l33 none a2), (5, .ptr (.agg [.int .i64 a3.f_From, .int .i64 a3.f_To]))]) (by kernel_rfl) (by kernel_rfl) (fun _ h => h) ?_
  refine W.seq ?_
  refine W.seq ?_
  refine W.join (σ := (Bool)) (fun s => [(1, l33 none a2), (5, .ptr (.agg [.int .i64 a3.f_From, .int .i64 a3.f_To])), (21, .bool s)]) (fun s => (dp_Follows_j6 fuel a2 a3) s = some r) (fun s h => ?_) (fun hK6 => ?_)
  · obtain ⟨v9, rfl⟩ : ∃ x, x = s := ⟨s, rfl⟩
    have h : (dp_Follows_j6 fuel a2 a3) v9 = some r := h
    unfold dp_Follows_j6 at h
    refine W.condB v9 (by kernel_rfl) (fun hb => ?_) (fun hb => ?_)
    · replace h := cond_t hb h
      refine W.seq ?_
      refine W.regT [6, 7] [] [] [] (e2 := [(6, .bool false), (7, .int .i64 2)]) (by kernel_rfl) (by kernel_rfl) (fun _ h => h) ?_
      refine W.weak [6, 7] [] [] [] (env' := [(6, .bool false), (7, .int .i64 2)]) (by kernel_rfl) ?_
      have hr : aresults Try.prog Try.f22 [(6, .bool false), (7, .int .i64 2)] = some (.tup [.bool false, .int .i64 2]) := by kernel_rfl
      cases h
      exact W.ret hr
    replace h := cond_f hb h
    refine W.skip ?_
    refine W.weak [1, 5] [] [] [] (env' := [(1, l33 none a2), (5, .ptr (.agg [.int .i64 a3.f_From, .int .i64 a3.f_To]))]) (by kernel_rfl) ?_
    refine W.seq ?_
    refine W.region (by kernel_rfl) ?_
    obtain ⟨w12, hw12, h⟩ := bind_some h
    refine WO.callK 3 (F := 59) (l := [l33 none a2]) (C := []) (r := .clo 77 [.ptr (l33 none w12)]) (by kernel_rfl) (by kernel_rfl) (run_dp_closure a2 w12 hw12) (e1 := [(1, l33 none a2), (5, .ptr (.agg [.int .i64 a3.f_From, .int .i64 a3.f_To])), (22, .ptr (.int .i64 a3.f_To)), (23, .int .i64 a3.f_To), (24, l33 none a2), (25, .clo 77 [.ptr (l33 none w12)])]) (by kernel_rfl) ?_
    obtain ⟨w13, hw13, h⟩ := bind_some h
    refine WO.callK 2 (F := 77) (l := [.int .i64 a3.f_From]) (C := [.ptr (l33 none w12)]) (r := .int .i64 w13) (by kernel_rfl) (by kernel_rfl) (run_dp_closure_1 fuel a3.f_From w12 w13 hw13) (e1 := [(1, l33 none a2), (5, .ptr (.agg [.int .i64 a3.f_From, .int .i64 a3.f_To])), (22, .ptr (.int .i64 a3.f_To)), (23, .int .i64 a3.f_To), (24, l33 none a2), (25, .clo 77 [.ptr (l33 none w12)]), (26, .ptr (.int .i64 a3.f_From)), (27, .int .i64 a3.f_From), (28, .int .i64 w13)]) (by kernel_rfl) ?_
    refine WO.fin [6, 7] [] [] [] (e2 := [(6, .bool ((iAndNot .i64 a3.f_To w13) == 0)), (7, .int .i64 0)]) (by kernel_rfl) (fun _ h => h) ?_
    refine W.weak [6, 7] [] [] [] (env' := [(6, .bool ((iAndNot .i64 a3.f_To w13) == 0)), (7, .int .i64 0)]) (by kernel_rfl) ?_
    have hr : aresults Try.prog Try.f22 [(6, .bool ((iAndNot .i64 a3.f_To w13) == 0)), (7, .int .i64 0)] = some (.tup [.bool ((iAndNot .i64 a3.f_To w13) == 0), .int .i64 0]) := by kernel_rfl
    cases h
    exact W.ret hr
  refine W.region (by kernel_rfl) ?_
  obtain ⟨w7, hw7, h⟩ := bind_some h
  refine WO.callK 2 (F := 57) (l := [.int .i64 a1, l33 none a2]) (C := []) (r := .bool w7) (by kernel_rfl) (by kernel_rfl) (run_dp_valid a1 a2 w7 hw7) (e1 := [(0, .int .i64 a1), (1, l33 none a2), (5, .ptr (.agg [.int .i64 a3.f_From, .int .i64 a3.f_To])), (8, .int .i64 a1), (9, l33 none a2), (10, .bool w7)]) (by kernel_rfl) ?_
  refine WO.boolK 2 (fun b => [(0, .int .i64 a1), (1, l33 none a2), (5, .ptr (.agg [.int .i64 a3.f_From, .int .i64 a3.f_To])), (8, .int .i64 a1), (9, l33 none a2), (10, .bool w7), (11, .bool b), (12, .bool b)]) (!w7) (by kernel_rfl) (fun hb => ?_) (fun hb => ?_)
  · replace h := cond_t hb h
    refine WO.fin [1, 5, 21] [] [] [] (e2 := [(1, l33 none a2), (5, .ptr (.agg [.int .i64 a3.f_From, .int .i64 a3.f_To])), (21, .bool true)]) (by kernel_rfl) (fun _ h => h) ?_
    exact hK6 true h
  replace h := cond_f hb h
  obtain ⟨w8, hw8, h⟩ := bind_some h
  refine WO.callK 6 (F := 58) (l := [.int .i64 a1, l3 none [a3.f_From, a3.f_To]]) (C := []) (r := .bool w8) (by kernel_rfl) (by kernel_rfl) (run_dp_sets a1 [a3.f_From, a3.f_To] w8 hw8) (e1 := [(0, .int .i64 a1), (1, l33 none a2), (5, .ptr (.agg [.int .i64 a3.f_From, .int .i64 a3.f_To])), (8, .int .i64 a1), (9, l33 none a2), (10, .bool w7), (11, .bool false), (12, .bool false), (13, .int .i64 a1), (14, .ptr (.int .i64 a3.f_From)), (15, .int .i64 a3.f_From), (16, .ptr (.int .i64 a3.f_To)), (17, .int .i64 a3.f_To), (18, l3 (some 18) [a3.f_From, a3.f_To]), (19, .bool w8)]) (by kernel_rfl) ?_
  refine WO.fin [1, 5, 21] [] [] [] (e2 := [(1, l33 none a2), (5, .ptr (.agg [.int .i64 a3.f_From, .int .i64 a3.f_To])), (21, .bool (!w8))]) (by kernel_rfl) (fun _ h => h) ?_
  exact hK6 (!w8) h
def lw1_DependUnion_j16 (v19 : Bool) : Option Bool :=
  (some v19)
def lw1_DependUnion_j26 (v29 : Bool) : Option Bool :=
  (some v29)
def lw1_DependUnion_j14 (fuel : Nat) (a1 : Int) (a2 : (List rf1Dep)) (a3 : Int) (a4 : Int) (a5 : Int) (w9 : (Bool × Int)) (w12 : (Bool × Int)) (v15 : Bool) : Option Bool :=
  (bif v15 then (bif (w9.2 == 2) then ((lw1_awake fuel).bind fun w17 => ((lw1_DependUnion_j16) w17)) else (bif (w12.2 == 2) then ((lw1_awake fuel).bind fun w18 => ((lw1_DependUnion_j16) w18)) else ((lw1_DependUnion_j16) false))) else ((lw1_deps a2).bind fun w21 => ((dp_Follows fuel a1 w21 (dpDep.mk a3 (iOr .i64 a4 a5))).bind fun w22 => ((lw1_deps a2).bind fun w24 => ((dp_Follows fuel a1 w24 (dpDep.mk (iOr .i64 a3 a5) (iOr .i64 a4 a5))).bind fun w25 => (bif (w22.2 == 0) then (bif (w25.2 == 0) then (bif w9.1 then (bif (w22.1 == w12.1) then (bif w25.1 then ((lw1_awake fuel).bind fun w27 => ((lw1_DependUnion_j26) w27)) else ((lw1_DependUnion_j26) false)) else ((lw1_DependUnion_j26) false)) else (bif (w22.1 == false) then ((lw1_awake fuel).bind fun w28 => ((lw1_DependUnion_j26) w28)) else ((lw1_DependUnion_j26) false))) else ((lw1_DependUnion_j26) false)) else ((lw1_DependUnion_j26) false)))))))
def lw1_DependUnion (fuel : Nat) (a1 : Int) (a2 : (List rf1Dep)) (a3 : Int) (a4 : Int) (a5 : Int) : Option Bool :=
  ((lw1_deps a2).bind fun w8 => ((dp_Follows fuel a1 w8 (dpDep.mk a3 a4)).bind fun w9 => ((lw1_deps a2).bind fun w11 => ((dp_Follows fuel a1 w11 (dpDep.mk a3 a5)).bind fun w12 => (bif (w9.2 != 0) then ((lw1_DependUnion_j14 fuel a1 a2 a3 a4 a5 w9 w12) true) else ((lw1_DependUnion_j14 fuel a1 a2 a3 a4 a5 w9 w12) (w12.2 != 0)))))))
theorem run_lw1_DependUnion (fuel : Nat) (a1 : Int) (a2 : (List rf1Dep)) (a3 : Int) (a4 : Int) (a5 : Int) (r : Bool) (h : lw1_DependUnion fuel a1 a2 a3 a4 a5 = some r) : Run Try.prog (.call 4 [.int .i64 a1, l40 none a2, .int .i64 a3, .int .i64 a4, .int .i64 a5] (.bool r)) := by
  refine call_of_W Try.func4 rfl (by kernel_rfl) (env0 := [(0, .int .i64 a1), (1, l40 none a2), (2, .int .i64 a3), (3, .int .i64 a4), (4, .int .i64 a5)]) (by kernel_rfl) ?_
  unfold lw1_DependUnion at h
  refine W.seq ?_
  refine W.regT [0, 1, 2, 3, 4] [] [] [] (e2 := [(0, .int .i64 a1), (1, l40 none a2), (2, .int .i64 a3), (3, .int .i64 a4), (4, .int .i64 a5)]) (by kernel_rfl) (by kernel_rfl) (fun _ h => h) ?_
  refine W.seq ?_
  refine W.region (by kernel_rfl) ?_
  obtain ⟨w8, hw8, h⟩ := bind_some h
  refine WO.callK 2 (F := 20) (l := [l40 none a2]) (C := []) (r := l33 (some 1) w8) (by kernel_rfl) (by kernel_rfl) (run_lw1_deps a2 w8 hw8) (e1 := [(0, .int .i64 a1), (1, l40 none a2), (2, .int .i64 a3), (3, .int .i64 a4), (4, .int .i64 a5), (18, .int .i64 a1), (19, l40 none a2), (20, l33 (some 20) w8)]) (by kernel_rfl) ?_
  obtain ⟨w9, hw9, h⟩ := bind_some h
  refine WO.callK 3 (F := 22) (l := [.int .i64 a1, l33 none w8, .agg [.int .i64 a3, .int .i64 a4]]) (C := []) (r := .tup [.bool w9.1, .int .i64 w9.2]) (by kernel_rfl) (by kernel_rfl) (run_dp_Follows fuel a1 w8 (dpDep.mk a3 a4) w9 hw9) (e1 := [(0, .int .i64 a1), (1, l40 none a2), (2, .int .i64 a3), (3, .int .i64 a4), (4, .int .i64 a5), (18, .int .i64 a1), (19, l40 none a2), (20, l33 (some 20) w8), (21, .int .i64 a3), (22, .int .i64 a4), (23, .agg [.int .i64 a3, .int .i64 a4]), (24, .tup [.bool w9.1, .int .i64 w9.2])]) (by kernel_rfl) ?_
  refine WO.fin [0, 1, 2, 3, 4, 11, 12] [] [] [] (e2 := [(0, .int .i64 a1), (1, l40 none a2), (2, .int .i64 a3), (3, .int .i64 a4), (4, .int .i64 a5), (11, .bool w9.1), (12, .int .i64 w9.2)]) (by kernel_rfl) (fun _ h => h) ?_
  refine W.seq ?_
  refine W.region (by kernel_rfl) ?_
  obtain ⟨w11, hw11, h⟩ := bind_some h
  refine WO.callK 2 (F := 20) (l := [l40 none a2]) (C := []) (r := l33 (some 1) w11) (by kernel_rfl) (by kernel_rfl) (run_lw1_deps a2 w11 hw11) (e1 := [(0, .int .i64 a1), (1, l40 none a2), (2, .int .i64 a3), (3, .int .i64 a4), (4, .int .i64 a5), (11, .bool w9.1), (12, .int .i64 w9.2), (28, .int .i64 a1), (29, l40 none a2), (30, l33 (some 30) w11)]) (by kernel_rfl) ?_
  obtain ⟨w12, hw12, h⟩ := bind_some h
  refine WO.callK 3 (F := 22) (l := [.int .i64 a1, l33 none w11, .agg [.int .i64 a3, .int .i64 a5]]) (C := []) (r := .tup [.bool w12.1, .int .i64 w12.2]) (by kernel_rfl) (by kernel_rfl) (run_dp_Follows fuel a1 w11 (dpDep.mk a3 a5) w12 hw12) (e1 := [(0, .int .i64 a1), (1, l40 none a2), (2, .int .i64 a3), (3, .int .i64 a4), (4, .int .i64 a5), (11, .bool w9.1), (12, .int .i64 w9.2), (28, .int .i64 a1), (29, l40 none a2), (30, l33 (some 30) w11), (31, .int .i64 a3), (32, .int .i64 a5), (33, .agg [.int .i64 a3, .int .i64 a5]), (34, .tup [.bool w12.1, .int .i64 w12.2])]) (by kernel_rfl) ?_
  refine WO.fin [0, 1, 2, 3, 4, 11, 12, 13, 14] [] [] [] (e2 := [(0, .int .i64 a1), (1, l40 none a2), (2, .int .i64 a3), (3, .int .i64 a4), (4, .int .i64 a5), (11, .bool w9.1), (12, .int .i64 w9.2), (13, .bool w12.1), (14, .int .i64 w12.2)]) (by kernel_rfl) (fun _ h => h) ?_
  refine W.seq ?_
  refine W.seq ?_
  refine W.join (σ := (Bool)) (fun s => [(0, .int .i64 a1), (1, l40 none a2), (2, .int .i64 a3), (3, .int .i64 a4), (4, .int .i64 a5), (11, .bool w9.1), (12, .int .i64 w9.2), (13, .bool w12.1), (14, .int .i64 w12.2), (42, .bool s)]) (fun s => (lw1_DependUnion_j14 fuel a1 a2 a3 a4 a5 w9 w12) s = some r) (fun s h => ?_) (fun hK14 => ?_)
  · obtain ⟨v15, rfl⟩ : ∃ x, x = s := ⟨s, rfl⟩
    have h : (lw1_DependUnion_j14 fuel a1 a2 a3 a4 a5 w9 w12) v15 = some r := h
    unfold lw1_DependUnion_j14 at h
    refine W.condB v15 (by kernel_rfl) (fun hb => ?_) (fun hb => ?_)
    · replace h := cond_t hb h
      refine W.seq ?_
      refine W.join (σ := (Bool)) (fun s => [(10, .bool s)]) (fun s => (lw1_DependUnion_j16) s = some r) (fun s h => ?_) (fun hK16 => ?_)
      · obtain ⟨v19, rfl⟩ : ∃ x, x = s := ⟨s, rfl⟩
        have h : (lw1_DependUnion_j16) v19 = some r := h
        unfold lw1_DependUnion_j16 at h
        refine W.weak [10] [] [] [] (env' := [(10, .bool v19)]) (by kernel_rfl) ?_
        have hr : aresults Try.prog Try.f4 [(10, .bool v19)] = some (.bool v19) := by kernel_rfl
        cases h
        exact W.ret hr
      refine W.region (by kernel_rfl) ?_
      refine WO.boolK 3 (fun b => [(0, .int .i64 a1), (1, l40 none a2), (2, .int .i64 a3), (3, .int .i64 a4), (4, .int .i64 a5), (11, .bool w9.1), (12, .int .i64 w9.2), (13, .bool w12.1), (14, .int .i64 w12.2), (42, .bool v15), (43, .int .i64 w9.2), (44, .bool b), (45, .bool b)]) (w9.2 == 2) (by kernel_rfl) (fun hb => ?_) (fun hb => ?_)
      · replace h := cond_t hb h
        obtain ⟨w17, hw17, h⟩ := bind_some h
        refine WO.callK 4 (F := 21) (l := []) (C := []) (r := .bool w17) (by kernel_rfl) (by kernel_rfl) (run_lw1_awake fuel w17 hw17) (e1 := [(0, .int .i64 a1), (1, l40 none a2), (2, .int .i64 a3), (3, .int .i64 a4), (4, .int .i64 a5), (11, .bool w9.1), (12, .int .i64 w9.2), (13, .bool w12.1), (14, .int .i64 w12.2), (42, .bool v15), (43, .int .i64 w9.2), (44, .bool true), (45, .bool true), (46, .und), (47, .und), (48, .bool true), (49, .bool true), (50, .bool w17)]) (by kernel_rfl) ?_
        refine WO.fin [10] [] [] [] (e2 := [(10, .bool w17)]) (by kernel_rfl) (fun _ h => h) ?_
        exact hK16 w17 h
      replace h := cond_f hb h
      refine WO.boolK 4 (fun b => [(0, .int .i64 a1), (1, l40 none a2), (2, .int .i64 a3), (3, .int .i64 a4), (4, .int .i64 a5), (11, .bool w9.1), (12, .int .i64 w9.2), (13, .bool w12.1), (14, .int .i64 w12.2), (42, .bool v15), (43, .int .i64 w9.2), (44, .bool false), (45, .bool false), (46, .int .i64 w12.2), (47, .bool b), (48, .bool b), (49, .bool b)]) (w12.2 == 2) (by kernel_rfl) (fun hb => ?_) (fun hb => ?_)
      · replace h := cond_t hb h
        obtain ⟨w18, hw18, h⟩ := bind_some h
        refine WO.callK 0 (F := 21) (l := []) (C := []) (r := .bool w18) (by kernel_rfl) (by kernel_rfl) (run_lw1_awake fuel w18 hw18) (e1 := [(0, .int .i64 a1), (1, l40 none a2), (2, .int .i64 a3), (3, .int .i64 a4), (4, .int .i64 a5), (11, .bool w9.1), (12, .int .i64 w9.2), (13, .bool w12.1), (14, .int .i64 w12.2), (42, .bool v15), (43, .int .i64 w9.2), (44, .bool false), (45, .bool false), (46, .int .i64 w12.2), (47, .bool true), (48, .bool true), (49, .bool true), (50, .bool w18)]) (by kernel_rfl) ?_
        refine WO.fin [10] [] [] [] (e2 := [(10, .bool w18)]) (by kernel_rfl) (fun _ h => h) ?_
        exact hK16 w18 h
      replace h := cond_f hb h
      refine WO.fin [10] [] [] [] (e2 := [(10, .bool false)]) (by kernel_rfl) (fun _ h => h) ?_
      exact hK16 false h
    replace h := cond_f hb h
    refine W.skip ?_
    refine W.weak [0, 1, 2, 3, 4, 11, 13] [] [] [] (env' := [(0, .int .i64 a1), (1, l40 none a2), (2, .int .i64 a3), (3, .int .i64 a4), (4, .int .i64 a5), (11, .bool w9.1), (13, .bool w12.1)]) (by kernel_rfl) ?_
    refine W.seq ?_
    refine W.region (by kernel_rfl) ?_
    obtain ⟨w21, hw21, h⟩ := bind_some h
    refine WO.callK 2 (F := 20) (l := [l40 none a2]) (C := []) (r := l33 (some 1) w21) (by kernel_rfl) (by kernel_rfl) (run_lw1_deps a2 w21 hw21) (e1 := [(0, .int .i64 a1), (1, l40 none a2), (2, .int .i64 a3), (3, .int .i64 a4), (4, .int .i64 a5), (11, .bool w9.1), (13, .bool w12.1), (53, .int .i64 a1), (54, l40 none a2), (55, l33 (some 55) w21)]) (by kernel_rfl) ?_
    obtain ⟨w22, hw22, h⟩ := bind_some h
    refine WO.callK 5 (F := 22) (l := [.int .i64 a1, l33 none w21, .agg [.int .i64 a3, .int .i64 (iOr .i64 a4 a5)]]) (C := []) (r := .tup [.bool w22.1, .int .i64 w22.2]) (by kernel_rfl) (by kernel_rfl) (run_dp_Follows fuel a1 w21 (dpDep.mk a3 (iOr .i64 a4 a5)) w22 hw22) (e1 := [(0, .int .i64 a1), (1, l40 none a2), (2, .int .i64 a3), (3, .int .i64 a4), (4, .int .i64 a5), (11, .bool w9.1), (13, .bool w12.1), (53, .int .i64 a1), (54, l40 none a2), (55, l33 (some 55) w21), (56, .int .i64 a3), (57, .int .i64 a4), (58, .int .i64 a5), (59, .int .i64 (iOr .i64 a4 a5)), (60, .agg [.int .i64 a3, .int .i64 (iOr .i64 a4 a5)]), (61, .tup [.bool w22.1, .int .i64 w22.2])]) (by kernel_rfl) ?_
    refine WO.fin [0, 1, 2, 3, 4, 11, 12, 13, 15] [] [] [] (e2 := [(0, .int .i64 a1), (1, l40 none a2), (2, .int .i64 a3), (3, .int .i64 a4), (4, .int .i64 a5), (11, .bool w9.1), (12, .int .i64 w22.2), (13, .bool w12.1), (15, .bool w22.1)]) (by kernel_rfl) (fun _ h => h) ?_
    refine W.seq ?_
    refine W.region (by kernel_rfl) ?_
    obtain ⟨w24, hw24, h⟩ := bind_some h
    refine WO.callK 2 (F := 20) (l := [l40 none a2]) (C := []) (r := l33 (some 1) w24) (by kernel_rfl) (by kernel_rfl) (run_lw1_deps a2 w24 hw24) (e1 := [(0, .int .i64 a1), (1, l40 none a2), (2, .int .i64 a3), (3, .int .i64 a4), (4, .int .i64 a5), (11, .bool w9.1), (12, .int .i64 w22.2), (13, .bool w12.1), (15, .bool w22.1), (65, .int .i64 a1), (66, l40 none a2), (67, l33 (some 67) w24)]) (by kernel_rfl) ?_
    obtain ⟨w25, hw25, h⟩ := bind_some h
    refine WO.callK 7 (F := 22) (l := [.int .i64 a1, l33 none w24, .agg [.int .i64 (iOr .i64 a3 a5), .int .i64 (iOr .i64 a4 a5)]]) (C := []) (r := .tup [.bool w25.1, .int .i64 w25.2]) (by kernel_rfl) (by kernel_rfl) (run_dp_Follows fuel a1 w24 (dpDep.mk (iOr .i64 a3 a5) (iOr .i64 a4 a5)) w25 hw25) (e1 := [(0, .int .i64 a1), (1, l40 none a2), (2, .int .i64 a3), (3, .int .i64 a4), (4, .int .i64 a5), (11, .bool w9.1), (12, .int .i64 w22.2), (13, .bool w12.1), (15, .bool w22.1), (65, .int .i64 a1), (66, l40 none a2), (67, l33 (some 67) w24), (68, .int .i64 a3), (69, .int .i64 a5), (70, .int .i64 (iOr .i64 a3 a5)), (71, .int .i64 a4), (72, .int .i64 a5), (73, .int .i64 (iOr .i64 a4 a5)), (74, .agg [.int .i64 (iOr .i64 a3 a5), .int .i64 (iOr .i64 a4 a5)]), (75, .tup [.bool w25.1, .int .i64 w25.2])]) (by kernel_rfl) ?_
    refine WO.fin [11, 12, 13, 14, 15, 16] [] [] [] (e2 := [(11, .bool w9.1), (12, .int .i64 w22.2), (13, .bool w12.1), (14, .int .i64 w25.2), (15, .bool w22.1), (16, .bool w25.1)]) (by kernel_rfl) (fun _ h => h) ?_
    refine W.seq ?_
    refine W.join (σ := (Bool)) (fun s => [(10, .bool s)]) (fun s => (lw1_DependUnion_j26) s = some r) (fun s h => ?_) (fun hK26 => ?_)
    · obtain ⟨v29, rfl⟩ : ∃ x, x = s := ⟨s, rfl⟩
      have h : (lw1_DependUnion_j26) v29 = some r := h
      unfold lw1_DependUnion_j26 at h
      refine W.weak [10] [] [] [] (env' := [(10, .bool v29)]) (by kernel_rfl) ?_
      have hr : aresults Try.prog Try.f4 [(10, .bool v29)] = some (.bool v29) := by kernel_rfl
      cases h
      exact W.ret hr
    refine W.region (by kernel_rfl) ?_
    refine WO.boolK 3 (fun b => [(11, .bool w9.1), (12, .int .i64 w22.2), (13, .bool w12.1), (14, .int .i64 w25.2), (15, .bool w22.1), (16, .bool w25.1), (78, .int .i64 w22.2), (79, .bool b), (80, .bool b)]) (w22.2 == 0) (by kernel_rfl) (fun hb => ?_) (fun hb => ?_)
    · replace h := cond_t hb h
      refine WO.boolK 4 (fun b => [(11, .bool w9.1), (12, .int .i64 w22.2), (13, .bool w12.1), (14, .int .i64 w25.2), (15, .bool w22.1), (16, .bool w25.1), (78, .int .i64 w22.2), (79, .bool true), (80, .bool true), (81, .int .i64 w25.2), (82, .bool b), (83, .bool b), (84, .bool b)]) (w25.2 == 0) (by kernel_rfl) (fun hb => ?_) (fun hb => ?_)
      · replace h := cond_t hb h
        refine WO.boolK 3 (fun b => [(11, .bool b), (12, .int .i64 w22.2), (13, .bool w12.1), (14, .int .i64 w25.2), (15, .bool w22.1), (16, .bool w25.1), (78, .int .i64 w22.2), (79, .bool true), (80, .bool true), (81, .int .i64 w25.2), (82, .bool true), (83, .bool true), (84, .bool true), (85, .bool w22.1), (86, .bool b), (87, .bool b)]) w9.1 (by kernel_rfl) (fun hb => ?_) (fun hb => ?_)
        · replace h := cond_t hb h
          refine WO.boolK 5 (fun b => [(11, .bool true), (12, .int .i64 w22.2), (13, .bool w12.1), (14, .int .i64 w25.2), (15, .bool w22.1), (16, .bool w25.1), (78, .int .i64 w22.2), (79, .bool true), (80, .bool true), (81, .int .i64 w25.2), (82, .bool true), (83, .bool true), (84, .bool true), (85, .bool w22.1), (86, .bool true), (87, .bool true), (88, .bool w12.1), (89, .bool w12.1), (90, .bool b), (91, .bool b), (92, .bool b)]) (w22.1 == w12.1) (by kernel_rfl) (fun hb => ?_) (fun hb => ?_)
          · replace h := cond_t hb h
            refine WO.boolK 7 (fun b => [(11, .bool true), (12, .int .i64 w22.2), (13, .bool w12.1), (14, .int .i64 w25.2), (15, .bool w22.1), (16, .bool b), (78, .int .i64 w22.2), (79, .bool true), (80, .bool true), (81, .int .i64 w25.2), (82, .bool true), (83, .bool true), (84, .bool true), (85, .bool w22.1), (86, .bool true), (87, .bool true), (88, .bool w12.1), (89, .bool w12.1), (90, .bool true), (91, .bool true), (92, .bool true), (93, .bool true), (94, .bool false), (95, .bool false), (96, .bool b), (97, .bool b), (98, .bool b), (99, .bool b)]) w25.1 (by kernel_rfl) (fun hb => ?_) (fun hb => ?_)
            · replace h := cond_t hb h
              obtain ⟨w27, hw27, h⟩ := bind_some h
              refine WO.callK 0 (F := 21) (l := []) (C := []) (r := .bool w27) (by kernel_rfl) (by kernel_rfl) (run_lw1_awake fuel w27 hw27) (e1 := [(11, .bool true), (12, .int .i64 w22.2), (13, .bool w12.1), (14, .int .i64 w25.2), (15, .bool w22.1), (16, .bool true), (78, .int .i64 w22.2), (79, .bool true), (80, .bool true), (81, .int .i64 w25.2), (82, .bool true), (83, .bool true), (84, .bool true), (85, .bool w22.1), (86, .bool true), (87, .bool true), (88, .bool w12.1), (89, .bool w12.1), (90, .bool true), (91, .bool true), (92, .bool true), (93, .bool true), (94, .bool false), (95, .bool false), (96, .bool true), (97, .bool true), (98, .bool true), (99, .bool true), (100, .bool w27)]) (by kernel_rfl) ?_
              refine WO.fin [10] [] [] [] (e2 := [(10, .bool w27)]) (by kernel_rfl) (fun _ h => h) ?_
              exact hK26 w27 h
            replace h := cond_f hb h
            refine WO.fin [10] [] [] [] (e2 := [(10, .bool false)]) (by kernel_rfl) (fun _ h => h) ?_
            exact hK26 false h
          replace h := cond_f hb h
          refine WO.fin [10] [] [] [] (e2 := [(10, .bool false)]) (by kernel_rfl) (fun _ h => h) ?_
          exact hK26 false h
        replace h := cond_f hb h
        refine WO.boolK 5 (fun b => [(11, .bool false), (12, .int .i64 w22.2), (13, .bool w12.1), (14, .int .i64 w25.2), (15, .bool w22.1), (16, .bool w25.1), (78, .int .i64 w22.2), (79, .bool true), (80, .bool true), (81, .int .i64 w25.2), (82, .bool true), (83, .bool true), (84, .bool true), (85, .bool w22.1), (86, .bool false), (87, .bool false), (88, .und), (89, .bool false), (90, .bool b), (91, .bool b), (92, .bool b)]) (w22.1 == false) (by kernel_rfl) (fun hb => ?_) (fun hb => ?_)
        · replace h := cond_t hb h
          obtain ⟨w28, hw28, h⟩ := bind_some h
          refine WO.callK 7 (F := 21) (l := []) (C := []) (r := .bool w28) (by kernel_rfl) (by kernel_rfl) (run_lw1_awake fuel w28 hw28) (e1 := [(11, .bool false), (12, .int .i64 w22.2), (13, .bool w12.1), (14, .int .i64 w25.2), (15, .bool w22.1), (16, .bool w25.1), (78, .int .i64 w22.2), (79, .bool true), (80, .bool true), (81, .int .i64 w25.2), (82, .bool true), (83, .bool true), (84, .bool true), (85, .bool w22.1), (86, .bool false), (87, .bool false), (88, .und), (89, .bool false), (90, .bool true), (91, .bool true), (92, .bool true), (93, .bool false), (94, .bool true), (95, .bool true), (96, .und), (97, .bool true), (98, .bool true), (99, .bool true), (100, .bool w28)]) (by kernel_rfl) ?_
          refine WO.fin [10] [] [] [] (e2 := [(10, .bool w28)]) (by kernel_rfl) (fun _ h => h) ?_
          exact hK26 w28 h
        replace h := cond_f hb h
        refine WO.fin [10] [] [] [] (e2 := [(10, .bool false)]) (by kernel_rfl) (fun _ h => h) ?_
        exact hK26 false h
      replace h := cond_f hb h
      refine WO.fin [10] [] [] [] (e2 := [(10, .bool false)]) (by kernel_rfl) (fun _ h => h) ?_
      exact hK26 false h
    replace h := cond_f hb h
    refine WO.fin [10] [] [] [] (e2 := [(10, .bool false)]) (by kernel_rfl) (fun _ h => h) ?_
    exact hK26 false h
  refine W.region (by kernel_rfl) ?_
  refine WO.boolK 3 (fun b => [(0, .int .i64 a1), (1, l40 none a2), (2, .int .i64 a3), (3, .int .i64 a4), (4, .int .i64 a5), (11, .bool w9.1), (12, .int .i64 w9.2), (13, .bool w12.1), (14, .int .i64 w12.2), (37, .int .i64 w9.2), (38, .bool b), (39, .bool b)]) (w9.2 != 0) (by kernel_rfl) (fun hb => ?_) (fun hb => ?_)
  · replace h := cond_t hb h
    refine WO.fin [0, 1, 2, 3, 4, 11, 12, 13, 14, 42] [] [] [] (e2 := [(0, .int .i64 a1), (1, l40 none a2), (2, .int .i64 a3), (3, .int .i64 a4), (4, .int .i64 a5), (11, .bool w9.1), (12, .int .i64 w9.2), (13, .bool w12.1), (14, .int .i64 w12.2), (42, .bool true)]) (by kernel_rfl) (fun _ h => h) ?_
    exact hK14 true h
  replace h := cond_f hb h
  refine WO.fin [0, 1, 2, 3, 4, 11, 12, 13, 14, 42] [] [] [] (e2 := [(0, .int .i64 a1), (1, l40 none a2), (2, .int .i64 a3), (3, .int .i64 a4), (4, .int .i64 a5), (11, .bool w9.1), (12, .int .i64 w9.2), (13, .bool w12.1), (14, .int .i64 w12.2), (42, .bool (w12.2 != 0))]) (by kernel_rfl) (fun _ h => h) ?_
  exact hK14 (w12.2 != 0) h
def dp_Keys_1 (a1 : Int) (c2 : Int) : Option Bool :=
  (some ((iAndNot .i64 a1 c2) == 0))
theorem run_dp_Keys_1 (a1 : Int) (c2 : Int) (r : Bool) (h : dp_Keys_1 a1 c2 = some r) : Run Try.prog (.call 61 [.int .i64 a1, .ptr (.int .i64 c2)] (.bool r)) := by
  refine call_of_W Try.func61 rfl (by kernel_rfl) (env0 := [(0, .int .i64 a1), (1, .ptr (.int .i64 c2))]) (by kernel_rfl) ?_
  unfold dp_Keys_1 at h
  refine W.seq ?_
  refine W.regT [0, 1] [] [] [] (e2 := [(0, .int .i64 a1), (1, .ptr (.int .i64 c2))]) (by kernel_rfl) (by kernel_rfl) (fun _ h => h) ?_
  refine W.seq ?_
  refine W.regT [3] [] [] [] (e2 := [(3, .bool ((iAndNot .i64 a1 c2) == 0))]) (by kernel_rfl) (by kernel_rfl) (fun _ h => h) ?_
  refine W.weak [3] [] [] [] (env' := [(3, .bool ((iAndNot .i64 a1 c2) == 0))]) (by kernel_rfl) ?_
  have hr : aresults Try.prog Try.f61 [(3, .bool ((iAndNot .i64 a1 c2) == 0))] = some (.bool ((iAndNot .i64 a1 c2) == 0)) := by kernel_rfl
  cases h
  exact W.ret hr
def dp_Keys_j11 (v24 : (List Int)) : Option ((List Int) × Int) :=
  (some (v24, 0))
def dp_Keys_j15 (N1 : ((List Int) → Option ((List Int) × Int))) (v23 : (List Int)) : Option ((List Int) × Int) :=
  (N1 v23)
def dp_Keys_j17 (k1 : Nat) (v14 : (List Int)) (K15 : ((List Int) → Option ((List Int) × Int))) (v21 : Bool) : Option ((List Int) × Int) :=
  (bif v21 then (chk (capOk 8 ((v14 ++ [(k1 : Int)])).length) (K15 (v14 ++ [(k1 : Int)]))) else (K15 v14))
def dp_Keys_l1 (fuel : Nat) (a1 : Int) (w9 : ((List dpDep))) (K11 : ((List Int) → Option ((List Int) × Int))) : List Nat → Nat → (List Int) → Option ((List Int) × Int)
  | [], k1, v14 => (K11 v14)
  | x1 :: r1, k1, v14 => ((dp_closure_1 fuel (k1 : Int) w9).bind fun w18 => (chk (decide (0 ≤ a1)) (bif (w18 == (IntKind.wrap .i64 ((iShl .i64 1 a1) - 1))) then ((sl_ContainsFunc_int v14 (fun y0 => dp_Keys_1 y0 (k1 : Int))).bind fun w20 => ((dp_Keys_j17 k1 v14 (dp_Keys_j15 (dp_Keys_l1 fuel a1 w9 K11 r1 (k1 + 1)))) (!w20))) else ((dp_Keys_j17 k1 v14 (dp_Keys_j15 (dp_Keys_l1 fuel a1 w9 K11 r1 (k1 + 1)))) false))))
def dp_Keys (fuel : Nat) (a1 : Int) (a2 : (List dpDep)) : Option ((List Int) × Int) :=
  ((dp_valid a1 a2).bind fun w6 => (bif (!w6) then (some (([] : (List Int)), 2)) else ((dp_closure a2).bind fun w9 => (chk (decide (0 ≤ a1)) (chk (lenOk (List.range (Int.toNat (iShl .i64 1 a1)))) (dp_Keys_l1 fuel a1 w9 (dp_Keys_j11) (List.range (Int.toNat (iShl .i64 1 a1))) 0 ([] : (List Int))))))))
theorem run_dp_Keys (fuel : Nat) (a1 : Int) (a2 : (List dpDep)) (r : ((List Int) × Int)) (h : dp_Keys fuel a1 a2 = some r) : Run Try.prog (.call 23 [.int .i64 a1, l33 none a2] (.tup [l3 none r.1, .int .i64 r.2])) := by
  refine call_of_W Try.func23 rfl (by kernel_rfl) (env0 := [(0, .int .i64 a1), (1, l33 none a2)]) (by kernel_rfl) ?_
  unfold dp_Keys at h
  refine W.seq ?_
  refine W.regT [0, 1] [] [] [] (e2 := [(0, .int .i64 a1), (1, l33 none a2)]) (by kernel_rfl) (by kernel_rfl) (fun _ h => h) ?_
  refine W.seq ?_
  refine W.seq ?_
  refine W.region (by kernel_rfl) ?_
  obtain ⟨w6, hw6, h⟩ := bind_some h
  refine WO.callK 2 (F := 57) (l := [.int .i64 a1, l33 none a2]) (C := []) (r := .bool w6) (by kernel_rfl) (by kernel_rfl) (run_dp_valid a1 a2 w6 hw6) (e1 := [(0, .int .i64 a1), (1, l33 none a2), (9, .int .i64 a1), (10, l33 none a2), (11, .bool w6)]) (by kernel_rfl) ?_
  refine WO.fin [0, 1, 12] [] [] [] (e2 := [(0, .int .i64 a1), (1, l33 none a2), (12, .bool (!w6))]) (by kernel_rfl) (fun _ h => h) ?_
  refine W.condB (!w6) (by kernel_rfl) (fun hb => ?_) (fun hb => ?_)
  · replace h := cond_t hb h
    refine W.seq ?_
    refine W.regT [4, 5] [] [] [] (e2 := [(4, .nils), (5, .int .i64 2)]) (by kernel_rfl) (by kernel_rfl) (fun _ h => h) ?_
    refine W.weak [4, 5] [] [(4, 0, 3, 1, 70004)] [] (env' := [(4, l3 (some 70004) ([] : (List Int))), (5, .int .i64 2)]) (by kernel_rfl) ?_
    have hr : aresults Try.prog Try.f23 [(4, l3 (some 70004) ([] : (List Int))), (5, .int .i64 2)] = some (.tup [l3 none ([] : (List Int)), .int .i64 2]) := by kernel_rfl
    cases h
    exact W.ret hr
  replace h := cond_f hb h
  refine W.skip ?_
  refine W.weak [0, 1] [] [] [] (env' := [(0, .int .i64 a1), (1, l33 none a2)]) (by kernel_rfl) ?_
  refine W.seq ?_
  refine W.region (by kernel_rfl) ?_
  obtain ⟨w9, hw9, h⟩ := bind_some h
  refine WO.callK 1 (F := 59) (l := [l33 none a2]) (C := []) (r := .clo 77 [.ptr (l33 none w9)]) (by kernel_rfl) (by kernel_rfl) (run_dp_closure a2 w9 hw9) (e1 := [(0, .int .i64 a1), (1, l33 none a2), (13, l33 none a2), (14, .clo 77 [.ptr (l33 none w9)])]) (by kernel_rfl) ?_
  refine WO.fin [0, 6] [] [] [] (e2 := [(0, .int .i64 a1), (6, .clo 77 [.ptr (l33 none w9)])]) (by kernel_rfl) (fun _ h => h) ?_
  refine W.seq ?_
  refine W.regT [0, 6, 7] [] [] [] (e2 := [(0, .int .i64 a1), (6, .clo 77 [.ptr (l33 none w9)]), (7, .nils)]) (by kernel_rfl) (by kernel_rfl) (fun _ h => h) ?_
  refine W.seq ?_
  refine W.join (σ := ((List Int))) (fun s => [(7, l3 (some 10700) s)]) (fun s => (dp_Keys_j11) s = some r) (fun s h => ?_) (fun hK11 => ?_)
  · obtain ⟨v24, rfl⟩ : ∃ x, x = s := ⟨s, rfl⟩
    have h : (dp_Keys_j11) v24 = some r := h
    unfold dp_Keys_j11 at h
    refine W.seq ?_
    refine W.regT [4, 5] [] [] [] (e2 := [(4, l3 (some 10700) v24), (5, .int .i64 0)]) (by kernel_rfl) (by kernel_rfl) (fun _ h => h) ?_
    refine W.weak [4, 5] [] [] [] (env' := [(4, l3 (some 10700) v24), (5, .int .i64 0)]) (by kernel_rfl) ?_
    have hr : aresults Try.prog Try.f23 [(4, l3 (some 10700) v24), (5, .int .i64 0)] = some (.tup [l3 none v24, .int .i64 0]) := by kernel_rfl
    cases h
    exact W.ret hr
  refine W.seq ?_
  refine W.region (by kernel_rfl) ?_
  obtain ⟨hc13, h⟩ := chk_some h
  refine WO.pureK 1 (if a1 < 0 then none else some (.int .i64 (iShl .i64 1 a1))) (v := .int .i64 (iShl .i64 1 a1)) (by kernel_rfl) (if_neg (not_lt_of_chk hc13)) (e1 := [(0, .int .i64 a1), (6, .clo 77 [.ptr (l33 none w9)]), (7, .nils), (15, .int .i64 a1), (16, .int .i64 (iShl .i64 1 a1))]) (by kernel_rfl) ?_
  refine WO.fin [0, 6, 7, 16, 17] [] [] [] (e2 := [(0, .int .i64 a1), (6, .clo 77 [.ptr (l33 none w9)]), (7, .nils), (16, .int .i64 (iShl .i64 1 a1)), (17, .int .i64 0)]) (by kernel_rfl) (fun _ h => h) ?_
  refine W.block ?_
  obtain ⟨hl1, h⟩ := chk_some h
  refine W.weak [0, 6, 7, 16, 17] [] [(7, 0, 3, 1, 10700)] [] (env' := [(0, .int .i64 a1), (6, .clo 77 [.ptr (l33 none w9)]), (7, l3 (some 10700) ([] : (List Int))), (16, .int .i64 (iShl .i64 1 a1)), (17, .int .i64 ((0 : Nat) : Int))]) (by kernel_rfl) ?_
  refine W.range (σ := ((List Int))) (List.range (Int.toNat (iShl .i64 1 a1))) (fun k1 s => [(0, .int .i64 a1), (6, .clo 77 [.ptr (l33 none w9)]), (7, l3 (some 10700) s), (16, .int .i64 (iShl .i64 1 a1)), (17, .int .i64 (k1 : Int))]) (fun r0 k0 s => dp_Keys_l1 fuel a1 w9 (dp_Keys_j11) r0 k0 s = some r) (fun s h => ?_) (fun x1 r1 k1 s hx1 hk1 h hN1 => ?_) ([] : (List Int)) h
  · obtain ⟨v14, rfl⟩ : ∃ x, x = s := ⟨s, rfl⟩
    have h : dp_Keys_l1 fuel a1 w9 (dp_Keys_j11) [] ((List.range (Int.toNat (iShl .i64 1 a1)))).length v14 = some r := h
    rw [dp_Keys_l1.eq_1] at h
    refine W.seq ?_
    refine W.region (by kernel_rfl) ?_
    refine WO.pureK 0 (some (.bool (decide ((((List.range (Int.toNat (iShl .i64 1 a1)))).length : Int) < (iShl .i64 1 a1))))) (v := .bool false) (by kernel_rfl) (by rw [ltr_false (n := (iShl .i64 1 a1))]) (e1 := [(0, .int .i64 a1), (6, .clo 77 [.ptr (l33 none w9)]), (7, l3 (some 10700) v14), (16, .int .i64 (iShl .i64 1 a1)), (17, .int .i64 (((List.range (Int.toNat (iShl .i64 1 a1)))).length : Int)), (18, .bool false)]) (by kernel_rfl) ?_
    refine WO.fin ([0, 6, 7, 16, 17, 18]) [] [] [] (e2 := [(0, .int .i64 a1), (6, .clo 77 [.ptr (l33 none w9)]), (7, l3 (some 10700) v14), (16, .int .i64 (iShl .i64 1 a1)), (17, .int .i64 (((List.range (Int.toNat (iShl .i64 1 a1)))).length : Int)), (18, .bool false)]) (by kernel_rfl) (fun _ h => h) ?_
    refine W.seq ?_
    refine W.condB false (by kernel_rfl) (fun h => Bool.noConfusion h) (fun _ => ?_)
    refine W.exit ?_
    refine W.weak [7] [] [] [] (env' := [(7, l3 (some 10700) v14)]) (by kernel_rfl) ?_
    exact hK11 v14 h
  · obtain ⟨v14, rfl⟩ : ∃ x, x = s := ⟨s, rfl⟩
    have h : dp_Keys_l1 fuel a1 w9 (dp_Keys_j11) (x1 :: r1) k1 v14 = some r := h
    rw [dp_Keys_l1.eq_2] at h
    refine W.seq ?_
    refine W.region (by kernel_rfl) ?_
    refine WO.pureK 0 (some (.bool (decide ((k1 : Int) < (iShl .i64 1 a1))))) (v := .bool true) (by kernel_rfl) (by rw [ltr_true hk1]) (e1 := [(0, .int .i64 a1), (6, .clo 77 [.ptr (l33 none w9)]), (7, l3 (some 10700) v14), (16, .int .i64 (iShl .i64 1 a1)), (17, .int .i64 (k1 : Int)), (18, .bool true)]) (by kernel_rfl) ?_
    refine WO.fin ([0, 6, 7, 16, 17, 18]) [] [] [] (e2 := [(0, .int .i64 a1), (6, .clo 77 [.ptr (l33 none w9)]), (7, l3 (some 10700) v14), (16, .int .i64 (iShl .i64 1 a1)), (17, .int .i64 (k1 : Int)), (18, .bool true)]) (by kernel_rfl) (fun _ h => h) ?_
    refine W.seq ?_
    refine W.condB true (by kernel_rfl) (fun _ => ?_) (fun h => Bool.noConfusion h)
    refine W.skip ?_
    refine W.weak [0, 6, 7, 16, 17] [] [] [] (env' := [(0, .int .i64 a1), (6, .clo 77 [.ptr (l33 none w9)]), (7, l3 (some 10700) v14), (16, .int .i64 (iShl .i64 1 a1)), (17, .int .i64 (k1 : Int))]) (by kernel_rfl) ?_
    refine W.seq ?_
    refine W.join (σ := ((List Int))) (fun s => [(0, .int .i64 a1), (6, .clo 77 [.ptr (l33 none w9)]), (7, l3 (some 10700) s), (16, .int .i64 (iShl .i64 1 a1)), (17, .int .i64 (k1 : Int))]) (fun s => (dp_Keys_j15 (dp_Keys_l1 fuel a1 w9 (dp_Keys_j11) r1 (k1 + 1))) s = some r) (fun s h => ?_) (fun hK15 => ?_)
    · obtain ⟨v23, rfl⟩ : ∃ x, x = s := ⟨s, rfl⟩
      have h : (dp_Keys_j15 (dp_Keys_l1 fuel a1 w9 (dp_Keys_j11) r1 (k1 + 1))) v23 = some r := h
      unfold dp_Keys_j15 at h
      refine W.region (by kernel_rfl) ?_
      refine WO.pureK 0 (some (.int .i64 (IntKind.wrap .i64 ((k1 : Int) + 1)))) (v := .int .i64 ((k1 + 1 : Nat) : Int)) (by kernel_rfl) (by rw [wrap_succ hl1 hk1]) (e1 := [(0, .int .i64 a1), (6, .clo 77 [.ptr (l33 none w9)]), (7, l3 (some 10700) v23), (16, .int .i64 (iShl .i64 1 a1)), (17, .int .i64 (k1 : Int)), (37, .int .i64 ((k1 + 1 : Nat) : Int))]) (by kernel_rfl) ?_
      refine WO.fin [0, 6, 7, 16, 17] [] [] [] (e2 := [(0, .int .i64 a1), (6, .clo 77 [.ptr (l33 none w9)]), (7, l3 (some 10700) v23), (16, .int .i64 (iShl .i64 1 a1)), (17, .int .i64 ((k1 + 1 : Nat) : Int))]) (by kernel_rfl) (fun _ h => h) ?_
      exact hN1 v23 h
    refine W.block ?_
    refine W.seq ?_
    refine W.regT [0, 6, 7, 8, 16, 17] [8] [] [] (e2 := [(0, .int .i64 a1), (6, .clo 77 [.ptr (l33 none w9)]), (7, l3 (some 10700) v14), (8, .ptr (.int .i64 (k1 : Int))), (16, .int .i64 (iShl .i64 1 a1)), (17, .int .i64 (k1 : Int))]) (by kernel_rfl) (by kernel_rfl) (fun _ h => h) ?_
    refine W.seq ?_
    refine W.join (σ := (Bool)) (fun s => [(0, .int .i64 a1), (6, .clo 77 [.ptr (l33 none w9)]), (7, l3 (some 10700) v14), (8, .ptr (.int .i64 (k1 : Int))), (16, .int .i64 (iShl .i64 1 a1)), (17, .int .i64 (k1 : Int)), (32, .bool s)]) (fun s => (dp_Keys_j17 k1 v14 (dp_Keys_j15 (dp_Keys_l1 fuel a1 w9 (dp_Keys_j11) r1 (k1 + 1)))) s = some r) (fun s h => ?_) (fun hK17 => ?_)
    · obtain ⟨v21, rfl⟩ : ∃ x, x = s := ⟨s, rfl⟩
      have h : (dp_Keys_j17 k1 v14 (dp_Keys_j15 (dp_Keys_l1 fuel a1 w9 (dp_Keys_j11) r1 (k1 + 1)))) v21 = some r := h
      unfold dp_Keys_j17 at h
      refine W.condB v21 (by kernel_rfl) (fun hb => ?_) (fun hb => ?_)
      · replace h := cond_t hb h
        refine W.region (by kernel_rfl) ?_
        obtain ⟨hc22, h⟩ := chk_some h
        refine WO.appendK 3 (d := 36) (e := 3) (s := 1) (bytes := 8) (xs := (List.map (AV.int .i64) v14)) (ys := (List.map (AV.int .i64) [(k1 : Int)])) (zs := (List.map (AV.int .i64) (v14 ++ [(k1 : Int)]))) (env1 := [(0, .int .i64 a1), (6, .clo 77 [.ptr (l33 none w9)]), (7, l3 none v14), (8, .ptr (.int .i64 (k1 : Int))), (16, .int .i64 (iShl .i64 1 a1)), (17, .int .i64 (k1 : Int)), (32, .bool v21), (33, l3 none v14), (34, .int .i64 (k1 : Int)), (35, l3 (some 35) [(k1 : Int)])]) (by kernel_rfl) (List.map_append.symm) (by rw [List.length_map]; exact hc22) (e1 := [(0, .int .i64 a1), (6, .clo 77 [.ptr (l33 none w9)]), (7, l3 none v14), (8, .ptr (.int .i64 (k1 : Int))), (16, .int .i64 (iShl .i64 1 a1)), (17, .int .i64 (k1 : Int)), (32, .bool v21), (33, l3 none v14), (34, .int .i64 (k1 : Int)), (35, l3 (some 35) [(k1 : Int)]), (36, l3 (some 36) (v14 ++ [(k1 : Int)]))]) (by kernel_rfl) ?_
        refine WO.fin [0, 6, 7, 16, 17] [] [] [(36, some 10700)] (e2 := [(0, .int .i64 a1), (6, .clo 77 [.ptr (l33 none w9)]), (7, l3 (some 10700) (v14 ++ [(k1 : Int)])), (16, .int .i64 (iShl .i64 1 a1)), (17, .int .i64 (k1 : Int))]) (by kernel_rfl) (fun _ h => h) ?_
        exact hK15 (v14 ++ [(k1 : Int)]) h
      replace h := cond_f hb h
      refine W.skip ?_
      refine W.weak [0, 6, 7, 16, 17] [] [] [] (env' := [(0, .int .i64 a1), (6, .clo 77 [.ptr (l33 none w9)]), (7, l3 (some 10700) v14), (16, .int .i64 (iShl .i64 1 a1)), (17, .int .i64 (k1 : Int))]) (by kernel_rfl) ?_
      exact hK15 v14 h
    refine W.region (by kernel_rfl) ?_
    obtain ⟨w18, hw18, h⟩ := bind_some h
    refine WO.callK 2 (F := 77) (l := [.int .i64 (k1 : Int)]) (C := [.ptr (l33 none w9)]) (r := .int .i64 w18) (by kernel_rfl) (by kernel_rfl) (run_dp_closure_1 fuel (k1 : Int) w9 w18 hw18) (e1 := [(0, .int .i64 a1), (6, .clo 77 [.ptr (l33 none w9)]), (7, l3 (some 10700) v14), (8, .ptr (.int .i64 (k1 : Int))), (16, .int .i64 (iShl .i64 1 a1)), (17, .int .i64 (k1 : Int)), (20, .clo 77 [.ptr (l33 none w9)]), (21, .int .i64 (k1 : Int)), (22, .int .i64 w18)]) (by kernel_rfl) ?_
    obtain ⟨hc19, h⟩ := chk_some h
    refine WO.pureK 1 (if a1 < 0 then none else some (.int .i64 (iShl .i64 1 a1))) (v := .int .i64 (iShl .i64 1 a1)) (by kernel_rfl) (if_neg (not_lt_of_chk hc19)) (e1 := [(0, .int .i64 a1), (6, .clo 77 [.ptr (l33 none w9)]), (7, l3 (some 10700) v14), (8, .ptr (.int .i64 (k1 : Int))), (16, .int .i64 (iShl .i64 1 a1)), (17, .int .i64 (k1 : Int)), (20, .clo 77 [.ptr (l33 none w9)]), (21, .int .i64 (k1 : Int)), (22, .int .i64 w18), (23, .int .i64 a1), (24, .int .i64 (iShl .i64 1 a1))]) (by kernel_rfl) ?_
    refine WO.boolK 3 (fun b => [(0, .int .i64 a1), (6, .clo 77 [.ptr (l33 none w9)]), (7, l3 (some 10700) v14), (8, .ptr (.int .i64 (k1 : Int))), (16, .int .i64 (iShl .i64 1 a1)), (17, .int .i64 (k1 : Int)), (20, .clo 77 [.ptr (l33 none w9)]), (21, .int .i64 (k1 : Int)), (22, .int .i64 w18), (23, .int .i64 a1), (24, .int .i64 (iShl .i64 1 a1)), (25, .int .i64 (IntKind.wrap .i64 ((iShl .i64 1 a1) - 1))), (26, .bool b), (27, .bool b)]) (w18 == (IntKind.wrap .i64 ((iShl .i64 1 a1) - 1))) (by kernel_rfl) (fun hb => ?_) (fun hb => ?_)
    · replace h := cond_t hb h
      obtain ⟨w20, hw20, h⟩ := bind_some h
      refine WO.callK 2 (F := 60) (l := [l3 none v14, .clo 61 [.ptr (.int .i64 (k1 : Int))]]) (C := []) (r := .bool w20) (by kernel_rfl) (by kernel_rfl) (run_sl_ContainsFunc_int v14 (fun y0 => dp_Keys_1 y0 (k1 : Int)) 61 [.ptr (.int .i64 (k1 : Int))] (by kernel_rfl) (fun y0 r h => run_dp_Keys_1 y0 (k1 : Int) r h) w20 hw20) (e1 := [(0, .int .i64 a1), (6, .clo 77 [.ptr (l33 none w9)]), (7, l3 (some 10700) v14), (8, .ptr (.int .i64 (k1 : Int))), (16, .int .i64 (iShl .i64 1 a1)), (17, .int .i64 (k1 : Int)), (20, .clo 77 [.ptr (l33 none w9)]), (21, .int .i64 (k1 : Int)), (22, .int .i64 w18), (23, .int .i64 a1), (24, .int .i64 (iShl .i64 1 a1)), (25, .int .i64 (IntKind.wrap .i64 ((iShl .i64 1 a1) - 1))), (26, .bool true), (27, .bool true), (28, l3 (some 10700) v14), (29, .clo 61 [.ptr (.int .i64 (k1 : Int))]), (30, .bool w20)]) (by kernel_rfl) ?_
      refine WO.fin [0, 6, 7, 8, 16, 17, 32] [] [] [] (e2 := [(0, .int .i64 a1), (6, .clo 77 [.ptr (l33 none w9)]), (7, l3 (some 10700) v14), (8, .ptr (.int .i64 (k1 : Int))), (16, .int .i64 (iShl .i64 1 a1)), (17, .int .i64 (k1 : Int)), (32, .bool (!w20))]) (by kernel_rfl) (fun _ h => h) ?_
      exact hK17 (!w20) h
    replace h := cond_f hb h
    refine WO.fin [0, 6, 7, 8, 16, 17, 32] [] [] [] (e2 := [(0, .int .i64 a1), (6, .clo 77 [.ptr (l33 none w9)]), (7, l3 (some 10700) v14), (8, .ptr (.int .i64 (k1 : Int))), (16, .int .i64 (iShl .i64 1 a1)), (17, .int .i64 (k1 : Int)), (32, .bool false)]) (by kernel_rfl) (fun _ h => h) ?_
    exact hK17 false h

end Go.AM
