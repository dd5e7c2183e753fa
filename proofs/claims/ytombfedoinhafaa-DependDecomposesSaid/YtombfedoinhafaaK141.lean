/- PRINTED by gen.py: pure functions and the proofs that the code computes them. No statement of the seat is proved here. -/
import Derived.Test.YtombfedoinhafaaK14T
set_option maxRecDepth 100000
set_option linter.unusedVariables false
set_option linter.unusedSimpArgs false
namespace Go.AM
open Go.Proofs
def lw1_deps_j4 (v12 : (List dpDep)) : Option (List dpDep) :=
  (some v12)
def lw1_deps_l1 (K4 : ((List dpDep) → Option (List dpDep))) : List rf1Dep → Nat → (List dpDep) → Option (List dpDep)
  | [], k1, v6 => (K4 v6)
  | x1 :: r1, k1, v6 => (bif (decide ((k1 : Int) > 13)) then (K4 v6) else (chk (capOk 16 ((v6 ++ [(dpDep.mk x1.f_From x1.f_To)])).length) ((lw1_deps_l1 K4 r1 (k1 + 1)) (v6 ++ [(dpDep.mk x1.f_From x1.f_To)]))))
def lw1_deps (a1 : (List rf1Dep)) : Option (List dpDep) :=
  (chk (lenOk a1) (lw1_deps_l1 (lw1_deps_j4) a1 0 ([] : (List dpDep))))
theorem run_lw1_deps (a1 : (List rf1Dep)) (r : (List dpDep)) (h : lw1_deps a1 = some r) : Run Try.prog (.call 20 [l40 none a1] (l33 (some 1) r)) := by
  refine call_of_W Try.func20 rfl (by kernel_rfl) (env0 := [(0, l40 none a1)]) (by kernel_rfl) ?_
  unfold lw1_deps at h
  refine W.seq ?_
  refine W.regT [0] [] [] [] (e2 := [(0, l40 none a1)]) (by kernel_rfl) (by kernel_rfl) (fun _ h => h) ?_
  refine W.seq ?_
  refine W.regT [0, 3] [] [] [] (e2 := [(0, l40 none a1), (3, .nils)]) (by kernel_rfl) (by kernel_rfl) (fun _ h => h) ?_
  refine W.seq ?_
  refine W.join (σ := ((List dpDep))) (fun s => [(3, l33 (some 10300) s)]) (fun s => (lw1_deps_j4) s = some r) (fun s h => ?_) (fun hK4 => ?_)
  · obtain ⟨v12, rfl⟩ : ∃ x, x = s := ⟨s, rfl⟩
    have h : (lw1_deps_j4) v12 = some r := h
    unfold lw1_deps_j4 at h
    refine W.seq ?_
    refine W.regT [2] [] [] [] (e2 := [(2, l33 (some 10300) v12)]) (by kernel_rfl) (by kernel_rfl) (fun _ h => h) ?_
    refine W.weak [2] [] [] [(10300, some 1)] (env' := [(2, l33 (some 1) v12)]) (by kernel_rfl) ?_
    have hr : aresults Try.prog Try.f20 [(2, l33 (some 1) v12)] = some (l33 (some 1) v12) := by kernel_rfl
    cases h
    exact W.ret hr
  refine W.seq ?_
  refine W.region (by kernel_rfl) ?_
  refine WO.pureK 1 (some (.int .i64 ((List.map e_rf1Dep a1).length : Int))) (v := .int .i64 (a1.length : Int)) (by kernel_rfl) (by rw [List.length_map]) (e1 := [(0, l40 none a1), (3, .nils), (6, l40 none a1), (7, .int .i64 (a1.length : Int))]) (by kernel_rfl) ?_
  refine WO.fin [3, 6, 7, 8] [] [] [] (e2 := [(3, .nils), (6, l40 none a1), (7, .int .i64 (a1.length : Int)), (8, .int .i64 0)]) (by kernel_rfl) (fun _ h => h) ?_
  refine W.block ?_
  obtain ⟨hl1, h⟩ := chk_some h
  refine W.weak [3, 6, 7, 8] [] [(3, 0, 33, 2, 10300)] [] (env' := [(3, l33 (some 10300) ([] : (List dpDep))), (6, l40 none a1), (7, .int .i64 (a1.length : Int)), (8, .int .i64 ((0 : Nat) : Int))]) (by kernel_rfl) ?_
  refine W.range (σ := ((List dpDep))) a1 (fun k1 s => [(3, l33 (some 10300) s), (6, l40 none a1), (7, .int .i64 (a1.length : Int)), (8, .int .i64 (k1 : Int))]) (fun r0 k0 s => lw1_deps_l1 (lw1_deps_j4) r0 k0 s = some r) (fun s h => ?_) (fun x1 r1 k1 s hx1 hk1 h hN1 => ?_) ([] : (List dpDep)) h
  · obtain ⟨v6, rfl⟩ : ∃ x, x = s := ⟨s, rfl⟩
    have h : lw1_deps_l1 (lw1_deps_j4) [] (a1).length v6 = some r := h
    rw [lw1_deps_l1.eq_1] at h
    refine W.seq ?_
    refine W.region (by kernel_rfl) ?_
    refine WO.pureK 0 (some (.bool (decide (((a1).length : Int) < (a1.length : Int))))) (v := .bool false) (by kernel_rfl) (by rw [lt_false (l := a1)]) (e1 := [(3, l33 (some 10300) v6), (6, l40 none a1), (7, .int .i64 (a1.length : Int)), (8, .int .i64 ((a1).length : Int)), (9, .bool false)]) (by kernel_rfl) ?_
    refine WO.fin ([3, 6, 7, 8, 9]) [] [] [] (e2 := [(3, l33 (some 10300) v6), (6, l40 none a1), (7, .int .i64 (a1.length : Int)), (8, .int .i64 ((a1).length : Int)), (9, .bool false)]) (by kernel_rfl) (fun _ h => h) ?_
    refine W.seq ?_
    refine W.condB false (by kernel_rfl) (fun h => Bool.noConfusion h) (fun _ => ?_)
    refine W.exit ?_
    refine W.weak [3] [] [] [] (env' := [(3, l33 (some 10300) v6)]) (by kernel_rfl) ?_
    exact hK4 v6 h
  · obtain ⟨v6, rfl⟩ : ∃ x, x = s := ⟨s, rfl⟩
    have h : lw1_deps_l1 (lw1_deps_j4) (x1 :: r1) k1 v6 = some r := h
    rw [lw1_deps_l1.eq_2] at h
    refine W.seq ?_
    refine W.region (by kernel_rfl) ?_
    refine WO.pureK 0 (some (.bool (decide ((k1 : Int) < (a1.length : Int))))) (v := .bool true) (by kernel_rfl) (by rw [lt_true hk1]) (e1 := [(3, l33 (some 10300) v6), (6, l40 none a1), (7, .int .i64 (a1.length : Int)), (8, .int .i64 (k1 : Int)), (9, .bool true)]) (by kernel_rfl) ?_
    refine WO.fin ([3, 6, 7, 8, 9]) [] [] [] (e2 := [(3, l33 (some 10300) v6), (6, l40 none a1), (7, .int .i64 (a1.length : Int)), (8, .int .i64 (k1 : Int)), (9, .bool true)]) (by kernel_rfl) (fun _ h => h) ?_
    refine W.seq ?_
    refine W.condB true (by kernel_rfl) (fun _ => ?_) (fun h => Bool.noConfusion h)
    refine W.skip ?_
    refine W.weak [3, 6, 7, 8] [] [] [] (env' := [(3, l33 (some 10300) v6), (6, l40 none a1), (7, .int .i64 (a1.length : Int)), (8, .int .i64 (k1 : Int))]) (by kernel_rfl) ?_
    refine W.seq ?_
    refine W.block ?_
    refine W.seq ?_
    refine W.region (by kernel_rfl) ?_
    refine WO.pureK 1 (if (0 : Int) ≤ (k1 : Int) then ((List.map e_rf1Dep a1)[Int.toNat (k1 : Int)]?).map AV.ptr else none) (v := .ptr (.agg [.int .i64 x1.f_From, .int .i64 x1.f_To])) (by kernel_rfl) (idx_nat (f := e_rf1Dep) hx1) (e1 := [(3, l33 (some 10300) v6), (6, l40 none a1), (7, .int .i64 (a1.length : Int)), (8, .int .i64 (k1 : Int)), (10, .int .i64 (k1 : Int)), (11, .ptr (.agg [.int .i64 x1.f_From, .int .i64 x1.f_To]))]) (by kernel_rfl) ?_
    refine WO.fin [3, 4, 5, 6, 7, 8] [5] [] [] (e2 := [(3, l33 (some 10300) v6), (4, .int .i64 (k1 : Int)), (5, .ptr (.agg [.int .i64 x1.f_From, .int .i64 x1.f_To])), (6, l40 none a1), (7, .int .i64 (a1.length : Int)), (8, .int .i64 (k1 : Int))]) (by kernel_rfl) (fun _ h => h) ?_
    refine W.seq ?_
    refine W.seq ?_
    refine W.regT [3, 5, 6, 7, 8, 14] [] [] [] (e2 := [(3, l33 (some 10300) v6), (5, .ptr (.agg [.int .i64 x1.f_From, .int .i64 x1.f_To])), (6, l40 none a1), (7, .int .i64 (a1.length : Int)), (8, .int .i64 (k1 : Int)), (14, .bool (decide ((k1 : Int) > 13)))]) (by kernel_rfl) (by kernel_rfl) (fun _ h => h) ?_
    refine W.condB (decide ((k1 : Int) > 13)) (by kernel_rfl) (fun hb => ?_) (fun hb => ?_)
    · replace h := cond_t hb h
      refine W.exit ?_
      refine W.weak [3] [] [] [] (env' := [(3, l33 (some 10300) v6)]) (by kernel_rfl) ?_
      exact hK4 v6 h
    replace h := cond_f hb h
    refine W.skip ?_
    refine W.weak [3, 5, 6, 7, 8] [] [] [] (env' := [(3, l33 (some 10300) v6), (5, .ptr (.agg [.int .i64 x1.f_From, .int .i64 x1.f_To])), (6, l40 none a1), (7, .int .i64 (a1.length : Int)), (8, .int .i64 (k1 : Int))]) (by kernel_rfl) ?_
    refine W.region (by kernel_rfl) ?_
    obtain ⟨hc11, h⟩ := chk_some h
    refine WO.appendK 7 (d := 22) (e := 33) (s := 2) (bytes := 16) (xs := (List.map e_dpDep v6)) (ys := (List.map e_dpDep [(dpDep.mk x1.f_From x1.f_To)])) (zs := (List.map e_dpDep (v6 ++ [(dpDep.mk x1.f_From x1.f_To)]))) (env1 := [(3, l33 none v6), (5, .ptr (.agg [.int .i64 x1.f_From, .int .i64 x1.f_To])), (6, l40 none a1), (7, .int .i64 (a1.length : Int)), (8, .int .i64 (k1 : Int)), (15, l33 none v6), (16, .ptr (.int .i64 x1.f_From)), (17, .int .i64 x1.f_From), (18, .ptr (.int .i64 x1.f_To)), (19, .int .i64 x1.f_To), (20, .agg [.int .i64 x1.f_From, .int .i64 x1.f_To]), (21, l33 (some 21) [(dpDep.mk x1.f_From x1.f_To)])]) (by kernel_rfl) (List.map_append.symm) (by rw [List.length_map]; exact hc11) (e1 := [(3, l33 none v6), (5, .ptr (.agg [.int .i64 x1.f_From, .int .i64 x1.f_To])), (6, l40 none a1), (7, .int .i64 (a1.length : Int)), (8, .int .i64 (k1 : Int)), (15, l33 none v6), (16, .ptr (.int .i64 x1.f_From)), (17, .int .i64 x1.f_From), (18, .ptr (.int .i64 x1.f_To)), (19, .int .i64 x1.f_To), (20, .agg [.int .i64 x1.f_From, .int .i64 x1.f_To]), (21, l33 (some 21) [(dpDep.mk x1.f_From x1.f_To)]), (22, l33 (some 22) (v6 ++ [(dpDep.mk x1.f_From x1.f_To)]))]) (by kernel_rfl) ?_
    refine WO.fin [3, 6, 7, 8] [] [] [] (e2 := [(3, l33 (some 22) (v6 ++ [(dpDep.mk x1.f_From x1.f_To)])), (6, l40 none a1), (7, .int .i64 (a1.length : Int)), (8, .int .i64 (k1 : Int))]) (by kernel_rfl) (fun _ h => h) ?_
    refine W.region (by kernel_rfl) ?_
    refine WO.pureK 0 (some (.int .i64 (IntKind.wrap .i64 ((k1 : Int) + 1)))) (v := .int .i64 ((k1 + 1 : Nat) : Int)) (by kernel_rfl) (by rw [wrap_succ hl1 hk1]) (e1 := [(3, l33 (some 22) (v6 ++ [(dpDep.mk x1.f_From x1.f_To)])), (6, l40 none a1), (7, .int .i64 (a1.length : Int)), (8, .int .i64 (k1 : Int)), (23, .int .i64 ((k1 + 1 : Nat) : Int))]) (by kernel_rfl) ?_
    refine WO.fin [3, 6, 7, 8] [] [] [(22, some 10300)] (e2 := [(3, l33 (some 10300) (v6 ++ [(dpDep.mk x1.f_From x1.f_To)])), (6, l40 none a1), (7, .int .i64 (a1.length : Int)), (8, .int .i64 ((k1 + 1 : Nat) : Int))]) (by kernel_rfl) (fun _ h => h) ?_
    exact hN1 (v6 ++ [(dpDep.mk x1.f_From x1.f_To)]) h
def sl_IndexFunc_dpDep_j4 : Option Int :=
  (some (-1))
def sl_IndexFunc_dpDep_l1 (g2 : (dpDep → Option Bool)) (K4 : (Option Int)) : List dpDep → Nat → Option Int
  | [], k1 => K4
  | x1 :: r1, k1 => ((g2 x1).bind fun w9 => (bif w9 then (some (k1 : Int)) else (sl_IndexFunc_dpDep_l1 g2 K4 r1 (k1 + 1))))
def sl_IndexFunc_dpDep (a1 : (List dpDep)) (g2 : (dpDep → Option Bool)) : Option Int :=
  (chk (lenOk a1) (sl_IndexFunc_dpDep_l1 g2 (sl_IndexFunc_dpDep_j4) a1 0))
theorem run_sl_IndexFunc_dpDep (a1 : (List dpDep)) (g2 : (dpDep → Option Bool)) (F_g2 : Nat) (C_g2 : List AV) (hok_g2 : okFn Try.prog F_g2 = true) (hrun_g2 : ∀ (x0 : dpDep) r, g2 x0 = some r → Run Try.prog (.call F_g2 ([.agg [.int .i64 x0.f_From, .int .i64 x0.f_To]] ++ C_g2) (.bool r))) (r : Int) (h : sl_IndexFunc_dpDep a1 g2 = some r) : Run Try.prog (.call 92 [l33 none a1, .clo F_g2 C_g2] (.int .i64 r)) := by
  refine call_of_W Try.func92 rfl (by kernel_rfl) (env0 := [(0, l33 none a1), (1, .clo F_g2 C_g2)]) (by kernel_rfl) ?_
  unfold sl_IndexFunc_dpDep at h
  refine W.seq ?_
  refine W.regT [0, 1] [] [] [] (e2 := [(0, l33 none a1), (1, .clo F_g2 C_g2)]) (by kernel_rfl) (by kernel_rfl) (fun _ h => h) ?_
  refine W.seq ?_
  refine W.join (σ := Unit) (fun s => []) (fun s => (sl_IndexFunc_dpDep_j4) = some r) (fun s h => ?_) (fun hK4 => ?_)
  · have h : (sl_IndexFunc_dpDep_j4) = some r := h
    unfold sl_IndexFunc_dpDep_j4 at h
    refine W.seq ?_
    refine W.regT [4] [] [] [] (e2 := [(4, .int .i64 (-1))]) (by kernel_rfl) (by kernel_rfl) (fun _ h => h) ?_
    refine W.weak [4] [] [] [] (env' := [(4, .int .i64 (-1))]) (by kernel_rfl) ?_
    have hr : aresults Try.prog Try.f92 [(4, .int .i64 (-1))] = some (.int .i64 (-1)) := by kernel_rfl
    cases h
    exact W.ret hr
  refine W.seq ?_
  refine W.region (by kernel_rfl) ?_
  refine WO.pureK 1 (some (.int .i64 ((List.map e_dpDep a1).length : Int))) (v := .int .i64 (a1.length : Int)) (by kernel_rfl) (by rw [List.length_map]) (e1 := [(0, l33 none a1), (1, .clo F_g2 C_g2), (6, l33 none a1), (7, .int .i64 (a1.length : Int))]) (by kernel_rfl) ?_
  refine WO.fin [0, 1, 7, 8] [] [] [] (e2 := [(0, l33 none a1), (1, .clo F_g2 C_g2), (7, .int .i64 (a1.length : Int)), (8, .int .i64 0)]) (by kernel_rfl) (fun _ h => h) ?_
  refine W.block ?_
  obtain ⟨hl1, h⟩ := chk_some h
  refine W.weak [0, 1, 7, 8] [] [] [] (env' := [(0, l33 none a1), (1, .clo F_g2 C_g2), (7, .int .i64 (a1.length : Int)), (8, .int .i64 ((0 : Nat) : Int))]) (by kernel_rfl) ?_
  refine W.range (σ := Unit) a1 (fun k1 s => [(0, l33 none a1), (1, .clo F_g2 C_g2), (7, .int .i64 (a1.length : Int)), (8, .int .i64 (k1 : Int))]) (fun r0 k0 s => sl_IndexFunc_dpDep_l1 g2 (sl_IndexFunc_dpDep_j4) r0 k0 = some r) (fun s h => ?_) (fun x1 r1 k1 s hx1 hk1 h hN1 => ?_) () h
  · have h : sl_IndexFunc_dpDep_l1 g2 (sl_IndexFunc_dpDep_j4) [] (a1).length = some r := h
    rw [sl_IndexFunc_dpDep_l1.eq_1] at h
    refine W.seq ?_
    refine W.region (by kernel_rfl) ?_
    refine WO.pureK 0 (some (.bool (decide (((a1).length : Int) < (a1.length : Int))))) (v := .bool false) (by kernel_rfl) (by rw [lt_false (l := a1)]) (e1 := [(0, l33 none a1), (1, .clo F_g2 C_g2), (7, .int .i64 (a1.length : Int)), (8, .int .i64 ((a1).length : Int)), (9, .bool false)]) (by kernel_rfl) ?_
    refine WO.fin ([0, 1, 7, 8, 9]) [] [] [] (e2 := [(0, l33 none a1), (1, .clo F_g2 C_g2), (7, .int .i64 (a1.length : Int)), (8, .int .i64 ((a1).length : Int)), (9, .bool false)]) (by kernel_rfl) (fun _ h => h) ?_
    refine W.seq ?_
    refine W.condB false (by kernel_rfl) (fun h => Bool.noConfusion h) (fun _ => ?_)
    refine W.exit ?_
    refine W.weak [] [] [] [] (env' := []) (by kernel_rfl) ?_
    exact hK4 () h
  · have h : sl_IndexFunc_dpDep_l1 g2 (sl_IndexFunc_dpDep_j4) (x1 :: r1) k1 = some r := h
    rw [sl_IndexFunc_dpDep_l1.eq_2] at h
    refine W.seq ?_
    refine W.region (by kernel_rfl) ?_
    refine WO.pureK 0 (some (.bool (decide ((k1 : Int) < (a1.length : Int))))) (v := .bool true) (by kernel_rfl) (by rw [lt_true hk1]) (e1 := [(0, l33 none a1), (1, .clo F_g2 C_g2), (7, .int .i64 (a1.length : Int)), (8, .int .i64 (k1 : Int)), (9, .bool true)]) (by kernel_rfl) ?_
    refine WO.fin ([0, 1, 7, 8, 9]) [] [] [] (e2 := [(0, l33 none a1), (1, .clo F_g2 C_g2), (7, .int .i64 (a1.length : Int)), (8, .int .i64 (k1 : Int)), (9, .bool true)]) (by kernel_rfl) (fun _ h => h) ?_
    refine W.seq ?_
    refine W.condB true (by kernel_rfl) (fun _ => ?_) (fun h => Bool.noConfusion h)
    refine W.skip ?_
    refine W.weak [0, 1, 7, 8] [] [] [] (env' := [(0, l33 none a1), (1, .clo F_g2 C_g2), (7, .int .i64 (a1.length : Int)), (8, .int .i64 (k1 : Int))]) (by kernel_rfl) ?_
    refine W.seq ?_
    refine W.block ?_
    refine W.seq ?_
    refine W.regT [0, 1, 5, 7, 8] [] [] [] (e2 := [(0, l33 none a1), (1, .clo F_g2 C_g2), (5, .int .i64 (k1 : Int)), (7, .int .i64 (a1.length : Int)), (8, .int .i64 (k1 : Int))]) (by kernel_rfl) (by kernel_rfl) (fun _ h => h) ?_
    refine W.seq ?_
    refine W.region (by kernel_rfl) ?_
    refine WO.pureK 3 (if (0 : Int) ≤ (k1 : Int) then ((List.map e_dpDep a1)[Int.toNat (k1 : Int)]?).map AV.ptr else none) (v := .ptr (.agg [.int .i64 x1.f_From, .int .i64 x1.f_To])) (by kernel_rfl) (idx_nat (f := e_dpDep) hx1) (e1 := [(0, l33 none a1), (1, .clo F_g2 C_g2), (5, .int .i64 (k1 : Int)), (7, .int .i64 (a1.length : Int)), (8, .int .i64 (k1 : Int)), (11, .clo F_g2 C_g2), (12, l33 none a1), (13, .int .i64 (k1 : Int)), (14, .ptr (.agg [.int .i64 x1.f_From, .int .i64 x1.f_To]))]) (by kernel_rfl) ?_
    obtain ⟨w9, hw9, h⟩ := bind_some h
    refine WO.callK 1 (F := F_g2) (l := [.agg [.int .i64 x1.f_From, .int .i64 x1.f_To]]) (C := C_g2) (r := .bool w9) (by kernel_rfl) hok_g2 (hrun_g2 x1 w9 hw9) (e1 := [(0, l33 none a1), (1, .clo F_g2 C_g2), (5, .int .i64 (k1 : Int)), (7, .int .i64 (a1.length : Int)), (8, .int .i64 (k1 : Int)), (11, .clo F_g2 C_g2), (12, l33 none a1), (13, .int .i64 (k1 : Int)), (14, .ptr (.agg [.int .i64 x1.f_From, .int .i64 x1.f_To])), (15, .agg [.int .i64 x1.f_From, .int .i64 x1.f_To]), (16, .bool w9)]) (by kernel_rfl) ?_
    refine WO.fin [0, 1, 5, 7, 8, 16] [] [] [] (e2 := [(0, l33 none a1), (1, .clo F_g2 C_g2), (5, .int .i64 (k1 : Int)), (7, .int .i64 (a1.length : Int)), (8, .int .i64 (k1 : Int)), (16, .bool w9)]) (by kernel_rfl) (fun _ h => h) ?_
    refine W.condB w9 (by kernel_rfl) (fun hb => ?_) (fun hb => ?_)
    · replace h := cond_t hb h
      refine W.seq ?_
      refine W.regT [4] [] [] [] (e2 := [(4, .int .i64 (k1 : Int))]) (by kernel_rfl) (by kernel_rfl) (fun _ h => h) ?_
      refine W.weak [4] [] [] [] (env' := [(4, .int .i64 (k1 : Int))]) (by kernel_rfl) ?_
      have hr : aresults Try.prog Try.f92 [(4, .int .i64 (k1 : Int))] = some (.int .i64 (k1 : Int)) := by kernel_rfl
      cases h
      exact W.ret hr
    replace h := cond_f hb h
    refine W.skip ?_
    refine W.weak [0, 1, 7, 8] [] [] [] (env' := [(0, l33 none a1), (1, .clo F_g2 C_g2), (7, .int .i64 (a1.length : Int)), (8, .int .i64 (k1 : Int))]) (by kernel_rfl) ?_
    refine W.region (by kernel_rfl) ?_
    refine WO.pureK 0 (some (.int .i64 (IntKind.wrap .i64 ((k1 : Int) + 1)))) (v := .int .i64 ((k1 + 1 : Nat) : Int)) (by kernel_rfl) (by rw [wrap_succ hl1 hk1]) (e1 := [(0, l33 none a1), (1, .clo F_g2 C_g2), (7, .int .i64 (a1.length : Int)), (8, .int .i64 (k1 : Int)), (18, .int .i64 ((k1 + 1 : Nat) : Int))]) (by kernel_rfl) ?_
    refine WO.fin [0, 1, 7, 8] [] [] [] (e2 := [(0, l33 none a1), (1, .clo F_g2 C_g2), (7, .int .i64 (a1.length : Int)), (8, .int .i64 ((k1 + 1 : Nat) : Int))]) (by kernel_rfl) (fun _ h => h) ?_
    exact hN1 () h
def sl_ContainsFunc_dpDep (a1 : (List dpDep)) (g2 : (dpDep → Option Bool)) : Option Bool :=
  ((sl_IndexFunc_dpDep a1 g2).bind fun w5 => (some (decide (w5 ≥ 0))))
theorem run_sl_ContainsFunc_dpDep (a1 : (List dpDep)) (g2 : (dpDep → Option Bool)) (F_g2 : Nat) (C_g2 : List AV) (hok_g2 : okFn Try.prog F_g2 = true) (hrun_g2 : ∀ (x0 : dpDep) r, g2 x0 = some r → Run Try.prog (.call F_g2 ([.agg [.int .i64 x0.f_From, .int .i64 x0.f_To]] ++ C_g2) (.bool r))) (r : Bool) (h : sl_ContainsFunc_dpDep a1 g2 = some r) : Run Try.prog (.call 74 [l33 none a1, .clo F_g2 C_g2] (.bool r)) := by
  refine call_of_W Try.func74 rfl (by kernel_rfl) (env0 := [(0, l33 none a1), (1, .clo F_g2 C_g2)]) (by kernel_rfl) ?_
  unfold sl_ContainsFunc_dpDep at h
  refine W.seq ?_
  refine W.regT [0, 1] [] [] [] (e2 := [(0, l33 none a1), (1, .clo F_g2 C_g2)]) (by kernel_rfl) (by kernel_rfl) (fun _ h => h) ?_
  refine W.seq ?_
  refine W.region (by kernel_rfl) ?_
  obtain ⟨w5, hw5, h⟩ := bind_some h
  refine WO.callK 2 (F := 92) (l := [l33 none a1, .clo F_g2 C_g2]) (C := []) (r := .int .i64 w5) (by kernel_rfl) (by kernel_rfl) (run_sl_IndexFunc_dpDep a1 g2 F_g2 C_g2 hok_g2 hrun_g2 w5 hw5) (e1 := [(0, l33 none a1), (1, .clo F_g2 C_g2), (5, l33 none a1), (6, .clo F_g2 C_g2), (7, .int .i64 w5)]) (by kernel_rfl) ?_
  refine WO.fin [4] [] [] [] (e2 := [(4, .bool (decide (w5 ≥ 0)))]) (by kernel_rfl) (fun _ h => h) ?_
  refine W.weak [4] [] [] [] (env' := [(4, .bool (decide (w5 ≥ 0)))]) (by kernel_rfl) ?_
  have hr : aresults Try.prog Try.f74 [(4, .bool (decide (w5 ≥ 0)))] = some (.bool (decide (w5 ≥ 0))) := by kernel_rfl
  cases h
  exact W.ret hr
def sl_IndexFunc_int_j4 : Option Int :=
  (some (-1))
def sl_IndexFunc_int_l1 (g2 : (Int → Option Bool)) (K4 : (Option Int)) : List Int → Nat → Option Int
  | [], k1 => K4
  | x1 :: r1, k1 => ((g2 x1).bind fun w9 => (bif w9 then (some (k1 : Int)) else (sl_IndexFunc_int_l1 g2 K4 r1 (k1 + 1))))
def sl_IndexFunc_int (a1 : (List Int)) (g2 : (Int → Option Bool)) : Option Int :=
  (chk (lenOk a1) (sl_IndexFunc_int_l1 g2 (sl_IndexFunc_int_j4) a1 0))
theorem run_sl_IndexFunc_int (a1 : (List Int)) (g2 : (Int → Option Bool)) (F_g2 : Nat) (C_g2 : List AV) (hok_g2 : okFn Try.prog F_g2 = true) (hrun_g2 : ∀ (x0 : Int) r, g2 x0 = some r → Run Try.prog (.call F_g2 ([.int .i64 x0] ++ C_g2) (.bool r))) (r : Int) (h : sl_IndexFunc_int a1 g2 = some r) : Run Try.prog (.call 78 [l3 none a1, .clo F_g2 C_g2] (.int .i64 r)) := by
  refine call_of_W Try.func78 rfl (by kernel_rfl) (env0 := [(0, l3 none a1), (1, .clo F_g2 C_g2)]) (by kernel_rfl) ?_
  unfold sl_IndexFunc_int at h
  refine W.seq ?_
  refine W.regT [0, 1] [] [] [] (e2 := [(0, l3 none a1), (1, .clo F_g2 C_g2)]) (by kernel_rfl) (by kernel_rfl) (fun _ h => h) ?_
  refine W.seq ?_
  refine W.join (σ := Unit) (fun s => []) (fun s => (sl_IndexFunc_int_j4) = some r) (fun s h => ?_) (fun hK4 => ?_)
  · have h : (sl_IndexFunc_int_j4) = some r := h
    unfold sl_IndexFunc_int_j4 at h
    refine W.seq ?_
    refine W.regT [4] [] [] [] (e2 := [(4, .int .i64 (-1))]) (by kernel_rfl) (by kernel_rfl) (fun _ h => h) ?_
    refine W.weak [4] [] [] [] (env' := [(4, .int .i64 (-1))]) (by kernel_rfl) ?_
    have hr : aresults Try.prog Try.f78 [(4, .int .i64 (-1))] = some (.int .i64 (-1)) := by kernel_rfl
    cases h
    exact W.ret hr
  refine W.seq ?_
  refine W.region (by kernel_rfl) ?_
  refine WO.pureK 1 (some (.int .i64 ((List.map (AV.int .i64) a1).length : Int))) (v := .int .i64 (a1.length : Int)) (by kernel_rfl) (by rw [List.length_map]) (e1 := [(0, l3 none a1), (1, .clo F_g2 C_g2), (6, l3 none a1), (7, .int .i64 (a1.length : Int))]) (by kernel_rfl) ?_
  refine WO.fin [0, 1, 7, 8] [] [] [] (e2 := [(0, l3 none a1), (1, .clo F_g2 C_g2), (7, .int .i64 (a1.length : Int)), (8, .int .i64 0)]) (by kernel_rfl) (fun _ h => h) ?_
  refine W.block ?_
  obtain ⟨hl1, h⟩ := chk_some h
  refine W.weak [0, 1, 7, 8] [] [] [] (env' := [(0, l3 none a1), (1, .clo F_g2 C_g2), (7, .int .i64 (a1.length : Int)), (8, .int .i64 ((0 : Nat) : Int))]) (by kernel_rfl) ?_
  refine W.range (σ := Unit) a1 (fun k1 s => [(0, l3 none a1), (1, .clo F_g2 C_g2), (7, .int .i64 (a1.length : Int)), (8, .int .i64 (k1 : Int))]) (fun r0 k0 s => sl_IndexFunc_int_l1 g2 (sl_IndexFunc_int_j4) r0 k0 = some r) (fun s h => ?_) (fun x1 r1 k1 s hx1 hk1 h hN1 => ?_) () h
  · have h : sl_IndexFunc_int_l1 g2 (sl_IndexFunc_int_j4) [] (a1).length = some r := h
    rw [sl_IndexFunc_int_l1.eq_1] at h
    refine W.seq ?_
    refine W.region (by kernel_rfl) ?_
    refine WO.pureK 0 (some (.bool (decide (((a1).length : Int) < (a1.length : Int))))) (v := .bool false) (by kernel_rfl) (by rw [lt_false (l := a1)]) (e1 := [(0, l3 none a1), (1, .clo F_g2 C_g2), (7, .int .i64 (a1.length : Int)), (8, .int .i64 ((a1).length : Int)), (9, .bool false)]) (by kernel_rfl) ?_
    refine WO.fin ([0, 1, 7, 8, 9]) [] [] [] (e2 := [(0, l3 none a1), (1, .clo F_g2 C_g2), (7, .int .i64 (a1.length : Int)), (8, .int .i64 ((a1).length : Int)), (9, .bool false)]) (by kernel_rfl) (fun _ h => h) ?_
    refine W.seq ?_
    refine W.condB false (by kernel_rfl) (fun h => Bool.noConfusion h) (fun _ => ?_)
    refine W.exit ?_
    refine W.weak [] [] [] [] (env' := []) (by kernel_rfl) ?_
    exact hK4 () h
  · have h : sl_IndexFunc_int_l1 g2 (sl_IndexFunc_int_j4) (x1 :: r1) k1 = some r := h
    rw [sl_IndexFunc_int_l1.eq_2] at h
    refine W.seq ?_
    refine W.region (by kernel_rfl) ?_
    refine WO.pureK 0 (some (.bool (decide ((k1 : Int) < (a1.length : Int))))) (v := .bool true) (by kernel_rfl) (by rw [lt_true hk1]) (e1 := [(0, l3 none a1), (1, .clo F_g2 C_g2), (7, .int .i64 (a1.length : Int)), (8, .int .i64 (k1 : Int)), (9, .bool true)]) (by kernel_rfl) ?_
    refine WO.fin ([0, 1, 7, 8, 9]) [] [] [] (e2 := [(0, l3 none a1), (1, .clo F_g2 C_g2), (7, .int .i64 (a1.length : Int)), (8, .int .i64 (k1 : Int)), (9, .bool true)]) (by kernel_rfl) (fun _ h => h) ?_
    refine W.seq ?_
    refine W.condB true (by kernel_rfl) (fun _ => ?_) (fun h => Bool.noConfusion h)
    refine W.skip ?_
    refine W.weak [0, 1, 7, 8] [] [] [] (env' := [(0, l3 none a1), (1, .clo F_g2 C_g2), (7, .int .i64 (a1.length : Int)), (8, .int .i64 (k1 : Int))]) (by kernel_rfl) ?_
    refine W.seq ?_
    refine W.block ?_
    refine W.seq ?_
    refine W.regT [0, 1, 5, 7, 8] [] [] [] (e2 := [(0, l3 none a1), (1, .clo F_g2 C_g2), (5, .int .i64 (k1 : Int)), (7, .int .i64 (a1.length : Int)), (8, .int .i64 (k1 : Int))]) (by kernel_rfl) (by kernel_rfl) (fun _ h => h) ?_
    refine W.seq ?_
    refine W.region (by kernel_rfl) ?_
    refine WO.pureK 3 (if (0 : Int) ≤ (k1 : Int) then ((List.map (AV.int .i64) a1)[Int.toNat (k1 : Int)]?).map AV.ptr else none) (v := .ptr (.int .i64 x1)) (by kernel_rfl) (idx_nat (f := (AV.int .i64)) hx1) (e1 := [(0, l3 none a1), (1, .clo F_g2 C_g2), (5, .int .i64 (k1 : Int)), (7, .int .i64 (a1.length : Int)), (8, .int .i64 (k1 : Int)), (11, .clo F_g2 C_g2), (12, l3 none a1), (13, .int .i64 (k1 : Int)), (14, .ptr (.int .i64 x1))]) (by kernel_rfl) ?_
    obtain ⟨w9, hw9, h⟩ := bind_some h
    refine WO.callK 1 (F := F_g2) (l := [.int .i64 x1]) (C := C_g2) (r := .bool w9) (by kernel_rfl) hok_g2 (hrun_g2 x1 w9 hw9) (e1 := [(0, l3 none a1), (1, .clo F_g2 C_g2), (5, .int .i64 (k1 : Int)), (7, .int .i64 (a1.length : Int)), (8, .int .i64 (k1 : Int)), (11, .clo F_g2 C_g2), (12, l3 none a1), (13, .int .i64 (k1 : Int)), (14, .ptr (.int .i64 x1)), (15, .int .i64 x1), (16, .bool w9)]) (by kernel_rfl) ?_
    refine WO.fin [0, 1, 5, 7, 8, 16] [] [] [] (e2 := [(0, l3 none a1), (1, .clo F_g2 C_g2), (5, .int .i64 (k1 : Int)), (7, .int .i64 (a1.length : Int)), (8, .int .i64 (k1 : Int)), (16, .bool w9)]) (by kernel_rfl) (fun _ h => h) ?_
    refine W.condB w9 (by kernel_rfl) (fun hb => ?_) (fun hb => ?_)
    · replace h := cond_t hb h
      refine W.seq ?_
      refine W.regT [4] [] [] [] (e2 := [(4, .int .i64 (k1 : Int))]) (by kernel_rfl) (by kernel_rfl) (fun _ h => h) ?_
      refine W.weak [4] [] [] [] (env' := [(4, .int .i64 (k1 : Int))]) (by kernel_rfl) ?_
      have hr : aresults Try.prog Try.f78 [(4, .int .i64 (k1 : Int))] = some (.int .i64 (k1 : Int)) := by kernel_rfl
      cases h
      exact W.ret hr
    replace h := cond_f hb h
    refine W.skip ?_
    refine W.weak [0, 1, 7, 8] [] [] [] (env' := [(0, l3 none a1), (1, .clo F_g2 C_g2), (7, .int .i64 (a1.length : Int)), (8, .int .i64 (k1 : Int))]) (by kernel_rfl) ?_
    refine W.region (by kernel_rfl) ?_
    refine WO.pureK 0 (some (.int .i64 (IntKind.wrap .i64 ((k1 : Int) + 1)))) (v := .int .i64 ((k1 + 1 : Nat) : Int)) (by kernel_rfl) (by rw [wrap_succ hl1 hk1]) (e1 := [(0, l3 none a1), (1, .clo F_g2 C_g2), (7, .int .i64 (a1.length : Int)), (8, .int .i64 (k1 : Int)), (18, .int .i64 ((k1 + 1 : Nat) : Int))]) (by kernel_rfl) ?_
    refine WO.fin [0, 1, 7, 8] [] [] [] (e2 := [(0, l3 none a1), (1, .clo F_g2 C_g2), (7, .int .i64 (a1.length : Int)), (8, .int .i64 ((k1 + 1 : Nat) : Int))]) (by kernel_rfl) (fun _ h => h) ?_
    exact hN1 () h
def sl_ContainsFunc_int (a1 : (List Int)) (g2 : (Int → Option Bool)) : Option Bool :=
  ((sl_IndexFunc_int a1 g2).bind fun w5 => (some (decide (w5 ≥ 0))))
theorem run_sl_ContainsFunc_int (a1 : (List Int)) (g2 : (Int → Option Bool)) (F_g2 : Nat) (C_g2 : List AV) (hok_g2 : okFn Try.prog F_g2 = true) (hrun_g2 : ∀ (x0 : Int) r, g2 x0 = some r → Run Try.prog (.call F_g2 ([.int .i64 x0] ++ C_g2) (.bool r))) (r : Bool) (h : sl_ContainsFunc_int a1 g2 = some r) : Run Try.prog (.call 60 [l3 none a1, .clo F_g2 C_g2] (.bool r)) := by
  refine call_of_W Try.func60 rfl (by kernel_rfl) (env0 := [(0, l3 none a1), (1, .clo F_g2 C_g2)]) (by kernel_rfl) ?_
  unfold sl_ContainsFunc_int at h
  refine W.seq ?_
  refine W.regT [0, 1] [] [] [] (e2 := [(0, l3 none a1), (1, .clo F_g2 C_g2)]) (by kernel_rfl) (by kernel_rfl) (fun _ h => h) ?_
  refine W.seq ?_
  refine W.region (by kernel_rfl) ?_
  obtain ⟨w5, hw5, h⟩ := bind_some h
  refine WO.callK 2 (F := 78) (l := [l3 none a1, .clo F_g2 C_g2]) (C := []) (r := .int .i64 w5) (by kernel_rfl) (by kernel_rfl) (run_sl_IndexFunc_int a1 g2 F_g2 C_g2 hok_g2 hrun_g2 w5 hw5) (e1 := [(0, l3 none a1), (1, .clo F_g2 C_g2), (5, l3 none a1), (6, .clo F_g2 C_g2), (7, .int .i64 w5)]) (by kernel_rfl) ?_
  refine WO.fin [4] [] [] [] (e2 := [(4, .bool (decide (w5 ≥ 0)))]) (by kernel_rfl) (fun _ h => h) ?_
  refine W.weak [4] [] [] [] (env' := [(4, .bool (decide (w5 ≥ 0)))]) (by kernel_rfl) ?_
  have hr : aresults Try.prog Try.f60 [(4, .bool (decide (w5 ≥ 0)))] = some (.bool (decide (w5 ≥ 0))) := by kernel_rfl
  cases h
  exact W.ret hr
def dp_sets_1_j4 (v6 : Bool) : Option Bool :=
  (some v6)
def dp_sets_1 (a1 : Int) (c2 : Int) : Option Bool :=
  (bif (decide (a1 < 0)) then ((dp_sets_1_j4) true) else (chk (decide (0 ≤ c2)) ((dp_sets_1_j4) (decide (a1 ≥ (iShl .i64 1 c2))))))
theorem run_dp_sets_1 (a1 : Int) (c2 : Int) (r : Bool) (h : dp_sets_1 a1 c2 = some r) : Run Try.prog (.call 76 [.int .i64 a1, .ptr (.int .i64 c2)] (.bool r)) := by
  refine call_of_W Try.func76 rfl (by kernel_rfl) (env0 := [(0, .int .i64 a1), (1, .ptr (.int .i64 c2))]) (by kernel_rfl) ?_
  unfold dp_sets_1 at h
  refine W.seq ?_
  refine W.regT [0, 1] [] [] [] (e2 := [(0, .int .i64 a1), (1, .ptr (.int .i64 c2))]) (by kernel_rfl) (by kernel_rfl) (fun _ h => h) ?_
  refine W.seq ?_
  refine W.join (σ := (Bool)) (fun s => [(3, .bool s)]) (fun s => (dp_sets_1_j4) s = some r) (fun s h => ?_) (fun hK4 => ?_)
  · obtain ⟨v6, rfl⟩ : ∃ x, x = s := ⟨s, rfl⟩
    have h : (dp_sets_1_j4) v6 = some r := h
    unfold dp_sets_1_j4 at h
    refine W.weak [3] [] [] [] (env' := [(3, .bool v6)]) (by kernel_rfl) ?_
    have hr : aresults Try.prog Try.f76 [(3, .bool v6)] = some (.bool v6) := by kernel_rfl
    cases h
    exact W.ret hr
  refine W.region (by kernel_rfl) ?_
  refine WO.boolK 3 (fun b => [(0, .int .i64 a1), (1, .ptr (.int .i64 c2)), (4, .int .i64 a1), (5, .bool b), (6, .bool b)]) (decide (a1 < 0)) (by kernel_rfl) (fun hb => ?_) (fun hb => ?_)
  · replace h := cond_t hb h
    refine WO.fin [3] [] [] [] (e2 := [(3, .bool true)]) (by kernel_rfl) (fun _ h => h) ?_
    exact hK4 true h
  replace h := cond_f hb h
  obtain ⟨hc5, h⟩ := chk_some h
  refine WO.pureK 2 (if c2 < 0 then none else some (.int .i64 (iShl .i64 1 c2))) (v := .int .i64 (iShl .i64 1 c2)) (by kernel_rfl) (if_neg (not_lt_of_chk hc5)) (e1 := [(0, .int .i64 a1), (1, .ptr (.int .i64 c2)), (4, .int .i64 a1), (5, .bool false), (6, .bool false), (7, .int .i64 a1), (8, .int .i64 c2), (9, .int .i64 (iShl .i64 1 c2))]) (by kernel_rfl) ?_
  refine WO.fin [3] [] [] [] (e2 := [(3, .bool (decide (a1 ≥ (iShl .i64 1 c2))))]) (by kernel_rfl) (fun _ h => h) ?_
  exact hK4 (decide (a1 ≥ (iShl .i64 1 c2))) h
def dp_sets (a1 : Int) (a2 : (List Int)) : Option Bool :=
  ((sl_ContainsFunc_int a2 (fun y0 => dp_sets_1 y0 a1)).bind fun w5 => (some (!w5)))
theorem run_dp_sets (a1 : Int) (a2 : (List Int)) (r : Bool) (h : dp_sets a1 a2 = some r) : Run Try.prog (.call 58 [.int .i64 a1, l3 none a2] (.bool r)) := by
  refine call_of_W Try.func58 rfl (by kernel_rfl) (env0 := [(0, .int .i64 a1), (1, l3 none a2)]) (by kernel_rfl) ?_
  unfold dp_sets at h
  refine W.seq ?_
  refine W.regT [1, 2] [2] [] [] (e2 := [(1, l3 none a2), (2, .ptr (.int .i64 a1))]) (by kernel_rfl) (by kernel_rfl) (fun _ h => h) ?_
  refine W.seq ?_
  refine W.region (by kernel_rfl) ?_
  obtain ⟨w5, hw5, h⟩ := bind_some h
  refine WO.callK 2 (F := 60) (l := [l3 none a2, .clo 76 [.ptr (.int .i64 a1)]]) (C := []) (r := .bool w5) (by kernel_rfl) (by kernel_rfl) (run_sl_ContainsFunc_int a2 (fun y0 => dp_sets_1 y0 a1) 76 [.ptr (.int .i64 a1)] (by kernel_rfl) (fun y0 r h => run_dp_sets_1 y0 a1 r h) w5 hw5) (e1 := [(1, l3 none a2), (2, .ptr (.int .i64 a1)), (5, l3 none a2), (6, .clo 76 [.ptr (.int .i64 a1)]), (7, .bool w5)]) (by kernel_rfl) ?_
  refine WO.fin [4] [] [] [] (e2 := [(4, .bool (!w5))]) (by kernel_rfl) (fun _ h => h) ?_
  refine W.weak [4] [] [] [] (env' := [(4, .bool (!w5))]) (by kernel_rfl) ?_
  have hr : aresults Try.prog Try.f58 [(4, .bool (!w5))] = some (.bool (!w5)) := by kernel_rfl
  cases h
  exact W.ret hr
def dp_valid_1 (a1 : dpDep) (c2 : Int) : Option Bool :=
  ((dp_sets c2 [a1.f_From, a1.f_To]).bind fun w5 => (some (!w5)))
theorem run_dp_valid_1 (a1 : dpDep) (c2 : Int) (r : Bool) (h : dp_valid_1 a1 c2 = some r) : Run Try.prog (.call 75 [.agg [.int .i64 a1.f_From, .int .i64 a1.f_To], .ptr (.int .i64 c2)] (.bool r)) := by
  refine call_of_W Try.func75 rfl (by kernel_rfl) (env0 := [(0, .agg [.int .i64 a1.f_From, .int .i64 a1.f_To]), (1, .ptr (.int .i64 c2))]) (by kernel_rfl) ?_
  unfold dp_valid_1 at h
  refine W.seq ?_
  refine W.regT [1, 2] [2] [] [] (e2 := [(1, .ptr (.int .i64 c2)), (2, .ptr (.agg [.int .i64 a1.f_From, .int .i64 a1.f_To]))]) (by kernel_rfl) (by kernel_rfl) (fun _ h => h) ?_
  refine W.seq ?_
  refine W.region (by kernel_rfl) ?_
  obtain ⟨w5, hw5, h⟩ := bind_some h
  refine WO.callK 6 (F := 58) (l := [.int .i64 c2, l3 none [a1.f_From, a1.f_To]]) (C := []) (r := .bool w5) (by kernel_rfl) (by kernel_rfl) (run_dp_sets c2 [a1.f_From, a1.f_To] w5 hw5) (e1 := [(1, .ptr (.int .i64 c2)), (2, .ptr (.agg [.int .i64 a1.f_From, .int .i64 a1.f_To])), (4, .int .i64 c2), (5, .ptr (.int .i64 a1.f_From)), (6, .int .i64 a1.f_From), (7, .ptr (.int .i64 a1.f_To)), (8, .int .i64 a1.f_To), (9, l3 (some 9) [a1.f_From, a1.f_To]), (10, .bool w5)]) (by kernel_rfl) ?_
  refine WO.fin [3] [] [] [] (e2 := [(3, .bool (!w5))]) (by kernel_rfl) (fun _ h => h) ?_
  refine W.weak [3] [] [] [] (env' := [(3, .bool (!w5))]) (by kernel_rfl) ?_
  have hr : aresults Try.prog Try.f75 [(3, .bool (!w5))] = some (.bool (!w5)) := by kernel_rfl
  cases h
  exact W.ret hr
def dp_valid_j5 (a1 : Int) (a2 : (List dpDep)) (v6 : Bool) : Option Bool :=
  (bif v6 then (some false) else ((sl_ContainsFunc_dpDep a2 (fun y0 => dp_valid_1 y0 a1)).bind fun w9 => (some (!w9))))
def dp_valid (a1 : Int) (a2 : (List dpDep)) : Option Bool :=
  (bif (decide (a1 < 1)) then ((dp_valid_j5 a1 a2) true) else (bif (decide (a1 > 8)) then ((dp_valid_j5 a1 a2) true) else ((dp_valid_j5 a1 a2) (decide ((a2.length : Int) > 12)))))
theorem run_dp_valid (a1 : Int) (a2 : (List dpDep)) (r : Bool) (h : dp_valid a1 a2 = some r) : Run Try.prog (.call 57 [.int .i64 a1, l33 none a2] (.bool r)) := by
  refine call_of_W Try.func57 rfl (by kernel_rfl) (env0 := [(0, .int .i64 a1), (1, l33 none a2)]) (by kernel_rfl) ?_
  unfold dp_valid at h
  refine W.seq ?_
  refine W.regT [1, 2] [2] [] [] (e2 := [(1, l33 none a2), (2, .ptr (.int .i64 a1))]) (by kernel_rfl) (by kernel_rfl) (fun _ h => h) ?_
  refine W.seq ?_
  refine W.seq ?_
  refine W.join (σ := (Bool)) (fun s => [(1, l33 none a2), (2, .ptr (.int .i64 a1)), (15, .bool s)]) (fun s => (dp_valid_j5 a1 a2) s = some r) (fun s h => ?_) (fun hK5 => ?_)
  · obtain ⟨v6, rfl⟩ : ∃ x, x = s := ⟨s, rfl⟩
    have h : (dp_valid_j5 a1 a2) v6 = some r := h
    unfold dp_valid_j5 at h
    refine W.condB v6 (by kernel_rfl) (fun hb => ?_) (fun hb => ?_)
    · replace h := cond_t hb h
      refine W.seq ?_
      refine W.regT [4] [] [] [] (e2 := [(4, .bool false)]) (by kernel_rfl) (by kernel_rfl) (fun _ h => h) ?_
      refine W.weak [4] [] [] [] (env' := [(4, .bool false)]) (by kernel_rfl) ?_
      have hr : aresults Try.prog Try.f57 [(4, .bool false)] = some (.bool false) := by kernel_rfl
      cases h
      exact W.ret hr
    replace h := cond_f hb h
    refine W.skip ?_
    refine W.weak [1, 2] [] [] [] (env' := [(1, l33 none a2), (2, .ptr (.int .i64 a1))]) (by kernel_rfl) ?_
    refine W.seq ?_
    refine W.region (by kernel_rfl) ?_
    obtain ⟨w9, hw9, h⟩ := bind_some h
    refine WO.callK 2 (F := 74) (l := [l33 none a2, .clo 75 [.ptr (.int .i64 a1)]]) (C := []) (r := .bool w9) (by kernel_rfl) (by kernel_rfl) (run_sl_ContainsFunc_dpDep a2 (fun y0 => dp_valid_1 y0 a1) 75 [.ptr (.int .i64 a1)] (by kernel_rfl) (fun y0 r h => run_dp_valid_1 y0 a1 r h) w9 hw9) (e1 := [(1, l33 none a2), (2, .ptr (.int .i64 a1)), (16, l33 none a2), (17, .clo 75 [.ptr (.int .i64 a1)]), (18, .bool w9)]) (by kernel_rfl) ?_
    refine WO.fin [4] [] [] [] (e2 := [(4, .bool (!w9))]) (by kernel_rfl) (fun _ h => h) ?_
    refine W.weak [4] [] [] [] (env' := [(4, .bool (!w9))]) (by kernel_rfl) ?_
    have hr : aresults Try.prog Try.f57 [(4, .bool (!w9))] = some (.bool (!w9)) := by kernel_rfl
    cases h
    exact W.ret hr
  refine W.region (by kernel_rfl) ?_
  refine WO.boolK 3 (fun b => [(1, l33 none a2), (2, .ptr (.int .i64 a1)), (5, .int .i64 a1), (6, .bool b), (7, .bool b)]) (decide (a1 < 1)) (by kernel_rfl) (fun hb => ?_) (fun hb => ?_)
  · replace h := cond_t hb h
    refine WO.fin [1, 2, 15] [] [] [] (e2 := [(1, l33 none a2), (2, .ptr (.int .i64 a1)), (15, .bool true)]) (by kernel_rfl) (fun _ h => h) ?_
    exact hK5 true h
  replace h := cond_f hb h
  refine WO.boolK 4 (fun b => [(1, l33 none a2), (2, .ptr (.int .i64 a1)), (5, .int .i64 a1), (6, .bool false), (7, .bool false), (8, .int .i64 a1), (9, .bool b), (10, .bool b), (11, .bool b)]) (decide (a1 > 8)) (by kernel_rfl) (fun hb => ?_) (fun hb => ?_)
  · replace h := cond_t hb h
    refine WO.fin [1, 2, 15] [] [] [] (e2 := [(1, l33 none a2), (2, .ptr (.int .i64 a1)), (15, .bool true)]) (by kernel_rfl) (fun _ h => h) ?_
    exact hK5 true h
  replace h := cond_f hb h
  refine WO.pureK 1 (some (.int .i64 ((List.map e_dpDep a2).length : Int))) (v := .int .i64 (a2.length : Int)) (by kernel_rfl) (by rw [List.length_map]) (e1 := [(1, l33 none a2), (2, .ptr (.int .i64 a1)), (5, .int .i64 a1), (6, .bool false), (7, .bool false), (8, .int .i64 a1), (9, .bool false), (10, .bool false), (11, .bool false), (12, l33 none a2), (13, .int .i64 (a2.length : Int))]) (by kernel_rfl) ?_
  refine WO.fin [1, 2, 15] [] [] [] (e2 := [(1, l33 none a2), (2, .ptr (.int .i64 a1)), (15, .bool (decide ((a2.length : Int) > 12)))]) (by kernel_rfl) (fun _ h => h) ?_
  exact hK5 (decide ((a2.length : Int) > 12)) h
def dp_closure (a1 : (List dpDep)) : Option ((List dpDep)) :=
  (some a1)
theorem run_dp_closure (a1 : (List dpDep)) (r : ((List dpDep))) (h : dp_closure a1 = some r) : Run Try.prog (.call 59 [l33 none a1] (.clo 77 [.ptr (l33 none r)])) := by
  refine call_of_W Try.func59 rfl (by kernel_rfl) (env0 := [(0, l33 none a1)]) (by kernel_rfl) ?_
  unfold dp_closure at h
  refine W.seq ?_
  refine W.regT [1] [1] [] [] (e2 := [(1, .ptr (l33 none a1))]) (by kernel_rfl) (by kernel_rfl) (fun _ h => h) ?_
  refine W.seq ?_
  refine W.regT [2] [] [] [] (e2 := [(2, .clo 77 [.ptr (l33 none a1)])]) (by kernel_rfl) (by kernel_rfl) (fun _ h => h) ?_
  refine W.weak [2] [] [] [] (env' := [(2, .clo 77 [.ptr (l33 none a1)])]) (by kernel_rfl) ?_
  have hr : aresults Try.prog Try.f59 [(2, .clo 77 [.ptr (l33 none a1)])] = some (.clo 77 [.ptr (l33 none a1)]) := by kernel_rfl
  cases h
  exact W.ret hr
def dp_violation_j4 (v18 : Int) (v19 : Int) : Option (dpDep × Bool) :=
  (some ((dpDep.mk 0 0), false))
def dp_violation_j14 (k1 : Nat) (a2 : Int) (w13 : Int) (K8 : (Option (dpDep × Bool))) (v16 : Bool) : Option (dpDep × Bool) :=
  (bif v16 then (some ((dpDep.mk (k1 : Int) (iAndNot .i64 (iAnd .i64 w13 a2) (k1 : Int))), true)) else K8)
def dp_violation_j8 (v6 : Int) (v7 : Int) (N1 : (Int → Int → Option (dpDep × Bool))) : Option (dpDep × Bool) :=
  (N1 v6 v7)
def dp_violation_l1 (g1 : (Int → Option Int)) (a2 : Int) (K4 : (Int → Int → Option (dpDep × Bool))) : List Nat → Nat → Int → Int → Option (dpDep × Bool)
  | [], k1, v6, v7 => (K4 v6 v7)
  | x1 :: r1, k1, v6, v7 => (bif ((iAndNot .i64 (k1 : Int) a2) != 0) then (dp_violation_j8 v6 v7 (dp_violation_l1 g1 a2 K4 r1 (k1 + 1))) else ((g1 (k1 : Int)).bind fun w13 => (bif ((iAndNot .i64 (iAnd .i64 w13 a2) (k1 : Int)) != 0) then ((g1 (k1 : Int)).bind fun w15 => ((dp_violation_j14 k1 a2 w13 (dp_violation_j8 v6 v7 (dp_violation_l1 g1 a2 K4 r1 (k1 + 1)))) ((iAndNot .i64 a2 w15) != 0))) else ((dp_violation_j14 k1 a2 w13 (dp_violation_j8 v6 v7 (dp_violation_l1 g1 a2 K4 r1 (k1 + 1)))) false))))
def dp_violation (g1 : (Int → Option Int)) (a2 : Int) : Option (dpDep × Bool) :=
  (chk (lenOk (List.range (Int.toNat (IntKind.wrap .i64 (a2 + 1))))) (dp_violation_l1 g1 a2 (dp_violation_j4) (List.range (Int.toNat (IntKind.wrap .i64 (a2 + 1)))) 0 0 0))
theorem run_dp_violation (g1 : (Int → Option Int)) (F_g1 : Nat) (C_g1 : List AV) (hok_g1 : okFn Try.prog F_g1 = true) (hrun_g1 : ∀ (x0 : Int) r, g1 x0 = some r → Run Try.prog (.call F_g1 ([.int .i64 x0] ++ C_g1) (.int .i64 r))) (a2 : Int) (r : (dpDep × Bool)) (h : dp_violation g1 a2 = some r) : Run Try.prog (.call 68 [.clo F_g1 C_g1, .int .i64 a2] (.tup [.agg [.int .i64 r.1.f_From, .int .i64 r.1.f_To], .bool r.2])) := by
  refine call_of_W Try.func68 rfl (by kernel_rfl) (env0 := [(0, .clo F_g1 C_g1), (1, .int .i64 a2)]) (by kernel_rfl) ?_
  unfold dp_violation at h
  refine W.seq ?_
  refine W.regT [0, 1, 4] [] [] [] (e2 := [(0, .clo F_g1 C_g1), (1, .int .i64 a2), (4, .box [.int .i64 0, .int .i64 0])]) (by kernel_rfl) (by kernel_rfl) (fun _ h => h) ?_
  refine W.seq ?_
  refine W.join (σ := (Int × Int)) (fun s => [(4, .box [.int .i64 s.1, .int .i64 s.2])]) (fun s => (dp_violation_j4) s.1 s.2 = some r) (fun s h => ?_) (fun hK4 => ?_)
  · obtain ⟨v18, v19⟩ := s
    have h : (dp_violation_j4) v18 v19 = some r := h
    unfold dp_violation_j4 at h
    refine W.seq ?_
    refine W.regT [4, 5] [] [] [] (e2 := [(4, .box [.int .i64 0, .int .i64 0]), (5, .bool false)]) (by kernel_rfl) (by kernel_rfl) (fun _ h => h) ?_
    refine W.weak [4, 5] [] [] [] (env' := [(4, .box [.int .i64 0, .int .i64 0]), (5, .bool false)]) (by kernel_rfl) ?_
    have hr : aresults Try.prog Try.f68 [(4, .box [.int .i64 0, .int .i64 0]), (5, .bool false)] = some (.tup [.agg [.int .i64 0, .int .i64 0], .bool false]) := by kernel_rfl
    cases h
    exact W.ret hr
  refine W.seq ?_
  refine W.regT [0, 1, 4, 9, 10] [] [] [] (e2 := [(0, .clo F_g1 C_g1), (1, .int .i64 a2), (4, .box [.int .i64 0, .int .i64 0]), (9, .int .i64 (IntKind.wrap .i64 (a2 + 1))), (10, .int .i64 0)]) (by kernel_rfl) (by kernel_rfl) (fun _ h => h) ?_
  refine W.block ?_
  obtain ⟨hl1, h⟩ := chk_some h
  refine W.weak [0, 1, 4, 9, 10] [] [] [] (env' := [(0, .clo F_g1 C_g1), (1, .int .i64 a2), (4, .box [.int .i64 0, .int .i64 0]), (9, .int .i64 (IntKind.wrap .i64 (a2 + 1))), (10, .int .i64 ((0 : Nat) : Int))]) (by kernel_rfl) ?_
  refine W.range (σ := (Int × Int)) (List.range (Int.toNat (IntKind.wrap .i64 (a2 + 1)))) (fun k1 s => [(0, .clo F_g1 C_g1), (1, .int .i64 a2), (4, .box [.int .i64 s.1, .int .i64 s.2]), (9, .int .i64 (IntKind.wrap .i64 (a2 + 1))), (10, .int .i64 (k1 : Int))]) (fun r0 k0 s => dp_violation_l1 g1 a2 (dp_violation_j4) r0 k0 s.1 s.2 = some r) (fun s h => ?_) (fun x1 r1 k1 s hx1 hk1 h hN1 => ?_) (0, 0) h
  · obtain ⟨v6, v7⟩ := s
    have h : dp_violation_l1 g1 a2 (dp_violation_j4) [] ((List.range (Int.toNat (IntKind.wrap .i64 (a2 + 1))))).length v6 v7 = some r := h
    rw [dp_violation_l1.eq_1] at h
    refine W.seq ?_
    refine W.region (by kernel_rfl) ?_
    refine WO.pureK 0 (some (.bool (decide ((((List.range (Int.toNat (IntKind.wrap .i64 (a2 + 1))))).length : Int) < (IntKind.wrap .i64 (a2 + 1)))))) (v := .bool false) (by kernel_rfl) (by rw [ltr_false (n := (IntKind.wrap .i64 (a2 + 1)))]) (e1 := [(0, .clo F_g1 C_g1), (1, .int .i64 a2), (4, .box [.int .i64 v6, .int .i64 v7]), (9, .int .i64 (IntKind.wrap .i64 (a2 + 1))), (10, .int .i64 (((List.range (Int.toNat (IntKind.wrap .i64 (a2 + 1))))).length : Int)), (11, .bool false)]) (by kernel_rfl) ?_
    refine WO.fin ([0, 1, 4, 9, 10, 11]) [] [] [] (e2 := [(0, .clo F_g1 C_g1), (1, .int .i64 a2), (4, .box [.int .i64 v6, .int .i64 v7]), (9, .int .i64 (IntKind.wrap .i64 (a2 + 1))), (10, .int .i64 (((List.range (Int.toNat (IntKind.wrap .i64 (a2 + 1))))).length : Int)), (11, .bool false)]) (by kernel_rfl) (fun _ h => h) ?_
    refine W.seq ?_
    refine W.condB false (by kernel_rfl) (fun h => Bool.noConfusion h) (fun _ => ?_)
    refine W.exit ?_
    refine W.weak [4] [] [] [] (env' := [(4, .box [.int .i64 v6, .int .i64 v7])]) (by kernel_rfl) ?_
    exact hK4 (v6, v7) h
  · obtain ⟨v6, v7⟩ := s
    have h : dp_violation_l1 g1 a2 (dp_violation_j4) (x1 :: r1) k1 v6 v7 = some r := h
    rw [dp_violation_l1.eq_2] at h
    refine W.seq ?_
    refine W.region (by kernel_rfl) ?_
    refine WO.pureK 0 (some (.bool (decide ((k1 : Int) < (IntKind.wrap .i64 (a2 + 1)))))) (v := .bool true) (by kernel_rfl) (by rw [ltr_true hk1]) (e1 := [(0, .clo F_g1 C_g1), (1, .int .i64 a2), (4, .box [.int .i64 v6, .int .i64 v7]), (9, .int .i64 (IntKind.wrap .i64 (a2 + 1))), (10, .int .i64 (k1 : Int)), (11, .bool true)]) (by kernel_rfl) ?_
    refine WO.fin ([0, 1, 4, 9, 10, 11]) [] [] [] (e2 := [(0, .clo F_g1 C_g1), (1, .int .i64 a2), (4, .box [.int .i64 v6, .int .i64 v7]), (9, .int .i64 (IntKind.wrap .i64 (a2 + 1))), (10, .int .i64 (k1 : Int)), (11, .bool true)]) (by kernel_rfl) (fun _ h => h) ?_
    refine W.seq ?_
    refine W.condB true (by kernel_rfl) (fun _ => ?_) (fun h => Bool.noConfusion h)
    refine W.skip ?_
    refine W.weak [0, 1, 4, 9, 10] [] [] [] (env' := [(0, .clo F_g1 C_g1), (1, .int .i64 a2), (4, .box [.int .i64 v6, .int .i64 v7]), (9, .int .i64 (IntKind.wrap .i64 (a2 + 1))), (10, .int .i64 (k1 : Int))]) (by kernel_rfl) ?_
    refine W.seq ?_
    refine W.join (σ := Unit) (fun s => [(0, .clo F_g1 C_g1), (1, .int .i64 a2), (4, .box [.int .i64 v6, .int .i64 v7]), (9, .int .i64 (IntKind.wrap .i64 (a2 + 1))), (10, .int .i64 (k1 : Int))]) (fun s => (dp_violation_j8 v6 v7 (dp_violation_l1 g1 a2 (dp_violation_j4) r1 (k1 + 1))) = some r) (fun s h => ?_) (fun hK8 => ?_)
    · have h : (dp_violation_j8 v6 v7 (dp_violation_l1 g1 a2 (dp_violation_j4) r1 (k1 + 1))) = some r := h
      unfold dp_violation_j8 at h
      refine W.region (by kernel_rfl) ?_
      refine WO.pureK 0 (some (.int .i64 (IntKind.wrap .i64 ((k1 : Int) + 1)))) (v := .int .i64 ((k1 + 1 : Nat) : Int)) (by kernel_rfl) (by rw [wrap_succ hl1 hk1]) (e1 := [(0, .clo F_g1 C_g1), (1, .int .i64 a2), (4, .box [.int .i64 v6, .int .i64 v7]), (9, .int .i64 (IntKind.wrap .i64 (a2 + 1))), (10, .int .i64 (k1 : Int)), (37, .int .i64 ((k1 + 1 : Nat) : Int))]) (by kernel_rfl) ?_
      refine WO.fin [0, 1, 4, 9, 10] [] [] [] (e2 := [(0, .clo F_g1 C_g1), (1, .int .i64 a2), (4, .box [.int .i64 v6, .int .i64 v7]), (9, .int .i64 (IntKind.wrap .i64 (a2 + 1))), (10, .int .i64 ((k1 + 1 : Nat) : Int))]) (by kernel_rfl) (fun _ h => h) ?_
      exact hN1 (v6, v7) h
    refine W.block ?_
    refine W.seq ?_
    refine W.regT [0, 1, 4, 6, 9, 10] [] [] [] (e2 := [(0, .clo F_g1 C_g1), (1, .int .i64 a2), (4, .box [.int .i64 v6, .int .i64 v7]), (6, .int .i64 (k1 : Int)), (9, .int .i64 (IntKind.wrap .i64 (a2 + 1))), (10, .int .i64 (k1 : Int))]) (by kernel_rfl) (by kernel_rfl) (fun _ h => h) ?_
    refine W.seq ?_
    refine W.seq ?_
    refine W.regT [0, 1, 4, 6, 9, 10, 16] [] [] [] (e2 := [(0, .clo F_g1 C_g1), (1, .int .i64 a2), (4, .box [.int .i64 v6, .int .i64 v7]), (6, .int .i64 (k1 : Int)), (9, .int .i64 (IntKind.wrap .i64 (a2 + 1))), (10, .int .i64 (k1 : Int)), (16, .bool ((iAndNot .i64 (k1 : Int) a2) != 0))]) (by kernel_rfl) (by kernel_rfl) (fun _ h => h) ?_
    refine W.condB ((iAndNot .i64 (k1 : Int) a2) != 0) (by kernel_rfl) (fun hb => ?_) (fun hb => ?_)
    · replace h := cond_t hb h
      refine W.exit ?_
      refine W.weak [0, 1, 4, 9, 10] [] [] [] (env' := [(0, .clo F_g1 C_g1), (1, .int .i64 a2), (4, .box [.int .i64 v6, .int .i64 v7]), (9, .int .i64 (IntKind.wrap .i64 (a2 + 1))), (10, .int .i64 (k1 : Int))]) (by kernel_rfl) ?_
      exact hK8 () h
    replace h := cond_f hb h
    refine W.skip ?_
    refine W.weak [0, 1, 4, 6, 9, 10] [] [] [] (env' := [(0, .clo F_g1 C_g1), (1, .int .i64 a2), (4, .box [.int .i64 v6, .int .i64 v7]), (6, .int .i64 (k1 : Int)), (9, .int .i64 (IntKind.wrap .i64 (a2 + 1))), (10, .int .i64 (k1 : Int))]) (by kernel_rfl) ?_
    refine W.seq ?_
    refine W.region (by kernel_rfl) ?_
    obtain ⟨w13, hw13, h⟩ := bind_some h
    refine WO.callK 2 (F := F_g1) (l := [.int .i64 (k1 : Int)]) (C := C_g1) (r := .int .i64 w13) (by kernel_rfl) hok_g1 (hrun_g1 (k1 : Int) w13 hw13) (e1 := [(0, .clo F_g1 C_g1), (1, .int .i64 a2), (4, .box [.int .i64 v6, .int .i64 v7]), (6, .int .i64 (k1 : Int)), (9, .int .i64 (IntKind.wrap .i64 (a2 + 1))), (10, .int .i64 (k1 : Int)), (17, .clo F_g1 C_g1), (18, .int .i64 (k1 : Int)), (19, .int .i64 w13)]) (by kernel_rfl) ?_
    refine WO.fin [0, 1, 4, 6, 7, 9, 10] [] [] [] (e2 := [(0, .clo F_g1 C_g1), (1, .int .i64 a2), (4, .box [.int .i64 v6, .int .i64 v7]), (6, .int .i64 (k1 : Int)), (7, .int .i64 (iAndNot .i64 (iAnd .i64 w13 a2) (k1 : Int))), (9, .int .i64 (IntKind.wrap .i64 (a2 + 1))), (10, .int .i64 (k1 : Int))]) (by kernel_rfl) (fun _ h => h) ?_
    refine W.seq ?_
    refine W.join (σ := (Bool)) (fun s => [(0, .clo F_g1 C_g1), (1, .int .i64 a2), (4, .box [.int .i64 v6, .int .i64 v7]), (6, .int .i64 (k1 : Int)), (7, .int .i64 (iAndNot .i64 (iAnd .i64 w13 a2) (k1 : Int))), (9, .int .i64 (IntKind.wrap .i64 (a2 + 1))), (10, .int .i64 (k1 : Int)), (33, .bool s)]) (fun s => (dp_violation_j14 k1 a2 w13 (dp_violation_j8 v6 v7 (dp_violation_l1 g1 a2 (dp_violation_j4) r1 (k1 + 1)))) s = some r) (fun s h => ?_) (fun hK14 => ?_)
    · obtain ⟨v16, rfl⟩ : ∃ x, x = s := ⟨s, rfl⟩
      have h : (dp_violation_j14 k1 a2 w13 (dp_violation_j8 v6 v7 (dp_violation_l1 g1 a2 (dp_violation_j4) r1 (k1 + 1)))) v16 = some r := h
      unfold dp_violation_j14 at h
      refine W.condB v16 (by kernel_rfl) (fun hb => ?_) (fun hb => ?_)
      · replace h := cond_t hb h
        refine W.seq ?_
        refine W.regT [4, 5] [] [] [] (e2 := [(4, .box [.int .i64 (k1 : Int), .int .i64 (iAndNot .i64 (iAnd .i64 w13 a2) (k1 : Int))]), (5, .bool true)]) (by kernel_rfl) (by kernel_rfl) (fun _ h => h) ?_
        refine W.weak [4, 5] [] [] [] (env' := [(4, .box [.int .i64 (k1 : Int), .int .i64 (iAndNot .i64 (iAnd .i64 w13 a2) (k1 : Int))]), (5, .bool true)]) (by kernel_rfl) ?_
        have hr : aresults Try.prog Try.f68 [(4, .box [.int .i64 (k1 : Int), .int .i64 (iAndNot .i64 (iAnd .i64 w13 a2) (k1 : Int))]), (5, .bool true)] = some (.tup [.agg [.int .i64 (k1 : Int), .int .i64 (iAndNot .i64 (iAnd .i64 w13 a2) (k1 : Int))], .bool true]) := by kernel_rfl
        cases h
        exact W.ret hr
      replace h := cond_f hb h
      refine W.skip ?_
      refine W.weak [0, 1, 4, 9, 10] [] [] [] (env' := [(0, .clo F_g1 C_g1), (1, .int .i64 a2), (4, .box [.int .i64 v6, .int .i64 v7]), (9, .int .i64 (IntKind.wrap .i64 (a2 + 1))), (10, .int .i64 (k1 : Int))]) (by kernel_rfl) ?_
      exact hK8 () h
    refine W.region (by kernel_rfl) ?_
    refine WO.boolK 3 (fun b => [(0, .clo F_g1 C_g1), (1, .int .i64 a2), (4, .box [.int .i64 v6, .int .i64 v7]), (6, .int .i64 (k1 : Int)), (7, .int .i64 (iAndNot .i64 (iAnd .i64 w13 a2) (k1 : Int))), (9, .int .i64 (IntKind.wrap .i64 (a2 + 1))), (10, .int .i64 (k1 : Int)), (24, .int .i64 (iAndNot .i64 (iAnd .i64 w13 a2) (k1 : Int))), (25, .bool b), (26, .bool b)]) ((iAndNot .i64 (iAnd .i64 w13 a2) (k1 : Int)) != 0) (by kernel_rfl) (fun hb => ?_) (fun hb => ?_)
    · replace h := cond_t hb h
      obtain ⟨w15, hw15, h⟩ := bind_some h
      refine WO.callK 3 (F := F_g1) (l := [.int .i64 (k1 : Int)]) (C := C_g1) (r := .int .i64 w15) (by kernel_rfl) hok_g1 (hrun_g1 (k1 : Int) w15 hw15) (e1 := [(0, .clo F_g1 C_g1), (1, .int .i64 a2), (4, .box [.int .i64 v6, .int .i64 v7]), (6, .int .i64 (k1 : Int)), (7, .int .i64 (iAndNot .i64 (iAnd .i64 w13 a2) (k1 : Int))), (9, .int .i64 (IntKind.wrap .i64 (a2 + 1))), (10, .int .i64 (k1 : Int)), (24, .int .i64 (iAndNot .i64 (iAnd .i64 w13 a2) (k1 : Int))), (25, .bool true), (26, .bool true), (27, .int .i64 a2), (28, .clo F_g1 C_g1), (29, .int .i64 (k1 : Int)), (30, .int .i64 w15)]) (by kernel_rfl) ?_
      refine WO.fin [0, 1, 4, 6, 7, 9, 10, 33] [] [] [] (e2 := [(0, .clo F_g1 C_g1), (1, .int .i64 a2), (4, .box [.int .i64 v6, .int .i64 v7]), (6, .int .i64 (k1 : Int)), (7, .int .i64 (iAndNot .i64 (iAnd .i64 w13 a2) (k1 : Int))), (9, .int .i64 (IntKind.wrap .i64 (a2 + 1))), (10, .int .i64 (k1 : Int)), (33, .bool ((iAndNot .i64 a2 w15) != 0))]) (by kernel_rfl) (fun _ h => h) ?_
      exact hK14 ((iAndNot .i64 a2 w15) != 0) h
    replace h := cond_f hb h
    refine WO.fin [0, 1, 4, 6, 7, 9, 10, 33] [] [] [] (e2 := [(0, .clo F_g1 C_g1), (1, .int .i64 a2), (4, .box [.int .i64 v6, .int .i64 v7]), (6, .int .i64 (k1 : Int)), (7, .int .i64 (iAndNot .i64 (iAnd .i64 w13 a2) (k1 : Int))), (9, .int .i64 (IntKind.wrap .i64 (a2 + 1))), (10, .int .i64 (k1 : Int)), (33, .bool false)]) (by kernel_rfl) (fun _ h => h) ?_
    exact hK14 false h
def dp_closure_1_j4 (v21 : Int) : Option Int :=
  (some v21)
def dp_closure_1_j14 (N2 : (Int → Bool → Option Int)) (v19 : Int) (v20 : Bool) : Option Int :=
  (N2 v19 v20)
def dp_closure_1_j16 (x2 : dpDep) (v12 : Int) (v13 : Bool) (K14 : (Int → Bool → Option Int)) (v17 : Bool) : Option Int :=
  (bif v17 then (K14 (iOr .i64 v12 x2.f_To) true) else (K14 v12 v13))
def dp_closure_1_l2 (N1 : (Int → Bool → Option Int)) : List dpDep → Nat → Int → Bool → Option Int
  | [], k2, v12, v13 => (N1 v12 v13)
  | x2 :: r2, k2, v12, v13 => (bif ((iAndNot .i64 x2.f_From v12) == 0) then ((dp_closure_1_j16 x2 v12 v13 (dp_closure_1_j14 (dp_closure_1_l2 N1 r2 (k2 + 1)))) ((iAndNot .i64 x2.f_To v12) != 0)) else ((dp_closure_1_j16 x2 v12 v13 (dp_closure_1_j14 (dp_closure_1_l2 N1 r2 (k2 + 1)))) false))
def dp_closure_1_l1 (c2 : (List dpDep)) (K4 : (Int → Option Int)) : Nat → Int → Bool → Option Int
  | 0, _, _ => none
  | m1 + 1, v6, v7 => (bif v7 then (chk (lenOk c2) (dp_closure_1_l2 (dp_closure_1_l1 c2 K4 m1) c2 0 v6 false)) else (K4 v6))
def dp_closure_1 (fuel : Nat) (a1 : Int) (c2 : (List dpDep)) : Option Int :=
  (dp_closure_1_l1 c2 (dp_closure_1_j4) fuel a1 true)
theorem run_dp_closure_1 (fuel : Nat) (a1 : Int) (c2 : (List dpDep)) (r : Int) (h : dp_closure_1 fuel a1 c2 = some r) : Run Try.prog (.call 77 [.int .i64 a1, .ptr (l33 none c2)] (.int .i64 r)) := by
  refine call_of_W Try.func77 rfl (by kernel_rfl) (env0 := [(0, .int .i64 a1), (1, .ptr (l33 none c2))]) (by kernel_rfl) ?_
  unfold dp_closure_1 at h
  refine W.seq ?_
  refine W.regT [0, 1] [] [] [] (e2 := [(0, .int .i64 a1), (1, .ptr (l33 none c2))]) (by kernel_rfl) (by kernel_rfl) (fun _ h => h) ?_
  refine W.seq ?_
  refine W.join (σ := (Int)) (fun s => [(0, .int .i64 s)]) (fun s => (dp_closure_1_j4) s = some r) (fun s h => ?_) (fun hK4 => ?_)
  · obtain ⟨v21, rfl⟩ : ∃ x, x = s := ⟨s, rfl⟩
    have h : (dp_closure_1_j4) v21 = some r := h
    unfold dp_closure_1_j4 at h
    refine W.seq ?_
    refine W.regT [3] [] [] [] (e2 := [(3, .int .i64 v21)]) (by kernel_rfl) (by kernel_rfl) (fun _ h => h) ?_
    refine W.weak [3] [] [] [] (env' := [(3, .int .i64 v21)]) (by kernel_rfl) ?_
    have hr : aresults Try.prog Try.f77 [(3, .int .i64 v21)] = some (.int .i64 v21) := by kernel_rfl
    cases h
    exact W.ret hr
  refine W.seq ?_
  refine W.regT [0, 1, 4] [] [] [] (e2 := [(0, .int .i64 a1), (1, .ptr (l33 none c2)), (4, .bool true)]) (by kernel_rfl) (by kernel_rfl) (fun _ h => h) ?_
  refine W.block ?_
  refine W.weak [0, 1, 4] [] [] [] (env' := [(0, .int .i64 a1), (1, .ptr (l33 none c2)), (4, .bool true)]) (by kernel_rfl) ?_
  refine W.fuel (σ := (Int × Bool)) (fun s => [(0, .int .i64 s.1), (1, .ptr (l33 none c2)), (4, .bool s.2)]) (fun m0 s => dp_closure_1_l1 c2 (dp_closure_1_j4) m0 s.1 s.2 = some r) (fun s h => ?_) (fun m1 s h hN1 => ?_) fuel (a1, true) h
  · obtain ⟨v6, v7⟩ := s
    have h : dp_closure_1_l1 c2 (dp_closure_1_j4) 0 v6 v7 = some r := h
    rw [dp_closure_1_l1.eq_1] at h
    cases h
  · obtain ⟨v6, v7⟩ := s
    have h : dp_closure_1_l1 c2 (dp_closure_1_j4) (m1 + 1) v6 v7 = some r := h
    rw [dp_closure_1_l1.eq_2] at h
    refine W.seq ?_
    refine W.seq ?_
    refine W.regT [0, 1, 7] [] [] [] (e2 := [(0, .int .i64 v6), (1, .ptr (l33 none c2)), (7, .bool v7)]) (by kernel_rfl) (by kernel_rfl) (fun _ h => h) ?_
    refine W.condB v7 (by kernel_rfl) (fun hb => ?_) (fun hb => ?_)
    · replace h := cond_t hb h
      refine W.skip ?_
      refine W.weak [0, 1] [] [] [] (env' := [(0, .int .i64 v6), (1, .ptr (l33 none c2))]) (by kernel_rfl) ?_
      refine W.block ?_
      refine W.seq ?_
      refine W.regT [0, 1, 4] [] [] [] (e2 := [(0, .int .i64 v6), (1, .ptr (l33 none c2)), (4, .bool false)]) (by kernel_rfl) (by kernel_rfl) (fun _ h => h) ?_
      refine W.seq ?_
      refine W.region (by kernel_rfl) ?_
      refine WO.pureK 1 (some (.int .i64 ((List.map e_dpDep c2).length : Int))) (v := .int .i64 (c2.length : Int)) (by kernel_rfl) (by rw [List.length_map]) (e1 := [(0, .int .i64 v6), (1, .ptr (l33 none c2)), (4, .bool false), (8, l33 none c2), (9, .int .i64 (c2.length : Int))]) (by kernel_rfl) ?_
      refine WO.fin [0, 1, 4, 8, 9, 10] [] [] [] (e2 := [(0, .int .i64 v6), (1, .ptr (l33 none c2)), (4, .bool false), (8, l33 none c2), (9, .int .i64 (c2.length : Int)), (10, .int .i64 0)]) (by kernel_rfl) (fun _ h => h) ?_
      refine W.block ?_
      obtain ⟨hl2, h⟩ := chk_some h
      refine W.weak [0, 1, 4, 8, 9, 10] [] [] [] (env' := [(0, .int .i64 v6), (1, .ptr (l33 none c2)), (4, .bool false), (8, l33 none c2), (9, .int .i64 (c2.length : Int)), (10, .int .i64 ((0 : Nat) : Int))]) (by kernel_rfl) ?_
      refine W.range (σ := (Int × Bool)) c2 (fun k2 s => [(0, .int .i64 s.1), (1, .ptr (l33 none c2)), (4, .bool s.2), (8, l33 none c2), (9, .int .i64 (c2.length : Int)), (10, .int .i64 (k2 : Int))]) (fun r0 k0 s => dp_closure_1_l2 (dp_closure_1_l1 c2 (dp_closure_1_j4) m1) r0 k0 s.1 s.2 = some r) (fun s h => ?_) (fun x2 r2 k2 s hx2 hk2 h hN2 => ?_) (v6, false) h
      · obtain ⟨v12, v13⟩ := s
        have h : dp_closure_1_l2 (dp_closure_1_l1 c2 (dp_closure_1_j4) m1) [] (c2).length v12 v13 = some r := h
        rw [dp_closure_1_l2.eq_1] at h
        refine W.seq ?_
        refine W.region (by kernel_rfl) ?_
        refine WO.pureK 0 (some (.bool (decide (((c2).length : Int) < (c2.length : Int))))) (v := .bool false) (by kernel_rfl) (by rw [lt_false (l := c2)]) (e1 := [(0, .int .i64 v12), (1, .ptr (l33 none c2)), (4, .bool v13), (8, l33 none c2), (9, .int .i64 (c2.length : Int)), (10, .int .i64 ((c2).length : Int)), (11, .bool false)]) (by kernel_rfl) ?_
        refine WO.fin ([0, 1, 4, 8, 9, 10, 11]) [] [] [] (e2 := [(0, .int .i64 v12), (1, .ptr (l33 none c2)), (4, .bool v13), (8, l33 none c2), (9, .int .i64 (c2.length : Int)), (10, .int .i64 ((c2).length : Int)), (11, .bool false)]) (by kernel_rfl) (fun _ h => h) ?_
        refine W.seq ?_
        refine W.condB false (by kernel_rfl) (fun h => Bool.noConfusion h) (fun _ => ?_)
        refine W.exit ?_
        refine W.weak [0, 1, 4] [] [] [] (env' := [(0, .int .i64 v12), (1, .ptr (l33 none c2)), (4, .bool v13)]) (by kernel_rfl) ?_
        exact hN1 (v12, v13) h
      · obtain ⟨v12, v13⟩ := s
        have h : dp_closure_1_l2 (dp_closure_1_l1 c2 (dp_closure_1_j4) m1) (x2 :: r2) k2 v12 v13 = some r := h
        rw [dp_closure_1_l2.eq_2] at h
        refine W.seq ?_
        refine W.region (by kernel_rfl) ?_
        refine WO.pureK 0 (some (.bool (decide ((k2 : Int) < (c2.length : Int))))) (v := .bool true) (by kernel_rfl) (by rw [lt_true hk2]) (e1 := [(0, .int .i64 v12), (1, .ptr (l33 none c2)), (4, .bool v13), (8, l33 none c2), (9, .int .i64 (c2.length : Int)), (10, .int .i64 (k2 : Int)), (11, .bool true)]) (by kernel_rfl) ?_
        refine WO.fin ([0, 1, 4, 8, 9, 10, 11]) [] [] [] (e2 := [(0, .int .i64 v12), (1, .ptr (l33 none c2)), (4, .bool v13), (8, l33 none c2), (9, .int .i64 (c2.length : Int)), (10, .int .i64 (k2 : Int)), (11, .bool true)]) (by kernel_rfl) (fun _ h => h) ?_
        refine W.seq ?_
        refine W.condB true (by kernel_rfl) (fun _ => ?_) (fun h => Bool.noConfusion h)
        refine W.skip ?_
        refine W.weak [0, 1, 4, 8, 9, 10] [] [] [] (env' := [(0, .int .i64 v12), (1, .ptr (l33 none c2)), (4, .bool v13), (8, l33 none c2), (9, .int .i64 (c2.length : Int)), (10, .int .i64 (k2 : Int))]) (by kernel_rfl) ?_
        refine W.seq ?_
        refine W.join (σ := (Int × Bool)) (fun s => [(0, .int .i64 s.1), (1, .ptr (l33 none c2)), (4, .bool s.2), (8, l33 none c2), (9, .int .i64 (c2.length : Int)), (10, .int .i64 (k2 : Int))]) (fun s => (dp_closure_1_j14 (dp_closure_1_l2 (dp_closure_1_l1 c2 (dp_closure_1_j4) m1) r2 (k2 + 1))) s.1 s.2 = some r) (fun s h => ?_) (fun hK14 => ?_)
        · obtain ⟨v19, v20⟩ := s
          have h : (dp_closure_1_j14 (dp_closure_1_l2 (dp_closure_1_l1 c2 (dp_closure_1_j4) m1) r2 (k2 + 1))) v19 v20 = some r := h
          unfold dp_closure_1_j14 at h
          refine W.region (by kernel_rfl) ?_
          refine WO.pureK 0 (some (.int .i64 (IntKind.wrap .i64 ((k2 : Int) + 1)))) (v := .int .i64 ((k2 + 1 : Nat) : Int)) (by kernel_rfl) (by rw [wrap_succ hl2 hk2]) (e1 := [(0, .int .i64 v19), (1, .ptr (l33 none c2)), (4, .bool v20), (8, l33 none c2), (9, .int .i64 (c2.length : Int)), (10, .int .i64 (k2 : Int)), (30, .int .i64 ((k2 + 1 : Nat) : Int))]) (by kernel_rfl) ?_
          refine WO.fin [0, 1, 4, 8, 9, 10] [] [] [] (e2 := [(0, .int .i64 v19), (1, .ptr (l33 none c2)), (4, .bool v20), (8, l33 none c2), (9, .int .i64 (c2.length : Int)), (10, .int .i64 ((k2 + 1 : Nat) : Int))]) (by kernel_rfl) (fun _ h => h) ?_
          exact hN2 (v19, v20) h
        refine W.block ?_
        refine W.seq ?_
        refine W.region (by kernel_rfl) ?_
        refine WO.pureK 0 (if (0 : Int) ≤ (k2 : Int) then ((List.map e_dpDep c2)[Int.toNat (k2 : Int)]?).map AV.ptr else none) (v := .ptr (.agg [.int .i64 x2.f_From, .int .i64 x2.f_To])) (by kernel_rfl) (idx_nat (f := e_dpDep) hx2) (e1 := [(0, .int .i64 v12), (1, .ptr (l33 none c2)), (4, .bool v13), (8, l33 none c2), (9, .int .i64 (c2.length : Int)), (10, .int .i64 (k2 : Int)), (12, .ptr (.agg [.int .i64 x2.f_From, .int .i64 x2.f_To]))]) (by kernel_rfl) ?_
        refine WO.fin [0, 1, 4, 6, 8, 9, 10] [6] [] [] (e2 := [(0, .int .i64 v12), (1, .ptr (l33 none c2)), (4, .bool v13), (6, .ptr (.agg [.int .i64 x2.f_From, .int .i64 x2.f_To])), (8, l33 none c2), (9, .int .i64 (c2.length : Int)), (10, .int .i64 (k2 : Int))]) (by kernel_rfl) (fun _ h => h) ?_
        refine W.seq ?_
        refine W.join (σ := (Bool)) (fun s => [(0, .int .i64 v12), (1, .ptr (l33 none c2)), (4, .bool v13), (6, .ptr (.agg [.int .i64 x2.f_From, .int .i64 x2.f_To])), (8, l33 none c2), (9, .int .i64 (c2.length : Int)), (10, .int .i64 (k2 : Int)), (25, .bool s)]) (fun s => (dp_closure_1_j16 x2 v12 v13 (dp_closure_1_j14 (dp_closure_1_l2 (dp_closure_1_l1 c2 (dp_closure_1_j4) m1) r2 (k2 + 1)))) s = some r) (fun s h => ?_) (fun hK16 => ?_)
        · obtain ⟨v17, rfl⟩ : ∃ x, x = s := ⟨s, rfl⟩
          have h : (dp_closure_1_j16 x2 v12 v13 (dp_closure_1_j14 (dp_closure_1_l2 (dp_closure_1_l1 c2 (dp_closure_1_j4) m1) r2 (k2 + 1)))) v17 = some r := h
          unfold dp_closure_1_j16 at h
          refine W.condB v17 (by kernel_rfl) (fun hb => ?_) (fun hb => ?_)
          · replace h := cond_t hb h
            refine W.seq ?_
            refine W.regT [0, 1, 8, 9, 10] [] [] [] (e2 := [(0, .int .i64 (iOr .i64 v12 x2.f_To)), (1, .ptr (l33 none c2)), (8, l33 none c2), (9, .int .i64 (c2.length : Int)), (10, .int .i64 (k2 : Int))]) (by kernel_rfl) (by kernel_rfl) (fun _ h => h) ?_
            refine W.regT [0, 1, 4, 8, 9, 10] [] [] [] (e2 := [(0, .int .i64 (iOr .i64 v12 x2.f_To)), (1, .ptr (l33 none c2)), (4, .bool true), (8, l33 none c2), (9, .int .i64 (c2.length : Int)), (10, .int .i64 (k2 : Int))]) (by kernel_rfl) (by kernel_rfl) (fun _ h => h) ?_
            exact hK14 ((iOr .i64 v12 x2.f_To), true) h
          replace h := cond_f hb h
          refine W.skip ?_
          refine W.weak [0, 1, 4, 8, 9, 10] [] [] [] (env' := [(0, .int .i64 v12), (1, .ptr (l33 none c2)), (4, .bool v13), (8, l33 none c2), (9, .int .i64 (c2.length : Int)), (10, .int .i64 (k2 : Int))]) (by kernel_rfl) ?_
          exact hK14 (v12, v13) h
        refine W.region (by kernel_rfl) ?_
        refine WO.boolK 6 (fun b => [(0, .int .i64 v12), (1, .ptr (l33 none c2)), (4, .bool v13), (6, .ptr (.agg [.int .i64 x2.f_From, .int .i64 x2.f_To])), (8, l33 none c2), (9, .int .i64 (c2.length : Int)), (10, .int .i64 (k2 : Int)), (14, .ptr (.int .i64 x2.f_From)), (15, .int .i64 x2.f_From), (16, .int .i64 v12), (17, .int .i64 (iAndNot .i64 x2.f_From v12)), (18, .bool b), (19, .bool b)]) ((iAndNot .i64 x2.f_From v12) == 0) (by kernel_rfl) (fun hb => ?_) (fun hb => ?_)
        · replace h := cond_t hb h
          refine WO.fin [0, 1, 4, 6, 8, 9, 10, 25] [] [] [] (e2 := [(0, .int .i64 v12), (1, .ptr (l33 none c2)), (4, .bool v13), (6, .ptr (.agg [.int .i64 x2.f_From, .int .i64 x2.f_To])), (8, l33 none c2), (9, .int .i64 (c2.length : Int)), (10, .int .i64 (k2 : Int)), (25, .bool ((iAndNot .i64 x2.f_To v12) != 0))]) (by kernel_rfl) (fun _ h => h) ?_
          exact hK16 ((iAndNot .i64 x2.f_To v12) != 0) h
        replace h := cond_f hb h
        refine WO.fin [0, 1, 4, 6, 8, 9, 10, 25] [] [] [] (e2 := [(0, .int .i64 v12), (1, .ptr (l33 none c2)), (4, .bool v13), (6, .ptr (.agg [.int .i64 x2.f_From, .int .i64 x2.f_To])), (8, l33 none c2), (9, .int .i64 (c2.length : Int)), (10, .int .i64 (k2 : Int)), (25, .bool false)]) (by kernel_rfl) (fun _ h => h) ?_
        exact hK16 false h
    replace h := cond_f hb h
    refine W.exit ?_
    refine W.weak [0] [] [] [] (env' := [(0, .int .i64 v6)]) (by kernel_rfl) ?_
    exact hK4 v6 h
def dp_Violation_j6 (fuel : Nat) (a2 : (List dpDep)) (a3 : Int) (v9 : Bool) : Option (dpDep × Int) :=
  (bif v9 then (some ((dpDep.mk 0 0), 2)) else ((dp_closure a2).bind fun w12 => ((dp_violation (fun y0 => dp_closure_1 fuel y0 w12) a3).bind fun w13 => (bif (!w13.2) then (some ((dpDep.mk 0 0), 5)) else (some (w13.1, 0))))))
def dp_Violation (fuel : Nat) (a1 : Int) (a2 : (List dpDep)) (a3 : Int) : Option (dpDep × Int) :=
  ((dp_valid a1 a2).bind fun w7 => (bif (!w7) then ((dp_Violation_j6 fuel a2 a3) true) else ((dp_sets a1 [a3]).bind fun w8 => ((dp_Violation_j6 fuel a2 a3) (!w8)))))
theorem run_dp_Violation (fuel : Nat) (a1 : Int) (a2 : (List dpDep)) (a3 : Int) (r : (dpDep × Int)) (h : dp_Violation fuel a1 a2 a3 = some r) : Run Try.prog (.call 43 [.int .i64 a1, l33 none a2, .int .i64 a3] (.tup [.agg [.int .i64 r.1.f_From, .int .i64 r.1.f_To], .int .i64 r.2])) := by
  refine call_of_W Try.func43 rfl (by kernel_rfl) (env0 := [(0, .int .i64 a1), (1, l33 none a2), (2, .int .i64 a3)]) (by kernel_rfl) ?_
  unfold dp_Violation at h
  refine W.seq ?_
  refine W.regT [0, 1, 2, 6] [] [] [] (e2 := [(0, .int .i64 a1), (1, l33 none a2), (2, .int .i64 a3), (6, .box [.int .i64 0, .int .i64 0])]) (by kernel_rfl) (by kernel_rfl) (fun _ h => h) ?_
  refine W.seq ?_
  refine W.seq ?_
  refine W.join (σ := (Bool)) (fun s => [(1, l33 none a2), (2, .int .i64 a3), (6, .box [.int .i64 0, .int .i64 0]), (20, .bool s)]) (fun s => (dp_Violation_j6 fuel a2 a3) s = some r) (fun s h => ?_) (fun hK6 => ?_)
  · obtain ⟨v9, rfl⟩ : ∃ x, x = s := ⟨s, rfl⟩
    have h : (dp_Violation_j6 fuel a2 a3) v9 = some r := h
    unfold dp_Violation_j6 at h
    refine W.condB v9 (by kernel_rfl) (fun hb => ?_) (fun hb => ?_)
    · replace h := cond_t hb h
      refine W.seq ?_
      refine W.regT [6, 7] [] [] [] (e2 := [(6, .box [.int .i64 0, .int .i64 0]), (7, .int .i64 2)]) (by kernel_rfl) (by kernel_rfl) (fun _ h => h) ?_
      refine W.weak [6, 7] [] [] [] (env' := [(6, .box [.int .i64 0, .int .i64 0]), (7, .int .i64 2)]) (by kernel_rfl) ?_
      have hr : aresults Try.prog Try.f43 [(6, .box [.int .i64 0, .int .i64 0]), (7, .int .i64 2)] = some (.tup [.agg [.int .i64 0, .int .i64 0], .int .i64 2]) := by kernel_rfl
      cases h
      exact W.ret hr
    replace h := cond_f hb h
    refine W.skip ?_
    refine W.weak [1, 2, 6] [] [] [] (env' := [(1, l33 none a2), (2, .int .i64 a3), (6, .box [.int .i64 0, .int .i64 0])]) (by kernel_rfl) ?_
    refine W.seq ?_
    refine W.region (by kernel_rfl) ?_
    obtain ⟨w12, hw12, h⟩ := bind_some h
    refine WO.callK 1 (F := 59) (l := [l33 none a2]) (C := []) (r := .clo 77 [.ptr (l33 none w12)]) (by kernel_rfl) (by kernel_rfl) (run_dp_closure a2 w12 hw12) (e1 := [(1, l33 none a2), (2, .int .i64 a3), (6, .box [.int .i64 0, .int .i64 0]), (23, l33 none a2), (24, .clo 77 [.ptr (l33 none w12)])]) (by kernel_rfl) ?_
    obtain ⟨w13, hw13, h⟩ := bind_some h
    refine WO.callK 1 (F := 68) (l := [.clo 77 [.ptr (l33 none w12)], .int .i64 a3]) (C := []) (r := .tup [.agg [.int .i64 w13.1.f_From, .int .i64 w13.1.f_To], .bool w13.2]) (by kernel_rfl) (by kernel_rfl) (run_dp_violation (fun y0 => dp_closure_1 fuel y0 w12) 77 [.ptr (l33 none w12)] (by kernel_rfl) (fun y0 r h => run_dp_closure_1 fuel y0 w12 r h) a3 w13 hw13) (e1 := [(1, l33 none a2), (2, .int .i64 a3), (6, .box [.int .i64 0, .int .i64 0]), (23, l33 none a2), (24, .clo 77 [.ptr (l33 none w12)]), (25, .int .i64 a3), (26, .tup [.agg [.int .i64 w13.1.f_From, .int .i64 w13.1.f_To], .bool w13.2])]) (by kernel_rfl) ?_
    refine WO.fin [6, 8, 9] [8] [] [] (e2 := [(6, .box [.int .i64 0, .int .i64 0]), (8, .ptr (.agg [.int .i64 w13.1.f_From, .int .i64 w13.1.f_To])), (9, .bool w13.2)]) (by kernel_rfl) (fun _ h => h) ?_
    refine W.seq ?_
    refine W.seq ?_
    refine W.regT [6, 8, 30] [] [] [] (e2 := [(6, .box [.int .i64 0, .int .i64 0]), (8, .ptr (.agg [.int .i64 w13.1.f_From, .int .i64 w13.1.f_To])), (30, .bool (!w13.2))]) (by kernel_rfl) (by kernel_rfl) (fun _ h => h) ?_
    refine W.condB (!w13.2) (by kernel_rfl) (fun hb => ?_) (fun hb => ?_)
    · replace h := cond_t hb h
      refine W.seq ?_
      refine W.regT [6, 7] [] [] [] (e2 := [(6, .box [.int .i64 0, .int .i64 0]), (7, .int .i64 5)]) (by kernel_rfl) (by kernel_rfl) (fun _ h => h) ?_
      refine W.weak [6, 7] [] [] [] (env' := [(6, .box [.int .i64 0, .int .i64 0]), (7, .int .i64 5)]) (by kernel_rfl) ?_
      have hr : aresults Try.prog Try.f43 [(6, .box [.int .i64 0, .int .i64 0]), (7, .int .i64 5)] = some (.tup [.agg [.int .i64 0, .int .i64 0], .int .i64 5]) := by kernel_rfl
      cases h
      exact W.ret hr
    replace h := cond_f hb h
    refine W.skip ?_
    refine W.weak [6, 8] [] [] [] (env' := [(6, .box [.int .i64 0, .int .i64 0]), (8, .ptr (.agg [.int .i64 w13.1.f_From, .int .i64 w13.1.f_To]))]) (by kernel_rfl) ?_
    refine W.seq ?_
    refine W.regT [6, 7] [] [] [] (e2 := [(6, .box [.int .i64 w13.1.f_From, .int .i64 w13.1.f_To]), (7, .int .i64 0)]) (by kernel_rfl) (by kernel_rfl) (fun _ h => h) ?_
    refine W.weak [6, 7] [] [] [] (env' := [(6, .box [.int .i64 w13.1.f_From, .int .i64 w13.1.f_To]), (7, .int .i64 0)]) (by kernel_rfl) ?_
    have hr : aresults Try.prog Try.f43 [(6, .box [.int .i64 w13.1.f_From, .int .i64 w13.1.f_To]), (7, .int .i64 0)] = some (.tup [.agg [.int .i64 w13.1.f_From, .int .i64 w13.1.f_To], .int .i64 0]) := by kernel_rfl
    cases h
    exact W.ret hr
  refine W.region (by kernel_rfl) ?_
  obtain ⟨w7, hw7, h⟩ := bind_some h
  refine WO.callK 2 (F := 57) (l := [.int .i64 a1, l33 none a2]) (C := []) (r := .bool w7) (by kernel_rfl) (by kernel_rfl) (run_dp_valid a1 a2 w7 hw7) (e1 := [(0, .int .i64 a1), (1, l33 none a2), (2, .int .i64 a3), (6, .box [.int .i64 0, .int .i64 0]), (10, .int .i64 a1), (11, l33 none a2), (12, .bool w7)]) (by kernel_rfl) ?_
  refine WO.boolK 2 (fun b => [(0, .int .i64 a1), (1, l33 none a2), (2, .int .i64 a3), (6, .box [.int .i64 0, .int .i64 0]), (10, .int .i64 a1), (11, l33 none a2), (12, .bool w7), (13, .bool b), (14, .bool b)]) (!w7) (by kernel_rfl) (fun hb => ?_) (fun hb => ?_)
  · replace h := cond_t hb h
    refine WO.fin [1, 2, 6, 20] [] [] [] (e2 := [(1, l33 none a2), (2, .int .i64 a3), (6, .box [.int .i64 0, .int .i64 0]), (20, .bool true)]) (by kernel_rfl) (fun _ h => h) ?_
    exact hK6 true h
  replace h := cond_f hb h
  obtain ⟨w8, hw8, h⟩ := bind_some h
  refine WO.callK 3 (F := 58) (l := [.int .i64 a1, l3 none [a3]]) (C := []) (r := .bool w8) (by kernel_rfl) (by kernel_rfl) (run_dp_sets a1 [a3] w8 hw8) (e1 := [(0, .int .i64 a1), (1, l33 none a2), (2, .int .i64 a3), (6, .box [.int .i64 0, .int .i64 0]), (10, .int .i64 a1), (11, l33 none a2), (12, .bool w7), (13, .bool false), (14, .bool false), (15, .int .i64 a1), (16, .int .i64 a3), (17, l3 (some 17) [a3]), (18, .bool w8)]) (by kernel_rfl) ?_
  refine WO.fin [1, 2, 6, 20] [] [] [] (e2 := [(1, l33 none a2), (2, .int .i64 a3), (6, .box [.int .i64 0, .int .i64 0]), (20, .bool (!w8))]) (by kernel_rfl) (fun _ h => h) ?_
  exact hK6 (!w8) h
def sl_Replace_int (a1 : (List Int)) (n1 : Nat) (a2 a3 : Int) (a4 : (List Int)) : Option (List Int) :=
  match a4 with
  | [x, y] => chk (decide (n1 = a1.length ∧ 0 ≤ a2 ∧ a2.toNat < a1.length ∧ a3 = a2 + 1 ∧ (a1.length + 1) * 8 ≤ 140737488355328)) (some (a1.take a2.toNat ++ [x, y] ++ a1.drop (a2.toNat + 1)))
  | _ => none
theorem run_sl_Replace_int (a1 : (List Int)) (n1 : Nat) (a2 a3 : Int) (a4 : (List Int)) (r : (List Int)) (h : sl_Replace_int a1 n1 a2 a3 a4 = some r) : Run Try.prog (.callM 69 [.sb 3000000 3 1 0 n1, .int .i64 a2, .int .i64 a3, l3 none a4] [(3000000, .obj 3 1 (List.map (AV.int .i64) a1))] (.sb 1900000 3 1 0 ((r).length)) [(1900000, .obj 3 1 (List.map (AV.int .i64) r))]) := by
  unfold sl_Replace_int at h
  split at h
  · rename_i x y
    obtain ⟨hp, hq⟩ := chk_some h
    clear h
    obtain ⟨h1, h2, h3, h4, h5⟩ := of_decide_eq_true hp
    clear hp
    subst h1
    subst h4
    obtain ⟨i, rfl⟩ : ∃ i : Nat, a2 = i := ⟨a2.toNat, by omega⟩
    rw [Int.toNat_natCast] at h3 hq
    have hl : (a1.take i ++ [x, y] ++ a1.drop (i + 1)).length = a1.length + 1 := by simp; omega
    cases hq
    rw [hl]
    exact .extRepl h3 h5 knownRepl69
  · cases h
def dp_Decompose_j12 (v28 : (List Int)) : Option ((List Int) × Int) :=
  (some (v28, 0))
def dp_Decompose_l1 (fuel : Nat) (w9 : ((List dpDep))) (K12 : ((List Int) → Option ((List Int) × Int))) : Nat → (List Int) → Int → Option ((List Int) × Int)
  | 0, _, _ => none
  | m1 + 1, v14, v15 => (bif (decide (v15 < (((v14).length : Nat) : Int))) then (chk (decide ((0 : Int) ≤ v15 ∧ v15 < (((v14).length : Nat) : Int))) ((v14[(0 + Int.toNat v15)]?).bind fun e20 => ((dp_violation (fun y0 => dp_closure_1 fuel y0 w9) e20).bind fun w21 => (bif (!w21.2) then ((dp_Decompose_l1 fuel w9 K12 m1) v14 (IntKind.wrap .i64 (v15 + 1))) else (chk (decide ((0 : Int) ≤ v15 ∧ v15 < (((v14).length : Nat) : Int))) ((v14[(0 + Int.toNat v15)]?).bind fun e26 => ((sl_Replace_int v14 ((v14).length) v15 (IntKind.wrap .i64 (v15 + 1)) [(iOr .i64 w21.1.f_From w21.1.f_To), (iAndNot .i64 e26 w21.1.f_To)]).bind fun w27 => ((dp_Decompose_l1 fuel w9 K12 m1) w27 v15)))))))) else (K12 v14))
def dp_Decompose (fuel : Nat) (a1 : Int) (a2 : (List dpDep)) : Option ((List Int) × Int) :=
  ((dp_valid a1 a2).bind fun w6 => (bif (!w6) then (some ((snap 0 (([] : (List Int)).length) ([] : (List Int))), 2)) else ((dp_closure a2).bind fun w9 => (chk (decide (0 ≤ a1)) (dp_Decompose_l1 fuel w9 (dp_Decompose_j12) fuel [(IntKind.wrap .i64 ((iShl .i64 1 a1) - 1))] 0)))))
theorem run_dp_Decompose (fuel : Nat) (a1 : Int) (a2 : (List dpDep)) (r : ((List Int) × Int)) (h : dp_Decompose fuel a1 a2 = some r) : Run Try.prog (.call 44 [.int .i64 a1, l33 none a2] (.tup [l3 none r.1, .int .i64 r.2])) := by
  refine call_of_W Try.func44 rfl (by kernel_rfl) (env0 := [(0, .int .i64 a1), (1, l33 none a2)]) (by kernel_rfl) ?_
  unfold dp_Decompose at h
  refine W.seq ?_
  refine W.region (by kernel_rfl) ?_
  refine WO.steps 1 (e1 := [(0, .int .i64 a1), (1, l33 none a2), (4, .nils)]) (by kernel_rfl) ?_
  refine WO.mv [.nil 4 3 1 1200004] (env' := [(0, .int .i64 a1), (1, l33 none a2), (4, .sb 1200004 3 1 0 (([] : (List Int)).length)), (1200004, .obj 3 1 (List.map (AV.int .i64) ([] : (List Int))))]) (by kernel_rfl) ?_
  refine WO.fin [0, 1] [] [] [] (e2 := [(0, .int .i64 a1), (1, l33 none a2)]) (by kernel_rfl) (fun _ h => h) ?_
  refine W.seq ?_
  refine W.seq ?_
  refine W.region (by kernel_rfl) ?_
  obtain ⟨w6, hw6, h⟩ := bind_some h
  refine WO.callK 2 (F := 57) (l := [.int .i64 a1, l33 none a2]) (C := []) (r := .bool w6) (by kernel_rfl) (by kernel_rfl) (run_dp_valid a1 a2 w6 hw6) (e1 := [(0, .int .i64 a1), (1, l33 none a2), (11, .int .i64 a1), (12, l33 none a2), (13, .bool w6)]) (by kernel_rfl) ?_
  refine WO.fin [0, 1, 14] [] [] [] (e2 := [(0, .int .i64 a1), (1, l33 none a2), (14, .bool (!w6))]) (by kernel_rfl) (fun _ h => h) ?_
  refine W.condB (!w6) (by kernel_rfl) (fun hb => ?_) (fun hb => ?_)
  · replace h := cond_t hb h
    refine W.seq ?_
    refine W.region (by kernel_rfl) ?_
    refine WO.steps 1 (e1 := [(0, .int .i64 a1), (1, l33 none a2), (4, .nils), (14, .bool (!w6))]) (by kernel_rfl) ?_
    refine WO.mv [.nil 4 3 1 1200004] (env' := [(0, .int .i64 a1), (1, l33 none a2), (4, .sb 1200004 3 1 0 (([] : (List Int)).length)), (14, .bool (!w6)), (1200004, .obj 3 1 (List.map (AV.int .i64) ([] : (List Int))))]) (by kernel_rfl) ?_
    refine WO.fin [4, 5, 1200004] [] [] [] (e2 := [(4, .sb 1200004 3 1 0 (([] : (List Int)).length)), (5, .int .i64 2), (1200004, .obj 3 1 (List.map (AV.int .i64) ([] : (List Int))))]) (by kernel_rfl) (fun _ h => h) ?_
    refine W.mv [.frz 1200004] (env' := [(4, l3 none (snap 0 (([] : (List Int)).length) ([] : (List Int)))), (5, .int .i64 2)]) ((by kernel_rfl : mvAll [(4, .sb 1200004 3 1 0 (([] : (List Int)).length)), (5, .int .i64 2), (1200004, .obj 3 1 (List.map (AV.int .i64) ([] : (List Int))))] [.frz 1200004] = [(4, .lst 3 1 none (snapA 0 (([] : (List Int)).length) (List.map (AV.int .i64) ([] : (List Int))))), (5, .int .i64 2)]).trans (by first | (simp only [snap_map, snap_full, snap_rep]; done) | (simp only [snap_map, snap_full, snap_rep]; kernel_rfl))) ?_
    refine W.weak [4, 5] [] [] [] (env' := [(4, l3 none (snap 0 (([] : (List Int)).length) ([] : (List Int)))), (5, .int .i64 2)]) (by kernel_rfl) ?_
    have hr : aresults Try.prog Try.f44 [(4, l3 none (snap 0 (([] : (List Int)).length) ([] : (List Int)))), (5, .int .i64 2)] = some (.tup [l3 none (snap 0 (([] : (List Int)).length) ([] : (List Int))), .int .i64 2]) := by kernel_rfl
    cases h
    exact W.ret hr
  replace h := cond_f hb h
  refine W.skip ?_
  refine W.weak [0, 1] [] [] [] (env' := [(0, .int .i64 a1), (1, l33 none a2)]) (by kernel_rfl) ?_
  refine W.seq ?_
  refine W.region (by kernel_rfl) ?_
  obtain ⟨w9, hw9, h⟩ := bind_some h
  refine WO.callK 1 (F := 59) (l := [l33 none a2]) (C := []) (r := .clo 77 [.ptr (l33 none w9)]) (by kernel_rfl) (by kernel_rfl) (run_dp_closure a2 w9 hw9) (e1 := [(0, .int .i64 a1), (1, l33 none a2), (15, l33 none a2), (16, .clo 77 [.ptr (l33 none w9)])]) (by kernel_rfl) ?_
  refine WO.fin [0, 6] [] [] [] (e2 := [(0, .int .i64 a1), (6, .clo 77 [.ptr (l33 none w9)])]) (by kernel_rfl) (fun _ h => h) ?_
  refine W.seq ?_
  refine W.region (by kernel_rfl) ?_
  obtain ⟨hc11, h⟩ := chk_some h
  refine WO.pureK 1 (if a1 < 0 then none else some (.int .i64 (iShl .i64 1 a1))) (v := .int .i64 (iShl .i64 1 a1)) (by kernel_rfl) (if_neg (not_lt_of_chk hc11)) (e1 := [(0, .int .i64 a1), (6, .clo 77 [.ptr (l33 none w9)]), (17, .int .i64 a1), (18, .int .i64 (iShl .i64 1 a1))]) (by kernel_rfl) ?_
  refine WO.rowK 1 (e1 := [(0, .int .i64 a1), (6, .clo 77 [.ptr (l33 none w9)]), (17, .int .i64 a1), (18, .int .i64 (iShl .i64 1 a1)), (19, .int .i64 (IntKind.wrap .i64 ((iShl .i64 1 a1) - 1))), (20, .sb 1000020 3 1 0 (([(IntKind.wrap .i64 ((iShl .i64 1 a1) - 1))]).length)), (1000020, .obj 3 1 (List.map (AV.int .i64) [(IntKind.wrap .i64 ((iShl .i64 1 a1) - 1))]))]) (by kernel_rfl) ?_
  refine WO.fin [6, 7, 1000020] [] [] [] (e2 := [(6, .clo 77 [.ptr (l33 none w9)]), (7, .sb 1000020 3 1 0 (([(IntKind.wrap .i64 ((iShl .i64 1 a1) - 1))]).length)), (1000020, .obj 3 1 (List.map (AV.int .i64) [(IntKind.wrap .i64 ((iShl .i64 1 a1) - 1))]))]) (by kernel_rfl) (fun _ h => h) ?_
  refine W.seq ?_
  refine W.join (σ := ((List Int))) (fun s => [(7, .sb 1500007 3 1 0 ((s).length)), (1500007, .obj 3 1 (List.map (AV.int .i64) s))]) (fun s => (dp_Decompose_j12) s = some r) (fun s h => ?_) (fun hK12 => ?_)
  · obtain ⟨v28, rfl⟩ : ∃ x, x = s := ⟨s, rfl⟩
    have h : (dp_Decompose_j12) v28 = some r := h
    unfold dp_Decompose_j12 at h
    refine W.seq ?_
    refine W.regT [4, 5, 1500007] [] [] [] (e2 := [(4, .sb 1500007 3 1 0 ((v28).length)), (5, .int .i64 0), (1500007, .obj 3 1 (List.map (AV.int .i64) v28))]) (by kernel_rfl) (by kernel_rfl) (fun _ h => h) ?_
    refine W.mv [.frz 1500007] (env' := [(4, l3 none v28), (5, .int .i64 0)]) ((by kernel_rfl : mvAll [(4, .sb 1500007 3 1 0 ((v28).length)), (5, .int .i64 0), (1500007, .obj 3 1 (List.map (AV.int .i64) v28))] [.frz 1500007] = [(4, .lst 3 1 none (snapA 0 ((v28).length) (List.map (AV.int .i64) v28))), (5, .int .i64 0)]).trans (by first | (simp only [snap_map, snap_full, snap_rep]; done) | (simp only [snap_map, snap_full, snap_rep]; kernel_rfl))) ?_
    refine W.weak [4, 5] [] [] [] (env' := [(4, l3 none v28), (5, .int .i64 0)]) (by kernel_rfl) ?_
    have hr : aresults Try.prog Try.f44 [(4, l3 none v28), (5, .int .i64 0)] = some (.tup [l3 none v28, .int .i64 0]) := by kernel_rfl
    cases h
    exact W.ret hr
  refine W.seq ?_
  refine W.regT [6, 7, 8, 1000020] [] [] [] (e2 := [(6, .clo 77 [.ptr (l33 none w9)]), (7, .sb 1000020 3 1 0 (([(IntKind.wrap .i64 ((iShl .i64 1 a1) - 1))]).length)), (8, .int .i64 0), (1000020, .obj 3 1 (List.map (AV.int .i64) [(IntKind.wrap .i64 ((iShl .i64 1 a1) - 1))]))]) (by kernel_rfl) (by kernel_rfl) (fun _ h => h) ?_
  refine W.block ?_
  refine W.weak [6, 7, 8, 1000020] [] [] [] (env' := [(6, .clo 77 [.ptr (l33 none w9)]), (7, .sb 1000020 3 1 0 (([(IntKind.wrap .i64 ((iShl .i64 1 a1) - 1))]).length)), (8, .int .i64 0), (1000020, .obj 3 1 (List.map (AV.int .i64) [(IntKind.wrap .i64 ((iShl .i64 1 a1) - 1))]))]) (by kernel_rfl) ?_
  refine W.mv [.ren 1000020 1500007] (env' := [(6, .clo 77 [.ptr (l33 none w9)]), (7, .sb 1500007 3 1 0 (([(IntKind.wrap .i64 ((iShl .i64 1 a1) - 1))]).length)), (8, .int .i64 0), (1500007, .obj 3 1 (List.map (AV.int .i64) [(IntKind.wrap .i64 ((iShl .i64 1 a1) - 1))]))]) (by kernel_rfl) ?_
  refine W.weak [6, 7, 8, 1500007] [] [] [] (env' := [(6, .clo 77 [.ptr (l33 none w9)]), (7, .sb 1500007 3 1 0 (([(IntKind.wrap .i64 ((iShl .i64 1 a1) - 1))]).length)), (8, .int .i64 0), (1500007, .obj 3 1 (List.map (AV.int .i64) [(IntKind.wrap .i64 ((iShl .i64 1 a1) - 1))]))]) (by kernel_rfl) ?_
  refine W.fuel (σ := ((List Int) × Int)) (fun s => [(6, .clo 77 [.ptr (l33 none w9)]), (7, .sb 1500007 3 1 0 ((s.1).length)), (8, .int .i64 s.2), (1500007, .obj 3 1 (List.map (AV.int .i64) s.1))]) (fun m0 s => dp_Decompose_l1 fuel w9 (dp_Decompose_j12) m0 s.1 s.2 = some r) (fun s h => ?_) (fun m1 s h hN1 => ?_) fuel ([(IntKind.wrap .i64 ((iShl .i64 1 a1) - 1))], 0) h
  · obtain ⟨v14, v15⟩ := s
    have h : dp_Decompose_l1 fuel w9 (dp_Decompose_j12) 0 v14 v15 = some r := h
    rw [dp_Decompose_l1.eq_1] at h
    cases h
  · obtain ⟨v14, v15⟩ := s
    have h : dp_Decompose_l1 fuel w9 (dp_Decompose_j12) (m1 + 1) v14 v15 = some r := h
    rw [dp_Decompose_l1.eq_2] at h
    refine W.seq ?_
    refine W.seq ?_
    refine W.regT [6, 7, 8, 24, 1500007] [] [] [] (e2 := [(6, .clo 77 [.ptr (l33 none w9)]), (7, .sb 1500007 3 1 0 ((v14).length)), (8, .int .i64 v15), (24, .bool (decide (v15 < (((v14).length : Nat) : Int)))), (1500007, .obj 3 1 (List.map (AV.int .i64) v14))]) (by kernel_rfl) (by kernel_rfl) (fun _ h => h) ?_
    refine W.condB (decide (v15 < (((v14).length : Nat) : Int))) (by kernel_rfl) (fun hb => ?_) (fun hb => ?_)
    · replace h := cond_t hb h
      refine W.skip ?_
      refine W.weak [6, 7, 8, 1500007] [] [] [] (env' := [(6, .clo 77 [.ptr (l33 none w9)]), (7, .sb 1500007 3 1 0 ((v14).length)), (8, .int .i64 v15), (1500007, .obj 3 1 (List.map (AV.int .i64) v14))]) (by kernel_rfl) ?_
      refine W.block ?_
      refine W.seq ?_
      refine W.region (by kernel_rfl) ?_
      obtain ⟨hc19, h⟩ := chk_some h
      refine WO.pureK 3 (if (0 : Int) ≤ v15 ∧ v15 < (((v14).length : Nat) : Int) then some (.pe 1500007 1 (0 + Int.toNat v15) 0) else none) (v := .pe 1500007 1 (0 + Int.toNat v15) 0) (by kernel_rfl) (ite_some hc19) (e1 := [(6, .clo 77 [.ptr (l33 none w9)]), (7, .sb 1500007 3 1 0 ((v14).length)), (8, .int .i64 v15), (26, .clo 77 [.ptr (l33 none w9)]), (27, .sb 1500007 3 1 0 ((v14).length)), (28, .int .i64 v15), (29, .pe 1500007 1 (0 + Int.toNat v15) 0), (1500007, .obj 3 1 (List.map (AV.int .i64) v14))]) (by kernel_rfl) ?_
      obtain ⟨e20, he20, h⟩ := bind_some h
      refine WO.pureK 0 (match (List.map (AV.int .i64) v14)[(0 + Int.toNat v15)]? with | some y => cut Try.prog 3 (y.cells.map AV.strip) 0 | none => none) (v := .int .i64 e20) (by kernel_rfl) ((pe_ld (f := (AV.int .i64)) (G := (fun y => cut Try.prog 3 (y.cells.map AV.strip) 0)) he20).trans (by kernel_rfl)) (e1 := [(6, .clo 77 [.ptr (l33 none w9)]), (7, .sb 1500007 3 1 0 ((v14).length)), (8, .int .i64 v15), (26, .clo 77 [.ptr (l33 none w9)]), (27, .sb 1500007 3 1 0 ((v14).length)), (28, .int .i64 v15), (29, .pe 1500007 1 (0 + Int.toNat v15) 0), (30, .int .i64 e20), (1500007, .obj 3 1 (List.map (AV.int .i64) v14))]) (by kernel_rfl) ?_
      obtain ⟨w21, hw21, h⟩ := bind_some h
      refine WO.callK 0 (F := 68) (l := [.clo 77 [.ptr (l33 none w9)], .int .i64 e20]) (C := []) (r := .tup [.agg [.int .i64 w21.1.f_From, .int .i64 w21.1.f_To], .bool w21.2]) (by kernel_rfl) (by kernel_rfl) (run_dp_violation (fun y0 => dp_closure_1 fuel y0 w9) 77 [.ptr (l33 none w9)] (by kernel_rfl) (fun y0 r h => run_dp_closure_1 fuel y0 w9 r h) e20 w21 hw21) (e1 := [(6, .clo 77 [.ptr (l33 none w9)]), (7, .sb 1500007 3 1 0 ((v14).length)), (8, .int .i64 v15), (26, .clo 77 [.ptr (l33 none w9)]), (27, .sb 1500007 3 1 0 ((v14).length)), (28, .int .i64 v15), (29, .pe 1500007 1 (0 + Int.toNat v15) 0), (30, .int .i64 e20), (31, .tup [.agg [.int .i64 w21.1.f_From, .int .i64 w21.1.f_To], .bool w21.2]), (1500007, .obj 3 1 (List.map (AV.int .i64) v14))]) (by kernel_rfl) ?_
      refine WO.fin [6, 7, 8, 9, 10, 1500007] [9] [] [] (e2 := [(6, .clo 77 [.ptr (l33 none w9)]), (7, .sb 1500007 3 1 0 ((v14).length)), (8, .int .i64 v15), (9, .ptr (.agg [.int .i64 w21.1.f_From, .int .i64 w21.1.f_To])), (10, .bool w21.2), (1500007, .obj 3 1 (List.map (AV.int .i64) v14))]) (by kernel_rfl) (fun _ h => h) ?_
      refine W.seq ?_
      refine W.seq ?_
      refine W.regT [6, 7, 8, 9, 35, 1500007] [] [] [] (e2 := [(6, .clo 77 [.ptr (l33 none w9)]), (7, .sb 1500007 3 1 0 ((v14).length)), (8, .int .i64 v15), (9, .ptr (.agg [.int .i64 w21.1.f_From, .int .i64 w21.1.f_To])), (35, .bool (!w21.2)), (1500007, .obj 3 1 (List.map (AV.int .i64) v14))]) (by kernel_rfl) (by kernel_rfl) (fun _ h => h) ?_
      refine W.condB (!w21.2) (by kernel_rfl) (fun hb => ?_) (fun hb => ?_)
      · replace h := cond_t hb h
        refine W.seq ?_
        refine W.regT [6, 7, 8, 1500007] [] [] [] (e2 := [(6, .clo 77 [.ptr (l33 none w9)]), (7, .sb 1500007 3 1 0 ((v14).length)), (8, .int .i64 (IntKind.wrap .i64 (v15 + 1))), (1500007, .obj 3 1 (List.map (AV.int .i64) v14))]) (by kernel_rfl) (by kernel_rfl) (fun _ h => h) ?_
        refine W.exit ?_
        refine W.weak [6, 7, 8, 1500007] [] [] [] (env' := [(6, .clo 77 [.ptr (l33 none w9)]), (7, .sb 1500007 3 1 0 ((v14).length)), (8, .int .i64 (IntKind.wrap .i64 (v15 + 1))), (1500007, .obj 3 1 (List.map (AV.int .i64) v14))]) (by kernel_rfl) ?_
        exact hN1 (v14, (IntKind.wrap .i64 (v15 + 1))) h
      replace h := cond_f hb h
      refine W.skip ?_
      refine W.weak [6, 7, 8, 9, 1500007] [] [] [] (env' := [(6, .clo 77 [.ptr (l33 none w9)]), (7, .sb 1500007 3 1 0 ((v14).length)), (8, .int .i64 v15), (9, .ptr (.agg [.int .i64 w21.1.f_From, .int .i64 w21.1.f_To])), (1500007, .obj 3 1 (List.map (AV.int .i64) v14))]) (by kernel_rfl) ?_
      refine W.region (by kernel_rfl) ?_
      obtain ⟨hc25, h⟩ := chk_some h
      refine WO.pureK 11 (if (0 : Int) ≤ v15 ∧ v15 < (((v14).length : Nat) : Int) then some (.pe 1500007 1 (0 + Int.toNat v15) 0) else none) (v := .pe 1500007 1 (0 + Int.toNat v15) 0) (by kernel_rfl) (ite_some hc25) (e1 := [(6, .clo 77 [.ptr (l33 none w9)]), (7, .sb 1500007 3 1 0 ((v14).length)), (8, .int .i64 v15), (9, .ptr (.agg [.int .i64 w21.1.f_From, .int .i64 w21.1.f_To])), (38, .sb 1500007 3 1 0 ((v14).length)), (39, .int .i64 v15), (40, .int .i64 v15), (41, .int .i64 (IntKind.wrap .i64 (v15 + 1))), (42, .ptr (.int .i64 w21.1.f_From)), (43, .int .i64 w21.1.f_From), (44, .ptr (.int .i64 w21.1.f_To)), (45, .int .i64 w21.1.f_To), (46, .int .i64 (iOr .i64 w21.1.f_From w21.1.f_To)), (47, .sb 1500007 3 1 0 ((v14).length)), (48, .int .i64 v15), (49, .pe 1500007 1 (0 + Int.toNat v15) 0), (1500007, .obj 3 1 (List.map (AV.int .i64) v14))]) (by kernel_rfl) ?_
      obtain ⟨e26, he26, h⟩ := bind_some h
      refine WO.pureK 0 (match (List.map (AV.int .i64) v14)[(0 + Int.toNat v15)]? with | some y => cut Try.prog 3 (y.cells.map AV.strip) 0 | none => none) (v := .int .i64 e26) (by kernel_rfl) ((pe_ld (f := (AV.int .i64)) (G := (fun y => cut Try.prog 3 (y.cells.map AV.strip) 0)) he26).trans (by kernel_rfl)) (e1 := [(6, .clo 77 [.ptr (l33 none w9)]), (7, .sb 1500007 3 1 0 ((v14).length)), (8, .int .i64 v15), (9, .ptr (.agg [.int .i64 w21.1.f_From, .int .i64 w21.1.f_To])), (38, .sb 1500007 3 1 0 ((v14).length)), (39, .int .i64 v15), (40, .int .i64 v15), (41, .int .i64 (IntKind.wrap .i64 (v15 + 1))), (42, .ptr (.int .i64 w21.1.f_From)), (43, .int .i64 w21.1.f_From), (44, .ptr (.int .i64 w21.1.f_To)), (45, .int .i64 w21.1.f_To), (46, .int .i64 (iOr .i64 w21.1.f_From w21.1.f_To)), (47, .sb 1500007 3 1 0 ((v14).length)), (48, .int .i64 v15), (49, .pe 1500007 1 (0 + Int.toNat v15) 0), (50, .int .i64 e26), (1500007, .obj 3 1 (List.map (AV.int .i64) v14))]) (by kernel_rfl) ?_
      obtain ⟨w27, hw27, h⟩ := bind_some h
      refine WO.callMDK 4 [(1500007, 3000000)] [(1000055, 1900000)] (by kernel_rfl) (F := 69) (args := [.sb 3000000 3 1 0 ((v14).length), .int .i64 v15, .int .i64 (IntKind.wrap .i64 (v15 + 1)), l3 none [(iOr .i64 w21.1.f_From w21.1.f_To), (iAndNot .i64 e26 w21.1.f_To)]]) (hp := [(3000000, .obj 3 1 (List.map (AV.int .i64) v14))]) (hp2 := [(1900000, .obj 3 1 (List.map (AV.int .i64) w27))]) (r := .sb 1900000 3 1 0 ((w27).length)) (by kernel_rfl) (run_sl_Replace_int v14 ((v14).length) v15 (IntKind.wrap .i64 (v15 + 1)) [(iOr .i64 w21.1.f_From w21.1.f_To), (iAndNot .i64 e26 w21.1.f_To)] w27 hw27) (e1 := [(6, .clo 77 [.ptr (l33 none w9)]), (7, .top), (8, .int .i64 v15), (9, .ptr (.agg [.int .i64 w21.1.f_From, .int .i64 w21.1.f_To])), (38, .top), (39, .int .i64 v15), (40, .int .i64 v15), (41, .int .i64 (IntKind.wrap .i64 (v15 + 1))), (42, .ptr (.int .i64 w21.1.f_From)), (43, .int .i64 w21.1.f_From), (44, .ptr (.int .i64 w21.1.f_To)), (45, .int .i64 w21.1.f_To), (46, .int .i64 (iOr .i64 w21.1.f_From w21.1.f_To)), (47, .top), (48, .int .i64 v15), (49, .top), (50, .int .i64 e26), (51, .ptr (.int .i64 w21.1.f_To)), (52, .int .i64 w21.1.f_To), (53, .int .i64 (iAndNot .i64 e26 w21.1.f_To)), (54, l3 none [(iOr .i64 w21.1.f_From w21.1.f_To), (iAndNot .i64 e26 w21.1.f_To)]), (55, .sb 1000055 3 1 0 ((w27).length)), (1000055, .obj 3 1 (List.map (AV.int .i64) w27))]) (by kernel_rfl) ?_
      refine WO.fin [6, 7, 8, 1000055] [] [] [] (e2 := [(6, .clo 77 [.ptr (l33 none w9)]), (7, .sb 1000055 3 1 0 ((w27).length)), (8, .int .i64 v15), (1000055, .obj 3 1 (List.map (AV.int .i64) w27))]) (by kernel_rfl) (fun _ h => h) ?_
      refine W.mv [.ren 1000055 1500007] (env' := [(6, .clo 77 [.ptr (l33 none w9)]), (7, .sb 1500007 3 1 0 ((w27).length)), (8, .int .i64 v15), (1500007, .obj 3 1 (List.map (AV.int .i64) w27))]) (by kernel_rfl) ?_
      refine W.weak [6, 7, 8, 1500007] [] [] [] (env' := [(6, .clo 77 [.ptr (l33 none w9)]), (7, .sb 1500007 3 1 0 ((w27).length)), (8, .int .i64 v15), (1500007, .obj 3 1 (List.map (AV.int .i64) w27))]) (by kernel_rfl) ?_
      exact hN1 (w27, v15) h
    replace h := cond_f hb h
    refine W.exit ?_
    refine W.weak [7, 1500007] [] [] [] (env' := [(7, .sb 1500007 3 1 0 ((v14).length)), (1500007, .obj 3 1 (List.map (AV.int .i64) v14))]) (by kernel_rfl) ?_
    exact hK12 v14 h
def rf1_Set_j4 (v6 : Bool) : Option Bool :=
  (some v6)
def rf1_Set (a1 : Int) (a2 : Int) : Option Bool :=
  (bif (decide (a2 ≥ 0)) then (chk (decide (0 ≤ a1)) ((rf1_Set_j4) (decide (a2 < (iShl .i64 1 a1))))) else ((rf1_Set_j4) false))
theorem run_rf1_Set (a1 : Int) (a2 : Int) (r : Bool) (h : rf1_Set a1 a2 = some r) : Run Try.prog (.call 37 [.int .i64 a1, .int .i64 a2] (.bool r)) := by
  refine call_of_W Try.func37 rfl (by kernel_rfl) (env0 := [(0, .int .i64 a1), (1, .int .i64 a2)]) (by kernel_rfl) ?_
  unfold rf1_Set at h
  refine W.seq ?_
  refine W.regT [0, 1] [] [] [] (e2 := [(0, .int .i64 a1), (1, .int .i64 a2)]) (by kernel_rfl) (by kernel_rfl) (fun _ h => h) ?_
  refine W.seq ?_
  refine W.join (σ := (Bool)) (fun s => [(4, .bool s)]) (fun s => (rf1_Set_j4) s = some r) (fun s h => ?_) (fun hK4 => ?_)
  · obtain ⟨v6, rfl⟩ : ∃ x, x = s := ⟨s, rfl⟩
    have h : (rf1_Set_j4) v6 = some r := h
    unfold rf1_Set_j4 at h
    refine W.weak [4] [] [] [] (env' := [(4, .bool v6)]) (by kernel_rfl) ?_
    have hr : aresults Try.prog Try.f37 [(4, .bool v6)] = some (.bool v6) := by kernel_rfl
    cases h
    exact W.ret hr
  refine W.region (by kernel_rfl) ?_
  refine WO.boolK 3 (fun b => [(0, .int .i64 a1), (1, .int .i64 a2), (5, .int .i64 a2), (6, .bool b), (7, .bool b)]) (decide (a2 ≥ 0)) (by kernel_rfl) (fun hb => ?_) (fun hb => ?_)
  · replace h := cond_t hb h
    obtain ⟨hc5, h⟩ := chk_some h
    refine WO.pureK 2 (if a1 < 0 then none else some (.int .i64 (iShl .i64 1 a1))) (v := .int .i64 (iShl .i64 1 a1)) (by kernel_rfl) (if_neg (not_lt_of_chk hc5)) (e1 := [(0, .int .i64 a1), (1, .int .i64 a2), (5, .int .i64 a2), (6, .bool true), (7, .bool true), (8, .int .i64 a2), (9, .int .i64 a1), (10, .int .i64 (iShl .i64 1 a1))]) (by kernel_rfl) ?_
    refine WO.fin [4] [] [] [] (e2 := [(4, .bool (decide (a2 < (iShl .i64 1 a1))))]) (by kernel_rfl) (fun _ h => h) ?_
    exact hK4 (decide (a2 < (iShl .i64 1 a1))) h
  replace h := cond_f hb h
  refine WO.fin [4] [] [] [] (e2 := [(4, .bool false)]) (by kernel_rfl) (fun _ h => h) ?_
  exact hK4 false h
def rf1_Pair_j4 (v7 : Bool) : Option Bool :=
  (some v7)
def rf1_Pair (a1 : Int) (a2 : rf1Dep) : Option Bool :=
  ((rf1_Set a1 a2.f_From).bind fun w5 => (bif w5 then ((rf1_Set a1 a2.f_To).bind fun w6 => ((rf1_Pair_j4) w6)) else ((rf1_Pair_j4) false)))
theorem run_rf1_Pair (a1 : Int) (a2 : rf1Dep) (r : Bool) (h : rf1_Pair a1 a2 = some r) : Run Try.prog (.call 31 [.int .i64 a1, .agg [.int .i64 a2.f_From, .int .i64 a2.f_To]] (.bool r)) := by
  refine call_of_W Try.func31 rfl (by kernel_rfl) (env0 := [(0, .int .i64 a1), (1, .agg [.int .i64 a2.f_From, .int .i64 a2.f_To])]) (by kernel_rfl) ?_
  unfold rf1_Pair at h
  refine W.seq ?_
  refine W.regT [0, 3] [3] [] [] (e2 := [(0, .int .i64 a1), (3, .ptr (.agg [.int .i64 a2.f_From, .int .i64 a2.f_To]))]) (by kernel_rfl) (by kernel_rfl) (fun _ h => h) ?_
  refine W.seq ?_
  refine W.join (σ := (Bool)) (fun s => [(4, .bool s)]) (fun s => (rf1_Pair_j4) s = some r) (fun s h => ?_) (fun hK4 => ?_)
  · obtain ⟨v7, rfl⟩ : ∃ x, x = s := ⟨s, rfl⟩
    have h : (rf1_Pair_j4) v7 = some r := h
    unfold rf1_Pair_j4 at h
    refine W.weak [4] [] [] [] (env' := [(4, .bool v7)]) (by kernel_rfl) ?_
    have hr : aresults Try.prog Try.f31 [(4, .bool v7)] = some (.bool v7) := by kernel_rfl
    cases h
    exact W.ret hr
  refine W.region (by kernel_rfl) ?_
  obtain ⟨w5, hw5, h⟩ := bind_some h
  refine WO.callK 3 (F := 37) (l := [.int .i64 a1, .int .i64 a2.f_From]) (C := []) (r := .bool w5) (by kernel_rfl) (by kernel_rfl) (run_rf1_Set a1 a2.f_From w5 hw5) (e1 := [(0, .int .i64 a1), (3, .ptr (.agg [.int .i64 a2.f_From, .int .i64 a2.f_To])), (5, .int .i64 a1), (6, .ptr (.int .i64 a2.f_From)), (7, .int .i64 a2.f_From), (8, .bool w5)]) (by kernel_rfl) ?_
  refine WO.boolK 1 (fun b => [(0, .int .i64 a1), (3, .ptr (.agg [.int .i64 a2.f_From, .int .i64 a2.f_To])), (5, .int .i64 a1), (6, .ptr (.int .i64 a2.f_From)), (7, .int .i64 a2.f_From), (8, .bool b), (9, .bool b)]) w5 (by kernel_rfl) (fun hb => ?_) (fun hb => ?_)
  · replace h := cond_t hb h
    obtain ⟨w6, hw6, h⟩ := bind_some h
    refine WO.callK 3 (F := 37) (l := [.int .i64 a1, .int .i64 a2.f_To]) (C := []) (r := .bool w6) (by kernel_rfl) (by kernel_rfl) (run_rf1_Set a1 a2.f_To w6 hw6) (e1 := [(0, .int .i64 a1), (3, .ptr (.agg [.int .i64 a2.f_From, .int .i64 a2.f_To])), (5, .int .i64 a1), (6, .ptr (.int .i64 a2.f_From)), (7, .int .i64 a2.f_From), (8, .bool true), (9, .bool true), (10, .int .i64 a1), (11, .ptr (.int .i64 a2.f_To)), (12, .int .i64 a2.f_To), (13, .bool w6)]) (by kernel_rfl) ?_
    refine WO.fin [4] [] [] [] (e2 := [(4, .bool w6)]) (by kernel_rfl) (fun _ h => h) ?_
    exact hK4 w6 h
  replace h := cond_f hb h
  refine WO.fin [4] [] [] [] (e2 := [(4, .bool false)]) (by kernel_rfl) (fun _ h => h) ?_
  exact hK4 false h
def rf1_Valid_j8 : Option Bool :=
  (some true)
def rf1_Valid_l1 (a1 : Int) (K8 : (Option Bool)) : List rf1Dep → Nat → Option Bool
  | [], k1 => K8
  | x1 :: r1, k1 => ((rf1_Pair a1 x1).bind fun w13 => (bif (!w13) then (some false) else (rf1_Valid_l1 a1 K8 r1 (k1 + 1))))
def rf1_Valid_j5 (a1 : Int) (a2 : (List rf1Dep)) (v6 : Bool) : Option Bool :=
  (bif v6 then (some false) else (chk (lenOk a2) (rf1_Valid_l1 a1 (rf1_Valid_j8) a2 0)))
def rf1_Valid (a1 : Int) (a2 : (List rf1Dep)) : Option Bool :=
  (bif (decide (a1 < 1)) then ((rf1_Valid_j5 a1 a2) true) else (bif (decide (a1 > 8)) then ((rf1_Valid_j5 a1 a2) true) else ((rf1_Valid_j5 a1 a2) (decide ((a2.length : Int) > 12)))))
theorem run_rf1_Valid (a1 : Int) (a2 : (List rf1Dep)) (r : Bool) (h : rf1_Valid a1 a2 = some r) : Run Try.prog (.call 28 [.int .i64 a1, l40 none a2] (.bool r)) := by
  refine call_of_W Try.func28 rfl (by kernel_rfl) (env0 := [(0, .int .i64 a1), (1, l40 none a2)]) (by kernel_rfl) ?_
  unfold rf1_Valid at h
  refine W.seq ?_
  refine W.regT [0, 1] [] [] [] (e2 := [(0, .int .i64 a1), (1, l40 none a2)]) (by kernel_rfl) (by kernel_rfl) (fun _ h => h) ?_
  refine W.seq ?_
  refine W.seq ?_
  refine W.join (σ := (Bool)) (fun s => [(0, .int .i64 a1), (1, l40 none a2), (17, .bool s)]) (fun s => (rf1_Valid_j5 a1 a2) s = some r) (fun s h => ?_) (fun hK5 => ?_)
  · obtain ⟨v6, rfl⟩ : ∃ x, x = s := ⟨s, rfl⟩
    have h : (rf1_Valid_j5 a1 a2) v6 = some r := h
    unfold rf1_Valid_j5 at h
    refine W.condB v6 (by kernel_rfl) (fun hb => ?_) (fun hb => ?_)
    · replace h := cond_t hb h
      refine W.seq ?_
      refine W.regT [4] [] [] [] (e2 := [(4, .bool false)]) (by kernel_rfl) (by kernel_rfl) (fun _ h => h) ?_
      refine W.weak [4] [] [] [] (env' := [(4, .bool false)]) (by kernel_rfl) ?_
      have hr : aresults Try.prog Try.f28 [(4, .bool false)] = some (.bool false) := by kernel_rfl
      cases h
      exact W.ret hr
    replace h := cond_f hb h
    refine W.skip ?_
    refine W.weak [0, 1] [] [] [] (env' := [(0, .int .i64 a1), (1, l40 none a2)]) (by kernel_rfl) ?_
    refine W.seq ?_
    refine W.join (σ := Unit) (fun s => []) (fun s => (rf1_Valid_j8) = some r) (fun s h => ?_) (fun hK8 => ?_)
    · have h : (rf1_Valid_j8) = some r := h
      unfold rf1_Valid_j8 at h
      refine W.seq ?_
      refine W.regT [4] [] [] [] (e2 := [(4, .bool true)]) (by kernel_rfl) (by kernel_rfl) (fun _ h => h) ?_
      refine W.weak [4] [] [] [] (env' := [(4, .bool true)]) (by kernel_rfl) ?_
      have hr : aresults Try.prog Try.f28 [(4, .bool true)] = some (.bool true) := by kernel_rfl
      cases h
      exact W.ret hr
    refine W.seq ?_
    refine W.region (by kernel_rfl) ?_
    refine WO.pureK 1 (some (.int .i64 ((List.map e_rf1Dep a2).length : Int))) (v := .int .i64 (a2.length : Int)) (by kernel_rfl) (by rw [List.length_map]) (e1 := [(0, .int .i64 a1), (1, l40 none a2), (18, l40 none a2), (19, .int .i64 (a2.length : Int))]) (by kernel_rfl) ?_
    refine WO.fin [0, 18, 19, 20] [] [] [] (e2 := [(0, .int .i64 a1), (18, l40 none a2), (19, .int .i64 (a2.length : Int)), (20, .int .i64 0)]) (by kernel_rfl) (fun _ h => h) ?_
    refine W.block ?_
    obtain ⟨hl1, h⟩ := chk_some h
    refine W.weak [0, 18, 19, 20] [] [] [] (env' := [(0, .int .i64 a1), (18, l40 none a2), (19, .int .i64 (a2.length : Int)), (20, .int .i64 ((0 : Nat) : Int))]) (by kernel_rfl) ?_
    refine W.range (σ := Unit) a2 (fun k1 s => [(0, .int .i64 a1), (18, l40 none a2), (19, .int .i64 (a2.length : Int)), (20, .int .i64 (k1 : Int))]) (fun r0 k0 s => rf1_Valid_l1 a1 (rf1_Valid_j8) r0 k0 = some r) (fun s h => ?_) (fun x1 r1 k1 s hx1 hk1 h hN1 => ?_) () h
    · have h : rf1_Valid_l1 a1 (rf1_Valid_j8) [] (a2).length = some r := h
      rw [rf1_Valid_l1.eq_1] at h
      refine W.seq ?_
      refine W.region (by kernel_rfl) ?_
      refine WO.pureK 0 (some (.bool (decide (((a2).length : Int) < (a2.length : Int))))) (v := .bool false) (by kernel_rfl) (by rw [lt_false (l := a2)]) (e1 := [(0, .int .i64 a1), (18, l40 none a2), (19, .int .i64 (a2.length : Int)), (20, .int .i64 ((a2).length : Int)), (21, .bool false)]) (by kernel_rfl) ?_
      refine WO.fin ([0, 18, 19, 20, 21]) [] [] [] (e2 := [(0, .int .i64 a1), (18, l40 none a2), (19, .int .i64 (a2.length : Int)), (20, .int .i64 ((a2).length : Int)), (21, .bool false)]) (by kernel_rfl) (fun _ h => h) ?_
      refine W.seq ?_
      refine W.condB false (by kernel_rfl) (fun h => Bool.noConfusion h) (fun _ => ?_)
      refine W.exit ?_
      refine W.weak [] [] [] [] (env' := []) (by kernel_rfl) ?_
      exact hK8 () h
    · have h : rf1_Valid_l1 a1 (rf1_Valid_j8) (x1 :: r1) k1 = some r := h
      rw [rf1_Valid_l1.eq_2] at h
      refine W.seq ?_
      refine W.region (by kernel_rfl) ?_
      refine WO.pureK 0 (some (.bool (decide ((k1 : Int) < (a2.length : Int))))) (v := .bool true) (by kernel_rfl) (by rw [lt_true hk1]) (e1 := [(0, .int .i64 a1), (18, l40 none a2), (19, .int .i64 (a2.length : Int)), (20, .int .i64 (k1 : Int)), (21, .bool true)]) (by kernel_rfl) ?_
      refine WO.fin ([0, 18, 19, 20, 21]) [] [] [] (e2 := [(0, .int .i64 a1), (18, l40 none a2), (19, .int .i64 (a2.length : Int)), (20, .int .i64 (k1 : Int)), (21, .bool true)]) (by kernel_rfl) (fun _ h => h) ?_
      refine W.seq ?_
      refine W.condB true (by kernel_rfl) (fun _ => ?_) (fun h => Bool.noConfusion h)
      refine W.skip ?_
      refine W.weak [0, 18, 19, 20] [] [] [] (env' := [(0, .int .i64 a1), (18, l40 none a2), (19, .int .i64 (a2.length : Int)), (20, .int .i64 (k1 : Int))]) (by kernel_rfl) ?_
      refine W.seq ?_
      refine W.block ?_
      refine W.seq ?_
      refine W.region (by kernel_rfl) ?_
      refine WO.pureK 0 (if (0 : Int) ≤ (k1 : Int) then ((List.map e_rf1Dep a2)[Int.toNat (k1 : Int)]?).map AV.ptr else none) (v := .ptr (.agg [.int .i64 x1.f_From, .int .i64 x1.f_To])) (by kernel_rfl) (idx_nat (f := e_rf1Dep) hx1) (e1 := [(0, .int .i64 a1), (18, l40 none a2), (19, .int .i64 (a2.length : Int)), (20, .int .i64 (k1 : Int)), (22, .ptr (.agg [.int .i64 x1.f_From, .int .i64 x1.f_To]))]) (by kernel_rfl) ?_
      refine WO.fin [0, 6, 18, 19, 20] [6] [] [] (e2 := [(0, .int .i64 a1), (6, .ptr (.agg [.int .i64 x1.f_From, .int .i64 x1.f_To])), (18, l40 none a2), (19, .int .i64 (a2.length : Int)), (20, .int .i64 (k1 : Int))]) (by kernel_rfl) (fun _ h => h) ?_
      refine W.seq ?_
      refine W.region (by kernel_rfl) ?_
      obtain ⟨w13, hw13, h⟩ := bind_some h
      refine WO.callK 2 (F := 31) (l := [.int .i64 a1, .agg [.int .i64 x1.f_From, .int .i64 x1.f_To]]) (C := []) (r := .bool w13) (by kernel_rfl) (by kernel_rfl) (run_rf1_Pair a1 x1 w13 hw13) (e1 := [(0, .int .i64 a1), (6, .ptr (.agg [.int .i64 x1.f_From, .int .i64 x1.f_To])), (18, l40 none a2), (19, .int .i64 (a2.length : Int)), (20, .int .i64 (k1 : Int)), (24, .int .i64 a1), (25, .agg [.int .i64 x1.f_From, .int .i64 x1.f_To]), (26, .bool w13)]) (by kernel_rfl) ?_
      refine WO.fin [0, 18, 19, 20, 27] [] [] [] (e2 := [(0, .int .i64 a1), (18, l40 none a2), (19, .int .i64 (a2.length : Int)), (20, .int .i64 (k1 : Int)), (27, .bool (!w13))]) (by kernel_rfl) (fun _ h => h) ?_
      refine W.condB (!w13) (by kernel_rfl) (fun hb => ?_) (fun hb => ?_)
      · replace h := cond_t hb h
        refine W.seq ?_
        refine W.regT [4] [] [] [] (e2 := [(4, .bool false)]) (by kernel_rfl) (by kernel_rfl) (fun _ h => h) ?_
        refine W.weak [4] [] [] [] (env' := [(4, .bool false)]) (by kernel_rfl) ?_
        have hr : aresults Try.prog Try.f28 [(4, .bool false)] = some (.bool false) := by kernel_rfl
        cases h
        exact W.ret hr
      replace h := cond_f hb h
      refine W.skip ?_
      refine W.weak [0, 18, 19, 20] [] [] [] (env' := [(0, .int .i64 a1), (18, l40 none a2), (19, .int .i64 (a2.length : Int)), (20, .int .i64 (k1 : Int))]) (by kernel_rfl) ?_
      refine W.region (by kernel_rfl) ?_
      refine WO.pureK 0 (some (.int .i64 (IntKind.wrap .i64 ((k1 : Int) + 1)))) (v := .int .i64 ((k1 + 1 : Nat) : Int)) (by kernel_rfl) (by rw [wrap_succ hl1 hk1]) (e1 := [(0, .int .i64 a1), (18, l40 none a2), (19, .int .i64 (a2.length : Int)), (20, .int .i64 (k1 : Int)), (28, .int .i64 ((k1 + 1 : Nat) : Int))]) (by kernel_rfl) ?_
      refine WO.fin [0, 18, 19, 20] [] [] [] (e2 := [(0, .int .i64 a1), (18, l40 none a2), (19, .int .i64 (a2.length : Int)), (20, .int .i64 ((k1 + 1 : Nat) : Int))]) (by kernel_rfl) (fun _ h => h) ?_
      exact hN1 () h
  refine W.region (by kernel_rfl) ?_
  refine WO.boolK 3 (fun b => [(0, .int .i64 a1), (1, l40 none a2), (7, .int .i64 a1), (8, .bool b), (9, .bool b)]) (decide (a1 < 1)) (by kernel_rfl) (fun hb => ?_) (fun hb => ?_)
  · replace h := cond_t hb h
    refine WO.fin [0, 1, 17] [] [] [] (e2 := [(0, .int .i64 a1), (1, l40 none a2), (17, .bool true)]) (by kernel_rfl) (fun _ h => h) ?_
    exact hK5 true h
  replace h := cond_f hb h
  refine WO.boolK 4 (fun b => [(0, .int .i64 a1), (1, l40 none a2), (7, .int .i64 a1), (8, .bool false), (9, .bool false), (10, .int .i64 a1), (11, .bool b), (12, .bool b), (13, .bool b)]) (decide (a1 > 8)) (by kernel_rfl) (fun hb => ?_) (fun hb => ?_)
  · replace h := cond_t hb h
    refine WO.fin [0, 1, 17] [] [] [] (e2 := [(0, .int .i64 a1), (1, l40 none a2), (17, .bool true)]) (by kernel_rfl) (fun _ h => h) ?_
    exact hK5 true h
  replace h := cond_f hb h
  refine WO.pureK 1 (some (.int .i64 ((List.map e_rf1Dep a2).length : Int))) (v := .int .i64 (a2.length : Int)) (by kernel_rfl) (by rw [List.length_map]) (e1 := [(0, .int .i64 a1), (1, l40 none a2), (7, .int .i64 a1), (8, .bool false), (9, .bool false), (10, .int .i64 a1), (11, .bool false), (12, .bool false), (13, .bool false), (14, l40 none a2), (15, .int .i64 (a2.length : Int))]) (by kernel_rfl) ?_
  refine WO.fin [0, 1, 17] [] [] [] (e2 := [(0, .int .i64 a1), (1, l40 none a2), (17, .bool (decide ((a2.length : Int) > 12)))]) (by kernel_rfl) (fun _ h => h) ?_
  exact hK5 (decide ((a2.length : Int) > 12)) h
def dp_Closure_j6 (fuel : Nat) (a2 : (List dpDep)) (a3 : Int) (v9 : Bool) : Option (Int × Int) :=
  (bif v9 then (some (0, 2)) else ((dp_closure a2).bind fun w12 => ((dp_closure_1 fuel a3 w12).bind fun w13 => (some (w13, 0)))))
def dp_Closure (fuel : Nat) (a1 : Int) (a2 : (List dpDep)) (a3 : Int) : Option (Int × Int) :=
  ((dp_valid a1 a2).bind fun w7 => (bif (!w7) then ((dp_Closure_j6 fuel a2 a3) true) else ((dp_sets a1 [a3]).bind fun w8 => ((dp_Closure_j6 fuel a2 a3) (!w8)))))
theorem run_dp_Closure (fuel : Nat) (a1 : Int) (a2 : (List dpDep)) (a3 : Int) (r : (Int × Int)) (h : dp_Closure fuel a1 a2 a3 = some r) : Run Try.prog (.call 19 [.int .i64 a1, l33 none a2, .int .i64 a3] (.tup [.int .i64 r.1, .int .i64 r.2])) := by
  refine call_of_W Try.func19 rfl (by kernel_rfl) (env0 := [(0, .int .i64 a1), (1, l33 none a2), (2, .int .i64 a3)]) (by kernel_rfl) ?_
  unfold dp_Closure at h
  refine W.seq ?_
  refine W.regT [0, 1, 2] [] [] [] (e2 := [(0, .int .i64 a1), (1, l33 none a2), (2, .int .i64 a3)]) (by kernel_rfl) (by kernel_rfl) (fun _ h => h) ?_
  refine W.seq ?_
  refine W.seq ?_
  refine W.join (σ := (Bool)) (fun s => [(1, l33 none a2), (2, .int .i64 a3), (18, .bool s)]) (fun s => (dp_Closure_j6 fuel a2 a3) s = some r) (fun s h => ?_) (fun hK6 => ?_)
  · obtain ⟨v9, rfl⟩ : ∃ x, x = s := ⟨s, rfl⟩
    have h : (dp_Closure_j6 fuel a2 a3) v9 = some r := h
    unfold dp_Closure_j6 at h
    refine W.condB v9 (by kernel_rfl) (fun hb => ?_) (fun hb => ?_)
    · replace h := cond_t hb h
      refine W.seq ?_
      refine W.regT [6, 7] [] [] [] (e2 := [(6, .int .i64 0), (7, .int .i64 2)]) (by kernel_rfl) (by kernel_rfl) (fun _ h => h) ?_
      refine W.weak [6, 7] [] [] [] (env' := [(6, .int .i64 0), (7, .int .i64 2)]) (by kernel_rfl) ?_
      have hr : aresults Try.prog Try.f19 [(6, .int .i64 0), (7, .int .i64 2)] = some (.tup [.int .i64 0, .int .i64 2]) := by kernel_rfl
      cases h
      exact W.ret hr
    replace h := cond_f hb h
    refine W.skip ?_
    refine W.weak [1, 2] [] [] [] (env' := [(1, l33 none a2), (2, .int .i64 a3)]) (by kernel_rfl) ?_
    refine W.seq ?_
    refine W.region (by kernel_rfl) ?_
    obtain ⟨w12, hw12, h⟩ := bind_some h
    refine WO.callK 1 (F := 59) (l := [l33 none a2]) (C := []) (r := .clo 77 [.ptr (l33 none w12)]) (by kernel_rfl) (by kernel_rfl) (run_dp_closure a2 w12 hw12) (e1 := [(1, l33 none a2), (2, .int .i64 a3), (19, l33 none a2), (20, .clo 77 [.ptr (l33 none w12)])]) (by kernel_rfl) ?_
    obtain ⟨w13, hw13, h⟩ := bind_some h
    refine WO.callK 1 (F := 77) (l := [.int .i64 a3]) (C := [.ptr (l33 none w12)]) (r := .int .i64 w13) (by kernel_rfl) (by kernel_rfl) (run_dp_closure_1 fuel a3 w12 w13 hw13) (e1 := [(1, l33 none a2), (2, .int .i64 a3), (19, l33 none a2), (20, .clo 77 [.ptr (l33 none w12)]), (21, .int .i64 a3), (22, .int .i64 w13)]) (by kernel_rfl) ?_
    refine WO.fin [6, 7] [] [] [] (e2 := [(6, .int .i64 w13), (7, .int .i64 0)]) (by kernel_rfl) (fun _ h => h) ?_
    refine W.weak [6, 7] [] [] [] (env' := [(6, .int .i64 w13), (7, .int .i64 0)]) (by kernel_rfl) ?_
    have hr : aresults Try.prog Try.f19 [(6, .int .i64 w13), (7, .int .i64 0)] = some (.tup [.int .i64 w13, .int .i64 0]) := by kernel_rfl
    cases h
    exact W.ret hr
  refine W.region (by kernel_rfl) ?_
  obtain ⟨w7, hw7, h⟩ := bind_some h
  refine WO.callK 2 (F := 57) (l := [.int .i64 a1, l33 none a2]) (C := []) (r := .bool w7) (by kernel_rfl) (by kernel_rfl) (run_dp_valid a1 a2 w7 hw7) (e1 := [(0, .int .i64 a1), (1, l33 none a2), (2, .int .i64 a3), (8, .int .i64 a1), (9, l33 none a2), (10, .bool w7)]) (by kernel_rfl) ?_
  refine WO.boolK 2 (fun b => [(0, .int .i64 a1), (1, l33 none a2), (2, .int .i64 a3), (8, .int .i64 a1), (9, l33 none a2), (10, .bool w7), (11, .bool b), (12, .bool b)]) (!w7) (by kernel_rfl) (fun hb => ?_) (fun hb => ?_)
  · replace h := cond_t hb h
    refine WO.fin [1, 2, 18] [] [] [] (e2 := [(1, l33 none a2), (2, .int .i64 a3), (18, .bool true)]) (by kernel_rfl) (fun _ h => h) ?_
    exact hK6 true h
  replace h := cond_f hb h
  obtain ⟨w8, hw8, h⟩ := bind_some h
  refine WO.callK 3 (F := 58) (l := [.int .i64 a1, l3 none [a3]]) (C := []) (r := .bool w8) (by kernel_rfl) (by kernel_rfl) (run_dp_sets a1 [a3] w8 hw8) (e1 := [(0, .int .i64 a1), (1, l33 none a2), (2, .int .i64 a3), (8, .int .i64 a1), (9, l33 none a2), (10, .bool w7), (11, .bool false), (12, .bool false), (13, .int .i64 a1), (14, .int .i64 a3), (15, l3 (some 15) [a3]), (16, .bool w8)]) (by kernel_rfl) ?_
  refine WO.fin [1, 2, 18] [] [] [] (e2 := [(1, l33 none a2), (2, .int .i64 a3), (18, .bool (!w8))]) (by kernel_rfl) (fun _ h => h) ?_
  exact hK6 (!w8) h
def lw1_awake_j4 (v5 : Bool) : Option Bool :=
  (some v5)
def lw1_awake (fuel : Nat) : Option Bool :=
  ((dp_Closure fuel 3 [(dpDep.mk 1 2), (dpDep.mk 2 4)] 1).bind fun w3 => (bif (w3.1 == 7) then ((lw1_awake_j4) (w3.2 == 0)) else ((lw1_awake_j4) false)))
theorem run_lw1_awake (fuel : Nat)  (r : Bool) (h : lw1_awake fuel = some r) : Run Try.prog (.call 21 [] (.bool r)) := by
  refine call_of_W Try.func21 rfl (by kernel_rfl) (env0 := []) (by kernel_rfl) ?_
  unfold lw1_awake at h
  refine W.seq ?_
  refine W.regT [] [] [] [] (e2 := []) (by kernel_rfl) (by kernel_rfl) (fun _ h => h) ?_
  refine W.seq ?_
  refine W.region (by kernel_rfl) ?_
  obtain ⟨w3, hw3, h⟩ := bind_some h
  refine WO.callK 3 (F := 19) (l := [.int .i64 3, l33 none [(dpDep.mk 1 2), (dpDep.mk 2 4)], .int .i64 1]) (C := []) (r := .tup [.int .i64 w3.1, .int .i64 w3.2]) (by kernel_rfl) (by kernel_rfl) (run_dp_Closure fuel 3 [(dpDep.mk 1 2), (dpDep.mk 2 4)] 1 w3 hw3) (e1 := [(4, .agg [.int .i64 1, .int .i64 2]), (5, .agg [.int .i64 2, .int .i64 4]), (6, l33 (some 6) [(dpDep.mk 1 2), (dpDep.mk 2 4)]), (7, .tup [.int .i64 w3.1, .int .i64 w3.2])]) (by kernel_rfl) ?_
  refine WO.fin [1, 2] [] [] [] (e2 := [(1, .int .i64 w3.1), (2, .int .i64 w3.2)]) (by kernel_rfl) (fun _ h => h) ?_
  refine W.seq ?_
  refine W.join (σ := (Bool)) (fun s => [(0, .bool s)]) (fun s => (lw1_awake_j4) s = some r) (fun s h => ?_) (fun hK4 => ?_)
  · obtain ⟨v5, rfl⟩ : ∃ x, x = s := ⟨s, rfl⟩
    have h : (lw1_awake_j4) v5 = some r := h
    unfold lw1_awake_j4 at h
    refine W.weak [0] [] [] [] (env' := [(0, .bool v5)]) (by kernel_rfl) ?_
    have hr : aresults Try.prog Try.f21 [(0, .bool v5)] = some (.bool v5) := by kernel_rfl
    cases h
    exact W.ret hr
  refine W.region (by kernel_rfl) ?_
  refine WO.boolK 3 (fun b => [(1, .int .i64 w3.1), (2, .int .i64 w3.2), (10, .int .i64 w3.1), (11, .bool b), (12, .bool b)]) (w3.1 == 7) (by kernel_rfl) (fun hb => ?_) (fun hb => ?_)
  · replace h := cond_t hb h
    refine WO.fin [0] [] [] [] (e2 := [(0, .bool (w3.2 == 0))]) (by kernel_rfl) (fun _ h => h) ?_
    exact hK4 (w3.2 == 0) h
  replace h := cond_f hb h
  refine WO.fin [0] [] [] [] (e2 := [(0, .bool false)]) (by kernel_rfl) (fun _ h => h) ?_
  exact hK4 false h

end Go.AM
