/- PRINTED by gen.py: pure functions and the proofs that the code computes them. No statement of the seat is proved here. -/
import Derived.Test.YtombfedoinhafaaK16T
set_option maxRecDepth 100000
set_option linter.unusedVariables false
set_option linter.unusedSimpArgs false
namespace Go.AM
open Go.Proofs
def lw1_deps_j4 (v12 : (List dpDep)) : Option (List dpDep) :=
  (some v12)
def lw1_deps_l1 (K4 : ((List dpDep) → Option (List dpDep))) : List rf1Dep → Nat → (List dpDep) → Option (List dpDep)
  | [], k1, v6 => (K4 v6)
  | x1 :: r1, k1, v6 => (bif (decide ((k1 : Int) > 13)) then (K4 v6) else (chk (capOk 16 ((v6 ++ [(dpDep.mk x1.f_From x1.f_To)])).length) ((lw1_deps_l1 K4 r1 (k1 + 1)) (v6 ++ [(dpDep.mk x1.f_From x1.f_To)]))))
def lw1_deps (a1 : (List rf1Dep)) : Option (List dpDep) :=
  (chk (lenOk a1) (lw1_deps_l1 (lw1_deps_j4) a1 0 ([] : (List dpDep))))
theorem run_lw1_deps (a1 : (List rf1Dep)) (r : (List dpDep)) (h : lw1_deps a1 = some r) : Run Try.prog (.call 20 [l40 none a1] (l33 (some 1) r)) := by
  refine call_of_W Try.func20 rfl (by kernel_rfl) (env0 := [(0, l40 none a1)]) (by kernel_rfl) ?_
  unfold lw1_deps at h
  refine W.seq ?_
  refine W.regT [0] [] [] [] (e2 := [(0, l40 none a1)]) (by kernel_rfl) (by kernel_rfl) (fun _ h => h) ?_
  refine W.seq ?_
  refine W.regT [0, 3] [] [] [] (e2 := [(0, l40 none a1), (3, .nils)]) (by kernel_rfl) (by kernel_rfl) (fun _ h => h) ?_
  refine W.seq ?_
  refine W.join (σ := ((List dpDep))) (fun s => [(3, l33 (some 10300) s)]) (fun s => (lw1_deps_j4) s = some r) (fun s h => ?_) (fun hK4 => ?_)
  · obtain ⟨v12, rfl⟩ : ∃ x, x = s := ⟨s, rfl⟩
    have h : (lw1_deps_j4) v12 = some r := h
    unfold lw1_deps_j4 at h
    refine W.seq ?_
    refine W.regT [2] [] [] [] (e2 := [(2, l33 (some 10300) v12)]) (by kernel_rfl) (by kernel_rfl) (fun _ h => h) ?_
    refine W.weak [2] [] [] [(10300, some 1)] (env' := [(2, l33 (some 1) v12)]) (by kernel_rfl) ?_
    have hr : aresults Try.prog Try.f20 [(2, l33 (some 1) v12)] = some (l33 (some 1) v12) := by kernel_rfl
    cases h
    exact W.ret hr
  refine W.seq ?_
  refine W.region (by kernel_rfl) ?_
  refine WO.pureK 1 (some (I6 ((List.map e_rf1Dep a1).length : Int))) (v := I6 (a1.length : Int)) (by kernel_rfl) (by rw [List.length_map]) (e1 := [(0, l40 none a1), (3, .nils), (6, l40 none a1), (7, I6 (a1.length : Int))]) (by kernel_rfl) ?_
  refine WO.fin [3, 6, 7, 8] [] [] [] (e2 := [(3, .nils), (6, l40 none a1), (7, I6 (a1.length : Int)), (8, .int .i64 0)]) (by kernel_rfl) (fun _ h => h) ?_
  refine W.block ?_
  obtain ⟨hl1, h⟩ := chk_some h
  refine W.weak [3, 6, 7, 8] [] [(3, 0, 33, 2, 10300)] [] (env' := [(3, l33 (some 10300) ([] : (List dpDep))), (6, l40 none a1), (7, I6 (a1.length : Int)), (8, I6 ((0 : Nat) : Int))]) (by kernel_rfl) ?_
  refine W.range (σ := ((List dpDep))) a1 (fun k1 s => [(3, l33 (some 10300) s), (6, l40 none a1), (7, I6 (a1.length : Int)), (8, I6 (k1 : Int))]) (fun r0 k0 s => lw1_deps_l1 (lw1_deps_j4) r0 k0 s = some r) (fun s h => ?_) (fun x1 r1 k1 s hx1 hk1 h hN1 => ?_) ([] : (List dpDep)) h
  · obtain ⟨v6, rfl⟩ : ∃ x, x = s := ⟨s, rfl⟩
    have h : lw1_deps_l1 (lw1_deps_j4) [] (a1).length v6 = some r := h
    rw [lw1_deps_l1.eq_1] at h
    refine W.seq ?_
    refine W.region (by kernel_rfl) ?_
    refine WO.pureK 0 (some (.bool (decide (((a1).length : Int) < (a1.length : Int))))) (v := .bool false) (by kernel_rfl) (by rw [lt_false (l := a1)]) (e1 := [(3, l33 (some 10300) v6), (6, l40 none a1), (7, I6 (a1.length : Int)), (8, I6 ((a1).length : Int)), (9, .bool false)]) (by kernel_rfl) ?_
    refine WO.fin ([3, 6, 7, 8, 9]) [] [] [] (e2 := [(3, l33 (some 10300) v6), (6, l40 none a1), (7, I6 (a1.length : Int)), (8, I6 ((a1).length : Int)), (9, .bool false)]) (by kernel_rfl) (fun _ h => h) ?_
    refine W.seq ?_
    refine W.condB false (by kernel_rfl) (fun h => Bool.noConfusion h) (fun _ => ?_)
    refine W.exit ?_
    refine W.weak [3] [] [] [] (env' := [(3, l33 (some 10300) v6)]) (by kernel_rfl) ?_
    exact hK4 v6 h
  · obtain ⟨v6, rfl⟩ : ∃ x, x = s := ⟨s, rfl⟩
    have h : lw1_deps_l1 (lw1_deps_j4) (x1 :: r1) k1 v6 = some r := h
    rw [lw1_deps_l1.eq_2] at h
    refine W.seq ?_
    refine W.region (by kernel_rfl) ?_
    refine WO.pureK 0 (some (.bool (decide ((k1 : Int) < (a1.length : Int))))) (v := .bool true) (by kernel_rfl) (by rw [lt_true hk1]) (e1 := [(3, l33 (some 10300) v6), (6, l40 none a1), (7, I6 (a1.length : Int)), (8, I6 (k1 : Int)), (9, .bool true)]) (by kernel_rfl) ?_
    refine WO.fin ([3, 6, 7, 8, 9]) [] [] [] (e2 := [(3, l33 (some 10300) v6), (6, l40 none a1), (7, I6 (a1.length : Int)), (8, I6 (k1 : Int)), (9, .bool true)]) (by kernel_rfl) (fun _ h => h) ?_
    refine W.seq ?_
    refine W.condB true (by kernel_rfl) (fun _ => ?_) (fun h => Bool.noConfusion h)
    refine W.skip ?_
    refine W.weak [3, 6, 7, 8] [] [] [] (env' := [(3, l33 (some 10300) v6), (6, l40 none a1), (7, I6 (a1.length : Int)), (8, I6 (k1 : Int))]) (by kernel_rfl) ?_
    refine W.seq ?_
    refine W.block ?_
    refine W.seq ?_
    refine W.region (by kernel_rfl) ?_
    refine WO.pureK 1 (if (0 : Int) ≤ (k1 : Int) then ((List.map e_rf1Dep a1)[Int.toNat (k1 : Int)]?).map AV.ptr else none) (v := .ptr (.agg [I6 x1.f_From, I6 x1.f_To])) (by kernel_rfl) (idx_nat (f := e_rf1Dep) hx1) (e1 := [(3, l33 (some 10300) v6), (6, l40 none a1), (7, I6 (a1.length : Int)), (8, I6 (k1 : Int)), (10, I6 (k1 : Int)), (11, .ptr (.agg [I6 x1.f_From, I6 x1.f_To]))]) (by kernel_rfl) ?_
    refine WO.fin [3, 4, 5, 6, 7, 8] [5] [] [] (e2 := [(3, l33 (some 10300) v6), (4, I6 (k1 : Int)), (5, .ptr (.agg [I6 x1.f_From, I6 x1.f_To])), (6, l40 none a1), (7, I6 (a1.length : Int)), (8, I6 (k1 : Int))]) (by kernel_rfl) (fun _ h => h) ?_
    refine W.seq ?_
    refine W.seq ?_
    refine W.regT [3, 5, 6, 7, 8, 14] [] [] [] (e2 := [(3, l33 (some 10300) v6), (5, .ptr (.agg [I6 x1.f_From, I6 x1.f_To])), (6, l40 none a1), (7, I6 (a1.length : Int)), (8, I6 (k1 : Int)), (14, .bool (decide ((k1 : Int) > 13)))]) (by kernel_rfl) (by kernel_rfl) (fun _ h => h) ?_
    refine W.condB (decide ((k1 : Int) > 13)) (by kernel_rfl) (fun hb => ?_) (fun hb => ?_)
    · replace h := cond_t hb h
      refine W.exit ?_
      refine W.weak [3] [] [] [] (env' := [(3, l33 (some 10300) v6)]) (by kernel_rfl) ?_
      exact hK4 v6 h
    replace h := cond_f hb h
    refine W.skip ?_
    refine W.weak [3, 5, 6, 7, 8] [] [] [] (env' := [(3, l33 (some 10300) v6), (5, .ptr (.agg [I6 x1.f_From, I6 x1.f_To])), (6, l40 none a1), (7, I6 (a1.length : Int)), (8, I6 (k1 : Int))]) (by kernel_rfl) ?_
    refine W.region (by kernel_rfl) ?_
    obtain ⟨hc11, h⟩ := chk_some h
    refine WO.appendK 7 (d := 22) (e := 33) (s := 2) (bytes := 16) (xs := (List.map e_dpDep v6)) (ys := (List.map e_dpDep [(dpDep.mk x1.f_From x1.f_To)])) (zs := (List.map e_dpDep (v6 ++ [(dpDep.mk x1.f_From x1.f_To)]))) (env1 := [(3, l33 none v6), (5, .ptr (.agg [I6 x1.f_From, I6 x1.f_To])), (6, l40 none a1), (7, I6 (a1.length : Int)), (8, I6 (k1 : Int)), (15, l33 none v6), (16, .ptr (I6 x1.f_From)), (17, I6 x1.f_From), (18, .ptr (I6 x1.f_To)), (19, I6 x1.f_To), (20, .agg [I6 x1.f_From, I6 x1.f_To]), (21, l33 (some 21) [(dpDep.mk x1.f_From x1.f_To)])]) (by kernel_rfl) (List.map_append.symm) (by rw [List.length_map]; exact hc11) (e1 := [(3, l33 none v6), (5, .ptr (.agg [I6 x1.f_From, I6 x1.f_To])), (6, l40 none a1), (7, I6 (a1.length : Int)), (8, I6 (k1 : Int)), (15, l33 none v6), (16, .ptr (I6 x1.f_From)), (17, I6 x1.f_From), (18, .ptr (I6 x1.f_To)), (19, I6 x1.f_To), (20, .agg [I6 x1.f_From, I6 x1.f_To]), (21, l33 (some 21) [(dpDep.mk x1.f_From x1.f_To)]), (22, l33 (some 22) (v6 ++ [(dpDep.mk x1.f_From x1.f_To)]))]) (by kernel_rfl) ?_
    refine WO.fin [3, 6, 7, 8] [] [] [] (e2 := [(3, l33 (some 22) (v6 ++ [(dpDep.mk x1.f_From x1.f_To)])), (6, l40 none a1), (7, I6 (a1.length : Int)), (8, I6 (k1 : Int))]) (by kernel_rfl) (fun _ h => h) ?_
    refine W.region (by kernel_rfl) ?_
    refine WO.pureK 0 (some (I6 (IntKind.wrap .i64 ((k1 : Int) + 1)))) (v := I6 ((k1 + 1 : Nat) : Int)) (by kernel_rfl) (by rw [wrap_succ hl1 hk1]) (e1 := [(3, l33 (some 22) (v6 ++ [(dpDep.mk x1.f_From x1.f_To)])), (6, l40 none a1), (7, I6 (a1.length : Int)), (8, I6 (k1 : Int)), (23, I6 ((k1 + 1 : Nat) : Int))]) (by kernel_rfl) ?_
    refine WO.fin [3, 6, 7, 8] [] [] [(22, some 10300)] (e2 := [(3, l33 (some 10300) (v6 ++ [(dpDep.mk x1.f_From x1.f_To)])), (6, l40 none a1), (7, I6 (a1.length : Int)), (8, I6 ((k1 + 1 : Nat) : Int))]) (by kernel_rfl) (fun _ h => h) ?_
    exact hN1 (v6 ++ [(dpDep.mk x1.f_From x1.f_To)]) h
def sl_IndexFunc_dpDep_j4 : Option Int :=
  (some (-1))
def sl_IndexFunc_dpDep_l1 (g2 : (dpDep → Option Bool)) (K4 : (Option Int)) : List dpDep → Nat → Option Int
  | [], k1 => K4
  | x1 :: r1, k1 => ((g2 x1).bind fun w9 => (bif w9 then (some (k1 : Int)) else (sl_IndexFunc_dpDep_l1 g2 K4 r1 (k1 + 1))))
def sl_IndexFunc_dpDep (a1 : (List dpDep)) (g2 : (dpDep → Option Bool)) : Option Int :=
  (chk (lenOk a1) (sl_IndexFunc_dpDep_l1 g2 (sl_IndexFunc_dpDep_j4) a1 0))
theorem run_sl_IndexFunc_dpDep (a1 : (List dpDep)) (g2 : (dpDep → Option Bool)) (F_g2 : Nat) (C_g2 : List AV) (hok_g2 : okFn Try.prog F_g2 = true) (hrun_g2 : ∀ (x0 : dpDep) r, g2 x0 = some r → Run Try.prog (.call F_g2 ([.agg [I6 x0.f_From, I6 x0.f_To]] ++ C_g2) (.bool r))) (r : Int) (h : sl_IndexFunc_dpDep a1 g2 = some r) : Run Try.prog (.call 92 [l33 none a1, .clo F_g2 C_g2] (I6 r)) := by
  refine call_of_W Try.func92 rfl (by kernel_rfl) (env0 := [(0, l33 none a1), (1, .clo F_g2 C_g2)]) (by kernel_rfl) ?_
  unfold sl_IndexFunc_dpDep at h
  refine W.seq ?_
  refine W.regT [0, 1] [] [] [] (e2 := [(0, l33 none a1), (1, .clo F_g2 C_g2)]) (by kernel_rfl) (by kernel_rfl) (fun _ h => h) ?_
  refine W.seq ?_
  refine W.join (σ := Unit) (fun s => []) (fun s => (sl_IndexFunc_dpDep_j4) = some r) (fun s h => ?_) (fun hK4 => ?_)
  · have h : (sl_IndexFunc_dpDep_j4) = some r := h
    unfold sl_IndexFunc_dpDep_j4 at h
    refine W.seq ?_
    refine W.regT [4] [] [] [] (e2 := [(4, I6 (-1))]) (by kernel_rfl) (by kernel_rfl) (fun _ h => h) ?_
    refine W.weak [4] [] [] [] (env' := [(4, I6 (-1))]) (by kernel_rfl) ?_
    have hr : aresults Try.prog Try.f92 [(4, I6 (-1))] = some (I6 (-1)) := by kernel_rfl
    cases h
    exact W.ret hr
  refine W.seq ?_
  refine W.region (by kernel_rfl) ?_
  refine WO.pureK 1 (some (I6 ((List.map e_dpDep a1).length : Int))) (v := I6 (a1.length : Int)) (by kernel_rfl) (by rw [List.length_map]) (e1 := [(0, l33 none a1), (1, .clo F_g2 C_g2), (6, l33 none a1), (7, I6 (a1.length : Int))]) (by kernel_rfl) ?_
  refine WO.fin [0, 1, 7, 8] [] [] [] (e2 := [(0, l33 none a1), (1, .clo F_g2 C_g2), (7, I6 (a1.length : Int)), (8, .int .i64 0)]) (by kernel_rfl) (fun _ h => h) ?_
  refine W.block ?_
  obtain ⟨hl1, h⟩ := chk_some h
  refine W.weak [0, 1, 7, 8] [] [] [] (env' := [(0, l33 none a1), (1, .clo F_g2 C_g2), (7, I6 (a1.length : Int)), (8, I6 ((0 : Nat) : Int))]) (by kernel_rfl) ?_
  refine W.range (σ := Unit) a1 (fun k1 s => [(0, l33 none a1), (1, .clo F_g2 C_g2), (7, I6 (a1.length : Int)), (8, I6 (k1 : Int))]) (fun r0 k0 s => sl_IndexFunc_dpDep_l1 g2 (sl_IndexFunc_dpDep_j4) r0 k0 = some r) (fun s h => ?_) (fun x1 r1 k1 s hx1 hk1 h hN1 => ?_) () h
  · have h : sl_IndexFunc_dpDep_l1 g2 (sl_IndexFunc_dpDep_j4) [] (a1).length = some r := h
    rw [sl_IndexFunc_dpDep_l1.eq_1] at h
    refine W.seq ?_
    refine W.region (by kernel_rfl) ?_
    refine WO.pureK 0 (some (.bool (decide (((a1).length : Int) < (a1.length : Int))))) (v := .bool false) (by kernel_rfl) (by rw [lt_false (l := a1)]) (e1 := [(0, l33 none a1), (1, .clo F_g2 C_g2), (7, I6 (a1.length : Int)), (8, I6 ((a1).length : Int)), (9, .bool false)]) (by kernel_rfl) ?_
    refine WO.fin ([0, 1, 7, 8, 9]) [] [] [] (e2 := [(0, l33 none a1), (1, .clo F_g2 C_g2), (7, I6 (a1.length : Int)), (8, I6 ((a1).length : Int)), (9, .bool false)]) (by kernel_rfl) (fun _ h => h) ?_
    refine W.seq ?_
    refine W.condB false (by kernel_rfl) (fun h => Bool.noConfusion h) (fun _ => ?_)
    refine W.exit ?_
    refine W.weak [] [] [] [] (env' := []) (by kernel_rfl) ?_
    exact hK4 () h
  · have h : sl_IndexFunc_dpDep_l1 g2 (sl_IndexFunc_dpDep_j4) (x1 :: r1) k1 = some r := h
    rw [sl_IndexFunc_dpDep_l1.eq_2] at h
    refine W.seq ?_
    refine W.region (by kernel_rfl) ?_
    refine WO.pureK 0 (some (.bool (decide ((k1 : Int) < (a1.length : Int))))) (v := .bool true) (by kernel_rfl) (by rw [lt_true hk1]) (e1 := [(0, l33 none a1), (1, .clo F_g2 C_g2), (7, I6 (a1.length : Int)), (8, I6 (k1 : Int)), (9, .bool true)]) (by kernel_rfl) ?_
    refine WO.fin ([0, 1, 7, 8, 9]) [] [] [] (e2 := [(0, l33 none a1), (1, .clo F_g2 C_g2), (7, I6 (a1.length : Int)), (8, I6 (k1 : Int)), (9, .bool true)]) (by kernel_rfl) (fun _ h => h) ?_
    refine W.seq ?_
    refine W.condB true (by kernel_rfl) (fun _ => ?_) (fun h => Bool.noConfusion h)
    refine W.skip ?_
    refine W.weak [0, 1, 7, 8] [] [] [] (env' := [(0, l33 none a1), (1, .clo F_g2 C_g2), (7, I6 (a1.length : Int)), (8, I6 (k1 : Int))]) (by kernel_rfl) ?_
    refine W.seq ?_
    refine W.block ?_
    refine W.seq ?_
    refine W.regT [0, 1, 5, 7, 8] [] [] [] (e2 := [(0, l33 none a1), (1, .clo F_g2 C_g2), (5, I6 (k1 : Int)), (7, I6 (a1.length : Int)), (8, I6 (k1 : Int))]) (by kernel_rfl) (by kernel_rfl) (fun _ h => h) ?_
    refine W.seq ?_
    refine W.region (by kernel_rfl) ?_
    refine WO.pureK 3 (if (0 : Int) ≤ (k1 : Int) then ((List.map e_dpDep a1)[Int.toNat (k1 : Int)]?).map AV.ptr else none) (v := .ptr (.agg [I6 x1.f_From, I6 x1.f_To])) (by kernel_rfl) (idx_nat (f := e_dpDep) hx1) (e1 := [(0, l33 none a1), (1, .clo F_g2 C_g2), (5, I6 (k1 : Int)), (7, I6 (a1.length : Int)), (8, I6 (k1 : Int)), (11, .clo F_g2 C_g2), (12, l33 none a1), (13, I6 (k1 : Int)), (14, .ptr (.agg [I6 x1.f_From, I6 x1.f_To]))]) (by kernel_rfl) ?_
    obtain ⟨w9, hw9, h⟩ := bind_some h
    refine WO.callK 1 (F := F_g2) (l := [.agg [I6 x1.f_From, I6 x1.f_To]]) (C := C_g2) (r := .bool w9) (by kernel_rfl) hok_g2 (hrun_g2 x1 w9 hw9) (e1 := [(0, l33 none a1), (1, .clo F_g2 C_g2), (5, I6 (k1 : Int)), (7, I6 (a1.length : Int)), (8, I6 (k1 : Int)), (11, .clo F_g2 C_g2), (12, l33 none a1), (13, I6 (k1 : Int)), (14, .ptr (.agg [I6 x1.f_From, I6 x1.f_To])), (15, .agg [I6 x1.f_From, I6 x1.f_To]), (16, .bool w9)]) (by kernel_rfl) ?_
    refine WO.fin [0, 1, 5, 7, 8, 16] [] [] [] (e2 := [(0, l33 none a1), (1, .clo F_g2 C_g2), (5, I6 (k1 : Int)), (7, I6 (a1.length : Int)), (8, I6 (k1 : Int)), (16, .bool w9)]) (by kernel_rfl) (fun _ h => h) ?_
    refine W.condB w9 (by kernel_rfl) (fun hb => ?_) (fun hb => ?_)
    · replace h := cond_t hb h
      refine W.seq ?_
      refine W.regT [4] [] [] [] (e2 := [(4, I6 (k1 : Int))]) (by kernel_rfl) (by kernel_rfl) (fun _ h => h) ?_
      refine W.weak [4] [] [] [] (env' := [(4, I6 (k1 : Int))]) (by kernel_rfl) ?_
      have hr : aresults Try.prog Try.f92 [(4, I6 (k1 : Int))] = some (I6 (k1 : Int)) := by kernel_rfl
      cases h
      exact W.ret hr
    replace h := cond_f hb h
    refine W.skip ?_
    refine W.weak [0, 1, 7, 8] [] [] [] (env' := [(0, l33 none a1), (1, .clo F_g2 C_g2), (7, I6 (a1.length : Int)), (8, I6 (k1 : Int))]) (by kernel_rfl) ?_
    refine W.region (by kernel_rfl) ?_
    refine WO.pureK 0 (some (I6 (IntKind.wrap .i64 ((k1 : Int) + 1)))) (v := I6 ((k1 + 1 : Nat) : Int)) (by kernel_rfl) (by rw [wrap_succ hl1 hk1]) (e1 := [(0, l33 none a1), (1, .clo F_g2 C_g2), (7, I6 (a1.length : Int)), (8, I6 (k1 : Int)), (18, I6 ((k1 + 1 : Nat) : Int))]) (by kernel_rfl) ?_
    refine WO.fin [0, 1, 7, 8] [] [] [] (e2 := [(0, l33 none a1), (1, .clo F_g2 C_g2), (7, I6 (a1.length : Int)), (8, I6 ((k1 + 1 : Nat) : Int))]) (by kernel_rfl) (fun _ h => h) ?_
    exact hN1 () h
def sl_ContainsFunc_dpDep (a1 : (List dpDep)) (g2 : (dpDep → Option Bool)) : Option Bool :=
  ((sl_IndexFunc_dpDep a1 g2).bind fun w5 => (some (decide (w5 ≥ 0))))
theorem run_sl_ContainsFunc_dpDep (a1 : (List dpDep)) (g2 : (dpDep → Option Bool)) (F_g2 : Nat) (C_g2 : List AV) (hok_g2 : okFn Try.prog F_g2 = true) (hrun_g2 : ∀ (x0 : dpDep) r, g2 x0 = some r → Run Try.prog (.call F_g2 ([.agg [I6 x0.f_From, I6 x0.f_To]] ++ C_g2) (.bool r))) (r : Bool) (h : sl_ContainsFunc_dpDep a1 g2 = some r) : Run Try.prog (.call 74 [l33 none a1, .clo F_g2 C_g2] (.bool r)) := by
  refine call_of_W Try.func74 rfl (by kernel_rfl) (env0 := [(0, l33 none a1), (1, .clo F_g2 C_g2)]) (by kernel_rfl) ?_
  unfold sl_ContainsFunc_dpDep at h
  refine W.seq ?_
  refine W.regT [0, 1] [] [] [] (e2 := [(0, l33 none a1), (1, .clo F_g2 C_g2)]) (by kernel_rfl) (by kernel_rfl) (fun _ h => h) ?_
  refine W.seq ?_
  refine W.region (by kernel_rfl) ?_
  obtain ⟨w5, hw5, h⟩ := bind_some h
  refine WO.callK 2 (F := 92) (l := [l33 none a1, .clo F_g2 C_g2]) (C := []) (r := I6 w5) (by kernel_rfl) (by kernel_rfl) (run_sl_IndexFunc_dpDep a1 g2 F_g2 C_g2 hok_g2 hrun_g2 w5 hw5) (e1 := [(0, l33 none a1), (1, .clo F_g2 C_g2), (5, l33 none a1), (6, .clo F_g2 C_g2), (7, I6 w5)]) (by kernel_rfl) ?_
  refine WO.fin [4] [] [] [] (e2 := [(4, .bool (decide (w5 ≥ 0)))]) (by kernel_rfl) (fun _ h => h) ?_
  refine W.weak [4] [] [] [] (env' := [(4, .bool (decide (w5 ≥ 0)))]) (by kernel_rfl) ?_
  have hr : aresults Try.prog Try.f74 [(4, .bool (decide (w5 ≥ 0)))] = some (.bool (decide (w5 ≥ 0))) := by kernel_rfl
  cases h
  exact W.ret hr
def sl_IndexFunc_int_j4 : Option Int :=
  (some (-1))
def sl_IndexFunc_int_l1 (g2 : (Int → Option Bool)) (K4 : (Option Int)) : List Int → Nat → Option Int
  | [], k1 => K4
  | x1 :: r1, k1 => ((g2 x1).bind fun w9 => (bif w9 then (some (k1 : Int)) else (sl_IndexFunc_int_l1 g2 K4 r1 (k1 + 1))))
def sl_IndexFunc_int (a1 : (List Int)) (g2 : (Int → Option Bool)) : Option Int :=
  (chk (lenOk a1) (sl_IndexFunc_int_l1 g2 (sl_IndexFunc_int_j4) a1 0))
theorem run_sl_IndexFunc_int (a1 : (List Int)) (g2 : (Int → Option Bool)) (F_g2 : Nat) (C_g2 : List AV) (hok_g2 : okFn Try.prog F_g2 = true) (hrun_g2 : ∀ (x0 : Int) r, g2 x0 = some r → Run Try.prog (.call F_g2 ([I6 x0] ++ C_g2) (.bool r))) (r : Int) (h : sl_IndexFunc_int a1 g2 = some r) : Run Try.prog (.call 78 [l3 none a1, .clo F_g2 C_g2] (I6 r)) := by
  refine call_of_W Try.func78 rfl (by kernel_rfl) (env0 := [(0, l3 none a1), (1, .clo F_g2 C_g2)]) (by kernel_rfl) ?_
  unfold sl_IndexFunc_int at h
  refine W.seq ?_
  refine W.regT [0, 1] [] [] [] (e2 := [(0, l3 none a1), (1, .clo F_g2 C_g2)]) (by kernel_rfl) (by kernel_rfl) (fun _ h => h) ?_
  refine W.seq ?_
  refine W.join (σ := Unit) (fun s => []) (fun s => (sl_IndexFunc_int_j4) = some r) (fun s h => ?_) (fun hK4 => ?_)
  · have h : (sl_IndexFunc_int_j4) = some r := h
    unfold sl_IndexFunc_int_j4 at h
    refine W.seq ?_
    refine W.regT [4] [] [] [] (e2 := [(4, I6 (-1))]) (by kernel_rfl) (by kernel_rfl) (fun _ h => h) ?_
    refine W.weak [4] [] [] [] (env' := [(4, I6 (-1))]) (by kernel_rfl) ?_
    have hr : aresults Try.prog Try.f78 [(4, I6 (-1))] = some (I6 (-1)) := by kernel_rfl
    cases h
    exact W.ret hr
  refine W.seq ?_
  refine W.region (by kernel_rfl) ?_
  refine WO.pureK 1 (some (I6 ((List.map (AV.int .i64) a1).length : Int))) (v := I6 (a1.length : Int)) (by kernel_rfl) (by rw [List.length_map]) (e1 := [(0, l3 none a1), (1, .clo F_g2 C_g2), (6, l3 none a1), (7, I6 (a1.length : Int))]) (by kernel_rfl) ?_
  refine WO.fin [0, 1, 7, 8] [] [] [] (e2 := [(0, l3 none a1), (1, .clo F_g2 C_g2), (7, I6 (a1.length : Int)), (8, .int .i64 0)]) (by kernel_rfl) (fun _ h => h) ?_
  refine W.block ?_
  obtain ⟨hl1, h⟩ := chk_some h
  refine W.weak [0, 1, 7, 8] [] [] [] (env' := [(0, l3 none a1), (1, .clo F_g2 C_g2), (7, I6 (a1.length : Int)), (8, I6 ((0 : Nat) : Int))]) (by kernel_rfl) ?_
  refine W.range (σ := Unit) a1 (fun k1 s => [(0, l3 none a1), (1, .clo F_g2 C_g2), (7, I6 (a1.length : Int)), (8, I6 (k1 : Int))]) (fun r0 k0 s => sl_IndexFunc_int_l1 g2 (sl_IndexFunc_int_j4) r0 k0 = some r) (fun s h => ?_) (fun x1 r1 k1 s hx1 hk1 h hN1 => ?_) () h
  · have h : sl_IndexFunc_int_l1 g2 (sl_IndexFunc_int_j4) [] (a1).length = some r := h
    rw [sl_IndexFunc_int_l1.eq_1] at h
    refine W.seq ?_
    refine W.region (by kernel_rfl) ?_
    refine WO.pureK 0 (some (.bool (decide (((a1).length : Int) < (a1.length : Int))))) (v := .bool false) (by kernel_rfl) (by rw [lt_false (l := a1)]) (e1 := [(0, l3 none a1), (1, .clo F_g2 C_g2), (7, I6 (a1.length : Int)), (8, I6 ((a1).length : Int)), (9, .bool false)]) (by kernel_rfl) ?_
    refine WO.fin ([0, 1, 7, 8, 9]) [] [] [] (e2 := [(0, l3 none a1), (1, .clo F_g2 C_g2), (7, I6 (a1.length : Int)), (8, I6 ((a1).length : Int)), (9, .bool false)]) (by kernel_rfl) (fun _ h => h) ?_
    refine W.seq ?_
    refine W.condB false (by kernel_rfl) (fun h => Bool.noConfusion h) (fun _ => ?_)
    refine W.exit ?_
    refine W.weak [] [] [] [] (env' := []) (by kernel_rfl) ?_
    exact hK4 () h
  · have h : sl_IndexFunc_int_l1 g2 (sl_IndexFunc_int_j4) (x1 :: r1) k1 = some r := h
    rw [sl_IndexFunc_int_l1.eq_2] at h
    refine W.seq ?_
    refine W.region (by kernel_rfl) ?_
    refine WO.pureK 0 (some (.bool (decide ((k1 : Int) < (a1.length : Int))))) (v := .bool true) (by kernel_rfl) (by rw [lt_true hk1]) (e1 := [(0, l3 none a1), (1, .clo F_g2 C_g2), (7, I6 (a1.length : Int)), (8, I6 (k1 : Int)), (9, .bool true)]) (by kernel_rfl) ?_
    refine WO.fin ([0, 1, 7, 8, 9]) [] [] [] (e2 := [(0, l3 none a1), (1, .clo F_g2 C_g2), (7, I6 (a1.length : Int)), (8, I6 (k1 : Int)), (9, .bool true)]) (by kernel_rfl) (fun _ h => h) ?_
    refine W.seq ?_
    refine W.condB true (by kernel_rfl) (fun _ => ?_) (fun h => Bool.noConfusion h)
    refine W.skip ?_
    refine W.weak [0, 1, 7, 8] [] [] [] (env' := [(0, l3 none a1), (1, .clo F_g2 C_g2), (7, I6 (a1.length : Int)), (8, I6 (k1 : Int))]) (by kernel_rfl) ?_
    refine W.seq ?_
    refine W.block ?_
    refine W.seq ?_
    refine W.regT [0, 1, 5, 7, 8] [] [] [] (e2 := [(0, l3 none a1), (1, .clo F_g2 C_g2), (5, I6 (k1 : Int)), (7, I6 (a1.length : Int)), (8, I6 (k1 : Int))]) (by kernel_rfl) (by kernel_rfl) (fun _ h => h) ?_
    refine W.seq ?_
    refine W.region (by kernel_rfl) ?_
    refine WO.pureK 3 (if (0 : Int) ≤ (k1 : Int) then ((List.map (AV.int .i64) a1)[Int.toNat (k1 : Int)]?).map AV.ptr else none) (v := .ptr (I6 x1)) (by kernel_rfl) (idx_nat (f := (AV.int .i64)) hx1) (e1 := [(0, l3 none a1), (1, .clo F_g2 C_g2), (5, I6 (k1 : Int)), (7, I6 (a1.length : Int)), (8, I6 (k1 : Int)), (11, .clo F_g2 C_g2), (12, l3 none a1), (13, I6 (k1 : Int)), (14, .ptr (I6 x1))]) (by kernel_rfl) ?_
    obtain ⟨w9, hw9, h⟩ := bind_some h
    refine WO.callK 1 (F := F_g2) (l := [I6 x1]) (C := C_g2) (r := .bool w9) (by kernel_rfl) hok_g2 (hrun_g2 x1 w9 hw9) (e1 := [(0, l3 none a1), (1, .clo F_g2 C_g2), (5, I6 (k1 : Int)), (7, I6 (a1.length : Int)), (8, I6 (k1 : Int)), (11, .clo F_g2 C_g2), (12, l3 none a1), (13, I6 (k1 : Int)), (14, .ptr (I6 x1)), (15, I6 x1), (16, .bool w9)]) (by kernel_rfl) ?_
    refine WO.fin [0, 1, 5, 7, 8, 16] [] [] [] (e2 := [(0, l3 none a1), (1, .clo F_g2 C_g2), (5, I6 (k1 : Int)), (7, I6 (a1.length : Int)), (8, I6 (k1 : Int)), (16, .bool w9)]) (by kernel_rfl) (fun _ h => h) ?_
    refine W.condB w9 (by kernel_rfl) (fun hb => ?_) (fun hb => ?_)
    · replace h := cond_t hb h
      refine W.seq ?_
      refine W.regT [4] [] [] [] (e2 := [(4, I6 (k1 : Int))]) (by kernel_rfl) (by kernel_rfl) (fun _ h => h) ?_
      refine W.weak [4] [] [] [] (env' := [(4, I6 (k1 : Int))]) (by kernel_rfl) ?_
      have hr : aresults Try.prog Try.f78 [(4, I6 (k1 : Int))] = some (I6 (k1 : Int)) := by kernel_rfl
      cases h
      exact W.ret hr
    replace h := cond_f hb h
    refine W.skip ?_
    refine W.weak [0, 1, 7, 8] [] [] [] (env' := [(0, l3 none a1), (1, .clo F_g2 C_g2), (7, I6 (a1.length : Int)), (8, I6 (k1 : Int))]) (by kernel_rfl) ?_
    refine W.region (by kernel_rfl) ?_
    refine WO.pureK 0 (some (I6 (IntKind.wrap .i64 ((k1 : Int) + 1)))) (v := I6 ((k1 + 1 : Nat) : Int)) (by kernel_rfl) (by rw [wrap_succ hl1 hk1]) (e1 := [(0, l3 none a1), (1, .clo F_g2 C_g2), (7, I6 (a1.length : Int)), (8, I6 (k1 : Int)), (18, I6 ((k1 + 1 : Nat) : Int))]) (by kernel_rfl) ?_
    refine WO.fin [0, 1, 7, 8] [] [] [] (e2 := [(0, l3 none a1), (1, .clo F_g2 C_g2), (7, I6 (a1.length : Int)), (8, I6 ((k1 + 1 : Nat) : Int))]) (by kernel_rfl) (fun _ h => h) ?_
    exact hN1 () h
def sl_ContainsFunc_int (a1 : (List Int)) (g2 : (Int → Option Bool)) : Option Bool :=
  ((sl_IndexFunc_int a1 g2).bind fun w5 => (some (decide (w5 ≥ 0))))
theorem run_sl_ContainsFunc_int (a1 : (List Int)) (g2 : (Int → Option Bool)) (F_g2 : Nat) (C_g2 : List AV) (hok_g2 : okFn Try.prog F_g2 = true) (hrun_g2 : ∀ (x0 : Int) r, g2 x0 = some r → Run Try.prog (.call F_g2 ([I6 x0] ++ C_g2) (.bool r))) (r : Bool) (h : sl_ContainsFunc_int a1 g2 = some r) : Run Try.prog (.call 60 [l3 none a1, .clo F_g2 C_g2] (.bool r)) := by
  refine call_of_W Try.func60 rfl (by kernel_rfl) (env0 := [(0, l3 none a1), (1, .clo F_g2 C_g2)]) (by kernel_rfl) ?_
  unfold sl_ContainsFunc_int at h
  refine W.seq ?_
  refine W.regT [0, 1] [] [] [] (e2 := [(0, l3 none a1), (1, .clo F_g2 C_g2)]) (by kernel_rfl) (by kernel_rfl) (fun _ h => h) ?_
  refine W.seq ?_
  refine W.region (by kernel_rfl) ?_
  obtain ⟨w5, hw5, h⟩ := bind_some h
  refine WO.callK 2 (F := 78) (l := [l3 none a1, .clo F_g2 C_g2]) (C := []) (r := I6 w5) (by kernel_rfl) (by kernel_rfl) (run_sl_IndexFunc_int a1 g2 F_g2 C_g2 hok_g2 hrun_g2 w5 hw5) (e1 := [(0, l3 none a1), (1, .clo F_g2 C_g2), (5, l3 none a1), (6, .clo F_g2 C_g2), (7, I6 w5)]) (by kernel_rfl) ?_
  refine WO.fin [4] [] [] [] (e2 := [(4, .bool (decide (w5 ≥ 0)))]) (by kernel_rfl) (fun _ h => h) ?_
  refine W.weak [4] [] [] [] (env' := [(4, .bool (decide (w5 ≥ 0)))]) (by kernel_rfl) ?_
  have hr : aresults Try.prog Try.f60 [(4, .bool (decide (w5 ≥ 0)))] = some (.bool (decide (w5 ≥ 0))) := by kernel_rfl
  cases h
  exact W.ret hr
def dp_sets_1_j4 (v6 : Bool) : Option Bool :=
  (some v6)
def dp_sets_1 (a1 : Int) (c2 : Int) : Option Bool :=
  (bif (decide (a1 < 0)) then ((dp_sets_1_j4) true) else (chk (decide (0 ≤ c2)) ((dp_sets_1_j4) (decide (a1 ≥ (iShl .i64 1 c2))))))
theorem run_dp_sets_1 (a1 : Int) (c2 : Int) (r : Bool) (h : dp_sets_1 a1 c2 = some r) : Run Try.prog (.call 76 [I6 a1, .ptr (I6 c2)] (.bool r)) := by
  refine call_of_W Try.func76 rfl (by kernel_rfl) (env0 := [(0, I6 a1), (1, .ptr (I6 c2))]) (by kernel_rfl) ?_
  unfold dp_sets_1 at h
  refine W.seq ?_
  refine W.regT [0, 1] [] [] [] (e2 := [(0, I6 a1), (1, .ptr (I6 c2))]) (by kernel_rfl) (by kernel_rfl) (fun _ h => h) ?_
  refine W.seq ?_
  refine W.join (σ := (Bool)) (fun s => [(3, .bool s)]) (fun s => (dp_sets_1_j4) s = some r) (fun s h => ?_) (fun hK4 => ?_)
  · obtain ⟨v6, rfl⟩ : ∃ x, x = s := ⟨s, rfl⟩
    have h : (dp_sets_1_j4) v6 = some r := h
    unfold dp_sets_1_j4 at h
    refine W.weak [3] [] [] [] (env' := [(3, .bool v6)]) (by kernel_rfl) ?_
    have hr : aresults Try.prog Try.f76 [(3, .bool v6)] = some (.bool v6) := by kernel_rfl
    cases h
    exact W.ret hr
  refine W.region (by kernel_rfl) ?_
  refine WO.boolK 3 (fun b => [(0, I6 a1), (1, .ptr (I6 c2)), (4, I6 a1), (5, .bool b), (6, .bool b)]) (decide (a1 < 0)) (by kernel_rfl) (fun hb => ?_) (fun hb => ?_)
  · replace h := cond_t hb h
    refine WO.fin [3] [] [] [] (e2 := [(3, .bool true)]) (by kernel_rfl) (fun _ h => h) ?_
    exact hK4 true h
  replace h := cond_f hb h
  obtain ⟨hc5, h⟩ := chk_some h
  refine WO.pureK 2 (if c2 < 0 then none else some (I6 (iShl .i64 1 c2))) (v := I6 (iShl .i64 1 c2)) (by kernel_rfl) (if_neg (not_lt_of_chk hc5)) (e1 := [(0, I6 a1), (1, .ptr (I6 c2)), (4, I6 a1), (5, .bool false), (6, .bool false), (7, I6 a1), (8, I6 c2), (9, I6 (iShl .i64 1 c2))]) (by kernel_rfl) ?_
  refine WO.fin [3] [] [] [] (e2 := [(3, .bool (decide (a1 ≥ (iShl .i64 1 c2))))]) (by kernel_rfl) (fun _ h => h) ?_
  exact hK4 (decide (a1 ≥ (iShl .i64 1 c2))) h
def dp_sets (a1 : Int) (a2 : (List Int)) : Option Bool :=
  ((sl_ContainsFunc_int a2 (fun y0 => dp_sets_1 y0 a1)).bind fun w5 => (some (!w5)))
theorem run_dp_sets (a1 : Int) (a2 : (List Int)) (r : Bool) (h : dp_sets a1 a2 = some r) : Run Try.prog (.call 58 [I6 a1, l3 none a2] (.bool r)) := by
  refine call_of_W Try.func58 rfl (by kernel_rfl) (env0 := [(0, I6 a1), (1, l3 none a2)]) (by kernel_rfl) ?_
  unfold dp_sets at h
  refine W.seq ?_
  refine W.regT [1, 2] [2] [] [] (e2 := [(1, l3 none a2), (2, .ptr (I6 a1))]) (by kernel_rfl) (by kernel_rfl) (fun _ h => h) ?_
  refine W.seq ?_
  refine W.region (by kernel_rfl) ?_
  obtain ⟨w5, hw5, h⟩ := bind_some h
  refine WO.callK 2 (F := 60) (l := [l3 none a2, .clo 76 [.ptr (I6 a1)]]) (C := []) (r := .bool w5) (by kernel_rfl) (by kernel_rfl) (run_sl_ContainsFunc_int a2 (fun y0 => dp_sets_1 y0 a1) 76 [.ptr (I6 a1)] (by kernel_rfl) (fun y0 r h => run_dp_sets_1 y0 a1 r h) w5 hw5) (e1 := [(1, l3 none a2), (2, .ptr (I6 a1)), (5, l3 none a2), (6, .clo 76 [.ptr (I6 a1)]), (7, .bool w5)]) (by kernel_rfl) ?_
  refine WO.fin [4] [] [] [] (e2 := [(4, .bool (!w5))]) (by kernel_rfl) (fun _ h => h) ?_
  refine W.weak [4] [] [] [] (env' := [(4, .bool (!w5))]) (by kernel_rfl) ?_
  have hr : aresults Try.prog Try.f58 [(4, .bool (!w5))] = some (.bool (!w5)) := by kernel_rfl
  cases h
  exact W.ret hr
def dp_valid_1 (a1 : dpDep) (c2 : Int) : Option Bool :=
  ((dp_sets c2 [a1.f_From, a1.f_To]).bind fun w5 => (some (!w5)))
theorem run_dp_valid_1 (a1 : dpDep) (c2 : Int) (r : Bool) (h : dp_valid_1 a1 c2 = some r) : Run Try.prog (.call 75 [.agg [I6 a1.f_From, I6 a1.f_To], .ptr (I6 c2)] (.bool r)) := by
  refine call_of_W Try.func75 rfl (by kernel_rfl) (env0 := [(0, .agg [I6 a1.f_From, I6 a1.f_To]), (1, .ptr (I6 c2))]) (by kernel_rfl) ?_
  unfold dp_valid_1 at h
  refine W.seq ?_
  refine W.regT [1, 2] [2] [] [] (e2 := [(1, .ptr (I6 c2)), (2, .ptr (.agg [I6 a1.f_From, I6 a1.f_To]))]) (by kernel_rfl) (by kernel_rfl) (fun _ h => h) ?_
  refine W.seq ?_
  refine W.region (by kernel_rfl) ?_
  obtain ⟨w5, hw5, h⟩ := bind_some h
  refine WO.callK 6 (F := 58) (l := [I6 c2, l3 none [a1.f_From, a1.f_To]]) (C := []) (r := .bool w5) (by kernel_rfl) (by kernel_rfl) (run_dp_sets c2 [a1.f_From, a1.f_To] w5 hw5) (e1 := [(1, .ptr (I6 c2)), (2, .ptr (.agg [I6 a1.f_From, I6 a1.f_To])), (4, I6 c2), (5, .ptr (I6 a1.f_From)), (6, I6 a1.f_From), (7, .ptr (I6 a1.f_To)), (8, I6 a1.f_To), (9, l3 (some 9) [a1.f_From, a1.f_To]), (10, .bool w5)]) (by kernel_rfl) ?_
  refine WO.fin [3] [] [] [] (e2 := [(3, .bool (!w5))]) (by kernel_rfl) (fun _ h => h) ?_
  refine W.weak [3] [] [] [] (env' := [(3, .bool (!w5))]) (by kernel_rfl) ?_
  have hr : aresults Try.prog Try.f75 [(3, .bool (!w5))] = some (.bool (!w5)) := by kernel_rfl
  cases h
  exact W.ret hr
def dp_valid_j5 (a1 : Int) (a2 : (List dpDep)) (v6 : Bool) : Option Bool :=
  (bif v6 then (some false) else ((sl_ContainsFunc_dpDep a2 (fun y0 => dp_valid_1 y0 a1)).bind fun w9 => (some (!w9))))
def dp_valid (a1 : Int) (a2 : (List dpDep)) : Option Bool :=
  (bif (decide (a1 < 1)) then ((dp_valid_j5 a1 a2) true) else (bif (decide (a1 > 8)) then ((dp_valid_j5 a1 a2) true) else ((dp_valid_j5 a1 a2) (decide ((a2.length : Int) > 12)))))
theorem run_dp_valid (a1 : Int) (a2 : (List dpDep)) (r : Bool) (h : dp_valid a1 a2 = some r) : Run Try.prog (.call 57 [I6 a1, l33 none a2] (.bool r)) := by
  refine call_of_W Try.func57 rfl (by kernel_rfl) (env0 := [(0, I6 a1), (1, l33 none a2)]) (by kernel_rfl) ?_
  unfold dp_valid at h
  refine W.seq ?_
  refine W.regT [1, 2] [2] [] [] (e2 := [(1, l33 none a2), (2, .ptr (I6 a1))]) (by kernel_rfl) (by kernel_rfl) (fun _ h => h) ?_
  refine W.seq ?_
  refine W.seq ?_
  refine W.join (σ := (Bool)) (fun s => [(1, l33 none a2), (2, .ptr (I6 a1)), (15, .bool s)]) (fun s => (dp_valid_j5 a1 a2) s = some r) (fun s h => ?_) (fun hK5 => ?_)
  · obtain ⟨v6, rfl⟩ : ∃ x, x = s := ⟨s, rfl⟩
    have h : (dp_valid_j5 a1 a2) v6 = some r := h
    unfold dp_valid_j5 at h
    refine W.condB v6 (by kernel_rfl) (fun hb => ?_) (fun hb => ?_)
    · replace h := cond_t hb h
      refine W.seq ?_
      refine W.regT [4] [] [] [] (e2 := [(4, .bool false)]) (by kernel_rfl) (by kernel_rfl) (fun _ h => h) ?_
      refine W.weak [4] [] [] [] (env' := [(4, .bool false)]) (by kernel_rfl) ?_
      have hr : aresults Try.prog Try.f57 [(4, .bool false)] = some (.bool false) := by kernel_rfl
      cases h
      exact W.ret hr
    replace h := cond_f hb h
    refine W.skip ?_
    refine W.weak [1, 2] [] [] [] (env' := [(1, l33 none a2), (2, .ptr (I6 a1))]) (by kernel_rfl) ?_
    refine W.seq ?_
    refine W.region (by kernel_rfl) ?_
    obtain ⟨w9, hw9, h⟩ := bind_some h
    refine WO.callK 2 (F := 74) (l := [l33 none a2, .clo 75 [.ptr (I6 a1)]]) (C := []) (r := .bool w9) (by kernel_rfl) (by kernel_rfl) (run_sl_ContainsFunc_dpDep a2 (fun y0 => dp_valid_1 y0 a1) 75 [.ptr (I6 a1)] (by kernel_rfl) (fun y0 r h => run_dp_valid_1 y0 a1 r h) w9 hw9) (e1 := [(1, l33 none a2), (2, .ptr (I6 a1)), (16, l33 none a2), (17, .clo 75 [.ptr (I6 a1)]), (18, .bool w9)]) (by kernel_rfl) ?_
    refine WO.fin [4] [] [] [] (e2 := [(4, .bool (!w9))]) (by kernel_rfl) (fun _ h => h) ?_
    refine W.weak [4] [] [] [] (env' := [(4, .bool (!w9))]) (by kernel_rfl) ?_
    have hr : aresults Try.prog Try.f57 [(4, .bool (!w9))] = some (.bool (!w9)) := by kernel_rfl
    cases h
    exact W.ret hr
  refine W.region (by kernel_rfl) ?_
  refine WO.boolK 3 (fun b => [(1, l33 none a2), (2, .ptr (I6 a1)), (5, I6 a1), (6, .bool b), (7, .bool b)]) (decide (a1 < 1)) (by kernel_rfl) (fun hb => ?_) (fun hb => ?_)
  · replace h := cond_t hb h
    refine WO.fin [1, 2, 15] [] [] [] (e2 := [(1, l33 none a2), (2, .ptr (I6 a1)), (15, .bool true)]) (by kernel_rfl) (fun _ h => h) ?_
    exact hK5 true h
  replace h := cond_f hb h
  refine WO.boolK 4 (fun b => [(1, l33 none a2), (2, .ptr (I6 a1)), (5, I6 a1), (6, .bool false), (7, .bool false), (8, I6 a1), (9, .bool b), (10, .bool b), (11, .bool b)]) (decide (a1 > 8)) (by kernel_rfl) (fun hb => ?_) (fun hb => ?_)
  · replace h := cond_t hb h
    refine WO.fin [1, 2, 15] [] [] [] (e2 := [(1, l33 none a2), (2, .ptr (I6 a1)), (15, .bool true)]) (by kernel_rfl) (fun _ h => h) ?_
    exact hK5 true h
  replace h := cond_f hb h
  refine WO.pureK 1 (some (I6 ((List.map e_dpDep a2).length : Int))) (v := I6 (a2.length : Int)) (by kernel_rfl) (by rw [List.length_map]) (e1 := [(1, l33 none a2), (2, .ptr (I6 a1)), (5, I6 a1), (6, .bool false), (7, .bool false), (8, I6 a1), (9, .bool false), (10, .bool false), (11, .bool false), (12, l33 none a2), (13, I6 (a2.length : Int))]) (by kernel_rfl) ?_
  refine WO.fin [1, 2, 15] [] [] [] (e2 := [(1, l33 none a2), (2, .ptr (I6 a1)), (15, .bool (decide ((a2.length : Int) > 12)))]) (by kernel_rfl) (fun _ h => h) ?_
  exact hK5 (decide ((a2.length : Int) > 12)) h
def dp_closure (a1 : (List dpDep)) : Option ((List dpDep)) :=
  (some a1)
theorem run_dp_closure (a1 : (List dpDep)) (r : ((List dpDep))) (h : dp_closure a1 = some r) : Run Try.prog (.call 59 [l33 none a1] (.clo 77 [.ptr (l33 none r)])) := by
  refine call_of_W Try.func59 rfl (by kernel_rfl) (env0 := [(0, l33 none a1)]) (by kernel_rfl) ?_
  unfold dp_closure at h
  refine W.seq ?_
  refine W.regT [1] [1] [] [] (e2 := [(1, .ptr (l33 none a1))]) (by kernel_rfl) (by kernel_rfl) (fun _ h => h) ?_
  refine W.seq ?_
  refine W.regT [2] [] [] [] (e2 := [(2, .clo 77 [.ptr (l33 none a1)])]) (by kernel_rfl) (by kernel_rfl) (fun _ h => h) ?_
  refine W.weak [2] [] [] [] (env' := [(2, .clo 77 [.ptr (l33 none a1)])]) (by kernel_rfl) ?_
  have hr : aresults Try.prog Try.f59 [(2, .clo 77 [.ptr (l33 none a1)])] = some (.clo 77 [.ptr (l33 none a1)]) := by kernel_rfl
  cases h
  exact W.ret hr
def dp_closure_1_j4 (v21 : Int) : Option Int :=
  (some v21)
def dp_closure_1_j14 (N2 : (Int → Bool → Option Int)) (v19 : Int) (v20 : Bool) : Option Int :=
  (N2 v19 v20)
def dp_closure_1_j16 (x2 : dpDep) (v12 : Int) (v13 : Bool) (K14 : (Int → Bool → Option Int)) (v17 : Bool) : Option Int :=
  (bif v17 then (K14 (iOr .i64 v12 x2.f_To) true) else (K14 v12 v13))
def dp_closure_1_l2 (N1 : (Int → Bool → Option Int)) : List dpDep → Nat → Int → Bool → Option Int
  | [], k2, v12, v13 => (N1 v12 v13)
  | x2 :: r2, k2, v12, v13 => (bif ((iAndNot .i64 x2.f_From v12) == 0) then ((dp_closure_1_j16 x2 v12 v13 (dp_closure_1_j14 (dp_closure_1_l2 N1 r2 (k2 + 1)))) ((iAndNot .i64 x2.f_To v12) != 0)) else ((dp_closure_1_j16 x2 v12 v13 (dp_closure_1_j14 (dp_closure_1_l2 N1 r2 (k2 + 1)))) false))
def dp_closure_1_l1 (c2 : (List dpDep)) (K4 : (Int → Option Int)) : Nat → Int → Bool → Option Int
  | 0, _, _ => none
  | m1 + 1, v6, v7 => (bif v7 then (chk (lenOk c2) (dp_closure_1_l2 (dp_closure_1_l1 c2 K4 m1) c2 0 v6 false)) else (K4 v6))
def dp_closure_1 (fuel : Nat) (a1 : Int) (c2 : (List dpDep)) : Option Int :=
  (dp_closure_1_l1 c2 (dp_closure_1_j4) fuel a1 true)
theorem run_dp_closure_1 (fuel : Nat) (a1 : Int) (c2 : (List dpDep)) (r : Int) (h : dp_closure_1 fuel a1 c2 = some r) : Run Try.prog (.call 77 [I6 a1, .ptr (l33 none c2)] (I6 r)) := by
  refine call_of_W Try.func77 rfl (by kernel_rfl) (env0 := [(0, I6 a1), (1, .ptr (l33 none c2))]) (by kernel_rfl) ?_
  unfold dp_closure_1 at h
  refine W.seq ?_
  refine W.regT [0, 1] [] [] [] (e2 := [(0, I6 a1), (1, .ptr (l33 none c2))]) (by kernel_rfl) (by kernel_rfl) (fun _ h => h) ?_
  refine W.seq ?_
  refine W.join (σ := (Int)) (fun s => [(0, I6 s)]) (fun s => (dp_closure_1_j4) s = some r) (fun s h => ?_) (fun hK4 => ?_)
  · obtain ⟨v21, rfl⟩ : ∃ x, x = s := ⟨s, rfl⟩
    have h : (dp_closure_1_j4) v21 = some r := h
    unfold dp_closure_1_j4 at h
    refine W.seq ?_
    refine W.regT [3] [] [] [] (e2 := [(3, I6 v21)]) (by kernel_rfl) (by kernel_rfl) (fun _ h => h) ?_
    refine W.weak [3] [] [] [] (env' := [(3, I6 v21)]) (by kernel_rfl) ?_
    have hr : aresults Try.prog Try.f77 [(3, I6 v21)] = some (I6 v21) := by kernel_rfl
    cases h
    exact W.ret hr
  refine W.seq ?_
  refine W.regT [0, 1, 4] [] [] [] (e2 := [(0, I6 a1), (1, .ptr (l33 none c2)), (4, .bool true)]) (by kernel_rfl) (by kernel_rfl) (fun _ h => h) ?_
  refine W.block ?_
  refine W.weak [0, 1, 4] [] [] [] (env' := [(0, I6 a1), (1, .ptr (l33 none c2)), (4, .bool true)]) (by kernel_rfl) ?_
  refine W.fuel (σ := (Int × Bool)) (fun s => [(0, I6 s.1), (1, .ptr (l33 none c2)), (4, .bool s.2)]) (fun m0 s => dp_closure_1_l1 c2 (dp_closure_1_j4) m0 s.1 s.2 = some r) (fun s h => ?_) (fun m1 s h hN1 => ?_) fuel (a1, true) h
  · obtain ⟨v6, v7⟩ := s
    have h : dp_closure_1_l1 c2 (dp_closure_1_j4) 0 v6 v7 = some r := h
    rw [dp_closure_1_l1.eq_1] at h
    cases h
  · obtain ⟨v6, v7⟩ := s
    have h : dp_closure_1_l1 c2 (dp_closure_1_j4) (m1 + 1) v6 v7 = some r := h
    rw [dp_closure_1_l1.eq_2] at h
    refine W.seq ?_
    refine W.seq ?_
    refine W.regT [0, 1, 7] [] [] [] (e2 := [(0, I6 v6), (1, .ptr (l33 none c2)), (7, .bool v7)]) (by kernel_rfl) (by kernel_rfl) (fun _ h => h) ?_
    refine W.condB v7 (by kernel_rfl) (fun hb => ?_) (fun hb => ?_)
    · replace h := cond_t hb h
      refine W.skip ?_
      refine W.weak [0, 1] [] [] [] (env' := [(0, I6 v6), (1, .ptr (l33 none c2))]) (by kernel_rfl) ?_
      refine W.block ?_
      refine W.seq ?_
      refine W.regT [0, 1, 4] [] [] [] (e2 := [(0, I6 v6), (1, .ptr (l33 none c2)), (4, .bool false)]) (by kernel_rfl) (by kernel_rfl) (fun _ h => h) ?_
      refine W.seq ?_
      refine W.region (by kernel_rfl) ?_
      refine WO.pureK 1 (some (I6 ((List.map e_dpDep c2).length : Int))) (v := I6 (c2.length : Int)) (by kernel_rfl) (by rw [List.length_map]) (e1 := [(0, I6 v6), (1, .ptr (l33 none c2)), (4, .bool false), (8, l33 none c2), (9, I6 (c2.length : Int))]) (by kernel_rfl) ?_
      refine WO.fin [0, 1, 4, 8, 9, 10] [] [] [] (e2 := [(0, I6 v6), (1, .ptr (l33 none c2)), (4, .bool false), (8, l33 none c2), (9, I6 (c2.length : Int)), (10, .int .i64 0)]) (by kernel_rfl) (fun _ h => h) ?_
      refine W.block ?_
      obtain ⟨hl2, h⟩ := chk_some h
      refine W.weak [0, 1, 4, 8, 9, 10] [] [] [] (env' := [(0, I6 v6), (1, .ptr (l33 none c2)), (4, .bool false), (8, l33 none c2), (9, I6 (c2.length : Int)), (10, I6 ((0 : Nat) : Int))]) (by kernel_rfl) ?_
      refine W.range (σ := (Int × Bool)) c2 (fun k2 s => [(0, I6 s.1), (1, .ptr (l33 none c2)), (4, .bool s.2), (8, l33 none c2), (9, I6 (c2.length : Int)), (10, I6 (k2 : Int))]) (fun r0 k0 s => dp_closure_1_l2 (dp_closure_1_l1 c2 (dp_closure_1_j4) m1) r0 k0 s.1 s.2 = some r) (fun s h => ?_) (fun x2 r2 k2 s hx2 hk2 h hN2 => ?_) (v6, false) h
      · obtain ⟨v12, v13⟩ := s
        have h : dp_closure_1_l2 (dp_closure_1_l1 c2 (dp_closure_1_j4) m1) [] (c2).length v12 v13 = some r := h
        rw [dp_closure_1_l2.eq_1] at h
        refine W.seq ?_
        refine W.region (by kernel_rfl) ?_
        refine WO.pureK 0 (some (.bool (decide (((c2).length : Int) < (c2.length : Int))))) (v := .bool false) (by kernel_rfl) (by rw [lt_false (l := c2)]) (e1 := [(0, I6 v12), (1, .ptr (l33 none c2)), (4, .bool v13), (8, l33 none c2), (9, I6 (c2.length : Int)), (10, I6 ((c2).length : Int)), (11, .bool false)]) (by kernel_rfl) ?_
        refine WO.fin ([0, 1, 4, 8, 9, 10, 11]) [] [] [] (e2 := [(0, I6 v12), (1, .ptr (l33 none c2)), (4, .bool v13), (8, l33 none c2), (9, I6 (c2.length : Int)), (10, I6 ((c2).length : Int)), (11, .bool false)]) (by kernel_rfl) (fun _ h => h) ?_
        refine W.seq ?_
        refine W.condB false (by kernel_rfl) (fun h => Bool.noConfusion h) (fun _ => ?_)
        refine W.exit ?_
        refine W.weak [0, 1, 4] [] [] [] (env' := [(0, I6 v12), (1, .ptr (l33 none c2)), (4, .bool v13)]) (by kernel_rfl) ?_
        exact hN1 (v12, v13) h
      · obtain ⟨v12, v13⟩ := s
        have h : dp_closure_1_l2 (dp_closure_1_l1 c2 (dp_closure_1_j4) m1) (x2 :: r2) k2 v12 v13 = some r := h
        rw [dp_closure_1_l2.eq_2] at h
        refine W.seq ?_
        refine W.region (by kernel_rfl) ?_
        refine WO.pureK 0 (some (.bool (decide ((k2 : Int) < (c2.length : Int))))) (v := .bool true) (by kernel_rfl) (by rw [lt_true hk2]) (e1 := [(0, I6 v12), (1, .ptr (l33 none c2)), (4, .bool v13), (8, l33 none c2), (9, I6 (c2.length : Int)), (10, I6 (k2 : Int)), (11, .bool true)]) (by kernel_rfl) ?_
        refine WO.fin ([0, 1, 4, 8, 9, 10, 11]) [] [] [] (e2 := [(0, I6 v12), (1, .ptr (l33 none c2)), (4, .bool v13), (8, l33 none c2), (9, I6 (c2.length : Int)), (10, I6 (k2 : Int)), (11, .bool true)]) (by kernel_rfl) (fun _ h => h) ?_
        refine W.seq ?_
        refine W.condB true (by kernel_rfl) (fun _ => ?_) (fun h => Bool.noConfusion h)
        refine W.skip ?_
        refine W.weak [0, 1, 4, 8, 9, 10] [] [] [] (env' := [(0, I6 v12), (1, .ptr (l33 none c2)), (4, .bool v13), (8, l33 none c2), (9, I6 (c2.length : Int)), (10, I6 (k2 : Int))]) (by kernel_rfl) ?_
        refine W.seq ?_
        refine W.join (σ := (Int × Bool)) (fun s => [(0, I6 s.1), (1, .ptr (l33 none c2)), (4, .bool s.2), (8, l33 none c2), (9, I6 (c2.length : Int)), (10, I6 (k2 : Int))]) (fun s => (dp_closure_1_j14 (dp_closure_1_l2 (dp_closure_1_l1 c2 (dp_closure_1_j4) m1) r2 (k2 + 1))) s.1 s.2 = some r) (fun s h => ?_) (fun hK14 => ?_)
        · obtain ⟨v19, v20⟩ := s
          have h : (dp_closure_1_j14 (dp_closure_1_l2 (dp_closure_1_l1 c2 (dp_closure_1_j4) m1) r2 (k2 + 1))) v19 v20 = some r := h
          unfold dp_closure_1_j14 at h
          refine W.region (by kernel_rfl) ?_
          refine WO.pureK 0 (some (I6 (IntKind.wrap .i64 ((k2 : Int) + 1)))) (v := I6 ((k2 + 1 : Nat) : Int)) (by kernel_rfl) (by rw [wrap_succ hl2 hk2]) (e1 := [(0, I6 v19), (1, .ptr (l33 none c2)), (4, .bool v20), (8, l33 none c2), (9, I6 (c2.length : Int)), (10, I6 (k2 : Int)), (30, I6 ((k2 + 1 : Nat) : Int))]) (by kernel_rfl) ?_
          refine WO.fin [0, 1, 4, 8, 9, 10] [] [] [] (e2 := [(0, I6 v19), (1, .ptr (l33 none c2)), (4, .bool v20), (8, l33 none c2), (9, I6 (c2.length : Int)), (10, I6 ((k2 + 1 : Nat) : Int))]) (by kernel_rfl) (fun _ h => h) ?_
          exact hN2 (v19, v20) h
        refine W.block ?_
        refine W.seq ?_
        refine W.region (by kernel_rfl) ?_
        refine WO.pureK 0 (if (0 : Int) ≤ (k2 : Int) then ((List.map e_dpDep c2)[Int.toNat (k2 : Int)]?).map AV.ptr else none) (v := .ptr (.agg [I6 x2.f_From, I6 x2.f_To])) (by kernel_rfl) (idx_nat (f := e_dpDep) hx2) (e1 := [(0, I6 v12), (1, .ptr (l33 none c2)), (4, .bool v13), (8, l33 none c2), (9, I6 (c2.length : Int)), (10, I6 (k2 : Int)), (12, .ptr (.agg [I6 x2.f_From, I6 x2.f_To]))]) (by kernel_rfl) ?_
        refine WO.fin [0, 1, 4, 6, 8, 9, 10] [6] [] [] (e2 := [(0, I6 v12), (1, .ptr (l33 none c2)), (4, .bool v13), (6, .ptr (.agg [I6 x2.f_From, I6 x2.f_To])), (8, l33 none c2), (9, I6 (c2.length : Int)), (10, I6 (k2 : Int))]) (by kernel_rfl) (fun _ h => h) ?_
        refine W.seq ?_
        refine W.join (σ := (Bool)) (fun s => [(0, I6 v12), (1, .ptr (l33 none c2)), (4, .bool v13), (6, .ptr (.agg [I6 x2.f_From, I6 x2.f_To])), (8, l33 none c2), (9, I6 (c2.length : Int)), (10, I6 (k2 : Int)), (25, .bool s)]) (fun s => (dp_closure_1_j16 x2 v12 v13 (dp_closure_1_j14 (dp_closure_1_l2 (dp_closure_1_l1 c2 (dp_closure_1_j4) m1) r2 (k2 + 1)))) s = some r) (fun s h => ?_) (fun hK16 => ?_)
        · obtain ⟨v17, rfl⟩ : ∃ x, x = s := ⟨s, rfl⟩
          have h : (dp_closure_1_j16 x2 v12 v13 (dp_closure_1_j14 (dp_closure_1_l2 (dp_closure_1_l1 c2 (dp_closure_1_j4) m1) r2 (k2 + 1)))) v17 = some r := h
          unfold dp_closure_1_j16 at h
          refine W.condB v17 (by kernel_rfl) (fun hb => ?_) (fun hb => ?_)
          · replace h := cond_t hb h
            refine W.seq ?_
            refine W.regT [0, 1, 8, 9, 10] [] [] [] (e2 := [(0, I6 (iOr .i64 v12 x2.f_To)), (1, .ptr (l33 none c2)), (8, l33 none c2), (9, I6 (c2.length : Int)), (10, I6 (k2 : Int))]) (by kernel_rfl) (by kernel_rfl) (fun _ h => h) ?_
            refine W.regT [0, 1, 4, 8, 9, 10] [] [] [] (e2 := [(0, I6 (iOr .i64 v12 x2.f_To)), (1, .ptr (l33 none c2)), (4, .bool true), (8, l33 none c2), (9, I6 (c2.length : Int)), (10, I6 (k2 : Int))]) (by kernel_rfl) (by kernel_rfl) (fun _ h => h) ?_
            exact hK14 ((iOr .i64 v12 x2.f_To), true) h
          replace h := cond_f hb h
          refine W.skip ?_
          refine W.weak [0, 1, 4, 8, 9, 10] [] [] [] (env' := [(0, I6 v12), (1, .ptr (l33 none c2)), (4, .bool v13), (8, l33 none c2), (9, I6 (c2.length : Int)), (10, I6 (k2 : Int))]) (by kernel_rfl) ?_
          exact hK14 (v12, v13) h
        refine W.region (by kernel_rfl) ?_
        refine WO.boolK 6 (fun b => [(0, I6 v12), (1, .ptr (l33 none c2)), (4, .bool v13), (6, .ptr (.agg [I6 x2.f_From, I6 x2.f_To])), (8, l33 none c2), (9, I6 (c2.length : Int)), (10, I6 (k2 : Int)), (14, .ptr (I6 x2.f_From)), (15, I6 x2.f_From), (16, I6 v12), (17, I6 (iAndNot .i64 x2.f_From v12)), (18, .bool b), (19, .bool b)]) ((iAndNot .i64 x2.f_From v12) == 0) (by kernel_rfl) (fun hb => ?_) (fun hb => ?_)
        · replace h := cond_t hb h
          refine WO.fin [0, 1, 4, 6, 8, 9, 10, 25] [] [] [] (e2 := [(0, I6 v12), (1, .ptr (l33 none c2)), (4, .bool v13), (6, .ptr (.agg [I6 x2.f_From, I6 x2.f_To])), (8, l33 none c2), (9, I6 (c2.length : Int)), (10, I6 (k2 : Int)), (25, .bool ((iAndNot .i64 x2.f_To v12) != 0))]) (by kernel_rfl) (fun _ h => h) ?_
          exact hK16 ((iAndNot .i64 x2.f_To v12) != 0) h
        replace h := cond_f hb h
        refine WO.fin [0, 1, 4, 6, 8, 9, 10, 25] [] [] [] (e2 := [(0, I6 v12), (1, .ptr (l33 none c2)), (4, .bool v13), (6, .ptr (.agg [I6 x2.f_From, I6 x2.f_To])), (8, l33 none c2), (9, I6 (c2.length : Int)), (10, I6 (k2 : Int)), (25, .bool false)]) (by kernel_rfl) (fun _ h => h) ?_
        exact hK16 false h
    replace h := cond_f hb h
    refine W.exit ?_
    refine W.weak [0] [] [] [] (env' := [(0, I6 v6)]) (by kernel_rfl) ?_
    exact hK4 v6 h
def dp_Keys_1 (a1 : Int) (c2 : Int) : Option Bool :=
  (some ((iAndNot .i64 a1 c2) == 0))
theorem run_dp_Keys_1 (a1 : Int) (c2 : Int) (r : Bool) (h : dp_Keys_1 a1 c2 = some r) : Run Try.prog (.call 61 [I6 a1, .ptr (I6 c2)] (.bool r)) := by
  refine call_of_W Try.func61 rfl (by kernel_rfl) (env0 := [(0, I6 a1), (1, .ptr (I6 c2))]) (by kernel_rfl) ?_
  unfold dp_Keys_1 at h
  refine W.seq ?_
  refine W.regT [0, 1] [] [] [] (e2 := [(0, I6 a1), (1, .ptr (I6 c2))]) (by kernel_rfl) (by kernel_rfl) (fun _ h => h) ?_
  refine W.seq ?_
  refine W.regT [3] [] [] [] (e2 := [(3, .bool ((iAndNot .i64 a1 c2) == 0))]) (by kernel_rfl) (by kernel_rfl) (fun _ h => h) ?_
  refine W.weak [3] [] [] [] (env' := [(3, .bool ((iAndNot .i64 a1 c2) == 0))]) (by kernel_rfl) ?_
  have hr : aresults Try.prog Try.f61 [(3, .bool ((iAndNot .i64 a1 c2) == 0))] = some (.bool ((iAndNot .i64 a1 c2) == 0)) := by kernel_rfl
  cases h
  exact W.ret hr
def dp_Keys_j11 (v24 : (List Int)) : Option ((List Int) × Int) :=
  (some (v24, 0))
def dp_Keys_j15 (N1 : ((List Int) → Option ((List Int) × Int))) (v23 : (List Int)) : Option ((List Int) × Int) :=
  (N1 v23)
def dp_Keys_j17 (k1 : Nat) (v14 : (List Int)) (K15 : ((List Int) → Option ((List Int) × Int))) (v21 : Bool) : Option ((List Int) × Int) :=
  (bif v21 then (chk (capOk 8 ((v14 ++ [(k1 : Int)])).length) (K15 (v14 ++ [(k1 : Int)]))) else (K15 v14))
def dp_Keys_l1 (fuel : Nat) (a1 : Int) (w9 : ((List dpDep))) (K11 : ((List Int) → Option ((List Int) × Int))) : List Nat → Nat → (List Int) → Option ((List Int) × Int)
  | [], k1, v14 => (K11 v14)
  | x1 :: r1, k1, v14 => ((dp_closure_1 fuel (k1 : Int) w9).bind fun w18 => (chk (decide (0 ≤ a1)) (bif (w18 == (IntKind.wrap .i64 ((iShl .i64 1 a1) - 1))) then ((sl_ContainsFunc_int v14 (fun y0 => dp_Keys_1 y0 (k1 : Int))).bind fun w20 => ((dp_Keys_j17 k1 v14 (dp_Keys_j15 (dp_Keys_l1 fuel a1 w9 K11 r1 (k1 + 1)))) (!w20))) else ((dp_Keys_j17 k1 v14 (dp_Keys_j15 (dp_Keys_l1 fuel a1 w9 K11 r1 (k1 + 1)))) false))))
def dp_Keys (fuel : Nat) (a1 : Int) (a2 : (List dpDep)) : Option ((List Int) × Int) :=
  ((dp_valid a1 a2).bind fun w6 => (bif (!w6) then (some (([] : (List Int)), 2)) else ((dp_closure a2).bind fun w9 => (chk (decide (0 ≤ a1)) (chk (lenOk (List.range (Int.toNat (iShl .i64 1 a1)))) (dp_Keys_l1 fuel a1 w9 (dp_Keys_j11) (List.range (Int.toNat (iShl .i64 1 a1))) 0 ([] : (List Int))))))))
theorem run_dp_Keys (fuel : Nat) (a1 : Int) (a2 : (List dpDep)) (r : ((List Int) × Int)) (h : dp_Keys fuel a1 a2 = some r) : Run Try.prog (.call 23 [I6 a1, l33 none a2] (.tup [l3 none r.1, I6 r.2])) := by
  refine call_of_W Try.func23 rfl (by kernel_rfl) (env0 := [(0, I6 a1), (1, l33 none a2)]) (by kernel_rfl) ?_
  unfold dp_Keys at h
  refine W.seq ?_
  refine W.regT [0, 1] [] [] [] (e2 := [(0, I6 a1), (1, l33 none a2)]) (by kernel_rfl) (by kernel_rfl) (fun _ h => h) ?_
  refine W.seq ?_
  refine W.seq ?_
  refine W.region (by kernel_rfl) ?_
  obtain ⟨w6, hw6, h⟩ := bind_some h
  refine WO.callK 2 (F := 57) (l := [I6 a1, l33 none a2]) (C := []) (r := .bool w6) (by kernel_rfl) (by kernel_rfl) (run_dp_valid a1 a2 w6 hw6) (e1 := [(0, I6 a1), (1, l33 none a2), (9, I6 a1), (10, l33 none a2), (11, .bool w6)]) (by kernel_rfl) ?_
  refine WO.fin [0, 1, 12] [] [] [] (e2 := [(0, I6 a1), (1, l33 none a2), (12, .bool (!w6))]) (by kernel_rfl) (fun _ h => h) ?_
  refine W.condB (!w6) (by kernel_rfl) (fun hb => ?_) (fun hb => ?_)
  · replace h := cond_t hb h
    refine W.seq ?_
    refine W.regT [4, 5] [] [] [] (e2 := [(4, .nils), (5, .int .i64 2)]) (by kernel_rfl) (by kernel_rfl) (fun _ h => h) ?_
    refine W.weak [4, 5] [] [(4, 0, 3, 1, 70004)] [] (env' := [(4, l3 (some 70004) ([] : (List Int))), (5, .int .i64 2)]) (by kernel_rfl) ?_
    have hr : aresults Try.prog Try.f23 [(4, l3 (some 70004) ([] : (List Int))), (5, .int .i64 2)] = some (.tup [l3 none ([] : (List Int)), .int .i64 2]) := by kernel_rfl
    cases h
    exact W.ret hr
  replace h := cond_f hb h
  refine W.skip ?_
  refine W.weak [0, 1] [] [] [] (env' := [(0, I6 a1), (1, l33 none a2)]) (by kernel_rfl) ?_
  refine W.seq ?_
  refine W.region (by kernel_rfl) ?_
  obtain ⟨w9, hw9, h⟩ := bind_some h
  refine WO.callK 1 (F := 59) (l := [l33 none a2]) (C := []) (r := .clo 77 [.ptr (l33 none w9)]) (by kernel_rfl) (by kernel_rfl) (run_dp_closure a2 w9 hw9) (e1 := [(0, I6 a1), (1, l33 none a2), (13, l33 none a2), (14, .clo 77 [.ptr (l33 none w9)])]) (by kernel_rfl) ?_
  refine WO.fin [0, 6] [] [] [] (e2 := [(0, I6 a1), (6, .clo 77 [.ptr (l33 none w9)])]) (by kernel_rfl) (fun _ h => h) ?_
  refine W.seq ?_
  refine W.regT [0, 6, 7] [] [] [] (e2 := [(0, I6 a1), (6, .clo 77 [.ptr (l33 none w9)]), (7, .nils)]) (by kernel_rfl) (by kernel_rfl) (fun _ h => h) ?_
  refine W.seq ?_
  refine W.join (σ := ((List Int))) (fun s => [(7, l3 (some 10700) s)]) (fun s => (dp_Keys_j11) s = some r) (fun s h => ?_) (fun hK11 => ?_)
  · obtain ⟨v24, rfl⟩ : ∃ x, x = s := ⟨s, rfl⟩
    have h : (dp_Keys_j11) v24 = some r := h
    unfold dp_Keys_j11 at h
    refine W.seq ?_
    refine W.regT [4, 5] [] [] [] (e2 := [(4, l3 (some 10700) v24), (5, .int .i64 0)]) (by kernel_rfl) (by kernel_rfl) (fun _ h => h) ?_
    refine W.weak [4, 5] [] [] [] (env' := [(4, l3 (some 10700) v24), (5, .int .i64 0)]) (by kernel_rfl) ?_
    have hr : aresults Try.prog Try.f23 [(4, l3 (some 10700) v24), (5, .int .i64 0)] = some (.tup [l3 none v24, .int .i64 0]) := by kernel_rfl
    cases h
    exact W.ret hr
  refine W.seq ?_
  refine W.region (by kernel_rfl) ?_
  obtain ⟨hc13, h⟩ := chk_some h
  refine WO.pureK 1 (if a1 < 0 then none else some (I6 (iShl .i64 1 a1))) (v := I6 (iShl .i64 1 a1)) (by kernel_rfl) (if_neg (not_lt_of_chk hc13)) (e1 := [(0, I6 a1), (6, .clo 77 [.ptr (l33 none w9)]), (7, .nils), (15, I6 a1), (16, I6 (iShl .i64 1 a1))]) (by kernel_rfl) ?_
  refine WO.fin [0, 6, 7, 16, 17] [] [] [] (e2 := [(0, I6 a1), (6, .clo 77 [.ptr (l33 none w9)]), (7, .nils), (16, I6 (iShl .i64 1 a1)), (17, .int .i64 0)]) (by kernel_rfl) (fun _ h => h) ?_
  refine W.block ?_
  obtain ⟨hl1, h⟩ := chk_some h
  refine W.weak [0, 6, 7, 16, 17] [] [(7, 0, 3, 1, 10700)] [] (env' := [(0, I6 a1), (6, .clo 77 [.ptr (l33 none w9)]), (7, l3 (some 10700) ([] : (List Int))), (16, I6 (iShl .i64 1 a1)), (17, I6 ((0 : Nat) : Int))]) (by kernel_rfl) ?_
  refine W.range (σ := ((List Int))) (List.range (Int.toNat (iShl .i64 1 a1))) (fun k1 s => [(0, I6 a1), (6, .clo 77 [.ptr (l33 none w9)]), (7, l3 (some 10700) s), (16, I6 (iShl .i64 1 a1)), (17, I6 (k1 : Int))]) (fun r0 k0 s => dp_Keys_l1 fuel a1 w9 (dp_Keys_j11) r0 k0 s = some r) (fun s h => ?_) (fun x1 r1 k1 s hx1 hk1 h hN1 => ?_) ([] : (List Int)) h
  · obtain ⟨v14, rfl⟩ : ∃ x, x = s := ⟨s, rfl⟩
    have h : dp_Keys_l1 fuel a1 w9 (dp_Keys_j11) [] ((List.range (Int.toNat (iShl .i64 1 a1)))).length v14 = some r := h
    rw [dp_Keys_l1.eq_1] at h
    refine W.seq ?_
    refine W.region (by kernel_rfl) ?_
    refine WO.pureK 0 (some (.bool (decide ((((List.range (Int.toNat (iShl .i64 1 a1)))).length : Int) < (iShl .i64 1 a1))))) (v := .bool false) (by kernel_rfl) (by rw [ltr_false (n := (iShl .i64 1 a1))]) (e1 := [(0, I6 a1), (6, .clo 77 [.ptr (l33 none w9)]), (7, l3 (some 10700) v14), (16, I6 (iShl .i64 1 a1)), (17, I6 (((List.range (Int.toNat (iShl .i64 1 a1)))).length : Int)), (18, .bool false)]) (by kernel_rfl) ?_
    refine WO.fin ([0, 6, 7, 16, 17, 18]) [] [] [] (e2 := [(0, I6 a1), (6, .clo 77 [.ptr (l33 none w9)]), (7, l3 (some 10700) v14), (16, I6 (iShl .i64 1 a1)), (17, I6 (((List.range (Int.toNat (iShl .i64 1 a1)))).length : Int)), (18, .bool false)]) (by kernel_rfl) (fun _ h => h) ?_
    refine W.seq ?_
    refine W.condB false (by kernel_rfl) (fun h => Bool.noConfusion h) (fun _ => ?_)
    refine W.exit ?_
    refine W.weak [7] [] [] [] (env' := [(7, l3 (some 10700) v14)]) (by kernel_rfl) ?_
    exact hK11 v14 h
  · obtain ⟨v14, rfl⟩ : ∃ x, x = s := ⟨s, rfl⟩
    have h : dp_Keys_l1 fuel a1 w9 (dp_Keys_j11) (x1 :: r1) k1 v14 = some r := h
    rw [dp_Keys_l1.eq_2] at h
    refine W.seq ?_
    refine W.region (by kernel_rfl) ?_
    refine WO.pureK 0 (some (.bool (decide ((k1 : Int) < (iShl .i64 1 a1))))) (v := .bool true) (by kernel_rfl) (by rw [ltr_true hk1]) (e1 := [(0, I6 a1), (6, .clo 77 [.ptr (l33 none w9)]), (7, l3 (some 10700) v14), (16, I6 (iShl .i64 1 a1)), (17, I6 (k1 : Int)), (18, .bool true)]) (by kernel_rfl) ?_
    refine WO.fin ([0, 6, 7, 16, 17, 18]) [] [] [] (e2 := [(0, I6 a1), (6, .clo 77 [.ptr (l33 none w9)]), (7, l3 (some 10700) v14), (16, I6 (iShl .i64 1 a1)), (17, I6 (k1 : Int)), (18, .bool true)]) (by kernel_rfl) (fun _ h => h) ?_
    refine W.seq ?_
    refine W.condB true (by kernel_rfl) (fun _ => ?_) (fun h => Bool.noConfusion h)
    refine W.skip ?_
    refine W.weak [0, 6, 7, 16, 17] [] [] [] (env' := [(0, I6 a1), (6, .clo 77 [.ptr (l33 none w9)]), (7, l3 (some 10700) v14), (16, I6 (iShl .i64 1 a1)), (17, I6 (k1 : Int))]) (by kernel_rfl) ?_
    refine W.seq ?_
    refine W.join (σ := ((List Int))) (fun s => [(0, I6 a1), (6, .clo 77 [.ptr (l33 none w9)]), (7, l3 (some 10700) s), (16, I6 (iShl .i64 1 a1)), (17, I6 (k1 : Int))]) (fun s => (dp_Keys_j15 (dp_Keys_l1 fuel a1 w9 (dp_Keys_j11) r1 (k1 + 1))) s = some r) (fun s h => ?_) (fun hK15 => ?_)
    · obtain ⟨v23, rfl⟩ : ∃ x, x = s := ⟨s, rfl⟩
      have h : (dp_Keys_j15 (dp_Keys_l1 fuel a1 w9 (dp_Keys_j11) r1 (k1 + 1))) v23 = some r := h
      unfold dp_Keys_j15 at h
      refine W.region (by kernel_rfl) ?_
      refine WO.pureK 0 (some (I6 (IntKind.wrap .i64 ((k1 : Int) + 1)))) (v := I6 ((k1 + 1 : Nat) : Int)) (by kernel_rfl) (by rw [wrap_succ hl1 hk1]) (e1 := [(0, I6 a1), (6, .clo 77 [.ptr (l33 none w9)]), (7, l3 (some 10700) v23), (16, I6 (iShl .i64 1 a1)), (17, I6 (k1 : Int)), (37, I6 ((k1 + 1 : Nat) : Int))]) (by kernel_rfl) ?_
      refine WO.fin [0, 6, 7, 16, 17] [] [] [] (e2 := [(0, I6 a1), (6, .clo 77 [.ptr (l33 none w9)]), (7, l3 (some 10700) v23), (16, I6 (iShl .i64 1 a1)), (17, I6 ((k1 + 1 : Nat) : Int))]) (by kernel_rfl) (fun _ h => h) ?_
      exact hN1 v23 h
    refine W.block ?_
    refine W.seq ?_
    refine W.regT [0, 6, 7, 8, 16, 17] [8] [] [] (e2 := [(0, I6 a1), (6, .clo 77 [.ptr (l33 none w9)]), (7, l3 (some 10700) v14), (8, .ptr (I6 (k1 : Int))), (16, I6 (iShl .i64 1 a1)), (17, I6 (k1 : Int))]) (by kernel_rfl) (by kernel_rfl) (fun _ h => h) ?_
    refine W.seq ?_
    refine W.join (σ := (Bool)) (fun s => [(0, I6 a1), (6, .clo 77 [.ptr (l33 none w9)]), (7, l3 (some 10700) v14), (8, .ptr (I6 (k1 : Int))), (16, I6 (iShl .i64 1 a1)), (17, I6 (k1 : Int)), (32, .bool s)]) (fun s => (dp_Keys_j17 k1 v14 (dp_Keys_j15 (dp_Keys_l1 fuel a1 w9 (dp_Keys_j11) r1 (k1 + 1)))) s = some r) (fun s h => ?_) (fun hK17 => ?_)
    · obtain ⟨v21, rfl⟩ : ∃ x, x = s := ⟨s, rfl⟩
      have h : (dp_Keys_j17 k1 v14 (dp_Keys_j15 (dp_Keys_l1 fuel a1 w9 (dp_Keys_j11) r1 (k1 + 1)))) v21 = some r := h
      unfold dp_Keys_j17 at h
      refine W.condB v21 (by kernel_rfl) (fun hb => ?_) (fun hb => ?_)
      · replace h := cond_t hb h
        refine W.region (by kernel_rfl) ?_
        obtain ⟨hc22, h⟩ := chk_some h
        refine WO.appendK 3 (d := 36) (e := 3) (s := 1) (bytes := 8) (xs := (List.map (AV.int .i64) v14)) (ys := (List.map (AV.int .i64) [(k1 : Int)])) (zs := (List.map (AV.int .i64) (v14 ++ [(k1 : Int)]))) (env1 := [(0, I6 a1), (6, .clo 77 [.ptr (l33 none w9)]), (7, l3 none v14), (8, .ptr (I6 (k1 : Int))), (16, I6 (iShl .i64 1 a1)), (17, I6 (k1 : Int)), (32, .bool v21), (33, l3 none v14), (34, I6 (k1 : Int)), (35, l3 (some 35) [(k1 : Int)])]) (by kernel_rfl) (List.map_append.symm) (by rw [List.length_map]; exact hc22) (e1 := [(0, I6 a1), (6, .clo 77 [.ptr (l33 none w9)]), (7, l3 none v14), (8, .ptr (I6 (k1 : Int))), (16, I6 (iShl .i64 1 a1)), (17, I6 (k1 : Int)), (32, .bool v21), (33, l3 none v14), (34, I6 (k1 : Int)), (35, l3 (some 35) [(k1 : Int)]), (36, l3 (some 36) (v14 ++ [(k1 : Int)]))]) (by kernel_rfl) ?_
        refine WO.fin [0, 6, 7, 16, 17] [] [] [(36, some 10700)] (e2 := [(0, I6 a1), (6, .clo 77 [.ptr (l33 none w9)]), (7, l3 (some 10700) (v14 ++ [(k1 : Int)])), (16, I6 (iShl .i64 1 a1)), (17, I6 (k1 : Int))]) (by kernel_rfl) (fun _ h => h) ?_
        exact hK15 (v14 ++ [(k1 : Int)]) h
      replace h := cond_f hb h
      refine W.skip ?_
      refine W.weak [0, 6, 7, 16, 17] [] [] [] (env' := [(0, I6 a1), (6, .clo 77 [.ptr (l33 none w9)]), (7, l3 (some 10700) v14), (16, I6 (iShl .i64 1 a1)), (17, I6 (k1 : Int))]) (by kernel_rfl) ?_
      exact hK15 v14 h
    refine W.region (by kernel_rfl) ?_
    obtain ⟨w18, hw18, h⟩ := bind_some h
    refine WO.callK 2 (F := 77) (l := [I6 (k1 : Int)]) (C := [.ptr (l33 none w9)]) (r := I6 w18) (by kernel_rfl) (by kernel_rfl) (run_dp_closure_1 fuel (k1 : Int) w9 w18 hw18) (e1 := [(0, I6 a1), (6, .clo 77 [.ptr (l33 none w9)]), (7, l3 (some 10700) v14), (8, .ptr (I6 (k1 : Int))), (16, I6 (iShl .i64 1 a1)), (17, I6 (k1 : Int)), (20, .clo 77 [.ptr (l33 none w9)]), (21, I6 (k1 : Int)), (22, I6 w18)]) (by kernel_rfl) ?_
    obtain ⟨hc19, h⟩ := chk_some h
    refine WO.pureK 1 (if a1 < 0 then none else some (I6 (iShl .i64 1 a1))) (v := I6 (iShl .i64 1 a1)) (by kernel_rfl) (if_neg (not_lt_of_chk hc19)) (e1 := [(0, I6 a1), (6, .clo 77 [.ptr (l33 none w9)]), (7, l3 (some 10700) v14), (8, .ptr (I6 (k1 : Int))), (16, I6 (iShl .i64 1 a1)), (17, I6 (k1 : Int)), (20, .clo 77 [.ptr (l33 none w9)]), (21, I6 (k1 : Int)), (22, I6 w18), (23, I6 a1), (24, I6 (iShl .i64 1 a1))]) (by kernel_rfl) ?_
    refine WO.boolK 3 (fun b => [(0, I6 a1), (6, .clo 77 [.ptr (l33 none w9)]), (7, l3 (some 10700) v14), (8, .ptr (I6 (k1 : Int))), (16, I6 (iShl .i64 1 a1)), (17, I6 (k1 : Int)), (20, .clo 77 [.ptr (l33 none w9)]), (21, I6 (k1 : Int)), (22, I6 w18), (23, I6 a1), (24, I6 (iShl .i64 1 a1)), (25, I6 (IntKind.wrap .i64 ((iShl .i64 1 a1) - 1))), (26, .bool b), (27, .bool b)]) (w18 == (IntKind.wrap .i64 ((iShl .i64 1 a1) - 1))) (by kernel_rfl) (fun hb => ?_) (fun hb => ?_)
    · replace h := cond_t hb h
      obtain ⟨w20, hw20, h⟩ := bind_some h
      refine WO.callK 2 (F := 60) (l := [l3 none v14, .clo 61 [.ptr (I6 (k1 : Int))]]) (C := []) (r := .bool w20) (by kernel_rfl) (by kernel_rfl) (run_sl_ContainsFunc_int v14 (fun y0 => dp_Keys_1 y0 (k1 : Int)) 61 [.ptr (I6 (k1 : Int))] (by kernel_rfl) (fun y0 r h => run_dp_Keys_1 y0 (k1 : Int) r h) w20 hw20) (e1 := [(0, I6 a1), (6, .clo 77 [.ptr (l33 none w9)]), (7, l3 (some 10700) v14), (8, .ptr (I6 (k1 : Int))), (16, I6 (iShl .i64 1 a1)), (17, I6 (k1 : Int)), (20, .clo 77 [.ptr (l33 none w9)]), (21, I6 (k1 : Int)), (22, I6 w18), (23, I6 a1), (24, I6 (iShl .i64 1 a1)), (25, I6 (IntKind.wrap .i64 ((iShl .i64 1 a1) - 1))), (26, .bool true), (27, .bool true), (28, l3 (some 10700) v14), (29, .clo 61 [.ptr (I6 (k1 : Int))]), (30, .bool w20)]) (by kernel_rfl) ?_
      refine WO.fin [0, 6, 7, 8, 16, 17, 32] [] [] [] (e2 := [(0, I6 a1), (6, .clo 77 [.ptr (l33 none w9)]), (7, l3 (some 10700) v14), (8, .ptr (I6 (k1 : Int))), (16, I6 (iShl .i64 1 a1)), (17, I6 (k1 : Int)), (32, .bool (!w20))]) (by kernel_rfl) (fun _ h => h) ?_
      exact hK17 (!w20) h
    replace h := cond_f hb h
    refine WO.fin [0, 6, 7, 8, 16, 17, 32] [] [] [] (e2 := [(0, I6 a1), (6, .clo 77 [.ptr (l33 none w9)]), (7, l3 (some 10700) v14), (8, .ptr (I6 (k1 : Int))), (16, I6 (iShl .i64 1 a1)), (17, I6 (k1 : Int)), (32, .bool false)]) (by kernel_rfl) (fun _ h => h) ?_
    exact hK17 false h
def sl_insertionSortCmpFunc_int_j11 (v8 : Int) (N1 : ((List Int) → Int → Option (List Int))) (v34 : (List Int)) : Option (List Int) :=
  (N1 v34 (IntKind.wrap .i64 (v8 + 1)))
def sl_insertionSortCmpFunc_int_j16 (n2 : Nat) (v13 : (List Int)) (v14 : Int) (N2 : ((List Int) → Int → Option (List Int))) (K11 : ((List Int) → Option (List Int))) (v22 : Bool) : Option (List Int) :=
  (bif v22 then (chk (decide ((0 : Int) ≤ (IntKind.wrap .i64 (v14 - 1)) ∧ (IntKind.wrap .i64 (v14 - 1)) < ((n2 : Nat) : Int))) ((v13[(0 + Int.toNat (IntKind.wrap .i64 (v14 - 1)))]?).bind fun e25 => (chk (decide ((0 : Int) ≤ v14 ∧ v14 < ((n2 : Nat) : Int))) ((v13[(0 + Int.toNat v14)]?).bind fun e27 => (chk (decide ((0 : Int) ≤ v14 ∧ v14 < ((n2 : Nat) : Int))) ((upd v13 (0 + Int.toNat v14) e25).bind fun u29 => (chk (decide ((0 : Int) ≤ (IntKind.wrap .i64 (v14 - 1)) ∧ (IntKind.wrap .i64 (v14 - 1)) < ((n2 : Nat) : Int))) ((upd u29 (0 + Int.toNat (IntKind.wrap .i64 (v14 - 1))) e27).bind fun u32 => (N2 u32 (IntKind.wrap .i64 (v14 - 1))))))))))) else (K11 v13))
def sl_insertionSortCmpFunc_int_l2 (n2 : Nat) (a3 : Int) (g5 : (Int → Int → Option Int)) (K11 : ((List Int) → Option (List Int))) : Nat → (List Int) → Int → Option (List Int)
  | 0, _, _ => none
  | m2 + 1, v13, v14 => (bif (decide (v14 > a3)) then (chk (decide ((0 : Int) ≤ v14 ∧ v14 < ((n2 : Nat) : Int))) ((v13[(0 + Int.toNat v14)]?).bind fun e18 => (chk (decide ((0 : Int) ≤ (IntKind.wrap .i64 (v14 - 1)) ∧ (IntKind.wrap .i64 (v14 - 1)) < ((n2 : Nat) : Int))) ((v13[(0 + Int.toNat (IntKind.wrap .i64 (v14 - 1)))]?).bind fun e20 => ((g5 e18 e20).bind fun w21 => ((sl_insertionSortCmpFunc_int_j16 n2 v13 v14 (sl_insertionSortCmpFunc_int_l2 n2 a3 g5 K11 m2) K11) (decide (w21 < 0)))))))) else ((sl_insertionSortCmpFunc_int_j16 n2 v13 v14 (sl_insertionSortCmpFunc_int_l2 n2 a3 g5 K11 m2) K11) false))
def sl_insertionSortCmpFunc_int_l1 (fuel : Nat) (n2 : Nat) (a3 : Int) (a4 : Int) (g5 : (Int → Int → Option Int)) : Nat → (List Int) → Int → Option (List Int)
  | 0, _, _ => none
  | m1 + 1, v7, v8 => (bif (decide (v8 < a4)) then (sl_insertionSortCmpFunc_int_l2 n2 a3 g5 (sl_insertionSortCmpFunc_int_j11 v8 (sl_insertionSortCmpFunc_int_l1 fuel n2 a3 a4 g5 m1)) fuel v7 v8) else (some v7))
def sl_insertionSortCmpFunc_int (fuel : Nat) (a1 : (List Int)) (n2 : Nat) (a3 : Int) (a4 : Int) (g5 : (Int → Int → Option Int)) : Option (List Int) :=
  (sl_insertionSortCmpFunc_int_l1 fuel n2 a3 a4 g5 fuel a1 (IntKind.wrap .i64 (a3 + 1)))
theorem run_sl_insertionSortCmpFunc_int (fuel : Nat) (a1 : (List Int)) (n2 : Nat) (a3 : Int) (a4 : Int) (g5 : (Int → Int → Option Int)) (F_g5 : Nat) (C_g5 : List AV) (hok_g5 : okFn Try.prog F_g5 = true) (hrun_g5 : ∀ (x0 : Int) (x1 : Int) r, g5 x0 x1 = some r → Run Try.prog (.call F_g5 ([I6 x0, I6 x1] ++ C_g5) (I6 r))) (r : (List Int)) (h : sl_insertionSortCmpFunc_int fuel a1 n2 a3 a4 g5 = some r) : Run Try.prog (.callM 101 [.sb 2000000 3 1 0 n2, I6 a3, I6 a4, .clo F_g5 C_g5] [(2000000, .obj 3 1 (List.map (AV.int .i64) a1))] (.tup []) [(2000000, .obj 3 1 (List.map (AV.int .i64) r))]) := by
  refine callM_of_W Try.func101 rfl (by kernel_rfl) (env0 := [(0, .sb 2000000 3 1 0 n2), (1, I6 a3), (2, I6 a4), (3, .clo F_g5 C_g5), (2000000, .obj 3 1 (List.map (AV.int .i64) a1))]) (by kernel_rfl) ?_
  unfold sl_insertionSortCmpFunc_int at h
  refine W.seq ?_
  refine W.regT [0, 1, 2, 3, 8, 2000000] [] [] [] (e2 := [(0, .sb 2000000 3 1 0 n2), (1, I6 a3), (2, I6 a4), (3, .clo F_g5 C_g5), (8, I6 (IntKind.wrap .i64 (a3 + 1))), (2000000, .obj 3 1 (List.map (AV.int .i64) a1))]) (by kernel_rfl) (by kernel_rfl) (fun _ h => h) ?_
  refine W.block ?_
  refine W.weak [0, 1, 2, 3, 8, 2000000] [] [] [] (env' := [(0, .sb 2000000 3 1 0 n2), (1, I6 a3), (2, I6 a4), (3, .clo F_g5 C_g5), (8, I6 (IntKind.wrap .i64 (a3 + 1))), (2000000, .obj 3 1 (List.map (AV.int .i64) a1))]) (by kernel_rfl) ?_
  refine W.fuel (σ := ((List Int) × Int)) (fun s => [(0, .sb 2000000 3 1 0 n2), (1, I6 a3), (2, I6 a4), (3, .clo F_g5 C_g5), (8, I6 s.2), (2000000, .obj 3 1 (List.map (AV.int .i64) s.1))]) (fun m0 s => sl_insertionSortCmpFunc_int_l1 fuel n2 a3 a4 g5 m0 s.1 s.2 = some r) (fun s h => ?_) (fun m1 s h hN1 => ?_) fuel (a1, (IntKind.wrap .i64 (a3 + 1))) h
  · obtain ⟨v7, v8⟩ := s
    have h : sl_insertionSortCmpFunc_int_l1 fuel n2 a3 a4 g5 0 v7 v8 = some r := h
    rw [sl_insertionSortCmpFunc_int_l1.eq_1] at h
    cases h
  · obtain ⟨v7, v8⟩ := s
    have h : sl_insertionSortCmpFunc_int_l1 fuel n2 a3 a4 g5 (m1 + 1) v7 v8 = some r := h
    rw [sl_insertionSortCmpFunc_int_l1.eq_2] at h
    refine W.seq ?_
    refine W.seq ?_
    refine W.regT [0, 1, 2, 3, 8, 14, 2000000] [] [] [] (e2 := [(0, .sb 2000000 3 1 0 n2), (1, I6 a3), (2, I6 a4), (3, .clo F_g5 C_g5), (8, I6 v8), (14, .bool (decide (v8 < a4))), (2000000, .obj 3 1 (List.map (AV.int .i64) v7))]) (by kernel_rfl) (by kernel_rfl) (fun _ h => h) ?_
    refine W.condB (decide (v8 < a4)) (by kernel_rfl) (fun hb => ?_) (fun hb => ?_)
    · replace h := cond_t hb h
      refine W.skip ?_
      refine W.weak [0, 1, 2, 3, 8, 2000000] [] [] [] (env' := [(0, .sb 2000000 3 1 0 n2), (1, I6 a3), (2, I6 a4), (3, .clo F_g5 C_g5), (8, I6 v8), (2000000, .obj 3 1 (List.map (AV.int .i64) v7))]) (by kernel_rfl) ?_
      refine W.seq ?_
      refine W.join (σ := ((List Int))) (fun s => [(0, .sb 2000000 3 1 0 n2), (1, I6 a3), (2, I6 a4), (3, .clo F_g5 C_g5), (8, I6 v8), (2000000, .obj 3 1 (List.map (AV.int .i64) s))]) (fun s => (sl_insertionSortCmpFunc_int_j11 v8 (sl_insertionSortCmpFunc_int_l1 fuel n2 a3 a4 g5 m1)) s = some r) (fun s h => ?_) (fun hK11 => ?_)
      · obtain ⟨v34, rfl⟩ : ∃ x, x = s := ⟨s, rfl⟩
        have h : (sl_insertionSortCmpFunc_int_j11 v8 (sl_insertionSortCmpFunc_int_l1 fuel n2 a3 a4 g5 m1)) v34 = some r := h
        unfold sl_insertionSortCmpFunc_int_j11 at h
        refine W.regT [0, 1, 2, 3, 8, 2000000] [] [] [] (e2 := [(0, .sb 2000000 3 1 0 n2), (1, I6 a3), (2, I6 a4), (3, .clo F_g5 C_g5), (8, I6 (IntKind.wrap .i64 (v8 + 1))), (2000000, .obj 3 1 (List.map (AV.int .i64) v34))]) (by kernel_rfl) (by kernel_rfl) (fun _ h => h) ?_
        exact hN1 (v34, (IntKind.wrap .i64 (v8 + 1))) h
      refine W.block ?_
      refine W.seq ?_
      refine W.regT [0, 1, 2, 3, 8, 9, 2000000] [] [] [] (e2 := [(0, .sb 2000000 3 1 0 n2), (1, I6 a3), (2, I6 a4), (3, .clo F_g5 C_g5), (8, I6 v8), (9, I6 v8), (2000000, .obj 3 1 (List.map (AV.int .i64) v7))]) (by kernel_rfl) (by kernel_rfl) (fun _ h => h) ?_
      refine W.block ?_
      refine W.weak [0, 1, 2, 3, 8, 9, 2000000] [] [] [] (env' := [(0, .sb 2000000 3 1 0 n2), (1, I6 a3), (2, I6 a4), (3, .clo F_g5 C_g5), (8, I6 v8), (9, I6 v8), (2000000, .obj 3 1 (List.map (AV.int .i64) v7))]) (by kernel_rfl) ?_
      refine W.fuel (σ := ((List Int) × Int)) (fun s => [(0, .sb 2000000 3 1 0 n2), (1, I6 a3), (2, I6 a4), (3, .clo F_g5 C_g5), (8, I6 v8), (9, I6 s.2), (2000000, .obj 3 1 (List.map (AV.int .i64) s.1))]) (fun m0 s => sl_insertionSortCmpFunc_int_l2 n2 a3 g5 (sl_insertionSortCmpFunc_int_j11 v8 (sl_insertionSortCmpFunc_int_l1 fuel n2 a3 a4 g5 m1)) m0 s.1 s.2 = some r) (fun s h => ?_) (fun m2 s h hN2 => ?_) fuel (v7, v8) h
      · obtain ⟨v13, v14⟩ := s
        have h : sl_insertionSortCmpFunc_int_l2 n2 a3 g5 (sl_insertionSortCmpFunc_int_j11 v8 (sl_insertionSortCmpFunc_int_l1 fuel n2 a3 a4 g5 m1)) 0 v13 v14 = some r := h
        rw [sl_insertionSortCmpFunc_int_l2.eq_1] at h
        cases h
      · obtain ⟨v13, v14⟩ := s
        have h : sl_insertionSortCmpFunc_int_l2 n2 a3 g5 (sl_insertionSortCmpFunc_int_j11 v8 (sl_insertionSortCmpFunc_int_l1 fuel n2 a3 a4 g5 m1)) (m2 + 1) v13 v14 = some r := h
        rw [sl_insertionSortCmpFunc_int_l2.eq_2] at h
        refine W.seq ?_
        refine W.seq ?_
        refine W.join (σ := (Bool)) (fun s => [(0, .sb 2000000 3 1 0 n2), (1, I6 a3), (2, I6 a4), (3, .clo F_g5 C_g5), (8, I6 v8), (9, I6 v14), (34, .bool s), (2000000, .obj 3 1 (List.map (AV.int .i64) v13))]) (fun s => (sl_insertionSortCmpFunc_int_j16 n2 v13 v14 (sl_insertionSortCmpFunc_int_l2 n2 a3 g5 (sl_insertionSortCmpFunc_int_j11 v8 (sl_insertionSortCmpFunc_int_l1 fuel n2 a3 a4 g5 m1)) m2) (sl_insertionSortCmpFunc_int_j11 v8 (sl_insertionSortCmpFunc_int_l1 fuel n2 a3 a4 g5 m1))) s = some r) (fun s h => ?_) (fun hK16 => ?_)
        · obtain ⟨v22, rfl⟩ : ∃ x, x = s := ⟨s, rfl⟩
          have h : (sl_insertionSortCmpFunc_int_j16 n2 v13 v14 (sl_insertionSortCmpFunc_int_l2 n2 a3 g5 (sl_insertionSortCmpFunc_int_j11 v8 (sl_insertionSortCmpFunc_int_l1 fuel n2 a3 a4 g5 m1)) m2) (sl_insertionSortCmpFunc_int_j11 v8 (sl_insertionSortCmpFunc_int_l1 fuel n2 a3 a4 g5 m1))) v22 = some r := h
          unfold sl_insertionSortCmpFunc_int_j16 at h
          refine W.condB v22 (by kernel_rfl) (fun hb => ?_) (fun hb => ?_)
          · replace h := cond_t hb h
            refine W.skip ?_
            refine W.weak [0, 1, 2, 3, 8, 9, 2000000] [] [] [] (env' := [(0, .sb 2000000 3 1 0 n2), (1, I6 a3), (2, I6 a4), (3, .clo F_g5 C_g5), (8, I6 v8), (9, I6 v14), (2000000, .obj 3 1 (List.map (AV.int .i64) v13))]) (by kernel_rfl) ?_
            refine W.seq ?_
            refine W.block ?_
            refine W.region (by kernel_rfl) ?_
            obtain ⟨hc24, h⟩ := chk_some h
            refine WO.pureK 8 (if (0 : Int) ≤ (IntKind.wrap .i64 (v14 - 1)) ∧ (IntKind.wrap .i64 (v14 - 1)) < ((n2 : Nat) : Int) then some (.pe 2000000 1 (0 + Int.toNat (IntKind.wrap .i64 (v14 - 1))) 0) else none) (v := .pe 2000000 1 (0 + Int.toNat (IntKind.wrap .i64 (v14 - 1))) 0) (by kernel_rfl) (ite_some hc24) (e1 := [(0, .sb 2000000 3 1 0 n2), (1, I6 a3), (2, I6 a4), (3, .clo F_g5 C_g5), (8, I6 v8), (9, I6 v14), (37, .sb 2000000 3 1 0 n2), (38, I6 v14), (39, .sb 2000000 3 1 0 n2), (40, I6 v14), (41, I6 (IntKind.wrap .i64 (v14 - 1))), (42, .sb 2000000 3 1 0 n2), (43, I6 v14), (44, I6 (IntKind.wrap .i64 (v14 - 1))), (45, .pe 2000000 1 (0 + Int.toNat (IntKind.wrap .i64 (v14 - 1))) 0), (2000000, .obj 3 1 (List.map (AV.int .i64) v13))]) (by kernel_rfl) ?_
            obtain ⟨e25, he25, h⟩ := bind_some h
            refine WO.pureK 0 (match (List.map (AV.int .i64) v13)[(0 + Int.toNat (IntKind.wrap .i64 (v14 - 1)))]? with | some y => cut Try.prog 3 (y.cells.map AV.strip) 0 | none => none) (v := I6 e25) (by kernel_rfl) ((pe_ld (f := (AV.int .i64)) (G := (fun y => cut Try.prog 3 (y.cells.map AV.strip) 0)) he25).trans (by kernel_rfl)) (e1 := [(0, .sb 2000000 3 1 0 n2), (1, I6 a3), (2, I6 a4), (3, .clo F_g5 C_g5), (8, I6 v8), (9, I6 v14), (37, .sb 2000000 3 1 0 n2), (38, I6 v14), (39, .sb 2000000 3 1 0 n2), (40, I6 v14), (41, I6 (IntKind.wrap .i64 (v14 - 1))), (42, .sb 2000000 3 1 0 n2), (43, I6 v14), (44, I6 (IntKind.wrap .i64 (v14 - 1))), (45, .pe 2000000 1 (0 + Int.toNat (IntKind.wrap .i64 (v14 - 1))) 0), (46, I6 e25), (2000000, .obj 3 1 (List.map (AV.int .i64) v13))]) (by kernel_rfl) ?_
            obtain ⟨hc26, h⟩ := chk_some h
            refine WO.pureK 2 (if (0 : Int) ≤ v14 ∧ v14 < ((n2 : Nat) : Int) then some (.pe 2000000 1 (0 + Int.toNat v14) 0) else none) (v := .pe 2000000 1 (0 + Int.toNat v14) 0) (by kernel_rfl) (ite_some hc26) (e1 := [(0, .sb 2000000 3 1 0 n2), (1, I6 a3), (2, I6 a4), (3, .clo F_g5 C_g5), (8, I6 v8), (9, I6 v14), (37, .sb 2000000 3 1 0 n2), (38, I6 v14), (39, .sb 2000000 3 1 0 n2), (40, I6 v14), (41, I6 (IntKind.wrap .i64 (v14 - 1))), (42, .sb 2000000 3 1 0 n2), (43, I6 v14), (44, I6 (IntKind.wrap .i64 (v14 - 1))), (45, .pe 2000000 1 (0 + Int.toNat (IntKind.wrap .i64 (v14 - 1))) 0), (46, I6 e25), (47, .sb 2000000 3 1 0 n2), (48, I6 v14), (49, .pe 2000000 1 (0 + Int.toNat v14) 0), (2000000, .obj 3 1 (List.map (AV.int .i64) v13))]) (by kernel_rfl) ?_
            obtain ⟨e27, he27, h⟩ := bind_some h
            refine WO.pureK 0 (match (List.map (AV.int .i64) v13)[(0 + Int.toNat v14)]? with | some y => cut Try.prog 3 (y.cells.map AV.strip) 0 | none => none) (v := I6 e27) (by kernel_rfl) ((pe_ld (f := (AV.int .i64)) (G := (fun y => cut Try.prog 3 (y.cells.map AV.strip) 0)) he27).trans (by kernel_rfl)) (e1 := [(0, .sb 2000000 3 1 0 n2), (1, I6 a3), (2, I6 a4), (3, .clo F_g5 C_g5), (8, I6 v8), (9, I6 v14), (37, .sb 2000000 3 1 0 n2), (38, I6 v14), (39, .sb 2000000 3 1 0 n2), (40, I6 v14), (41, I6 (IntKind.wrap .i64 (v14 - 1))), (42, .sb 2000000 3 1 0 n2), (43, I6 v14), (44, I6 (IntKind.wrap .i64 (v14 - 1))), (45, .pe 2000000 1 (0 + Int.toNat (IntKind.wrap .i64 (v14 - 1))) 0), (46, I6 e25), (47, .sb 2000000 3 1 0 n2), (48, I6 v14), (49, .pe 2000000 1 (0 + Int.toNat v14) 0), (50, I6 e27), (2000000, .obj 3 1 (List.map (AV.int .i64) v13))]) (by kernel_rfl) ?_
            obtain ⟨hc28, h⟩ := chk_some h
            refine WO.pureK 0 (if (0 : Int) ≤ v14 ∧ v14 < ((n2 : Nat) : Int) then some (.pe 2000000 1 (0 + Int.toNat v14) 0) else none) (v := .pe 2000000 1 (0 + Int.toNat v14) 0) (by kernel_rfl) (ite_some hc28) (e1 := [(0, .sb 2000000 3 1 0 n2), (1, I6 a3), (2, I6 a4), (3, .clo F_g5 C_g5), (8, I6 v8), (9, I6 v14), (37, .sb 2000000 3 1 0 n2), (38, I6 v14), (39, .sb 2000000 3 1 0 n2), (40, I6 v14), (41, I6 (IntKind.wrap .i64 (v14 - 1))), (42, .sb 2000000 3 1 0 n2), (43, I6 v14), (44, I6 (IntKind.wrap .i64 (v14 - 1))), (45, .pe 2000000 1 (0 + Int.toNat (IntKind.wrap .i64 (v14 - 1))) 0), (46, I6 e25), (47, .sb 2000000 3 1 0 n2), (48, I6 v14), (49, .pe 2000000 1 (0 + Int.toNat v14) 0), (50, I6 e27), (51, .pe 2000000 1 (0 + Int.toNat v14) 0), (2000000, .obj 3 1 (List.map (AV.int .i64) v13))]) (by kernel_rfl) ?_
            obtain ⟨u29, hu29, h⟩ := bind_some h
            obtain ⟨y30, hyy30, hzy30⟩ := upd_some hu29
            refine WO.storeK 0 (id := 2000000) (e := 3) (s := 1) (j := (0 + Int.toNat v14)) (off := 0) (vs := [I6 e25]) (xs := (List.map (AV.int .i64) v13)) (zs := (List.map (AV.int .i64) u29)) (y := ((AV.int .i64)) y30) (y' := ((AV.int .i64)) e25) (by kernel_rfl) (upd_get hyy30) (by kernel_rfl) (upd_set hzy30) (e1 := [(0, .sb 2000000 3 1 0 n2), (1, I6 a3), (2, I6 a4), (3, .clo F_g5 C_g5), (8, I6 v8), (9, I6 v14), (37, .sb 2000000 3 1 0 n2), (38, I6 v14), (39, .sb 2000000 3 1 0 n2), (40, I6 v14), (41, I6 (IntKind.wrap .i64 (v14 - 1))), (42, .sb 2000000 3 1 0 n2), (43, I6 v14), (44, I6 (IntKind.wrap .i64 (v14 - 1))), (45, .pe 2000000 1 (0 + Int.toNat (IntKind.wrap .i64 (v14 - 1))) 0), (46, I6 e25), (47, .sb 2000000 3 1 0 n2), (48, I6 v14), (49, .pe 2000000 1 (0 + Int.toNat v14) 0), (50, I6 e27), (51, .pe 2000000 1 (0 + Int.toNat v14) 0), (2000000, .obj 3 1 (List.map (AV.int .i64) u29))]) (by kernel_rfl) ?_
            obtain ⟨hc31, h⟩ := chk_some h
            refine WO.pureK 0 (if (0 : Int) ≤ (IntKind.wrap .i64 (v14 - 1)) ∧ (IntKind.wrap .i64 (v14 - 1)) < ((n2 : Nat) : Int) then some (.pe 2000000 1 (0 + Int.toNat (IntKind.wrap .i64 (v14 - 1))) 0) else none) (v := .pe 2000000 1 (0 + Int.toNat (IntKind.wrap .i64 (v14 - 1))) 0) (by kernel_rfl) (ite_some hc31) (e1 := [(0, .sb 2000000 3 1 0 n2), (1, I6 a3), (2, I6 a4), (3, .clo F_g5 C_g5), (8, I6 v8), (9, I6 v14), (37, .sb 2000000 3 1 0 n2), (38, I6 v14), (39, .sb 2000000 3 1 0 n2), (40, I6 v14), (41, I6 (IntKind.wrap .i64 (v14 - 1))), (42, .sb 2000000 3 1 0 n2), (43, I6 v14), (44, I6 (IntKind.wrap .i64 (v14 - 1))), (45, .pe 2000000 1 (0 + Int.toNat (IntKind.wrap .i64 (v14 - 1))) 0), (46, I6 e25), (47, .sb 2000000 3 1 0 n2), (48, I6 v14), (49, .pe 2000000 1 (0 + Int.toNat v14) 0), (50, I6 e27), (51, .pe 2000000 1 (0 + Int.toNat v14) 0), (52, .pe 2000000 1 (0 + Int.toNat (IntKind.wrap .i64 (v14 - 1))) 0), (2000000, .obj 3 1 (List.map (AV.int .i64) u29))]) (by kernel_rfl) ?_
            obtain ⟨u32, hu32, h⟩ := bind_some h
            obtain ⟨y33, hyy33, hzy33⟩ := upd_some hu32
            refine WO.storeK 0 (id := 2000000) (e := 3) (s := 1) (j := (0 + Int.toNat (IntKind.wrap .i64 (v14 - 1)))) (off := 0) (vs := [I6 e27]) (xs := (List.map (AV.int .i64) u29)) (zs := (List.map (AV.int .i64) u32)) (y := ((AV.int .i64)) y33) (y' := ((AV.int .i64)) e27) (by kernel_rfl) (upd_get hyy33) (by kernel_rfl) (upd_set hzy33) (e1 := [(0, .sb 2000000 3 1 0 n2), (1, I6 a3), (2, I6 a4), (3, .clo F_g5 C_g5), (8, I6 v8), (9, I6 v14), (37, .sb 2000000 3 1 0 n2), (38, I6 v14), (39, .sb 2000000 3 1 0 n2), (40, I6 v14), (41, I6 (IntKind.wrap .i64 (v14 - 1))), (42, .sb 2000000 3 1 0 n2), (43, I6 v14), (44, I6 (IntKind.wrap .i64 (v14 - 1))), (45, .pe 2000000 1 (0 + Int.toNat (IntKind.wrap .i64 (v14 - 1))) 0), (46, I6 e25), (47, .sb 2000000 3 1 0 n2), (48, I6 v14), (49, .pe 2000000 1 (0 + Int.toNat v14) 0), (50, I6 e27), (51, .pe 2000000 1 (0 + Int.toNat v14) 0), (52, .pe 2000000 1 (0 + Int.toNat (IntKind.wrap .i64 (v14 - 1))) 0), (2000000, .obj 3 1 (List.map (AV.int .i64) u32))]) (by kernel_rfl) ?_
            refine WO.fin [0, 1, 2, 3, 8, 9, 2000000] [] [] [] (e2 := [(0, .sb 2000000 3 1 0 n2), (1, I6 a3), (2, I6 a4), (3, .clo F_g5 C_g5), (8, I6 v8), (9, I6 v14), (2000000, .obj 3 1 (List.map (AV.int .i64) u32))]) (by kernel_rfl) (fun _ h => h) ?_
            refine W.regT [0, 1, 2, 3, 8, 9, 2000000] [] [] [] (e2 := [(0, .sb 2000000 3 1 0 n2), (1, I6 a3), (2, I6 a4), (3, .clo F_g5 C_g5), (8, I6 v8), (9, I6 (IntKind.wrap .i64 (v14 - 1))), (2000000, .obj 3 1 (List.map (AV.int .i64) u32))]) (by kernel_rfl) (by kernel_rfl) (fun _ h => h) ?_
            exact hN2 (u32, (IntKind.wrap .i64 (v14 - 1))) h
          replace h := cond_f hb h
          refine W.exit ?_
          refine W.weak [0, 1, 2, 3, 8, 2000000] [] [] [] (env' := [(0, .sb 2000000 3 1 0 n2), (1, I6 a3), (2, I6 a4), (3, .clo F_g5 C_g5), (8, I6 v8), (2000000, .obj 3 1 (List.map (AV.int .i64) v13))]) (by kernel_rfl) ?_
          exact hK11 v13 h
        refine W.region (by kernel_rfl) ?_
        refine WO.boolK 4 (fun b => [(0, .sb 2000000 3 1 0 n2), (1, I6 a3), (2, I6 a4), (3, .clo F_g5 C_g5), (8, I6 v8), (9, I6 v14), (18, I6 v14), (19, I6 a3), (20, .bool b), (21, .bool b), (2000000, .obj 3 1 (List.map (AV.int .i64) v13))]) (decide (v14 > a3)) (by kernel_rfl) (fun hb => ?_) (fun hb => ?_)
        · replace h := cond_t hb h
          obtain ⟨hc17, h⟩ := chk_some h
          refine WO.pureK 3 (if (0 : Int) ≤ v14 ∧ v14 < ((n2 : Nat) : Int) then some (.pe 2000000 1 (0 + Int.toNat v14) 0) else none) (v := .pe 2000000 1 (0 + Int.toNat v14) 0) (by kernel_rfl) (ite_some hc17) (e1 := [(0, .sb 2000000 3 1 0 n2), (1, I6 a3), (2, I6 a4), (3, .clo F_g5 C_g5), (8, I6 v8), (9, I6 v14), (18, I6 v14), (19, I6 a3), (20, .bool true), (21, .bool true), (22, .clo F_g5 C_g5), (23, .sb 2000000 3 1 0 n2), (24, I6 v14), (25, .pe 2000000 1 (0 + Int.toNat v14) 0), (2000000, .obj 3 1 (List.map (AV.int .i64) v13))]) (by kernel_rfl) ?_
          obtain ⟨e18, he18, h⟩ := bind_some h
          refine WO.pureK 0 (match (List.map (AV.int .i64) v13)[(0 + Int.toNat v14)]? with | some y => cut Try.prog 3 (y.cells.map AV.strip) 0 | none => none) (v := I6 e18) (by kernel_rfl) ((pe_ld (f := (AV.int .i64)) (G := (fun y => cut Try.prog 3 (y.cells.map AV.strip) 0)) he18).trans (by kernel_rfl)) (e1 := [(0, .sb 2000000 3 1 0 n2), (1, I6 a3), (2, I6 a4), (3, .clo F_g5 C_g5), (8, I6 v8), (9, I6 v14), (18, I6 v14), (19, I6 a3), (20, .bool true), (21, .bool true), (22, .clo F_g5 C_g5), (23, .sb 2000000 3 1 0 n2), (24, I6 v14), (25, .pe 2000000 1 (0 + Int.toNat v14) 0), (26, I6 e18), (2000000, .obj 3 1 (List.map (AV.int .i64) v13))]) (by kernel_rfl) ?_
          obtain ⟨hc19, h⟩ := chk_some h
          refine WO.pureK 3 (if (0 : Int) ≤ (IntKind.wrap .i64 (v14 - 1)) ∧ (IntKind.wrap .i64 (v14 - 1)) < ((n2 : Nat) : Int) then some (.pe 2000000 1 (0 + Int.toNat (IntKind.wrap .i64 (v14 - 1))) 0) else none) (v := .pe 2000000 1 (0 + Int.toNat (IntKind.wrap .i64 (v14 - 1))) 0) (by kernel_rfl) (ite_some hc19) (e1 := [(0, .sb 2000000 3 1 0 n2), (1, I6 a3), (2, I6 a4), (3, .clo F_g5 C_g5), (8, I6 v8), (9, I6 v14), (18, I6 v14), (19, I6 a3), (20, .bool true), (21, .bool true), (22, .clo F_g5 C_g5), (23, .sb 2000000 3 1 0 n2), (24, I6 v14), (25, .pe 2000000 1 (0 + Int.toNat v14) 0), (26, I6 e18), (27, .sb 2000000 3 1 0 n2), (28, I6 v14), (29, I6 (IntKind.wrap .i64 (v14 - 1))), (30, .pe 2000000 1 (0 + Int.toNat (IntKind.wrap .i64 (v14 - 1))) 0), (2000000, .obj 3 1 (List.map (AV.int .i64) v13))]) (by kernel_rfl) ?_
          obtain ⟨e20, he20, h⟩ := bind_some h
          refine WO.pureK 0 (match (List.map (AV.int .i64) v13)[(0 + Int.toNat (IntKind.wrap .i64 (v14 - 1)))]? with | some y => cut Try.prog 3 (y.cells.map AV.strip) 0 | none => none) (v := I6 e20) (by kernel_rfl) ((pe_ld (f := (AV.int .i64)) (G := (fun y => cut Try.prog 3 (y.cells.map AV.strip) 0)) he20).trans (by kernel_rfl)) (e1 := [(0, .sb 2000000 3 1 0 n2), (1, I6 a3), (2, I6 a4), (3, .clo F_g5 C_g5), (8, I6 v8), (9, I6 v14), (18, I6 v14), (19, I6 a3), (20, .bool true), (21, .bool true), (22, .clo F_g5 C_g5), (23, .sb 2000000 3 1 0 n2), (24, I6 v14), (25, .pe 2000000 1 (0 + Int.toNat v14) 0), (26, I6 e18), (27, .sb 2000000 3 1 0 n2), (28, I6 v14), (29, I6 (IntKind.wrap .i64 (v14 - 1))), (30, .pe 2000000 1 (0 + Int.toNat (IntKind.wrap .i64 (v14 - 1))) 0), (31, I6 e20), (2000000, .obj 3 1 (List.map (AV.int .i64) v13))]) (by kernel_rfl) ?_
          obtain ⟨w21, hw21, h⟩ := bind_some h
          refine WO.callK 0 (F := F_g5) (l := [I6 e18, I6 e20]) (C := C_g5) (r := I6 w21) (by kernel_rfl) hok_g5 (hrun_g5 e18 e20 w21 hw21) (e1 := [(0, .sb 2000000 3 1 0 n2), (1, I6 a3), (2, I6 a4), (3, .clo F_g5 C_g5), (8, I6 v8), (9, I6 v14), (18, I6 v14), (19, I6 a3), (20, .bool true), (21, .bool true), (22, .clo F_g5 C_g5), (23, .sb 2000000 3 1 0 n2), (24, I6 v14), (25, .pe 2000000 1 (0 + Int.toNat v14) 0), (26, I6 e18), (27, .sb 2000000 3 1 0 n2), (28, I6 v14), (29, I6 (IntKind.wrap .i64 (v14 - 1))), (30, .pe 2000000 1 (0 + Int.toNat (IntKind.wrap .i64 (v14 - 1))) 0), (31, I6 e20), (32, I6 w21), (2000000, .obj 3 1 (List.map (AV.int .i64) v13))]) (by kernel_rfl) ?_
          refine WO.fin [0, 1, 2, 3, 8, 9, 34, 2000000] [] [] [] (e2 := [(0, .sb 2000000 3 1 0 n2), (1, I6 a3), (2, I6 a4), (3, .clo F_g5 C_g5), (8, I6 v8), (9, I6 v14), (34, .bool (decide (w21 < 0))), (2000000, .obj 3 1 (List.map (AV.int .i64) v13))]) (by kernel_rfl) (fun _ h => h) ?_
          exact hK16 (decide (w21 < 0)) h
        replace h := cond_f hb h
        refine WO.fin [0, 1, 2, 3, 8, 9, 34, 2000000] [] [] [] (e2 := [(0, .sb 2000000 3 1 0 n2), (1, I6 a3), (2, I6 a4), (3, .clo F_g5 C_g5), (8, I6 v8), (9, I6 v14), (34, .bool false), (2000000, .obj 3 1 (List.map (AV.int .i64) v13))]) (by kernel_rfl) (fun _ h => h) ?_
        exact hK16 false h
    replace h := cond_f hb h
    have hr : PostM Try.prog Try.f101 (.tup []) [(2000000, .obj 3 1 (List.map (AV.int .i64) v7))] .normal [(0, .sb 2000000 3 1 0 n2), (1, I6 a3), (2, I6 a4), (3, .clo F_g5 C_g5), (8, I6 v8), (14, .bool (decide (v8 < a4))), (2000000, .obj 3 1 (List.map (AV.int .i64) v7))] := ⟨by kernel_rfl, by kernel_rfl⟩
    cases h
    exact W.exit hr
def sl_swapRangeCmpFunc_int_l1 (n2 : Nat) (a3 : Int) (a4 : Int) (a5 : Int) : Nat → (List Int) → Int → Option (List Int)
  | 0, _, _ => none
  | m1 + 1, v8, v9 => (bif (decide (v9 < a5)) then (chk (decide ((0 : Int) ≤ (IntKind.wrap .i64 (a4 + v9)) ∧ (IntKind.wrap .i64 (a4 + v9)) < ((n2 : Nat) : Int))) ((v8[(0 + Int.toNat (IntKind.wrap .i64 (a4 + v9)))]?).bind fun e14 => (chk (decide ((0 : Int) ≤ (IntKind.wrap .i64 (a3 + v9)) ∧ (IntKind.wrap .i64 (a3 + v9)) < ((n2 : Nat) : Int))) ((v8[(0 + Int.toNat (IntKind.wrap .i64 (a3 + v9)))]?).bind fun e16 => (chk (decide ((0 : Int) ≤ (IntKind.wrap .i64 (a3 + v9)) ∧ (IntKind.wrap .i64 (a3 + v9)) < ((n2 : Nat) : Int))) ((upd v8 (0 + Int.toNat (IntKind.wrap .i64 (a3 + v9))) e14).bind fun u18 => (chk (decide ((0 : Int) ≤ (IntKind.wrap .i64 (a4 + v9)) ∧ (IntKind.wrap .i64 (a4 + v9)) < ((n2 : Nat) : Int))) ((upd u18 (0 + Int.toNat (IntKind.wrap .i64 (a4 + v9))) e16).bind fun u21 => ((sl_swapRangeCmpFunc_int_l1 n2 a3 a4 a5 m1) u21 (IntKind.wrap .i64 (v9 + 1))))))))))) else (some v8))
def sl_swapRangeCmpFunc_int (fuel : Nat) (a1 : (List Int)) (n2 : Nat) (a3 : Int) (a4 : Int) (a5 : Int) (g6 : (Int → Int → Option Int)) : Option (List Int) :=
  (sl_swapRangeCmpFunc_int_l1 n2 a3 a4 a5 fuel a1 0)
theorem run_sl_swapRangeCmpFunc_int (fuel : Nat) (a1 : (List Int)) (n2 : Nat) (a3 : Int) (a4 : Int) (a5 : Int) (g6 : (Int → Int → Option Int)) (F_g6 : Nat) (C_g6 : List AV) (hok_g6 : okFn Try.prog F_g6 = true) (hrun_g6 : ∀ (x0 : Int) (x1 : Int) r, g6 x0 x1 = some r → Run Try.prog (.call F_g6 ([I6 x0, I6 x1] ++ C_g6) (I6 r))) (r : (List Int)) (h : sl_swapRangeCmpFunc_int fuel a1 n2 a3 a4 a5 g6 = some r) : Run Try.prog (.callM 119 [.sb 2000000 3 1 0 n2, I6 a3, I6 a4, I6 a5, .clo F_g6 C_g6] [(2000000, .obj 3 1 (List.map (AV.int .i64) a1))] (.tup []) [(2000000, .obj 3 1 (List.map (AV.int .i64) r))]) := by
  refine callM_of_W Try.func119 rfl (by kernel_rfl) (env0 := [(0, .sb 2000000 3 1 0 n2), (1, I6 a3), (2, I6 a4), (3, I6 a5), (4, .clo F_g6 C_g6), (2000000, .obj 3 1 (List.map (AV.int .i64) a1))]) (by kernel_rfl) ?_
  unfold sl_swapRangeCmpFunc_int at h
  refine W.seq ?_
  refine W.regT [0, 1, 2, 3, 10, 2000000] [] [] [] (e2 := [(0, .sb 2000000 3 1 0 n2), (1, I6 a3), (2, I6 a4), (3, I6 a5), (10, .int .i64 0), (2000000, .obj 3 1 (List.map (AV.int .i64) a1))]) (by kernel_rfl) (by kernel_rfl) (fun _ h => h) ?_
  refine W.block ?_
  refine W.weak [0, 1, 2, 3, 10, 2000000] [] [] [] (env' := [(0, .sb 2000000 3 1 0 n2), (1, I6 a3), (2, I6 a4), (3, I6 a5), (10, .int .i64 0), (2000000, .obj 3 1 (List.map (AV.int .i64) a1))]) (by kernel_rfl) ?_
  refine W.fuel (σ := ((List Int) × Int)) (fun s => [(0, .sb 2000000 3 1 0 n2), (1, I6 a3), (2, I6 a4), (3, I6 a5), (10, I6 s.2), (2000000, .obj 3 1 (List.map (AV.int .i64) s.1))]) (fun m0 s => sl_swapRangeCmpFunc_int_l1 n2 a3 a4 a5 m0 s.1 s.2 = some r) (fun s h => ?_) (fun m1 s h hN1 => ?_) fuel (a1, 0) h
  · obtain ⟨v8, v9⟩ := s
    have h : sl_swapRangeCmpFunc_int_l1 n2 a3 a4 a5 0 v8 v9 = some r := h
    rw [sl_swapRangeCmpFunc_int_l1.eq_1] at h
    cases h
  · obtain ⟨v8, v9⟩ := s
    have h : sl_swapRangeCmpFunc_int_l1 n2 a3 a4 a5 (m1 + 1) v8 v9 = some r := h
    rw [sl_swapRangeCmpFunc_int_l1.eq_2] at h
    refine W.seq ?_
    refine W.seq ?_
    refine W.regT [0, 1, 2, 3, 10, 13, 2000000] [] [] [] (e2 := [(0, .sb 2000000 3 1 0 n2), (1, I6 a3), (2, I6 a4), (3, I6 a5), (10, I6 v9), (13, .bool (decide (v9 < a5))), (2000000, .obj 3 1 (List.map (AV.int .i64) v8))]) (by kernel_rfl) (by kernel_rfl) (fun _ h => h) ?_
    refine W.condB (decide (v9 < a5)) (by kernel_rfl) (fun hb => ?_) (fun hb => ?_)
    · replace h := cond_t hb h
      refine W.skip ?_
      refine W.weak [0, 1, 2, 3, 10, 2000000] [] [] [] (env' := [(0, .sb 2000000 3 1 0 n2), (1, I6 a3), (2, I6 a4), (3, I6 a5), (10, I6 v9), (2000000, .obj 3 1 (List.map (AV.int .i64) v8))]) (by kernel_rfl) ?_
      refine W.seq ?_
      refine W.block ?_
      refine W.region (by kernel_rfl) ?_
      obtain ⟨hc13, h⟩ := chk_some h
      refine WO.pureK 12 (if (0 : Int) ≤ (IntKind.wrap .i64 (a4 + v9)) ∧ (IntKind.wrap .i64 (a4 + v9)) < ((n2 : Nat) : Int) then some (.pe 2000000 1 (0 + Int.toNat (IntKind.wrap .i64 (a4 + v9))) 0) else none) (v := .pe 2000000 1 (0 + Int.toNat (IntKind.wrap .i64 (a4 + v9))) 0) (by kernel_rfl) (ite_some hc13) (e1 := [(0, .sb 2000000 3 1 0 n2), (1, I6 a3), (2, I6 a4), (3, I6 a5), (10, I6 v9), (16, .sb 2000000 3 1 0 n2), (17, I6 a3), (18, I6 v9), (19, I6 (IntKind.wrap .i64 (a3 + v9))), (20, .sb 2000000 3 1 0 n2), (21, I6 a4), (22, I6 v9), (23, I6 (IntKind.wrap .i64 (a4 + v9))), (24, .sb 2000000 3 1 0 n2), (25, I6 a4), (26, I6 v9), (27, I6 (IntKind.wrap .i64 (a4 + v9))), (28, .pe 2000000 1 (0 + Int.toNat (IntKind.wrap .i64 (a4 + v9))) 0), (2000000, .obj 3 1 (List.map (AV.int .i64) v8))]) (by kernel_rfl) ?_
      obtain ⟨e14, he14, h⟩ := bind_some h
      refine WO.pureK 0 (match (List.map (AV.int .i64) v8)[(0 + Int.toNat (IntKind.wrap .i64 (a4 + v9)))]? with | some y => cut Try.prog 3 (y.cells.map AV.strip) 0 | none => none) (v := I6 e14) (by kernel_rfl) ((pe_ld (f := (AV.int .i64)) (G := (fun y => cut Try.prog 3 (y.cells.map AV.strip) 0)) he14).trans (by kernel_rfl)) (e1 := [(0, .sb 2000000 3 1 0 n2), (1, I6 a3), (2, I6 a4), (3, I6 a5), (10, I6 v9), (16, .sb 2000000 3 1 0 n2), (17, I6 a3), (18, I6 v9), (19, I6 (IntKind.wrap .i64 (a3 + v9))), (20, .sb 2000000 3 1 0 n2), (21, I6 a4), (22, I6 v9), (23, I6 (IntKind.wrap .i64 (a4 + v9))), (24, .sb 2000000 3 1 0 n2), (25, I6 a4), (26, I6 v9), (27, I6 (IntKind.wrap .i64 (a4 + v9))), (28, .pe 2000000 1 (0 + Int.toNat (IntKind.wrap .i64 (a4 + v9))) 0), (29, I6 e14), (2000000, .obj 3 1 (List.map (AV.int .i64) v8))]) (by kernel_rfl) ?_
      obtain ⟨hc15, h⟩ := chk_some h
      refine WO.pureK 4 (if (0 : Int) ≤ (IntKind.wrap .i64 (a3 + v9)) ∧ (IntKind.wrap .i64 (a3 + v9)) < ((n2 : Nat) : Int) then some (.pe 2000000 1 (0 + Int.toNat (IntKind.wrap .i64 (a3 + v9))) 0) else none) (v := .pe 2000000 1 (0 + Int.toNat (IntKind.wrap .i64 (a3 + v9))) 0) (by kernel_rfl) (ite_some hc15) (e1 := [(0, .sb 2000000 3 1 0 n2), (1, I6 a3), (2, I6 a4), (3, I6 a5), (10, I6 v9), (16, .sb 2000000 3 1 0 n2), (17, I6 a3), (18, I6 v9), (19, I6 (IntKind.wrap .i64 (a3 + v9))), (20, .sb 2000000 3 1 0 n2), (21, I6 a4), (22, I6 v9), (23, I6 (IntKind.wrap .i64 (a4 + v9))), (24, .sb 2000000 3 1 0 n2), (25, I6 a4), (26, I6 v9), (27, I6 (IntKind.wrap .i64 (a4 + v9))), (28, .pe 2000000 1 (0 + Int.toNat (IntKind.wrap .i64 (a4 + v9))) 0), (29, I6 e14), (30, .sb 2000000 3 1 0 n2), (31, I6 a3), (32, I6 v9), (33, I6 (IntKind.wrap .i64 (a3 + v9))), (34, .pe 2000000 1 (0 + Int.toNat (IntKind.wrap .i64 (a3 + v9))) 0), (2000000, .obj 3 1 (List.map (AV.int .i64) v8))]) (by kernel_rfl) ?_
      obtain ⟨e16, he16, h⟩ := bind_some h
      refine WO.pureK 0 (match (List.map (AV.int .i64) v8)[(0 + Int.toNat (IntKind.wrap .i64 (a3 + v9)))]? with | some y => cut Try.prog 3 (y.cells.map AV.strip) 0 | none => none) (v := I6 e16) (by kernel_rfl) ((pe_ld (f := (AV.int .i64)) (G := (fun y => cut Try.prog 3 (y.cells.map AV.strip) 0)) he16).trans (by kernel_rfl)) (e1 := [(0, .sb 2000000 3 1 0 n2), (1, I6 a3), (2, I6 a4), (3, I6 a5), (10, I6 v9), (16, .sb 2000000 3 1 0 n2), (17, I6 a3), (18, I6 v9), (19, I6 (IntKind.wrap .i64 (a3 + v9))), (20, .sb 2000000 3 1 0 n2), (21, I6 a4), (22, I6 v9), (23, I6 (IntKind.wrap .i64 (a4 + v9))), (24, .sb 2000000 3 1 0 n2), (25, I6 a4), (26, I6 v9), (27, I6 (IntKind.wrap .i64 (a4 + v9))), (28, .pe 2000000 1 (0 + Int.toNat (IntKind.wrap .i64 (a4 + v9))) 0), (29, I6 e14), (30, .sb 2000000 3 1 0 n2), (31, I6 a3), (32, I6 v9), (33, I6 (IntKind.wrap .i64 (a3 + v9))), (34, .pe 2000000 1 (0 + Int.toNat (IntKind.wrap .i64 (a3 + v9))) 0), (35, I6 e16), (2000000, .obj 3 1 (List.map (AV.int .i64) v8))]) (by kernel_rfl) ?_
      obtain ⟨hc17, h⟩ := chk_some h
      refine WO.pureK 0 (if (0 : Int) ≤ (IntKind.wrap .i64 (a3 + v9)) ∧ (IntKind.wrap .i64 (a3 + v9)) < ((n2 : Nat) : Int) then some (.pe 2000000 1 (0 + Int.toNat (IntKind.wrap .i64 (a3 + v9))) 0) else none) (v := .pe 2000000 1 (0 + Int.toNat (IntKind.wrap .i64 (a3 + v9))) 0) (by kernel_rfl) (ite_some hc17) (e1 := [(0, .sb 2000000 3 1 0 n2), (1, I6 a3), (2, I6 a4), (3, I6 a5), (10, I6 v9), (16, .sb 2000000 3 1 0 n2), (17, I6 a3), (18, I6 v9), (19, I6 (IntKind.wrap .i64 (a3 + v9))), (20, .sb 2000000 3 1 0 n2), (21, I6 a4), (22, I6 v9), (23, I6 (IntKind.wrap .i64 (a4 + v9))), (24, .sb 2000000 3 1 0 n2), (25, I6 a4), (26, I6 v9), (27, I6 (IntKind.wrap .i64 (a4 + v9))), (28, .pe 2000000 1 (0 + Int.toNat (IntKind.wrap .i64 (a4 + v9))) 0), (29, I6 e14), (30, .sb 2000000 3 1 0 n2), (31, I6 a3), (32, I6 v9), (33, I6 (IntKind.wrap .i64 (a3 + v9))), (34, .pe 2000000 1 (0 + Int.toNat (IntKind.wrap .i64 (a3 + v9))) 0), (35, I6 e16), (36, .pe 2000000 1 (0 + Int.toNat (IntKind.wrap .i64 (a3 + v9))) 0), (2000000, .obj 3 1 (List.map (AV.int .i64) v8))]) (by kernel_rfl) ?_
      obtain ⟨u18, hu18, h⟩ := bind_some h
      obtain ⟨y19, hyy19, hzy19⟩ := upd_some hu18
      refine WO.storeK 0 (id := 2000000) (e := 3) (s := 1) (j := (0 + Int.toNat (IntKind.wrap .i64 (a3 + v9)))) (off := 0) (vs := [I6 e14]) (xs := (List.map (AV.int .i64) v8)) (zs := (List.map (AV.int .i64) u18)) (y := ((AV.int .i64)) y19) (y' := ((AV.int .i64)) e14) (by kernel_rfl) (upd_get hyy19) (by kernel_rfl) (upd_set hzy19) (e1 := [(0, .sb 2000000 3 1 0 n2), (1, I6 a3), (2, I6 a4), (3, I6 a5), (10, I6 v9), (16, .sb 2000000 3 1 0 n2), (17, I6 a3), (18, I6 v9), (19, I6 (IntKind.wrap .i64 (a3 + v9))), (20, .sb 2000000 3 1 0 n2), (21, I6 a4), (22, I6 v9), (23, I6 (IntKind.wrap .i64 (a4 + v9))), (24, .sb 2000000 3 1 0 n2), (25, I6 a4), (26, I6 v9), (27, I6 (IntKind.wrap .i64 (a4 + v9))), (28, .pe 2000000 1 (0 + Int.toNat (IntKind.wrap .i64 (a4 + v9))) 0), (29, I6 e14), (30, .sb 2000000 3 1 0 n2), (31, I6 a3), (32, I6 v9), (33, I6 (IntKind.wrap .i64 (a3 + v9))), (34, .pe 2000000 1 (0 + Int.toNat (IntKind.wrap .i64 (a3 + v9))) 0), (35, I6 e16), (36, .pe 2000000 1 (0 + Int.toNat (IntKind.wrap .i64 (a3 + v9))) 0), (2000000, .obj 3 1 (List.map (AV.int .i64) u18))]) (by kernel_rfl) ?_
      obtain ⟨hc20, h⟩ := chk_some h
      refine WO.pureK 0 (if (0 : Int) ≤ (IntKind.wrap .i64 (a4 + v9)) ∧ (IntKind.wrap .i64 (a4 + v9)) < ((n2 : Nat) : Int) then some (.pe 2000000 1 (0 + Int.toNat (IntKind.wrap .i64 (a4 + v9))) 0) else none) (v := .pe 2000000 1 (0 + Int.toNat (IntKind.wrap .i64 (a4 + v9))) 0) (by kernel_rfl) (ite_some hc20) (e1 := [(0, .sb 2000000 3 1 0 n2), (1, I6 a3), (2, I6 a4), (3, I6 a5), (10, I6 v9), (16, .sb 2000000 3 1 0 n2), (17, I6 a3), (18, I6 v9), (19, I6 (IntKind.wrap .i64 (a3 + v9))), (20, .sb 2000000 3 1 0 n2), (21, I6 a4), (22, I6 v9), (23, I6 (IntKind.wrap .i64 (a4 + v9))), (24, .sb 2000000 3 1 0 n2), (25, I6 a4), (26, I6 v9), (27, I6 (IntKind.wrap .i64 (a4 + v9))), (28, .pe 2000000 1 (0 + Int.toNat (IntKind.wrap .i64 (a4 + v9))) 0), (29, I6 e14), (30, .sb 2000000 3 1 0 n2), (31, I6 a3), (32, I6 v9), (33, I6 (IntKind.wrap .i64 (a3 + v9))), (34, .pe 2000000 1 (0 + Int.toNat (IntKind.wrap .i64 (a3 + v9))) 0), (35, I6 e16), (36, .pe 2000000 1 (0 + Int.toNat (IntKind.wrap .i64 (a3 + v9))) 0), (37, .pe 2000000 1 (0 + Int.toNat (IntKind.wrap .i64 (a4 + v9))) 0), (2000000, .obj 3 1 (List.map (AV.int .i64) u18))]) (by kernel_rfl) ?_
      obtain ⟨u21, hu21, h⟩ := bind_some h
      obtain ⟨y22, hyy22, hzy22⟩ := upd_some hu21
      refine WO.storeK 0 (id := 2000000) (e := 3) (s := 1) (j := (0 + Int.toNat (IntKind.wrap .i64 (a4 + v9)))) (off := 0) (vs := [I6 e16]) (xs := (List.map (AV.int .i64) u18)) (zs := (List.map (AV.int .i64) u21)) (y := ((AV.int .i64)) y22) (y' := ((AV.int .i64)) e16) (by kernel_rfl) (upd_get hyy22) (by kernel_rfl) (upd_set hzy22) (e1 := [(0, .sb 2000000 3 1 0 n2), (1, I6 a3), (2, I6 a4), (3, I6 a5), (10, I6 v9), (16, .sb 2000000 3 1 0 n2), (17, I6 a3), (18, I6 v9), (19, I6 (IntKind.wrap .i64 (a3 + v9))), (20, .sb 2000000 3 1 0 n2), (21, I6 a4), (22, I6 v9), (23, I6 (IntKind.wrap .i64 (a4 + v9))), (24, .sb 2000000 3 1 0 n2), (25, I6 a4), (26, I6 v9), (27, I6 (IntKind.wrap .i64 (a4 + v9))), (28, .pe 2000000 1 (0 + Int.toNat (IntKind.wrap .i64 (a4 + v9))) 0), (29, I6 e14), (30, .sb 2000000 3 1 0 n2), (31, I6 a3), (32, I6 v9), (33, I6 (IntKind.wrap .i64 (a3 + v9))), (34, .pe 2000000 1 (0 + Int.toNat (IntKind.wrap .i64 (a3 + v9))) 0), (35, I6 e16), (36, .pe 2000000 1 (0 + Int.toNat (IntKind.wrap .i64 (a3 + v9))) 0), (37, .pe 2000000 1 (0 + Int.toNat (IntKind.wrap .i64 (a4 + v9))) 0), (2000000, .obj 3 1 (List.map (AV.int .i64) u21))]) (by kernel_rfl) ?_
      refine WO.fin [0, 1, 2, 3, 10, 2000000] [] [] [] (e2 := [(0, .sb 2000000 3 1 0 n2), (1, I6 a3), (2, I6 a4), (3, I6 a5), (10, I6 v9), (2000000, .obj 3 1 (List.map (AV.int .i64) u21))]) (by kernel_rfl) (fun _ h => h) ?_
      refine W.regT [0, 1, 2, 3, 10, 2000000] [] [] [] (e2 := [(0, .sb 2000000 3 1 0 n2), (1, I6 a3), (2, I6 a4), (3, I6 a5), (10, I6 (IntKind.wrap .i64 (v9 + 1))), (2000000, .obj 3 1 (List.map (AV.int .i64) u21))]) (by kernel_rfl) (by kernel_rfl) (fun _ h => h) ?_
      exact hN1 (u21, (IntKind.wrap .i64 (v9 + 1))) h
    replace h := cond_f hb h
    have hr : PostM Try.prog Try.f119 (.tup []) [(2000000, .obj 3 1 (List.map (AV.int .i64) v8))] .normal [(0, .sb 2000000 3 1 0 n2), (1, I6 a3), (2, I6 a4), (3, I6 a5), (10, I6 v9), (13, .bool (decide (v9 < a5))), (2000000, .obj 3 1 (List.map (AV.int .i64) v8))] := ⟨by kernel_rfl, by kernel_rfl⟩
    cases h
    exact W.exit hr
def sl_rotateCmpFunc_int_j9 (fuel : Nat) (n2 : Nat) (a4 : Int) (g6 : (Int → Int → Option Int)) (v20 : (List Int)) (v21 : Int) : Option (List Int) :=
  ((sl_swapRangeCmpFunc_int fuel v20 n2 (IntKind.wrap .i64 (a4 - v21)) a4 v21 g6).bind fun w22 => (some w22))
def sl_rotateCmpFunc_int_l1 (fuel : Nat) (n2 : Nat) (a4 : Int) (g6 : (Int → Int → Option Int)) (K9 : ((List Int) → Int → Option (List Int))) : Nat → (List Int) → Int → Int → Option (List Int)
  | 0, _, _, _ => none
  | m1 + 1, v10, v11, v12 => (bif (v11 != v12) then (bif (decide (v11 > v12)) then ((sl_swapRangeCmpFunc_int fuel v10 n2 (IntKind.wrap .i64 (a4 - v11)) a4 v12 g6).bind fun w17 => ((sl_rotateCmpFunc_int_l1 fuel n2 a4 g6 K9 m1) w17 (IntKind.wrap .i64 (v11 - v12)) v12)) else ((sl_swapRangeCmpFunc_int fuel v10 n2 (IntKind.wrap .i64 (a4 - v11)) (IntKind.wrap .i64 ((IntKind.wrap .i64 (a4 + v12)) - v11)) v11 g6).bind fun w19 => ((sl_rotateCmpFunc_int_l1 fuel n2 a4 g6 K9 m1) w19 v11 (IntKind.wrap .i64 (v12 - v11))))) else (K9 v10 v11))
def sl_rotateCmpFunc_int (fuel : Nat) (a1 : (List Int)) (n2 : Nat) (a3 : Int) (a4 : Int) (a5 : Int) (g6 : (Int → Int → Option Int)) : Option (List Int) :=
  (sl_rotateCmpFunc_int_l1 fuel n2 a4 g6 (sl_rotateCmpFunc_int_j9 fuel n2 a4 g6) fuel a1 (IntKind.wrap .i64 (a4 - a3)) (IntKind.wrap .i64 (a5 - a4)))
theorem run_sl_rotateCmpFunc_int (fuel : Nat) (a1 : (List Int)) (n2 : Nat) (a3 : Int) (a4 : Int) (a5 : Int) (g6 : (Int → Int → Option Int)) (F_g6 : Nat) (C_g6 : List AV) (hok_g6 : okFn Try.prog F_g6 = true) (hrun_g6 : ∀ (x0 : Int) (x1 : Int) r, g6 x0 x1 = some r → Run Try.prog (.call F_g6 ([I6 x0, I6 x1] ++ C_g6) (I6 r))) (r : (List Int)) (h : sl_rotateCmpFunc_int fuel a1 n2 a3 a4 a5 g6 = some r) : Run Try.prog (.callM 113 [.sb 2000000 3 1 0 n2, I6 a3, I6 a4, I6 a5, .clo F_g6 C_g6] [(2000000, .obj 3 1 (List.map (AV.int .i64) a1))] (.tup []) [(2000000, .obj 3 1 (List.map (AV.int .i64) r))]) := by
  refine callM_of_W Try.func113 rfl (by kernel_rfl) (env0 := [(0, .sb 2000000 3 1 0 n2), (1, I6 a3), (2, I6 a4), (3, I6 a5), (4, .clo F_g6 C_g6), (2000000, .obj 3 1 (List.map (AV.int .i64) a1))]) (by kernel_rfl) ?_
  unfold sl_rotateCmpFunc_int at h
  refine W.seq ?_
  refine W.regT [0, 2, 3, 4, 10, 2000000] [] [] [] (e2 := [(0, .sb 2000000 3 1 0 n2), (2, I6 a4), (3, I6 a5), (4, .clo F_g6 C_g6), (10, I6 (IntKind.wrap .i64 (a4 - a3))), (2000000, .obj 3 1 (List.map (AV.int .i64) a1))]) (by kernel_rfl) (by kernel_rfl) (fun _ h => h) ?_
  refine W.seq ?_
  refine W.regT [0, 2, 4, 10, 11, 2000000] [] [] [] (e2 := [(0, .sb 2000000 3 1 0 n2), (2, I6 a4), (4, .clo F_g6 C_g6), (10, I6 (IntKind.wrap .i64 (a4 - a3))), (11, I6 (IntKind.wrap .i64 (a5 - a4))), (2000000, .obj 3 1 (List.map (AV.int .i64) a1))]) (by kernel_rfl) (by kernel_rfl) (fun _ h => h) ?_
  refine W.seq ?_
  refine W.join (σ := ((List Int) × Int)) (fun s => [(0, .sb 2000000 3 1 0 n2), (2, I6 a4), (4, .clo F_g6 C_g6), (10, I6 s.2), (2000000, .obj 3 1 (List.map (AV.int .i64) s.1))]) (fun s => (sl_rotateCmpFunc_int_j9 fuel n2 a4 g6) s.1 s.2 = some r) (fun s h => ?_) (fun hK9 => ?_)
  · obtain ⟨v20, v21⟩ := s
    have h : (sl_rotateCmpFunc_int_j9 fuel n2 a4 g6) v20 v21 = some r := h
    unfold sl_rotateCmpFunc_int_j9 at h
    refine W.region (by kernel_rfl) ?_
    obtain ⟨w22, hw22, h⟩ := bind_some h
    refine WO.callMK 7 [(2000000, 2000000)] [] (F := 119) (args := [.sb 2000000 3 1 0 n2, I6 (IntKind.wrap .i64 (a4 - v21)), I6 a4, I6 v21, .clo F_g6 C_g6]) (hp := [(2000000, .obj 3 1 (List.map (AV.int .i64) v20))]) (hp2 := [(2000000, .obj 3 1 (List.map (AV.int .i64) w22))]) (r := .tup []) (by kernel_rfl) (run_sl_swapRangeCmpFunc_int fuel v20 n2 (IntKind.wrap .i64 (a4 - v21)) a4 v21 g6 F_g6 C_g6 hok_g6 hrun_g6 w22 hw22) (e1 := [(0, .sb 2000000 3 1 0 n2), (2, I6 a4), (4, .clo F_g6 C_g6), (10, I6 v21), (50, .sb 2000000 3 1 0 n2), (51, I6 a4), (52, I6 v21), (53, I6 (IntKind.wrap .i64 (a4 - v21))), (54, I6 a4), (55, I6 v21), (56, .clo F_g6 C_g6), (57, .tup []), (2000000, .obj 3 1 (List.map (AV.int .i64) w22))]) (by kernel_rfl) ?_
    refine WO.end0 (e2 := [(0, .sb 2000000 3 1 0 n2), (2, I6 a4), (4, .clo F_g6 C_g6), (10, I6 v21), (50, .sb 2000000 3 1 0 n2), (51, I6 a4), (52, I6 v21), (53, I6 (IntKind.wrap .i64 (a4 - v21))), (54, I6 a4), (55, I6 v21), (56, .clo F_g6 C_g6), (57, .tup []), (2000000, .obj 3 1 (List.map (AV.int .i64) w22))]) (by kernel_rfl) ?_
    have hr : PostM Try.prog Try.f113 (.tup []) [(2000000, .obj 3 1 (List.map (AV.int .i64) w22))] .normal [(0, .sb 2000000 3 1 0 n2), (2, I6 a4), (4, .clo F_g6 C_g6), (10, I6 v21), (50, .sb 2000000 3 1 0 n2), (51, I6 a4), (52, I6 v21), (53, I6 (IntKind.wrap .i64 (a4 - v21))), (54, I6 a4), (55, I6 v21), (56, .clo F_g6 C_g6), (57, .tup []), (2000000, .obj 3 1 (List.map (AV.int .i64) w22))] := ⟨by kernel_rfl, by kernel_rfl⟩
    cases h
    exact hr
  refine W.block ?_
  refine W.weak [0, 2, 4, 10, 11, 2000000] [] [] [] (env' := [(0, .sb 2000000 3 1 0 n2), (2, I6 a4), (4, .clo F_g6 C_g6), (10, I6 (IntKind.wrap .i64 (a4 - a3))), (11, I6 (IntKind.wrap .i64 (a5 - a4))), (2000000, .obj 3 1 (List.map (AV.int .i64) a1))]) (by kernel_rfl) ?_
  refine W.fuel (σ := ((List Int) × Int × Int)) (fun s => [(0, .sb 2000000 3 1 0 n2), (2, I6 a4), (4, .clo F_g6 C_g6), (10, I6 s.2.1), (11, I6 s.2.2), (2000000, .obj 3 1 (List.map (AV.int .i64) s.1))]) (fun m0 s => sl_rotateCmpFunc_int_l1 fuel n2 a4 g6 (sl_rotateCmpFunc_int_j9 fuel n2 a4 g6) m0 s.1 s.2.1 s.2.2 = some r) (fun s h => ?_) (fun m1 s h hN1 => ?_) fuel (a1, (IntKind.wrap .i64 (a4 - a3)), (IntKind.wrap .i64 (a5 - a4))) h
  · obtain ⟨v10, v11, v12⟩ := s
    have h : sl_rotateCmpFunc_int_l1 fuel n2 a4 g6 (sl_rotateCmpFunc_int_j9 fuel n2 a4 g6) 0 v10 v11 v12 = some r := h
    rw [sl_rotateCmpFunc_int_l1.eq_1] at h
    cases h
  · obtain ⟨v10, v11, v12⟩ := s
    have h : sl_rotateCmpFunc_int_l1 fuel n2 a4 g6 (sl_rotateCmpFunc_int_j9 fuel n2 a4 g6) (m1 + 1) v10 v11 v12 = some r := h
    rw [sl_rotateCmpFunc_int_l1.eq_2] at h
    refine W.seq ?_
    refine W.seq ?_
    refine W.regT [0, 2, 4, 10, 11, 20, 2000000] [] [] [] (e2 := [(0, .sb 2000000 3 1 0 n2), (2, I6 a4), (4, .clo F_g6 C_g6), (10, I6 v11), (11, I6 v12), (20, .bool (v11 != v12)), (2000000, .obj 3 1 (List.map (AV.int .i64) v10))]) (by kernel_rfl) (by kernel_rfl) (fun _ h => h) ?_
    refine W.condB (v11 != v12) (by kernel_rfl) (fun hb => ?_) (fun hb => ?_)
    · replace h := cond_t hb h
      refine W.skip ?_
      refine W.weak [0, 2, 4, 10, 11, 2000000] [] [] [] (env' := [(0, .sb 2000000 3 1 0 n2), (2, I6 a4), (4, .clo F_g6 C_g6), (10, I6 v11), (11, I6 v12), (2000000, .obj 3 1 (List.map (AV.int .i64) v10))]) (by kernel_rfl) ?_
      refine W.block ?_
      refine W.seq ?_
      refine W.regT [0, 2, 4, 10, 11, 23, 2000000] [] [] [] (e2 := [(0, .sb 2000000 3 1 0 n2), (2, I6 a4), (4, .clo F_g6 C_g6), (10, I6 v11), (11, I6 v12), (23, .bool (decide (v11 > v12))), (2000000, .obj 3 1 (List.map (AV.int .i64) v10))]) (by kernel_rfl) (by kernel_rfl) (fun _ h => h) ?_
      refine W.condB (decide (v11 > v12)) (by kernel_rfl) (fun hb => ?_) (fun hb => ?_)
      · replace h := cond_t hb h
        refine W.seq ?_
        refine W.region (by kernel_rfl) ?_
        obtain ⟨w17, hw17, h⟩ := bind_some h
        refine WO.callMK 7 [(2000000, 2000000)] [] (F := 119) (args := [.sb 2000000 3 1 0 n2, I6 (IntKind.wrap .i64 (a4 - v11)), I6 a4, I6 v12, .clo F_g6 C_g6]) (hp := [(2000000, .obj 3 1 (List.map (AV.int .i64) v10))]) (hp2 := [(2000000, .obj 3 1 (List.map (AV.int .i64) w17))]) (r := .tup []) (by kernel_rfl) (run_sl_swapRangeCmpFunc_int fuel v10 n2 (IntKind.wrap .i64 (a4 - v11)) a4 v12 g6 F_g6 C_g6 hok_g6 hrun_g6 w17 hw17) (e1 := [(0, .sb 2000000 3 1 0 n2), (2, I6 a4), (4, .clo F_g6 C_g6), (10, I6 v11), (11, I6 v12), (23, .bool (decide (v11 > v12))), (24, .sb 2000000 3 1 0 n2), (25, I6 a4), (26, I6 v11), (27, I6 (IntKind.wrap .i64 (a4 - v11))), (28, I6 a4), (29, I6 v12), (30, .clo F_g6 C_g6), (31, .tup []), (2000000, .obj 3 1 (List.map (AV.int .i64) w17))]) (by kernel_rfl) ?_
        refine WO.fin [0, 2, 4, 10, 11, 2000000] [] [] [] (e2 := [(0, .sb 2000000 3 1 0 n2), (2, I6 a4), (4, .clo F_g6 C_g6), (10, I6 v11), (11, I6 v12), (2000000, .obj 3 1 (List.map (AV.int .i64) w17))]) (by kernel_rfl) (fun _ h => h) ?_
        refine W.regT [0, 2, 4, 10, 11, 2000000] [] [] [] (e2 := [(0, .sb 2000000 3 1 0 n2), (2, I6 a4), (4, .clo F_g6 C_g6), (10, I6 (IntKind.wrap .i64 (v11 - v12))), (11, I6 v12), (2000000, .obj 3 1 (List.map (AV.int .i64) w17))]) (by kernel_rfl) (by kernel_rfl) (fun _ h => h) ?_
        exact hN1 (w17, (IntKind.wrap .i64 (v11 - v12)), v12) h
      replace h := cond_f hb h
      refine W.seq ?_
      refine W.region (by kernel_rfl) ?_
      obtain ⟨w19, hw19, h⟩ := bind_some h
      refine WO.callMK 11 [(2000000, 2000000)] [] (F := 119) (args := [.sb 2000000 3 1 0 n2, I6 (IntKind.wrap .i64 (a4 - v11)), I6 (IntKind.wrap .i64 ((IntKind.wrap .i64 (a4 + v12)) - v11)), I6 v11, .clo F_g6 C_g6]) (hp := [(2000000, .obj 3 1 (List.map (AV.int .i64) v10))]) (hp2 := [(2000000, .obj 3 1 (List.map (AV.int .i64) w19))]) (r := .tup []) (by kernel_rfl) (run_sl_swapRangeCmpFunc_int fuel v10 n2 (IntKind.wrap .i64 (a4 - v11)) (IntKind.wrap .i64 ((IntKind.wrap .i64 (a4 + v12)) - v11)) v11 g6 F_g6 C_g6 hok_g6 hrun_g6 w19 hw19) (e1 := [(0, .sb 2000000 3 1 0 n2), (2, I6 a4), (4, .clo F_g6 C_g6), (10, I6 v11), (11, I6 v12), (23, .bool (decide (v11 > v12))), (35, .sb 2000000 3 1 0 n2), (36, I6 a4), (37, I6 v11), (38, I6 (IntKind.wrap .i64 (a4 - v11))), (39, I6 a4), (40, I6 v12), (41, I6 (IntKind.wrap .i64 (a4 + v12))), (42, I6 v11), (43, I6 (IntKind.wrap .i64 ((IntKind.wrap .i64 (a4 + v12)) - v11))), (44, I6 v11), (45, .clo F_g6 C_g6), (46, .tup []), (2000000, .obj 3 1 (List.map (AV.int .i64) w19))]) (by kernel_rfl) ?_
      refine WO.fin [0, 2, 4, 10, 11, 2000000] [] [] [] (e2 := [(0, .sb 2000000 3 1 0 n2), (2, I6 a4), (4, .clo F_g6 C_g6), (10, I6 v11), (11, I6 v12), (2000000, .obj 3 1 (List.map (AV.int .i64) w19))]) (by kernel_rfl) (fun _ h => h) ?_
      refine W.regT [0, 2, 4, 10, 11, 2000000] [] [] [] (e2 := [(0, .sb 2000000 3 1 0 n2), (2, I6 a4), (4, .clo F_g6 C_g6), (10, I6 v11), (11, I6 (IntKind.wrap .i64 (v12 - v11))), (2000000, .obj 3 1 (List.map (AV.int .i64) w19))]) (by kernel_rfl) (by kernel_rfl) (fun _ h => h) ?_
      exact hN1 (w19, v11, (IntKind.wrap .i64 (v12 - v11))) h
    replace h := cond_f hb h
    refine W.exit ?_
    refine W.weak [0, 2, 4, 10, 2000000] [] [] [] (env' := [(0, .sb 2000000 3 1 0 n2), (2, I6 a4), (4, .clo F_g6 C_g6), (10, I6 v11), (2000000, .obj 3 1 (List.map (AV.int .i64) v10))]) (by kernel_rfl) ?_
    exact hK9 (v10, v11) h

end Go.AM
