/- PRINTED by gen.py: pure functions and the proofs that the code computes them. No statement of the seat is proved here. -/
import Derived.Test.YtombfedoinhafaaK183
set_option maxRecDepth 100000
set_option linter.unusedVariables false
set_option linter.unusedSimpArgs false
namespace Go.AM
open Go.Proofs
def sl_siftDownCmpFunc_dpDep_j13 (n2 : Nat) (a5 : Int) (g6 : (dpDep → dpDep → Option Int)) (v8 : (List dpDep)) (v9 : Int) (N1 : ((List dpDep) → Int → Option (List dpDep))) (v21 : Int) : Option (List dpDep) :=
  (chk (decide ((0 : Int) ≤ (IntKind.wrap .i64 (a5 + v9)) ∧ (IntKind.wrap .i64 (a5 + v9)) < ((n2 : Nat) : Int))) ((v8[(0 + Int.toNat (IntKind.wrap .i64 (a5 + v9)))]?).bind fun e25 => (chk (decide ((0 : Int) ≤ (IntKind.wrap .i64 (a5 + v21)) ∧ (IntKind.wrap .i64 (a5 + v21)) < ((n2 : Nat) : Int))) ((v8[(0 + Int.toNat (IntKind.wrap .i64 (a5 + v21)))]?).bind fun e27 => ((g6 e25 e27).bind fun w28 => (bif (!(decide (w28 < 0))) then (some v8) else (chk (decide ((0 : Int) ≤ (IntKind.wrap .i64 (a5 + v21)) ∧ (IntKind.wrap .i64 (a5 + v21)) < ((n2 : Nat) : Int))) ((v8[(0 + Int.toNat (IntKind.wrap .i64 (a5 + v21)))]?).bind fun e31 => (chk (decide ((0 : Int) ≤ (IntKind.wrap .i64 (a5 + v9)) ∧ (IntKind.wrap .i64 (a5 + v9)) < ((n2 : Nat) : Int))) ((v8[(0 + Int.toNat (IntKind.wrap .i64 (a5 + v9)))]?).bind fun e33 => (chk (decide ((0 : Int) ≤ (IntKind.wrap .i64 (a5 + v9)) ∧ (IntKind.wrap .i64 (a5 + v9)) < ((n2 : Nat) : Int))) ((upd v8 (0 + Int.toNat (IntKind.wrap .i64 (a5 + v9))) e31).bind fun u35 => (chk (decide ((0 : Int) ≤ (IntKind.wrap .i64 (a5 + v21)) ∧ (IntKind.wrap .i64 (a5 + v21)) < ((n2 : Nat) : Int))) ((upd u35 (0 + Int.toNat (IntKind.wrap .i64 (a5 + v21))) e33).bind fun u38 => (N1 u38 v21)))))))))))))))
def sl_siftDownCmpFunc_dpDep_j14 (v9 : Int) (K13 : (Int → Option (List dpDep))) (v20 : Bool) : Option (List dpDep) :=
  (bif v20 then (K13 (IntKind.wrap .i64 ((IntKind.wrap .i64 ((IntKind.wrap .i64 (2 * v9)) + 1)) + 1))) else (K13 (IntKind.wrap .i64 ((IntKind.wrap .i64 (2 * v9)) + 1))))
def sl_siftDownCmpFunc_dpDep_l1 (n2 : Nat) (a4 : Int) (a5 : Int) (g6 : (dpDep → dpDep → Option Int)) : Nat → (List dpDep) → Int → Option (List dpDep)
  | 0, _, _ => none
  | m1 + 1, v8, v9 => (bif (decide ((IntKind.wrap .i64 ((IntKind.wrap .i64 (2 * v9)) + 1)) ≥ a4)) then (some v8) else (bif (decide ((IntKind.wrap .i64 ((IntKind.wrap .i64 ((IntKind.wrap .i64 (2 * v9)) + 1)) + 1)) < a4)) then (chk (decide ((0 : Int) ≤ (IntKind.wrap .i64 (a5 + (IntKind.wrap .i64 ((IntKind.wrap .i64 (2 * v9)) + 1)))) ∧ (IntKind.wrap .i64 (a5 + (IntKind.wrap .i64 ((IntKind.wrap .i64 (2 * v9)) + 1)))) < ((n2 : Nat) : Int))) ((v8[(0 + Int.toNat (IntKind.wrap .i64 (a5 + (IntKind.wrap .i64 ((IntKind.wrap .i64 (2 * v9)) + 1)))))]?).bind fun e16 => (chk (decide ((0 : Int) ≤ (IntKind.wrap .i64 ((IntKind.wrap .i64 (a5 + (IntKind.wrap .i64 ((IntKind.wrap .i64 (2 * v9)) + 1)))) + 1)) ∧ (IntKind.wrap .i64 ((IntKind.wrap .i64 (a5 + (IntKind.wrap .i64 ((IntKind.wrap .i64 (2 * v9)) + 1)))) + 1)) < ((n2 : Nat) : Int))) ((v8[(0 + Int.toNat (IntKind.wrap .i64 ((IntKind.wrap .i64 (a5 + (IntKind.wrap .i64 ((IntKind.wrap .i64 (2 * v9)) + 1)))) + 1)))]?).bind fun e18 => ((g6 e16 e18).bind fun w19 => ((sl_siftDownCmpFunc_dpDep_j14 v9 (sl_siftDownCmpFunc_dpDep_j13 n2 a5 g6 v8 v9 (sl_siftDownCmpFunc_dpDep_l1 n2 a4 a5 g6 m1))) (decide (w19 < 0)))))))) else ((sl_siftDownCmpFunc_dpDep_j14 v9 (sl_siftDownCmpFunc_dpDep_j13 n2 a5 g6 v8 v9 (sl_siftDownCmpFunc_dpDep_l1 n2 a4 a5 g6 m1))) false)))
def sl_siftDownCmpFunc_dpDep (fuel : Nat) (a1 : (List dpDep)) (n2 : Nat) (a3 : Int) (a4 : Int) (a5 : Int) (g6 : (dpDep → dpDep → Option Int)) : Option (List dpDep) :=
  (sl_siftDownCmpFunc_dpDep_l1 n2 a4 a5 g6 fuel a1 a3)
theorem run_sl_siftDownCmpFunc_dpDep (fuel : Nat) (a1 : (List dpDep)) (n2 : Nat) (a3 : Int) (a4 : Int) (a5 : Int) (g6 : (dpDep → dpDep → Option Int)) (F_g6 : Nat) (C_g6 : List AV) (hok_g6 : okFn Try.prog F_g6 = true) (hrun_g6 : ∀ (x0 : dpDep) (x1 : dpDep) r, g6 x0 x1 = some r → Run Try.prog (.call F_g6 ([.agg [I6 x0.f_From, I6 x0.f_To], .agg [I6 x1.f_From, I6 x1.f_To]] ++ C_g6) (I6 r))) (r : (List dpDep)) (h : sl_siftDownCmpFunc_dpDep fuel a1 n2 a3 a4 a5 g6 = some r) : Run Try.prog (.callM 114 [S2 n2, I6 a3, I6 a4, I6 a5, .clo F_g6 C_g6] [O2 a1] (.tup []) [O2 r]) := by
  refine callM_of_W Try.func114 rfl (by kernel_rfl) (env0 := [(0, S2 n2), (1, I6 a3), (2, I6 a4), (3, I6 a5), (4, .clo F_g6 C_g6), O2 a1]) (by kernel_rfl) ?_
  unfold sl_siftDownCmpFunc_dpDep at h
  refine W.seq ?_
  refine W.regT [0, 2, 3, 4, 10, 2000000] [] [] [] (e2 := [(0, S2 n2), (2, I6 a4), (3, I6 a5), (4, .clo F_g6 C_g6), (10, I6 a3), O2 a1]) (by kernel_rfl) (by kernel_rfl) (fun _ h => h) ?_
  refine W.block ?_
  refine W.weak [0, 2, 3, 4, 10, 2000000] [] [] [] (env' := [(0, S2 n2), (2, I6 a4), (3, I6 a5), (4, .clo F_g6 C_g6), (10, I6 a3), O2 a1]) (by kernel_rfl) ?_
  refine W.fuel (σ := ((List dpDep) × Int)) (fun s => [(0, S2 n2), (2, I6 a4), (3, I6 a5), (4, .clo F_g6 C_g6), (10, I6 s.2), (2000000, .obj 33 2 (List.map e_dpDep s.1))]) (fun m0 s => sl_siftDownCmpFunc_dpDep_l1 n2 a4 a5 g6 m0 s.1 s.2 = some r) (fun s h => ?_) (fun m1 s h hN1 => ?_) fuel (a1, a3) h
  · obtain ⟨v8, v9⟩ := s
    have h : sl_siftDownCmpFunc_dpDep_l1 n2 a4 a5 g6 0 v8 v9 = some r := h
    rw [sl_siftDownCmpFunc_dpDep_l1.eq_1] at h
    cases h
  · obtain ⟨v8, v9⟩ := s
    have h : sl_siftDownCmpFunc_dpDep_l1 n2 a4 a5 g6 (m1 + 1) v8 v9 = some r := h
    rw [sl_siftDownCmpFunc_dpDep_l1.eq_2] at h
    refine W.block ?_
    refine W.seq ?_
    refine W.regT [0, 2, 3, 4, 10, 11, 2000000] [] [] [] (e2 := [(0, S2 n2), (2, I6 a4), (3, I6 a5), (4, .clo F_g6 C_g6), (10, I6 v9), (11, I6 (W6 ((W6 (2 * v9)) + 1))), O2 v8]) (by kernel_rfl) (by kernel_rfl) (fun _ h => h) ?_
    refine W.seq ?_
    refine W.seq ?_
    refine W.regT [0, 2, 3, 4, 10, 11, 18, 2000000] [] [] [] (e2 := [(0, S2 n2), (2, I6 a4), (3, I6 a5), (4, .clo F_g6 C_g6), (10, I6 v9), (11, I6 (W6 ((W6 (2 * v9)) + 1))), (18, .bool (decide ((W6 ((W6 (2 * v9)) + 1)) ≥ a4))), O2 v8]) (by kernel_rfl) (by kernel_rfl) (fun _ h => h) ?_
    refine W.condB (decide ((W6 ((W6 (2 * v9)) + 1)) ≥ a4)) (by kernel_rfl) (fun hb => ?_) (fun hb => ?_)
    · replace h := cond_t hb h
      have hr : PostM Try.prog Try.f114 (.tup []) [O2 v8] .normal [(0, S2 n2), (2, I6 a4), (3, I6 a5), (4, .clo F_g6 C_g6), (10, I6 v9), (11, I6 (W6 ((W6 (2 * v9)) + 1))), (18, .bool (decide ((W6 ((W6 (2 * v9)) + 1)) ≥ a4))), O2 v8] := ⟨by kernel_rfl, by kernel_rfl⟩
      cases h
      exact W.exit hr
    replace h := cond_f hb h
    refine W.skip ?_
    refine W.weak [0, 2, 3, 4, 10, 11, 2000000] [] [] [] (env' := [(0, S2 n2), (2, I6 a4), (3, I6 a5), (4, .clo F_g6 C_g6), (10, I6 v9), (11, I6 (W6 ((W6 (2 * v9)) + 1))), O2 v8]) (by kernel_rfl) ?_
    refine W.seq ?_
    refine W.join (σ := (Int)) (fun s => [(0, S2 n2), (2, I6 a4), (3, I6 a5), (4, .clo F_g6 C_g6), (10, I6 v9), (11, I6 s), O2 v8]) (fun s => (sl_siftDownCmpFunc_dpDep_j13 n2 a5 g6 v8 v9 (sl_siftDownCmpFunc_dpDep_l1 n2 a4 a5 g6 m1)) s = some r) (fun s h => ?_) (fun hK13 => ?_)
    · obtain ⟨v21, rfl⟩ : ∃ x, x = s := ⟨s, rfl⟩
      have h : (sl_siftDownCmpFunc_dpDep_j13 n2 a5 g6 v8 v9 (sl_siftDownCmpFunc_dpDep_l1 n2 a4 a5 g6 m1)) v21 = some r := h
      unfold sl_siftDownCmpFunc_dpDep_j13 at h
      refine W.seq ?_
      refine W.seq ?_
      refine W.region (by kernel_rfl) ?_
      obtain ⟨hc24, h⟩ := chk_some h
      refine WO.pureK 5 (if (0 : Int) ≤ (W6 (a5 + v9)) ∧ (W6 (a5 + v9)) < ((n2 : Nat) : Int) then some (.pe 2000000 2 (0 + Int.toNat (W6 (a5 + v9))) 0) else none) (v := .pe 2000000 2 (0 + Int.toNat (W6 (a5 + v9))) 0) (by kernel_rfl) (ite_some hc24) (e1 := [(0, S2 n2), (2, I6 a4), (3, I6 a5), (4, .clo F_g6 C_g6), (10, I6 v9), (11, I6 v21), (43, .clo F_g6 C_g6), (44, S2 n2), (45, I6 a5), (46, I6 v9), (47, I6 (W6 (a5 + v9))), (48, .pe 2000000 2 (0 + Int.toNat (W6 (a5 + v9))) 0), O2 v8]) (by kernel_rfl) ?_
      obtain ⟨e25, he25, h⟩ := bind_some h
      refine WO.pureK 0 (match (List.map e_dpDep v8)[(0 + Int.toNat (W6 (a5 + v9)))]? with | some y => cut Try.prog 33 (y.cells.map AV.strip) 0 | none => none) (v := .agg [I6 e25.f_From, I6 e25.f_To]) (by kernel_rfl) ((pe_ld (f := e_dpDep) (G := (fun y => cut Try.prog 33 (y.cells.map AV.strip) 0)) he25).trans (by kernel_rfl)) (e1 := [(0, S2 n2), (2, I6 a4), (3, I6 a5), (4, .clo F_g6 C_g6), (10, I6 v9), (11, I6 v21), (43, .clo F_g6 C_g6), (44, S2 n2), (45, I6 a5), (46, I6 v9), (47, I6 (W6 (a5 + v9))), (48, .pe 2000000 2 (0 + Int.toNat (W6 (a5 + v9))) 0), (49, .agg [I6 e25.f_From, I6 e25.f_To]), O2 v8]) (by kernel_rfl) ?_
      obtain ⟨hc26, h⟩ := chk_some h
      refine WO.pureK 4 (if (0 : Int) ≤ (W6 (a5 + v21)) ∧ (W6 (a5 + v21)) < ((n2 : Nat) : Int) then some (.pe 2000000 2 (0 + Int.toNat (W6 (a5 + v21))) 0) else none) (v := .pe 2000000 2 (0 + Int.toNat (W6 (a5 + v21))) 0) (by kernel_rfl) (ite_some hc26) (e1 := [(0, S2 n2), (2, I6 a4), (3, I6 a5), (4, .clo F_g6 C_g6), (10, I6 v9), (11, I6 v21), (43, .clo F_g6 C_g6), (44, S2 n2), (45, I6 a5), (46, I6 v9), (47, I6 (W6 (a5 + v9))), (48, .pe 2000000 2 (0 + Int.toNat (W6 (a5 + v9))) 0), (49, .agg [I6 e25.f_From, I6 e25.f_To]), (50, S2 n2), (51, I6 a5), (52, I6 v21), (53, I6 (W6 (a5 + v21))), (54, .pe 2000000 2 (0 + Int.toNat (W6 (a5 + v21))) 0), O2 v8]) (by kernel_rfl) ?_
      obtain ⟨e27, he27, h⟩ := bind_some h
      refine WO.pureK 0 (match (List.map e_dpDep v8)[(0 + Int.toNat (W6 (a5 + v21)))]? with | some y => cut Try.prog 33 (y.cells.map AV.strip) 0 | none => none) (v := .agg [I6 e27.f_From, I6 e27.f_To]) (by kernel_rfl) ((pe_ld (f := e_dpDep) (G := (fun y => cut Try.prog 33 (y.cells.map AV.strip) 0)) he27).trans (by kernel_rfl)) (e1 := [(0, S2 n2), (2, I6 a4), (3, I6 a5), (4, .clo F_g6 C_g6), (10, I6 v9), (11, I6 v21), (43, .clo F_g6 C_g6), (44, S2 n2), (45, I6 a5), (46, I6 v9), (47, I6 (W6 (a5 + v9))), (48, .pe 2000000 2 (0 + Int.toNat (W6 (a5 + v9))) 0), (49, .agg [I6 e25.f_From, I6 e25.f_To]), (50, S2 n2), (51, I6 a5), (52, I6 v21), (53, I6 (W6 (a5 + v21))), (54, .pe 2000000 2 (0 + Int.toNat (W6 (a5 + v21))) 0), (55, .agg [I6 e27.f_From, I6 e27.f_To]), O2 v8]) (by kernel_rfl) ?_
      obtain ⟨w28, hw28, h⟩ := bind_some h
      refine WO.callK 0 (F := F_g6) (l := [.agg [I6 e25.f_From, I6 e25.f_To], .agg [I6 e27.f_From, I6 e27.f_To]]) (C := C_g6) (r := I6 w28) (by kernel_rfl) hok_g6 (hrun_g6 e25 e27 w28 hw28) (e1 := [(0, S2 n2), (2, I6 a4), (3, I6 a5), (4, .clo F_g6 C_g6), (10, I6 v9), (11, I6 v21), (43, .clo F_g6 C_g6), (44, S2 n2), (45, I6 a5), (46, I6 v9), (47, I6 (W6 (a5 + v9))), (48, .pe 2000000 2 (0 + Int.toNat (W6 (a5 + v9))) 0), (49, .agg [I6 e25.f_From, I6 e25.f_To]), (50, S2 n2), (51, I6 a5), (52, I6 v21), (53, I6 (W6 (a5 + v21))), (54, .pe 2000000 2 (0 + Int.toNat (W6 (a5 + v21))) 0), (55, .agg [I6 e27.f_From, I6 e27.f_To]), (56, I6 w28), O2 v8]) (by kernel_rfl) ?_
      refine WO.fin [0, 2, 3, 4, 10, 11, 58, 2000000] [] [] [] (e2 := [(0, S2 n2), (2, I6 a4), (3, I6 a5), (4, .clo F_g6 C_g6), (10, I6 v9), (11, I6 v21), (58, .bool (!(decide (w28 < 0)))), O2 v8]) (by kernel_rfl) (fun _ h => h) ?_
      refine W.condB (!(decide (w28 < 0))) (by kernel_rfl) (fun hb => ?_) (fun hb => ?_)
      · replace h := cond_t hb h
        refine W.weak [2000000] [] [] [] (env' := [O2 v8]) (by kernel_rfl) ?_
        have hr : PostM Try.prog Try.f114 (.tup []) [O2 v8] .ret [O2 v8] := ⟨by kernel_rfl, by kernel_rfl⟩
        cases h
        exact W.ret hr
      replace h := cond_f hb h
      refine W.skip ?_
      refine W.weak [0, 2, 3, 4, 10, 11, 2000000] [] [] [] (env' := [(0, S2 n2), (2, I6 a4), (3, I6 a5), (4, .clo F_g6 C_g6), (10, I6 v9), (11, I6 v21), O2 v8]) (by kernel_rfl) ?_
      refine W.seq ?_
      refine W.region (by kernel_rfl) ?_
      obtain ⟨hc30, h⟩ := chk_some h
      refine WO.pureK 12 (if (0 : Int) ≤ (W6 (a5 + v21)) ∧ (W6 (a5 + v21)) < ((n2 : Nat) : Int) then some (.pe 2000000 2 (0 + Int.toNat (W6 (a5 + v21))) 0) else none) (v := .pe 2000000 2 (0 + Int.toNat (W6 (a5 + v21))) 0) (by kernel_rfl) (ite_some hc30) (e1 := [(0, S2 n2), (2, I6 a4), (3, I6 a5), (4, .clo F_g6 C_g6), (10, I6 v9), (11, I6 v21), (59, S2 n2), (60, I6 a5), (61, I6 v9), (62, I6 (W6 (a5 + v9))), (63, S2 n2), (64, I6 a5), (65, I6 v21), (66, I6 (W6 (a5 + v21))), (67, S2 n2), (68, I6 a5), (69, I6 v21), (70, I6 (W6 (a5 + v21))), (71, .pe 2000000 2 (0 + Int.toNat (W6 (a5 + v21))) 0), O2 v8]) (by kernel_rfl) ?_
      obtain ⟨e31, he31, h⟩ := bind_some h
      refine WO.pureK 0 (match (List.map e_dpDep v8)[(0 + Int.toNat (W6 (a5 + v21)))]? with | some y => cut Try.prog 33 (y.cells.map AV.strip) 0 | none => none) (v := .agg [I6 e31.f_From, I6 e31.f_To]) (by kernel_rfl) ((pe_ld (f := e_dpDep) (G := (fun y => cut Try.prog 33 (y.cells.map AV.strip) 0)) he31).trans (by kernel_rfl)) (e1 := [(0, S2 n2), (2, I6 a4), (3, I6 a5), (4, .clo F_g6 C_g6), (10, I6 v9), (11, I6 v21), (59, S2 n2), (60, I6 a5), (61, I6 v9), (62, I6 (W6 (a5 + v9))), (63, S2 n2), (64, I6 a5), (65, I6 v21), (66, I6 (W6 (a5 + v21))), (67, S2 n2), (68, I6 a5), (69, I6 v21), (70, I6 (W6 (a5 + v21))), (71, .pe 2000000 2 (0 + Int.toNat (W6 (a5 + v21))) 0), (72, .agg [I6 e31.f_From, I6 e31.f_To]), O2 v8]) (by kernel_rfl) ?_
      obtain ⟨hc32, h⟩ := chk_some h
      refine WO.pureK 4 (if (0 : Int) ≤ (W6 (a5 + v9)) ∧ (W6 (a5 + v9)) < ((n2 : Nat) : Int) then some (.pe 2000000 2 (0 + Int.toNat (W6 (a5 + v9))) 0) else none) (v := .pe 2000000 2 (0 + Int.toNat (W6 (a5 + v9))) 0) (by kernel_rfl) (ite_some hc32) (e1 := [(0, S2 n2), (2, I6 a4), (3, I6 a5), (4, .clo F_g6 C_g6), (10, I6 v9), (11, I6 v21), (59, S2 n2), (60, I6 a5), (61, I6 v9), (62, I6 (W6 (a5 + v9))), (63, S2 n2), (64, I6 a5), (65, I6 v21), (66, I6 (W6 (a5 + v21))), (67, S2 n2), (68, I6 a5), (69, I6 v21), (70, I6 (W6 (a5 + v21))), (71, .pe 2000000 2 (0 + Int.toNat (W6 (a5 + v21))) 0), (72, .agg [I6 e31.f_From, I6 e31.f_To]), (73, S2 n2), (74, I6 a5), (75, I6 v9), (76, I6 (W6 (a5 + v9))), (77, .pe 2000000 2 (0 + Int.toNat (W6 (a5 + v9))) 0), O2 v8]) (by kernel_rfl) ?_
      obtain ⟨e33, he33, h⟩ := bind_some h
      refine WO.pureK 0 (match (List.map e_dpDep v8)[(0 + Int.toNat (W6 (a5 + v9)))]? with | some y => cut Try.prog 33 (y.cells.map AV.strip) 0 | none => none) (v := .agg [I6 e33.f_From, I6 e33.f_To]) (by kernel_rfl) ((pe_ld (f := e_dpDep) (G := (fun y => cut Try.prog 33 (y.cells.map AV.strip) 0)) he33).trans (by kernel_rfl)) (e1 := [(0, S2 n2), (2, I6 a4), (3, I6 a5), (4, .clo F_g6 C_g6), (10, I6 v9), (11, I6 v21), (59, S2 n2), (60, I6 a5), (61, I6 v9), (62, I6 (W6 (a5 + v9))), (63, S2 n2), (64, I6 a5), (65, I6 v21), (66, I6 (W6 (a5 + v21))), (67, S2 n2), (68, I6 a5), (69, I6 v21), (70, I6 (W6 (a5 + v21))), (71, .pe 2000000 2 (0 + Int.toNat (W6 (a5 + v21))) 0), (72, .agg [I6 e31.f_From, I6 e31.f_To]), (73, S2 n2), (74, I6 a5), (75, I6 v9), (76, I6 (W6 (a5 + v9))), (77, .pe 2000000 2 (0 + Int.toNat (W6 (a5 + v9))) 0), (78, .agg [I6 e33.f_From, I6 e33.f_To]), O2 v8]) (by kernel_rfl) ?_
      obtain ⟨hc34, h⟩ := chk_some h
      refine WO.pureK 0 (if (0 : Int) ≤ (W6 (a5 + v9)) ∧ (W6 (a5 + v9)) < ((n2 : Nat) : Int) then some (.pe 2000000 2 (0 + Int.toNat (W6 (a5 + v9))) 0) else none) (v := .pe 2000000 2 (0 + Int.toNat (W6 (a5 + v9))) 0) (by kernel_rfl) (ite_some hc34) (e1 := [(0, S2 n2), (2, I6 a4), (3, I6 a5), (4, .clo F_g6 C_g6), (10, I6 v9), (11, I6 v21), (59, S2 n2), (60, I6 a5), (61, I6 v9), (62, I6 (W6 (a5 + v9))), (63, S2 n2), (64, I6 a5), (65, I6 v21), (66, I6 (W6 (a5 + v21))), (67, S2 n2), (68, I6 a5), (69, I6 v21), (70, I6 (W6 (a5 + v21))), (71, .pe 2000000 2 (0 + Int.toNat (W6 (a5 + v21))) 0), (72, .agg [I6 e31.f_From, I6 e31.f_To]), (73, S2 n2), (74, I6 a5), (75, I6 v9), (76, I6 (W6 (a5 + v9))), (77, .pe 2000000 2 (0 + Int.toNat (W6 (a5 + v9))) 0), (78, .agg [I6 e33.f_From, I6 e33.f_To]), (79, .pe 2000000 2 (0 + Int.toNat (W6 (a5 + v9))) 0), O2 v8]) (by kernel_rfl) ?_
      obtain ⟨u35, hu35, h⟩ := bind_some h
      obtain ⟨y36, hyy36, hzy36⟩ := upd_some hu35
      refine WO.storeK 0 (id := 2000000) (e := 33) (s := 2) (j := (0 + Int.toNat (W6 (a5 + v9)))) (off := 0) (vs := [I6 e31.f_From, I6 e31.f_To]) (xs := (List.map e_dpDep v8)) (zs := (List.map e_dpDep u35)) (y := (e_dpDep) y36) (y' := (e_dpDep) e31) (by kernel_rfl) (upd_get hyy36) (by kernel_rfl) (upd_set hzy36) (e1 := [(0, S2 n2), (2, I6 a4), (3, I6 a5), (4, .clo F_g6 C_g6), (10, I6 v9), (11, I6 v21), (59, S2 n2), (60, I6 a5), (61, I6 v9), (62, I6 (W6 (a5 + v9))), (63, S2 n2), (64, I6 a5), (65, I6 v21), (66, I6 (W6 (a5 + v21))), (67, S2 n2), (68, I6 a5), (69, I6 v21), (70, I6 (W6 (a5 + v21))), (71, .pe 2000000 2 (0 + Int.toNat (W6 (a5 + v21))) 0), (72, .agg [I6 e31.f_From, I6 e31.f_To]), (73, S2 n2), (74, I6 a5), (75, I6 v9), (76, I6 (W6 (a5 + v9))), (77, .pe 2000000 2 (0 + Int.toNat (W6 (a5 + v9))) 0), (78, .agg [I6 e33.f_From, I6 e33.f_To]), (79, .pe 2000000 2 (0 + Int.toNat (W6 (a5 + v9))) 0), O2 u35]) (by kernel_rfl) ?_
      obtain ⟨hc37, h⟩ := chk_some h
      refine WO.pureK 0 (if (0 : Int) ≤ (W6 (a5 + v21)) ∧ (W6 (a5 + v21)) < ((n2 : Nat) : Int) then some (.pe 2000000 2 (0 + Int.toNat (W6 (a5 + v21))) 0) else none) (v := .pe 2000000 2 (0 + Int.toNat (W6 (a5 + v21))) 0) (by kernel_rfl) (ite_some hc37) (e1 := [(0, S2 n2), (2, I6 a4), (3, I6 a5), (4, .clo F_g6 C_g6), (10, I6 v9), (11, I6 v21), (59, S2 n2), (60, I6 a5), (61, I6 v9), (62, I6 (W6 (a5 + v9))), (63, S2 n2), (64, I6 a5), (65, I6 v21), (66, I6 (W6 (a5 + v21))), (67, S2 n2), (68, I6 a5), (69, I6 v21), (70, I6 (W6 (a5 + v21))), (71, .pe 2000000 2 (0 + Int.toNat (W6 (a5 + v21))) 0), (72, .agg [I6 e31.f_From, I6 e31.f_To]), (73, S2 n2), (74, I6 a5), (75, I6 v9), (76, I6 (W6 (a5 + v9))), (77, .pe 2000000 2 (0 + Int.toNat (W6 (a5 + v9))) 0), (78, .agg [I6 e33.f_From, I6 e33.f_To]), (79, .pe 2000000 2 (0 + Int.toNat (W6 (a5 + v9))) 0), (80, .pe 2000000 2 (0 + Int.toNat (W6 (a5 + v21))) 0), O2 u35]) (by kernel_rfl) ?_
      obtain ⟨u38, hu38, h⟩ := bind_some h
      obtain ⟨y39, hyy39, hzy39⟩ := upd_some hu38
      refine WO.storeK 0 (id := 2000000) (e := 33) (s := 2) (j := (0 + Int.toNat (W6 (a5 + v21)))) (off := 0) (vs := [I6 e33.f_From, I6 e33.f_To]) (xs := (List.map e_dpDep u35)) (zs := (List.map e_dpDep u38)) (y := (e_dpDep) y39) (y' := (e_dpDep) e33) (by kernel_rfl) (upd_get hyy39) (by kernel_rfl) (upd_set hzy39) (e1 := [(0, S2 n2), (2, I6 a4), (3, I6 a5), (4, .clo F_g6 C_g6), (10, I6 v9), (11, I6 v21), (59, S2 n2), (60, I6 a5), (61, I6 v9), (62, I6 (W6 (a5 + v9))), (63, S2 n2), (64, I6 a5), (65, I6 v21), (66, I6 (W6 (a5 + v21))), (67, S2 n2), (68, I6 a5), (69, I6 v21), (70, I6 (W6 (a5 + v21))), (71, .pe 2000000 2 (0 + Int.toNat (W6 (a5 + v21))) 0), (72, .agg [I6 e31.f_From, I6 e31.f_To]), (73, S2 n2), (74, I6 a5), (75, I6 v9), (76, I6 (W6 (a5 + v9))), (77, .pe 2000000 2 (0 + Int.toNat (W6 (a5 + v9))) 0), (78, .agg [I6 e33.f_From, I6 e33.f_To]), (79, .pe 2000000 2 (0 + Int.toNat (W6 (a5 + v9))) 0), (80, .pe 2000000 2 (0 + Int.toNat (W6 (a5 + v21))) 0), O2 u38]) (by kernel_rfl) ?_
      refine WO.fin [0, 2, 3, 4, 11, 2000000] [] [] [] (e2 := [(0, S2 n2), (2, I6 a4), (3, I6 a5), (4, .clo F_g6 C_g6), (11, I6 v21), O2 u38]) (by kernel_rfl) (fun _ h => h) ?_
      refine W.regT [0, 2, 3, 4, 10, 2000000] [] [] [] (e2 := [(0, S2 n2), (2, I6 a4), (3, I6 a5), (4, .clo F_g6 C_g6), (10, I6 v21), O2 u38]) (by kernel_rfl) (by kernel_rfl) (fun _ h => h) ?_
      exact hN1 (u38, v21) h
    refine W.seq ?_
    refine W.join (σ := (Bool)) (fun s => [(0, S2 n2), (2, I6 a4), (3, I6 a5), (4, .clo F_g6 C_g6), (10, I6 v9), (11, I6 (W6 ((W6 (2 * v9)) + 1))), (40, .bool s), O2 v8]) (fun s => (sl_siftDownCmpFunc_dpDep_j14 v9 (sl_siftDownCmpFunc_dpDep_j13 n2 a5 g6 v8 v9 (sl_siftDownCmpFunc_dpDep_l1 n2 a4 a5 g6 m1))) s = some r) (fun s h => ?_) (fun hK14 => ?_)
    · obtain ⟨v20, rfl⟩ : ∃ x, x = s := ⟨s, rfl⟩
      have h : (sl_siftDownCmpFunc_dpDep_j14 v9 (sl_siftDownCmpFunc_dpDep_j13 n2 a5 g6 v8 v9 (sl_siftDownCmpFunc_dpDep_l1 n2 a4 a5 g6 m1))) v20 = some r := h
      unfold sl_siftDownCmpFunc_dpDep_j14 at h
      refine W.condB v20 (by kernel_rfl) (fun hb => ?_) (fun hb => ?_)
      · replace h := cond_t hb h
        refine W.regT [0, 2, 3, 4, 10, 11, 2000000] [] [] [] (e2 := [(0, S2 n2), (2, I6 a4), (3, I6 a5), (4, .clo F_g6 C_g6), (10, I6 v9), (11, I6 (W6 ((W6 ((W6 (2 * v9)) + 1)) + 1))), O2 v8]) (by kernel_rfl) (by kernel_rfl) (fun _ h => h) ?_
        exact hK13 (W6 ((W6 ((W6 (2 * v9)) + 1)) + 1)) h
      replace h := cond_f hb h
      refine W.skip ?_
      refine W.weak [0, 2, 3, 4, 10, 11, 2000000] [] [] [] (env' := [(0, S2 n2), (2, I6 a4), (3, I6 a5), (4, .clo F_g6 C_g6), (10, I6 v9), (11, I6 (W6 ((W6 (2 * v9)) + 1))), O2 v8]) (by kernel_rfl) ?_
      exact hK13 (W6 ((W6 (2 * v9)) + 1)) h
    refine W.region (by kernel_rfl) ?_
    refine WO.boolK 5 (fun b => [(0, S2 n2), (2, I6 a4), (3, I6 a5), (4, .clo F_g6 C_g6), (10, I6 v9), (11, I6 (W6 ((W6 (2 * v9)) + 1))), (19, I6 (W6 ((W6 (2 * v9)) + 1))), (20, I6 (W6 ((W6 ((W6 (2 * v9)) + 1)) + 1))), (21, I6 a4), (22, .bool b), (23, .bool b), O2 v8]) (decide ((W6 ((W6 ((W6 (2 * v9)) + 1)) + 1)) < a4)) (by kernel_rfl) (fun hb => ?_) (fun hb => ?_)
    · replace h := cond_t hb h
      obtain ⟨hc15, h⟩ := chk_some h
      refine WO.pureK 5 (if (0 : Int) ≤ (W6 (a5 + (W6 ((W6 (2 * v9)) + 1)))) ∧ (W6 (a5 + (W6 ((W6 (2 * v9)) + 1)))) < ((n2 : Nat) : Int) then some (.pe 2000000 2 (0 + Int.toNat (W6 (a5 + (W6 ((W6 (2 * v9)) + 1))))) 0) else none) (v := .pe 2000000 2 (0 + Int.toNat (W6 (a5 + (W6 ((W6 (2 * v9)) + 1))))) 0) (by kernel_rfl) (ite_some hc15) (e1 := [(0, S2 n2), (2, I6 a4), (3, I6 a5), (4, .clo F_g6 C_g6), (10, I6 v9), (11, I6 (W6 ((W6 (2 * v9)) + 1))), (19, I6 (W6 ((W6 (2 * v9)) + 1))), (20, I6 (W6 ((W6 ((W6 (2 * v9)) + 1)) + 1))), (21, I6 a4), (22, .bool true), (23, .bool true), (24, .clo F_g6 C_g6), (25, S2 n2), (26, I6 a5), (27, I6 (W6 ((W6 (2 * v9)) + 1))), (28, I6 (W6 (a5 + (W6 ((W6 (2 * v9)) + 1))))), (29, .pe 2000000 2 (0 + Int.toNat (W6 (a5 + (W6 ((W6 (2 * v9)) + 1))))) 0), O2 v8]) (by kernel_rfl) ?_
      obtain ⟨e16, he16, h⟩ := bind_some h
      refine WO.pureK 0 (match (List.map e_dpDep v8)[(0 + Int.toNat (W6 (a5 + (W6 ((W6 (2 * v9)) + 1)))))]? with | some y => cut Try.prog 33 (y.cells.map AV.strip) 0 | none => none) (v := .agg [I6 e16.f_From, I6 e16.f_To]) (by kernel_rfl) ((pe_ld (f := e_dpDep) (G := (fun y => cut Try.prog 33 (y.cells.map AV.strip) 0)) he16).trans (by kernel_rfl)) (e1 := [(0, S2 n2), (2, I6 a4), (3, I6 a5), (4, .clo F_g6 C_g6), (10, I6 v9), (11, I6 (W6 ((W6 (2 * v9)) + 1))), (19, I6 (W6 ((W6 (2 * v9)) + 1))), (20, I6 (W6 ((W6 ((W6 (2 * v9)) + 1)) + 1))), (21, I6 a4), (22, .bool true), (23, .bool true), (24, .clo F_g6 C_g6), (25, S2 n2), (26, I6 a5), (27, I6 (W6 ((W6 (2 * v9)) + 1))), (28, I6 (W6 (a5 + (W6 ((W6 (2 * v9)) + 1))))), (29, .pe 2000000 2 (0 + Int.toNat (W6 (a5 + (W6 ((W6 (2 * v9)) + 1))))) 0), (30, .agg [I6 e16.f_From, I6 e16.f_To]), O2 v8]) (by kernel_rfl) ?_
      obtain ⟨hc17, h⟩ := chk_some h
      refine WO.pureK 5 (if (0 : Int) ≤ (W6 ((W6 (a5 + (W6 ((W6 (2 * v9)) + 1)))) + 1)) ∧ (W6 ((W6 (a5 + (W6 ((W6 (2 * v9)) + 1)))) + 1)) < ((n2 : Nat) : Int) then some (.pe 2000000 2 (0 + Int.toNat (W6 ((W6 (a5 + (W6 ((W6 (2 * v9)) + 1)))) + 1))) 0) else none) (v := .pe 2000000 2 (0 + Int.toNat (W6 ((W6 (a5 + (W6 ((W6 (2 * v9)) + 1)))) + 1))) 0) (by kernel_rfl) (ite_some hc17) (e1 := [(0, S2 n2), (2, I6 a4), (3, I6 a5), (4, .clo F_g6 C_g6), (10, I6 v9), (11, I6 (W6 ((W6 (2 * v9)) + 1))), (19, I6 (W6 ((W6 (2 * v9)) + 1))), (20, I6 (W6 ((W6 ((W6 (2 * v9)) + 1)) + 1))), (21, I6 a4), (22, .bool true), (23, .bool true), (24, .clo F_g6 C_g6), (25, S2 n2), (26, I6 a5), (27, I6 (W6 ((W6 (2 * v9)) + 1))), (28, I6 (W6 (a5 + (W6 ((W6 (2 * v9)) + 1))))), (29, .pe 2000000 2 (0 + Int.toNat (W6 (a5 + (W6 ((W6 (2 * v9)) + 1))))) 0), (30, .agg [I6 e16.f_From, I6 e16.f_To]), (31, S2 n2), (32, I6 a5), (33, I6 (W6 ((W6 (2 * v9)) + 1))), (34, I6 (W6 (a5 + (W6 ((W6 (2 * v9)) + 1))))), (35, I6 (W6 ((W6 (a5 + (W6 ((W6 (2 * v9)) + 1)))) + 1))), (36, .pe 2000000 2 (0 + Int.toNat (W6 ((W6 (a5 + (W6 ((W6 (2 * v9)) + 1)))) + 1))) 0), O2 v8]) (by kernel_rfl) ?_
      obtain ⟨e18, he18, h⟩ := bind_some h
      refine WO.pureK 0 (match (List.map e_dpDep v8)[(0 + Int.toNat (W6 ((W6 (a5 + (W6 ((W6 (2 * v9)) + 1)))) + 1)))]? with | some y => cut Try.prog 33 (y.cells.map AV.strip) 0 | none => none) (v := .agg [I6 e18.f_From, I6 e18.f_To]) (by kernel_rfl) ((pe_ld (f := e_dpDep) (G := (fun y => cut Try.prog 33 (y.cells.map AV.strip) 0)) he18).trans (by kernel_rfl)) (e1 := [(0, S2 n2), (2, I6 a4), (3, I6 a5), (4, .clo F_g6 C_g6), (10, I6 v9), (11, I6 (W6 ((W6 (2 * v9)) + 1))), (19, I6 (W6 ((W6 (2 * v9)) + 1))), (20, I6 (W6 ((W6 ((W6 (2 * v9)) + 1)) + 1))), (21, I6 a4), (22, .bool true), (23, .bool true), (24, .clo F_g6 C_g6), (25, S2 n2), (26, I6 a5), (27, I6 (W6 ((W6 (2 * v9)) + 1))), (28, I6 (W6 (a5 + (W6 ((W6 (2 * v9)) + 1))))), (29, .pe 2000000 2 (0 + Int.toNat (W6 (a5 + (W6 ((W6 (2 * v9)) + 1))))) 0), (30, .agg [I6 e16.f_From, I6 e16.f_To]), (31, S2 n2), (32, I6 a5), (33, I6 (W6 ((W6 (2 * v9)) + 1))), (34, I6 (W6 (a5 + (W6 ((W6 (2 * v9)) + 1))))), (35, I6 (W6 ((W6 (a5 + (W6 ((W6 (2 * v9)) + 1)))) + 1))), (36, .pe 2000000 2 (0 + Int.toNat (W6 ((W6 (a5 + (W6 ((W6 (2 * v9)) + 1)))) + 1))) 0), (37, .agg [I6 e18.f_From, I6 e18.f_To]), O2 v8]) (by kernel_rfl) ?_
      obtain ⟨w19, hw19, h⟩ := bind_some h
      refine WO.callK 0 (F := F_g6) (l := [.agg [I6 e16.f_From, I6 e16.f_To], .agg [I6 e18.f_From, I6 e18.f_To]]) (C := C_g6) (r := I6 w19) (by kernel_rfl) hok_g6 (hrun_g6 e16 e18 w19 hw19) (e1 := [(0, S2 n2), (2, I6 a4), (3, I6 a5), (4, .clo F_g6 C_g6), (10, I6 v9), (11, I6 (W6 ((W6 (2 * v9)) + 1))), (19, I6 (W6 ((W6 (2 * v9)) + 1))), (20, I6 (W6 ((W6 ((W6 (2 * v9)) + 1)) + 1))), (21, I6 a4), (22, .bool true), (23, .bool true), (24, .clo F_g6 C_g6), (25, S2 n2), (26, I6 a5), (27, I6 (W6 ((W6 (2 * v9)) + 1))), (28, I6 (W6 (a5 + (W6 ((W6 (2 * v9)) + 1))))), (29, .pe 2000000 2 (0 + Int.toNat (W6 (a5 + (W6 ((W6 (2 * v9)) + 1))))) 0), (30, .agg [I6 e16.f_From, I6 e16.f_To]), (31, S2 n2), (32, I6 a5), (33, I6 (W6 ((W6 (2 * v9)) + 1))), (34, I6 (W6 (a5 + (W6 ((W6 (2 * v9)) + 1))))), (35, I6 (W6 ((W6 (a5 + (W6 ((W6 (2 * v9)) + 1)))) + 1))), (36, .pe 2000000 2 (0 + Int.toNat (W6 ((W6 (a5 + (W6 ((W6 (2 * v9)) + 1)))) + 1))) 0), (37, .agg [I6 e18.f_From, I6 e18.f_To]), (38, I6 w19), O2 v8]) (by kernel_rfl) ?_
      refine WO.fin [0, 2, 3, 4, 10, 11, 40, 2000000] [] [] [] (e2 := [(0, S2 n2), (2, I6 a4), (3, I6 a5), (4, .clo F_g6 C_g6), (10, I6 v9), (11, I6 (W6 ((W6 (2 * v9)) + 1))), (40, .bool (decide (w19 < 0))), O2 v8]) (by kernel_rfl) (fun _ h => h) ?_
      exact hK14 (decide (w19 < 0)) h
    replace h := cond_f hb h
    refine WO.fin [0, 2, 3, 4, 10, 11, 40, 2000000] [] [] [] (e2 := [(0, S2 n2), (2, I6 a4), (3, I6 a5), (4, .clo F_g6 C_g6), (10, I6 v9), (11, I6 (W6 ((W6 (2 * v9)) + 1))), (40, .bool false), O2 v8]) (by kernel_rfl) (fun _ h => h) ?_
    exact hK14 false h
def sl_heapSortCmpFunc_dpDep_l2 (fuel : Nat) (n2 : Nat) (a3 : Int) (g5 : (dpDep → dpDep → Option Int)) : Nat → (List dpDep) → Int → Option (List dpDep)
  | 0, _, _ => none
  | m2 + 1, v19, v20 => (bif (decide (v20 ≥ 0)) then (chk (decide ((0 : Int) ≤ (IntKind.wrap .i64 (a3 + v20)) ∧ (IntKind.wrap .i64 (a3 + v20)) < ((n2 : Nat) : Int))) ((v19[(0 + Int.toNat (IntKind.wrap .i64 (a3 + v20)))]?).bind fun e26 => (chk (decide ((0 : Int) ≤ a3 ∧ a3 < ((n2 : Nat) : Int))) ((v19[(0 + Int.toNat a3)]?).bind fun e28 => (chk (decide ((0 : Int) ≤ a3 ∧ a3 < ((n2 : Nat) : Int))) ((upd v19 (0 + Int.toNat a3) e26).bind fun u30 => (chk (decide ((0 : Int) ≤ (IntKind.wrap .i64 (a3 + v20)) ∧ (IntKind.wrap .i64 (a3 + v20)) < ((n2 : Nat) : Int))) ((upd u30 (0 + Int.toNat (IntKind.wrap .i64 (a3 + v20))) e28).bind fun u33 => ((sl_siftDownCmpFunc_dpDep fuel u33 n2 0 v20 a3 g5).bind fun w35 => ((sl_heapSortCmpFunc_dpDep_l2 fuel n2 a3 g5 m2) w35 (IntKind.wrap .i64 (v20 - 1)))))))))))) else (some v19))
def sl_heapSortCmpFunc_dpDep_j9 (fuel : Nat) (n2 : Nat) (a3 : Int) (a4 : Int) (g5 : (dpDep → dpDep → Option Int)) (v17 : (List dpDep)) : Option (List dpDep) :=
  (sl_heapSortCmpFunc_dpDep_l2 fuel n2 a3 g5 fuel v17 (IntKind.wrap .i64 ((IntKind.wrap .i64 (a4 - a3)) - 1)))
def sl_heapSortCmpFunc_dpDep_l1 (fuel : Nat) (n2 : Nat) (a3 : Int) (a4 : Int) (g5 : (dpDep → dpDep → Option Int)) (K9 : ((List dpDep) → Option (List dpDep))) : Nat → (List dpDep) → Int → Option (List dpDep)
  | 0, _, _ => none
  | m1 + 1, v11, v12 => (bif (decide (v12 ≥ 0)) then ((sl_siftDownCmpFunc_dpDep fuel v11 n2 v12 (IntKind.wrap .i64 (a4 - a3)) a3 g5).bind fun w16 => ((sl_heapSortCmpFunc_dpDep_l1 fuel n2 a3 a4 g5 K9 m1) w16 (IntKind.wrap .i64 (v12 - 1)))) else (K9 v11))
def sl_heapSortCmpFunc_dpDep (fuel : Nat) (a1 : (List dpDep)) (n2 : Nat) (a3 : Int) (a4 : Int) (g5 : (dpDep → dpDep → Option Int)) : Option (List dpDep) :=
  (sl_heapSortCmpFunc_dpDep_l1 fuel n2 a3 a4 g5 (sl_heapSortCmpFunc_dpDep_j9 fuel n2 a3 a4 g5) fuel a1 (IntKind.wrap .i64 (((IntKind.wrap .i64 ((IntKind.wrap .i64 (a4 - a3)) - 1))).tdiv 2)))
theorem run_sl_heapSortCmpFunc_dpDep (fuel : Nat) (a1 : (List dpDep)) (n2 : Nat) (a3 : Int) (a4 : Int) (g5 : (dpDep → dpDep → Option Int)) (F_g5 : Nat) (C_g5 : List AV) (hok_g5 : okFn Try.prog F_g5 = true) (hrun_g5 : ∀ (x0 : dpDep) (x1 : dpDep) r, g5 x0 x1 = some r → Run Try.prog (.call F_g5 ([.agg [I6 x0.f_From, I6 x0.f_To], .agg [I6 x1.f_From, I6 x1.f_To]] ++ C_g5) (I6 r))) (r : (List dpDep)) (h : sl_heapSortCmpFunc_dpDep fuel a1 n2 a3 a4 g5 = some r) : Run Try.prog (.callM 104 [S2 n2, I6 a3, I6 a4, .clo F_g5 C_g5] [O2 a1] (.tup []) [O2 r]) := by
  refine callM_of_W Try.func104 rfl (by kernel_rfl) (env0 := [(0, S2 n2), (1, I6 a3), (2, I6 a4), (3, .clo F_g5 C_g5), O2 a1]) (by kernel_rfl) ?_
  unfold sl_heapSortCmpFunc_dpDep at h
  refine W.seq ?_
  refine W.regT [0, 1, 2, 3, 8, 2000000] [] [] [] (e2 := [(0, S2 n2), (1, I6 a3), (2, I6 a4), (3, .clo F_g5 C_g5), (8, I6 a3), O2 a1]) (by kernel_rfl) (by kernel_rfl) (fun _ h => h) ?_
  refine W.seq ?_
  refine W.regT [0, 1, 2, 3, 8, 9, 2000000] [] [] [] (e2 := [(0, S2 n2), (1, I6 a3), (2, I6 a4), (3, .clo F_g5 C_g5), (8, I6 a3), (9, .int .i64 0), O2 a1]) (by kernel_rfl) (by kernel_rfl) (fun _ h => h) ?_
  refine W.seq ?_
  refine W.regT [0, 3, 8, 9, 10, 2000000] [] [] [] (e2 := [(0, S2 n2), (3, .clo F_g5 C_g5), (8, I6 a3), (9, .int .i64 0), (10, I6 (W6 (a4 - a3))), O2 a1]) (by kernel_rfl) (by kernel_rfl) (fun _ h => h) ?_
  refine W.seq ?_
  refine W.join (σ := ((List dpDep))) (fun s => [(0, S2 n2), (3, .clo F_g5 C_g5), (8, I6 a3), (9, .int .i64 0), (10, I6 (W6 (a4 - a3))), O2 s]) (fun s => (sl_heapSortCmpFunc_dpDep_j9 fuel n2 a3 a4 g5) s = some r) (fun s h => ?_) (fun hK9 => ?_)
  · obtain ⟨v17, rfl⟩ : ∃ x, x = s := ⟨s, rfl⟩
    have h : (sl_heapSortCmpFunc_dpDep_j9 fuel n2 a3 a4 g5) v17 = some r := h
    unfold sl_heapSortCmpFunc_dpDep_j9 at h
    refine W.seq ?_
    refine W.regT [0, 3, 8, 9, 12, 2000000] [] [] [] (e2 := [(0, S2 n2), (3, .clo F_g5 C_g5), (8, I6 a3), (9, .int .i64 0), (12, I6 (W6 ((W6 (a4 - a3)) - 1))), O2 v17]) (by kernel_rfl) (by kernel_rfl) (fun _ h => h) ?_
    refine W.block ?_
    refine W.weak [0, 3, 8, 9, 12, 2000000] [] [] [] (env' := [(0, S2 n2), (3, .clo F_g5 C_g5), (8, I6 a3), (9, .int .i64 0), (12, I6 (W6 ((W6 (a4 - a3)) - 1))), O2 v17]) (by kernel_rfl) ?_
    refine W.fuel (σ := ((List dpDep) × Int)) (fun s => [(0, S2 n2), (3, .clo F_g5 C_g5), (8, I6 a3), (9, .int .i64 0), (12, I6 s.2), (2000000, .obj 33 2 (List.map e_dpDep s.1))]) (fun m0 s => sl_heapSortCmpFunc_dpDep_l2 fuel n2 a3 g5 m0 s.1 s.2 = some r) (fun s h => ?_) (fun m2 s h hN2 => ?_) fuel (v17, (W6 ((W6 (a4 - a3)) - 1))) h
    · obtain ⟨v19, v20⟩ := s
      have h : sl_heapSortCmpFunc_dpDep_l2 fuel n2 a3 g5 0 v19 v20 = some r := h
      rw [sl_heapSortCmpFunc_dpDep_l2.eq_1] at h
      cases h
    · obtain ⟨v19, v20⟩ := s
      have h : sl_heapSortCmpFunc_dpDep_l2 fuel n2 a3 g5 (m2 + 1) v19 v20 = some r := h
      rw [sl_heapSortCmpFunc_dpDep_l2.eq_2] at h
      refine W.seq ?_
      refine W.seq ?_
      refine W.regT [0, 3, 8, 9, 12, 33, 2000000] [] [] [] (e2 := [(0, S2 n2), (3, .clo F_g5 C_g5), (8, I6 a3), (9, .int .i64 0), (12, I6 v20), (33, .bool (decide (v20 ≥ 0))), O2 v19]) (by kernel_rfl) (by kernel_rfl) (fun _ h => h) ?_
      refine W.condB (decide (v20 ≥ 0)) (by kernel_rfl) (fun hb => ?_) (fun hb => ?_)
      · replace h := cond_t hb h
        refine W.skip ?_
        refine W.weak [0, 3, 8, 9, 12, 2000000] [] [] [] (env' := [(0, S2 n2), (3, .clo F_g5 C_g5), (8, I6 a3), (9, .int .i64 0), (12, I6 v20), O2 v19]) (by kernel_rfl) ?_
        refine W.seq ?_
        refine W.block ?_
        refine W.seq ?_
        refine W.region (by kernel_rfl) ?_
        obtain ⟨hc25, h⟩ := chk_some h
        refine WO.pureK 10 (if (0 : Int) ≤ (W6 (a3 + v20)) ∧ (W6 (a3 + v20)) < ((n2 : Nat) : Int) then some (.pe 2000000 2 (0 + Int.toNat (W6 (a3 + v20))) 0) else none) (v := .pe 2000000 2 (0 + Int.toNat (W6 (a3 + v20))) 0) (by kernel_rfl) (ite_some hc25) (e1 := [(0, S2 n2), (3, .clo F_g5 C_g5), (8, I6 a3), (9, .int .i64 0), (12, I6 v20), (36, S2 n2), (37, I6 a3), (38, S2 n2), (39, I6 a3), (40, I6 v20), (41, I6 (W6 (a3 + v20))), (42, S2 n2), (43, I6 a3), (44, I6 v20), (45, I6 (W6 (a3 + v20))), (46, .pe 2000000 2 (0 + Int.toNat (W6 (a3 + v20))) 0), O2 v19]) (by kernel_rfl) ?_
        obtain ⟨e26, he26, h⟩ := bind_some h
        refine WO.pureK 0 (match (List.map e_dpDep v19)[(0 + Int.toNat (W6 (a3 + v20)))]? with | some y => cut Try.prog 33 (y.cells.map AV.strip) 0 | none => none) (v := .agg [I6 e26.f_From, I6 e26.f_To]) (by kernel_rfl) ((pe_ld (f := e_dpDep) (G := (fun y => cut Try.prog 33 (y.cells.map AV.strip) 0)) he26).trans (by kernel_rfl)) (e1 := [(0, S2 n2), (3, .clo F_g5 C_g5), (8, I6 a3), (9, .int .i64 0), (12, I6 v20), (36, S2 n2), (37, I6 a3), (38, S2 n2), (39, I6 a3), (40, I6 v20), (41, I6 (W6 (a3 + v20))), (42, S2 n2), (43, I6 a3), (44, I6 v20), (45, I6 (W6 (a3 + v20))), (46, .pe 2000000 2 (0 + Int.toNat (W6 (a3 + v20))) 0), (47, .agg [I6 e26.f_From, I6 e26.f_To]), O2 v19]) (by kernel_rfl) ?_
        obtain ⟨hc27, h⟩ := chk_some h
        refine WO.pureK 2 (if (0 : Int) ≤ a3 ∧ a3 < ((n2 : Nat) : Int) then some (.pe 2000000 2 (0 + Int.toNat a3) 0) else none) (v := .pe 2000000 2 (0 + Int.toNat a3) 0) (by kernel_rfl) (ite_some hc27) (e1 := [(0, S2 n2), (3, .clo F_g5 C_g5), (8, I6 a3), (9, .int .i64 0), (12, I6 v20), (36, S2 n2), (37, I6 a3), (38, S2 n2), (39, I6 a3), (40, I6 v20), (41, I6 (W6 (a3 + v20))), (42, S2 n2), (43, I6 a3), (44, I6 v20), (45, I6 (W6 (a3 + v20))), (46, .pe 2000000 2 (0 + Int.toNat (W6 (a3 + v20))) 0), (47, .agg [I6 e26.f_From, I6 e26.f_To]), (48, S2 n2), (49, I6 a3), (50, .pe 2000000 2 (0 + Int.toNat a3) 0), O2 v19]) (by kernel_rfl) ?_
        obtain ⟨e28, he28, h⟩ := bind_some h
        refine WO.pureK 0 (match (List.map e_dpDep v19)[(0 + Int.toNat a3)]? with | some y => cut Try.prog 33 (y.cells.map AV.strip) 0 | none => none) (v := .agg [I6 e28.f_From, I6 e28.f_To]) (by kernel_rfl) ((pe_ld (f := e_dpDep) (G := (fun y => cut Try.prog 33 (y.cells.map AV.strip) 0)) he28).trans (by kernel_rfl)) (e1 := [(0, S2 n2), (3, .clo F_g5 C_g5), (8, I6 a3), (9, .int .i64 0), (12, I6 v20), (36, S2 n2), (37, I6 a3), (38, S2 n2), (39, I6 a3), (40, I6 v20), (41, I6 (W6 (a3 + v20))), (42, S2 n2), (43, I6 a3), (44, I6 v20), (45, I6 (W6 (a3 + v20))), (46, .pe 2000000 2 (0 + Int.toNat (W6 (a3 + v20))) 0), (47, .agg [I6 e26.f_From, I6 e26.f_To]), (48, S2 n2), (49, I6 a3), (50, .pe 2000000 2 (0 + Int.toNat a3) 0), (51, .agg [I6 e28.f_From, I6 e28.f_To]), O2 v19]) (by kernel_rfl) ?_
        obtain ⟨hc29, h⟩ := chk_some h
        refine WO.pureK 0 (if (0 : Int) ≤ a3 ∧ a3 < ((n2 : Nat) : Int) then some (.pe 2000000 2 (0 + Int.toNat a3) 0) else none) (v := .pe 2000000 2 (0 + Int.toNat a3) 0) (by kernel_rfl) (ite_some hc29) (e1 := [(0, S2 n2), (3, .clo F_g5 C_g5), (8, I6 a3), (9, .int .i64 0), (12, I6 v20), (36, S2 n2), (37, I6 a3), (38, S2 n2), (39, I6 a3), (40, I6 v20), (41, I6 (W6 (a3 + v20))), (42, S2 n2), (43, I6 a3), (44, I6 v20), (45, I6 (W6 (a3 + v20))), (46, .pe 2000000 2 (0 + Int.toNat (W6 (a3 + v20))) 0), (47, .agg [I6 e26.f_From, I6 e26.f_To]), (48, S2 n2), (49, I6 a3), (50, .pe 2000000 2 (0 + Int.toNat a3) 0), (51, .agg [I6 e28.f_From, I6 e28.f_To]), (52, .pe 2000000 2 (0 + Int.toNat a3) 0), O2 v19]) (by kernel_rfl) ?_
        obtain ⟨u30, hu30, h⟩ := bind_some h
        obtain ⟨y31, hyy31, hzy31⟩ := upd_some hu30
        refine WO.storeK 0 (id := 2000000) (e := 33) (s := 2) (j := (0 + Int.toNat a3)) (off := 0) (vs := [I6 e26.f_From, I6 e26.f_To]) (xs := (List.map e_dpDep v19)) (zs := (List.map e_dpDep u30)) (y := (e_dpDep) y31) (y' := (e_dpDep) e26) (by kernel_rfl) (upd_get hyy31) (by kernel_rfl) (upd_set hzy31) (e1 := [(0, S2 n2), (3, .clo F_g5 C_g5), (8, I6 a3), (9, .int .i64 0), (12, I6 v20), (36, S2 n2), (37, I6 a3), (38, S2 n2), (39, I6 a3), (40, I6 v20), (41, I6 (W6 (a3 + v20))), (42, S2 n2), (43, I6 a3), (44, I6 v20), (45, I6 (W6 (a3 + v20))), (46, .pe 2000000 2 (0 + Int.toNat (W6 (a3 + v20))) 0), (47, .agg [I6 e26.f_From, I6 e26.f_To]), (48, S2 n2), (49, I6 a3), (50, .pe 2000000 2 (0 + Int.toNat a3) 0), (51, .agg [I6 e28.f_From, I6 e28.f_To]), (52, .pe 2000000 2 (0 + Int.toNat a3) 0), O2 u30]) (by kernel_rfl) ?_
        obtain ⟨hc32, h⟩ := chk_some h
        refine WO.pureK 0 (if (0 : Int) ≤ (W6 (a3 + v20)) ∧ (W6 (a3 + v20)) < ((n2 : Nat) : Int) then some (.pe 2000000 2 (0 + Int.toNat (W6 (a3 + v20))) 0) else none) (v := .pe 2000000 2 (0 + Int.toNat (W6 (a3 + v20))) 0) (by kernel_rfl) (ite_some hc32) (e1 := [(0, S2 n2), (3, .clo F_g5 C_g5), (8, I6 a3), (9, .int .i64 0), (12, I6 v20), (36, S2 n2), (37, I6 a3), (38, S2 n2), (39, I6 a3), (40, I6 v20), (41, I6 (W6 (a3 + v20))), (42, S2 n2), (43, I6 a3), (44, I6 v20), (45, I6 (W6 (a3 + v20))), (46, .pe 2000000 2 (0 + Int.toNat (W6 (a3 + v20))) 0), (47, .agg [I6 e26.f_From, I6 e26.f_To]), (48, S2 n2), (49, I6 a3), (50, .pe 2000000 2 (0 + Int.toNat a3) 0), (51, .agg [I6 e28.f_From, I6 e28.f_To]), (52, .pe 2000000 2 (0 + Int.toNat a3) 0), (53, .pe 2000000 2 (0 + Int.toNat (W6 (a3 + v20))) 0), O2 u30]) (by kernel_rfl) ?_
        obtain ⟨u33, hu33, h⟩ := bind_some h
        obtain ⟨y34, hyy34, hzy34⟩ := upd_some hu33
        refine WO.storeK 0 (id := 2000000) (e := 33) (s := 2) (j := (0 + Int.toNat (W6 (a3 + v20)))) (off := 0) (vs := [I6 e28.f_From, I6 e28.f_To]) (xs := (List.map e_dpDep u30)) (zs := (List.map e_dpDep u33)) (y := (e_dpDep) y34) (y' := (e_dpDep) e28) (by kernel_rfl) (upd_get hyy34) (by kernel_rfl) (upd_set hzy34) (e1 := [(0, S2 n2), (3, .clo F_g5 C_g5), (8, I6 a3), (9, .int .i64 0), (12, I6 v20), (36, S2 n2), (37, I6 a3), (38, S2 n2), (39, I6 a3), (40, I6 v20), (41, I6 (W6 (a3 + v20))), (42, S2 n2), (43, I6 a3), (44, I6 v20), (45, I6 (W6 (a3 + v20))), (46, .pe 2000000 2 (0 + Int.toNat (W6 (a3 + v20))) 0), (47, .agg [I6 e26.f_From, I6 e26.f_To]), (48, S2 n2), (49, I6 a3), (50, .pe 2000000 2 (0 + Int.toNat a3) 0), (51, .agg [I6 e28.f_From, I6 e28.f_To]), (52, .pe 2000000 2 (0 + Int.toNat a3) 0), (53, .pe 2000000 2 (0 + Int.toNat (W6 (a3 + v20))) 0), O2 u33]) (by kernel_rfl) ?_
        refine WO.fin [0, 3, 8, 9, 12, 2000000] [] [] [] (e2 := [(0, S2 n2), (3, .clo F_g5 C_g5), (8, I6 a3), (9, .int .i64 0), (12, I6 v20), O2 u33]) (by kernel_rfl) (fun _ h => h) ?_
        refine W.region (by kernel_rfl) ?_
        obtain ⟨w35, hw35, h⟩ := bind_some h
        refine WO.callMK 5 [(2000000, 2000000)] [] (F := 114) (args := [S2 n2, .int .i64 0, I6 v20, I6 a3, .clo F_g5 C_g5]) (hp := [O2 u33]) (hp2 := [O2 w35]) (r := .tup []) (by kernel_rfl) (run_sl_siftDownCmpFunc_dpDep fuel u33 n2 0 v20 a3 g5 F_g5 C_g5 hok_g5 hrun_g5 w35 hw35) (e1 := [(0, S2 n2), (3, .clo F_g5 C_g5), (8, I6 a3), (9, .int .i64 0), (12, I6 v20), (54, S2 n2), (55, .int .i64 0), (56, I6 v20), (57, I6 a3), (58, .clo F_g5 C_g5), (59, .tup []), O2 w35]) (by kernel_rfl) ?_
        refine WO.fin [0, 3, 8, 9, 12, 2000000] [] [] [] (e2 := [(0, S2 n2), (3, .clo F_g5 C_g5), (8, I6 a3), (9, .int .i64 0), (12, I6 v20), O2 w35]) (by kernel_rfl) (fun _ h => h) ?_
        refine W.regT [0, 3, 8, 9, 12, 2000000] [] [] [] (e2 := [(0, S2 n2), (3, .clo F_g5 C_g5), (8, I6 a3), (9, .int .i64 0), (12, I6 (W6 (v20 - 1))), O2 w35]) (by kernel_rfl) (by kernel_rfl) (fun _ h => h) ?_
        exact hN2 (w35, (W6 (v20 - 1))) h
      replace h := cond_f hb h
      have hr : PostM Try.prog Try.f104 (.tup []) [O2 v19] .normal [(0, S2 n2), (3, .clo F_g5 C_g5), (8, I6 a3), (9, .int .i64 0), (12, I6 v20), (33, .bool (decide (v20 ≥ 0))), O2 v19] := ⟨by kernel_rfl, by kernel_rfl⟩
      cases h
      exact W.exit hr
  refine W.seq ?_
  refine W.regT [0, 3, 8, 9, 10, 11, 2000000] [] [] [] (e2 := [(0, S2 n2), (3, .clo F_g5 C_g5), (8, I6 a3), (9, .int .i64 0), (10, I6 (W6 (a4 - a3))), (11, I6 (W6 (((W6 ((W6 (a4 - a3)) - 1))).tdiv 2))), O2 a1]) (by kernel_rfl) (by kernel_rfl) (fun _ h => h) ?_
  refine W.block ?_
  refine W.weak [0, 3, 8, 9, 10, 11, 2000000] [] [] [] (env' := [(0, S2 n2), (3, .clo F_g5 C_g5), (8, I6 a3), (9, .int .i64 0), (10, I6 (W6 (a4 - a3))), (11, I6 (W6 (((W6 ((W6 (a4 - a3)) - 1))).tdiv 2))), O2 a1]) (by kernel_rfl) ?_
  refine W.fuel (σ := ((List dpDep) × Int)) (fun s => [(0, S2 n2), (3, .clo F_g5 C_g5), (8, I6 a3), (9, .int .i64 0), (10, I6 (W6 (a4 - a3))), (11, I6 s.2), (2000000, .obj 33 2 (List.map e_dpDep s.1))]) (fun m0 s => sl_heapSortCmpFunc_dpDep_l1 fuel n2 a3 a4 g5 (sl_heapSortCmpFunc_dpDep_j9 fuel n2 a3 a4 g5) m0 s.1 s.2 = some r) (fun s h => ?_) (fun m1 s h hN1 => ?_) fuel (a1, (W6 (((W6 ((W6 (a4 - a3)) - 1))).tdiv 2))) h
  · obtain ⟨v11, v12⟩ := s
    have h : sl_heapSortCmpFunc_dpDep_l1 fuel n2 a3 a4 g5 (sl_heapSortCmpFunc_dpDep_j9 fuel n2 a3 a4 g5) 0 v11 v12 = some r := h
    rw [sl_heapSortCmpFunc_dpDep_l1.eq_1] at h
    cases h
  · obtain ⟨v11, v12⟩ := s
    have h : sl_heapSortCmpFunc_dpDep_l1 fuel n2 a3 a4 g5 (sl_heapSortCmpFunc_dpDep_j9 fuel n2 a3 a4 g5) (m1 + 1) v11 v12 = some r := h
    rw [sl_heapSortCmpFunc_dpDep_l1.eq_2] at h
    refine W.seq ?_
    refine W.seq ?_
    refine W.regT [0, 3, 8, 9, 10, 11, 21, 2000000] [] [] [] (e2 := [(0, S2 n2), (3, .clo F_g5 C_g5), (8, I6 a3), (9, .int .i64 0), (10, I6 (W6 (a4 - a3))), (11, I6 v12), (21, .bool (decide (v12 ≥ 0))), O2 v11]) (by kernel_rfl) (by kernel_rfl) (fun _ h => h) ?_
    refine W.condB (decide (v12 ≥ 0)) (by kernel_rfl) (fun hb => ?_) (fun hb => ?_)
    · replace h := cond_t hb h
      refine W.skip ?_
      refine W.weak [0, 3, 8, 9, 10, 11, 2000000] [] [] [] (env' := [(0, S2 n2), (3, .clo F_g5 C_g5), (8, I6 a3), (9, .int .i64 0), (10, I6 (W6 (a4 - a3))), (11, I6 v12), O2 v11]) (by kernel_rfl) ?_
      refine W.seq ?_
      refine W.block ?_
      refine W.region (by kernel_rfl) ?_
      obtain ⟨w16, hw16, h⟩ := bind_some h
      refine WO.callMK 5 [(2000000, 2000000)] [] (F := 114) (args := [S2 n2, I6 v12, I6 (W6 (a4 - a3)), I6 a3, .clo F_g5 C_g5]) (hp := [O2 v11]) (hp2 := [O2 w16]) (r := .tup []) (by kernel_rfl) (run_sl_siftDownCmpFunc_dpDep fuel v11 n2 v12 (W6 (a4 - a3)) a3 g5 F_g5 C_g5 hok_g5 hrun_g5 w16 hw16) (e1 := [(0, S2 n2), (3, .clo F_g5 C_g5), (8, I6 a3), (9, .int .i64 0), (10, I6 (W6 (a4 - a3))), (11, I6 v12), (24, S2 n2), (25, I6 v12), (26, I6 (W6 (a4 - a3))), (27, I6 a3), (28, .clo F_g5 C_g5), (29, .tup []), O2 w16]) (by kernel_rfl) ?_
      refine WO.fin [0, 3, 8, 9, 10, 11, 2000000] [] [] [] (e2 := [(0, S2 n2), (3, .clo F_g5 C_g5), (8, I6 a3), (9, .int .i64 0), (10, I6 (W6 (a4 - a3))), (11, I6 v12), O2 w16]) (by kernel_rfl) (fun _ h => h) ?_
      refine W.regT [0, 3, 8, 9, 10, 11, 2000000] [] [] [] (e2 := [(0, S2 n2), (3, .clo F_g5 C_g5), (8, I6 a3), (9, .int .i64 0), (10, I6 (W6 (a4 - a3))), (11, I6 (W6 (v12 - 1))), O2 w16]) (by kernel_rfl) (by kernel_rfl) (fun _ h => h) ?_
      exact hN1 (w16, (W6 (v12 - 1))) h
    replace h := cond_f hb h
    refine W.exit ?_
    refine W.weak [0, 3, 8, 9, 10, 2000000] [] [] [] (env' := [(0, S2 n2), (3, .clo F_g5 C_g5), (8, I6 a3), (9, .int .i64 0), (10, I6 (W6 (a4 - a3))), O2 v11]) (by kernel_rfl) ?_
    exact hK9 v11 h
def sl_nextPowerOfTwo (a1 : Int) : Option Int :=
  ((mb_Len (IntKind.wrap .u64 a1)).bind fun w4 => (chk (decide (0 ≤ w4)) (some (iShl .u64 1 w4))))
theorem run_sl_nextPowerOfTwo (a1 : Int) (r : Int) (h : sl_nextPowerOfTwo a1 = some r) : Run Try.prog (.call 115 [I6 a1] (.int .u64 r)) := by
  refine call_of_W Try.func115 rfl (by kernel_rfl) (env0 := [(0, I6 a1)]) (by kernel_rfl) ?_
  unfold sl_nextPowerOfTwo at h
  refine W.seq ?_
  refine W.regT [0] [] [] [] (e2 := [(0, I6 a1)]) (by kernel_rfl) (by kernel_rfl) (fun _ h => h) ?_
  refine W.seq ?_
  refine W.region (by kernel_rfl) ?_
  obtain ⟨w4, hw4, h⟩ := bind_some h
  refine WO.callK 2 (F := 99) (l := [.int .u64 (IntKind.wrap .u64 a1)]) (C := []) (r := I6 w4) (by kernel_rfl) (by kernel_rfl) (run_mb_Len (IntKind.wrap .u64 a1) w4 hw4) (e1 := [(0, I6 a1), (3, I6 a1), (4, .int .u64 (IntKind.wrap .u64 a1)), (5, I6 w4)]) (by kernel_rfl) ?_
  obtain ⟨hc5, h⟩ := chk_some h
  refine WO.pureK 0 (if w4 < 0 then none else some (.int .u64 (iShl .u64 1 w4))) (v := .int .u64 (iShl .u64 1 w4)) (by kernel_rfl) (if_neg (not_lt_of_chk hc5)) (e1 := [(0, I6 a1), (3, I6 a1), (4, .int .u64 (IntKind.wrap .u64 a1)), (5, I6 w4), (6, .int .u64 (iShl .u64 1 w4))]) (by kernel_rfl) ?_
  refine WO.fin [2] [] [] [] (e2 := [(2, .int .u64 (iShl .u64 1 w4))]) (by kernel_rfl) (fun _ h => h) ?_
  refine W.weak [2] [] [] [] (env' := [(2, .int .u64 (iShl .u64 1 w4))]) (by kernel_rfl) ?_
  have hr : aresults Try.prog Try.f115 [(2, .int .u64 (iShl .u64 1 w4))] = some (.int .u64 (iShl .u64 1 w4)) := by kernel_rfl
  cases h
  exact W.ret hr
def sl_xorshift_Next (p1 : Int) : Option (Int × Int) :=
  (some ((iXor .u64 (iXor .u64 (iXor .u64 p1 (iShl .u64 p1 13)) (iShr .u64 (iXor .u64 p1 (iShl .u64 p1 13)) 7)) (iShl .u64 (iXor .u64 (iXor .u64 p1 (iShl .u64 p1 13)) (iShr .u64 (iXor .u64 p1 (iShl .u64 p1 13)) 7)) 17)), (iXor .u64 (iXor .u64 (iXor .u64 p1 (iShl .u64 p1 13)) (iShr .u64 (iXor .u64 p1 (iShl .u64 p1 13)) 7)) (iShl .u64 (iXor .u64 (iXor .u64 p1 (iShl .u64 p1 13)) (iShr .u64 (iXor .u64 p1 (iShl .u64 p1 13)) 7)) 17))))
theorem run_sl_xorshift_Next (p1 : Int) (r : (Int × Int)) (h : sl_xorshift_Next p1 = some r) : Run Try.prog (.callM 116 [.pb 2000000 0] [(2000000, .box [.int .u64 p1])] (.int .u64 r.1) [(2000000, .box [.int .u64 r.2])]) := by
  refine callM_of_W Try.func116 rfl (by kernel_rfl) (env0 := [(0, .pb 2000000 0), (2000000, .box [.int .u64 p1])]) (by kernel_rfl) ?_
  unfold sl_xorshift_Next at h
  refine W.seq ?_
  refine W.regT [0, 2000000] [] [] [] (e2 := [(0, .pb 2000000 0), (2000000, .box [.int .u64 p1])]) (by kernel_rfl) (by kernel_rfl) (fun _ h => h) ?_
  refine W.seq ?_
  refine W.regT [0, 2000000] [] [] [] (e2 := [(0, .pb 2000000 0), (2000000, .box [.int .u64 (iXor .u64 p1 (iShl .u64 p1 13))])]) (by kernel_rfl) (by kernel_rfl) (fun _ h => h) ?_
  refine W.seq ?_
  refine W.regT [0, 2000000] [] [] [] (e2 := [(0, .pb 2000000 0), (2000000, .box [.int .u64 (iXor .u64 (iXor .u64 p1 (iShl .u64 p1 13)) (iShr .u64 (iXor .u64 p1 (iShl .u64 p1 13)) 7))])]) (by kernel_rfl) (by kernel_rfl) (fun _ h => h) ?_
  refine W.seq ?_
  refine W.regT [0, 2000000] [] [] [] (e2 := [(0, .pb 2000000 0), (2000000, .box [.int .u64 (iXor .u64 (iXor .u64 (iXor .u64 p1 (iShl .u64 p1 13)) (iShr .u64 (iXor .u64 p1 (iShl .u64 p1 13)) 7)) (iShl .u64 (iXor .u64 (iXor .u64 p1 (iShl .u64 p1 13)) (iShr .u64 (iXor .u64 p1 (iShl .u64 p1 13)) 7)) 17))])]) (by kernel_rfl) (by kernel_rfl) (fun _ h => h) ?_
  refine W.seq ?_
  refine W.regT [2, 2000000] [] [] [] (e2 := [(2, .int .u64 (iXor .u64 (iXor .u64 (iXor .u64 p1 (iShl .u64 p1 13)) (iShr .u64 (iXor .u64 p1 (iShl .u64 p1 13)) 7)) (iShl .u64 (iXor .u64 (iXor .u64 p1 (iShl .u64 p1 13)) (iShr .u64 (iXor .u64 p1 (iShl .u64 p1 13)) 7)) 17))), (2000000, .box [.int .u64 (iXor .u64 (iXor .u64 (iXor .u64 p1 (iShl .u64 p1 13)) (iShr .u64 (iXor .u64 p1 (iShl .u64 p1 13)) 7)) (iShl .u64 (iXor .u64 (iXor .u64 p1 (iShl .u64 p1 13)) (iShr .u64 (iXor .u64 p1 (iShl .u64 p1 13)) 7)) 17))])]) (by kernel_rfl) (by kernel_rfl) (fun _ h => h) ?_
  refine W.weak [2, 2000000] [] [] [] (env' := [(2, .int .u64 (iXor .u64 (iXor .u64 (iXor .u64 p1 (iShl .u64 p1 13)) (iShr .u64 (iXor .u64 p1 (iShl .u64 p1 13)) 7)) (iShl .u64 (iXor .u64 (iXor .u64 p1 (iShl .u64 p1 13)) (iShr .u64 (iXor .u64 p1 (iShl .u64 p1 13)) 7)) 17))), (2000000, .box [.int .u64 (iXor .u64 (iXor .u64 (iXor .u64 p1 (iShl .u64 p1 13)) (iShr .u64 (iXor .u64 p1 (iShl .u64 p1 13)) 7)) (iShl .u64 (iXor .u64 (iXor .u64 p1 (iShl .u64 p1 13)) (iShr .u64 (iXor .u64 p1 (iShl .u64 p1 13)) 7)) 17))])]) (by kernel_rfl) ?_
  have hr : PostM Try.prog Try.f116 (.int .u64 (iXor .u64 (iXor .u64 (iXor .u64 p1 (iShl .u64 p1 13)) (iShr .u64 (iXor .u64 p1 (iShl .u64 p1 13)) 7)) (iShl .u64 (iXor .u64 (iXor .u64 p1 (iShl .u64 p1 13)) (iShr .u64 (iXor .u64 p1 (iShl .u64 p1 13)) 7)) 17))) [(2000000, .box [.int .u64 (iXor .u64 (iXor .u64 (iXor .u64 p1 (iShl .u64 p1 13)) (iShr .u64 (iXor .u64 p1 (iShl .u64 p1 13)) 7)) (iShl .u64 (iXor .u64 (iXor .u64 p1 (iShl .u64 p1 13)) (iShr .u64 (iXor .u64 p1 (iShl .u64 p1 13)) 7)) 17))])] .ret [(2, .int .u64 (iXor .u64 (iXor .u64 (iXor .u64 p1 (iShl .u64 p1 13)) (iShr .u64 (iXor .u64 p1 (iShl .u64 p1 13)) 7)) (iShl .u64 (iXor .u64 (iXor .u64 p1 (iShl .u64 p1 13)) (iShr .u64 (iXor .u64 p1 (iShl .u64 p1 13)) 7)) 17))), (2000000, .box [.int .u64 (iXor .u64 (iXor .u64 (iXor .u64 p1 (iShl .u64 p1 13)) (iShr .u64 (iXor .u64 p1 (iShl .u64 p1 13)) 7)) (iShl .u64 (iXor .u64 (iXor .u64 p1 (iShl .u64 p1 13)) (iShr .u64 (iXor .u64 p1 (iShl .u64 p1 13)) 7)) 17))])] := ⟨by kernel_rfl, by kernel_rfl⟩
  cases h
  exact W.ret hr
def sl_breakPatternsCmpFunc_dpDep_j20 (n2 : Nat) (a3 : Int) (v12 : (List dpDep)) (v14 : Int) (w19 : (Int × Int)) (N1 : ((List dpDep) → Int → Int → Option (List dpDep))) (v22 : Int) : Option (List dpDep) :=
  (chk (decide ((0 : Int) ≤ (IntKind.wrap .i64 (a3 + v22)) ∧ (IntKind.wrap .i64 (a3 + v22)) < ((n2 : Nat) : Int))) ((v12[(0 + Int.toNat (IntKind.wrap .i64 (a3 + v22)))]?).bind fun e24 => (chk (decide ((0 : Int) ≤ v14 ∧ v14 < ((n2 : Nat) : Int))) ((v12[(0 + Int.toNat v14)]?).bind fun e26 => (chk (decide ((0 : Int) ≤ v14 ∧ v14 < ((n2 : Nat) : Int))) ((upd v12 (0 + Int.toNat v14) e24).bind fun u28 => (chk (decide ((0 : Int) ≤ (IntKind.wrap .i64 (a3 + v22)) ∧ (IntKind.wrap .i64 (a3 + v22)) < ((n2 : Nat) : Int))) ((upd u28 (0 + Int.toNat (IntKind.wrap .i64 (a3 + v22))) e26).bind fun u31 => (N1 u31 w19.2 (IntKind.wrap .i64 (v14 + 1)))))))))))
def sl_breakPatternsCmpFunc_dpDep_l1 (n2 : Nat) (a3 : Int) (a4 : Int) (w10 : Int) : Nat → (List dpDep) → Int → Int → Option (List dpDep)
  | 0, _, _, _ => none
  | m1 + 1, v12, v13, v14 => (bif (decide (v14 ≤ (IntKind.wrap .i64 ((IntKind.wrap .i64 (a3 + (IntKind.wrap .i64 ((IntKind.wrap .i64 (((IntKind.wrap .i64 (a4 - a3))).tdiv 4)) * 2)))) + 1)))) then ((sl_xorshift_Next v13).bind fun w19 => (bif (decide ((IntKind.wrap .i64 (iAnd .u64 w19.1 (IntKind.wrap .u64 (w10 - 1)))) ≥ (IntKind.wrap .i64 (a4 - a3)))) then ((sl_breakPatternsCmpFunc_dpDep_j20 n2 a3 v12 v14 w19 (sl_breakPatternsCmpFunc_dpDep_l1 n2 a3 a4 w10 m1)) (IntKind.wrap .i64 ((IntKind.wrap .i64 (iAnd .u64 w19.1 (IntKind.wrap .u64 (w10 - 1)))) - (IntKind.wrap .i64 (a4 - a3))))) else ((sl_breakPatternsCmpFunc_dpDep_j20 n2 a3 v12 v14 w19 (sl_breakPatternsCmpFunc_dpDep_l1 n2 a3 a4 w10 m1)) (IntKind.wrap .i64 (iAnd .u64 w19.1 (IntKind.wrap .u64 (w10 - 1))))))) else (some v12))
def sl_breakPatternsCmpFunc_dpDep (fuel : Nat) (a1 : (List dpDep)) (n2 : Nat) (a3 : Int) (a4 : Int) (g5 : (dpDep → dpDep → Option Int)) : Option (List dpDep) :=
  (bif (decide ((IntKind.wrap .i64 (a4 - a3)) ≥ 8)) then ((sl_nextPowerOfTwo (IntKind.wrap .i64 (a4 - a3))).bind fun w10 => (sl_breakPatternsCmpFunc_dpDep_l1 n2 a3 a4 w10 fuel a1 (IntKind.wrap .u64 (IntKind.wrap .i64 (a4 - a3))) (IntKind.wrap .i64 ((IntKind.wrap .i64 (a3 + (IntKind.wrap .i64 ((IntKind.wrap .i64 (((IntKind.wrap .i64 (a4 - a3))).tdiv 4)) * 2)))) - 1)))) else (some a1))
theorem run_sl_breakPatternsCmpFunc_dpDep (fuel : Nat) (a1 : (List dpDep)) (n2 : Nat) (a3 : Int) (a4 : Int) (g5 : (dpDep → dpDep → Option Int)) (F_g5 : Nat) (C_g5 : List AV) (hok_g5 : okFn Try.prog F_g5 = true) (hrun_g5 : ∀ (x0 : dpDep) (x1 : dpDep) r, g5 x0 x1 = some r → Run Try.prog (.call F_g5 ([.agg [I6 x0.f_From, I6 x0.f_To], .agg [I6 x1.f_From, I6 x1.f_To]] ++ C_g5) (I6 r))) (r : (List dpDep)) (h : sl_breakPatternsCmpFunc_dpDep fuel a1 n2 a3 a4 g5 = some r) : Run Try.prog (.callM 105 [S2 n2, I6 a3, I6 a4, .clo F_g5 C_g5] [O2 a1] (.tup []) [O2 r]) := by
  refine callM_of_W Try.func105 rfl (by kernel_rfl) (env0 := [(0, S2 n2), (1, I6 a3), (2, I6 a4), (3, .clo F_g5 C_g5), O2 a1]) (by kernel_rfl) ?_
  unfold sl_breakPatternsCmpFunc_dpDep at h
  refine W.seq ?_
  refine W.regT [0, 1, 8, 2000000] [] [] [] (e2 := [(0, S2 n2), (1, I6 a3), (8, I6 (W6 (a4 - a3))), O2 a1]) (by kernel_rfl) (by kernel_rfl) (fun _ h => h) ?_
  refine W.seq ?_
  refine W.regT [0, 1, 8, 17, 2000000] [] [] [] (e2 := [(0, S2 n2), (1, I6 a3), (8, I6 (W6 (a4 - a3))), (17, .bool (decide ((W6 (a4 - a3)) ≥ 8))), O2 a1]) (by kernel_rfl) (by kernel_rfl) (fun _ h => h) ?_
  refine W.condB (decide ((W6 (a4 - a3)) ≥ 8)) (by kernel_rfl) (fun hb => ?_) (fun hb => ?_)
  · replace h := cond_t hb h
    refine W.seq ?_
    refine W.regT [0, 1, 8, 9, 2000000] [] [] [] (e2 := [(0, S2 n2), (1, I6 a3), (8, I6 (W6 (a4 - a3))), (9, .box [.int .u64 (IntKind.wrap .u64 (W6 (a4 - a3)))]), O2 a1]) (by kernel_rfl) (by kernel_rfl) (fun _ h => h) ?_
    refine W.seq ?_
    refine W.region (by kernel_rfl) ?_
    obtain ⟨w10, hw10, h⟩ := bind_some h
    refine WO.callK 1 (F := 115) (l := [I6 (W6 (a4 - a3))]) (C := []) (r := .int .u64 w10) (by kernel_rfl) (by kernel_rfl) (run_sl_nextPowerOfTwo (W6 (a4 - a3)) w10 hw10) (e1 := [(0, S2 n2), (1, I6 a3), (8, I6 (W6 (a4 - a3))), (9, .box [.int .u64 (IntKind.wrap .u64 (W6 (a4 - a3)))]), (20, I6 (W6 (a4 - a3))), (21, .int .u64 w10), O2 a1]) (by kernel_rfl) ?_
    refine WO.fin [0, 1, 8, 9, 10, 2000000] [] [] [] (e2 := [(0, S2 n2), (1, I6 a3), (8, I6 (W6 (a4 - a3))), (9, .box [.int .u64 (IntKind.wrap .u64 (W6 (a4 - a3)))]), (10, .int .u64 w10), O2 a1]) (by kernel_rfl) (fun _ h => h) ?_
    refine W.seq ?_
    refine W.regT [0, 1, 8, 9, 10, 11, 2000000] [] [] [] (e2 := [(0, S2 n2), (1, I6 a3), (8, I6 (W6 (a4 - a3))), (9, .box [.int .u64 (IntKind.wrap .u64 (W6 (a4 - a3)))]), (10, .int .u64 w10), (11, I6 (W6 ((W6 (a3 + (W6 ((W6 (((W6 (a4 - a3))).tdiv 4)) * 2)))) - 1))), O2 a1]) (by kernel_rfl) (by kernel_rfl) (fun _ h => h) ?_
    refine W.block ?_
    refine W.weak [0, 1, 8, 9, 10, 11, 2000000] [] [] [] (env' := [(0, S2 n2), (1, I6 a3), (8, I6 (W6 (a4 - a3))), (9, .box [.int .u64 (IntKind.wrap .u64 (W6 (a4 - a3)))]), (10, .int .u64 w10), (11, I6 (W6 ((W6 (a3 + (W6 ((W6 (((W6 (a4 - a3))).tdiv 4)) * 2)))) - 1))), O2 a1]) (by kernel_rfl) ?_
    refine W.fuel (σ := ((List dpDep) × Int × Int)) (fun s => [(0, S2 n2), (1, I6 a3), (8, I6 (W6 (a4 - a3))), (9, .box [.int .u64 s.2.1]), (10, .int .u64 w10), (11, I6 s.2.2), (2000000, .obj 33 2 (List.map e_dpDep s.1))]) (fun m0 s => sl_breakPatternsCmpFunc_dpDep_l1 n2 a3 a4 w10 m0 s.1 s.2.1 s.2.2 = some r) (fun s h => ?_) (fun m1 s h hN1 => ?_) fuel (a1, (IntKind.wrap .u64 (W6 (a4 - a3))), (W6 ((W6 (a3 + (W6 ((W6 (((W6 (a4 - a3))).tdiv 4)) * 2)))) - 1))) h
    · obtain ⟨v12, v13, v14⟩ := s
      have h : sl_breakPatternsCmpFunc_dpDep_l1 n2 a3 a4 w10 0 v12 v13 v14 = some r := h
      rw [sl_breakPatternsCmpFunc_dpDep_l1.eq_1] at h
      cases h
    · obtain ⟨v12, v13, v14⟩ := s
      have h : sl_breakPatternsCmpFunc_dpDep_l1 n2 a3 a4 w10 (m1 + 1) v12 v13 v14 = some r := h
      rw [sl_breakPatternsCmpFunc_dpDep_l1.eq_2] at h
      refine W.seq ?_
      refine W.seq ?_
      refine W.regT [0, 1, 8, 9, 10, 11, 35, 2000000] [] [] [] (e2 := [(0, S2 n2), (1, I6 a3), (8, I6 (W6 (a4 - a3))), (9, .box [.int .u64 v13]), (10, .int .u64 w10), (11, I6 v14), (35, .bool (decide (v14 ≤ (W6 ((W6 (a3 + (W6 ((W6 (((W6 (a4 - a3))).tdiv 4)) * 2)))) + 1))))), O2 v12]) (by kernel_rfl) (by kernel_rfl) (fun _ h => h) ?_
      refine W.condB (decide (v14 ≤ (W6 ((W6 (a3 + (W6 ((W6 (((W6 (a4 - a3))).tdiv 4)) * 2)))) + 1)))) (by kernel_rfl) (fun hb => ?_) (fun hb => ?_)
      · replace h := cond_t hb h
        refine W.skip ?_
        refine W.weak [0, 1, 8, 9, 10, 11, 2000000] [] [] [] (env' := [(0, S2 n2), (1, I6 a3), (8, I6 (W6 (a4 - a3))), (9, .box [.int .u64 v13]), (10, .int .u64 w10), (11, I6 v14), O2 v12]) (by kernel_rfl) ?_
        refine W.seq ?_
        refine W.block ?_
        refine W.seq ?_
        refine W.region (by kernel_rfl) ?_
        obtain ⟨w19, hw19, h⟩ := bind_some h
        refine WO.callMK 0 [(9, 2000000)] [] (F := 116) (args := [.pb 2000000 0]) (hp := [(2000000, .box [.int .u64 v13])]) (hp2 := [(2000000, .box [.int .u64 w19.2])]) (r := .int .u64 w19.1) (by kernel_rfl) (run_sl_xorshift_Next v13 w19 hw19) (e1 := [(0, S2 n2), (1, I6 a3), (8, I6 (W6 (a4 - a3))), (9, .box [.int .u64 w19.2]), (10, .int .u64 w10), (11, I6 v14), (38, .int .u64 w19.1), O2 v12]) (by kernel_rfl) ?_
        refine WO.fin [0, 1, 8, 9, 10, 11, 12, 2000000] [] [] [] (e2 := [(0, S2 n2), (1, I6 a3), (8, I6 (W6 (a4 - a3))), (9, .box [.int .u64 w19.2]), (10, .int .u64 w10), (11, I6 v14), (12, I6 (W6 (iAnd .u64 w19.1 (IntKind.wrap .u64 (w10 - 1))))), O2 v12]) (by kernel_rfl) (fun _ h => h) ?_
        refine W.seq ?_
        refine W.join (σ := (Int)) (fun s => [(0, S2 n2), (1, I6 a3), (8, I6 (W6 (a4 - a3))), (9, .box [.int .u64 w19.2]), (10, .int .u64 w10), (11, I6 v14), (12, I6 s), O2 v12]) (fun s => (sl_breakPatternsCmpFunc_dpDep_j20 n2 a3 v12 v14 w19 (sl_breakPatternsCmpFunc_dpDep_l1 n2 a3 a4 w10 m1)) s = some r) (fun s h => ?_) (fun hK20 => ?_)
        · obtain ⟨v22, rfl⟩ : ∃ x, x = s := ⟨s, rfl⟩
          have h : (sl_breakPatternsCmpFunc_dpDep_j20 n2 a3 v12 v14 w19 (sl_breakPatternsCmpFunc_dpDep_l1 n2 a3 a4 w10 m1)) v22 = some r := h
          unfold sl_breakPatternsCmpFunc_dpDep_j20 at h
          refine W.region (by kernel_rfl) ?_
          obtain ⟨hc23, h⟩ := chk_some h
          refine WO.pureK 10 (if (0 : Int) ≤ (W6 (a3 + v22)) ∧ (W6 (a3 + v22)) < ((n2 : Nat) : Int) then some (.pe 2000000 2 (0 + Int.toNat (W6 (a3 + v22))) 0) else none) (v := .pe 2000000 2 (0 + Int.toNat (W6 (a3 + v22))) 0) (by kernel_rfl) (ite_some hc23) (e1 := [(0, S2 n2), (1, I6 a3), (8, I6 (W6 (a4 - a3))), (9, .box [.int .u64 w19.2]), (10, .int .u64 w10), (11, I6 v14), (12, I6 v22), (49, S2 n2), (50, I6 v14), (51, S2 n2), (52, I6 a3), (53, I6 v22), (54, I6 (W6 (a3 + v22))), (55, S2 n2), (56, I6 a3), (57, I6 v22), (58, I6 (W6 (a3 + v22))), (59, .pe 2000000 2 (0 + Int.toNat (W6 (a3 + v22))) 0), O2 v12]) (by kernel_rfl) ?_
          obtain ⟨e24, he24, h⟩ := bind_some h
          refine WO.pureK 0 (match (List.map e_dpDep v12)[(0 + Int.toNat (W6 (a3 + v22)))]? with | some y => cut Try.prog 33 (y.cells.map AV.strip) 0 | none => none) (v := .agg [I6 e24.f_From, I6 e24.f_To]) (by kernel_rfl) ((pe_ld (f := e_dpDep) (G := (fun y => cut Try.prog 33 (y.cells.map AV.strip) 0)) he24).trans (by kernel_rfl)) (e1 := [(0, S2 n2), (1, I6 a3), (8, I6 (W6 (a4 - a3))), (9, .box [.int .u64 w19.2]), (10, .int .u64 w10), (11, I6 v14), (12, I6 v22), (49, S2 n2), (50, I6 v14), (51, S2 n2), (52, I6 a3), (53, I6 v22), (54, I6 (W6 (a3 + v22))), (55, S2 n2), (56, I6 a3), (57, I6 v22), (58, I6 (W6 (a3 + v22))), (59, .pe 2000000 2 (0 + Int.toNat (W6 (a3 + v22))) 0), (60, .agg [I6 e24.f_From, I6 e24.f_To]), O2 v12]) (by kernel_rfl) ?_
          obtain ⟨hc25, h⟩ := chk_some h
          refine WO.pureK 2 (if (0 : Int) ≤ v14 ∧ v14 < ((n2 : Nat) : Int) then some (.pe 2000000 2 (0 + Int.toNat v14) 0) else none) (v := .pe 2000000 2 (0 + Int.toNat v14) 0) (by kernel_rfl) (ite_some hc25) (e1 := [(0, S2 n2), (1, I6 a3), (8, I6 (W6 (a4 - a3))), (9, .box [.int .u64 w19.2]), (10, .int .u64 w10), (11, I6 v14), (12, I6 v22), (49, S2 n2), (50, I6 v14), (51, S2 n2), (52, I6 a3), (53, I6 v22), (54, I6 (W6 (a3 + v22))), (55, S2 n2), (56, I6 a3), (57, I6 v22), (58, I6 (W6 (a3 + v22))), (59, .pe 2000000 2 (0 + Int.toNat (W6 (a3 + v22))) 0), (60, .agg [I6 e24.f_From, I6 e24.f_To]), (61, S2 n2), (62, I6 v14), (63, .pe 2000000 2 (0 + Int.toNat v14) 0), O2 v12]) (by kernel_rfl) ?_
          obtain ⟨e26, he26, h⟩ := bind_some h
          refine WO.pureK 0 (match (List.map e_dpDep v12)[(0 + Int.toNat v14)]? with | some y => cut Try.prog 33 (y.cells.map AV.strip) 0 | none => none) (v := .agg [I6 e26.f_From, I6 e26.f_To]) (by kernel_rfl) ((pe_ld (f := e_dpDep) (G := (fun y => cut Try.prog 33 (y.cells.map AV.strip) 0)) he26).trans (by kernel_rfl)) (e1 := [(0, S2 n2), (1, I6 a3), (8, I6 (W6 (a4 - a3))), (9, .box [.int .u64 w19.2]), (10, .int .u64 w10), (11, I6 v14), (12, I6 v22), (49, S2 n2), (50, I6 v14), (51, S2 n2), (52, I6 a3), (53, I6 v22), (54, I6 (W6 (a3 + v22))), (55, S2 n2), (56, I6 a3), (57, I6 v22), (58, I6 (W6 (a3 + v22))), (59, .pe 2000000 2 (0 + Int.toNat (W6 (a3 + v22))) 0), (60, .agg [I6 e24.f_From, I6 e24.f_To]), (61, S2 n2), (62, I6 v14), (63, .pe 2000000 2 (0 + Int.toNat v14) 0), (64, .agg [I6 e26.f_From, I6 e26.f_To]), O2 v12]) (by kernel_rfl) ?_
          obtain ⟨hc27, h⟩ := chk_some h
          refine WO.pureK 0 (if (0 : Int) ≤ v14 ∧ v14 < ((n2 : Nat) : Int) then some (.pe 2000000 2 (0 + Int.toNat v14) 0) else none) (v := .pe 2000000 2 (0 + Int.toNat v14) 0) (by kernel_rfl) (ite_some hc27) (e1 := [(0, S2 n2), (1, I6 a3), (8, I6 (W6 (a4 - a3))), (9, .box [.int .u64 w19.2]), (10, .int .u64 w10), (11, I6 v14), (12, I6 v22), (49, S2 n2), (50, I6 v14), (51, S2 n2), (52, I6 a3), (53, I6 v22), (54, I6 (W6 (a3 + v22))), (55, S2 n2), (56, I6 a3), (57, I6 v22), (58, I6 (W6 (a3 + v22))), (59, .pe 2000000 2 (0 + Int.toNat (W6 (a3 + v22))) 0), (60, .agg [I6 e24.f_From, I6 e24.f_To]), (61, S2 n2), (62, I6 v14), (63, .pe 2000000 2 (0 + Int.toNat v14) 0), (64, .agg [I6 e26.f_From, I6 e26.f_To]), (65, .pe 2000000 2 (0 + Int.toNat v14) 0), O2 v12]) (by kernel_rfl) ?_
          obtain ⟨u28, hu28, h⟩ := bind_some h
          obtain ⟨y29, hyy29, hzy29⟩ := upd_some hu28
          refine WO.storeK 0 (id := 2000000) (e := 33) (s := 2) (j := (0 + Int.toNat v14)) (off := 0) (vs := [I6 e24.f_From, I6 e24.f_To]) (xs := (List.map e_dpDep v12)) (zs := (List.map e_dpDep u28)) (y := (e_dpDep) y29) (y' := (e_dpDep) e24) (by kernel_rfl) (upd_get hyy29) (by kernel_rfl) (upd_set hzy29) (e1 := [(0, S2 n2), (1, I6 a3), (8, I6 (W6 (a4 - a3))), (9, .box [.int .u64 w19.2]), (10, .int .u64 w10), (11, I6 v14), (12, I6 v22), (49, S2 n2), (50, I6 v14), (51, S2 n2), (52, I6 a3), (53, I6 v22), (54, I6 (W6 (a3 + v22))), (55, S2 n2), (56, I6 a3), (57, I6 v22), (58, I6 (W6 (a3 + v22))), (59, .pe 2000000 2 (0 + Int.toNat (W6 (a3 + v22))) 0), (60, .agg [I6 e24.f_From, I6 e24.f_To]), (61, S2 n2), (62, I6 v14), (63, .pe 2000000 2 (0 + Int.toNat v14) 0), (64, .agg [I6 e26.f_From, I6 e26.f_To]), (65, .pe 2000000 2 (0 + Int.toNat v14) 0), O2 u28]) (by kernel_rfl) ?_
          obtain ⟨hc30, h⟩ := chk_some h
          refine WO.pureK 0 (if (0 : Int) ≤ (W6 (a3 + v22)) ∧ (W6 (a3 + v22)) < ((n2 : Nat) : Int) then some (.pe 2000000 2 (0 + Int.toNat (W6 (a3 + v22))) 0) else none) (v := .pe 2000000 2 (0 + Int.toNat (W6 (a3 + v22))) 0) (by kernel_rfl) (ite_some hc30) (e1 := [(0, S2 n2), (1, I6 a3), (8, I6 (W6 (a4 - a3))), (9, .box [.int .u64 w19.2]), (10, .int .u64 w10), (11, I6 v14), (12, I6 v22), (49, S2 n2), (50, I6 v14), (51, S2 n2), (52, I6 a3), (53, I6 v22), (54, I6 (W6 (a3 + v22))), (55, S2 n2), (56, I6 a3), (57, I6 v22), (58, I6 (W6 (a3 + v22))), (59, .pe 2000000 2 (0 + Int.toNat (W6 (a3 + v22))) 0), (60, .agg [I6 e24.f_From, I6 e24.f_To]), (61, S2 n2), (62, I6 v14), (63, .pe 2000000 2 (0 + Int.toNat v14) 0), (64, .agg [I6 e26.f_From, I6 e26.f_To]), (65, .pe 2000000 2 (0 + Int.toNat v14) 0), (66, .pe 2000000 2 (0 + Int.toNat (W6 (a3 + v22))) 0), O2 u28]) (by kernel_rfl) ?_
          obtain ⟨u31, hu31, h⟩ := bind_some h
          obtain ⟨y32, hyy32, hzy32⟩ := upd_some hu31
          refine WO.storeK 0 (id := 2000000) (e := 33) (s := 2) (j := (0 + Int.toNat (W6 (a3 + v22)))) (off := 0) (vs := [I6 e26.f_From, I6 e26.f_To]) (xs := (List.map e_dpDep u28)) (zs := (List.map e_dpDep u31)) (y := (e_dpDep) y32) (y' := (e_dpDep) e26) (by kernel_rfl) (upd_get hyy32) (by kernel_rfl) (upd_set hzy32) (e1 := [(0, S2 n2), (1, I6 a3), (8, I6 (W6 (a4 - a3))), (9, .box [.int .u64 w19.2]), (10, .int .u64 w10), (11, I6 v14), (12, I6 v22), (49, S2 n2), (50, I6 v14), (51, S2 n2), (52, I6 a3), (53, I6 v22), (54, I6 (W6 (a3 + v22))), (55, S2 n2), (56, I6 a3), (57, I6 v22), (58, I6 (W6 (a3 + v22))), (59, .pe 2000000 2 (0 + Int.toNat (W6 (a3 + v22))) 0), (60, .agg [I6 e24.f_From, I6 e24.f_To]), (61, S2 n2), (62, I6 v14), (63, .pe 2000000 2 (0 + Int.toNat v14) 0), (64, .agg [I6 e26.f_From, I6 e26.f_To]), (65, .pe 2000000 2 (0 + Int.toNat v14) 0), (66, .pe 2000000 2 (0 + Int.toNat (W6 (a3 + v22))) 0), O2 u31]) (by kernel_rfl) ?_
          refine WO.fin [0, 1, 8, 9, 10, 11, 2000000] [] [] [] (e2 := [(0, S2 n2), (1, I6 a3), (8, I6 (W6 (a4 - a3))), (9, .box [.int .u64 w19.2]), (10, .int .u64 w10), (11, I6 v14), O2 u31]) (by kernel_rfl) (fun _ h => h) ?_
          refine W.regT [0, 1, 8, 9, 10, 11, 2000000] [] [] [] (e2 := [(0, S2 n2), (1, I6 a3), (8, I6 (W6 (a4 - a3))), (9, .box [.int .u64 w19.2]), (10, .int .u64 w10), (11, I6 (W6 (v14 + 1))), O2 u31]) (by kernel_rfl) (by kernel_rfl) (fun _ h => h) ?_
          exact hN1 (u31, w19.2, (W6 (v14 + 1))) h
        refine W.seq ?_
        refine W.regT [0, 1, 8, 9, 10, 11, 12, 45, 2000000] [] [] [] (e2 := [(0, S2 n2), (1, I6 a3), (8, I6 (W6 (a4 - a3))), (9, .box [.int .u64 w19.2]), (10, .int .u64 w10), (11, I6 v14), (12, I6 (W6 (iAnd .u64 w19.1 (IntKind.wrap .u64 (w10 - 1))))), (45, .bool (decide ((W6 (iAnd .u64 w19.1 (IntKind.wrap .u64 (w10 - 1)))) ≥ (W6 (a4 - a3))))), O2 v12]) (by kernel_rfl) (by kernel_rfl) (fun _ h => h) ?_
        refine W.condB (decide ((W6 (iAnd .u64 w19.1 (IntKind.wrap .u64 (w10 - 1)))) ≥ (W6 (a4 - a3)))) (by kernel_rfl) (fun hb => ?_) (fun hb => ?_)
        · replace h := cond_t hb h
          refine W.regT [0, 1, 8, 9, 10, 11, 12, 2000000] [] [] [] (e2 := [(0, S2 n2), (1, I6 a3), (8, I6 (W6 (a4 - a3))), (9, .box [.int .u64 w19.2]), (10, .int .u64 w10), (11, I6 v14), (12, I6 (W6 ((W6 (iAnd .u64 w19.1 (IntKind.wrap .u64 (w10 - 1)))) - (W6 (a4 - a3))))), O2 v12]) (by kernel_rfl) (by kernel_rfl) (fun _ h => h) ?_
          exact hK20 (W6 ((W6 (iAnd .u64 w19.1 (IntKind.wrap .u64 (w10 - 1)))) - (W6 (a4 - a3)))) h
        replace h := cond_f hb h
        refine W.skip ?_
        refine W.weak [0, 1, 8, 9, 10, 11, 12, 2000000] [] [] [] (env' := [(0, S2 n2), (1, I6 a3), (8, I6 (W6 (a4 - a3))), (9, .box [.int .u64 w19.2]), (10, .int .u64 w10), (11, I6 v14), (12, I6 (W6 (iAnd .u64 w19.1 (IntKind.wrap .u64 (w10 - 1))))), O2 v12]) (by kernel_rfl) ?_
        exact hK20 (W6 (iAnd .u64 w19.1 (IntKind.wrap .u64 (w10 - 1)))) h
      replace h := cond_f hb h
      have hr : PostM Try.prog Try.f105 (.tup []) [O2 v12] .normal [(0, S2 n2), (1, I6 a3), (8, I6 (W6 (a4 - a3))), (9, .box [.int .u64 v13]), (10, .int .u64 w10), (11, I6 v14), (35, .bool (decide (v14 ≤ (W6 ((W6 (a3 + (W6 ((W6 (((W6 (a4 - a3))).tdiv 4)) * 2)))) + 1))))), O2 v12] := ⟨by kernel_rfl, by kernel_rfl⟩
      cases h
      exact W.exit hr
  replace h := cond_f hb h
  have hr : PostM Try.prog Try.f105 (.tup []) [O2 a1] .normal [(0, S2 n2), (1, I6 a3), (8, I6 (W6 (a4 - a3))), (17, .bool (decide ((W6 (a4 - a3)) ≥ 8))), O2 a1] := ⟨by kernel_rfl, by kernel_rfl⟩
  cases h
  exact W.skip hr
def sl_order2CmpFunc_dpDep (a1 : (List dpDep)) (a2 : Int) (a3 : Int) (p4 : Int) (g5 : (dpDep → dpDep → Option Int)) : Option ((Int × Int) × Int) :=
  ((idx a1 a3).bind fun e9 => ((idx a1 a2).bind fun e10 => ((g5 e9 e10).bind fun w11 => (bif (decide (w11 < 0)) then (some ((a3, a2), (IntKind.wrap .i64 (p4 + 1)))) else (some ((a2, a3), p4))))))
theorem run_sl_order2CmpFunc_dpDep (a1 : (List dpDep)) (a2 : Int) (a3 : Int) (p4 : Int) (g5 : (dpDep → dpDep → Option Int)) (F_g5 : Nat) (C_g5 : List AV) (hok_g5 : okFn Try.prog F_g5 = true) (hrun_g5 : ∀ (x0 : dpDep) (x1 : dpDep) r, g5 x0 x1 = some r → Run Try.prog (.call F_g5 ([.agg [I6 x0.f_From, I6 x0.f_To], .agg [I6 x1.f_From, I6 x1.f_To]] ++ C_g5) (I6 r))) (r : ((Int × Int) × Int)) (h : sl_order2CmpFunc_dpDep a1 a2 a3 p4 g5 = some r) : Run Try.prog (.callM 120 [l33 none a1, I6 a2, I6 a3, .pb 2000003 0, .clo F_g5 C_g5] [(2000003, .box [I6 p4])] (.tup [I6 r.1.1, I6 r.1.2]) [(2000003, .box [I6 r.2])]) := by
  refine callM_of_W Try.func120 rfl (by kernel_rfl) (env0 := [(0, l33 none a1), (1, I6 a2), (2, I6 a3), (3, .pb 2000003 0), (4, .clo F_g5 C_g5), (2000003, .box [I6 p4])]) (by kernel_rfl) ?_
  unfold sl_order2CmpFunc_dpDep at h
  refine W.seq ?_
  refine W.regT [0, 1, 2, 3, 4, 2000003] [] [] [] (e2 := [(0, l33 none a1), (1, I6 a2), (2, I6 a3), (3, .pb 2000003 0), (4, .clo F_g5 C_g5), (2000003, .box [I6 p4])]) (by kernel_rfl) (by kernel_rfl) (fun _ h => h) ?_
  refine W.seq ?_
  refine W.seq ?_
  refine W.region (by kernel_rfl) ?_
  obtain ⟨e9, he9, h⟩ := bind_some h
  refine WO.pureK 3 (if (0 : Int) ≤ a3 then ((List.map e_dpDep a1)[Int.toNat a3]?).map AV.ptr else none) (v := .ptr (.agg [I6 e9.f_From, I6 e9.f_To])) (by kernel_rfl) (idx_av (f := e_dpDep) he9) (e1 := [(0, l33 none a1), (1, I6 a2), (2, I6 a3), (3, .pb 2000003 0), (4, .clo F_g5 C_g5), (12, .clo F_g5 C_g5), (13, l33 none a1), (14, I6 a3), (15, .ptr (.agg [I6 e9.f_From, I6 e9.f_To])), (2000003, .box [I6 p4])]) (by kernel_rfl) ?_
  obtain ⟨e10, he10, h⟩ := bind_some h
  refine WO.pureK 3 (if (0 : Int) ≤ a2 then ((List.map e_dpDep a1)[Int.toNat a2]?).map AV.ptr else none) (v := .ptr (.agg [I6 e10.f_From, I6 e10.f_To])) (by kernel_rfl) (idx_av (f := e_dpDep) he10) (e1 := [(0, l33 none a1), (1, I6 a2), (2, I6 a3), (3, .pb 2000003 0), (4, .clo F_g5 C_g5), (12, .clo F_g5 C_g5), (13, l33 none a1), (14, I6 a3), (15, .ptr (.agg [I6 e9.f_From, I6 e9.f_To])), (16, .agg [I6 e9.f_From, I6 e9.f_To]), (17, l33 none a1), (18, I6 a2), (19, .ptr (.agg [I6 e10.f_From, I6 e10.f_To])), (2000003, .box [I6 p4])]) (by kernel_rfl) ?_
  obtain ⟨w11, hw11, h⟩ := bind_some h
  refine WO.callK 1 (F := F_g5) (l := [.agg [I6 e9.f_From, I6 e9.f_To], .agg [I6 e10.f_From, I6 e10.f_To]]) (C := C_g5) (r := I6 w11) (by kernel_rfl) hok_g5 (hrun_g5 e9 e10 w11 hw11) (e1 := [(0, l33 none a1), (1, I6 a2), (2, I6 a3), (3, .pb 2000003 0), (4, .clo F_g5 C_g5), (12, .clo F_g5 C_g5), (13, l33 none a1), (14, I6 a3), (15, .ptr (.agg [I6 e9.f_From, I6 e9.f_To])), (16, .agg [I6 e9.f_From, I6 e9.f_To]), (17, l33 none a1), (18, I6 a2), (19, .ptr (.agg [I6 e10.f_From, I6 e10.f_To])), (20, .agg [I6 e10.f_From, I6 e10.f_To]), (21, I6 w11), (2000003, .box [I6 p4])]) (by kernel_rfl) ?_
  refine WO.fin [1, 2, 3, 22, 2000003] [] [] [] (e2 := [(1, I6 a2), (2, I6 a3), (3, .pb 2000003 0), (22, .bool (decide (w11 < 0))), (2000003, .box [I6 p4])]) (by kernel_rfl) (fun _ h => h) ?_
  refine W.condB (decide (w11 < 0)) (by kernel_rfl) (fun hb => ?_) (fun hb => ?_)
  · replace h := cond_t hb h
    refine W.seq ?_
    refine W.regT [1, 2, 2000003] [] [] [] (e2 := [(1, I6 a2), (2, I6 a3), (2000003, .box [I6 (W6 (p4 + 1))])]) (by kernel_rfl) (by kernel_rfl) (fun _ h => h) ?_
    refine W.seq ?_
    refine W.regT [10, 11, 2000003] [] [] [] (e2 := [(10, I6 a3), (11, I6 a2), (2000003, .box [I6 (W6 (p4 + 1))])]) (by kernel_rfl) (by kernel_rfl) (fun _ h => h) ?_
    refine W.weak [10, 11, 2000003] [] [] [] (env' := [(10, I6 a3), (11, I6 a2), (2000003, .box [I6 (W6 (p4 + 1))])]) (by kernel_rfl) ?_
    have hr : PostM Try.prog Try.f120 (.tup [I6 a3, I6 a2]) [(2000003, .box [I6 (W6 (p4 + 1))])] .ret [(10, I6 a3), (11, I6 a2), (2000003, .box [I6 (W6 (p4 + 1))])] := ⟨by kernel_rfl, by kernel_rfl⟩
    cases h
    exact W.ret hr
  replace h := cond_f hb h
  refine W.skip ?_
  refine W.weak [1, 2, 2000003] [] [] [] (env' := [(1, I6 a2), (2, I6 a3), (2000003, .box [I6 p4])]) (by kernel_rfl) ?_
  refine W.seq ?_
  refine W.regT [10, 11, 2000003] [] [] [] (e2 := [(10, I6 a2), (11, I6 a3), (2000003, .box [I6 p4])]) (by kernel_rfl) (by kernel_rfl) (fun _ h => h) ?_
  refine W.weak [10, 11, 2000003] [] [] [] (env' := [(10, I6 a2), (11, I6 a3), (2000003, .box [I6 p4])]) (by kernel_rfl) ?_
  have hr : PostM Try.prog Try.f120 (.tup [I6 a2, I6 a3]) [(2000003, .box [I6 p4])] .ret [(10, I6 a2), (11, I6 a3), (2000003, .box [I6 p4])] := ⟨by kernel_rfl, by kernel_rfl⟩
  cases h
  exact W.ret hr
def sl_medianCmpFunc_dpDep (a1 : (List dpDep)) (a2 : Int) (a3 : Int) (a4 : Int) (p5 : Int) (g6 : (dpDep → dpDep → Option Int)) : Option (Int × Int) :=
  ((sl_order2CmpFunc_dpDep a1 a2 a3 p5 g6).bind fun w9 => ((sl_order2CmpFunc_dpDep a1 w9.1.2 a4 w9.2 g6).bind fun w11 => ((sl_order2CmpFunc_dpDep a1 w9.1.1 w11.1.1 w11.2 g6).bind fun w13 => (some (w13.1.2, w13.2)))))
theorem run_sl_medianCmpFunc_dpDep (a1 : (List dpDep)) (a2 : Int) (a3 : Int) (a4 : Int) (p5 : Int) (g6 : (dpDep → dpDep → Option Int)) (F_g6 : Nat) (C_g6 : List AV) (hok_g6 : okFn Try.prog F_g6 = true) (hrun_g6 : ∀ (x0 : dpDep) (x1 : dpDep) r, g6 x0 x1 = some r → Run Try.prog (.call F_g6 ([.agg [I6 x0.f_From, I6 x0.f_To], .agg [I6 x1.f_From, I6 x1.f_To]] ++ C_g6) (I6 r))) (r : (Int × Int)) (h : sl_medianCmpFunc_dpDep a1 a2 a3 a4 p5 g6 = some r) : Run Try.prog (.callM 118 [l33 none a1, I6 a2, I6 a3, I6 a4, .pb 2000004 0, .clo F_g6 C_g6] [(2000004, .box [I6 p5])] (I6 r.1) [(2000004, .box [I6 r.2])]) := by
  refine callM_of_W Try.func118 rfl (by kernel_rfl) (env0 := [(0, l33 none a1), (1, I6 a2), (2, I6 a3), (3, I6 a4), (4, .pb 2000004 0), (5, .clo F_g6 C_g6), (2000004, .box [I6 p5])]) (by kernel_rfl) ?_
  unfold sl_medianCmpFunc_dpDep at h
  refine W.seq ?_
  refine W.regT [0, 1, 2, 3, 4, 5, 2000004] [] [] [] (e2 := [(0, l33 none a1), (1, I6 a2), (2, I6 a3), (3, I6 a4), (4, .pb 2000004 0), (5, .clo F_g6 C_g6), (2000004, .box [I6 p5])]) (by kernel_rfl) (by kernel_rfl) (fun _ h => h) ?_
  refine W.seq ?_
  refine W.region (by kernel_rfl) ?_
  obtain ⟨w9, hw9, h⟩ := bind_some h
  refine WO.callMK 5 [(2000004, 2000003)] [] (F := 120) (args := [l33 none a1, I6 a2, I6 a3, .pb 2000003 0, .clo F_g6 C_g6]) (hp := [(2000003, .box [I6 p5])]) (hp2 := [(2000003, .box [I6 w9.2])]) (r := .tup [I6 w9.1.1, I6 w9.1.2]) (by kernel_rfl) (run_sl_order2CmpFunc_dpDep a1 a2 a3 p5 g6 F_g6 C_g6 hok_g6 hrun_g6 w9 hw9) (e1 := [(0, l33 none a1), (1, I6 a2), (2, I6 a3), (3, I6 a4), (4, .pb 2000004 0), (5, .clo F_g6 C_g6), (14, l33 none a1), (15, I6 a2), (16, I6 a3), (17, .pb 2000004 0), (18, .clo F_g6 C_g6), (19, .tup [I6 w9.1.1, I6 w9.1.2]), (2000004, .box [I6 w9.2])]) (by kernel_rfl) ?_
  refine WO.fin [0, 1, 2, 3, 4, 5, 2000004] [] [] [] (e2 := [(0, l33 none a1), (1, I6 w9.1.1), (2, I6 w9.1.2), (3, I6 a4), (4, .pb 2000004 0), (5, .clo F_g6 C_g6), (2000004, .box [I6 w9.2])]) (by kernel_rfl) (fun _ h => h) ?_
  refine W.seq ?_
  refine W.region (by kernel_rfl) ?_
  obtain ⟨w11, hw11, h⟩ := bind_some h
  refine WO.callMK 5 [(2000004, 2000003)] [] (F := 120) (args := [l33 none a1, I6 w9.1.2, I6 a4, .pb 2000003 0, .clo F_g6 C_g6]) (hp := [(2000003, .box [I6 w9.2])]) (hp2 := [(2000003, .box [I6 w11.2])]) (r := .tup [I6 w11.1.1, I6 w11.1.2]) (by kernel_rfl) (run_sl_order2CmpFunc_dpDep a1 w9.1.2 a4 w9.2 g6 F_g6 C_g6 hok_g6 hrun_g6 w11 hw11) (e1 := [(0, l33 none a1), (1, I6 w9.1.1), (2, I6 w9.1.2), (3, I6 a4), (4, .pb 2000004 0), (5, .clo F_g6 C_g6), (23, l33 none a1), (24, I6 w9.1.2), (25, I6 a4), (26, .pb 2000004 0), (27, .clo F_g6 C_g6), (28, .tup [I6 w11.1.1, I6 w11.1.2]), (2000004, .box [I6 w11.2])]) (by kernel_rfl) ?_
  refine WO.fin [0, 1, 2, 4, 5, 2000004] [] [] [] (e2 := [(0, l33 none a1), (1, I6 w9.1.1), (2, I6 w11.1.1), (4, .pb 2000004 0), (5, .clo F_g6 C_g6), (2000004, .box [I6 w11.2])]) (by kernel_rfl) (fun _ h => h) ?_
  refine W.seq ?_
  refine W.region (by kernel_rfl) ?_
  obtain ⟨w13, hw13, h⟩ := bind_some h
  refine WO.callMK 5 [(2000004, 2000003)] [] (F := 120) (args := [l33 none a1, I6 w9.1.1, I6 w11.1.1, .pb 2000003 0, .clo F_g6 C_g6]) (hp := [(2000003, .box [I6 w11.2])]) (hp2 := [(2000003, .box [I6 w13.2])]) (r := .tup [I6 w13.1.1, I6 w13.1.2]) (by kernel_rfl) (run_sl_order2CmpFunc_dpDep a1 w9.1.1 w11.1.1 w11.2 g6 F_g6 C_g6 hok_g6 hrun_g6 w13 hw13) (e1 := [(0, l33 none a1), (1, I6 w9.1.1), (2, I6 w11.1.1), (4, .pb 2000004 0), (5, .clo F_g6 C_g6), (32, l33 none a1), (33, I6 w9.1.1), (34, I6 w11.1.1), (35, .pb 2000004 0), (36, .clo F_g6 C_g6), (37, .tup [I6 w13.1.1, I6 w13.1.2]), (2000004, .box [I6 w13.2])]) (by kernel_rfl) ?_
  refine WO.fin [2, 2000004] [] [] [] (e2 := [(2, I6 w13.1.2), (2000004, .box [I6 w13.2])]) (by kernel_rfl) (fun _ h => h) ?_
  refine W.seq ?_
  refine W.regT [12, 2000004] [] [] [] (e2 := [(12, I6 w13.1.2), (2000004, .box [I6 w13.2])]) (by kernel_rfl) (by kernel_rfl) (fun _ h => h) ?_
  refine W.weak [12, 2000004] [] [] [] (env' := [(12, I6 w13.1.2), (2000004, .box [I6 w13.2])]) (by kernel_rfl) ?_
  have hr : PostM Try.prog Try.f118 (I6 w13.1.2) [(2000004, .box [I6 w13.2])] .ret [(12, I6 w13.1.2), (2000004, .box [I6 w13.2])] := ⟨by kernel_rfl, by kernel_rfl⟩
  cases h
  exact W.ret hr
def sl_medianAdjacentCmpFunc_dpDep (a1 : (List dpDep)) (a2 : Int) (p3 : Int) (g4 : (dpDep → dpDep → Option Int)) : Option (Int × Int) :=
  ((sl_medianCmpFunc_dpDep a1 (IntKind.wrap .i64 (a2 - 1)) a2 (IntKind.wrap .i64 (a2 + 1)) p3 g4).bind fun w7 => (some (w7.1, w7.2)))
theorem run_sl_medianAdjacentCmpFunc_dpDep (a1 : (List dpDep)) (a2 : Int) (p3 : Int) (g4 : (dpDep → dpDep → Option Int)) (F_g4 : Nat) (C_g4 : List AV) (hok_g4 : okFn Try.prog F_g4 = true) (hrun_g4 : ∀ (x0 : dpDep) (x1 : dpDep) r, g4 x0 x1 = some r → Run Try.prog (.call F_g4 ([.agg [I6 x0.f_From, I6 x0.f_To], .agg [I6 x1.f_From, I6 x1.f_To]] ++ C_g4) (I6 r))) (r : (Int × Int)) (h : sl_medianAdjacentCmpFunc_dpDep a1 a2 p3 g4 = some r) : Run Try.prog (.callM 117 [l33 none a1, I6 a2, .pb 2000002 0, .clo F_g4 C_g4] [(2000002, .box [I6 p3])] (I6 r.1) [(2000002, .box [I6 r.2])]) := by
  refine callM_of_W Try.func117 rfl (by kernel_rfl) (env0 := [(0, l33 none a1), (1, I6 a2), (2, .pb 2000002 0), (3, .clo F_g4 C_g4), (2000002, .box [I6 p3])]) (by kernel_rfl) ?_
  unfold sl_medianAdjacentCmpFunc_dpDep at h
  refine W.seq ?_
  refine W.regT [0, 1, 2, 3, 2000002] [] [] [] (e2 := [(0, l33 none a1), (1, I6 a2), (2, .pb 2000002 0), (3, .clo F_g4 C_g4), (2000002, .box [I6 p3])]) (by kernel_rfl) (by kernel_rfl) (fun _ h => h) ?_
  refine W.seq ?_
  refine W.region (by kernel_rfl) ?_
  obtain ⟨w7, hw7, h⟩ := bind_some h
  refine WO.callMK 8 [(2000002, 2000004)] [] (F := 118) (args := [l33 none a1, I6 (W6 (a2 - 1)), I6 a2, I6 (W6 (a2 + 1)), .pb 2000004 0, .clo F_g4 C_g4]) (hp := [(2000004, .box [I6 p3])]) (hp2 := [(2000004, .box [I6 w7.2])]) (r := I6 w7.1) (by kernel_rfl) (run_sl_medianCmpFunc_dpDep a1 (W6 (a2 - 1)) a2 (W6 (a2 + 1)) p3 g4 F_g4 C_g4 hok_g4 hrun_g4 w7 hw7) (e1 := [(0, l33 none a1), (1, I6 a2), (2, .pb 2000002 0), (3, .clo F_g4 C_g4), (9, l33 none a1), (10, I6 a2), (11, I6 (W6 (a2 - 1))), (12, I6 a2), (13, I6 a2), (14, I6 (W6 (a2 + 1))), (15, .pb 2000002 0), (16, .clo F_g4 C_g4), (17, I6 w7.1), (2000002, .box [I6 w7.2])]) (by kernel_rfl) ?_
  refine WO.fin [8, 2000002] [] [] [] (e2 := [(8, I6 w7.1), (2000002, .box [I6 w7.2])]) (by kernel_rfl) (fun _ h => h) ?_
  refine W.weak [8, 2000002] [] [] [] (env' := [(8, I6 w7.1), (2000002, .box [I6 w7.2])]) (by kernel_rfl) ?_
  have hr : PostM Try.prog Try.f117 (I6 w7.1) [(2000002, .box [I6 w7.2])] .ret [(8, I6 w7.1), (2000002, .box [I6 w7.2])] := ⟨by kernel_rfl, by kernel_rfl⟩
  cases h
  exact W.ret hr
def sl_choosePivotCmpFunc_dpDep_j11 (v25 : Int) (v26 : Int) : Option (Int × Int) :=
  (bif (v25 == 0) then (some (v26, 1)) else (bif (v25 == 12) then (some (v26, 2)) else (some (v26, 0))))
def sl_choosePivotCmpFunc_dpDep_j13 (a1 : (List dpDep)) (g4 : (dpDep → dpDep → Option Int)) (K11 : (Int → Int → Option (Int × Int))) (v20 : Int) (v21 : Int) (v22 : Int) (v23 : Int) : Option (Int × Int) :=
  ((sl_medianCmpFunc_dpDep a1 v21 v22 v23 v20 g4).bind fun w24 => (K11 w24.2 w24.1))
def sl_choosePivotCmpFunc_dpDep (a1 : (List dpDep)) (a2 : Int) (a3 : Int) (g4 : (dpDep → dpDep → Option Int)) : Option (Int × Int) :=
  (bif (decide ((IntKind.wrap .i64 (a3 - a2)) ≥ 8)) then (bif (decide ((IntKind.wrap .i64 (a3 - a2)) ≥ 50)) then ((sl_medianAdjacentCmpFunc_dpDep a1 (IntKind.wrap .i64 (a2 + (IntKind.wrap .i64 ((IntKind.wrap .i64 (((IntKind.wrap .i64 (a3 - a2))).tdiv 4)) * 1)))) 0 g4).bind fun w16 => ((sl_medianAdjacentCmpFunc_dpDep a1 (IntKind.wrap .i64 (a2 + (IntKind.wrap .i64 ((IntKind.wrap .i64 (((IntKind.wrap .i64 (a3 - a2))).tdiv 4)) * 2)))) w16.2 g4).bind fun w18 => ((sl_medianAdjacentCmpFunc_dpDep a1 (IntKind.wrap .i64 (a2 + (IntKind.wrap .i64 ((IntKind.wrap .i64 (((IntKind.wrap .i64 (a3 - a2))).tdiv 4)) * 3)))) w18.2 g4).bind fun w19 => ((sl_choosePivotCmpFunc_dpDep_j13 a1 g4 (sl_choosePivotCmpFunc_dpDep_j11)) w19.2 w16.1 w18.1 w19.1)))) else ((sl_choosePivotCmpFunc_dpDep_j13 a1 g4 (sl_choosePivotCmpFunc_dpDep_j11)) 0 (IntKind.wrap .i64 (a2 + (IntKind.wrap .i64 ((IntKind.wrap .i64 (((IntKind.wrap .i64 (a3 - a2))).tdiv 4)) * 1)))) (IntKind.wrap .i64 (a2 + (IntKind.wrap .i64 ((IntKind.wrap .i64 (((IntKind.wrap .i64 (a3 - a2))).tdiv 4)) * 2)))) (IntKind.wrap .i64 (a2 + (IntKind.wrap .i64 ((IntKind.wrap .i64 (((IntKind.wrap .i64 (a3 - a2))).tdiv 4)) * 3)))))) else ((sl_choosePivotCmpFunc_dpDep_j11) 0 (IntKind.wrap .i64 (a2 + (IntKind.wrap .i64 ((IntKind.wrap .i64 (((IntKind.wrap .i64 (a3 - a2))).tdiv 4)) * 2))))))
theorem run_sl_choosePivotCmpFunc_dpDep (a1 : (List dpDep)) (a2 : Int) (a3 : Int) (g4 : (dpDep → dpDep → Option Int)) (F_g4 : Nat) (C_g4 : List AV) (hok_g4 : okFn Try.prog F_g4 = true) (hrun_g4 : ∀ (x0 : dpDep) (x1 : dpDep) r, g4 x0 x1 = some r → Run Try.prog (.call F_g4 ([.agg [I6 x0.f_From, I6 x0.f_To], .agg [I6 x1.f_From, I6 x1.f_To]] ++ C_g4) (I6 r))) (r : (Int × Int)) (h : sl_choosePivotCmpFunc_dpDep a1 a2 a3 g4 = some r) : Run Try.prog (.call 106 [l33 none a1, I6 a2, I6 a3, .clo F_g4 C_g4] (.tup [I6 r.1, I6 r.2])) := by
  refine call_of_W Try.func106 rfl (by kernel_rfl) (env0 := [(0, l33 none a1), (1, I6 a2), (2, I6 a3), (3, .clo F_g4 C_g4)]) (by kernel_rfl) ?_
  unfold sl_choosePivotCmpFunc_dpDep at h
  refine W.seq ?_
  refine W.regT [0, 1, 2, 3] [] [] [] (e2 := [(0, l33 none a1), (1, I6 a2), (2, I6 a3), (3, .clo F_g4 C_g4)]) (by kernel_rfl) (by kernel_rfl) (fun _ h => h) ?_
  refine W.seq ?_
  refine W.regT [0, 1, 3, 10] [] [] [] (e2 := [(0, l33 none a1), (1, I6 a2), (3, .clo F_g4 C_g4), (10, I6 (W6 (a3 - a2)))]) (by kernel_rfl) (by kernel_rfl) (fun _ h => h) ?_
  refine W.seq ?_
  refine W.regT [0, 1, 3, 10, 11] [] [] [] (e2 := [(0, l33 none a1), (1, I6 a2), (3, .clo F_g4 C_g4), (10, I6 (W6 (a3 - a2))), (11, .box [.int .i64 0])]) (by kernel_rfl) (by kernel_rfl) (fun _ h => h) ?_
  refine W.seq ?_
  refine W.regT [0, 1, 3, 10, 11, 12] [] [] [] (e2 := [(0, l33 none a1), (1, I6 a2), (3, .clo F_g4 C_g4), (10, I6 (W6 (a3 - a2))), (11, .box [.int .i64 0]), (12, I6 (W6 (a2 + (W6 ((W6 (((W6 (a3 - a2))).tdiv 4)) * 1)))))]) (by kernel_rfl) (by kernel_rfl) (fun _ h => h) ?_
  refine W.seq ?_
  refine W.regT [0, 1, 3, 10, 11, 12, 13] [] [] [] (e2 := [(0, l33 none a1), (1, I6 a2), (3, .clo F_g4 C_g4), (10, I6 (W6 (a3 - a2))), (11, .box [.int .i64 0]), (12, I6 (W6 (a2 + (W6 ((W6 (((W6 (a3 - a2))).tdiv 4)) * 1))))), (13, I6 (W6 (a2 + (W6 ((W6 (((W6 (a3 - a2))).tdiv 4)) * 2)))))]) (by kernel_rfl) (by kernel_rfl) (fun _ h => h) ?_
  refine W.seq ?_
  refine W.regT [0, 3, 10, 11, 12, 13, 14] [] [] [] (e2 := [(0, l33 none a1), (3, .clo F_g4 C_g4), (10, I6 (W6 (a3 - a2))), (11, .box [.int .i64 0]), (12, I6 (W6 (a2 + (W6 ((W6 (((W6 (a3 - a2))).tdiv 4)) * 1))))), (13, I6 (W6 (a2 + (W6 ((W6 (((W6 (a3 - a2))).tdiv 4)) * 2))))), (14, I6 (W6 (a2 + (W6 ((W6 (((W6 (a3 - a2))).tdiv 4)) * 3)))))]) (by kernel_rfl) (by kernel_rfl) (fun _ h => h) ?_
  refine W.seq ?_
  refine W.join (σ := (Int × Int)) (fun s => [(11, .ptr (I6 s.1)), (13, I6 s.2)]) (fun s => (sl_choosePivotCmpFunc_dpDep_j11) s.1 s.2 = some r) (fun s h => ?_) (fun hK11 => ?_)
  · obtain ⟨v25, v26⟩ := s
    have h : (sl_choosePivotCmpFunc_dpDep_j11) v25 v26 = some r := h
    unfold sl_choosePivotCmpFunc_dpDep_j11 at h
    refine W.seq ?_
    refine W.regT [13, 55] [] [] [] (e2 := [(13, I6 v26), (55, I6 v25)]) (by kernel_rfl) (by kernel_rfl) (fun _ h => h) ?_
    refine W.block ?_
    refine W.seq ?_
    refine W.regT [13, 55, 57] [] [] [] (e2 := [(13, I6 v26), (55, I6 v25), (57, .bool (v25 == 0))]) (by kernel_rfl) (by kernel_rfl) (fun _ h => h) ?_
    refine W.condB (v25 == 0) (by kernel_rfl) (fun hb => ?_) (fun hb => ?_)
    · replace h := cond_t hb h
      refine W.seq ?_
      refine W.regT [8, 9] [] [] [] (e2 := [(8, I6 v26), (9, .int .i64 1)]) (by kernel_rfl) (by kernel_rfl) (fun _ h => h) ?_
      refine W.weak [8, 9] [] [] [] (env' := [(8, I6 v26), (9, .int .i64 1)]) (by kernel_rfl) ?_
      have hr : aresults Try.prog Try.f106 [(8, I6 v26), (9, .int .i64 1)] = some (.tup [I6 v26, .int .i64 1]) := by kernel_rfl
      cases h
      exact W.ret hr
    replace h := cond_f hb h
    refine W.seq ?_
    refine W.regT [13, 60] [] [] [] (e2 := [(13, I6 v26), (60, .bool (v25 == 12))]) (by kernel_rfl) (by kernel_rfl) (fun _ h => h) ?_
    refine W.condB (v25 == 12) (by kernel_rfl) (fun hb => ?_) (fun hb => ?_)
    · replace h := cond_t hb h
      refine W.seq ?_
      refine W.regT [8, 9] [] [] [] (e2 := [(8, I6 v26), (9, .int .i64 2)]) (by kernel_rfl) (by kernel_rfl) (fun _ h => h) ?_
      refine W.weak [8, 9] [] [] [] (env' := [(8, I6 v26), (9, .int .i64 2)]) (by kernel_rfl) ?_
      have hr : aresults Try.prog Try.f106 [(8, I6 v26), (9, .int .i64 2)] = some (.tup [I6 v26, .int .i64 2]) := by kernel_rfl
      cases h
      exact W.ret hr
    replace h := cond_f hb h
    refine W.seq ?_
    refine W.regT [8, 9] [] [] [] (e2 := [(8, I6 v26), (9, .int .i64 0)]) (by kernel_rfl) (by kernel_rfl) (fun _ h => h) ?_
    refine W.weak [8, 9] [] [] [] (env' := [(8, I6 v26), (9, .int .i64 0)]) (by kernel_rfl) ?_
    have hr : aresults Try.prog Try.f106 [(8, I6 v26), (9, .int .i64 0)] = some (.tup [I6 v26, .int .i64 0]) := by kernel_rfl
    cases h
    exact W.ret hr
  refine W.seq ?_
  refine W.regT [0, 3, 10, 11, 12, 13, 14, 34] [] [] [] (e2 := [(0, l33 none a1), (3, .clo F_g4 C_g4), (10, I6 (W6 (a3 - a2))), (11, .box [.int .i64 0]), (12, I6 (W6 (a2 + (W6 ((W6 (((W6 (a3 - a2))).tdiv 4)) * 1))))), (13, I6 (W6 (a2 + (W6 ((W6 (((W6 (a3 - a2))).tdiv 4)) * 2))))), (14, I6 (W6 (a2 + (W6 ((W6 (((W6 (a3 - a2))).tdiv 4)) * 3))))), (34, .bool (decide ((W6 (a3 - a2)) ≥ 8)))]) (by kernel_rfl) (by kernel_rfl) (fun _ h => h) ?_
  refine W.condB (decide ((W6 (a3 - a2)) ≥ 8)) (by kernel_rfl) (fun hb => ?_) (fun hb => ?_)
  · replace h := cond_t hb h
    refine W.seq ?_
    refine W.join (σ := (Int × Int × Int × Int)) (fun s => [(0, l33 none a1), (3, .clo F_g4 C_g4), (11, .box [I6 s.1]), (12, I6 s.2.1), (13, I6 s.2.2.1), (14, I6 s.2.2.2)]) (fun s => (sl_choosePivotCmpFunc_dpDep_j13 a1 g4 (sl_choosePivotCmpFunc_dpDep_j11)) s.1 s.2.1 s.2.2.1 s.2.2.2 = some r) (fun s h => ?_) (fun hK13 => ?_)
    · obtain ⟨v20, v21, v22, v23⟩ := s
      have h : (sl_choosePivotCmpFunc_dpDep_j13 a1 g4 (sl_choosePivotCmpFunc_dpDep_j11)) v20 v21 v22 v23 = some r := h
      unfold sl_choosePivotCmpFunc_dpDep_j13 at h
      refine W.region (by kernel_rfl) ?_
      obtain ⟨w24, hw24, h⟩ := bind_some h
      refine WO.callMK 5 [(11, 2000004)] [] (F := 118) (args := [l33 none a1, I6 v21, I6 v22, I6 v23, .pb 2000004 0, .clo F_g4 C_g4]) (hp := [(2000004, .box [I6 v20])]) (hp2 := [(2000004, .box [I6 w24.2])]) (r := I6 w24.1) (by kernel_rfl) (run_sl_medianCmpFunc_dpDep a1 v21 v22 v23 v20 g4 F_g4 C_g4 hok_g4 hrun_g4 w24 hw24) (e1 := [(0, l33 none a1), (3, .clo F_g4 C_g4), (11, .box [I6 w24.2]), (12, I6 v21), (13, I6 v22), (14, I6 v23), (49, l33 none a1), (50, I6 v21), (51, I6 v22), (52, I6 v23), (53, .clo F_g4 C_g4), (54, I6 w24.1)]) (by kernel_rfl) ?_
      refine WO.fin [11, 13] [11] [] [] (e2 := [(11, .ptr (I6 w24.2)), (13, I6 w24.1)]) (by kernel_rfl) (fun _ h => h) ?_
      exact hK11 (w24.2, w24.1) h
    refine W.seq ?_
    refine W.regT [0, 3, 11, 12, 13, 14, 36] [] [] [] (e2 := [(0, l33 none a1), (3, .clo F_g4 C_g4), (11, .box [.int .i64 0]), (12, I6 (W6 (a2 + (W6 ((W6 (((W6 (a3 - a2))).tdiv 4)) * 1))))), (13, I6 (W6 (a2 + (W6 ((W6 (((W6 (a3 - a2))).tdiv 4)) * 2))))), (14, I6 (W6 (a2 + (W6 ((W6 (((W6 (a3 - a2))).tdiv 4)) * 3))))), (36, .bool (decide ((W6 (a3 - a2)) ≥ 50)))]) (by kernel_rfl) (by kernel_rfl) (fun _ h => h) ?_
    refine W.condB (decide ((W6 (a3 - a2)) ≥ 50)) (by kernel_rfl) (fun hb => ?_) (fun hb => ?_)
    · replace h := cond_t hb h
      refine W.seq ?_
      refine W.region (by kernel_rfl) ?_
      obtain ⟨w16, hw16, h⟩ := bind_some h
      refine WO.callMK 3 [(11, 2000002)] [] (F := 117) (args := [l33 none a1, I6 (W6 (a2 + (W6 ((W6 (((W6 (a3 - a2))).tdiv 4)) * 1)))), .pb 2000002 0, .clo F_g4 C_g4]) (hp := [(2000002, .box [.int .i64 0])]) (hp2 := [(2000002, .box [I6 w16.2])]) (r := I6 w16.1) (by kernel_rfl) (run_sl_medianAdjacentCmpFunc_dpDep a1 (W6 (a2 + (W6 ((W6 (((W6 (a3 - a2))).tdiv 4)) * 1)))) 0 g4 F_g4 C_g4 hok_g4 hrun_g4 w16 hw16) (e1 := [(0, l33 none a1), (3, .clo F_g4 C_g4), (11, .box [I6 w16.2]), (12, I6 (W6 (a2 + (W6 ((W6 (((W6 (a3 - a2))).tdiv 4)) * 1))))), (13, I6 (W6 (a2 + (W6 ((W6 (((W6 (a3 - a2))).tdiv 4)) * 2))))), (14, I6 (W6 (a2 + (W6 ((W6 (((W6 (a3 - a2))).tdiv 4)) * 3))))), (36, .bool (decide ((W6 (a3 - a2)) ≥ 50))), (37, l33 none a1), (38, I6 (W6 (a2 + (W6 ((W6 (((W6 (a3 - a2))).tdiv 4)) * 1))))), (39, .clo F_g4 C_g4), (40, I6 w16.1)]) (by kernel_rfl) ?_
      refine WO.fin [0, 3, 11, 12, 13, 14] [] [] [] (e2 := [(0, l33 none a1), (3, .clo F_g4 C_g4), (11, .box [I6 w16.2]), (12, I6 w16.1), (13, I6 (W6 (a2 + (W6 ((W6 (((W6 (a3 - a2))).tdiv 4)) * 2))))), (14, I6 (W6 (a2 + (W6 ((W6 (((W6 (a3 - a2))).tdiv 4)) * 3)))))]) (by kernel_rfl) (fun _ h => h) ?_
      refine W.seq ?_
      refine W.region (by kernel_rfl) ?_
      obtain ⟨w18, hw18, h⟩ := bind_some h
      refine WO.callMK 3 [(11, 2000002)] [] (F := 117) (args := [l33 none a1, I6 (W6 (a2 + (W6 ((W6 (((W6 (a3 - a2))).tdiv 4)) * 2)))), .pb 2000002 0, .clo F_g4 C_g4]) (hp := [(2000002, .box [I6 w16.2])]) (hp2 := [(2000002, .box [I6 w18.2])]) (r := I6 w18.1) (by kernel_rfl) (run_sl_medianAdjacentCmpFunc_dpDep a1 (W6 (a2 + (W6 ((W6 (((W6 (a3 - a2))).tdiv 4)) * 2)))) w16.2 g4 F_g4 C_g4 hok_g4 hrun_g4 w18 hw18) (e1 := [(0, l33 none a1), (3, .clo F_g4 C_g4), (11, .box [I6 w18.2]), (12, I6 w16.1), (13, I6 (W6 (a2 + (W6 ((W6 (((W6 (a3 - a2))).tdiv 4)) * 2))))), (14, I6 (W6 (a2 + (W6 ((W6 (((W6 (a3 - a2))).tdiv 4)) * 3))))), (41, l33 none a1), (42, I6 (W6 (a2 + (W6 ((W6 (((W6 (a3 - a2))).tdiv 4)) * 2))))), (43, .clo F_g4 C_g4), (44, I6 w18.1)]) (by kernel_rfl) ?_
      refine WO.fin [0, 3, 11, 12, 13, 14] [] [] [] (e2 := [(0, l33 none a1), (3, .clo F_g4 C_g4), (11, .box [I6 w18.2]), (12, I6 w16.1), (13, I6 w18.1), (14, I6 (W6 (a2 + (W6 ((W6 (((W6 (a3 - a2))).tdiv 4)) * 3)))))]) (by kernel_rfl) (fun _ h => h) ?_
      refine W.region (by kernel_rfl) ?_
      obtain ⟨w19, hw19, h⟩ := bind_some h
      refine WO.callMK 3 [(11, 2000002)] [] (F := 117) (args := [l33 none a1, I6 (W6 (a2 + (W6 ((W6 (((W6 (a3 - a2))).tdiv 4)) * 3)))), .pb 2000002 0, .clo F_g4 C_g4]) (hp := [(2000002, .box [I6 w18.2])]) (hp2 := [(2000002, .box [I6 w19.2])]) (r := I6 w19.1) (by kernel_rfl) (run_sl_medianAdjacentCmpFunc_dpDep a1 (W6 (a2 + (W6 ((W6 (((W6 (a3 - a2))).tdiv 4)) * 3)))) w18.2 g4 F_g4 C_g4 hok_g4 hrun_g4 w19 hw19) (e1 := [(0, l33 none a1), (3, .clo F_g4 C_g4), (11, .box [I6 w19.2]), (12, I6 w16.1), (13, I6 w18.1), (14, I6 (W6 (a2 + (W6 ((W6 (((W6 (a3 - a2))).tdiv 4)) * 3))))), (45, l33 none a1), (46, I6 (W6 (a2 + (W6 ((W6 (((W6 (a3 - a2))).tdiv 4)) * 3))))), (47, .clo F_g4 C_g4), (48, I6 w19.1)]) (by kernel_rfl) ?_
      refine WO.fin [0, 3, 11, 12, 13, 14] [] [] [] (e2 := [(0, l33 none a1), (3, .clo F_g4 C_g4), (11, .box [I6 w19.2]), (12, I6 w16.1), (13, I6 w18.1), (14, I6 w19.1)]) (by kernel_rfl) (fun _ h => h) ?_
      exact hK13 (w19.2, w16.1, w18.1, w19.1) h
    replace h := cond_f hb h
    refine W.skip ?_
    refine W.weak [0, 3, 11, 12, 13, 14] [] [] [] (env' := [(0, l33 none a1), (3, .clo F_g4 C_g4), (11, .box [.int .i64 0]), (12, I6 (W6 (a2 + (W6 ((W6 (((W6 (a3 - a2))).tdiv 4)) * 1))))), (13, I6 (W6 (a2 + (W6 ((W6 (((W6 (a3 - a2))).tdiv 4)) * 2))))), (14, I6 (W6 (a2 + (W6 ((W6 (((W6 (a3 - a2))).tdiv 4)) * 3)))))]) (by kernel_rfl) ?_
    exact hK13 (0, (W6 (a2 + (W6 ((W6 (((W6 (a3 - a2))).tdiv 4)) * 1)))), (W6 (a2 + (W6 ((W6 (((W6 (a3 - a2))).tdiv 4)) * 2)))), (W6 (a2 + (W6 ((W6 (((W6 (a3 - a2))).tdiv 4)) * 3))))) h
  replace h := cond_f hb h
  refine W.skip ?_
  refine W.weak [11, 13] [11] [] [] (env' := [(11, .ptr (.int .i64 0)), (13, I6 (W6 (a2 + (W6 ((W6 (((W6 (a3 - a2))).tdiv 4)) * 2)))))]) (by kernel_rfl) ?_
  exact hK11 (0, (W6 (a2 + (W6 ((W6 (((W6 (a3 - a2))).tdiv 4)) * 2))))) h

end Go.AM
