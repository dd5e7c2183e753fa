/- PRINTED by gen.py: pure functions and the proofs that the code computes them. No statement of the seat is proved here. -/
import Derived.Test.YtombfedoinhafaaK184
set_option maxRecDepth 100000
set_option linter.unusedVariables false
set_option linter.unusedSimpArgs false
namespace Go.AM
open Go.Proofs
def sl_reverseRangeCmpFunc_dpDep_l1 (n2 : Nat) : Nat → (List dpDep) → Int → Int → Option (List dpDep)
  | 0, _, _, _ => none
  | m1 + 1, v8, v9, v10 => (bif (decide (v9 < v10)) then (chk (decide ((0 : Int) ≤ v10 ∧ v10 < ((n2 : Nat) : Int))) ((v8[(0 + Int.toNat v10)]?).bind fun e15 => (chk (decide ((0 : Int) ≤ v9 ∧ v9 < ((n2 : Nat) : Int))) ((v8[(0 + Int.toNat v9)]?).bind fun e17 => (chk (decide ((0 : Int) ≤ v9 ∧ v9 < ((n2 : Nat) : Int))) ((upd v8 (0 + Int.toNat v9) e15).bind fun u19 => (chk (decide ((0 : Int) ≤ v10 ∧ v10 < ((n2 : Nat) : Int))) ((upd u19 (0 + Int.toNat v10) e17).bind fun u22 => ((sl_reverseRangeCmpFunc_dpDep_l1 n2 m1) u22 (IntKind.wrap .i64 (v9 + 1)) (IntKind.wrap .i64 (v10 - 1))))))))))) else (some v8))
def sl_reverseRangeCmpFunc_dpDep (fuel : Nat) (a1 : (List dpDep)) (n2 : Nat) (a3 : Int) (a4 : Int) (g5 : (dpDep → dpDep → Option Int)) : Option (List dpDep) :=
  (sl_reverseRangeCmpFunc_dpDep_l1 n2 fuel a1 a3 (IntKind.wrap .i64 (a4 - 1)))
theorem run_sl_reverseRangeCmpFunc_dpDep (fuel : Nat) (a1 : (List dpDep)) (n2 : Nat) (a3 : Int) (a4 : Int) (g5 : (dpDep → dpDep → Option Int)) (F_g5 : Nat) (C_g5 : List AV) (hok_g5 : okFn Try.prog F_g5 = true) (hrun_g5 : ∀ (x0 : dpDep) (x1 : dpDep) r, g5 x0 x1 = some r → Run Try.prog (.call F_g5 ([.agg [I6 x0.f_From, I6 x0.f_To], .agg [I6 x1.f_From, I6 x1.f_To]] ++ C_g5) (I6 r))) (r : (List dpDep)) (h : sl_reverseRangeCmpFunc_dpDep fuel a1 n2 a3 a4 g5 = some r) : Run Try.prog (.callM 107 [S2 n2, I6 a3, I6 a4, .clo F_g5 C_g5] [O2 a1] (.tup []) [O2 r]) := by
  refine callM_of_W Try.func107 rfl (by kernel_rfl) (env0 := [(0, S2 n2), (1, I6 a3), (2, I6 a4), (3, .clo F_g5 C_g5), O2 a1]) (by kernel_rfl) ?_
  unfold sl_reverseRangeCmpFunc_dpDep at h
  refine W.seq ?_
  refine W.regT [0, 2, 8, 2000000] [] [] [] (e2 := [(0, S2 n2), (2, I6 a4), (8, I6 a3), O2 a1]) (by kernel_rfl) (by kernel_rfl) (fun _ h => h) ?_
  refine W.seq ?_
  refine W.regT [0, 8, 9, 2000000] [] [] [] (e2 := [(0, S2 n2), (8, I6 a3), (9, I6 (W6 (a4 - 1))), O2 a1]) (by kernel_rfl) (by kernel_rfl) (fun _ h => h) ?_
  refine W.block ?_
  refine W.weak [0, 8, 9, 2000000] [] [] [] (env' := [(0, S2 n2), (8, I6 a3), (9, I6 (W6 (a4 - 1))), O2 a1]) (by kernel_rfl) ?_
  refine W.fuel (σ := ((List dpDep) × Int × Int)) (fun s => [(0, S2 n2), (8, I6 s.2.1), (9, I6 s.2.2), (2000000, .obj 33 2 (List.map e_dpDep s.1))]) (fun m0 s => sl_reverseRangeCmpFunc_dpDep_l1 n2 m0 s.1 s.2.1 s.2.2 = some r) (fun s h => ?_) (fun m1 s h hN1 => ?_) fuel (a1, a3, (W6 (a4 - 1))) h
  · obtain ⟨v8, v9, v10⟩ := s
    have h : sl_reverseRangeCmpFunc_dpDep_l1 n2 0 v8 v9 v10 = some r := h
    rw [sl_reverseRangeCmpFunc_dpDep_l1.eq_1] at h
    cases h
  · obtain ⟨v8, v9, v10⟩ := s
    have h : sl_reverseRangeCmpFunc_dpDep_l1 n2 (m1 + 1) v8 v9 v10 = some r := h
    rw [sl_reverseRangeCmpFunc_dpDep_l1.eq_2] at h
    refine W.seq ?_
    refine W.seq ?_
    refine W.regT [0, 8, 9, 15, 2000000] [] [] [] (e2 := [(0, S2 n2), (8, I6 v9), (9, I6 v10), (15, .bool (decide (v9 < v10))), O2 v8]) (by kernel_rfl) (by kernel_rfl) (fun _ h => h) ?_
    refine W.condB (decide (v9 < v10)) (by kernel_rfl) (fun hb => ?_) (fun hb => ?_)
    · replace h := cond_t hb h
      refine W.skip ?_
      refine W.weak [0, 8, 9, 2000000] [] [] [] (env' := [(0, S2 n2), (8, I6 v9), (9, I6 v10), O2 v8]) (by kernel_rfl) ?_
      refine W.block ?_
      refine W.seq ?_
      refine W.region (by kernel_rfl) ?_
      obtain ⟨hc14, h⟩ := chk_some h
      refine WO.pureK 6 (if (0 : Int) ≤ v10 ∧ v10 < ((n2 : Nat) : Int) then some (.pe 2000000 2 (0 + Int.toNat v10) 0) else none) (v := .pe 2000000 2 (0 + Int.toNat v10) 0) (by kernel_rfl) (ite_some hc14) (e1 := [(0, S2 n2), (8, I6 v9), (9, I6 v10), (16, S2 n2), (17, I6 v9), (18, S2 n2), (19, I6 v10), (20, S2 n2), (21, I6 v10), (22, .pe 2000000 2 (0 + Int.toNat v10) 0), O2 v8]) (by kernel_rfl) ?_
      obtain ⟨e15, he15, h⟩ := bind_some h
      refine WO.pureK 0 (match (List.map e_dpDep v8)[(0 + Int.toNat v10)]? with | some y => cut Try.prog 33 (y.cells.map AV.strip) 0 | none => none) (v := .agg [I6 e15.f_From, I6 e15.f_To]) (by kernel_rfl) ((pe_ld (f := e_dpDep) (G := (fun y => cut Try.prog 33 (y.cells.map AV.strip) 0)) he15).trans (by kernel_rfl)) (e1 := [(0, S2 n2), (8, I6 v9), (9, I6 v10), (16, S2 n2), (17, I6 v9), (18, S2 n2), (19, I6 v10), (20, S2 n2), (21, I6 v10), (22, .pe 2000000 2 (0 + Int.toNat v10) 0), (23, .agg [I6 e15.f_From, I6 e15.f_To]), O2 v8]) (by kernel_rfl) ?_
      obtain ⟨hc16, h⟩ := chk_some h
      refine WO.pureK 2 (if (0 : Int) ≤ v9 ∧ v9 < ((n2 : Nat) : Int) then some (.pe 2000000 2 (0 + Int.toNat v9) 0) else none) (v := .pe 2000000 2 (0 + Int.toNat v9) 0) (by kernel_rfl) (ite_some hc16) (e1 := [(0, S2 n2), (8, I6 v9), (9, I6 v10), (16, S2 n2), (17, I6 v9), (18, S2 n2), (19, I6 v10), (20, S2 n2), (21, I6 v10), (22, .pe 2000000 2 (0 + Int.toNat v10) 0), (23, .agg [I6 e15.f_From, I6 e15.f_To]), (24, S2 n2), (25, I6 v9), (26, .pe 2000000 2 (0 + Int.toNat v9) 0), O2 v8]) (by kernel_rfl) ?_
      obtain ⟨e17, he17, h⟩ := bind_some h
      refine WO.pureK 0 (match (List.map e_dpDep v8)[(0 + Int.toNat v9)]? with | some y => cut Try.prog 33 (y.cells.map AV.strip) 0 | none => none) (v := .agg [I6 e17.f_From, I6 e17.f_To]) (by kernel_rfl) ((pe_ld (f := e_dpDep) (G := (fun y => cut Try.prog 33 (y.cells.map AV.strip) 0)) he17).trans (by kernel_rfl)) (e1 := [(0, S2 n2), (8, I6 v9), (9, I6 v10), (16, S2 n2), (17, I6 v9), (18, S2 n2), (19, I6 v10), (20, S2 n2), (21, I6 v10), (22, .pe 2000000 2 (0 + Int.toNat v10) 0), (23, .agg [I6 e15.f_From, I6 e15.f_To]), (24, S2 n2), (25, I6 v9), (26, .pe 2000000 2 (0 + Int.toNat v9) 0), (27, .agg [I6 e17.f_From, I6 e17.f_To]), O2 v8]) (by kernel_rfl) ?_
      obtain ⟨hc18, h⟩ := chk_some h
      refine WO.pureK 0 (if (0 : Int) ≤ v9 ∧ v9 < ((n2 : Nat) : Int) then some (.pe 2000000 2 (0 + Int.toNat v9) 0) else none) (v := .pe 2000000 2 (0 + Int.toNat v9) 0) (by kernel_rfl) (ite_some hc18) (e1 := [(0, S2 n2), (8, I6 v9), (9, I6 v10), (16, S2 n2), (17, I6 v9), (18, S2 n2), (19, I6 v10), (20, S2 n2), (21, I6 v10), (22, .pe 2000000 2 (0 + Int.toNat v10) 0), (23, .agg [I6 e15.f_From, I6 e15.f_To]), (24, S2 n2), (25, I6 v9), (26, .pe 2000000 2 (0 + Int.toNat v9) 0), (27, .agg [I6 e17.f_From, I6 e17.f_To]), (28, .pe 2000000 2 (0 + Int.toNat v9) 0), O2 v8]) (by kernel_rfl) ?_
      obtain ⟨u19, hu19, h⟩ := bind_some h
      obtain ⟨y20, hyy20, hzy20⟩ := upd_some hu19
      refine WO.storeK 0 (id := 2000000) (e := 33) (s := 2) (j := (0 + Int.toNat v9)) (off := 0) (vs := [I6 e15.f_From, I6 e15.f_To]) (xs := (List.map e_dpDep v8)) (zs := (List.map e_dpDep u19)) (y := (e_dpDep) y20) (y' := (e_dpDep) e15) (by kernel_rfl) (upd_get hyy20) (by kernel_rfl) (upd_set hzy20) (e1 := [(0, S2 n2), (8, I6 v9), (9, I6 v10), (16, S2 n2), (17, I6 v9), (18, S2 n2), (19, I6 v10), (20, S2 n2), (21, I6 v10), (22, .pe 2000000 2 (0 + Int.toNat v10) 0), (23, .agg [I6 e15.f_From, I6 e15.f_To]), (24, S2 n2), (25, I6 v9), (26, .pe 2000000 2 (0 + Int.toNat v9) 0), (27, .agg [I6 e17.f_From, I6 e17.f_To]), (28, .pe 2000000 2 (0 + Int.toNat v9) 0), O2 u19]) (by kernel_rfl) ?_
      obtain ⟨hc21, h⟩ := chk_some h
      refine WO.pureK 0 (if (0 : Int) ≤ v10 ∧ v10 < ((n2 : Nat) : Int) then some (.pe 2000000 2 (0 + Int.toNat v10) 0) else none) (v := .pe 2000000 2 (0 + Int.toNat v10) 0) (by kernel_rfl) (ite_some hc21) (e1 := [(0, S2 n2), (8, I6 v9), (9, I6 v10), (16, S2 n2), (17, I6 v9), (18, S2 n2), (19, I6 v10), (20, S2 n2), (21, I6 v10), (22, .pe 2000000 2 (0 + Int.toNat v10) 0), (23, .agg [I6 e15.f_From, I6 e15.f_To]), (24, S2 n2), (25, I6 v9), (26, .pe 2000000 2 (0 + Int.toNat v9) 0), (27, .agg [I6 e17.f_From, I6 e17.f_To]), (28, .pe 2000000 2 (0 + Int.toNat v9) 0), (29, .pe 2000000 2 (0 + Int.toNat v10) 0), O2 u19]) (by kernel_rfl) ?_
      obtain ⟨u22, hu22, h⟩ := bind_some h
      obtain ⟨y23, hyy23, hzy23⟩ := upd_some hu22
      refine WO.storeK 0 (id := 2000000) (e := 33) (s := 2) (j := (0 + Int.toNat v10)) (off := 0) (vs := [I6 e17.f_From, I6 e17.f_To]) (xs := (List.map e_dpDep u19)) (zs := (List.map e_dpDep u22)) (y := (e_dpDep) y23) (y' := (e_dpDep) e17) (by kernel_rfl) (upd_get hyy23) (by kernel_rfl) (upd_set hzy23) (e1 := [(0, S2 n2), (8, I6 v9), (9, I6 v10), (16, S2 n2), (17, I6 v9), (18, S2 n2), (19, I6 v10), (20, S2 n2), (21, I6 v10), (22, .pe 2000000 2 (0 + Int.toNat v10) 0), (23, .agg [I6 e15.f_From, I6 e15.f_To]), (24, S2 n2), (25, I6 v9), (26, .pe 2000000 2 (0 + Int.toNat v9) 0), (27, .agg [I6 e17.f_From, I6 e17.f_To]), (28, .pe 2000000 2 (0 + Int.toNat v9) 0), (29, .pe 2000000 2 (0 + Int.toNat v10) 0), O2 u22]) (by kernel_rfl) ?_
      refine WO.fin [0, 8, 9, 2000000] [] [] [] (e2 := [(0, S2 n2), (8, I6 v9), (9, I6 v10), O2 u22]) (by kernel_rfl) (fun _ h => h) ?_
      refine W.seq ?_
      refine W.regT [0, 8, 9, 2000000] [] [] [] (e2 := [(0, S2 n2), (8, I6 (W6 (v9 + 1))), (9, I6 v10), O2 u22]) (by kernel_rfl) (by kernel_rfl) (fun _ h => h) ?_
      refine W.regT [0, 8, 9, 2000000] [] [] [] (e2 := [(0, S2 n2), (8, I6 (W6 (v9 + 1))), (9, I6 (W6 (v10 - 1))), O2 u22]) (by kernel_rfl) (by kernel_rfl) (fun _ h => h) ?_
      exact hN1 (u22, (W6 (v9 + 1)), (W6 (v10 - 1))) h
    replace h := cond_f hb h
    have hr : PostM Try.prog Try.f107 (.tup []) [O2 v8] .normal [(0, S2 n2), (8, I6 v9), (9, I6 v10), (15, .bool (decide (v9 < v10))), O2 v8] := ⟨by kernel_rfl, by kernel_rfl⟩
    cases h
    exact W.exit hr
def sl_partialInsertionSortCmpFunc_dpDep_j8 (v96 : (List dpDep)) : Option (Bool × (List dpDep)) :=
  (some (false, v96))
def sl_partialInsertionSortCmpFunc_dpDep_j15 (v12 : Int) (N1 : ((List dpDep) → Int → Int → Option (Bool × (List dpDep)))) (v94 : (List dpDep)) (v95 : Int) : Option (Bool × (List dpDep)) :=
  (N1 v94 v95 (IntKind.wrap .i64 (v12 + 1)))
def sl_partialInsertionSortCmpFunc_dpDep_l4 (n2 : Nat) (a4 : Int) (g5 : (dpDep → dpDep → Option Int)) (v26 : Int) (K15 : ((List dpDep) → Int → Option (Bool × (List dpDep)))) : Nat → (List dpDep) → Int → Option (Bool × (List dpDep))
  | 0, _, _ => none
  | m4 + 1, v72, v73 => (bif (decide (v73 < a4)) then (chk (decide ((0 : Int) ≤ v73 ∧ v73 < ((n2 : Nat) : Int))) ((v72[(0 + Int.toNat v73)]?).bind fun e80 => (chk (decide ((0 : Int) ≤ (IntKind.wrap .i64 (v73 - 1)) ∧ (IntKind.wrap .i64 (v73 - 1)) < ((n2 : Nat) : Int))) ((v72[(0 + Int.toNat (IntKind.wrap .i64 (v73 - 1)))]?).bind fun e82 => ((g5 e80 e82).bind fun w83 => (bif (!(decide (w83 < 0))) then (K15 v72 v26) else (chk (decide ((0 : Int) ≤ (IntKind.wrap .i64 (v73 - 1)) ∧ (IntKind.wrap .i64 (v73 - 1)) < ((n2 : Nat) : Int))) ((v72[(0 + Int.toNat (IntKind.wrap .i64 (v73 - 1)))]?).bind fun e85 => (chk (decide ((0 : Int) ≤ v73 ∧ v73 < ((n2 : Nat) : Int))) ((v72[(0 + Int.toNat v73)]?).bind fun e87 => (chk (decide ((0 : Int) ≤ v73 ∧ v73 < ((n2 : Nat) : Int))) ((upd v72 (0 + Int.toNat v73) e85).bind fun u89 => (chk (decide ((0 : Int) ≤ (IntKind.wrap .i64 (v73 - 1)) ∧ (IntKind.wrap .i64 (v73 - 1)) < ((n2 : Nat) : Int))) ((upd u89 (0 + Int.toNat (IntKind.wrap .i64 (v73 - 1))) e87).bind fun u92 => ((sl_partialInsertionSortCmpFunc_dpDep_l4 n2 a4 g5 v26 K15 m4) u92 (IntKind.wrap .i64 (v73 + 1))))))))))))))))) else (K15 v72 v26))
def sl_partialInsertionSortCmpFunc_dpDep_j44 (fuel : Nat) (n2 : Nat) (a4 : Int) (g5 : (dpDep → dpDep → Option Int)) (v26 : Int) (K15 : ((List dpDep) → Int → Option (Bool × (List dpDep)))) (v69 : (List dpDep)) : Option (Bool × (List dpDep)) :=
  (bif (decide ((IntKind.wrap .i64 (a4 - v26)) ≥ 2)) then (sl_partialInsertionSortCmpFunc_dpDep_l4 n2 a4 g5 v26 K15 fuel v69 (IntKind.wrap .i64 (v26 + 1))) else (K15 v69 v26))
def sl_partialInsertionSortCmpFunc_dpDep_l3 (n2 : Nat) (g5 : (dpDep → dpDep → Option Int)) (K44 : ((List dpDep) → Option (Bool × (List dpDep)))) : Nat → (List dpDep) → Int → Option (Bool × (List dpDep))
  | 0, _, _ => none
  | m3 + 1, v47, v48 => (bif (decide (v48 ≥ 1)) then (chk (decide ((0 : Int) ≤ v48 ∧ v48 < ((n2 : Nat) : Int))) ((v47[(0 + Int.toNat v48)]?).bind fun e55 => (chk (decide ((0 : Int) ≤ (IntKind.wrap .i64 (v48 - 1)) ∧ (IntKind.wrap .i64 (v48 - 1)) < ((n2 : Nat) : Int))) ((v47[(0 + Int.toNat (IntKind.wrap .i64 (v48 - 1)))]?).bind fun e57 => ((g5 e55 e57).bind fun w58 => (bif (!(decide (w58 < 0))) then (K44 v47) else (chk (decide ((0 : Int) ≤ (IntKind.wrap .i64 (v48 - 1)) ∧ (IntKind.wrap .i64 (v48 - 1)) < ((n2 : Nat) : Int))) ((v47[(0 + Int.toNat (IntKind.wrap .i64 (v48 - 1)))]?).bind fun e60 => (chk (decide ((0 : Int) ≤ v48 ∧ v48 < ((n2 : Nat) : Int))) ((v47[(0 + Int.toNat v48)]?).bind fun e62 => (chk (decide ((0 : Int) ≤ v48 ∧ v48 < ((n2 : Nat) : Int))) ((upd v47 (0 + Int.toNat v48) e60).bind fun u64 => (chk (decide ((0 : Int) ≤ (IntKind.wrap .i64 (v48 - 1)) ∧ (IntKind.wrap .i64 (v48 - 1)) < ((n2 : Nat) : Int))) ((upd u64 (0 + Int.toNat (IntKind.wrap .i64 (v48 - 1))) e62).bind fun u67 => ((sl_partialInsertionSortCmpFunc_dpDep_l3 n2 g5 K44 m3) u67 (IntKind.wrap .i64 (v48 - 1))))))))))))))))) else (K44 v47))
def sl_partialInsertionSortCmpFunc_dpDep_j16 (fuel : Nat) (n2 : Nat) (a3 : Int) (a4 : Int) (g5 : (dpDep → dpDep → Option Int)) (v10 : (List dpDep)) (K15 : ((List dpDep) → Int → Option (Bool × (List dpDep)))) (v26 : Int) : Option (Bool × (List dpDep)) :=
  (bif (v26 == a4) then (some (true, v10)) else (bif (decide ((IntKind.wrap .i64 (a4 - a3)) < 50)) then (some (false, v10)) else (chk (decide ((0 : Int) ≤ (IntKind.wrap .i64 (v26 - 1)) ∧ (IntKind.wrap .i64 (v26 - 1)) < ((n2 : Nat) : Int))) ((v10[(0 + Int.toNat (IntKind.wrap .i64 (v26 - 1)))]?).bind fun e35 => (chk (decide ((0 : Int) ≤ v26 ∧ v26 < ((n2 : Nat) : Int))) ((v10[(0 + Int.toNat v26)]?).bind fun e37 => (chk (decide ((0 : Int) ≤ v26 ∧ v26 < ((n2 : Nat) : Int))) ((upd v10 (0 + Int.toNat v26) e35).bind fun u39 => (chk (decide ((0 : Int) ≤ (IntKind.wrap .i64 (v26 - 1)) ∧ (IntKind.wrap .i64 (v26 - 1)) < ((n2 : Nat) : Int))) ((upd u39 (0 + Int.toNat (IntKind.wrap .i64 (v26 - 1))) e37).bind fun u42 => (bif (decide ((IntKind.wrap .i64 (v26 - a3)) ≥ 2)) then (sl_partialInsertionSortCmpFunc_dpDep_l3 n2 g5 (sl_partialInsertionSortCmpFunc_dpDep_j44 fuel n2 a4 g5 v26 K15) fuel u42 (IntKind.wrap .i64 (v26 - 1))) else ((sl_partialInsertionSortCmpFunc_dpDep_j44 fuel n2 a4 g5 v26 K15) u42))))))))))))
def sl_partialInsertionSortCmpFunc_dpDep_j19 (v17 : Int) (N2 : (Int → Option (Bool × (List dpDep)))) (K16 : (Int → Option (Bool × (List dpDep)))) (v25 : Bool) : Option (Bool × (List dpDep)) :=
  (bif v25 then (N2 (IntKind.wrap .i64 (v17 + 1))) else (K16 v17))
def sl_partialInsertionSortCmpFunc_dpDep_l2 (n2 : Nat) (a4 : Int) (g5 : (dpDep → dpDep → Option Int)) (v10 : (List dpDep)) (K16 : (Int → Option (Bool × (List dpDep)))) : Nat → Int → Option (Bool × (List dpDep))
  | 0, _ => none
  | m2 + 1, v17 => (bif (decide (v17 < a4)) then (chk (decide ((0 : Int) ≤ v17 ∧ v17 < ((n2 : Nat) : Int))) ((v10[(0 + Int.toNat v17)]?).bind fun e21 => (chk (decide ((0 : Int) ≤ (IntKind.wrap .i64 (v17 - 1)) ∧ (IntKind.wrap .i64 (v17 - 1)) < ((n2 : Nat) : Int))) ((v10[(0 + Int.toNat (IntKind.wrap .i64 (v17 - 1)))]?).bind fun e23 => ((g5 e21 e23).bind fun w24 => ((sl_partialInsertionSortCmpFunc_dpDep_j19 v17 (sl_partialInsertionSortCmpFunc_dpDep_l2 n2 a4 g5 v10 K16 m2) K16) (!(decide (w24 < 0))))))))) else ((sl_partialInsertionSortCmpFunc_dpDep_j19 v17 (sl_partialInsertionSortCmpFunc_dpDep_l2 n2 a4 g5 v10 K16 m2) K16) false))
def sl_partialInsertionSortCmpFunc_dpDep_l1 (fuel : Nat) (n2 : Nat) (a3 : Int) (a4 : Int) (g5 : (dpDep → dpDep → Option Int)) (K8 : ((List dpDep) → Option (Bool × (List dpDep)))) : Nat → (List dpDep) → Int → Int → Option (Bool × (List dpDep))
  | 0, _, _, _ => none
  | m1 + 1, v10, v11, v12 => (bif (decide (v12 < 5)) then (sl_partialInsertionSortCmpFunc_dpDep_l2 n2 a4 g5 v10 (sl_partialInsertionSortCmpFunc_dpDep_j16 fuel n2 a3 a4 g5 v10 (sl_partialInsertionSortCmpFunc_dpDep_j15 v12 (sl_partialInsertionSortCmpFunc_dpDep_l1 fuel n2 a3 a4 g5 K8 m1))) fuel v11) else (K8 v10))
def sl_partialInsertionSortCmpFunc_dpDep (fuel : Nat) (a1 : (List dpDep)) (n2 : Nat) (a3 : Int) (a4 : Int) (g5 : (dpDep → dpDep → Option Int)) : Option (Bool × (List dpDep)) :=
  (sl_partialInsertionSortCmpFunc_dpDep_l1 fuel n2 a3 a4 g5 (sl_partialInsertionSortCmpFunc_dpDep_j8) fuel a1 (IntKind.wrap .i64 (a3 + 1)) 0)
theorem run_sl_partialInsertionSortCmpFunc_dpDep (fuel : Nat) (a1 : (List dpDep)) (n2 : Nat) (a3 : Int) (a4 : Int) (g5 : (dpDep → dpDep → Option Int)) (F_g5 : Nat) (C_g5 : List AV) (hok_g5 : okFn Try.prog F_g5 = true) (hrun_g5 : ∀ (x0 : dpDep) (x1 : dpDep) r, g5 x0 x1 = some r → Run Try.prog (.call F_g5 ([.agg [I6 x0.f_From, I6 x0.f_To], .agg [I6 x1.f_From, I6 x1.f_To]] ++ C_g5) (I6 r))) (r : (Bool × (List dpDep))) (h : sl_partialInsertionSortCmpFunc_dpDep fuel a1 n2 a3 a4 g5 = some r) : Run Try.prog (.callM 108 [S2 n2, I6 a3, I6 a4, .clo F_g5 C_g5] [O2 a1] (.bool r.1) [(2000000, .obj 33 2 (List.map e_dpDep r.2))]) := by
  refine callM_of_W Try.func108 rfl (by kernel_rfl) (env0 := [(0, S2 n2), (1, I6 a3), (2, I6 a4), (3, .clo F_g5 C_g5), O2 a1]) (by kernel_rfl) ?_
  unfold sl_partialInsertionSortCmpFunc_dpDep at h
  refine W.seq ?_
  refine W.regT [0, 1, 2, 3, 2000000] [] [] [] (e2 := [(0, S2 n2), (1, I6 a3), (2, I6 a4), (3, .clo F_g5 C_g5), O2 a1]) (by kernel_rfl) (by kernel_rfl) (fun _ h => h) ?_
  refine W.seq ?_
  refine W.regT [0, 1, 2, 3, 9, 2000000] [] [] [] (e2 := [(0, S2 n2), (1, I6 a3), (2, I6 a4), (3, .clo F_g5 C_g5), (9, I6 (W6 (a3 + 1))), O2 a1]) (by kernel_rfl) (by kernel_rfl) (fun _ h => h) ?_
  refine W.seq ?_
  refine W.join (σ := ((List dpDep))) (fun s => [O2 s]) (fun s => (sl_partialInsertionSortCmpFunc_dpDep_j8) s = some r) (fun s h => ?_) (fun hK8 => ?_)
  · obtain ⟨v96, rfl⟩ : ∃ x, x = s := ⟨s, rfl⟩
    have h : (sl_partialInsertionSortCmpFunc_dpDep_j8) v96 = some r := h
    unfold sl_partialInsertionSortCmpFunc_dpDep_j8 at h
    refine W.seq ?_
    refine W.regT [8, 2000000] [] [] [] (e2 := [(8, .bool false), O2 v96]) (by kernel_rfl) (by kernel_rfl) (fun _ h => h) ?_
    refine W.weak [8, 2000000] [] [] [] (env' := [(8, .bool false), O2 v96]) (by kernel_rfl) ?_
    have hr : PostM Try.prog Try.f108 (.bool false) [O2 v96] .ret [(8, .bool false), O2 v96] := ⟨by kernel_rfl, by kernel_rfl⟩
    cases h
    exact W.ret hr
  refine W.seq ?_
  refine W.regT [0, 1, 2, 3, 9, 10, 2000000] [] [] [] (e2 := [(0, S2 n2), (1, I6 a3), (2, I6 a4), (3, .clo F_g5 C_g5), (9, I6 (W6 (a3 + 1))), (10, .int .i64 0), O2 a1]) (by kernel_rfl) (by kernel_rfl) (fun _ h => h) ?_
  refine W.block ?_
  refine W.weak [0, 1, 2, 3, 9, 10, 2000000] [] [] [] (env' := [(0, S2 n2), (1, I6 a3), (2, I6 a4), (3, .clo F_g5 C_g5), (9, I6 (W6 (a3 + 1))), (10, .int .i64 0), O2 a1]) (by kernel_rfl) ?_
  refine W.fuel (σ := ((List dpDep) × Int × Int)) (fun s => [(0, S2 n2), (1, I6 a3), (2, I6 a4), (3, .clo F_g5 C_g5), (9, I6 s.2.1), (10, I6 s.2.2), (2000000, .obj 33 2 (List.map e_dpDep s.1))]) (fun m0 s => sl_partialInsertionSortCmpFunc_dpDep_l1 fuel n2 a3 a4 g5 (sl_partialInsertionSortCmpFunc_dpDep_j8) m0 s.1 s.2.1 s.2.2 = some r) (fun s h => ?_) (fun m1 s h hN1 => ?_) fuel (a1, (W6 (a3 + 1)), 0) h
  · obtain ⟨v10, v11, v12⟩ := s
    have h : sl_partialInsertionSortCmpFunc_dpDep_l1 fuel n2 a3 a4 g5 (sl_partialInsertionSortCmpFunc_dpDep_j8) 0 v10 v11 v12 = some r := h
    rw [sl_partialInsertionSortCmpFunc_dpDep_l1.eq_1] at h
    cases h
  · obtain ⟨v10, v11, v12⟩ := s
    have h : sl_partialInsertionSortCmpFunc_dpDep_l1 fuel n2 a3 a4 g5 (sl_partialInsertionSortCmpFunc_dpDep_j8) (m1 + 1) v10 v11 v12 = some r := h
    rw [sl_partialInsertionSortCmpFunc_dpDep_l1.eq_2] at h
    refine W.seq ?_
    refine W.seq ?_
    refine W.regT [0, 1, 2, 3, 9, 10, 16, 2000000] [] [] [] (e2 := [(0, S2 n2), (1, I6 a3), (2, I6 a4), (3, .clo F_g5 C_g5), (9, I6 v11), (10, I6 v12), (16, .bool (decide (v12 < 5))), O2 v10]) (by kernel_rfl) (by kernel_rfl) (fun _ h => h) ?_
    refine W.condB (decide (v12 < 5)) (by kernel_rfl) (fun hb => ?_) (fun hb => ?_)
    · replace h := cond_t hb h
      refine W.skip ?_
      refine W.weak [0, 1, 2, 3, 9, 10, 2000000] [] [] [] (env' := [(0, S2 n2), (1, I6 a3), (2, I6 a4), (3, .clo F_g5 C_g5), (9, I6 v11), (10, I6 v12), O2 v10]) (by kernel_rfl) ?_
      refine W.seq ?_
      refine W.join (σ := ((List dpDep) × Int)) (fun s => [(0, S2 n2), (1, I6 a3), (2, I6 a4), (3, .clo F_g5 C_g5), (9, I6 s.2), (10, I6 v12), (2000000, .obj 33 2 (List.map e_dpDep s.1))]) (fun s => (sl_partialInsertionSortCmpFunc_dpDep_j15 v12 (sl_partialInsertionSortCmpFunc_dpDep_l1 fuel n2 a3 a4 g5 (sl_partialInsertionSortCmpFunc_dpDep_j8) m1)) s.1 s.2 = some r) (fun s h => ?_) (fun hK15 => ?_)
      · obtain ⟨v94, v95⟩ := s
        have h : (sl_partialInsertionSortCmpFunc_dpDep_j15 v12 (sl_partialInsertionSortCmpFunc_dpDep_l1 fuel n2 a3 a4 g5 (sl_partialInsertionSortCmpFunc_dpDep_j8) m1)) v94 v95 = some r := h
        unfold sl_partialInsertionSortCmpFunc_dpDep_j15 at h
        refine W.regT [0, 1, 2, 3, 9, 10, 2000000] [] [] [] (e2 := [(0, S2 n2), (1, I6 a3), (2, I6 a4), (3, .clo F_g5 C_g5), (9, I6 v95), (10, I6 (W6 (v12 + 1))), O2 v94]) (by kernel_rfl) (by kernel_rfl) (fun _ h => h) ?_
        exact hN1 (v94, v95, (W6 (v12 + 1))) h
      refine W.block ?_
      refine W.seq ?_
      refine W.join (σ := (Int)) (fun s => [(0, S2 n2), (1, I6 a3), (2, I6 a4), (3, .clo F_g5 C_g5), (9, I6 s), (10, I6 v12), O2 v10]) (fun s => (sl_partialInsertionSortCmpFunc_dpDep_j16 fuel n2 a3 a4 g5 v10 (sl_partialInsertionSortCmpFunc_dpDep_j15 v12 (sl_partialInsertionSortCmpFunc_dpDep_l1 fuel n2 a3 a4 g5 (sl_partialInsertionSortCmpFunc_dpDep_j8) m1))) s = some r) (fun s h => ?_) (fun hK16 => ?_)
      · obtain ⟨v26, rfl⟩ : ∃ x, x = s := ⟨s, rfl⟩
        have h : (sl_partialInsertionSortCmpFunc_dpDep_j16 fuel n2 a3 a4 g5 v10 (sl_partialInsertionSortCmpFunc_dpDep_j15 v12 (sl_partialInsertionSortCmpFunc_dpDep_l1 fuel n2 a3 a4 g5 (sl_partialInsertionSortCmpFunc_dpDep_j8) m1))) v26 = some r := h
        unfold sl_partialInsertionSortCmpFunc_dpDep_j16 at h
        refine W.seq ?_
        refine W.seq ?_
        refine W.regT [0, 1, 2, 3, 9, 10, 41, 2000000] [] [] [] (e2 := [(0, S2 n2), (1, I6 a3), (2, I6 a4), (3, .clo F_g5 C_g5), (9, I6 v26), (10, I6 v12), (41, .bool (v26 == a4)), O2 v10]) (by kernel_rfl) (by kernel_rfl) (fun _ h => h) ?_
        refine W.condB (v26 == a4) (by kernel_rfl) (fun hb => ?_) (fun hb => ?_)
        · replace h := cond_t hb h
          refine W.seq ?_
          refine W.regT [8, 2000000] [] [] [] (e2 := [(8, .bool true), O2 v10]) (by kernel_rfl) (by kernel_rfl) (fun _ h => h) ?_
          refine W.weak [8, 2000000] [] [] [] (env' := [(8, .bool true), O2 v10]) (by kernel_rfl) ?_
          have hr : PostM Try.prog Try.f108 (.bool true) [O2 v10] .ret [(8, .bool true), O2 v10] := ⟨by kernel_rfl, by kernel_rfl⟩
          cases h
          exact W.ret hr
        replace h := cond_f hb h
        refine W.skip ?_
        refine W.weak [0, 1, 2, 3, 9, 10, 2000000] [] [] [] (env' := [(0, S2 n2), (1, I6 a3), (2, I6 a4), (3, .clo F_g5 C_g5), (9, I6 v26), (10, I6 v12), O2 v10]) (by kernel_rfl) ?_
        refine W.seq ?_
        refine W.seq ?_
        refine W.regT [0, 1, 2, 3, 9, 10, 45, 2000000] [] [] [] (e2 := [(0, S2 n2), (1, I6 a3), (2, I6 a4), (3, .clo F_g5 C_g5), (9, I6 v26), (10, I6 v12), (45, .bool (decide ((W6 (a4 - a3)) < 50))), O2 v10]) (by kernel_rfl) (by kernel_rfl) (fun _ h => h) ?_
        refine W.condB (decide ((W6 (a4 - a3)) < 50)) (by kernel_rfl) (fun hb => ?_) (fun hb => ?_)
        · replace h := cond_t hb h
          refine W.seq ?_
          refine W.regT [8, 2000000] [] [] [] (e2 := [(8, .bool false), O2 v10]) (by kernel_rfl) (by kernel_rfl) (fun _ h => h) ?_
          refine W.weak [8, 2000000] [] [] [] (env' := [(8, .bool false), O2 v10]) (by kernel_rfl) ?_
          have hr : PostM Try.prog Try.f108 (.bool false) [O2 v10] .ret [(8, .bool false), O2 v10] := ⟨by kernel_rfl, by kernel_rfl⟩
          cases h
          exact W.ret hr
        replace h := cond_f hb h
        refine W.skip ?_
        refine W.weak [0, 1, 2, 3, 9, 10, 2000000] [] [] [] (env' := [(0, S2 n2), (1, I6 a3), (2, I6 a4), (3, .clo F_g5 C_g5), (9, I6 v26), (10, I6 v12), O2 v10]) (by kernel_rfl) ?_
        refine W.seq ?_
        refine W.region (by kernel_rfl) ?_
        obtain ⟨hc34, h⟩ := chk_some h
        refine WO.pureK 8 (if (0 : Int) ≤ (W6 (v26 - 1)) ∧ (W6 (v26 - 1)) < ((n2 : Nat) : Int) then some (.pe 2000000 2 (0 + Int.toNat (W6 (v26 - 1))) 0) else none) (v := .pe 2000000 2 (0 + Int.toNat (W6 (v26 - 1))) 0) (by kernel_rfl) (ite_some hc34) (e1 := [(0, S2 n2), (1, I6 a3), (2, I6 a4), (3, .clo F_g5 C_g5), (9, I6 v26), (10, I6 v12), (46, S2 n2), (47, I6 v26), (48, S2 n2), (49, I6 v26), (50, I6 (W6 (v26 - 1))), (51, S2 n2), (52, I6 v26), (53, I6 (W6 (v26 - 1))), (54, .pe 2000000 2 (0 + Int.toNat (W6 (v26 - 1))) 0), O2 v10]) (by kernel_rfl) ?_
        obtain ⟨e35, he35, h⟩ := bind_some h
        refine WO.pureK 0 (match (List.map e_dpDep v10)[(0 + Int.toNat (W6 (v26 - 1)))]? with | some y => cut Try.prog 33 (y.cells.map AV.strip) 0 | none => none) (v := .agg [I6 e35.f_From, I6 e35.f_To]) (by kernel_rfl) ((pe_ld (f := e_dpDep) (G := (fun y => cut Try.prog 33 (y.cells.map AV.strip) 0)) he35).trans (by kernel_rfl)) (e1 := [(0, S2 n2), (1, I6 a3), (2, I6 a4), (3, .clo F_g5 C_g5), (9, I6 v26), (10, I6 v12), (46, S2 n2), (47, I6 v26), (48, S2 n2), (49, I6 v26), (50, I6 (W6 (v26 - 1))), (51, S2 n2), (52, I6 v26), (53, I6 (W6 (v26 - 1))), (54, .pe 2000000 2 (0 + Int.toNat (W6 (v26 - 1))) 0), (55, .agg [I6 e35.f_From, I6 e35.f_To]), O2 v10]) (by kernel_rfl) ?_
        obtain ⟨hc36, h⟩ := chk_some h
        refine WO.pureK 2 (if (0 : Int) ≤ v26 ∧ v26 < ((n2 : Nat) : Int) then some (.pe 2000000 2 (0 + Int.toNat v26) 0) else none) (v := .pe 2000000 2 (0 + Int.toNat v26) 0) (by kernel_rfl) (ite_some hc36) (e1 := [(0, S2 n2), (1, I6 a3), (2, I6 a4), (3, .clo F_g5 C_g5), (9, I6 v26), (10, I6 v12), (46, S2 n2), (47, I6 v26), (48, S2 n2), (49, I6 v26), (50, I6 (W6 (v26 - 1))), (51, S2 n2), (52, I6 v26), (53, I6 (W6 (v26 - 1))), (54, .pe 2000000 2 (0 + Int.toNat (W6 (v26 - 1))) 0), (55, .agg [I6 e35.f_From, I6 e35.f_To]), (56, S2 n2), (57, I6 v26), (58, .pe 2000000 2 (0 + Int.toNat v26) 0), O2 v10]) (by kernel_rfl) ?_
        obtain ⟨e37, he37, h⟩ := bind_some h
        refine WO.pureK 0 (match (List.map e_dpDep v10)[(0 + Int.toNat v26)]? with | some y => cut Try.prog 33 (y.cells.map AV.strip) 0 | none => none) (v := .agg [I6 e37.f_From, I6 e37.f_To]) (by kernel_rfl) ((pe_ld (f := e_dpDep) (G := (fun y => cut Try.prog 33 (y.cells.map AV.strip) 0)) he37).trans (by kernel_rfl)) (e1 := [(0, S2 n2), (1, I6 a3), (2, I6 a4), (3, .clo F_g5 C_g5), (9, I6 v26), (10, I6 v12), (46, S2 n2), (47, I6 v26), (48, S2 n2), (49, I6 v26), (50, I6 (W6 (v26 - 1))), (51, S2 n2), (52, I6 v26), (53, I6 (W6 (v26 - 1))), (54, .pe 2000000 2 (0 + Int.toNat (W6 (v26 - 1))) 0), (55, .agg [I6 e35.f_From, I6 e35.f_To]), (56, S2 n2), (57, I6 v26), (58, .pe 2000000 2 (0 + Int.toNat v26) 0), (59, .agg [I6 e37.f_From, I6 e37.f_To]), O2 v10]) (by kernel_rfl) ?_
        obtain ⟨hc38, h⟩ := chk_some h
        refine WO.pureK 0 (if (0 : Int) ≤ v26 ∧ v26 < ((n2 : Nat) : Int) then some (.pe 2000000 2 (0 + Int.toNat v26) 0) else none) (v := .pe 2000000 2 (0 + Int.toNat v26) 0) (by kernel_rfl) (ite_some hc38) (e1 := [(0, S2 n2), (1, I6 a3), (2, I6 a4), (3, .clo F_g5 C_g5), (9, I6 v26), (10, I6 v12), (46, S2 n2), (47, I6 v26), (48, S2 n2), (49, I6 v26), (50, I6 (W6 (v26 - 1))), (51, S2 n2), (52, I6 v26), (53, I6 (W6 (v26 - 1))), (54, .pe 2000000 2 (0 + Int.toNat (W6 (v26 - 1))) 0), (55, .agg [I6 e35.f_From, I6 e35.f_To]), (56, S2 n2), (57, I6 v26), (58, .pe 2000000 2 (0 + Int.toNat v26) 0), (59, .agg [I6 e37.f_From, I6 e37.f_To]), (60, .pe 2000000 2 (0 + Int.toNat v26) 0), O2 v10]) (by kernel_rfl) ?_
        obtain ⟨u39, hu39, h⟩ := bind_some h
        obtain ⟨y40, hyy40, hzy40⟩ := upd_some hu39
        refine WO.storeK 0 (id := 2000000) (e := 33) (s := 2) (j := (0 + Int.toNat v26)) (off := 0) (vs := [I6 e35.f_From, I6 e35.f_To]) (xs := (List.map e_dpDep v10)) (zs := (List.map e_dpDep u39)) (y := (e_dpDep) y40) (y' := (e_dpDep) e35) (by kernel_rfl) (upd_get hyy40) (by kernel_rfl) (upd_set hzy40) (e1 := [(0, S2 n2), (1, I6 a3), (2, I6 a4), (3, .clo F_g5 C_g5), (9, I6 v26), (10, I6 v12), (46, S2 n2), (47, I6 v26), (48, S2 n2), (49, I6 v26), (50, I6 (W6 (v26 - 1))), (51, S2 n2), (52, I6 v26), (53, I6 (W6 (v26 - 1))), (54, .pe 2000000 2 (0 + Int.toNat (W6 (v26 - 1))) 0), (55, .agg [I6 e35.f_From, I6 e35.f_To]), (56, S2 n2), (57, I6 v26), (58, .pe 2000000 2 (0 + Int.toNat v26) 0), (59, .agg [I6 e37.f_From, I6 e37.f_To]), (60, .pe 2000000 2 (0 + Int.toNat v26) 0), O2 u39]) (by kernel_rfl) ?_
        obtain ⟨hc41, h⟩ := chk_some h
        refine WO.pureK 0 (if (0 : Int) ≤ (W6 (v26 - 1)) ∧ (W6 (v26 - 1)) < ((n2 : Nat) : Int) then some (.pe 2000000 2 (0 + Int.toNat (W6 (v26 - 1))) 0) else none) (v := .pe 2000000 2 (0 + Int.toNat (W6 (v26 - 1))) 0) (by kernel_rfl) (ite_some hc41) (e1 := [(0, S2 n2), (1, I6 a3), (2, I6 a4), (3, .clo F_g5 C_g5), (9, I6 v26), (10, I6 v12), (46, S2 n2), (47, I6 v26), (48, S2 n2), (49, I6 v26), (50, I6 (W6 (v26 - 1))), (51, S2 n2), (52, I6 v26), (53, I6 (W6 (v26 - 1))), (54, .pe 2000000 2 (0 + Int.toNat (W6 (v26 - 1))) 0), (55, .agg [I6 e35.f_From, I6 e35.f_To]), (56, S2 n2), (57, I6 v26), (58, .pe 2000000 2 (0 + Int.toNat v26) 0), (59, .agg [I6 e37.f_From, I6 e37.f_To]), (60, .pe 2000000 2 (0 + Int.toNat v26) 0), (61, .pe 2000000 2 (0 + Int.toNat (W6 (v26 - 1))) 0), O2 u39]) (by kernel_rfl) ?_
        obtain ⟨u42, hu42, h⟩ := bind_some h
        obtain ⟨y43, hyy43, hzy43⟩ := upd_some hu42
        refine WO.storeK 0 (id := 2000000) (e := 33) (s := 2) (j := (0 + Int.toNat (W6 (v26 - 1)))) (off := 0) (vs := [I6 e37.f_From, I6 e37.f_To]) (xs := (List.map e_dpDep u39)) (zs := (List.map e_dpDep u42)) (y := (e_dpDep) y43) (y' := (e_dpDep) e37) (by kernel_rfl) (upd_get hyy43) (by kernel_rfl) (upd_set hzy43) (e1 := [(0, S2 n2), (1, I6 a3), (2, I6 a4), (3, .clo F_g5 C_g5), (9, I6 v26), (10, I6 v12), (46, S2 n2), (47, I6 v26), (48, S2 n2), (49, I6 v26), (50, I6 (W6 (v26 - 1))), (51, S2 n2), (52, I6 v26), (53, I6 (W6 (v26 - 1))), (54, .pe 2000000 2 (0 + Int.toNat (W6 (v26 - 1))) 0), (55, .agg [I6 e35.f_From, I6 e35.f_To]), (56, S2 n2), (57, I6 v26), (58, .pe 2000000 2 (0 + Int.toNat v26) 0), (59, .agg [I6 e37.f_From, I6 e37.f_To]), (60, .pe 2000000 2 (0 + Int.toNat v26) 0), (61, .pe 2000000 2 (0 + Int.toNat (W6 (v26 - 1))) 0), O2 u42]) (by kernel_rfl) ?_
        refine WO.fin [0, 1, 2, 3, 9, 10, 2000000] [] [] [] (e2 := [(0, S2 n2), (1, I6 a3), (2, I6 a4), (3, .clo F_g5 C_g5), (9, I6 v26), (10, I6 v12), O2 u42]) (by kernel_rfl) (fun _ h => h) ?_
        refine W.seq ?_
        refine W.join (σ := ((List dpDep))) (fun s => [(0, S2 n2), (1, I6 a3), (2, I6 a4), (3, .clo F_g5 C_g5), (9, I6 v26), (10, I6 v12), O2 s]) (fun s => (sl_partialInsertionSortCmpFunc_dpDep_j44 fuel n2 a4 g5 v26 (sl_partialInsertionSortCmpFunc_dpDep_j15 v12 (sl_partialInsertionSortCmpFunc_dpDep_l1 fuel n2 a3 a4 g5 (sl_partialInsertionSortCmpFunc_dpDep_j8) m1))) s = some r) (fun s h => ?_) (fun hK44 => ?_)
        · obtain ⟨v69, rfl⟩ : ∃ x, x = s := ⟨s, rfl⟩
          have h : (sl_partialInsertionSortCmpFunc_dpDep_j44 fuel n2 a4 g5 v26 (sl_partialInsertionSortCmpFunc_dpDep_j15 v12 (sl_partialInsertionSortCmpFunc_dpDep_l1 fuel n2 a3 a4 g5 (sl_partialInsertionSortCmpFunc_dpDep_j8) m1))) v69 = some r := h
          unfold sl_partialInsertionSortCmpFunc_dpDep_j44 at h
          refine W.seq ?_
          refine W.regT [0, 1, 2, 3, 9, 10, 104, 2000000] [] [] [] (e2 := [(0, S2 n2), (1, I6 a3), (2, I6 a4), (3, .clo F_g5 C_g5), (9, I6 v26), (10, I6 v12), (104, .bool (decide ((W6 (a4 - v26)) ≥ 2))), O2 v69]) (by kernel_rfl) (by kernel_rfl) (fun _ h => h) ?_
          refine W.condB (decide ((W6 (a4 - v26)) ≥ 2)) (by kernel_rfl) (fun hb => ?_) (fun hb => ?_)
          · replace h := cond_t hb h
            refine W.seq ?_
            refine W.regT [0, 1, 2, 3, 9, 10, 12, 2000000] [] [] [] (e2 := [(0, S2 n2), (1, I6 a3), (2, I6 a4), (3, .clo F_g5 C_g5), (9, I6 v26), (10, I6 v12), (12, I6 (W6 (v26 + 1))), O2 v69]) (by kernel_rfl) (by kernel_rfl) (fun _ h => h) ?_
            refine W.block ?_
            refine W.weak [0, 1, 2, 3, 9, 10, 12, 2000000] [] [] [] (env' := [(0, S2 n2), (1, I6 a3), (2, I6 a4), (3, .clo F_g5 C_g5), (9, I6 v26), (10, I6 v12), (12, I6 (W6 (v26 + 1))), O2 v69]) (by kernel_rfl) ?_
            refine W.fuel (σ := ((List dpDep) × Int)) (fun s => [(0, S2 n2), (1, I6 a3), (2, I6 a4), (3, .clo F_g5 C_g5), (9, I6 v26), (10, I6 v12), (12, I6 s.2), (2000000, .obj 33 2 (List.map e_dpDep s.1))]) (fun m0 s => sl_partialInsertionSortCmpFunc_dpDep_l4 n2 a4 g5 v26 (sl_partialInsertionSortCmpFunc_dpDep_j15 v12 (sl_partialInsertionSortCmpFunc_dpDep_l1 fuel n2 a3 a4 g5 (sl_partialInsertionSortCmpFunc_dpDep_j8) m1)) m0 s.1 s.2 = some r) (fun s h => ?_) (fun m4 s h hN4 => ?_) fuel (v69, (W6 (v26 + 1))) h
            · obtain ⟨v72, v73⟩ := s
              have h : sl_partialInsertionSortCmpFunc_dpDep_l4 n2 a4 g5 v26 (sl_partialInsertionSortCmpFunc_dpDep_j15 v12 (sl_partialInsertionSortCmpFunc_dpDep_l1 fuel n2 a3 a4 g5 (sl_partialInsertionSortCmpFunc_dpDep_j8) m1)) 0 v72 v73 = some r := h
              rw [sl_partialInsertionSortCmpFunc_dpDep_l4.eq_1] at h
              cases h
            · obtain ⟨v72, v73⟩ := s
              have h : sl_partialInsertionSortCmpFunc_dpDep_l4 n2 a4 g5 v26 (sl_partialInsertionSortCmpFunc_dpDep_j15 v12 (sl_partialInsertionSortCmpFunc_dpDep_l1 fuel n2 a3 a4 g5 (sl_partialInsertionSortCmpFunc_dpDep_j8) m1)) (m4 + 1) v72 v73 = some r := h
              rw [sl_partialInsertionSortCmpFunc_dpDep_l4.eq_2] at h
              refine W.seq ?_
              refine W.seq ?_
              refine W.regT [0, 1, 2, 3, 9, 10, 12, 109, 2000000] [] [] [] (e2 := [(0, S2 n2), (1, I6 a3), (2, I6 a4), (3, .clo F_g5 C_g5), (9, I6 v26), (10, I6 v12), (12, I6 v73), (109, .bool (decide (v73 < a4))), O2 v72]) (by kernel_rfl) (by kernel_rfl) (fun _ h => h) ?_
              refine W.condB (decide (v73 < a4)) (by kernel_rfl) (fun hb => ?_) (fun hb => ?_)
              · replace h := cond_t hb h
                refine W.skip ?_
                refine W.weak [0, 1, 2, 3, 9, 10, 12, 2000000] [] [] [] (env' := [(0, S2 n2), (1, I6 a3), (2, I6 a4), (3, .clo F_g5 C_g5), (9, I6 v26), (10, I6 v12), (12, I6 v73), O2 v72]) (by kernel_rfl) ?_
                refine W.seq ?_
                refine W.block ?_
                refine W.seq ?_
                refine W.seq ?_
                refine W.region (by kernel_rfl) ?_
                obtain ⟨hc79, h⟩ := chk_some h
                refine WO.pureK 3 (if (0 : Int) ≤ v73 ∧ v73 < ((n2 : Nat) : Int) then some (.pe 2000000 2 (0 + Int.toNat v73) 0) else none) (v := .pe 2000000 2 (0 + Int.toNat v73) 0) (by kernel_rfl) (ite_some hc79) (e1 := [(0, S2 n2), (1, I6 a3), (2, I6 a4), (3, .clo F_g5 C_g5), (9, I6 v26), (10, I6 v12), (12, I6 v73), (112, .clo F_g5 C_g5), (113, S2 n2), (114, I6 v73), (115, .pe 2000000 2 (0 + Int.toNat v73) 0), O2 v72]) (by kernel_rfl) ?_
                obtain ⟨e80, he80, h⟩ := bind_some h
                refine WO.pureK 0 (match (List.map e_dpDep v72)[(0 + Int.toNat v73)]? with | some y => cut Try.prog 33 (y.cells.map AV.strip) 0 | none => none) (v := .agg [I6 e80.f_From, I6 e80.f_To]) (by kernel_rfl) ((pe_ld (f := e_dpDep) (G := (fun y => cut Try.prog 33 (y.cells.map AV.strip) 0)) he80).trans (by kernel_rfl)) (e1 := [(0, S2 n2), (1, I6 a3), (2, I6 a4), (3, .clo F_g5 C_g5), (9, I6 v26), (10, I6 v12), (12, I6 v73), (112, .clo F_g5 C_g5), (113, S2 n2), (114, I6 v73), (115, .pe 2000000 2 (0 + Int.toNat v73) 0), (116, .agg [I6 e80.f_From, I6 e80.f_To]), O2 v72]) (by kernel_rfl) ?_
                obtain ⟨hc81, h⟩ := chk_some h
                refine WO.pureK 3 (if (0 : Int) ≤ (W6 (v73 - 1)) ∧ (W6 (v73 - 1)) < ((n2 : Nat) : Int) then some (.pe 2000000 2 (0 + Int.toNat (W6 (v73 - 1))) 0) else none) (v := .pe 2000000 2 (0 + Int.toNat (W6 (v73 - 1))) 0) (by kernel_rfl) (ite_some hc81) (e1 := [(0, S2 n2), (1, I6 a3), (2, I6 a4), (3, .clo F_g5 C_g5), (9, I6 v26), (10, I6 v12), (12, I6 v73), (112, .clo F_g5 C_g5), (113, S2 n2), (114, I6 v73), (115, .pe 2000000 2 (0 + Int.toNat v73) 0), (116, .agg [I6 e80.f_From, I6 e80.f_To]), (117, S2 n2), (118, I6 v73), (119, I6 (W6 (v73 - 1))), (120, .pe 2000000 2 (0 + Int.toNat (W6 (v73 - 1))) 0), O2 v72]) (by kernel_rfl) ?_
                obtain ⟨e82, he82, h⟩ := bind_some h
                refine WO.pureK 0 (match (List.map e_dpDep v72)[(0 + Int.toNat (W6 (v73 - 1)))]? with | some y => cut Try.prog 33 (y.cells.map AV.strip) 0 | none => none) (v := .agg [I6 e82.f_From, I6 e82.f_To]) (by kernel_rfl) ((pe_ld (f := e_dpDep) (G := (fun y => cut Try.prog 33 (y.cells.map AV.strip) 0)) he82).trans (by kernel_rfl)) (e1 := [(0, S2 n2), (1, I6 a3), (2, I6 a4), (3, .clo F_g5 C_g5), (9, I6 v26), (10, I6 v12), (12, I6 v73), (112, .clo F_g5 C_g5), (113, S2 n2), (114, I6 v73), (115, .pe 2000000 2 (0 + Int.toNat v73) 0), (116, .agg [I6 e80.f_From, I6 e80.f_To]), (117, S2 n2), (118, I6 v73), (119, I6 (W6 (v73 - 1))), (120, .pe 2000000 2 (0 + Int.toNat (W6 (v73 - 1))) 0), (121, .agg [I6 e82.f_From, I6 e82.f_To]), O2 v72]) (by kernel_rfl) ?_
                obtain ⟨w83, hw83, h⟩ := bind_some h
                refine WO.callK 0 (F := F_g5) (l := [.agg [I6 e80.f_From, I6 e80.f_To], .agg [I6 e82.f_From, I6 e82.f_To]]) (C := C_g5) (r := I6 w83) (by kernel_rfl) hok_g5 (hrun_g5 e80 e82 w83 hw83) (e1 := [(0, S2 n2), (1, I6 a3), (2, I6 a4), (3, .clo F_g5 C_g5), (9, I6 v26), (10, I6 v12), (12, I6 v73), (112, .clo F_g5 C_g5), (113, S2 n2), (114, I6 v73), (115, .pe 2000000 2 (0 + Int.toNat v73) 0), (116, .agg [I6 e80.f_From, I6 e80.f_To]), (117, S2 n2), (118, I6 v73), (119, I6 (W6 (v73 - 1))), (120, .pe 2000000 2 (0 + Int.toNat (W6 (v73 - 1))) 0), (121, .agg [I6 e82.f_From, I6 e82.f_To]), (122, I6 w83), O2 v72]) (by kernel_rfl) ?_
                refine WO.fin [0, 1, 2, 3, 9, 10, 12, 124, 2000000] [] [] [] (e2 := [(0, S2 n2), (1, I6 a3), (2, I6 a4), (3, .clo F_g5 C_g5), (9, I6 v26), (10, I6 v12), (12, I6 v73), (124, .bool (!(decide (w83 < 0)))), O2 v72]) (by kernel_rfl) (fun _ h => h) ?_
                refine W.condB (!(decide (w83 < 0))) (by kernel_rfl) (fun hb => ?_) (fun hb => ?_)
                · replace h := cond_t hb h
                  refine W.exit ?_
                  refine W.weak [0, 1, 2, 3, 9, 10, 2000000] [] [] [] (env' := [(0, S2 n2), (1, I6 a3), (2, I6 a4), (3, .clo F_g5 C_g5), (9, I6 v26), (10, I6 v12), O2 v72]) (by kernel_rfl) ?_
                  exact hK15 (v72, v26) h
                replace h := cond_f hb h
                refine W.skip ?_
                refine W.weak [0, 1, 2, 3, 9, 10, 12, 2000000] [] [] [] (env' := [(0, S2 n2), (1, I6 a3), (2, I6 a4), (3, .clo F_g5 C_g5), (9, I6 v26), (10, I6 v12), (12, I6 v73), O2 v72]) (by kernel_rfl) ?_
                refine W.region (by kernel_rfl) ?_
                obtain ⟨hc84, h⟩ := chk_some h
                refine WO.pureK 8 (if (0 : Int) ≤ (W6 (v73 - 1)) ∧ (W6 (v73 - 1)) < ((n2 : Nat) : Int) then some (.pe 2000000 2 (0 + Int.toNat (W6 (v73 - 1))) 0) else none) (v := .pe 2000000 2 (0 + Int.toNat (W6 (v73 - 1))) 0) (by kernel_rfl) (ite_some hc84) (e1 := [(0, S2 n2), (1, I6 a3), (2, I6 a4), (3, .clo F_g5 C_g5), (9, I6 v26), (10, I6 v12), (12, I6 v73), (125, S2 n2), (126, I6 v73), (127, S2 n2), (128, I6 v73), (129, I6 (W6 (v73 - 1))), (130, S2 n2), (131, I6 v73), (132, I6 (W6 (v73 - 1))), (133, .pe 2000000 2 (0 + Int.toNat (W6 (v73 - 1))) 0), O2 v72]) (by kernel_rfl) ?_
                obtain ⟨e85, he85, h⟩ := bind_some h
                refine WO.pureK 0 (match (List.map e_dpDep v72)[(0 + Int.toNat (W6 (v73 - 1)))]? with | some y => cut Try.prog 33 (y.cells.map AV.strip) 0 | none => none) (v := .agg [I6 e85.f_From, I6 e85.f_To]) (by kernel_rfl) ((pe_ld (f := e_dpDep) (G := (fun y => cut Try.prog 33 (y.cells.map AV.strip) 0)) he85).trans (by kernel_rfl)) (e1 := [(0, S2 n2), (1, I6 a3), (2, I6 a4), (3, .clo F_g5 C_g5), (9, I6 v26), (10, I6 v12), (12, I6 v73), (125, S2 n2), (126, I6 v73), (127, S2 n2), (128, I6 v73), (129, I6 (W6 (v73 - 1))), (130, S2 n2), (131, I6 v73), (132, I6 (W6 (v73 - 1))), (133, .pe 2000000 2 (0 + Int.toNat (W6 (v73 - 1))) 0), (134, .agg [I6 e85.f_From, I6 e85.f_To]), O2 v72]) (by kernel_rfl) ?_
                obtain ⟨hc86, h⟩ := chk_some h
                refine WO.pureK 2 (if (0 : Int) ≤ v73 ∧ v73 < ((n2 : Nat) : Int) then some (.pe 2000000 2 (0 + Int.toNat v73) 0) else none) (v := .pe 2000000 2 (0 + Int.toNat v73) 0) (by kernel_rfl) (ite_some hc86) (e1 := [(0, S2 n2), (1, I6 a3), (2, I6 a4), (3, .clo F_g5 C_g5), (9, I6 v26), (10, I6 v12), (12, I6 v73), (125, S2 n2), (126, I6 v73), (127, S2 n2), (128, I6 v73), (129, I6 (W6 (v73 - 1))), (130, S2 n2), (131, I6 v73), (132, I6 (W6 (v73 - 1))), (133, .pe 2000000 2 (0 + Int.toNat (W6 (v73 - 1))) 0), (134, .agg [I6 e85.f_From, I6 e85.f_To]), (135, S2 n2), (136, I6 v73), (137, .pe 2000000 2 (0 + Int.toNat v73) 0), O2 v72]) (by kernel_rfl) ?_
                obtain ⟨e87, he87, h⟩ := bind_some h
                refine WO.pureK 0 (match (List.map e_dpDep v72)[(0 + Int.toNat v73)]? with | some y => cut Try.prog 33 (y.cells.map AV.strip) 0 | none => none) (v := .agg [I6 e87.f_From, I6 e87.f_To]) (by kernel_rfl) ((pe_ld (f := e_dpDep) (G := (fun y => cut Try.prog 33 (y.cells.map AV.strip) 0)) he87).trans (by kernel_rfl)) (e1 := [(0, S2 n2), (1, I6 a3), (2, I6 a4), (3, .clo F_g5 C_g5), (9, I6 v26), (10, I6 v12), (12, I6 v73), (125, S2 n2), (126, I6 v73), (127, S2 n2), (128, I6 v73), (129, I6 (W6 (v73 - 1))), (130, S2 n2), (131, I6 v73), (132, I6 (W6 (v73 - 1))), (133, .pe 2000000 2 (0 + Int.toNat (W6 (v73 - 1))) 0), (134, .agg [I6 e85.f_From, I6 e85.f_To]), (135, S2 n2), (136, I6 v73), (137, .pe 2000000 2 (0 + Int.toNat v73) 0), (138, .agg [I6 e87.f_From, I6 e87.f_To]), O2 v72]) (by kernel_rfl) ?_
                obtain ⟨hc88, h⟩ := chk_some h
                refine WO.pureK 0 (if (0 : Int) ≤ v73 ∧ v73 < ((n2 : Nat) : Int) then some (.pe 2000000 2 (0 + Int.toNat v73) 0) else none) (v := .pe 2000000 2 (0 + Int.toNat v73) 0) (by kernel_rfl) (ite_some hc88) (e1 := [(0, S2 n2), (1, I6 a3), (2, I6 a4), (3, .clo F_g5 C_g5), (9, I6 v26), (10, I6 v12), (12, I6 v73), (125, S2 n2), (126, I6 v73), (127, S2 n2), (128, I6 v73), (129, I6 (W6 (v73 - 1))), (130, S2 n2), (131, I6 v73), (132, I6 (W6 (v73 - 1))), (133, .pe 2000000 2 (0 + Int.toNat (W6 (v73 - 1))) 0), (134, .agg [I6 e85.f_From, I6 e85.f_To]), (135, S2 n2), (136, I6 v73), (137, .pe 2000000 2 (0 + Int.toNat v73) 0), (138, .agg [I6 e87.f_From, I6 e87.f_To]), (139, .pe 2000000 2 (0 + Int.toNat v73) 0), O2 v72]) (by kernel_rfl) ?_
                obtain ⟨u89, hu89, h⟩ := bind_some h
                obtain ⟨y90, hyy90, hzy90⟩ := upd_some hu89
                refine WO.storeK 0 (id := 2000000) (e := 33) (s := 2) (j := (0 + Int.toNat v73)) (off := 0) (vs := [I6 e85.f_From, I6 e85.f_To]) (xs := (List.map e_dpDep v72)) (zs := (List.map e_dpDep u89)) (y := (e_dpDep) y90) (y' := (e_dpDep) e85) (by kernel_rfl) (upd_get hyy90) (by kernel_rfl) (upd_set hzy90) (e1 := [(0, S2 n2), (1, I6 a3), (2, I6 a4), (3, .clo F_g5 C_g5), (9, I6 v26), (10, I6 v12), (12, I6 v73), (125, S2 n2), (126, I6 v73), (127, S2 n2), (128, I6 v73), (129, I6 (W6 (v73 - 1))), (130, S2 n2), (131, I6 v73), (132, I6 (W6 (v73 - 1))), (133, .pe 2000000 2 (0 + Int.toNat (W6 (v73 - 1))) 0), (134, .agg [I6 e85.f_From, I6 e85.f_To]), (135, S2 n2), (136, I6 v73), (137, .pe 2000000 2 (0 + Int.toNat v73) 0), (138, .agg [I6 e87.f_From, I6 e87.f_To]), (139, .pe 2000000 2 (0 + Int.toNat v73) 0), O2 u89]) (by kernel_rfl) ?_
                obtain ⟨hc91, h⟩ := chk_some h
                refine WO.pureK 0 (if (0 : Int) ≤ (W6 (v73 - 1)) ∧ (W6 (v73 - 1)) < ((n2 : Nat) : Int) then some (.pe 2000000 2 (0 + Int.toNat (W6 (v73 - 1))) 0) else none) (v := .pe 2000000 2 (0 + Int.toNat (W6 (v73 - 1))) 0) (by kernel_rfl) (ite_some hc91) (e1 := [(0, S2 n2), (1, I6 a3), (2, I6 a4), (3, .clo F_g5 C_g5), (9, I6 v26), (10, I6 v12), (12, I6 v73), (125, S2 n2), (126, I6 v73), (127, S2 n2), (128, I6 v73), (129, I6 (W6 (v73 - 1))), (130, S2 n2), (131, I6 v73), (132, I6 (W6 (v73 - 1))), (133, .pe 2000000 2 (0 + Int.toNat (W6 (v73 - 1))) 0), (134, .agg [I6 e85.f_From, I6 e85.f_To]), (135, S2 n2), (136, I6 v73), (137, .pe 2000000 2 (0 + Int.toNat v73) 0), (138, .agg [I6 e87.f_From, I6 e87.f_To]), (139, .pe 2000000 2 (0 + Int.toNat v73) 0), (140, .pe 2000000 2 (0 + Int.toNat (W6 (v73 - 1))) 0), O2 u89]) (by kernel_rfl) ?_
                obtain ⟨u92, hu92, h⟩ := bind_some h
                obtain ⟨y93, hyy93, hzy93⟩ := upd_some hu92
                refine WO.storeK 0 (id := 2000000) (e := 33) (s := 2) (j := (0 + Int.toNat (W6 (v73 - 1)))) (off := 0) (vs := [I6 e87.f_From, I6 e87.f_To]) (xs := (List.map e_dpDep u89)) (zs := (List.map e_dpDep u92)) (y := (e_dpDep) y93) (y' := (e_dpDep) e87) (by kernel_rfl) (upd_get hyy93) (by kernel_rfl) (upd_set hzy93) (e1 := [(0, S2 n2), (1, I6 a3), (2, I6 a4), (3, .clo F_g5 C_g5), (9, I6 v26), (10, I6 v12), (12, I6 v73), (125, S2 n2), (126, I6 v73), (127, S2 n2), (128, I6 v73), (129, I6 (W6 (v73 - 1))), (130, S2 n2), (131, I6 v73), (132, I6 (W6 (v73 - 1))), (133, .pe 2000000 2 (0 + Int.toNat (W6 (v73 - 1))) 0), (134, .agg [I6 e85.f_From, I6 e85.f_To]), (135, S2 n2), (136, I6 v73), (137, .pe 2000000 2 (0 + Int.toNat v73) 0), (138, .agg [I6 e87.f_From, I6 e87.f_To]), (139, .pe 2000000 2 (0 + Int.toNat v73) 0), (140, .pe 2000000 2 (0 + Int.toNat (W6 (v73 - 1))) 0), O2 u92]) (by kernel_rfl) ?_
                refine WO.fin [0, 1, 2, 3, 9, 10, 12, 2000000] [] [] [] (e2 := [(0, S2 n2), (1, I6 a3), (2, I6 a4), (3, .clo F_g5 C_g5), (9, I6 v26), (10, I6 v12), (12, I6 v73), O2 u92]) (by kernel_rfl) (fun _ h => h) ?_
                refine W.regT [0, 1, 2, 3, 9, 10, 12, 2000000] [] [] [] (e2 := [(0, S2 n2), (1, I6 a3), (2, I6 a4), (3, .clo F_g5 C_g5), (9, I6 v26), (10, I6 v12), (12, I6 (W6 (v73 + 1))), O2 u92]) (by kernel_rfl) (by kernel_rfl) (fun _ h => h) ?_
                exact hN4 (u92, (W6 (v73 + 1))) h
              replace h := cond_f hb h
              refine W.exit ?_
              refine W.weak [0, 1, 2, 3, 9, 10, 2000000] [] [] [] (env' := [(0, S2 n2), (1, I6 a3), (2, I6 a4), (3, .clo F_g5 C_g5), (9, I6 v26), (10, I6 v12), O2 v72]) (by kernel_rfl) ?_
              exact hK15 (v72, v26) h
          replace h := cond_f hb h
          refine W.skip ?_
          refine W.weak [0, 1, 2, 3, 9, 10, 2000000] [] [] [] (env' := [(0, S2 n2), (1, I6 a3), (2, I6 a4), (3, .clo F_g5 C_g5), (9, I6 v26), (10, I6 v12), O2 v69]) (by kernel_rfl) ?_
          exact hK15 (v69, v26) h
        refine W.seq ?_
        refine W.regT [0, 1, 2, 3, 9, 10, 65, 2000000] [] [] [] (e2 := [(0, S2 n2), (1, I6 a3), (2, I6 a4), (3, .clo F_g5 C_g5), (9, I6 v26), (10, I6 v12), (65, .bool (decide ((W6 (v26 - a3)) ≥ 2))), O2 u42]) (by kernel_rfl) (by kernel_rfl) (fun _ h => h) ?_
        refine W.condB (decide ((W6 (v26 - a3)) ≥ 2)) (by kernel_rfl) (fun hb => ?_) (fun hb => ?_)
        · replace h := cond_t hb h
          refine W.seq ?_
          refine W.regT [0, 1, 2, 3, 9, 10, 11, 2000000] [] [] [] (e2 := [(0, S2 n2), (1, I6 a3), (2, I6 a4), (3, .clo F_g5 C_g5), (9, I6 v26), (10, I6 v12), (11, I6 (W6 (v26 - 1))), O2 u42]) (by kernel_rfl) (by kernel_rfl) (fun _ h => h) ?_
          refine W.block ?_
          refine W.weak [0, 1, 2, 3, 9, 10, 11, 2000000] [] [] [] (env' := [(0, S2 n2), (1, I6 a3), (2, I6 a4), (3, .clo F_g5 C_g5), (9, I6 v26), (10, I6 v12), (11, I6 (W6 (v26 - 1))), O2 u42]) (by kernel_rfl) ?_
          refine W.fuel (σ := ((List dpDep) × Int)) (fun s => [(0, S2 n2), (1, I6 a3), (2, I6 a4), (3, .clo F_g5 C_g5), (9, I6 v26), (10, I6 v12), (11, I6 s.2), (2000000, .obj 33 2 (List.map e_dpDep s.1))]) (fun m0 s => sl_partialInsertionSortCmpFunc_dpDep_l3 n2 g5 (sl_partialInsertionSortCmpFunc_dpDep_j44 fuel n2 a4 g5 v26 (sl_partialInsertionSortCmpFunc_dpDep_j15 v12 (sl_partialInsertionSortCmpFunc_dpDep_l1 fuel n2 a3 a4 g5 (sl_partialInsertionSortCmpFunc_dpDep_j8) m1))) m0 s.1 s.2 = some r) (fun s h => ?_) (fun m3 s h hN3 => ?_) fuel (u42, (W6 (v26 - 1))) h
          · obtain ⟨v47, v48⟩ := s
            have h : sl_partialInsertionSortCmpFunc_dpDep_l3 n2 g5 (sl_partialInsertionSortCmpFunc_dpDep_j44 fuel n2 a4 g5 v26 (sl_partialInsertionSortCmpFunc_dpDep_j15 v12 (sl_partialInsertionSortCmpFunc_dpDep_l1 fuel n2 a3 a4 g5 (sl_partialInsertionSortCmpFunc_dpDep_j8) m1))) 0 v47 v48 = some r := h
            rw [sl_partialInsertionSortCmpFunc_dpDep_l3.eq_1] at h
            cases h
          · obtain ⟨v47, v48⟩ := s
            have h : sl_partialInsertionSortCmpFunc_dpDep_l3 n2 g5 (sl_partialInsertionSortCmpFunc_dpDep_j44 fuel n2 a4 g5 v26 (sl_partialInsertionSortCmpFunc_dpDep_j15 v12 (sl_partialInsertionSortCmpFunc_dpDep_l1 fuel n2 a3 a4 g5 (sl_partialInsertionSortCmpFunc_dpDep_j8) m1))) (m3 + 1) v47 v48 = some r := h
            rw [sl_partialInsertionSortCmpFunc_dpDep_l3.eq_2] at h
            refine W.seq ?_
            refine W.seq ?_
            refine W.regT [0, 1, 2, 3, 9, 10, 11, 69, 2000000] [] [] [] (e2 := [(0, S2 n2), (1, I6 a3), (2, I6 a4), (3, .clo F_g5 C_g5), (9, I6 v26), (10, I6 v12), (11, I6 v48), (69, .bool (decide (v48 ≥ 1))), O2 v47]) (by kernel_rfl) (by kernel_rfl) (fun _ h => h) ?_
            refine W.condB (decide (v48 ≥ 1)) (by kernel_rfl) (fun hb => ?_) (fun hb => ?_)
            · replace h := cond_t hb h
              refine W.skip ?_
              refine W.weak [0, 1, 2, 3, 9, 10, 11, 2000000] [] [] [] (env' := [(0, S2 n2), (1, I6 a3), (2, I6 a4), (3, .clo F_g5 C_g5), (9, I6 v26), (10, I6 v12), (11, I6 v48), O2 v47]) (by kernel_rfl) ?_
              refine W.seq ?_
              refine W.block ?_
              refine W.seq ?_
              refine W.seq ?_
              refine W.region (by kernel_rfl) ?_
              obtain ⟨hc54, h⟩ := chk_some h
              refine WO.pureK 3 (if (0 : Int) ≤ v48 ∧ v48 < ((n2 : Nat) : Int) then some (.pe 2000000 2 (0 + Int.toNat v48) 0) else none) (v := .pe 2000000 2 (0 + Int.toNat v48) 0) (by kernel_rfl) (ite_some hc54) (e1 := [(0, S2 n2), (1, I6 a3), (2, I6 a4), (3, .clo F_g5 C_g5), (9, I6 v26), (10, I6 v12), (11, I6 v48), (72, .clo F_g5 C_g5), (73, S2 n2), (74, I6 v48), (75, .pe 2000000 2 (0 + Int.toNat v48) 0), O2 v47]) (by kernel_rfl) ?_
              obtain ⟨e55, he55, h⟩ := bind_some h
              refine WO.pureK 0 (match (List.map e_dpDep v47)[(0 + Int.toNat v48)]? with | some y => cut Try.prog 33 (y.cells.map AV.strip) 0 | none => none) (v := .agg [I6 e55.f_From, I6 e55.f_To]) (by kernel_rfl) ((pe_ld (f := e_dpDep) (G := (fun y => cut Try.prog 33 (y.cells.map AV.strip) 0)) he55).trans (by kernel_rfl)) (e1 := [(0, S2 n2), (1, I6 a3), (2, I6 a4), (3, .clo F_g5 C_g5), (9, I6 v26), (10, I6 v12), (11, I6 v48), (72, .clo F_g5 C_g5), (73, S2 n2), (74, I6 v48), (75, .pe 2000000 2 (0 + Int.toNat v48) 0), (76, .agg [I6 e55.f_From, I6 e55.f_To]), O2 v47]) (by kernel_rfl) ?_
              obtain ⟨hc56, h⟩ := chk_some h
              refine WO.pureK 3 (if (0 : Int) ≤ (W6 (v48 - 1)) ∧ (W6 (v48 - 1)) < ((n2 : Nat) : Int) then some (.pe 2000000 2 (0 + Int.toNat (W6 (v48 - 1))) 0) else none) (v := .pe 2000000 2 (0 + Int.toNat (W6 (v48 - 1))) 0) (by kernel_rfl) (ite_some hc56) (e1 := [(0, S2 n2), (1, I6 a3), (2, I6 a4), (3, .clo F_g5 C_g5), (9, I6 v26), (10, I6 v12), (11, I6 v48), (72, .clo F_g5 C_g5), (73, S2 n2), (74, I6 v48), (75, .pe 2000000 2 (0 + Int.toNat v48) 0), (76, .agg [I6 e55.f_From, I6 e55.f_To]), (77, S2 n2), (78, I6 v48), (79, I6 (W6 (v48 - 1))), (80, .pe 2000000 2 (0 + Int.toNat (W6 (v48 - 1))) 0), O2 v47]) (by kernel_rfl) ?_
              obtain ⟨e57, he57, h⟩ := bind_some h
              refine WO.pureK 0 (match (List.map e_dpDep v47)[(0 + Int.toNat (W6 (v48 - 1)))]? with | some y => cut Try.prog 33 (y.cells.map AV.strip) 0 | none => none) (v := .agg [I6 e57.f_From, I6 e57.f_To]) (by kernel_rfl) ((pe_ld (f := e_dpDep) (G := (fun y => cut Try.prog 33 (y.cells.map AV.strip) 0)) he57).trans (by kernel_rfl)) (e1 := [(0, S2 n2), (1, I6 a3), (2, I6 a4), (3, .clo F_g5 C_g5), (9, I6 v26), (10, I6 v12), (11, I6 v48), (72, .clo F_g5 C_g5), (73, S2 n2), (74, I6 v48), (75, .pe 2000000 2 (0 + Int.toNat v48) 0), (76, .agg [I6 e55.f_From, I6 e55.f_To]), (77, S2 n2), (78, I6 v48), (79, I6 (W6 (v48 - 1))), (80, .pe 2000000 2 (0 + Int.toNat (W6 (v48 - 1))) 0), (81, .agg [I6 e57.f_From, I6 e57.f_To]), O2 v47]) (by kernel_rfl) ?_
              obtain ⟨w58, hw58, h⟩ := bind_some h
              refine WO.callK 0 (F := F_g5) (l := [.agg [I6 e55.f_From, I6 e55.f_To], .agg [I6 e57.f_From, I6 e57.f_To]]) (C := C_g5) (r := I6 w58) (by kernel_rfl) hok_g5 (hrun_g5 e55 e57 w58 hw58) (e1 := [(0, S2 n2), (1, I6 a3), (2, I6 a4), (3, .clo F_g5 C_g5), (9, I6 v26), (10, I6 v12), (11, I6 v48), (72, .clo F_g5 C_g5), (73, S2 n2), (74, I6 v48), (75, .pe 2000000 2 (0 + Int.toNat v48) 0), (76, .agg [I6 e55.f_From, I6 e55.f_To]), (77, S2 n2), (78, I6 v48), (79, I6 (W6 (v48 - 1))), (80, .pe 2000000 2 (0 + Int.toNat (W6 (v48 - 1))) 0), (81, .agg [I6 e57.f_From, I6 e57.f_To]), (82, I6 w58), O2 v47]) (by kernel_rfl) ?_
              refine WO.fin [0, 1, 2, 3, 9, 10, 11, 84, 2000000] [] [] [] (e2 := [(0, S2 n2), (1, I6 a3), (2, I6 a4), (3, .clo F_g5 C_g5), (9, I6 v26), (10, I6 v12), (11, I6 v48), (84, .bool (!(decide (w58 < 0)))), O2 v47]) (by kernel_rfl) (fun _ h => h) ?_
              refine W.condB (!(decide (w58 < 0))) (by kernel_rfl) (fun hb => ?_) (fun hb => ?_)
              · replace h := cond_t hb h
                refine W.exit ?_
                refine W.weak [0, 1, 2, 3, 9, 10, 2000000] [] [] [] (env' := [(0, S2 n2), (1, I6 a3), (2, I6 a4), (3, .clo F_g5 C_g5), (9, I6 v26), (10, I6 v12), O2 v47]) (by kernel_rfl) ?_
                exact hK44 v47 h
              replace h := cond_f hb h
              refine W.skip ?_
              refine W.weak [0, 1, 2, 3, 9, 10, 11, 2000000] [] [] [] (env' := [(0, S2 n2), (1, I6 a3), (2, I6 a4), (3, .clo F_g5 C_g5), (9, I6 v26), (10, I6 v12), (11, I6 v48), O2 v47]) (by kernel_rfl) ?_
              refine W.region (by kernel_rfl) ?_
              obtain ⟨hc59, h⟩ := chk_some h
              refine WO.pureK 8 (if (0 : Int) ≤ (W6 (v48 - 1)) ∧ (W6 (v48 - 1)) < ((n2 : Nat) : Int) then some (.pe 2000000 2 (0 + Int.toNat (W6 (v48 - 1))) 0) else none) (v := .pe 2000000 2 (0 + Int.toNat (W6 (v48 - 1))) 0) (by kernel_rfl) (ite_some hc59) (e1 := [(0, S2 n2), (1, I6 a3), (2, I6 a4), (3, .clo F_g5 C_g5), (9, I6 v26), (10, I6 v12), (11, I6 v48), (85, S2 n2), (86, I6 v48), (87, S2 n2), (88, I6 v48), (89, I6 (W6 (v48 - 1))), (90, S2 n2), (91, I6 v48), (92, I6 (W6 (v48 - 1))), (93, .pe 2000000 2 (0 + Int.toNat (W6 (v48 - 1))) 0), O2 v47]) (by kernel_rfl) ?_
              obtain ⟨e60, he60, h⟩ := bind_some h
              refine WO.pureK 0 (match (List.map e_dpDep v47)[(0 + Int.toNat (W6 (v48 - 1)))]? with | some y => cut Try.prog 33 (y.cells.map AV.strip) 0 | none => none) (v := .agg [I6 e60.f_From, I6 e60.f_To]) (by kernel_rfl) ((pe_ld (f := e_dpDep) (G := (fun y => cut Try.prog 33 (y.cells.map AV.strip) 0)) he60).trans (by kernel_rfl)) (e1 := [(0, S2 n2), (1, I6 a3), (2, I6 a4), (3, .clo F_g5 C_g5), (9, I6 v26), (10, I6 v12), (11, I6 v48), (85, S2 n2), (86, I6 v48), (87, S2 n2), (88, I6 v48), (89, I6 (W6 (v48 - 1))), (90, S2 n2), (91, I6 v48), (92, I6 (W6 (v48 - 1))), (93, .pe 2000000 2 (0 + Int.toNat (W6 (v48 - 1))) 0), (94, .agg [I6 e60.f_From, I6 e60.f_To]), O2 v47]) (by kernel_rfl) ?_
              obtain ⟨hc61, h⟩ := chk_some h
              refine WO.pureK 2 (if (0 : Int) ≤ v48 ∧ v48 < ((n2 : Nat) : Int) then some (.pe 2000000 2 (0 + Int.toNat v48) 0) else none) (v := .pe 2000000 2 (0 + Int.toNat v48) 0) (by kernel_rfl) (ite_some hc61) (e1 := [(0, S2 n2), (1, I6 a3), (2, I6 a4), (3, .clo F_g5 C_g5), (9, I6 v26), (10, I6 v12), (11, I6 v48), (85, S2 n2), (86, I6 v48), (87, S2 n2), (88, I6 v48), (89, I6 (W6 (v48 - 1))), (90, S2 n2), (91, I6 v48), (92, I6 (W6 (v48 - 1))), (93, .pe 2000000 2 (0 + Int.toNat (W6 (v48 - 1))) 0), (94, .agg [I6 e60.f_From, I6 e60.f_To]), (95, S2 n2), (96, I6 v48), (97, .pe 2000000 2 (0 + Int.toNat v48) 0), O2 v47]) (by kernel_rfl) ?_
              obtain ⟨e62, he62, h⟩ := bind_some h
              refine WO.pureK 0 (match (List.map e_dpDep v47)[(0 + Int.toNat v48)]? with | some y => cut Try.prog 33 (y.cells.map AV.strip) 0 | none => none) (v := .agg [I6 e62.f_From, I6 e62.f_To]) (by kernel_rfl) ((pe_ld (f := e_dpDep) (G := (fun y => cut Try.prog 33 (y.cells.map AV.strip) 0)) he62).trans (by kernel_rfl)) (e1 := [(0, S2 n2), (1, I6 a3), (2, I6 a4), (3, .clo F_g5 C_g5), (9, I6 v26), (10, I6 v12), (11, I6 v48), (85, S2 n2), (86, I6 v48), (87, S2 n2), (88, I6 v48), (89, I6 (W6 (v48 - 1))), (90, S2 n2), (91, I6 v48), (92, I6 (W6 (v48 - 1))), (93, .pe 2000000 2 (0 + Int.toNat (W6 (v48 - 1))) 0), (94, .agg [I6 e60.f_From, I6 e60.f_To]), (95, S2 n2), (96, I6 v48), (97, .pe 2000000 2 (0 + Int.toNat v48) 0), (98, .agg [I6 e62.f_From, I6 e62.f_To]), O2 v47]) (by kernel_rfl) ?_
              obtain ⟨hc63, h⟩ := chk_some h
              refine WO.pureK 0 (if (0 : Int) ≤ v48 ∧ v48 < ((n2 : Nat) : Int) then some (.pe 2000000 2 (0 + Int.toNat v48) 0) else none) (v := .pe 2000000 2 (0 + Int.toNat v48) 0) (by kernel_rfl) (ite_some hc63) (e1 := [(0, S2 n2), (1, I6 a3), (2, I6 a4), (3, .clo F_g5 C_g5), (9, I6 v26), (10, I6 v12), (11, I6 v48), (85, S2 n2), (86, I6 v48), (87, S2 n2), (88, I6 v48), (89, I6 (W6 (v48 - 1))), (90, S2 n2), (91, I6 v48), (92, I6 (W6 (v48 - 1))), (93, .pe 2000000 2 (0 + Int.toNat (W6 (v48 - 1))) 0), (94, .agg [I6 e60.f_From, I6 e60.f_To]), (95, S2 n2), (96, I6 v48), (97, .pe 2000000 2 (0 + Int.toNat v48) 0), (98, .agg [I6 e62.f_From, I6 e62.f_To]), (99, .pe 2000000 2 (0 + Int.toNat v48) 0), O2 v47]) (by kernel_rfl) ?_
              obtain ⟨u64, hu64, h⟩ := bind_some h
              obtain ⟨y65, hyy65, hzy65⟩ := upd_some hu64
              refine WO.storeK 0 (id := 2000000) (e := 33) (s := 2) (j := (0 + Int.toNat v48)) (off := 0) (vs := [I6 e60.f_From, I6 e60.f_To]) (xs := (List.map e_dpDep v47)) (zs := (List.map e_dpDep u64)) (y := (e_dpDep) y65) (y' := (e_dpDep) e60) (by kernel_rfl) (upd_get hyy65) (by kernel_rfl) (upd_set hzy65) (e1 := [(0, S2 n2), (1, I6 a3), (2, I6 a4), (3, .clo F_g5 C_g5), (9, I6 v26), (10, I6 v12), (11, I6 v48), (85, S2 n2), (86, I6 v48), (87, S2 n2), (88, I6 v48), (89, I6 (W6 (v48 - 1))), (90, S2 n2), (91, I6 v48), (92, I6 (W6 (v48 - 1))), (93, .pe 2000000 2 (0 + Int.toNat (W6 (v48 - 1))) 0), (94, .agg [I6 e60.f_From, I6 e60.f_To]), (95, S2 n2), (96, I6 v48), (97, .pe 2000000 2 (0 + Int.toNat v48) 0), (98, .agg [I6 e62.f_From, I6 e62.f_To]), (99, .pe 2000000 2 (0 + Int.toNat v48) 0), O2 u64]) (by kernel_rfl) ?_
              obtain ⟨hc66, h⟩ := chk_some h
              refine WO.pureK 0 (if (0 : Int) ≤ (W6 (v48 - 1)) ∧ (W6 (v48 - 1)) < ((n2 : Nat) : Int) then some (.pe 2000000 2 (0 + Int.toNat (W6 (v48 - 1))) 0) else none) (v := .pe 2000000 2 (0 + Int.toNat (W6 (v48 - 1))) 0) (by kernel_rfl) (ite_some hc66) (e1 := [(0, S2 n2), (1, I6 a3), (2, I6 a4), (3, .clo F_g5 C_g5), (9, I6 v26), (10, I6 v12), (11, I6 v48), (85, S2 n2), (86, I6 v48), (87, S2 n2), (88, I6 v48), (89, I6 (W6 (v48 - 1))), (90, S2 n2), (91, I6 v48), (92, I6 (W6 (v48 - 1))), (93, .pe 2000000 2 (0 + Int.toNat (W6 (v48 - 1))) 0), (94, .agg [I6 e60.f_From, I6 e60.f_To]), (95, S2 n2), (96, I6 v48), (97, .pe 2000000 2 (0 + Int.toNat v48) 0), (98, .agg [I6 e62.f_From, I6 e62.f_To]), (99, .pe 2000000 2 (0 + Int.toNat v48) 0), (100, .pe 2000000 2 (0 + Int.toNat (W6 (v48 - 1))) 0), O2 u64]) (by kernel_rfl) ?_
              obtain ⟨u67, hu67, h⟩ := bind_some h
              obtain ⟨y68, hyy68, hzy68⟩ := upd_some hu67
              refine WO.storeK 0 (id := 2000000) (e := 33) (s := 2) (j := (0 + Int.toNat (W6 (v48 - 1)))) (off := 0) (vs := [I6 e62.f_From, I6 e62.f_To]) (xs := (List.map e_dpDep u64)) (zs := (List.map e_dpDep u67)) (y := (e_dpDep) y68) (y' := (e_dpDep) e62) (by kernel_rfl) (upd_get hyy68) (by kernel_rfl) (upd_set hzy68) (e1 := [(0, S2 n2), (1, I6 a3), (2, I6 a4), (3, .clo F_g5 C_g5), (9, I6 v26), (10, I6 v12), (11, I6 v48), (85, S2 n2), (86, I6 v48), (87, S2 n2), (88, I6 v48), (89, I6 (W6 (v48 - 1))), (90, S2 n2), (91, I6 v48), (92, I6 (W6 (v48 - 1))), (93, .pe 2000000 2 (0 + Int.toNat (W6 (v48 - 1))) 0), (94, .agg [I6 e60.f_From, I6 e60.f_To]), (95, S2 n2), (96, I6 v48), (97, .pe 2000000 2 (0 + Int.toNat v48) 0), (98, .agg [I6 e62.f_From, I6 e62.f_To]), (99, .pe 2000000 2 (0 + Int.toNat v48) 0), (100, .pe 2000000 2 (0 + Int.toNat (W6 (v48 - 1))) 0), O2 u67]) (by kernel_rfl) ?_
              refine WO.fin [0, 1, 2, 3, 9, 10, 11, 2000000] [] [] [] (e2 := [(0, S2 n2), (1, I6 a3), (2, I6 a4), (3, .clo F_g5 C_g5), (9, I6 v26), (10, I6 v12), (11, I6 v48), O2 u67]) (by kernel_rfl) (fun _ h => h) ?_
              refine W.regT [0, 1, 2, 3, 9, 10, 11, 2000000] [] [] [] (e2 := [(0, S2 n2), (1, I6 a3), (2, I6 a4), (3, .clo F_g5 C_g5), (9, I6 v26), (10, I6 v12), (11, I6 (W6 (v48 - 1))), O2 u67]) (by kernel_rfl) (by kernel_rfl) (fun _ h => h) ?_
              exact hN3 (u67, (W6 (v48 - 1))) h
            replace h := cond_f hb h
            refine W.exit ?_
            refine W.weak [0, 1, 2, 3, 9, 10, 2000000] [] [] [] (env' := [(0, S2 n2), (1, I6 a3), (2, I6 a4), (3, .clo F_g5 C_g5), (9, I6 v26), (10, I6 v12), O2 v47]) (by kernel_rfl) ?_
            exact hK44 v47 h
        replace h := cond_f hb h
        refine W.skip ?_
        refine W.weak [0, 1, 2, 3, 9, 10, 2000000] [] [] [] (env' := [(0, S2 n2), (1, I6 a3), (2, I6 a4), (3, .clo F_g5 C_g5), (9, I6 v26), (10, I6 v12), O2 u42]) (by kernel_rfl) ?_
        exact hK44 u42 h
      refine W.block ?_
      refine W.weak [0, 1, 2, 3, 9, 10, 2000000] [] [] [] (env' := [(0, S2 n2), (1, I6 a3), (2, I6 a4), (3, .clo F_g5 C_g5), (9, I6 v11), (10, I6 v12), O2 v10]) (by kernel_rfl) ?_
      refine W.fuel (σ := (Int)) (fun s => [(0, S2 n2), (1, I6 a3), (2, I6 a4), (3, .clo F_g5 C_g5), (9, I6 s), (10, I6 v12), O2 v10]) (fun m0 s => sl_partialInsertionSortCmpFunc_dpDep_l2 n2 a4 g5 v10 (sl_partialInsertionSortCmpFunc_dpDep_j16 fuel n2 a3 a4 g5 v10 (sl_partialInsertionSortCmpFunc_dpDep_j15 v12 (sl_partialInsertionSortCmpFunc_dpDep_l1 fuel n2 a3 a4 g5 (sl_partialInsertionSortCmpFunc_dpDep_j8) m1))) m0 s = some r) (fun s h => ?_) (fun m2 s h hN2 => ?_) fuel v11 h
      · obtain ⟨v17, rfl⟩ : ∃ x, x = s := ⟨s, rfl⟩
        have h : sl_partialInsertionSortCmpFunc_dpDep_l2 n2 a4 g5 v10 (sl_partialInsertionSortCmpFunc_dpDep_j16 fuel n2 a3 a4 g5 v10 (sl_partialInsertionSortCmpFunc_dpDep_j15 v12 (sl_partialInsertionSortCmpFunc_dpDep_l1 fuel n2 a3 a4 g5 (sl_partialInsertionSortCmpFunc_dpDep_j8) m1))) 0 v17 = some r := h
        rw [sl_partialInsertionSortCmpFunc_dpDep_l2.eq_1] at h
        cases h
      · obtain ⟨v17, rfl⟩ : ∃ x, x = s := ⟨s, rfl⟩
        have h : sl_partialInsertionSortCmpFunc_dpDep_l2 n2 a4 g5 v10 (sl_partialInsertionSortCmpFunc_dpDep_j16 fuel n2 a3 a4 g5 v10 (sl_partialInsertionSortCmpFunc_dpDep_j15 v12 (sl_partialInsertionSortCmpFunc_dpDep_l1 fuel n2 a3 a4 g5 (sl_partialInsertionSortCmpFunc_dpDep_j8) m1))) (m2 + 1) v17 = some r := h
        rw [sl_partialInsertionSortCmpFunc_dpDep_l2.eq_2] at h
        refine W.seq ?_
        refine W.seq ?_
        refine W.join (σ := (Bool)) (fun s => [(0, S2 n2), (1, I6 a3), (2, I6 a4), (3, .clo F_g5 C_g5), (9, I6 v17), (10, I6 v12), (36, .bool s), O2 v10]) (fun s => (sl_partialInsertionSortCmpFunc_dpDep_j19 v17 (sl_partialInsertionSortCmpFunc_dpDep_l2 n2 a4 g5 v10 (sl_partialInsertionSortCmpFunc_dpDep_j16 fuel n2 a3 a4 g5 v10 (sl_partialInsertionSortCmpFunc_dpDep_j15 v12 (sl_partialInsertionSortCmpFunc_dpDep_l1 fuel n2 a3 a4 g5 (sl_partialInsertionSortCmpFunc_dpDep_j8) m1))) m2) (sl_partialInsertionSortCmpFunc_dpDep_j16 fuel n2 a3 a4 g5 v10 (sl_partialInsertionSortCmpFunc_dpDep_j15 v12 (sl_partialInsertionSortCmpFunc_dpDep_l1 fuel n2 a3 a4 g5 (sl_partialInsertionSortCmpFunc_dpDep_j8) m1)))) s = some r) (fun s h => ?_) (fun hK19 => ?_)
        · obtain ⟨v25, rfl⟩ : ∃ x, x = s := ⟨s, rfl⟩
          have h : (sl_partialInsertionSortCmpFunc_dpDep_j19 v17 (sl_partialInsertionSortCmpFunc_dpDep_l2 n2 a4 g5 v10 (sl_partialInsertionSortCmpFunc_dpDep_j16 fuel n2 a3 a4 g5 v10 (sl_partialInsertionSortCmpFunc_dpDep_j15 v12 (sl_partialInsertionSortCmpFunc_dpDep_l1 fuel n2 a3 a4 g5 (sl_partialInsertionSortCmpFunc_dpDep_j8) m1))) m2) (sl_partialInsertionSortCmpFunc_dpDep_j16 fuel n2 a3 a4 g5 v10 (sl_partialInsertionSortCmpFunc_dpDep_j15 v12 (sl_partialInsertionSortCmpFunc_dpDep_l1 fuel n2 a3 a4 g5 (sl_partialInsertionSortCmpFunc_dpDep_j8) m1)))) v25 = some r := h
          unfold sl_partialInsertionSortCmpFunc_dpDep_j19 at h
          refine W.condB v25 (by kernel_rfl) (fun hb => ?_) (fun hb => ?_)
          · replace h := cond_t hb h
            refine W.skip ?_
            refine W.weak [0, 1, 2, 3, 9, 10, 2000000] [] [] [] (env' := [(0, S2 n2), (1, I6 a3), (2, I6 a4), (3, .clo F_g5 C_g5), (9, I6 v17), (10, I6 v12), O2 v10]) (by kernel_rfl) ?_
            refine W.block ?_
            refine W.regT [0, 1, 2, 3, 9, 10, 2000000] [] [] [] (e2 := [(0, S2 n2), (1, I6 a3), (2, I6 a4), (3, .clo F_g5 C_g5), (9, I6 (W6 (v17 + 1))), (10, I6 v12), O2 v10]) (by kernel_rfl) (by kernel_rfl) (fun _ h => h) ?_
            exact hN2 (W6 (v17 + 1)) h
          replace h := cond_f hb h
          refine W.exit ?_
          refine W.weak [0, 1, 2, 3, 9, 10, 2000000] [] [] [] (env' := [(0, S2 n2), (1, I6 a3), (2, I6 a4), (3, .clo F_g5 C_g5), (9, I6 v17), (10, I6 v12), O2 v10]) (by kernel_rfl) ?_
          exact hK16 v17 h
        refine W.region (by kernel_rfl) ?_
        refine WO.boolK 4 (fun b => [(0, S2 n2), (1, I6 a3), (2, I6 a4), (3, .clo F_g5 C_g5), (9, I6 v17), (10, I6 v12), (19, I6 v17), (20, I6 a4), (21, .bool b), (22, .bool b), O2 v10]) (decide (v17 < a4)) (by kernel_rfl) (fun hb => ?_) (fun hb => ?_)
        · replace h := cond_t hb h
          obtain ⟨hc20, h⟩ := chk_some h
          refine WO.pureK 3 (if (0 : Int) ≤ v17 ∧ v17 < ((n2 : Nat) : Int) then some (.pe 2000000 2 (0 + Int.toNat v17) 0) else none) (v := .pe 2000000 2 (0 + Int.toNat v17) 0) (by kernel_rfl) (ite_some hc20) (e1 := [(0, S2 n2), (1, I6 a3), (2, I6 a4), (3, .clo F_g5 C_g5), (9, I6 v17), (10, I6 v12), (19, I6 v17), (20, I6 a4), (21, .bool true), (22, .bool true), (23, .clo F_g5 C_g5), (24, S2 n2), (25, I6 v17), (26, .pe 2000000 2 (0 + Int.toNat v17) 0), O2 v10]) (by kernel_rfl) ?_
          obtain ⟨e21, he21, h⟩ := bind_some h
          refine WO.pureK 0 (match (List.map e_dpDep v10)[(0 + Int.toNat v17)]? with | some y => cut Try.prog 33 (y.cells.map AV.strip) 0 | none => none) (v := .agg [I6 e21.f_From, I6 e21.f_To]) (by kernel_rfl) ((pe_ld (f := e_dpDep) (G := (fun y => cut Try.prog 33 (y.cells.map AV.strip) 0)) he21).trans (by kernel_rfl)) (e1 := [(0, S2 n2), (1, I6 a3), (2, I6 a4), (3, .clo F_g5 C_g5), (9, I6 v17), (10, I6 v12), (19, I6 v17), (20, I6 a4), (21, .bool true), (22, .bool true), (23, .clo F_g5 C_g5), (24, S2 n2), (25, I6 v17), (26, .pe 2000000 2 (0 + Int.toNat v17) 0), (27, .agg [I6 e21.f_From, I6 e21.f_To]), O2 v10]) (by kernel_rfl) ?_
          obtain ⟨hc22, h⟩ := chk_some h
          refine WO.pureK 3 (if (0 : Int) ≤ (W6 (v17 - 1)) ∧ (W6 (v17 - 1)) < ((n2 : Nat) : Int) then some (.pe 2000000 2 (0 + Int.toNat (W6 (v17 - 1))) 0) else none) (v := .pe 2000000 2 (0 + Int.toNat (W6 (v17 - 1))) 0) (by kernel_rfl) (ite_some hc22) (e1 := [(0, S2 n2), (1, I6 a3), (2, I6 a4), (3, .clo F_g5 C_g5), (9, I6 v17), (10, I6 v12), (19, I6 v17), (20, I6 a4), (21, .bool true), (22, .bool true), (23, .clo F_g5 C_g5), (24, S2 n2), (25, I6 v17), (26, .pe 2000000 2 (0 + Int.toNat v17) 0), (27, .agg [I6 e21.f_From, I6 e21.f_To]), (28, S2 n2), (29, I6 v17), (30, I6 (W6 (v17 - 1))), (31, .pe 2000000 2 (0 + Int.toNat (W6 (v17 - 1))) 0), O2 v10]) (by kernel_rfl) ?_
          obtain ⟨e23, he23, h⟩ := bind_some h
          refine WO.pureK 0 (match (List.map e_dpDep v10)[(0 + Int.toNat (W6 (v17 - 1)))]? with | some y => cut Try.prog 33 (y.cells.map AV.strip) 0 | none => none) (v := .agg [I6 e23.f_From, I6 e23.f_To]) (by kernel_rfl) ((pe_ld (f := e_dpDep) (G := (fun y => cut Try.prog 33 (y.cells.map AV.strip) 0)) he23).trans (by kernel_rfl)) (e1 := [(0, S2 n2), (1, I6 a3), (2, I6 a4), (3, .clo F_g5 C_g5), (9, I6 v17), (10, I6 v12), (19, I6 v17), (20, I6 a4), (21, .bool true), (22, .bool true), (23, .clo F_g5 C_g5), (24, S2 n2), (25, I6 v17), (26, .pe 2000000 2 (0 + Int.toNat v17) 0), (27, .agg [I6 e21.f_From, I6 e21.f_To]), (28, S2 n2), (29, I6 v17), (30, I6 (W6 (v17 - 1))), (31, .pe 2000000 2 (0 + Int.toNat (W6 (v17 - 1))) 0), (32, .agg [I6 e23.f_From, I6 e23.f_To]), O2 v10]) (by kernel_rfl) ?_
          obtain ⟨w24, hw24, h⟩ := bind_some h
          refine WO.callK 0 (F := F_g5) (l := [.agg [I6 e21.f_From, I6 e21.f_To], .agg [I6 e23.f_From, I6 e23.f_To]]) (C := C_g5) (r := I6 w24) (by kernel_rfl) hok_g5 (hrun_g5 e21 e23 w24 hw24) (e1 := [(0, S2 n2), (1, I6 a3), (2, I6 a4), (3, .clo F_g5 C_g5), (9, I6 v17), (10, I6 v12), (19, I6 v17), (20, I6 a4), (21, .bool true), (22, .bool true), (23, .clo F_g5 C_g5), (24, S2 n2), (25, I6 v17), (26, .pe 2000000 2 (0 + Int.toNat v17) 0), (27, .agg [I6 e21.f_From, I6 e21.f_To]), (28, S2 n2), (29, I6 v17), (30, I6 (W6 (v17 - 1))), (31, .pe 2000000 2 (0 + Int.toNat (W6 (v17 - 1))) 0), (32, .agg [I6 e23.f_From, I6 e23.f_To]), (33, I6 w24), O2 v10]) (by kernel_rfl) ?_
          refine WO.fin [0, 1, 2, 3, 9, 10, 36, 2000000] [] [] [] (e2 := [(0, S2 n2), (1, I6 a3), (2, I6 a4), (3, .clo F_g5 C_g5), (9, I6 v17), (10, I6 v12), (36, .bool (!(decide (w24 < 0)))), O2 v10]) (by kernel_rfl) (fun _ h => h) ?_
          exact hK19 (!(decide (w24 < 0))) h
        replace h := cond_f hb h
        refine WO.fin [0, 1, 2, 3, 9, 10, 36, 2000000] [] [] [] (e2 := [(0, S2 n2), (1, I6 a3), (2, I6 a4), (3, .clo F_g5 C_g5), (9, I6 v17), (10, I6 v12), (36, .bool false), O2 v10]) (by kernel_rfl) (fun _ h => h) ?_
        exact hK19 false h
    replace h := cond_f hb h
    refine W.exit ?_
    refine W.weak [2000000] [] [] [] (env' := [O2 v10]) (by kernel_rfl) ?_
    exact hK8 v10 h

end Go.AM
