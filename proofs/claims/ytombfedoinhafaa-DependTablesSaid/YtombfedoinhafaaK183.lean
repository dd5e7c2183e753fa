/- PRINTED by gen.py: pure functions and the proofs that the code computes them. No statement of the seat is proved here. -/
import Derived.Test.YtombfedoinhafaaK182
set_option maxRecDepth 100000
set_option linter.unusedVariables false
set_option linter.unusedSimpArgs false
namespace Go.AM
open Go.Proofs
def sl_stableCmpFunc_int_j36 (v21 : Int) (N2 : ((List Int) → Int → Option (List Int))) (v40 : (List Int)) : Option (List Int) :=
  (N2 v40 (IntKind.wrap .i64 (v21 * 2)))
def sl_stableCmpFunc_int_j25 (fuel : Nat) (n2 : Nat) (a3 : Int) (g4 : (Int → Int → Option Int)) (v21 : Int) (N2 : ((List Int) → Int → Option (List Int))) (v34 : (List Int)) (v35 : Int) : Option (List Int) :=
  (bif (decide ((IntKind.wrap .i64 (v35 + v21)) < a3)) then ((sl_symMergeCmpFunc_int fuel v34 n2 v35 (IntKind.wrap .i64 (v35 + v21)) a3 g4).bind fun w39 => ((sl_stableCmpFunc_int_j36 v21 N2) w39)) else ((sl_stableCmpFunc_int_j36 v21 N2) v34))
def sl_stableCmpFunc_int_l3 (fuel : Nat) (n2 : Nat) (a3 : Int) (g4 : (Int → Int → Option Int)) (v21 : Int) (K25 : ((List Int) → Int → Option (List Int))) : Nat → (List Int) → Int → Int → Option (List Int)
  | 0, _, _, _ => none
  | m3 + 1, v26, v27, v28 => (bif (decide (v28 ≤ a3)) then ((sl_symMergeCmpFunc_int fuel v26 n2 v27 (IntKind.wrap .i64 (v27 + v21)) v28 g4).bind fun w32 => ((sl_stableCmpFunc_int_l3 fuel n2 a3 g4 v21 K25 m3) w32 v28 (IntKind.wrap .i64 (v28 + (IntKind.wrap .i64 (2 * v21)))))) else (K25 v26 v27))
def sl_stableCmpFunc_int_l2 (fuel : Nat) (n2 : Nat) (a3 : Int) (g4 : (Int → Int → Option Int)) : Nat → (List Int) → Int → Option (List Int)
  | 0, _, _ => none
  | m2 + 1, v20, v21 => (bif (decide (v21 < a3)) then (sl_stableCmpFunc_int_l3 fuel n2 a3 g4 v21 (sl_stableCmpFunc_int_j25 fuel n2 a3 g4 v21 (sl_stableCmpFunc_int_l2 fuel n2 a3 g4 m2)) fuel v20 0 (IntKind.wrap .i64 (2 * v21))) else (some v20))
def sl_stableCmpFunc_int_j7 (fuel : Nat) (n2 : Nat) (a3 : Int) (g4 : (Int → Int → Option Int)) (v16 : (List Int)) (v17 : Int) : Option (List Int) :=
  ((sl_insertionSortCmpFunc_int fuel v16 n2 v17 a3 g4).bind fun w19 => (sl_stableCmpFunc_int_l2 fuel n2 a3 g4 fuel w19 20))
def sl_stableCmpFunc_int_l1 (fuel : Nat) (n2 : Nat) (a3 : Int) (g4 : (Int → Int → Option Int)) (K7 : ((List Int) → Int → Option (List Int))) : Nat → (List Int) → Int → Int → Option (List Int)
  | 0, _, _, _ => none
  | m1 + 1, v8, v9, v10 => (bif (decide (v10 ≤ a3)) then ((sl_insertionSortCmpFunc_int fuel v8 n2 v9 v10 g4).bind fun w14 => ((sl_stableCmpFunc_int_l1 fuel n2 a3 g4 K7 m1) w14 v10 (IntKind.wrap .i64 (v10 + 20)))) else (K7 v8 v9))
def sl_stableCmpFunc_int (fuel : Nat) (a1 : (List Int)) (n2 : Nat) (a3 : Int) (g4 : (Int → Int → Option Int)) : Option (List Int) :=
  (sl_stableCmpFunc_int_l1 fuel n2 a3 g4 (sl_stableCmpFunc_int_j7 fuel n2 a3 g4) fuel a1 0 20)
theorem run_sl_stableCmpFunc_int (fuel : Nat) (a1 : (List Int)) (n2 : Nat) (a3 : Int) (g4 : (Int → Int → Option Int)) (F_g4 : Nat) (C_g4 : List AV) (hok_g4 : okFn Try.prog F_g4 = true) (hrun_g4 : ∀ (x0 : Int) (x1 : Int) r, g4 x0 x1 = some r → Run Try.prog (.call F_g4 ([I6 x0, I6 x1] ++ C_g4) (I6 r))) (r : (List Int)) (h : sl_stableCmpFunc_int fuel a1 n2 a3 g4 = some r) : Run Try.prog (.callM 95 [S1 n2, I6 a3, .clo F_g4 C_g4] [O1 a1] (.tup []) [O1 r]) := by
  refine callM_of_W Try.func95 rfl (by kernel_rfl) (env0 := [(0, S1 n2), (1, I6 a3), (2, .clo F_g4 C_g4), O1 a1]) (by kernel_rfl) ?_
  unfold sl_stableCmpFunc_int at h
  refine W.seq ?_
  refine W.regT [0, 1, 2, 6, 2000000] [] [] [] (e2 := [(0, S1 n2), (1, I6 a3), (2, .clo F_g4 C_g4), (6, .int .i64 20), O1 a1]) (by kernel_rfl) (by kernel_rfl) (fun _ h => h) ?_
  refine W.seq ?_
  refine W.regT [0, 1, 2, 6, 7, 8, 2000000] [] [] [] (e2 := [(0, S1 n2), (1, I6 a3), (2, .clo F_g4 C_g4), (6, .int .i64 20), (7, .int .i64 0), (8, .int .i64 20), O1 a1]) (by kernel_rfl) (by kernel_rfl) (fun _ h => h) ?_
  refine W.seq ?_
  refine W.join (σ := ((List Int) × Int)) (fun s => [(0, S1 n2), (1, I6 a3), (2, .clo F_g4 C_g4), (6, .int .i64 20), (7, I6 s.2), (2000000, .obj 3 1 (List.map (AV.int .i64) s.1))]) (fun s => (sl_stableCmpFunc_int_j7 fuel n2 a3 g4) s.1 s.2 = some r) (fun s h => ?_) (fun hK7 => ?_)
  · obtain ⟨v16, v17⟩ := s
    have h : (sl_stableCmpFunc_int_j7 fuel n2 a3 g4) v16 v17 = some r := h
    unfold sl_stableCmpFunc_int_j7 at h
    refine W.seq ?_
    refine W.region (by kernel_rfl) ?_
    obtain ⟨w19, hw19, h⟩ := bind_some h
    refine WO.callMK 4 [(2000000, 2000000)] [] (F := 101) (args := [S1 n2, I6 v17, I6 a3, .clo F_g4 C_g4]) (hp := [O1 v16]) (hp2 := [O1 w19]) (r := .tup []) (by kernel_rfl) (run_sl_insertionSortCmpFunc_int fuel v16 n2 v17 a3 g4 F_g4 C_g4 hok_g4 hrun_g4 w19 hw19) (e1 := [(0, S1 n2), (1, I6 a3), (2, .clo F_g4 C_g4), (6, .int .i64 20), (7, I6 v17), (23, S1 n2), (24, I6 v17), (25, I6 a3), (26, .clo F_g4 C_g4), (27, .tup []), O1 w19]) (by kernel_rfl) ?_
    refine WO.fin [0, 1, 2, 6, 2000000] [] [] [] (e2 := [(0, S1 n2), (1, I6 a3), (2, .clo F_g4 C_g4), (6, .int .i64 20), O1 w19]) (by kernel_rfl) (fun _ h => h) ?_
    refine W.block ?_
    refine W.weak [0, 1, 2, 6, 2000000] [] [] [] (env' := [(0, S1 n2), (1, I6 a3), (2, .clo F_g4 C_g4), (6, .int .i64 20), O1 w19]) (by kernel_rfl) ?_
    refine W.fuel (σ := ((List Int) × Int)) (fun s => [(0, S1 n2), (1, I6 a3), (2, .clo F_g4 C_g4), (6, I6 s.2), (2000000, .obj 3 1 (List.map (AV.int .i64) s.1))]) (fun m0 s => sl_stableCmpFunc_int_l2 fuel n2 a3 g4 m0 s.1 s.2 = some r) (fun s h => ?_) (fun m2 s h hN2 => ?_) fuel (w19, 20) h
    · obtain ⟨v20, v21⟩ := s
      have h : sl_stableCmpFunc_int_l2 fuel n2 a3 g4 0 v20 v21 = some r := h
      rw [sl_stableCmpFunc_int_l2.eq_1] at h
      cases h
    · obtain ⟨v20, v21⟩ := s
      have h : sl_stableCmpFunc_int_l2 fuel n2 a3 g4 (m2 + 1) v20 v21 = some r := h
      rw [sl_stableCmpFunc_int_l2.eq_2] at h
      refine W.seq ?_
      refine W.seq ?_
      refine W.regT [0, 1, 2, 6, 30, 2000000] [] [] [] (e2 := [(0, S1 n2), (1, I6 a3), (2, .clo F_g4 C_g4), (6, I6 v21), (30, .bool (decide (v21 < a3))), O1 v20]) (by kernel_rfl) (by kernel_rfl) (fun _ h => h) ?_
      refine W.condB (decide (v21 < a3)) (by kernel_rfl) (fun hb => ?_) (fun hb => ?_)
      · replace h := cond_t hb h
        refine W.skip ?_
        refine W.weak [0, 1, 2, 6, 2000000] [] [] [] (env' := [(0, S1 n2), (1, I6 a3), (2, .clo F_g4 C_g4), (6, I6 v21), O1 v20]) (by kernel_rfl) ?_
        refine W.block ?_
        refine W.seq ?_
        refine W.regT [0, 1, 2, 6, 7, 8, 2000000] [] [] [] (e2 := [(0, S1 n2), (1, I6 a3), (2, .clo F_g4 C_g4), (6, I6 v21), (7, .int .i64 0), (8, I6 (W6 (2 * v21))), O1 v20]) (by kernel_rfl) (by kernel_rfl) (fun _ h => h) ?_
        refine W.seq ?_
        refine W.join (σ := ((List Int) × Int)) (fun s => [(0, S1 n2), (1, I6 a3), (2, .clo F_g4 C_g4), (6, I6 v21), (7, I6 s.2), (2000000, .obj 3 1 (List.map (AV.int .i64) s.1))]) (fun s => (sl_stableCmpFunc_int_j25 fuel n2 a3 g4 v21 (sl_stableCmpFunc_int_l2 fuel n2 a3 g4 m2)) s.1 s.2 = some r) (fun s h => ?_) (fun hK25 => ?_)
        · obtain ⟨v34, v35⟩ := s
          have h : (sl_stableCmpFunc_int_j25 fuel n2 a3 g4 v21 (sl_stableCmpFunc_int_l2 fuel n2 a3 g4 m2)) v34 v35 = some r := h
          unfold sl_stableCmpFunc_int_j25 at h
          refine W.seq ?_
          refine W.join (σ := ((List Int))) (fun s => [(0, S1 n2), (1, I6 a3), (2, .clo F_g4 C_g4), (6, I6 v21), O1 s]) (fun s => (sl_stableCmpFunc_int_j36 v21 (sl_stableCmpFunc_int_l2 fuel n2 a3 g4 m2)) s = some r) (fun s h => ?_) (fun hK36 => ?_)
          · obtain ⟨v40, rfl⟩ : ∃ x, x = s := ⟨s, rfl⟩
            have h : (sl_stableCmpFunc_int_j36 v21 (sl_stableCmpFunc_int_l2 fuel n2 a3 g4 m2)) v40 = some r := h
            unfold sl_stableCmpFunc_int_j36 at h
            refine W.regT [0, 1, 2, 6, 2000000] [] [] [] (e2 := [(0, S1 n2), (1, I6 a3), (2, .clo F_g4 C_g4), (6, I6 (W6 (v21 * 2))), O1 v40]) (by kernel_rfl) (by kernel_rfl) (fun _ h => h) ?_
            exact hN2 (v40, (W6 (v21 * 2))) h
          refine W.seq ?_
          refine W.regT [0, 1, 2, 6, 7, 9, 2000000] [] [] [] (e2 := [(0, S1 n2), (1, I6 a3), (2, .clo F_g4 C_g4), (6, I6 v21), (7, I6 v35), (9, I6 (W6 (v35 + v21))), O1 v34]) (by kernel_rfl) (by kernel_rfl) (fun _ h => h) ?_
          refine W.seq ?_
          refine W.regT [0, 1, 2, 6, 7, 9, 54, 2000000] [] [] [] (e2 := [(0, S1 n2), (1, I6 a3), (2, .clo F_g4 C_g4), (6, I6 v21), (7, I6 v35), (9, I6 (W6 (v35 + v21))), (54, .bool (decide ((W6 (v35 + v21)) < a3))), O1 v34]) (by kernel_rfl) (by kernel_rfl) (fun _ h => h) ?_
          refine W.condB (decide ((W6 (v35 + v21)) < a3)) (by kernel_rfl) (fun hb => ?_) (fun hb => ?_)
          · replace h := cond_t hb h
            refine W.region (by kernel_rfl) ?_
            obtain ⟨w39, hw39, h⟩ := bind_some h
            refine WO.callMK 5 [(2000000, 2000000)] [] (F := 102) (args := [S1 n2, I6 v35, I6 (W6 (v35 + v21)), I6 a3, .clo F_g4 C_g4]) (hp := [O1 v34]) (hp2 := [O1 w39]) (r := .tup []) (by kernel_rfl) (run_sl_symMergeCmpFunc_int fuel v34 n2 v35 (W6 (v35 + v21)) a3 g4 F_g4 C_g4 hok_g4 hrun_g4 w39 hw39) (e1 := [(0, S1 n2), (1, I6 a3), (2, .clo F_g4 C_g4), (6, I6 v21), (7, I6 v35), (9, I6 (W6 (v35 + v21))), (54, .bool (decide ((W6 (v35 + v21)) < a3))), (55, S1 n2), (56, I6 v35), (57, I6 (W6 (v35 + v21))), (58, I6 a3), (59, .clo F_g4 C_g4), (60, .tup []), O1 w39]) (by kernel_rfl) ?_
            refine WO.fin [0, 1, 2, 6, 2000000] [] [] [] (e2 := [(0, S1 n2), (1, I6 a3), (2, .clo F_g4 C_g4), (6, I6 v21), O1 w39]) (by kernel_rfl) (fun _ h => h) ?_
            exact hK36 w39 h
          replace h := cond_f hb h
          refine W.skip ?_
          refine W.weak [0, 1, 2, 6, 2000000] [] [] [] (env' := [(0, S1 n2), (1, I6 a3), (2, .clo F_g4 C_g4), (6, I6 v21), O1 v34]) (by kernel_rfl) ?_
          exact hK36 v34 h
        refine W.block ?_
        refine W.weak [0, 1, 2, 6, 7, 8, 2000000] [] [] [] (env' := [(0, S1 n2), (1, I6 a3), (2, .clo F_g4 C_g4), (6, I6 v21), (7, .int .i64 0), (8, I6 (W6 (2 * v21))), O1 v20]) (by kernel_rfl) ?_
        refine W.fuel (σ := ((List Int) × Int × Int)) (fun s => [(0, S1 n2), (1, I6 a3), (2, .clo F_g4 C_g4), (6, I6 v21), (7, I6 s.2.1), (8, I6 s.2.2), (2000000, .obj 3 1 (List.map (AV.int .i64) s.1))]) (fun m0 s => sl_stableCmpFunc_int_l3 fuel n2 a3 g4 v21 (sl_stableCmpFunc_int_j25 fuel n2 a3 g4 v21 (sl_stableCmpFunc_int_l2 fuel n2 a3 g4 m2)) m0 s.1 s.2.1 s.2.2 = some r) (fun s h => ?_) (fun m3 s h hN3 => ?_) fuel (v20, 0, (W6 (2 * v21))) h
        · obtain ⟨v26, v27, v28⟩ := s
          have h : sl_stableCmpFunc_int_l3 fuel n2 a3 g4 v21 (sl_stableCmpFunc_int_j25 fuel n2 a3 g4 v21 (sl_stableCmpFunc_int_l2 fuel n2 a3 g4 m2)) 0 v26 v27 v28 = some r := h
          rw [sl_stableCmpFunc_int_l3.eq_1] at h
          cases h
        · obtain ⟨v26, v27, v28⟩ := s
          have h : sl_stableCmpFunc_int_l3 fuel n2 a3 g4 v21 (sl_stableCmpFunc_int_j25 fuel n2 a3 g4 v21 (sl_stableCmpFunc_int_l2 fuel n2 a3 g4 m2)) (m3 + 1) v26 v27 v28 = some r := h
          rw [sl_stableCmpFunc_int_l3.eq_2] at h
          refine W.seq ?_
          refine W.seq ?_
          refine W.regT [0, 1, 2, 6, 7, 8, 35, 2000000] [] [] [] (e2 := [(0, S1 n2), (1, I6 a3), (2, .clo F_g4 C_g4), (6, I6 v21), (7, I6 v27), (8, I6 v28), (35, .bool (decide (v28 ≤ a3))), O1 v26]) (by kernel_rfl) (by kernel_rfl) (fun _ h => h) ?_
          refine W.condB (decide (v28 ≤ a3)) (by kernel_rfl) (fun hb => ?_) (fun hb => ?_)
          · replace h := cond_t hb h
            refine W.skip ?_
            refine W.weak [0, 1, 2, 6, 7, 8, 2000000] [] [] [] (env' := [(0, S1 n2), (1, I6 a3), (2, .clo F_g4 C_g4), (6, I6 v21), (7, I6 v27), (8, I6 v28), O1 v26]) (by kernel_rfl) ?_
            refine W.block ?_
            refine W.seq ?_
            refine W.region (by kernel_rfl) ?_
            obtain ⟨w32, hw32, h⟩ := bind_some h
            refine WO.callMK 7 [(2000000, 2000000)] [] (F := 102) (args := [S1 n2, I6 v27, I6 (W6 (v27 + v21)), I6 v28, .clo F_g4 C_g4]) (hp := [O1 v26]) (hp2 := [O1 w32]) (r := .tup []) (by kernel_rfl) (run_sl_symMergeCmpFunc_int fuel v26 n2 v27 (W6 (v27 + v21)) v28 g4 F_g4 C_g4 hok_g4 hrun_g4 w32 hw32) (e1 := [(0, S1 n2), (1, I6 a3), (2, .clo F_g4 C_g4), (6, I6 v21), (7, I6 v27), (8, I6 v28), (36, S1 n2), (37, I6 v27), (38, I6 v27), (39, I6 v21), (40, I6 (W6 (v27 + v21))), (41, I6 v28), (42, .clo F_g4 C_g4), (43, .tup []), O1 w32]) (by kernel_rfl) ?_
            refine WO.fin [0, 1, 2, 6, 8, 2000000] [] [] [] (e2 := [(0, S1 n2), (1, I6 a3), (2, .clo F_g4 C_g4), (6, I6 v21), (8, I6 v28), O1 w32]) (by kernel_rfl) (fun _ h => h) ?_
            refine W.seq ?_
            refine W.regT [0, 1, 2, 6, 7, 8, 2000000] [] [] [] (e2 := [(0, S1 n2), (1, I6 a3), (2, .clo F_g4 C_g4), (6, I6 v21), (7, I6 v28), (8, I6 v28), O1 w32]) (by kernel_rfl) (by kernel_rfl) (fun _ h => h) ?_
            refine W.regT [0, 1, 2, 6, 7, 8, 2000000] [] [] [] (e2 := [(0, S1 n2), (1, I6 a3), (2, .clo F_g4 C_g4), (6, I6 v21), (7, I6 v28), (8, I6 (W6 (v28 + (W6 (2 * v21))))), O1 w32]) (by kernel_rfl) (by kernel_rfl) (fun _ h => h) ?_
            exact hN3 (w32, v28, (W6 (v28 + (W6 (2 * v21))))) h
          replace h := cond_f hb h
          refine W.exit ?_
          refine W.weak [0, 1, 2, 6, 7, 2000000] [] [] [] (env' := [(0, S1 n2), (1, I6 a3), (2, .clo F_g4 C_g4), (6, I6 v21), (7, I6 v27), O1 v26]) (by kernel_rfl) ?_
          exact hK25 (v26, v27) h
      replace h := cond_f hb h
      have hr : PostM Try.prog Try.f95 (.tup []) [O1 v20] .normal [(0, S1 n2), (1, I6 a3), (2, .clo F_g4 C_g4), (6, I6 v21), (30, .bool (decide (v21 < a3))), O1 v20] := ⟨by kernel_rfl, by kernel_rfl⟩
      cases h
      exact W.exit hr
  refine W.block ?_
  refine W.weak [0, 1, 2, 6, 7, 8, 2000000] [] [] [] (env' := [(0, S1 n2), (1, I6 a3), (2, .clo F_g4 C_g4), (6, .int .i64 20), (7, .int .i64 0), (8, .int .i64 20), O1 a1]) (by kernel_rfl) ?_
  refine W.fuel (σ := ((List Int) × Int × Int)) (fun s => [(0, S1 n2), (1, I6 a3), (2, .clo F_g4 C_g4), (6, .int .i64 20), (7, I6 s.2.1), (8, I6 s.2.2), (2000000, .obj 3 1 (List.map (AV.int .i64) s.1))]) (fun m0 s => sl_stableCmpFunc_int_l1 fuel n2 a3 g4 (sl_stableCmpFunc_int_j7 fuel n2 a3 g4) m0 s.1 s.2.1 s.2.2 = some r) (fun s h => ?_) (fun m1 s h hN1 => ?_) fuel (a1, 0, 20) h
  · obtain ⟨v8, v9, v10⟩ := s
    have h : sl_stableCmpFunc_int_l1 fuel n2 a3 g4 (sl_stableCmpFunc_int_j7 fuel n2 a3 g4) 0 v8 v9 v10 = some r := h
    rw [sl_stableCmpFunc_int_l1.eq_1] at h
    cases h
  · obtain ⟨v8, v9, v10⟩ := s
    have h : sl_stableCmpFunc_int_l1 fuel n2 a3 g4 (sl_stableCmpFunc_int_j7 fuel n2 a3 g4) (m1 + 1) v8 v9 v10 = some r := h
    rw [sl_stableCmpFunc_int_l1.eq_2] at h
    refine W.seq ?_
    refine W.seq ?_
    refine W.regT [0, 1, 2, 6, 7, 8, 13, 2000000] [] [] [] (e2 := [(0, S1 n2), (1, I6 a3), (2, .clo F_g4 C_g4), (6, .int .i64 20), (7, I6 v9), (8, I6 v10), (13, .bool (decide (v10 ≤ a3))), O1 v8]) (by kernel_rfl) (by kernel_rfl) (fun _ h => h) ?_
    refine W.condB (decide (v10 ≤ a3)) (by kernel_rfl) (fun hb => ?_) (fun hb => ?_)
    · replace h := cond_t hb h
      refine W.skip ?_
      refine W.weak [0, 1, 2, 6, 7, 8, 2000000] [] [] [] (env' := [(0, S1 n2), (1, I6 a3), (2, .clo F_g4 C_g4), (6, .int .i64 20), (7, I6 v9), (8, I6 v10), O1 v8]) (by kernel_rfl) ?_
      refine W.block ?_
      refine W.seq ?_
      refine W.region (by kernel_rfl) ?_
      obtain ⟨w14, hw14, h⟩ := bind_some h
      refine WO.callMK 4 [(2000000, 2000000)] [] (F := 101) (args := [S1 n2, I6 v9, I6 v10, .clo F_g4 C_g4]) (hp := [O1 v8]) (hp2 := [O1 w14]) (r := .tup []) (by kernel_rfl) (run_sl_insertionSortCmpFunc_int fuel v8 n2 v9 v10 g4 F_g4 C_g4 hok_g4 hrun_g4 w14 hw14) (e1 := [(0, S1 n2), (1, I6 a3), (2, .clo F_g4 C_g4), (6, .int .i64 20), (7, I6 v9), (8, I6 v10), (14, S1 n2), (15, I6 v9), (16, I6 v10), (17, .clo F_g4 C_g4), (18, .tup []), O1 w14]) (by kernel_rfl) ?_
      refine WO.fin [0, 1, 2, 6, 8, 2000000] [] [] [] (e2 := [(0, S1 n2), (1, I6 a3), (2, .clo F_g4 C_g4), (6, .int .i64 20), (8, I6 v10), O1 w14]) (by kernel_rfl) (fun _ h => h) ?_
      refine W.seq ?_
      refine W.regT [0, 1, 2, 6, 7, 8, 2000000] [] [] [] (e2 := [(0, S1 n2), (1, I6 a3), (2, .clo F_g4 C_g4), (6, .int .i64 20), (7, I6 v10), (8, I6 v10), O1 w14]) (by kernel_rfl) (by kernel_rfl) (fun _ h => h) ?_
      refine W.regT [0, 1, 2, 6, 7, 8, 2000000] [] [] [] (e2 := [(0, S1 n2), (1, I6 a3), (2, .clo F_g4 C_g4), (6, .int .i64 20), (7, I6 v10), (8, I6 (W6 (v10 + 20))), O1 w14]) (by kernel_rfl) (by kernel_rfl) (fun _ h => h) ?_
      exact hN1 (w14, v10, (W6 (v10 + 20))) h
    replace h := cond_f hb h
    refine W.exit ?_
    refine W.weak [0, 1, 2, 6, 7, 2000000] [] [] [] (env' := [(0, S1 n2), (1, I6 a3), (2, .clo F_g4 C_g4), (6, .int .i64 20), (7, I6 v9), O1 v8]) (by kernel_rfl) ?_
    exact hK7 (v8, v9) h
def sl_SortStableFunc_int (fuel : Nat) (a1 : (List Int)) (n2 : Nat) (g3 : (Int → Int → Option Int)) : Option (List Int) :=
  ((sl_stableCmpFunc_int fuel a1 n2 ((n2 : Nat) : Int) g3).bind fun w4 => (some w4))
theorem run_sl_SortStableFunc_int (fuel : Nat) (a1 : (List Int)) (n2 : Nat) (g3 : (Int → Int → Option Int)) (F_g3 : Nat) (C_g3 : List AV) (hok_g3 : okFn Try.prog F_g3 = true) (hrun_g3 : ∀ (x0 : Int) (x1 : Int) r, g3 x0 x1 = some r → Run Try.prog (.call F_g3 ([I6 x0, I6 x1] ++ C_g3) (I6 r))) (r : (List Int)) (h : sl_SortStableFunc_int fuel a1 n2 g3 = some r) : Run Try.prog (.callM 86 [S1 n2, .clo F_g3 C_g3] [O1 a1] (.tup []) [O1 r]) := by
  refine callM_of_W Try.func86 rfl (by kernel_rfl) (env0 := [(0, S1 n2), (1, .clo F_g3 C_g3), O1 a1]) (by kernel_rfl) ?_
  unfold sl_SortStableFunc_int at h
  refine W.region (by kernel_rfl) ?_
  obtain ⟨w4, hw4, h⟩ := bind_some h
  refine WO.callMK 4 [(2000000, 2000000)] [] (F := 95) (args := [S1 n2, I6 ((n2 : Nat) : Int), .clo F_g3 C_g3]) (hp := [O1 a1]) (hp2 := [O1 w4]) (r := .tup []) (by kernel_rfl) (run_sl_stableCmpFunc_int fuel a1 n2 ((n2 : Nat) : Int) g3 F_g3 C_g3 hok_g3 hrun_g3 w4 hw4) (e1 := [(0, S1 n2), (1, .clo F_g3 C_g3), (4, S1 n2), (5, S1 n2), (6, I6 ((n2 : Nat) : Int)), (7, .clo F_g3 C_g3), (8, .tup []), O1 w4]) (by kernel_rfl) ?_
  refine WO.end0 (e2 := [(0, S1 n2), (1, .clo F_g3 C_g3), (4, S1 n2), (5, S1 n2), (6, I6 ((n2 : Nat) : Int)), (7, .clo F_g3 C_g3), (8, .tup []), O1 w4]) (by kernel_rfl) ?_
  have hr : PostM Try.prog Try.f86 (.tup []) [O1 w4] .normal [(0, S1 n2), (1, .clo F_g3 C_g3), (4, S1 n2), (5, S1 n2), (6, I6 ((n2 : Nat) : Int)), (7, .clo F_g3 C_g3), (8, .tup []), O1 w4] := ⟨by kernel_rfl, by kernel_rfl⟩
  cases h
  exact hr
def mb_OnesCount64 (a1 : Int) : Option Int :=
  (some (iAnd .i64 (IntKind.wrap .i64 (IntKind.wrap .u64 ((IntKind.wrap .u64 ((IntKind.wrap .u64 ((iAnd .u64 (IntKind.wrap .u64 ((iShr .u64 (IntKind.wrap .u64 ((iAnd .u64 (iShr .u64 (IntKind.wrap .u64 ((iAnd .u64 (iShr .u64 a1 1) 6148914691236517205) + (iAnd .u64 a1 6148914691236517205))) 2) 3689348814741910323) + (iAnd .u64 (IntKind.wrap .u64 ((iAnd .u64 (iShr .u64 a1 1) 6148914691236517205) + (iAnd .u64 a1 6148914691236517205))) 3689348814741910323))) 4) + (IntKind.wrap .u64 ((iAnd .u64 (iShr .u64 (IntKind.wrap .u64 ((iAnd .u64 (iShr .u64 a1 1) 6148914691236517205) + (iAnd .u64 a1 6148914691236517205))) 2) 3689348814741910323) + (iAnd .u64 (IntKind.wrap .u64 ((iAnd .u64 (iShr .u64 a1 1) 6148914691236517205) + (iAnd .u64 a1 6148914691236517205))) 3689348814741910323))))) 1085102592571150095) + (iShr .u64 (iAnd .u64 (IntKind.wrap .u64 ((iShr .u64 (IntKind.wrap .u64 ((iAnd .u64 (iShr .u64 (IntKind.wrap .u64 ((iAnd .u64 (iShr .u64 a1 1) 6148914691236517205) + (iAnd .u64 a1 6148914691236517205))) 2) 3689348814741910323) + (iAnd .u64 (IntKind.wrap .u64 ((iAnd .u64 (iShr .u64 a1 1) 6148914691236517205) + (iAnd .u64 a1 6148914691236517205))) 3689348814741910323))) 4) + (IntKind.wrap .u64 ((iAnd .u64 (iShr .u64 (IntKind.wrap .u64 ((iAnd .u64 (iShr .u64 a1 1) 6148914691236517205) + (iAnd .u64 a1 6148914691236517205))) 2) 3689348814741910323) + (iAnd .u64 (IntKind.wrap .u64 ((iAnd .u64 (iShr .u64 a1 1) 6148914691236517205) + (iAnd .u64 a1 6148914691236517205))) 3689348814741910323))))) 1085102592571150095) 8))) + (iShr .u64 (IntKind.wrap .u64 ((iAnd .u64 (IntKind.wrap .u64 ((iShr .u64 (IntKind.wrap .u64 ((iAnd .u64 (iShr .u64 (IntKind.wrap .u64 ((iAnd .u64 (iShr .u64 a1 1) 6148914691236517205) + (iAnd .u64 a1 6148914691236517205))) 2) 3689348814741910323) + (iAnd .u64 (IntKind.wrap .u64 ((iAnd .u64 (iShr .u64 a1 1) 6148914691236517205) + (iAnd .u64 a1 6148914691236517205))) 3689348814741910323))) 4) + (IntKind.wrap .u64 ((iAnd .u64 (iShr .u64 (IntKind.wrap .u64 ((iAnd .u64 (iShr .u64 a1 1) 6148914691236517205) + (iAnd .u64 a1 6148914691236517205))) 2) 3689348814741910323) + (iAnd .u64 (IntKind.wrap .u64 ((iAnd .u64 (iShr .u64 a1 1) 6148914691236517205) + (iAnd .u64 a1 6148914691236517205))) 3689348814741910323))))) 1085102592571150095) + (iShr .u64 (iAnd .u64 (IntKind.wrap .u64 ((iShr .u64 (IntKind.wrap .u64 ((iAnd .u64 (iShr .u64 (IntKind.wrap .u64 ((iAnd .u64 (iShr .u64 a1 1) 6148914691236517205) + (iAnd .u64 a1 6148914691236517205))) 2) 3689348814741910323) + (iAnd .u64 (IntKind.wrap .u64 ((iAnd .u64 (iShr .u64 a1 1) 6148914691236517205) + (iAnd .u64 a1 6148914691236517205))) 3689348814741910323))) 4) + (IntKind.wrap .u64 ((iAnd .u64 (iShr .u64 (IntKind.wrap .u64 ((iAnd .u64 (iShr .u64 a1 1) 6148914691236517205) + (iAnd .u64 a1 6148914691236517205))) 2) 3689348814741910323) + (iAnd .u64 (IntKind.wrap .u64 ((iAnd .u64 (iShr .u64 a1 1) 6148914691236517205) + (iAnd .u64 a1 6148914691236517205))) 3689348814741910323))))) 1085102592571150095) 8))) 16))) + (iShr .u64 (IntKind.wrap .u64 ((IntKind.wrap .u64 ((iAnd .u64 (IntKind.wrap .u64 ((iShr .u64 (IntKind.wrap .u64 ((iAnd .u64 (iShr .u64 (IntKind.wrap .u64 ((iAnd .u64 (iShr .u64 a1 1) 6148914691236517205) + (iAnd .u64 a1 6148914691236517205))) 2) 3689348814741910323) + (iAnd .u64 (IntKind.wrap .u64 ((iAnd .u64 (iShr .u64 a1 1) 6148914691236517205) + (iAnd .u64 a1 6148914691236517205))) 3689348814741910323))) 4) + (IntKind.wrap .u64 ((iAnd .u64 (iShr .u64 (IntKind.wrap .u64 ((iAnd .u64 (iShr .u64 a1 1) 6148914691236517205) + (iAnd .u64 a1 6148914691236517205))) 2) 3689348814741910323) + (iAnd .u64 (IntKind.wrap .u64 ((iAnd .u64 (iShr .u64 a1 1) 6148914691236517205) + (iAnd .u64 a1 6148914691236517205))) 3689348814741910323))))) 1085102592571150095) + (iShr .u64 (iAnd .u64 (IntKind.wrap .u64 ((iShr .u64 (IntKind.wrap .u64 ((iAnd .u64 (iShr .u64 (IntKind.wrap .u64 ((iAnd .u64 (iShr .u64 a1 1) 6148914691236517205) + (iAnd .u64 a1 6148914691236517205))) 2) 3689348814741910323) + (iAnd .u64 (IntKind.wrap .u64 ((iAnd .u64 (iShr .u64 a1 1) 6148914691236517205) + (iAnd .u64 a1 6148914691236517205))) 3689348814741910323))) 4) + (IntKind.wrap .u64 ((iAnd .u64 (iShr .u64 (IntKind.wrap .u64 ((iAnd .u64 (iShr .u64 a1 1) 6148914691236517205) + (iAnd .u64 a1 6148914691236517205))) 2) 3689348814741910323) + (iAnd .u64 (IntKind.wrap .u64 ((iAnd .u64 (iShr .u64 a1 1) 6148914691236517205) + (iAnd .u64 a1 6148914691236517205))) 3689348814741910323))))) 1085102592571150095) 8))) + (iShr .u64 (IntKind.wrap .u64 ((iAnd .u64 (IntKind.wrap .u64 ((iShr .u64 (IntKind.wrap .u64 ((iAnd .u64 (iShr .u64 (IntKind.wrap .u64 ((iAnd .u64 (iShr .u64 a1 1) 6148914691236517205) + (iAnd .u64 a1 6148914691236517205))) 2) 3689348814741910323) + (iAnd .u64 (IntKind.wrap .u64 ((iAnd .u64 (iShr .u64 a1 1) 6148914691236517205) + (iAnd .u64 a1 6148914691236517205))) 3689348814741910323))) 4) + (IntKind.wrap .u64 ((iAnd .u64 (iShr .u64 (IntKind.wrap .u64 ((iAnd .u64 (iShr .u64 a1 1) 6148914691236517205) + (iAnd .u64 a1 6148914691236517205))) 2) 3689348814741910323) + (iAnd .u64 (IntKind.wrap .u64 ((iAnd .u64 (iShr .u64 a1 1) 6148914691236517205) + (iAnd .u64 a1 6148914691236517205))) 3689348814741910323))))) 1085102592571150095) + (iShr .u64 (iAnd .u64 (IntKind.wrap .u64 ((iShr .u64 (IntKind.wrap .u64 ((iAnd .u64 (iShr .u64 (IntKind.wrap .u64 ((iAnd .u64 (iShr .u64 a1 1) 6148914691236517205) + (iAnd .u64 a1 6148914691236517205))) 2) 3689348814741910323) + (iAnd .u64 (IntKind.wrap .u64 ((iAnd .u64 (iShr .u64 a1 1) 6148914691236517205) + (iAnd .u64 a1 6148914691236517205))) 3689348814741910323))) 4) + (IntKind.wrap .u64 ((iAnd .u64 (iShr .u64 (IntKind.wrap .u64 ((iAnd .u64 (iShr .u64 a1 1) 6148914691236517205) + (iAnd .u64 a1 6148914691236517205))) 2) 3689348814741910323) + (iAnd .u64 (IntKind.wrap .u64 ((iAnd .u64 (iShr .u64 a1 1) 6148914691236517205) + (iAnd .u64 a1 6148914691236517205))) 3689348814741910323))))) 1085102592571150095) 8))) 16))) 32)))) 127))
theorem run_mb_OnesCount64 (a1 : Int) (r : Int) (h : mb_OnesCount64 a1 = some r) : Run Try.prog (.call 97 [.int .u64 a1] (I6 r)) := by
  refine call_of_W Try.func97 rfl (by kernel_rfl) (env0 := [(0, .int .u64 a1)]) (by kernel_rfl) ?_
  unfold mb_OnesCount64 at h
  refine W.seq ?_
  refine W.regT [0] [] [] [] (e2 := [(0, .int .u64 a1)]) (by kernel_rfl) (by kernel_rfl) (fun _ h => h) ?_
  refine W.seq ?_
  refine W.regT [0] [] [] [] (e2 := [(0, .int .u64 (IntKind.wrap .u64 ((iAnd .u64 (iShr .u64 a1 1) 6148914691236517205) + (iAnd .u64 a1 6148914691236517205))))]) (by kernel_rfl) (by kernel_rfl) (fun _ h => h) ?_
  refine W.seq ?_
  refine W.regT [0] [] [] [] (e2 := [(0, .int .u64 (IntKind.wrap .u64 ((iAnd .u64 (iShr .u64 (IntKind.wrap .u64 ((iAnd .u64 (iShr .u64 a1 1) 6148914691236517205) + (iAnd .u64 a1 6148914691236517205))) 2) 3689348814741910323) + (iAnd .u64 (IntKind.wrap .u64 ((iAnd .u64 (iShr .u64 a1 1) 6148914691236517205) + (iAnd .u64 a1 6148914691236517205))) 3689348814741910323))))]) (by kernel_rfl) (by kernel_rfl) (fun _ h => h) ?_
  refine W.seq ?_
  refine W.regT [0] [] [] [] (e2 := [(0, .int .u64 (iAnd .u64 (IntKind.wrap .u64 ((iShr .u64 (IntKind.wrap .u64 ((iAnd .u64 (iShr .u64 (IntKind.wrap .u64 ((iAnd .u64 (iShr .u64 a1 1) 6148914691236517205) + (iAnd .u64 a1 6148914691236517205))) 2) 3689348814741910323) + (iAnd .u64 (IntKind.wrap .u64 ((iAnd .u64 (iShr .u64 a1 1) 6148914691236517205) + (iAnd .u64 a1 6148914691236517205))) 3689348814741910323))) 4) + (IntKind.wrap .u64 ((iAnd .u64 (iShr .u64 (IntKind.wrap .u64 ((iAnd .u64 (iShr .u64 a1 1) 6148914691236517205) + (iAnd .u64 a1 6148914691236517205))) 2) 3689348814741910323) + (iAnd .u64 (IntKind.wrap .u64 ((iAnd .u64 (iShr .u64 a1 1) 6148914691236517205) + (iAnd .u64 a1 6148914691236517205))) 3689348814741910323))))) 1085102592571150095))]) (by kernel_rfl) (by kernel_rfl) (fun _ h => h) ?_
  refine W.seq ?_
  refine W.regT [0] [] [] [] (e2 := [(0, .int .u64 (IntKind.wrap .u64 ((iAnd .u64 (IntKind.wrap .u64 ((iShr .u64 (IntKind.wrap .u64 ((iAnd .u64 (iShr .u64 (IntKind.wrap .u64 ((iAnd .u64 (iShr .u64 a1 1) 6148914691236517205) + (iAnd .u64 a1 6148914691236517205))) 2) 3689348814741910323) + (iAnd .u64 (IntKind.wrap .u64 ((iAnd .u64 (iShr .u64 a1 1) 6148914691236517205) + (iAnd .u64 a1 6148914691236517205))) 3689348814741910323))) 4) + (IntKind.wrap .u64 ((iAnd .u64 (iShr .u64 (IntKind.wrap .u64 ((iAnd .u64 (iShr .u64 a1 1) 6148914691236517205) + (iAnd .u64 a1 6148914691236517205))) 2) 3689348814741910323) + (iAnd .u64 (IntKind.wrap .u64 ((iAnd .u64 (iShr .u64 a1 1) 6148914691236517205) + (iAnd .u64 a1 6148914691236517205))) 3689348814741910323))))) 1085102592571150095) + (iShr .u64 (iAnd .u64 (IntKind.wrap .u64 ((iShr .u64 (IntKind.wrap .u64 ((iAnd .u64 (iShr .u64 (IntKind.wrap .u64 ((iAnd .u64 (iShr .u64 a1 1) 6148914691236517205) + (iAnd .u64 a1 6148914691236517205))) 2) 3689348814741910323) + (iAnd .u64 (IntKind.wrap .u64 ((iAnd .u64 (iShr .u64 a1 1) 6148914691236517205) + (iAnd .u64 a1 6148914691236517205))) 3689348814741910323))) 4) + (IntKind.wrap .u64 ((iAnd .u64 (iShr .u64 (IntKind.wrap .u64 ((iAnd .u64 (iShr .u64 a1 1) 6148914691236517205) + (iAnd .u64 a1 6148914691236517205))) 2) 3689348814741910323) + (iAnd .u64 (IntKind.wrap .u64 ((iAnd .u64 (iShr .u64 a1 1) 6148914691236517205) + (iAnd .u64 a1 6148914691236517205))) 3689348814741910323))))) 1085102592571150095) 8))))]) (by kernel_rfl) (by kernel_rfl) (fun _ h => h) ?_
  refine W.seq ?_
  refine W.regT [0] [] [] [] (e2 := [(0, .int .u64 (IntKind.wrap .u64 ((IntKind.wrap .u64 ((iAnd .u64 (IntKind.wrap .u64 ((iShr .u64 (IntKind.wrap .u64 ((iAnd .u64 (iShr .u64 (IntKind.wrap .u64 ((iAnd .u64 (iShr .u64 a1 1) 6148914691236517205) + (iAnd .u64 a1 6148914691236517205))) 2) 3689348814741910323) + (iAnd .u64 (IntKind.wrap .u64 ((iAnd .u64 (iShr .u64 a1 1) 6148914691236517205) + (iAnd .u64 a1 6148914691236517205))) 3689348814741910323))) 4) + (IntKind.wrap .u64 ((iAnd .u64 (iShr .u64 (IntKind.wrap .u64 ((iAnd .u64 (iShr .u64 a1 1) 6148914691236517205) + (iAnd .u64 a1 6148914691236517205))) 2) 3689348814741910323) + (iAnd .u64 (IntKind.wrap .u64 ((iAnd .u64 (iShr .u64 a1 1) 6148914691236517205) + (iAnd .u64 a1 6148914691236517205))) 3689348814741910323))))) 1085102592571150095) + (iShr .u64 (iAnd .u64 (IntKind.wrap .u64 ((iShr .u64 (IntKind.wrap .u64 ((iAnd .u64 (iShr .u64 (IntKind.wrap .u64 ((iAnd .u64 (iShr .u64 a1 1) 6148914691236517205) + (iAnd .u64 a1 6148914691236517205))) 2) 3689348814741910323) + (iAnd .u64 (IntKind.wrap .u64 ((iAnd .u64 (iShr .u64 a1 1) 6148914691236517205) + (iAnd .u64 a1 6148914691236517205))) 3689348814741910323))) 4) + (IntKind.wrap .u64 ((iAnd .u64 (iShr .u64 (IntKind.wrap .u64 ((iAnd .u64 (iShr .u64 a1 1) 6148914691236517205) + (iAnd .u64 a1 6148914691236517205))) 2) 3689348814741910323) + (iAnd .u64 (IntKind.wrap .u64 ((iAnd .u64 (iShr .u64 a1 1) 6148914691236517205) + (iAnd .u64 a1 6148914691236517205))) 3689348814741910323))))) 1085102592571150095) 8))) + (iShr .u64 (IntKind.wrap .u64 ((iAnd .u64 (IntKind.wrap .u64 ((iShr .u64 (IntKind.wrap .u64 ((iAnd .u64 (iShr .u64 (IntKind.wrap .u64 ((iAnd .u64 (iShr .u64 a1 1) 6148914691236517205) + (iAnd .u64 a1 6148914691236517205))) 2) 3689348814741910323) + (iAnd .u64 (IntKind.wrap .u64 ((iAnd .u64 (iShr .u64 a1 1) 6148914691236517205) + (iAnd .u64 a1 6148914691236517205))) 3689348814741910323))) 4) + (IntKind.wrap .u64 ((iAnd .u64 (iShr .u64 (IntKind.wrap .u64 ((iAnd .u64 (iShr .u64 a1 1) 6148914691236517205) + (iAnd .u64 a1 6148914691236517205))) 2) 3689348814741910323) + (iAnd .u64 (IntKind.wrap .u64 ((iAnd .u64 (iShr .u64 a1 1) 6148914691236517205) + (iAnd .u64 a1 6148914691236517205))) 3689348814741910323))))) 1085102592571150095) + (iShr .u64 (iAnd .u64 (IntKind.wrap .u64 ((iShr .u64 (IntKind.wrap .u64 ((iAnd .u64 (iShr .u64 (IntKind.wrap .u64 ((iAnd .u64 (iShr .u64 a1 1) 6148914691236517205) + (iAnd .u64 a1 6148914691236517205))) 2) 3689348814741910323) + (iAnd .u64 (IntKind.wrap .u64 ((iAnd .u64 (iShr .u64 a1 1) 6148914691236517205) + (iAnd .u64 a1 6148914691236517205))) 3689348814741910323))) 4) + (IntKind.wrap .u64 ((iAnd .u64 (iShr .u64 (IntKind.wrap .u64 ((iAnd .u64 (iShr .u64 a1 1) 6148914691236517205) + (iAnd .u64 a1 6148914691236517205))) 2) 3689348814741910323) + (iAnd .u64 (IntKind.wrap .u64 ((iAnd .u64 (iShr .u64 a1 1) 6148914691236517205) + (iAnd .u64 a1 6148914691236517205))) 3689348814741910323))))) 1085102592571150095) 8))) 16))))]) (by kernel_rfl) (by kernel_rfl) (fun _ h => h) ?_
  refine W.seq ?_
  refine W.regT [0] [] [] [] (e2 := [(0, .int .u64 (IntKind.wrap .u64 ((IntKind.wrap .u64 ((IntKind.wrap .u64 ((iAnd .u64 (IntKind.wrap .u64 ((iShr .u64 (IntKind.wrap .u64 ((iAnd .u64 (iShr .u64 (IntKind.wrap .u64 ((iAnd .u64 (iShr .u64 a1 1) 6148914691236517205) + (iAnd .u64 a1 6148914691236517205))) 2) 3689348814741910323) + (iAnd .u64 (IntKind.wrap .u64 ((iAnd .u64 (iShr .u64 a1 1) 6148914691236517205) + (iAnd .u64 a1 6148914691236517205))) 3689348814741910323))) 4) + (IntKind.wrap .u64 ((iAnd .u64 (iShr .u64 (IntKind.wrap .u64 ((iAnd .u64 (iShr .u64 a1 1) 6148914691236517205) + (iAnd .u64 a1 6148914691236517205))) 2) 3689348814741910323) + (iAnd .u64 (IntKind.wrap .u64 ((iAnd .u64 (iShr .u64 a1 1) 6148914691236517205) + (iAnd .u64 a1 6148914691236517205))) 3689348814741910323))))) 1085102592571150095) + (iShr .u64 (iAnd .u64 (IntKind.wrap .u64 ((iShr .u64 (IntKind.wrap .u64 ((iAnd .u64 (iShr .u64 (IntKind.wrap .u64 ((iAnd .u64 (iShr .u64 a1 1) 6148914691236517205) + (iAnd .u64 a1 6148914691236517205))) 2) 3689348814741910323) + (iAnd .u64 (IntKind.wrap .u64 ((iAnd .u64 (iShr .u64 a1 1) 6148914691236517205) + (iAnd .u64 a1 6148914691236517205))) 3689348814741910323))) 4) + (IntKind.wrap .u64 ((iAnd .u64 (iShr .u64 (IntKind.wrap .u64 ((iAnd .u64 (iShr .u64 a1 1) 6148914691236517205) + (iAnd .u64 a1 6148914691236517205))) 2) 3689348814741910323) + (iAnd .u64 (IntKind.wrap .u64 ((iAnd .u64 (iShr .u64 a1 1) 6148914691236517205) + (iAnd .u64 a1 6148914691236517205))) 3689348814741910323))))) 1085102592571150095) 8))) + (iShr .u64 (IntKind.wrap .u64 ((iAnd .u64 (IntKind.wrap .u64 ((iShr .u64 (IntKind.wrap .u64 ((iAnd .u64 (iShr .u64 (IntKind.wrap .u64 ((iAnd .u64 (iShr .u64 a1 1) 6148914691236517205) + (iAnd .u64 a1 6148914691236517205))) 2) 3689348814741910323) + (iAnd .u64 (IntKind.wrap .u64 ((iAnd .u64 (iShr .u64 a1 1) 6148914691236517205) + (iAnd .u64 a1 6148914691236517205))) 3689348814741910323))) 4) + (IntKind.wrap .u64 ((iAnd .u64 (iShr .u64 (IntKind.wrap .u64 ((iAnd .u64 (iShr .u64 a1 1) 6148914691236517205) + (iAnd .u64 a1 6148914691236517205))) 2) 3689348814741910323) + (iAnd .u64 (IntKind.wrap .u64 ((iAnd .u64 (iShr .u64 a1 1) 6148914691236517205) + (iAnd .u64 a1 6148914691236517205))) 3689348814741910323))))) 1085102592571150095) + (iShr .u64 (iAnd .u64 (IntKind.wrap .u64 ((iShr .u64 (IntKind.wrap .u64 ((iAnd .u64 (iShr .u64 (IntKind.wrap .u64 ((iAnd .u64 (iShr .u64 a1 1) 6148914691236517205) + (iAnd .u64 a1 6148914691236517205))) 2) 3689348814741910323) + (iAnd .u64 (IntKind.wrap .u64 ((iAnd .u64 (iShr .u64 a1 1) 6148914691236517205) + (iAnd .u64 a1 6148914691236517205))) 3689348814741910323))) 4) + (IntKind.wrap .u64 ((iAnd .u64 (iShr .u64 (IntKind.wrap .u64 ((iAnd .u64 (iShr .u64 a1 1) 6148914691236517205) + (iAnd .u64 a1 6148914691236517205))) 2) 3689348814741910323) + (iAnd .u64 (IntKind.wrap .u64 ((iAnd .u64 (iShr .u64 a1 1) 6148914691236517205) + (iAnd .u64 a1 6148914691236517205))) 3689348814741910323))))) 1085102592571150095) 8))) 16))) + (iShr .u64 (IntKind.wrap .u64 ((IntKind.wrap .u64 ((iAnd .u64 (IntKind.wrap .u64 ((iShr .u64 (IntKind.wrap .u64 ((iAnd .u64 (iShr .u64 (IntKind.wrap .u64 ((iAnd .u64 (iShr .u64 a1 1) 6148914691236517205) + (iAnd .u64 a1 6148914691236517205))) 2) 3689348814741910323) + (iAnd .u64 (IntKind.wrap .u64 ((iAnd .u64 (iShr .u64 a1 1) 6148914691236517205) + (iAnd .u64 a1 6148914691236517205))) 3689348814741910323))) 4) + (IntKind.wrap .u64 ((iAnd .u64 (iShr .u64 (IntKind.wrap .u64 ((iAnd .u64 (iShr .u64 a1 1) 6148914691236517205) + (iAnd .u64 a1 6148914691236517205))) 2) 3689348814741910323) + (iAnd .u64 (IntKind.wrap .u64 ((iAnd .u64 (iShr .u64 a1 1) 6148914691236517205) + (iAnd .u64 a1 6148914691236517205))) 3689348814741910323))))) 1085102592571150095) + (iShr .u64 (iAnd .u64 (IntKind.wrap .u64 ((iShr .u64 (IntKind.wrap .u64 ((iAnd .u64 (iShr .u64 (IntKind.wrap .u64 ((iAnd .u64 (iShr .u64 a1 1) 6148914691236517205) + (iAnd .u64 a1 6148914691236517205))) 2) 3689348814741910323) + (iAnd .u64 (IntKind.wrap .u64 ((iAnd .u64 (iShr .u64 a1 1) 6148914691236517205) + (iAnd .u64 a1 6148914691236517205))) 3689348814741910323))) 4) + (IntKind.wrap .u64 ((iAnd .u64 (iShr .u64 (IntKind.wrap .u64 ((iAnd .u64 (iShr .u64 a1 1) 6148914691236517205) + (iAnd .u64 a1 6148914691236517205))) 2) 3689348814741910323) + (iAnd .u64 (IntKind.wrap .u64 ((iAnd .u64 (iShr .u64 a1 1) 6148914691236517205) + (iAnd .u64 a1 6148914691236517205))) 3689348814741910323))))) 1085102592571150095) 8))) + (iShr .u64 (IntKind.wrap .u64 ((iAnd .u64 (IntKind.wrap .u64 ((iShr .u64 (IntKind.wrap .u64 ((iAnd .u64 (iShr .u64 (IntKind.wrap .u64 ((iAnd .u64 (iShr .u64 a1 1) 6148914691236517205) + (iAnd .u64 a1 6148914691236517205))) 2) 3689348814741910323) + (iAnd .u64 (IntKind.wrap .u64 ((iAnd .u64 (iShr .u64 a1 1) 6148914691236517205) + (iAnd .u64 a1 6148914691236517205))) 3689348814741910323))) 4) + (IntKind.wrap .u64 ((iAnd .u64 (iShr .u64 (IntKind.wrap .u64 ((iAnd .u64 (iShr .u64 a1 1) 6148914691236517205) + (iAnd .u64 a1 6148914691236517205))) 2) 3689348814741910323) + (iAnd .u64 (IntKind.wrap .u64 ((iAnd .u64 (iShr .u64 a1 1) 6148914691236517205) + (iAnd .u64 a1 6148914691236517205))) 3689348814741910323))))) 1085102592571150095) + (iShr .u64 (iAnd .u64 (IntKind.wrap .u64 ((iShr .u64 (IntKind.wrap .u64 ((iAnd .u64 (iShr .u64 (IntKind.wrap .u64 ((iAnd .u64 (iShr .u64 a1 1) 6148914691236517205) + (iAnd .u64 a1 6148914691236517205))) 2) 3689348814741910323) + (iAnd .u64 (IntKind.wrap .u64 ((iAnd .u64 (iShr .u64 a1 1) 6148914691236517205) + (iAnd .u64 a1 6148914691236517205))) 3689348814741910323))) 4) + (IntKind.wrap .u64 ((iAnd .u64 (iShr .u64 (IntKind.wrap .u64 ((iAnd .u64 (iShr .u64 a1 1) 6148914691236517205) + (iAnd .u64 a1 6148914691236517205))) 2) 3689348814741910323) + (iAnd .u64 (IntKind.wrap .u64 ((iAnd .u64 (iShr .u64 a1 1) 6148914691236517205) + (iAnd .u64 a1 6148914691236517205))) 3689348814741910323))))) 1085102592571150095) 8))) 16))) 32))))]) (by kernel_rfl) (by kernel_rfl) (fun _ h => h) ?_
  refine W.seq ?_
  refine W.regT [2] [] [] [] (e2 := [(2, I6 (iAnd .i64 (W6 (IntKind.wrap .u64 ((IntKind.wrap .u64 ((IntKind.wrap .u64 ((iAnd .u64 (IntKind.wrap .u64 ((iShr .u64 (IntKind.wrap .u64 ((iAnd .u64 (iShr .u64 (IntKind.wrap .u64 ((iAnd .u64 (iShr .u64 a1 1) 6148914691236517205) + (iAnd .u64 a1 6148914691236517205))) 2) 3689348814741910323) + (iAnd .u64 (IntKind.wrap .u64 ((iAnd .u64 (iShr .u64 a1 1) 6148914691236517205) + (iAnd .u64 a1 6148914691236517205))) 3689348814741910323))) 4) + (IntKind.wrap .u64 ((iAnd .u64 (iShr .u64 (IntKind.wrap .u64 ((iAnd .u64 (iShr .u64 a1 1) 6148914691236517205) + (iAnd .u64 a1 6148914691236517205))) 2) 3689348814741910323) + (iAnd .u64 (IntKind.wrap .u64 ((iAnd .u64 (iShr .u64 a1 1) 6148914691236517205) + (iAnd .u64 a1 6148914691236517205))) 3689348814741910323))))) 1085102592571150095) + (iShr .u64 (iAnd .u64 (IntKind.wrap .u64 ((iShr .u64 (IntKind.wrap .u64 ((iAnd .u64 (iShr .u64 (IntKind.wrap .u64 ((iAnd .u64 (iShr .u64 a1 1) 6148914691236517205) + (iAnd .u64 a1 6148914691236517205))) 2) 3689348814741910323) + (iAnd .u64 (IntKind.wrap .u64 ((iAnd .u64 (iShr .u64 a1 1) 6148914691236517205) + (iAnd .u64 a1 6148914691236517205))) 3689348814741910323))) 4) + (IntKind.wrap .u64 ((iAnd .u64 (iShr .u64 (IntKind.wrap .u64 ((iAnd .u64 (iShr .u64 a1 1) 6148914691236517205) + (iAnd .u64 a1 6148914691236517205))) 2) 3689348814741910323) + (iAnd .u64 (IntKind.wrap .u64 ((iAnd .u64 (iShr .u64 a1 1) 6148914691236517205) + (iAnd .u64 a1 6148914691236517205))) 3689348814741910323))))) 1085102592571150095) 8))) + (iShr .u64 (IntKind.wrap .u64 ((iAnd .u64 (IntKind.wrap .u64 ((iShr .u64 (IntKind.wrap .u64 ((iAnd .u64 (iShr .u64 (IntKind.wrap .u64 ((iAnd .u64 (iShr .u64 a1 1) 6148914691236517205) + (iAnd .u64 a1 6148914691236517205))) 2) 3689348814741910323) + (iAnd .u64 (IntKind.wrap .u64 ((iAnd .u64 (iShr .u64 a1 1) 6148914691236517205) + (iAnd .u64 a1 6148914691236517205))) 3689348814741910323))) 4) + (IntKind.wrap .u64 ((iAnd .u64 (iShr .u64 (IntKind.wrap .u64 ((iAnd .u64 (iShr .u64 a1 1) 6148914691236517205) + (iAnd .u64 a1 6148914691236517205))) 2) 3689348814741910323) + (iAnd .u64 (IntKind.wrap .u64 ((iAnd .u64 (iShr .u64 a1 1) 6148914691236517205) + (iAnd .u64 a1 6148914691236517205))) 3689348814741910323))))) 1085102592571150095) + (iShr .u64 (iAnd .u64 (IntKind.wrap .u64 ((iShr .u64 (IntKind.wrap .u64 ((iAnd .u64 (iShr .u64 (IntKind.wrap .u64 ((iAnd .u64 (iShr .u64 a1 1) 6148914691236517205) + (iAnd .u64 a1 6148914691236517205))) 2) 3689348814741910323) + (iAnd .u64 (IntKind.wrap .u64 ((iAnd .u64 (iShr .u64 a1 1) 6148914691236517205) + (iAnd .u64 a1 6148914691236517205))) 3689348814741910323))) 4) + (IntKind.wrap .u64 ((iAnd .u64 (iShr .u64 (IntKind.wrap .u64 ((iAnd .u64 (iShr .u64 a1 1) 6148914691236517205) + (iAnd .u64 a1 6148914691236517205))) 2) 3689348814741910323) + (iAnd .u64 (IntKind.wrap .u64 ((iAnd .u64 (iShr .u64 a1 1) 6148914691236517205) + (iAnd .u64 a1 6148914691236517205))) 3689348814741910323))))) 1085102592571150095) 8))) 16))) + (iShr .u64 (IntKind.wrap .u64 ((IntKind.wrap .u64 ((iAnd .u64 (IntKind.wrap .u64 ((iShr .u64 (IntKind.wrap .u64 ((iAnd .u64 (iShr .u64 (IntKind.wrap .u64 ((iAnd .u64 (iShr .u64 a1 1) 6148914691236517205) + (iAnd .u64 a1 6148914691236517205))) 2) 3689348814741910323) + (iAnd .u64 (IntKind.wrap .u64 ((iAnd .u64 (iShr .u64 a1 1) 6148914691236517205) + (iAnd .u64 a1 6148914691236517205))) 3689348814741910323))) 4) + (IntKind.wrap .u64 ((iAnd .u64 (iShr .u64 (IntKind.wrap .u64 ((iAnd .u64 (iShr .u64 a1 1) 6148914691236517205) + (iAnd .u64 a1 6148914691236517205))) 2) 3689348814741910323) + (iAnd .u64 (IntKind.wrap .u64 ((iAnd .u64 (iShr .u64 a1 1) 6148914691236517205) + (iAnd .u64 a1 6148914691236517205))) 3689348814741910323))))) 1085102592571150095) + (iShr .u64 (iAnd .u64 (IntKind.wrap .u64 ((iShr .u64 (IntKind.wrap .u64 ((iAnd .u64 (iShr .u64 (IntKind.wrap .u64 ((iAnd .u64 (iShr .u64 a1 1) 6148914691236517205) + (iAnd .u64 a1 6148914691236517205))) 2) 3689348814741910323) + (iAnd .u64 (IntKind.wrap .u64 ((iAnd .u64 (iShr .u64 a1 1) 6148914691236517205) + (iAnd .u64 a1 6148914691236517205))) 3689348814741910323))) 4) + (IntKind.wrap .u64 ((iAnd .u64 (iShr .u64 (IntKind.wrap .u64 ((iAnd .u64 (iShr .u64 a1 1) 6148914691236517205) + (iAnd .u64 a1 6148914691236517205))) 2) 3689348814741910323) + (iAnd .u64 (IntKind.wrap .u64 ((iAnd .u64 (iShr .u64 a1 1) 6148914691236517205) + (iAnd .u64 a1 6148914691236517205))) 3689348814741910323))))) 1085102592571150095) 8))) + (iShr .u64 (IntKind.wrap .u64 ((iAnd .u64 (IntKind.wrap .u64 ((iShr .u64 (IntKind.wrap .u64 ((iAnd .u64 (iShr .u64 (IntKind.wrap .u64 ((iAnd .u64 (iShr .u64 a1 1) 6148914691236517205) + (iAnd .u64 a1 6148914691236517205))) 2) 3689348814741910323) + (iAnd .u64 (IntKind.wrap .u64 ((iAnd .u64 (iShr .u64 a1 1) 6148914691236517205) + (iAnd .u64 a1 6148914691236517205))) 3689348814741910323))) 4) + (IntKind.wrap .u64 ((iAnd .u64 (iShr .u64 (IntKind.wrap .u64 ((iAnd .u64 (iShr .u64 a1 1) 6148914691236517205) + (iAnd .u64 a1 6148914691236517205))) 2) 3689348814741910323) + (iAnd .u64 (IntKind.wrap .u64 ((iAnd .u64 (iShr .u64 a1 1) 6148914691236517205) + (iAnd .u64 a1 6148914691236517205))) 3689348814741910323))))) 1085102592571150095) + (iShr .u64 (iAnd .u64 (IntKind.wrap .u64 ((iShr .u64 (IntKind.wrap .u64 ((iAnd .u64 (iShr .u64 (IntKind.wrap .u64 ((iAnd .u64 (iShr .u64 a1 1) 6148914691236517205) + (iAnd .u64 a1 6148914691236517205))) 2) 3689348814741910323) + (iAnd .u64 (IntKind.wrap .u64 ((iAnd .u64 (iShr .u64 a1 1) 6148914691236517205) + (iAnd .u64 a1 6148914691236517205))) 3689348814741910323))) 4) + (IntKind.wrap .u64 ((iAnd .u64 (iShr .u64 (IntKind.wrap .u64 ((iAnd .u64 (iShr .u64 a1 1) 6148914691236517205) + (iAnd .u64 a1 6148914691236517205))) 2) 3689348814741910323) + (iAnd .u64 (IntKind.wrap .u64 ((iAnd .u64 (iShr .u64 a1 1) 6148914691236517205) + (iAnd .u64 a1 6148914691236517205))) 3689348814741910323))))) 1085102592571150095) 8))) 16))) 32)))) 127))]) (by kernel_rfl) (by kernel_rfl) (fun _ h => h) ?_
  refine W.weak [2] [] [] [] (env' := [(2, I6 (iAnd .i64 (W6 (IntKind.wrap .u64 ((IntKind.wrap .u64 ((IntKind.wrap .u64 ((iAnd .u64 (IntKind.wrap .u64 ((iShr .u64 (IntKind.wrap .u64 ((iAnd .u64 (iShr .u64 (IntKind.wrap .u64 ((iAnd .u64 (iShr .u64 a1 1) 6148914691236517205) + (iAnd .u64 a1 6148914691236517205))) 2) 3689348814741910323) + (iAnd .u64 (IntKind.wrap .u64 ((iAnd .u64 (iShr .u64 a1 1) 6148914691236517205) + (iAnd .u64 a1 6148914691236517205))) 3689348814741910323))) 4) + (IntKind.wrap .u64 ((iAnd .u64 (iShr .u64 (IntKind.wrap .u64 ((iAnd .u64 (iShr .u64 a1 1) 6148914691236517205) + (iAnd .u64 a1 6148914691236517205))) 2) 3689348814741910323) + (iAnd .u64 (IntKind.wrap .u64 ((iAnd .u64 (iShr .u64 a1 1) 6148914691236517205) + (iAnd .u64 a1 6148914691236517205))) 3689348814741910323))))) 1085102592571150095) + (iShr .u64 (iAnd .u64 (IntKind.wrap .u64 ((iShr .u64 (IntKind.wrap .u64 ((iAnd .u64 (iShr .u64 (IntKind.wrap .u64 ((iAnd .u64 (iShr .u64 a1 1) 6148914691236517205) + (iAnd .u64 a1 6148914691236517205))) 2) 3689348814741910323) + (iAnd .u64 (IntKind.wrap .u64 ((iAnd .u64 (iShr .u64 a1 1) 6148914691236517205) + (iAnd .u64 a1 6148914691236517205))) 3689348814741910323))) 4) + (IntKind.wrap .u64 ((iAnd .u64 (iShr .u64 (IntKind.wrap .u64 ((iAnd .u64 (iShr .u64 a1 1) 6148914691236517205) + (iAnd .u64 a1 6148914691236517205))) 2) 3689348814741910323) + (iAnd .u64 (IntKind.wrap .u64 ((iAnd .u64 (iShr .u64 a1 1) 6148914691236517205) + (iAnd .u64 a1 6148914691236517205))) 3689348814741910323))))) 1085102592571150095) 8))) + (iShr .u64 (IntKind.wrap .u64 ((iAnd .u64 (IntKind.wrap .u64 ((iShr .u64 (IntKind.wrap .u64 ((iAnd .u64 (iShr .u64 (IntKind.wrap .u64 ((iAnd .u64 (iShr .u64 a1 1) 6148914691236517205) + (iAnd .u64 a1 6148914691236517205))) 2) 3689348814741910323) + (iAnd .u64 (IntKind.wrap .u64 ((iAnd .u64 (iShr .u64 a1 1) 6148914691236517205) + (iAnd .u64 a1 6148914691236517205))) 3689348814741910323))) 4) + (IntKind.wrap .u64 ((iAnd .u64 (iShr .u64 (IntKind.wrap .u64 ((iAnd .u64 (iShr .u64 a1 1) 6148914691236517205) + (iAnd .u64 a1 6148914691236517205))) 2) 3689348814741910323) + (iAnd .u64 (IntKind.wrap .u64 ((iAnd .u64 (iShr .u64 a1 1) 6148914691236517205) + (iAnd .u64 a1 6148914691236517205))) 3689348814741910323))))) 1085102592571150095) + (iShr .u64 (iAnd .u64 (IntKind.wrap .u64 ((iShr .u64 (IntKind.wrap .u64 ((iAnd .u64 (iShr .u64 (IntKind.wrap .u64 ((iAnd .u64 (iShr .u64 a1 1) 6148914691236517205) + (iAnd .u64 a1 6148914691236517205))) 2) 3689348814741910323) + (iAnd .u64 (IntKind.wrap .u64 ((iAnd .u64 (iShr .u64 a1 1) 6148914691236517205) + (iAnd .u64 a1 6148914691236517205))) 3689348814741910323))) 4) + (IntKind.wrap .u64 ((iAnd .u64 (iShr .u64 (IntKind.wrap .u64 ((iAnd .u64 (iShr .u64 a1 1) 6148914691236517205) + (iAnd .u64 a1 6148914691236517205))) 2) 3689348814741910323) + (iAnd .u64 (IntKind.wrap .u64 ((iAnd .u64 (iShr .u64 a1 1) 6148914691236517205) + (iAnd .u64 a1 6148914691236517205))) 3689348814741910323))))) 1085102592571150095) 8))) 16))) + (iShr .u64 (IntKind.wrap .u64 ((IntKind.wrap .u64 ((iAnd .u64 (IntKind.wrap .u64 ((iShr .u64 (IntKind.wrap .u64 ((iAnd .u64 (iShr .u64 (IntKind.wrap .u64 ((iAnd .u64 (iShr .u64 a1 1) 6148914691236517205) + (iAnd .u64 a1 6148914691236517205))) 2) 3689348814741910323) + (iAnd .u64 (IntKind.wrap .u64 ((iAnd .u64 (iShr .u64 a1 1) 6148914691236517205) + (iAnd .u64 a1 6148914691236517205))) 3689348814741910323))) 4) + (IntKind.wrap .u64 ((iAnd .u64 (iShr .u64 (IntKind.wrap .u64 ((iAnd .u64 (iShr .u64 a1 1) 6148914691236517205) + (iAnd .u64 a1 6148914691236517205))) 2) 3689348814741910323) + (iAnd .u64 (IntKind.wrap .u64 ((iAnd .u64 (iShr .u64 a1 1) 6148914691236517205) + (iAnd .u64 a1 6148914691236517205))) 3689348814741910323))))) 1085102592571150095) + (iShr .u64 (iAnd .u64 (IntKind.wrap .u64 ((iShr .u64 (IntKind.wrap .u64 ((iAnd .u64 (iShr .u64 (IntKind.wrap .u64 ((iAnd .u64 (iShr .u64 a1 1) 6148914691236517205) + (iAnd .u64 a1 6148914691236517205))) 2) 3689348814741910323) + (iAnd .u64 (IntKind.wrap .u64 ((iAnd .u64 (iShr .u64 a1 1) 6148914691236517205) + (iAnd .u64 a1 6148914691236517205))) 3689348814741910323))) 4) + (IntKind.wrap .u64 ((iAnd .u64 (iShr .u64 (IntKind.wrap .u64 ((iAnd .u64 (iShr .u64 a1 1) 6148914691236517205) + (iAnd .u64 a1 6148914691236517205))) 2) 3689348814741910323) + (iAnd .u64 (IntKind.wrap .u64 ((iAnd .u64 (iShr .u64 a1 1) 6148914691236517205) + (iAnd .u64 a1 6148914691236517205))) 3689348814741910323))))) 1085102592571150095) 8))) + (iShr .u64 (IntKind.wrap .u64 ((iAnd .u64 (IntKind.wrap .u64 ((iShr .u64 (IntKind.wrap .u64 ((iAnd .u64 (iShr .u64 (IntKind.wrap .u64 ((iAnd .u64 (iShr .u64 a1 1) 6148914691236517205) + (iAnd .u64 a1 6148914691236517205))) 2) 3689348814741910323) + (iAnd .u64 (IntKind.wrap .u64 ((iAnd .u64 (iShr .u64 a1 1) 6148914691236517205) + (iAnd .u64 a1 6148914691236517205))) 3689348814741910323))) 4) + (IntKind.wrap .u64 ((iAnd .u64 (iShr .u64 (IntKind.wrap .u64 ((iAnd .u64 (iShr .u64 a1 1) 6148914691236517205) + (iAnd .u64 a1 6148914691236517205))) 2) 3689348814741910323) + (iAnd .u64 (IntKind.wrap .u64 ((iAnd .u64 (iShr .u64 a1 1) 6148914691236517205) + (iAnd .u64 a1 6148914691236517205))) 3689348814741910323))))) 1085102592571150095) + (iShr .u64 (iAnd .u64 (IntKind.wrap .u64 ((iShr .u64 (IntKind.wrap .u64 ((iAnd .u64 (iShr .u64 (IntKind.wrap .u64 ((iAnd .u64 (iShr .u64 a1 1) 6148914691236517205) + (iAnd .u64 a1 6148914691236517205))) 2) 3689348814741910323) + (iAnd .u64 (IntKind.wrap .u64 ((iAnd .u64 (iShr .u64 a1 1) 6148914691236517205) + (iAnd .u64 a1 6148914691236517205))) 3689348814741910323))) 4) + (IntKind.wrap .u64 ((iAnd .u64 (iShr .u64 (IntKind.wrap .u64 ((iAnd .u64 (iShr .u64 a1 1) 6148914691236517205) + (iAnd .u64 a1 6148914691236517205))) 2) 3689348814741910323) + (iAnd .u64 (IntKind.wrap .u64 ((iAnd .u64 (iShr .u64 a1 1) 6148914691236517205) + (iAnd .u64 a1 6148914691236517205))) 3689348814741910323))))) 1085102592571150095) 8))) 16))) 32)))) 127))]) (by kernel_rfl) ?_
  have hr : aresults Try.prog Try.f97 [(2, I6 (iAnd .i64 (W6 (IntKind.wrap .u64 ((IntKind.wrap .u64 ((IntKind.wrap .u64 ((iAnd .u64 (IntKind.wrap .u64 ((iShr .u64 (IntKind.wrap .u64 ((iAnd .u64 (iShr .u64 (IntKind.wrap .u64 ((iAnd .u64 (iShr .u64 a1 1) 6148914691236517205) + (iAnd .u64 a1 6148914691236517205))) 2) 3689348814741910323) + (iAnd .u64 (IntKind.wrap .u64 ((iAnd .u64 (iShr .u64 a1 1) 6148914691236517205) + (iAnd .u64 a1 6148914691236517205))) 3689348814741910323))) 4) + (IntKind.wrap .u64 ((iAnd .u64 (iShr .u64 (IntKind.wrap .u64 ((iAnd .u64 (iShr .u64 a1 1) 6148914691236517205) + (iAnd .u64 a1 6148914691236517205))) 2) 3689348814741910323) + (iAnd .u64 (IntKind.wrap .u64 ((iAnd .u64 (iShr .u64 a1 1) 6148914691236517205) + (iAnd .u64 a1 6148914691236517205))) 3689348814741910323))))) 1085102592571150095) + (iShr .u64 (iAnd .u64 (IntKind.wrap .u64 ((iShr .u64 (IntKind.wrap .u64 ((iAnd .u64 (iShr .u64 (IntKind.wrap .u64 ((iAnd .u64 (iShr .u64 a1 1) 6148914691236517205) + (iAnd .u64 a1 6148914691236517205))) 2) 3689348814741910323) + (iAnd .u64 (IntKind.wrap .u64 ((iAnd .u64 (iShr .u64 a1 1) 6148914691236517205) + (iAnd .u64 a1 6148914691236517205))) 3689348814741910323))) 4) + (IntKind.wrap .u64 ((iAnd .u64 (iShr .u64 (IntKind.wrap .u64 ((iAnd .u64 (iShr .u64 a1 1) 6148914691236517205) + (iAnd .u64 a1 6148914691236517205))) 2) 3689348814741910323) + (iAnd .u64 (IntKind.wrap .u64 ((iAnd .u64 (iShr .u64 a1 1) 6148914691236517205) + (iAnd .u64 a1 6148914691236517205))) 3689348814741910323))))) 1085102592571150095) 8))) + (iShr .u64 (IntKind.wrap .u64 ((iAnd .u64 (IntKind.wrap .u64 ((iShr .u64 (IntKind.wrap .u64 ((iAnd .u64 (iShr .u64 (IntKind.wrap .u64 ((iAnd .u64 (iShr .u64 a1 1) 6148914691236517205) + (iAnd .u64 a1 6148914691236517205))) 2) 3689348814741910323) + (iAnd .u64 (IntKind.wrap .u64 ((iAnd .u64 (iShr .u64 a1 1) 6148914691236517205) + (iAnd .u64 a1 6148914691236517205))) 3689348814741910323))) 4) + (IntKind.wrap .u64 ((iAnd .u64 (iShr .u64 (IntKind.wrap .u64 ((iAnd .u64 (iShr .u64 a1 1) 6148914691236517205) + (iAnd .u64 a1 6148914691236517205))) 2) 3689348814741910323) + (iAnd .u64 (IntKind.wrap .u64 ((iAnd .u64 (iShr .u64 a1 1) 6148914691236517205) + (iAnd .u64 a1 6148914691236517205))) 3689348814741910323))))) 1085102592571150095) + (iShr .u64 (iAnd .u64 (IntKind.wrap .u64 ((iShr .u64 (IntKind.wrap .u64 ((iAnd .u64 (iShr .u64 (IntKind.wrap .u64 ((iAnd .u64 (iShr .u64 a1 1) 6148914691236517205) + (iAnd .u64 a1 6148914691236517205))) 2) 3689348814741910323) + (iAnd .u64 (IntKind.wrap .u64 ((iAnd .u64 (iShr .u64 a1 1) 6148914691236517205) + (iAnd .u64 a1 6148914691236517205))) 3689348814741910323))) 4) + (IntKind.wrap .u64 ((iAnd .u64 (iShr .u64 (IntKind.wrap .u64 ((iAnd .u64 (iShr .u64 a1 1) 6148914691236517205) + (iAnd .u64 a1 6148914691236517205))) 2) 3689348814741910323) + (iAnd .u64 (IntKind.wrap .u64 ((iAnd .u64 (iShr .u64 a1 1) 6148914691236517205) + (iAnd .u64 a1 6148914691236517205))) 3689348814741910323))))) 1085102592571150095) 8))) 16))) + (iShr .u64 (IntKind.wrap .u64 ((IntKind.wrap .u64 ((iAnd .u64 (IntKind.wrap .u64 ((iShr .u64 (IntKind.wrap .u64 ((iAnd .u64 (iShr .u64 (IntKind.wrap .u64 ((iAnd .u64 (iShr .u64 a1 1) 6148914691236517205) + (iAnd .u64 a1 6148914691236517205))) 2) 3689348814741910323) + (iAnd .u64 (IntKind.wrap .u64 ((iAnd .u64 (iShr .u64 a1 1) 6148914691236517205) + (iAnd .u64 a1 6148914691236517205))) 3689348814741910323))) 4) + (IntKind.wrap .u64 ((iAnd .u64 (iShr .u64 (IntKind.wrap .u64 ((iAnd .u64 (iShr .u64 a1 1) 6148914691236517205) + (iAnd .u64 a1 6148914691236517205))) 2) 3689348814741910323) + (iAnd .u64 (IntKind.wrap .u64 ((iAnd .u64 (iShr .u64 a1 1) 6148914691236517205) + (iAnd .u64 a1 6148914691236517205))) 3689348814741910323))))) 1085102592571150095) + (iShr .u64 (iAnd .u64 (IntKind.wrap .u64 ((iShr .u64 (IntKind.wrap .u64 ((iAnd .u64 (iShr .u64 (IntKind.wrap .u64 ((iAnd .u64 (iShr .u64 a1 1) 6148914691236517205) + (iAnd .u64 a1 6148914691236517205))) 2) 3689348814741910323) + (iAnd .u64 (IntKind.wrap .u64 ((iAnd .u64 (iShr .u64 a1 1) 6148914691236517205) + (iAnd .u64 a1 6148914691236517205))) 3689348814741910323))) 4) + (IntKind.wrap .u64 ((iAnd .u64 (iShr .u64 (IntKind.wrap .u64 ((iAnd .u64 (iShr .u64 a1 1) 6148914691236517205) + (iAnd .u64 a1 6148914691236517205))) 2) 3689348814741910323) + (iAnd .u64 (IntKind.wrap .u64 ((iAnd .u64 (iShr .u64 a1 1) 6148914691236517205) + (iAnd .u64 a1 6148914691236517205))) 3689348814741910323))))) 1085102592571150095) 8))) + (iShr .u64 (IntKind.wrap .u64 ((iAnd .u64 (IntKind.wrap .u64 ((iShr .u64 (IntKind.wrap .u64 ((iAnd .u64 (iShr .u64 (IntKind.wrap .u64 ((iAnd .u64 (iShr .u64 a1 1) 6148914691236517205) + (iAnd .u64 a1 6148914691236517205))) 2) 3689348814741910323) + (iAnd .u64 (IntKind.wrap .u64 ((iAnd .u64 (iShr .u64 a1 1) 6148914691236517205) + (iAnd .u64 a1 6148914691236517205))) 3689348814741910323))) 4) + (IntKind.wrap .u64 ((iAnd .u64 (iShr .u64 (IntKind.wrap .u64 ((iAnd .u64 (iShr .u64 a1 1) 6148914691236517205) + (iAnd .u64 a1 6148914691236517205))) 2) 3689348814741910323) + (iAnd .u64 (IntKind.wrap .u64 ((iAnd .u64 (iShr .u64 a1 1) 6148914691236517205) + (iAnd .u64 a1 6148914691236517205))) 3689348814741910323))))) 1085102592571150095) + (iShr .u64 (iAnd .u64 (IntKind.wrap .u64 ((iShr .u64 (IntKind.wrap .u64 ((iAnd .u64 (iShr .u64 (IntKind.wrap .u64 ((iAnd .u64 (iShr .u64 a1 1) 6148914691236517205) + (iAnd .u64 a1 6148914691236517205))) 2) 3689348814741910323) + (iAnd .u64 (IntKind.wrap .u64 ((iAnd .u64 (iShr .u64 a1 1) 6148914691236517205) + (iAnd .u64 a1 6148914691236517205))) 3689348814741910323))) 4) + (IntKind.wrap .u64 ((iAnd .u64 (iShr .u64 (IntKind.wrap .u64 ((iAnd .u64 (iShr .u64 a1 1) 6148914691236517205) + (iAnd .u64 a1 6148914691236517205))) 2) 3689348814741910323) + (iAnd .u64 (IntKind.wrap .u64 ((iAnd .u64 (iShr .u64 a1 1) 6148914691236517205) + (iAnd .u64 a1 6148914691236517205))) 3689348814741910323))))) 1085102592571150095) 8))) 16))) 32)))) 127))] = some (I6 (iAnd .i64 (W6 (IntKind.wrap .u64 ((IntKind.wrap .u64 ((IntKind.wrap .u64 ((iAnd .u64 (IntKind.wrap .u64 ((iShr .u64 (IntKind.wrap .u64 ((iAnd .u64 (iShr .u64 (IntKind.wrap .u64 ((iAnd .u64 (iShr .u64 a1 1) 6148914691236517205) + (iAnd .u64 a1 6148914691236517205))) 2) 3689348814741910323) + (iAnd .u64 (IntKind.wrap .u64 ((iAnd .u64 (iShr .u64 a1 1) 6148914691236517205) + (iAnd .u64 a1 6148914691236517205))) 3689348814741910323))) 4) + (IntKind.wrap .u64 ((iAnd .u64 (iShr .u64 (IntKind.wrap .u64 ((iAnd .u64 (iShr .u64 a1 1) 6148914691236517205) + (iAnd .u64 a1 6148914691236517205))) 2) 3689348814741910323) + (iAnd .u64 (IntKind.wrap .u64 ((iAnd .u64 (iShr .u64 a1 1) 6148914691236517205) + (iAnd .u64 a1 6148914691236517205))) 3689348814741910323))))) 1085102592571150095) + (iShr .u64 (iAnd .u64 (IntKind.wrap .u64 ((iShr .u64 (IntKind.wrap .u64 ((iAnd .u64 (iShr .u64 (IntKind.wrap .u64 ((iAnd .u64 (iShr .u64 a1 1) 6148914691236517205) + (iAnd .u64 a1 6148914691236517205))) 2) 3689348814741910323) + (iAnd .u64 (IntKind.wrap .u64 ((iAnd .u64 (iShr .u64 a1 1) 6148914691236517205) + (iAnd .u64 a1 6148914691236517205))) 3689348814741910323))) 4) + (IntKind.wrap .u64 ((iAnd .u64 (iShr .u64 (IntKind.wrap .u64 ((iAnd .u64 (iShr .u64 a1 1) 6148914691236517205) + (iAnd .u64 a1 6148914691236517205))) 2) 3689348814741910323) + (iAnd .u64 (IntKind.wrap .u64 ((iAnd .u64 (iShr .u64 a1 1) 6148914691236517205) + (iAnd .u64 a1 6148914691236517205))) 3689348814741910323))))) 1085102592571150095) 8))) + (iShr .u64 (IntKind.wrap .u64 ((iAnd .u64 (IntKind.wrap .u64 ((iShr .u64 (IntKind.wrap .u64 ((iAnd .u64 (iShr .u64 (IntKind.wrap .u64 ((iAnd .u64 (iShr .u64 a1 1) 6148914691236517205) + (iAnd .u64 a1 6148914691236517205))) 2) 3689348814741910323) + (iAnd .u64 (IntKind.wrap .u64 ((iAnd .u64 (iShr .u64 a1 1) 6148914691236517205) + (iAnd .u64 a1 6148914691236517205))) 3689348814741910323))) 4) + (IntKind.wrap .u64 ((iAnd .u64 (iShr .u64 (IntKind.wrap .u64 ((iAnd .u64 (iShr .u64 a1 1) 6148914691236517205) + (iAnd .u64 a1 6148914691236517205))) 2) 3689348814741910323) + (iAnd .u64 (IntKind.wrap .u64 ((iAnd .u64 (iShr .u64 a1 1) 6148914691236517205) + (iAnd .u64 a1 6148914691236517205))) 3689348814741910323))))) 1085102592571150095) + (iShr .u64 (iAnd .u64 (IntKind.wrap .u64 ((iShr .u64 (IntKind.wrap .u64 ((iAnd .u64 (iShr .u64 (IntKind.wrap .u64 ((iAnd .u64 (iShr .u64 a1 1) 6148914691236517205) + (iAnd .u64 a1 6148914691236517205))) 2) 3689348814741910323) + (iAnd .u64 (IntKind.wrap .u64 ((iAnd .u64 (iShr .u64 a1 1) 6148914691236517205) + (iAnd .u64 a1 6148914691236517205))) 3689348814741910323))) 4) + (IntKind.wrap .u64 ((iAnd .u64 (iShr .u64 (IntKind.wrap .u64 ((iAnd .u64 (iShr .u64 a1 1) 6148914691236517205) + (iAnd .u64 a1 6148914691236517205))) 2) 3689348814741910323) + (iAnd .u64 (IntKind.wrap .u64 ((iAnd .u64 (iShr .u64 a1 1) 6148914691236517205) + (iAnd .u64 a1 6148914691236517205))) 3689348814741910323))))) 1085102592571150095) 8))) 16))) + (iShr .u64 (IntKind.wrap .u64 ((IntKind.wrap .u64 ((iAnd .u64 (IntKind.wrap .u64 ((iShr .u64 (IntKind.wrap .u64 ((iAnd .u64 (iShr .u64 (IntKind.wrap .u64 ((iAnd .u64 (iShr .u64 a1 1) 6148914691236517205) + (iAnd .u64 a1 6148914691236517205))) 2) 3689348814741910323) + (iAnd .u64 (IntKind.wrap .u64 ((iAnd .u64 (iShr .u64 a1 1) 6148914691236517205) + (iAnd .u64 a1 6148914691236517205))) 3689348814741910323))) 4) + (IntKind.wrap .u64 ((iAnd .u64 (iShr .u64 (IntKind.wrap .u64 ((iAnd .u64 (iShr .u64 a1 1) 6148914691236517205) + (iAnd .u64 a1 6148914691236517205))) 2) 3689348814741910323) + (iAnd .u64 (IntKind.wrap .u64 ((iAnd .u64 (iShr .u64 a1 1) 6148914691236517205) + (iAnd .u64 a1 6148914691236517205))) 3689348814741910323))))) 1085102592571150095) + (iShr .u64 (iAnd .u64 (IntKind.wrap .u64 ((iShr .u64 (IntKind.wrap .u64 ((iAnd .u64 (iShr .u64 (IntKind.wrap .u64 ((iAnd .u64 (iShr .u64 a1 1) 6148914691236517205) + (iAnd .u64 a1 6148914691236517205))) 2) 3689348814741910323) + (iAnd .u64 (IntKind.wrap .u64 ((iAnd .u64 (iShr .u64 a1 1) 6148914691236517205) + (iAnd .u64 a1 6148914691236517205))) 3689348814741910323))) 4) + (IntKind.wrap .u64 ((iAnd .u64 (iShr .u64 (IntKind.wrap .u64 ((iAnd .u64 (iShr .u64 a1 1) 6148914691236517205) + (iAnd .u64 a1 6148914691236517205))) 2) 3689348814741910323) + (iAnd .u64 (IntKind.wrap .u64 ((iAnd .u64 (iShr .u64 a1 1) 6148914691236517205) + (iAnd .u64 a1 6148914691236517205))) 3689348814741910323))))) 1085102592571150095) 8))) + (iShr .u64 (IntKind.wrap .u64 ((iAnd .u64 (IntKind.wrap .u64 ((iShr .u64 (IntKind.wrap .u64 ((iAnd .u64 (iShr .u64 (IntKind.wrap .u64 ((iAnd .u64 (iShr .u64 a1 1) 6148914691236517205) + (iAnd .u64 a1 6148914691236517205))) 2) 3689348814741910323) + (iAnd .u64 (IntKind.wrap .u64 ((iAnd .u64 (iShr .u64 a1 1) 6148914691236517205) + (iAnd .u64 a1 6148914691236517205))) 3689348814741910323))) 4) + (IntKind.wrap .u64 ((iAnd .u64 (iShr .u64 (IntKind.wrap .u64 ((iAnd .u64 (iShr .u64 a1 1) 6148914691236517205) + (iAnd .u64 a1 6148914691236517205))) 2) 3689348814741910323) + (iAnd .u64 (IntKind.wrap .u64 ((iAnd .u64 (iShr .u64 a1 1) 6148914691236517205) + (iAnd .u64 a1 6148914691236517205))) 3689348814741910323))))) 1085102592571150095) + (iShr .u64 (iAnd .u64 (IntKind.wrap .u64 ((iShr .u64 (IntKind.wrap .u64 ((iAnd .u64 (iShr .u64 (IntKind.wrap .u64 ((iAnd .u64 (iShr .u64 a1 1) 6148914691236517205) + (iAnd .u64 a1 6148914691236517205))) 2) 3689348814741910323) + (iAnd .u64 (IntKind.wrap .u64 ((iAnd .u64 (iShr .u64 a1 1) 6148914691236517205) + (iAnd .u64 a1 6148914691236517205))) 3689348814741910323))) 4) + (IntKind.wrap .u64 ((iAnd .u64 (iShr .u64 (IntKind.wrap .u64 ((iAnd .u64 (iShr .u64 a1 1) 6148914691236517205) + (iAnd .u64 a1 6148914691236517205))) 2) 3689348814741910323) + (iAnd .u64 (IntKind.wrap .u64 ((iAnd .u64 (iShr .u64 a1 1) 6148914691236517205) + (iAnd .u64 a1 6148914691236517205))) 3689348814741910323))))) 1085102592571150095) 8))) 16))) 32)))) 127)) := by kernel_rfl
  cases h
  exact W.ret hr
def mb_OnesCount (a1 : Int) : Option Int :=
  ((mb_OnesCount64 a1).bind fun w5 => (some w5))
theorem run_mb_OnesCount (a1 : Int) (r : Int) (h : mb_OnesCount a1 = some r) : Run Try.prog (.call 88 [.int .u64 a1] (I6 r)) := by
  refine call_of_W Try.func88 rfl (by kernel_rfl) (env0 := [(0, .int .u64 a1)]) (by kernel_rfl) ?_
  unfold mb_OnesCount at h
  refine W.seq ?_
  refine W.regT [0] [] [] [] (e2 := [(0, .int .u64 a1)]) (by kernel_rfl) (by kernel_rfl) (fun _ h => h) ?_
  refine W.seq ?_
  refine W.condB false (by kernel_rfl) (fun h => Bool.noConfusion h) (fun _ => ?_)
  refine W.skip ?_
  refine W.weak [0] [] [] [] (env' := [(0, .int .u64 a1)]) (by kernel_rfl) ?_
  refine W.seq ?_
  refine W.region (by kernel_rfl) ?_
  obtain ⟨w5, hw5, h⟩ := bind_some h
  refine WO.callK 1 (F := 97) (l := [.int .u64 a1]) (C := []) (r := I6 w5) (by kernel_rfl) (by kernel_rfl) (run_mb_OnesCount64 a1 w5 hw5) (e1 := [(0, .int .u64 a1), (6, .int .u64 a1), (7, I6 w5)]) (by kernel_rfl) ?_
  refine WO.fin [2] [] [] [] (e2 := [(2, I6 w5)]) (by kernel_rfl) (fun _ h => h) ?_
  refine W.weak [2] [] [] [] (env' := [(2, I6 w5)]) (by kernel_rfl) ?_
  have hr : aresults Try.prog Try.f88 [(2, I6 w5)] = some (I6 w5) := by kernel_rfl
  cases h
  exact W.ret hr
def dp_critical_1 (a1 : Int) (a2 : Int) : Option Int :=
  ((mb_OnesCount (IntKind.wrap .u64 a1)).bind fun w5 => ((mb_OnesCount (IntKind.wrap .u64 a2)).bind fun w6 => (some (IntKind.wrap .i64 (w5 - w6)))))
theorem run_dp_critical_1 (a1 : Int) (a2 : Int) (r : Int) (h : dp_critical_1 a1 a2 = some r) : Run Try.prog (.call 87 [I6 a1, I6 a2] (I6 r)) := by
  refine call_of_W Try.func87 rfl (by kernel_rfl) (env0 := [(0, I6 a1), (1, I6 a2)]) (by kernel_rfl) ?_
  unfold dp_critical_1 at h
  refine W.seq ?_
  refine W.regT [0, 1] [] [] [] (e2 := [(0, I6 a1), (1, I6 a2)]) (by kernel_rfl) (by kernel_rfl) (fun _ h => h) ?_
  refine W.seq ?_
  refine W.region (by kernel_rfl) ?_
  obtain ⟨w5, hw5, h⟩ := bind_some h
  refine WO.callK 2 (F := 88) (l := [.int .u64 (IntKind.wrap .u64 a1)]) (C := []) (r := I6 w5) (by kernel_rfl) (by kernel_rfl) (run_mb_OnesCount (IntKind.wrap .u64 a1) w5 hw5) (e1 := [(0, I6 a1), (1, I6 a2), (5, I6 a1), (6, .int .u64 (IntKind.wrap .u64 a1)), (7, I6 w5)]) (by kernel_rfl) ?_
  obtain ⟨w6, hw6, h⟩ := bind_some h
  refine WO.callK 2 (F := 88) (l := [.int .u64 (IntKind.wrap .u64 a2)]) (C := []) (r := I6 w6) (by kernel_rfl) (by kernel_rfl) (run_mb_OnesCount (IntKind.wrap .u64 a2) w6 hw6) (e1 := [(0, I6 a1), (1, I6 a2), (5, I6 a1), (6, .int .u64 (IntKind.wrap .u64 a1)), (7, I6 w5), (8, I6 a2), (9, .int .u64 (IntKind.wrap .u64 a2)), (10, I6 w6)]) (by kernel_rfl) ?_
  refine WO.fin [4] [] [] [] (e2 := [(4, I6 (W6 (w5 - w6)))]) (by kernel_rfl) (fun _ h => h) ?_
  refine W.weak [4] [] [] [] (env' := [(4, I6 (W6 (w5 - w6)))]) (by kernel_rfl) ?_
  have hr : aresults Try.prog Try.f87 [(4, I6 (W6 (w5 - w6)))] = some (I6 (W6 (w5 - w6))) := by kernel_rfl
  cases h
  exact W.ret hr
def sl_IndexFunc_dpDep_j4 : Option Int :=
  (some (-1))
def sl_IndexFunc_dpDep_l1 (g2 : (dpDep → Option Bool)) (K4 : (Option Int)) : List dpDep → Nat → Option Int
  | [], k1 => K4
  | x1 :: r1, k1 => ((g2 x1).bind fun w9 => (bif w9 then (some (k1 : Int)) else (sl_IndexFunc_dpDep_l1 g2 K4 r1 (k1 + 1))))
def sl_IndexFunc_dpDep (a1 : (List dpDep)) (g2 : (dpDep → Option Bool)) : Option Int :=
  (chk (lenOk a1) (sl_IndexFunc_dpDep_l1 g2 (sl_IndexFunc_dpDep_j4) a1 0))
theorem run_sl_IndexFunc_dpDep (a1 : (List dpDep)) (g2 : (dpDep → Option Bool)) (F_g2 : Nat) (C_g2 : List AV) (hok_g2 : okFn Try.prog F_g2 = true) (hrun_g2 : ∀ (x0 : dpDep) r, g2 x0 = some r → Run Try.prog (.call F_g2 ([.agg [I6 x0.f_From, I6 x0.f_To]] ++ C_g2) (.bool r))) (r : Int) (h : sl_IndexFunc_dpDep a1 g2 = some r) : Run Try.prog (.call 92 [l33 none a1, .clo F_g2 C_g2] (I6 r)) := by
  refine call_of_W Try.func92 rfl (by kernel_rfl) (env0 := [(0, l33 none a1), (1, .clo F_g2 C_g2)]) (by kernel_rfl) ?_
  unfold sl_IndexFunc_dpDep at h
  refine W.seq ?_
  refine W.regT [0, 1] [] [] [] (e2 := [(0, l33 none a1), (1, .clo F_g2 C_g2)]) (by kernel_rfl) (by kernel_rfl) (fun _ h => h) ?_
  refine W.seq ?_
  refine W.join (σ := Unit) (fun s => []) (fun s => (sl_IndexFunc_dpDep_j4) = some r) (fun s h => ?_) (fun hK4 => ?_)
  · have h : (sl_IndexFunc_dpDep_j4) = some r := h
    unfold sl_IndexFunc_dpDep_j4 at h
    refine W.seq ?_
    refine W.regT [4] [] [] [] (e2 := [(4, I6 (-1))]) (by kernel_rfl) (by kernel_rfl) (fun _ h => h) ?_
    refine W.weak [4] [] [] [] (env' := [(4, I6 (-1))]) (by kernel_rfl) ?_
    have hr : aresults Try.prog Try.f92 [(4, I6 (-1))] = some (I6 (-1)) := by kernel_rfl
    cases h
    exact W.ret hr
  refine W.seq ?_
  refine W.region (by kernel_rfl) ?_
  refine WO.pureK 1 (some (I6 ((List.map e_dpDep a1).length : Int))) (v := I6 (a1.length : Int)) (by kernel_rfl) (by rw [List.length_map]) (e1 := [(0, l33 none a1), (1, .clo F_g2 C_g2), (6, l33 none a1), (7, I6 (a1.length : Int))]) (by kernel_rfl) ?_
  refine WO.fin [0, 1, 7, 8] [] [] [] (e2 := [(0, l33 none a1), (1, .clo F_g2 C_g2), (7, I6 (a1.length : Int)), (8, .int .i64 0)]) (by kernel_rfl) (fun _ h => h) ?_
  refine W.block ?_
  obtain ⟨hl1, h⟩ := chk_some h
  refine W.weak [0, 1, 7, 8] [] [] [] (env' := [(0, l33 none a1), (1, .clo F_g2 C_g2), (7, I6 (a1.length : Int)), (8, I6 ((0 : Nat) : Int))]) (by kernel_rfl) ?_
  refine W.range (σ := Unit) a1 (fun k1 s => [(0, l33 none a1), (1, .clo F_g2 C_g2), (7, I6 (a1.length : Int)), (8, I6 (k1 : Int))]) (fun r0 k0 s => sl_IndexFunc_dpDep_l1 g2 (sl_IndexFunc_dpDep_j4) r0 k0 = some r) (fun s h => ?_) (fun x1 r1 k1 s hx1 hk1 h hN1 => ?_) () h
  · have h : sl_IndexFunc_dpDep_l1 g2 (sl_IndexFunc_dpDep_j4) [] (a1).length = some r := h
    rw [sl_IndexFunc_dpDep_l1.eq_1] at h
    refine W.seq ?_
    refine W.region (by kernel_rfl) ?_
    refine WO.pureK 0 (some (.bool (decide (((a1).length : Int) < (a1.length : Int))))) (v := .bool false) (by kernel_rfl) (by rw [lt_false (l := a1)]) (e1 := [(0, l33 none a1), (1, .clo F_g2 C_g2), (7, I6 (a1.length : Int)), (8, I6 ((a1).length : Int)), (9, .bool false)]) (by kernel_rfl) ?_
    refine WO.fin ([0, 1, 7, 8, 9]) [] [] [] (e2 := [(0, l33 none a1), (1, .clo F_g2 C_g2), (7, I6 (a1.length : Int)), (8, I6 ((a1).length : Int)), (9, .bool false)]) (by kernel_rfl) (fun _ h => h) ?_
    refine W.seq ?_
    refine W.condB false (by kernel_rfl) (fun h => Bool.noConfusion h) (fun _ => ?_)
    refine W.exit ?_
    refine W.weak [] [] [] [] (env' := []) (by kernel_rfl) ?_
    exact hK4 () h
  · have h : sl_IndexFunc_dpDep_l1 g2 (sl_IndexFunc_dpDep_j4) (x1 :: r1) k1 = some r := h
    rw [sl_IndexFunc_dpDep_l1.eq_2] at h
    refine W.seq ?_
    refine W.region (by kernel_rfl) ?_
    refine WO.pureK 0 (some (.bool (decide ((k1 : Int) < (a1.length : Int))))) (v := .bool true) (by kernel_rfl) (by rw [lt_true hk1]) (e1 := [(0, l33 none a1), (1, .clo F_g2 C_g2), (7, I6 (a1.length : Int)), (8, I6 (k1 : Int)), (9, .bool true)]) (by kernel_rfl) ?_
    refine WO.fin ([0, 1, 7, 8, 9]) [] [] [] (e2 := [(0, l33 none a1), (1, .clo F_g2 C_g2), (7, I6 (a1.length : Int)), (8, I6 (k1 : Int)), (9, .bool true)]) (by kernel_rfl) (fun _ h => h) ?_
    refine W.seq ?_
    refine W.condB true (by kernel_rfl) (fun _ => ?_) (fun h => Bool.noConfusion h)
    refine W.skip ?_
    refine W.weak [0, 1, 7, 8] [] [] [] (env' := [(0, l33 none a1), (1, .clo F_g2 C_g2), (7, I6 (a1.length : Int)), (8, I6 (k1 : Int))]) (by kernel_rfl) ?_
    refine W.seq ?_
    refine W.block ?_
    refine W.seq ?_
    refine W.regT [0, 1, 5, 7, 8] [] [] [] (e2 := [(0, l33 none a1), (1, .clo F_g2 C_g2), (5, I6 (k1 : Int)), (7, I6 (a1.length : Int)), (8, I6 (k1 : Int))]) (by kernel_rfl) (by kernel_rfl) (fun _ h => h) ?_
    refine W.seq ?_
    refine W.region (by kernel_rfl) ?_
    refine WO.pureK 3 (if (0 : Int) ≤ (k1 : Int) then ((List.map e_dpDep a1)[Int.toNat (k1 : Int)]?).map AV.ptr else none) (v := .ptr (.agg [I6 x1.f_From, I6 x1.f_To])) (by kernel_rfl) (idx_nat (f := e_dpDep) hx1) (e1 := [(0, l33 none a1), (1, .clo F_g2 C_g2), (5, I6 (k1 : Int)), (7, I6 (a1.length : Int)), (8, I6 (k1 : Int)), (11, .clo F_g2 C_g2), (12, l33 none a1), (13, I6 (k1 : Int)), (14, .ptr (.agg [I6 x1.f_From, I6 x1.f_To]))]) (by kernel_rfl) ?_
    obtain ⟨w9, hw9, h⟩ := bind_some h
    refine WO.callK 1 (F := F_g2) (l := [.agg [I6 x1.f_From, I6 x1.f_To]]) (C := C_g2) (r := .bool w9) (by kernel_rfl) hok_g2 (hrun_g2 x1 w9 hw9) (e1 := [(0, l33 none a1), (1, .clo F_g2 C_g2), (5, I6 (k1 : Int)), (7, I6 (a1.length : Int)), (8, I6 (k1 : Int)), (11, .clo F_g2 C_g2), (12, l33 none a1), (13, I6 (k1 : Int)), (14, .ptr (.agg [I6 x1.f_From, I6 x1.f_To])), (15, .agg [I6 x1.f_From, I6 x1.f_To]), (16, .bool w9)]) (by kernel_rfl) ?_
    refine WO.fin [0, 1, 5, 7, 8, 16] [] [] [] (e2 := [(0, l33 none a1), (1, .clo F_g2 C_g2), (5, I6 (k1 : Int)), (7, I6 (a1.length : Int)), (8, I6 (k1 : Int)), (16, .bool w9)]) (by kernel_rfl) (fun _ h => h) ?_
    refine W.condB w9 (by kernel_rfl) (fun hb => ?_) (fun hb => ?_)
    · replace h := cond_t hb h
      refine W.seq ?_
      refine W.regT [4] [] [] [] (e2 := [(4, I6 (k1 : Int))]) (by kernel_rfl) (by kernel_rfl) (fun _ h => h) ?_
      refine W.weak [4] [] [] [] (env' := [(4, I6 (k1 : Int))]) (by kernel_rfl) ?_
      have hr : aresults Try.prog Try.f92 [(4, I6 (k1 : Int))] = some (I6 (k1 : Int)) := by kernel_rfl
      cases h
      exact W.ret hr
    replace h := cond_f hb h
    refine W.skip ?_
    refine W.weak [0, 1, 7, 8] [] [] [] (env' := [(0, l33 none a1), (1, .clo F_g2 C_g2), (7, I6 (a1.length : Int)), (8, I6 (k1 : Int))]) (by kernel_rfl) ?_
    refine W.region (by kernel_rfl) ?_
    refine WO.pureK 0 (some (I6 (IntKind.wrap .i64 ((k1 : Int) + 1)))) (v := I6 ((k1 + 1 : Nat) : Int)) (by kernel_rfl) (by rw [wrap_succ hl1 hk1]) (e1 := [(0, l33 none a1), (1, .clo F_g2 C_g2), (7, I6 (a1.length : Int)), (8, I6 (k1 : Int)), (18, I6 ((k1 + 1 : Nat) : Int))]) (by kernel_rfl) ?_
    refine WO.fin [0, 1, 7, 8] [] [] [] (e2 := [(0, l33 none a1), (1, .clo F_g2 C_g2), (7, I6 (a1.length : Int)), (8, I6 ((k1 + 1 : Nat) : Int))]) (by kernel_rfl) (fun _ h => h) ?_
    exact hN1 () h
def sl_ContainsFunc_dpDep (a1 : (List dpDep)) (g2 : (dpDep → Option Bool)) : Option Bool :=
  ((sl_IndexFunc_dpDep a1 g2).bind fun w5 => (some (decide (w5 ≥ 0))))
theorem run_sl_ContainsFunc_dpDep (a1 : (List dpDep)) (g2 : (dpDep → Option Bool)) (F_g2 : Nat) (C_g2 : List AV) (hok_g2 : okFn Try.prog F_g2 = true) (hrun_g2 : ∀ (x0 : dpDep) r, g2 x0 = some r → Run Try.prog (.call F_g2 ([.agg [I6 x0.f_From, I6 x0.f_To]] ++ C_g2) (.bool r))) (r : Bool) (h : sl_ContainsFunc_dpDep a1 g2 = some r) : Run Try.prog (.call 74 [l33 none a1, .clo F_g2 C_g2] (.bool r)) := by
  refine call_of_W Try.func74 rfl (by kernel_rfl) (env0 := [(0, l33 none a1), (1, .clo F_g2 C_g2)]) (by kernel_rfl) ?_
  unfold sl_ContainsFunc_dpDep at h
  refine W.seq ?_
  refine W.regT [0, 1] [] [] [] (e2 := [(0, l33 none a1), (1, .clo F_g2 C_g2)]) (by kernel_rfl) (by kernel_rfl) (fun _ h => h) ?_
  refine W.seq ?_
  refine W.region (by kernel_rfl) ?_
  obtain ⟨w5, hw5, h⟩ := bind_some h
  refine WO.callK 2 (F := 92) (l := [l33 none a1, .clo F_g2 C_g2]) (C := []) (r := I6 w5) (by kernel_rfl) (by kernel_rfl) (run_sl_IndexFunc_dpDep a1 g2 F_g2 C_g2 hok_g2 hrun_g2 w5 hw5) (e1 := [(0, l33 none a1), (1, .clo F_g2 C_g2), (5, l33 none a1), (6, .clo F_g2 C_g2), (7, I6 w5)]) (by kernel_rfl) ?_
  refine WO.fin [4] [] [] [] (e2 := [(4, .bool (decide (w5 ≥ 0)))]) (by kernel_rfl) (fun _ h => h) ?_
  refine W.weak [4] [] [] [] (env' := [(4, .bool (decide (w5 ≥ 0)))]) (by kernel_rfl) ?_
  have hr : aresults Try.prog Try.f74 [(4, .bool (decide (w5 ≥ 0)))] = some (.bool (decide (w5 ≥ 0))) := by kernel_rfl
  cases h
  exact W.ret hr
def dp_critical_2_j4 (v5 : Bool) : Option Bool :=
  (some v5)
def dp_critical_2 (a1 : dpDep) (c2 : Int) : Option Bool :=
  (bif ((iAndNot .i64 a1.f_From c2) == 0) then ((dp_critical_2_j4) ((iAndNot .i64 a1.f_To c2) != 0)) else ((dp_critical_2_j4) false))
theorem run_dp_critical_2 (a1 : dpDep) (c2 : Int) (r : Bool) (h : dp_critical_2 a1 c2 = some r) : Run Try.prog (.call 89 [.agg [I6 a1.f_From, I6 a1.f_To], .ptr (I6 c2)] (.bool r)) := by
  refine call_of_W Try.func89 rfl (by kernel_rfl) (env0 := [(0, .agg [I6 a1.f_From, I6 a1.f_To]), (1, .ptr (I6 c2))]) (by kernel_rfl) ?_
  unfold dp_critical_2 at h
  refine W.seq ?_
  refine W.regT [1, 2] [2] [] [] (e2 := [(1, .ptr (I6 c2)), (2, .ptr (.agg [I6 a1.f_From, I6 a1.f_To]))]) (by kernel_rfl) (by kernel_rfl) (fun _ h => h) ?_
  refine W.seq ?_
  refine W.join (σ := (Bool)) (fun s => [(3, .bool s)]) (fun s => (dp_critical_2_j4) s = some r) (fun s h => ?_) (fun hK4 => ?_)
  · obtain ⟨v5, rfl⟩ : ∃ x, x = s := ⟨s, rfl⟩
    have h : (dp_critical_2_j4) v5 = some r := h
    unfold dp_critical_2_j4 at h
    refine W.weak [3] [] [] [] (env' := [(3, .bool v5)]) (by kernel_rfl) ?_
    have hr : aresults Try.prog Try.f89 [(3, .bool v5)] = some (.bool v5) := by kernel_rfl
    cases h
    exact W.ret hr
  refine W.region (by kernel_rfl) ?_
  refine WO.boolK 6 (fun b => [(1, .ptr (I6 c2)), (2, .ptr (.agg [I6 a1.f_From, I6 a1.f_To])), (4, .ptr (I6 a1.f_From)), (5, I6 a1.f_From), (6, I6 c2), (7, I6 (iAndNot .i64 a1.f_From c2)), (8, .bool b), (9, .bool b)]) ((iAndNot .i64 a1.f_From c2) == 0) (by kernel_rfl) (fun hb => ?_) (fun hb => ?_)
  · replace h := cond_t hb h
    refine WO.fin [3] [] [] [] (e2 := [(3, .bool ((iAndNot .i64 a1.f_To c2) != 0))]) (by kernel_rfl) (fun _ h => h) ?_
    exact hK4 ((iAndNot .i64 a1.f_To c2) != 0) h
  replace h := cond_f hb h
  refine WO.fin [3] [] [] [] (e2 := [(3, .bool false)]) (by kernel_rfl) (fun _ h => h) ?_
  exact hK4 false h
def mb_Len64_j13 (v16 : Int) (v17 : Int) : Option Int :=
  ((sidx str_14a5d850 (IntKind.wrap .u8 v16)).bind fun e19 => (some (IntKind.wrap .i64 (v17 + (IntKind.wrap .i64 e19)))))
def mb_Len64_j8 (v11 : Int) (v12 : Int) : Option Int :=
  (bif (decide (v11 ≥ 256)) then ((mb_Len64_j13) (iShr .u64 v11 8) (IntKind.wrap .i64 (v12 + 8))) else ((mb_Len64_j13) v11 v12))
def mb_Len64_j3 (v6 : Int) (v7 : Int) : Option Int :=
  (bif (decide (v6 ≥ 65536)) then ((mb_Len64_j8) (iShr .u64 v6 16) (IntKind.wrap .i64 (v7 + 16))) else ((mb_Len64_j8) v6 v7))
def mb_Len64 (a1 : Int) : Option Int :=
  (bif (decide (a1 ≥ 4294967296)) then ((mb_Len64_j3) (iShr .u64 a1 32) 32) else ((mb_Len64_j3) a1 0))
theorem run_mb_Len64 (a1 : Int) (r : Int) (h : mb_Len64 a1 = some r) : Run Try.prog (.call 112 [.int .u64 a1] (I6 r)) := by
  refine call_of_W Try.func112 rfl (by kernel_rfl) (env0 := [(0, .int .u64 a1)]) (by kernel_rfl) ?_
  unfold mb_Len64 at h
  refine W.seq ?_
  refine W.regT [0, 2] [] [] [] (e2 := [(0, .int .u64 a1), (2, .int .i64 0)]) (by kernel_rfl) (by kernel_rfl) (fun _ h => h) ?_
  refine W.seq ?_
  refine W.join (σ := (Int × Int)) (fun s => [(0, .int .u64 s.1), (2, I6 s.2)]) (fun s => (mb_Len64_j3) s.1 s.2 = some r) (fun s h => ?_) (fun hK3 => ?_)
  · obtain ⟨v6, v7⟩ := s
    have h : (mb_Len64_j3) v6 v7 = some r := h
    unfold mb_Len64_j3 at h
    refine W.seq ?_
    refine W.join (σ := (Int × Int)) (fun s => [(0, .int .u64 s.1), (2, I6 s.2)]) (fun s => (mb_Len64_j8) s.1 s.2 = some r) (fun s h => ?_) (fun hK8 => ?_)
    · obtain ⟨v11, v12⟩ := s
      have h : (mb_Len64_j8) v11 v12 = some r := h
      unfold mb_Len64_j8 at h
      refine W.seq ?_
      refine W.join (σ := (Int × Int)) (fun s => [(0, .int .u64 s.1), (2, I6 s.2)]) (fun s => (mb_Len64_j13) s.1 s.2 = some r) (fun s h => ?_) (fun hK13 => ?_)
      · obtain ⟨v16, v17⟩ := s
        have h : (mb_Len64_j13) v16 v17 = some r := h
        unfold mb_Len64_j13 at h
        refine W.seq ?_
        refine W.region (by kernel_rfl) ?_
        obtain ⟨e19, he19, h⟩ := bind_some h
        refine WO.pureK 3 (if (0 : Int) ≤ (IntKind.wrap .u8 v16) then (str_14a5d850[Int.toNat (IntKind.wrap .u8 v16)]?).map fun b => AV.int .u8 b.toNat else none) (v := .int .u8 e19) (by kernel_rfl) (sidx_av he19) (e1 := [(0, .int .u64 v16), (2, I6 v17), (19, I6 v17), (20, .int .u64 v16), (21, .int .u8 (IntKind.wrap .u8 v16)), (22, .int .u8 e19)]) (by kernel_rfl) ?_
        refine WO.fin [2] [] [] [] (e2 := [(2, I6 (W6 (v17 + (W6 e19))))]) (by kernel_rfl) (fun _ h => h) ?_
        refine W.weak [2] [] [] [] (env' := [(2, I6 (W6 (v17 + (W6 e19))))]) (by kernel_rfl) ?_
        have hr : aresults Try.prog Try.f112 [(2, I6 (W6 (v17 + (W6 e19))))] = some (I6 (W6 (v17 + (W6 e19)))) := by kernel_rfl
        cases h
        exact W.ret hr
      refine W.seq ?_
      refine W.regT [0, 2, 14] [] [] [] (e2 := [(0, .int .u64 v11), (2, I6 v12), (14, .bool (decide (v11 ≥ 256)))]) (by kernel_rfl) (by kernel_rfl) (fun _ h => h) ?_
      refine W.condB (decide (v11 ≥ 256)) (by kernel_rfl) (fun hb => ?_) (fun hb => ?_)
      · replace h := cond_t hb h
        refine W.seq ?_
        refine W.regT [0, 2] [] [] [] (e2 := [(0, .int .u64 (iShr .u64 v11 8)), (2, I6 v12)]) (by kernel_rfl) (by kernel_rfl) (fun _ h => h) ?_
        refine W.regT [0, 2] [] [] [] (e2 := [(0, .int .u64 (iShr .u64 v11 8)), (2, I6 (W6 (v12 + 8)))]) (by kernel_rfl) (by kernel_rfl) (fun _ h => h) ?_
        exact hK13 ((iShr .u64 v11 8), (W6 (v12 + 8))) h
      replace h := cond_f hb h
      refine W.skip ?_
      refine W.weak [0, 2] [] [] [] (env' := [(0, .int .u64 v11), (2, I6 v12)]) (by kernel_rfl) ?_
      exact hK13 (v11, v12) h
    refine W.seq ?_
    refine W.regT [0, 2, 8] [] [] [] (e2 := [(0, .int .u64 v6), (2, I6 v7), (8, .bool (decide (v6 ≥ 65536)))]) (by kernel_rfl) (by kernel_rfl) (fun _ h => h) ?_
    refine W.condB (decide (v6 ≥ 65536)) (by kernel_rfl) (fun hb => ?_) (fun hb => ?_)
    · replace h := cond_t hb h
      refine W.seq ?_
      refine W.regT [0, 2] [] [] [] (e2 := [(0, .int .u64 (iShr .u64 v6 16)), (2, I6 v7)]) (by kernel_rfl) (by kernel_rfl) (fun _ h => h) ?_
      refine W.regT [0, 2] [] [] [] (e2 := [(0, .int .u64 (iShr .u64 v6 16)), (2, I6 (W6 (v7 + 16)))]) (by kernel_rfl) (by kernel_rfl) (fun _ h => h) ?_
      exact hK8 ((iShr .u64 v6 16), (W6 (v7 + 16))) h
    replace h := cond_f hb h
    refine W.skip ?_
    refine W.weak [0, 2] [] [] [] (env' := [(0, .int .u64 v6), (2, I6 v7)]) (by kernel_rfl) ?_
    exact hK8 (v6, v7) h
  refine W.seq ?_
  refine W.regT [0, 2, 4] [] [] [] (e2 := [(0, .int .u64 a1), (2, .int .i64 0), (4, .bool (decide (a1 ≥ 4294967296)))]) (by kernel_rfl) (by kernel_rfl) (fun _ h => h) ?_
  refine W.condB (decide (a1 ≥ 4294967296)) (by kernel_rfl) (fun hb => ?_) (fun hb => ?_)
  · replace h := cond_t hb h
    refine W.seq ?_
    refine W.regT [0] [] [] [] (e2 := [(0, .int .u64 (iShr .u64 a1 32))]) (by kernel_rfl) (by kernel_rfl) (fun _ h => h) ?_
    refine W.regT [0, 2] [] [] [] (e2 := [(0, .int .u64 (iShr .u64 a1 32)), (2, .int .i64 32)]) (by kernel_rfl) (by kernel_rfl) (fun _ h => h) ?_
    exact hK3 ((iShr .u64 a1 32), 32) h
  replace h := cond_f hb h
  refine W.skip ?_
  refine W.weak [0, 2] [] [] [] (env' := [(0, .int .u64 a1), (2, .int .i64 0)]) (by kernel_rfl) ?_
  exact hK3 (a1, 0) h
def mb_Len (a1 : Int) : Option Int :=
  ((mb_Len64 a1).bind fun w5 => (some w5))
theorem run_mb_Len (a1 : Int) (r : Int) (h : mb_Len a1 = some r) : Run Try.prog (.call 99 [.int .u64 a1] (I6 r)) := by
  refine call_of_W Try.func99 rfl (by kernel_rfl) (env0 := [(0, .int .u64 a1)]) (by kernel_rfl) ?_
  unfold mb_Len at h
  refine W.seq ?_
  refine W.regT [0] [] [] [] (e2 := [(0, .int .u64 a1)]) (by kernel_rfl) (by kernel_rfl) (fun _ h => h) ?_
  refine W.seq ?_
  refine W.condB false (by kernel_rfl) (fun h => Bool.noConfusion h) (fun _ => ?_)
  refine W.skip ?_
  refine W.weak [0] [] [] [] (env' := [(0, .int .u64 a1)]) (by kernel_rfl) ?_
  refine W.seq ?_
  refine W.region (by kernel_rfl) ?_
  obtain ⟨w5, hw5, h⟩ := bind_some h
  refine WO.callK 1 (F := 112) (l := [.int .u64 a1]) (C := []) (r := I6 w5) (by kernel_rfl) (by kernel_rfl) (run_mb_Len64 a1 w5 hw5) (e1 := [(0, .int .u64 a1), (6, .int .u64 a1), (7, I6 w5)]) (by kernel_rfl) ?_
  refine WO.fin [2] [] [] [] (e2 := [(2, I6 w5)]) (by kernel_rfl) (fun _ h => h) ?_
  refine W.weak [2] [] [] [] (env' := [(2, I6 w5)]) (by kernel_rfl) ?_
  have hr : aresults Try.prog Try.f99 [(2, I6 w5)] = some (I6 w5) := by kernel_rfl
  cases h
  exact W.ret hr
def sl_insertionSortCmpFunc_dpDep_j11 (v8 : Int) (N1 : ((List dpDep) → Int → Option (List dpDep))) (v34 : (List dpDep)) : Option (List dpDep) :=
  (N1 v34 (IntKind.wrap .i64 (v8 + 1)))
def sl_insertionSortCmpFunc_dpDep_j16 (n2 : Nat) (v13 : (List dpDep)) (v14 : Int) (N2 : ((List dpDep) → Int → Option (List dpDep))) (K11 : ((List dpDep) → Option (List dpDep))) (v22 : Bool) : Option (List dpDep) :=
  (bif v22 then (chk (decide ((0 : Int) ≤ (IntKind.wrap .i64 (v14 - 1)) ∧ (IntKind.wrap .i64 (v14 - 1)) < ((n2 : Nat) : Int))) ((v13[(0 + Int.toNat (IntKind.wrap .i64 (v14 - 1)))]?).bind fun e25 => (chk (decide ((0 : Int) ≤ v14 ∧ v14 < ((n2 : Nat) : Int))) ((v13[(0 + Int.toNat v14)]?).bind fun e27 => (chk (decide ((0 : Int) ≤ v14 ∧ v14 < ((n2 : Nat) : Int))) ((upd v13 (0 + Int.toNat v14) e25).bind fun u29 => (chk (decide ((0 : Int) ≤ (IntKind.wrap .i64 (v14 - 1)) ∧ (IntKind.wrap .i64 (v14 - 1)) < ((n2 : Nat) : Int))) ((upd u29 (0 + Int.toNat (IntKind.wrap .i64 (v14 - 1))) e27).bind fun u32 => (N2 u32 (IntKind.wrap .i64 (v14 - 1))))))))))) else (K11 v13))
def sl_insertionSortCmpFunc_dpDep_l2 (n2 : Nat) (a3 : Int) (g5 : (dpDep → dpDep → Option Int)) (K11 : ((List dpDep) → Option (List dpDep))) : Nat → (List dpDep) → Int → Option (List dpDep)
  | 0, _, _ => none
  | m2 + 1, v13, v14 => (bif (decide (v14 > a3)) then (chk (decide ((0 : Int) ≤ v14 ∧ v14 < ((n2 : Nat) : Int))) ((v13[(0 + Int.toNat v14)]?).bind fun e18 => (chk (decide ((0 : Int) ≤ (IntKind.wrap .i64 (v14 - 1)) ∧ (IntKind.wrap .i64 (v14 - 1)) < ((n2 : Nat) : Int))) ((v13[(0 + Int.toNat (IntKind.wrap .i64 (v14 - 1)))]?).bind fun e20 => ((g5 e18 e20).bind fun w21 => ((sl_insertionSortCmpFunc_dpDep_j16 n2 v13 v14 (sl_insertionSortCmpFunc_dpDep_l2 n2 a3 g5 K11 m2) K11) (decide (w21 < 0)))))))) else ((sl_insertionSortCmpFunc_dpDep_j16 n2 v13 v14 (sl_insertionSortCmpFunc_dpDep_l2 n2 a3 g5 K11 m2) K11) false))
def sl_insertionSortCmpFunc_dpDep_l1 (fuel : Nat) (n2 : Nat) (a3 : Int) (a4 : Int) (g5 : (dpDep → dpDep → Option Int)) : Nat → (List dpDep) → Int → Option (List dpDep)
  | 0, _, _ => none
  | m1 + 1, v7, v8 => (bif (decide (v8 < a4)) then (sl_insertionSortCmpFunc_dpDep_l2 n2 a3 g5 (sl_insertionSortCmpFunc_dpDep_j11 v8 (sl_insertionSortCmpFunc_dpDep_l1 fuel n2 a3 a4 g5 m1)) fuel v7 v8) else (some v7))
def sl_insertionSortCmpFunc_dpDep (fuel : Nat) (a1 : (List dpDep)) (n2 : Nat) (a3 : Int) (a4 : Int) (g5 : (dpDep → dpDep → Option Int)) : Option (List dpDep) :=
  (sl_insertionSortCmpFunc_dpDep_l1 fuel n2 a3 a4 g5 fuel a1 (IntKind.wrap .i64 (a3 + 1)))
theorem run_sl_insertionSortCmpFunc_dpDep (fuel : Nat) (a1 : (List dpDep)) (n2 : Nat) (a3 : Int) (a4 : Int) (g5 : (dpDep → dpDep → Option Int)) (F_g5 : Nat) (C_g5 : List AV) (hok_g5 : okFn Try.prog F_g5 = true) (hrun_g5 : ∀ (x0 : dpDep) (x1 : dpDep) r, g5 x0 x1 = some r → Run Try.prog (.call F_g5 ([.agg [I6 x0.f_From, I6 x0.f_To], .agg [I6 x1.f_From, I6 x1.f_To]] ++ C_g5) (I6 r))) (r : (List dpDep)) (h : sl_insertionSortCmpFunc_dpDep fuel a1 n2 a3 a4 g5 = some r) : Run Try.prog (.callM 103 [S2 n2, I6 a3, I6 a4, .clo F_g5 C_g5] [O2 a1] (.tup []) [O2 r]) := by
  refine callM_of_W Try.func103 rfl (by kernel_rfl) (env0 := [(0, S2 n2), (1, I6 a3), (2, I6 a4), (3, .clo F_g5 C_g5), O2 a1]) (by kernel_rfl) ?_
  unfold sl_insertionSortCmpFunc_dpDep at h
  refine W.seq ?_
  refine W.regT [0, 1, 2, 3, 8, 2000000] [] [] [] (e2 := [(0, S2 n2), (1, I6 a3), (2, I6 a4), (3, .clo F_g5 C_g5), (8, I6 (W6 (a3 + 1))), O2 a1]) (by kernel_rfl) (by kernel_rfl) (fun _ h => h) ?_
  refine W.block ?_
  refine W.weak [0, 1, 2, 3, 8, 2000000] [] [] [] (env' := [(0, S2 n2), (1, I6 a3), (2, I6 a4), (3, .clo F_g5 C_g5), (8, I6 (W6 (a3 + 1))), O2 a1]) (by kernel_rfl) ?_
  refine W.fuel (σ := ((List dpDep) × Int)) (fun s => [(0, S2 n2), (1, I6 a3), (2, I6 a4), (3, .clo F_g5 C_g5), (8, I6 s.2), (2000000, .obj 33 2 (List.map e_dpDep s.1))]) (fun m0 s => sl_insertionSortCmpFunc_dpDep_l1 fuel n2 a3 a4 g5 m0 s.1 s.2 = some r) (fun s h => ?_) (fun m1 s h hN1 => ?_) fuel (a1, (W6 (a3 + 1))) h
  · obtain ⟨v7, v8⟩ := s
    have h : sl_insertionSortCmpFunc_dpDep_l1 fuel n2 a3 a4 g5 0 v7 v8 = some r := h
    rw [sl_insertionSortCmpFunc_dpDep_l1.eq_1] at h
    cases h
  · obtain ⟨v7, v8⟩ := s
    have h : sl_insertionSortCmpFunc_dpDep_l1 fuel n2 a3 a4 g5 (m1 + 1) v7 v8 = some r := h
    rw [sl_insertionSortCmpFunc_dpDep_l1.eq_2] at h
    refine W.seq ?_
    refine W.seq ?_
    refine W.regT [0, 1, 2, 3, 8, 14, 2000000] [] [] [] (e2 := [(0, S2 n2), (1, I6 a3), (2, I6 a4), (3, .clo F_g5 C_g5), (8, I6 v8), (14, .bool (decide (v8 < a4))), O2 v7]) (by kernel_rfl) (by kernel_rfl) (fun _ h => h) ?_
    refine W.condB (decide (v8 < a4)) (by kernel_rfl) (fun hb => ?_) (fun hb => ?_)
    · replace h := cond_t hb h
      refine W.skip ?_
      refine W.weak [0, 1, 2, 3, 8, 2000000] [] [] [] (env' := [(0, S2 n2), (1, I6 a3), (2, I6 a4), (3, .clo F_g5 C_g5), (8, I6 v8), O2 v7]) (by kernel_rfl) ?_
      refine W.seq ?_
      refine W.join (σ := ((List dpDep))) (fun s => [(0, S2 n2), (1, I6 a3), (2, I6 a4), (3, .clo F_g5 C_g5), (8, I6 v8), O2 s]) (fun s => (sl_insertionSortCmpFunc_dpDep_j11 v8 (sl_insertionSortCmpFunc_dpDep_l1 fuel n2 a3 a4 g5 m1)) s = some r) (fun s h => ?_) (fun hK11 => ?_)
      · obtain ⟨v34, rfl⟩ : ∃ x, x = s := ⟨s, rfl⟩
        have h : (sl_insertionSortCmpFunc_dpDep_j11 v8 (sl_insertionSortCmpFunc_dpDep_l1 fuel n2 a3 a4 g5 m1)) v34 = some r := h
        unfold sl_insertionSortCmpFunc_dpDep_j11 at h
        refine W.regT [0, 1, 2, 3, 8, 2000000] [] [] [] (e2 := [(0, S2 n2), (1, I6 a3), (2, I6 a4), (3, .clo F_g5 C_g5), (8, I6 (W6 (v8 + 1))), O2 v34]) (by kernel_rfl) (by kernel_rfl) (fun _ h => h) ?_
        exact hN1 (v34, (W6 (v8 + 1))) h
      refine W.block ?_
      refine W.seq ?_
      refine W.regT [0, 1, 2, 3, 8, 9, 2000000] [] [] [] (e2 := [(0, S2 n2), (1, I6 a3), (2, I6 a4), (3, .clo F_g5 C_g5), (8, I6 v8), (9, I6 v8), O2 v7]) (by kernel_rfl) (by kernel_rfl) (fun _ h => h) ?_
      refine W.block ?_
      refine W.weak [0, 1, 2, 3, 8, 9, 2000000] [] [] [] (env' := [(0, S2 n2), (1, I6 a3), (2, I6 a4), (3, .clo F_g5 C_g5), (8, I6 v8), (9, I6 v8), O2 v7]) (by kernel_rfl) ?_
      refine W.fuel (σ := ((List dpDep) × Int)) (fun s => [(0, S2 n2), (1, I6 a3), (2, I6 a4), (3, .clo F_g5 C_g5), (8, I6 v8), (9, I6 s.2), (2000000, .obj 33 2 (List.map e_dpDep s.1))]) (fun m0 s => sl_insertionSortCmpFunc_dpDep_l2 n2 a3 g5 (sl_insertionSortCmpFunc_dpDep_j11 v8 (sl_insertionSortCmpFunc_dpDep_l1 fuel n2 a3 a4 g5 m1)) m0 s.1 s.2 = some r) (fun s h => ?_) (fun m2 s h hN2 => ?_) fuel (v7, v8) h
      · obtain ⟨v13, v14⟩ := s
        have h : sl_insertionSortCmpFunc_dpDep_l2 n2 a3 g5 (sl_insertionSortCmpFunc_dpDep_j11 v8 (sl_insertionSortCmpFunc_dpDep_l1 fuel n2 a3 a4 g5 m1)) 0 v13 v14 = some r := h
        rw [sl_insertionSortCmpFunc_dpDep_l2.eq_1] at h
        cases h
      · obtain ⟨v13, v14⟩ := s
        have h : sl_insertionSortCmpFunc_dpDep_l2 n2 a3 g5 (sl_insertionSortCmpFunc_dpDep_j11 v8 (sl_insertionSortCmpFunc_dpDep_l1 fuel n2 a3 a4 g5 m1)) (m2 + 1) v13 v14 = some r := h
        rw [sl_insertionSortCmpFunc_dpDep_l2.eq_2] at h
        refine W.seq ?_
        refine W.seq ?_
        refine W.join (σ := (Bool)) (fun s => [(0, S2 n2), (1, I6 a3), (2, I6 a4), (3, .clo F_g5 C_g5), (8, I6 v8), (9, I6 v14), (34, .bool s), O2 v13]) (fun s => (sl_insertionSortCmpFunc_dpDep_j16 n2 v13 v14 (sl_insertionSortCmpFunc_dpDep_l2 n2 a3 g5 (sl_insertionSortCmpFunc_dpDep_j11 v8 (sl_insertionSortCmpFunc_dpDep_l1 fuel n2 a3 a4 g5 m1)) m2) (sl_insertionSortCmpFunc_dpDep_j11 v8 (sl_insertionSortCmpFunc_dpDep_l1 fuel n2 a3 a4 g5 m1))) s = some r) (fun s h => ?_) (fun hK16 => ?_)
        · obtain ⟨v22, rfl⟩ : ∃ x, x = s := ⟨s, rfl⟩
          have h : (sl_insertionSortCmpFunc_dpDep_j16 n2 v13 v14 (sl_insertionSortCmpFunc_dpDep_l2 n2 a3 g5 (sl_insertionSortCmpFunc_dpDep_j11 v8 (sl_insertionSortCmpFunc_dpDep_l1 fuel n2 a3 a4 g5 m1)) m2) (sl_insertionSortCmpFunc_dpDep_j11 v8 (sl_insertionSortCmpFunc_dpDep_l1 fuel n2 a3 a4 g5 m1))) v22 = some r := h
          unfold sl_insertionSortCmpFunc_dpDep_j16 at h
          refine W.condB v22 (by kernel_rfl) (fun hb => ?_) (fun hb => ?_)
          · replace h := cond_t hb h
            refine W.skip ?_
            refine W.weak [0, 1, 2, 3, 8, 9, 2000000] [] [] [] (env' := [(0, S2 n2), (1, I6 a3), (2, I6 a4), (3, .clo F_g5 C_g5), (8, I6 v8), (9, I6 v14), O2 v13]) (by kernel_rfl) ?_
            refine W.seq ?_
            refine W.block ?_
            refine W.region (by kernel_rfl) ?_
            obtain ⟨hc24, h⟩ := chk_some h
            refine WO.pureK 8 (if (0 : Int) ≤ (W6 (v14 - 1)) ∧ (W6 (v14 - 1)) < ((n2 : Nat) : Int) then some (.pe 2000000 2 (0 + Int.toNat (W6 (v14 - 1))) 0) else none) (v := .pe 2000000 2 (0 + Int.toNat (W6 (v14 - 1))) 0) (by kernel_rfl) (ite_some hc24) (e1 := [(0, S2 n2), (1, I6 a3), (2, I6 a4), (3, .clo F_g5 C_g5), (8, I6 v8), (9, I6 v14), (37, S2 n2), (38, I6 v14), (39, S2 n2), (40, I6 v14), (41, I6 (W6 (v14 - 1))), (42, S2 n2), (43, I6 v14), (44, I6 (W6 (v14 - 1))), (45, .pe 2000000 2 (0 + Int.toNat (W6 (v14 - 1))) 0), O2 v13]) (by kernel_rfl) ?_
            obtain ⟨e25, he25, h⟩ := bind_some h
            refine WO.pureK 0 (match (List.map e_dpDep v13)[(0 + Int.toNat (W6 (v14 - 1)))]? with | some y => cut Try.prog 33 (y.cells.map AV.strip) 0 | none => none) (v := .agg [I6 e25.f_From, I6 e25.f_To]) (by kernel_rfl) ((pe_ld (f := e_dpDep) (G := (fun y => cut Try.prog 33 (y.cells.map AV.strip) 0)) he25).trans (by kernel_rfl)) (e1 := [(0, S2 n2), (1, I6 a3), (2, I6 a4), (3, .clo F_g5 C_g5), (8, I6 v8), (9, I6 v14), (37, S2 n2), (38, I6 v14), (39, S2 n2), (40, I6 v14), (41, I6 (W6 (v14 - 1))), (42, S2 n2), (43, I6 v14), (44, I6 (W6 (v14 - 1))), (45, .pe 2000000 2 (0 + Int.toNat (W6 (v14 - 1))) 0), (46, .agg [I6 e25.f_From, I6 e25.f_To]), O2 v13]) (by kernel_rfl) ?_
            obtain ⟨hc26, h⟩ := chk_some h
            refine WO.pureK 2 (if (0 : Int) ≤ v14 ∧ v14 < ((n2 : Nat) : Int) then some (.pe 2000000 2 (0 + Int.toNat v14) 0) else none) (v := .pe 2000000 2 (0 + Int.toNat v14) 0) (by kernel_rfl) (ite_some hc26) (e1 := [(0, S2 n2), (1, I6 a3), (2, I6 a4), (3, .clo F_g5 C_g5), (8, I6 v8), (9, I6 v14), (37, S2 n2), (38, I6 v14), (39, S2 n2), (40, I6 v14), (41, I6 (W6 (v14 - 1))), (42, S2 n2), (43, I6 v14), (44, I6 (W6 (v14 - 1))), (45, .pe 2000000 2 (0 + Int.toNat (W6 (v14 - 1))) 0), (46, .agg [I6 e25.f_From, I6 e25.f_To]), (47, S2 n2), (48, I6 v14), (49, .pe 2000000 2 (0 + Int.toNat v14) 0), O2 v13]) (by kernel_rfl) ?_
            obtain ⟨e27, he27, h⟩ := bind_some h
            refine WO.pureK 0 (match (List.map e_dpDep v13)[(0 + Int.toNat v14)]? with | some y => cut Try.prog 33 (y.cells.map AV.strip) 0 | none => none) (v := .agg [I6 e27.f_From, I6 e27.f_To]) (by kernel_rfl) ((pe_ld (f := e_dpDep) (G := (fun y => cut Try.prog 33 (y.cells.map AV.strip) 0)) he27).trans (by kernel_rfl)) (e1 := [(0, S2 n2), (1, I6 a3), (2, I6 a4), (3, .clo F_g5 C_g5), (8, I6 v8), (9, I6 v14), (37, S2 n2), (38, I6 v14), (39, S2 n2), (40, I6 v14), (41, I6 (W6 (v14 - 1))), (42, S2 n2), (43, I6 v14), (44, I6 (W6 (v14 - 1))), (45, .pe 2000000 2 (0 + Int.toNat (W6 (v14 - 1))) 0), (46, .agg [I6 e25.f_From, I6 e25.f_To]), (47, S2 n2), (48, I6 v14), (49, .pe 2000000 2 (0 + Int.toNat v14) 0), (50, .agg [I6 e27.f_From, I6 e27.f_To]), O2 v13]) (by kernel_rfl) ?_
            obtain ⟨hc28, h⟩ := chk_some h
            refine WO.pureK 0 (if (0 : Int) ≤ v14 ∧ v14 < ((n2 : Nat) : Int) then some (.pe 2000000 2 (0 + Int.toNat v14) 0) else none) (v := .pe 2000000 2 (0 + Int.toNat v14) 0) (by kernel_rfl) (ite_some hc28) (e1 := [(0, S2 n2), (1, I6 a3), (2, I6 a4), (3, .clo F_g5 C_g5), (8, I6 v8), (9, I6 v14), (37, S2 n2), (38, I6 v14), (39, S2 n2), (40, I6 v14), (41, I6 (W6 (v14 - 1))), (42, S2 n2), (43, I6 v14), (44, I6 (W6 (v14 - 1))), (45, .pe 2000000 2 (0 + Int.toNat (W6 (v14 - 1))) 0), (46, .agg [I6 e25.f_From, I6 e25.f_To]), (47, S2 n2), (48, I6 v14), (49, .pe 2000000 2 (0 + Int.toNat v14) 0), (50, .agg [I6 e27.f_From, I6 e27.f_To]), (51, .pe 2000000 2 (0 + Int.toNat v14) 0), O2 v13]) (by kernel_rfl) ?_
            obtain ⟨u29, hu29, h⟩ := bind_some h
            obtain ⟨y30, hyy30, hzy30⟩ := upd_some hu29
            refine WO.storeK 0 (id := 2000000) (e := 33) (s := 2) (j := (0 + Int.toNat v14)) (off := 0) (vs := [I6 e25.f_From, I6 e25.f_To]) (xs := (List.map e_dpDep v13)) (zs := (List.map e_dpDep u29)) (y := (e_dpDep) y30) (y' := (e_dpDep) e25) (by kernel_rfl) (upd_get hyy30) (by kernel_rfl) (upd_set hzy30) (e1 := [(0, S2 n2), (1, I6 a3), (2, I6 a4), (3, .clo F_g5 C_g5), (8, I6 v8), (9, I6 v14), (37, S2 n2), (38, I6 v14), (39, S2 n2), (40, I6 v14), (41, I6 (W6 (v14 - 1))), (42, S2 n2), (43, I6 v14), (44, I6 (W6 (v14 - 1))), (45, .pe 2000000 2 (0 + Int.toNat (W6 (v14 - 1))) 0), (46, .agg [I6 e25.f_From, I6 e25.f_To]), (47, S2 n2), (48, I6 v14), (49, .pe 2000000 2 (0 + Int.toNat v14) 0), (50, .agg [I6 e27.f_From, I6 e27.f_To]), (51, .pe 2000000 2 (0 + Int.toNat v14) 0), O2 u29]) (by kernel_rfl) ?_
            obtain ⟨hc31, h⟩ := chk_some h
            refine WO.pureK 0 (if (0 : Int) ≤ (W6 (v14 - 1)) ∧ (W6 (v14 - 1)) < ((n2 : Nat) : Int) then some (.pe 2000000 2 (0 + Int.toNat (W6 (v14 - 1))) 0) else none) (v := .pe 2000000 2 (0 + Int.toNat (W6 (v14 - 1))) 0) (by kernel_rfl) (ite_some hc31) (e1 := [(0, S2 n2), (1, I6 a3), (2, I6 a4), (3, .clo F_g5 C_g5), (8, I6 v8), (9, I6 v14), (37, S2 n2), (38, I6 v14), (39, S2 n2), (40, I6 v14), (41, I6 (W6 (v14 - 1))), (42, S2 n2), (43, I6 v14), (44, I6 (W6 (v14 - 1))), (45, .pe 2000000 2 (0 + Int.toNat (W6 (v14 - 1))) 0), (46, .agg [I6 e25.f_From, I6 e25.f_To]), (47, S2 n2), (48, I6 v14), (49, .pe 2000000 2 (0 + Int.toNat v14) 0), (50, .agg [I6 e27.f_From, I6 e27.f_To]), (51, .pe 2000000 2 (0 + Int.toNat v14) 0), (52, .pe 2000000 2 (0 + Int.toNat (W6 (v14 - 1))) 0), O2 u29]) (by kernel_rfl) ?_
            obtain ⟨u32, hu32, h⟩ := bind_some h
            obtain ⟨y33, hyy33, hzy33⟩ := upd_some hu32
            refine WO.storeK 0 (id := 2000000) (e := 33) (s := 2) (j := (0 + Int.toNat (W6 (v14 - 1)))) (off := 0) (vs := [I6 e27.f_From, I6 e27.f_To]) (xs := (List.map e_dpDep u29)) (zs := (List.map e_dpDep u32)) (y := (e_dpDep) y33) (y' := (e_dpDep) e27) (by kernel_rfl) (upd_get hyy33) (by kernel_rfl) (upd_set hzy33) (e1 := [(0, S2 n2), (1, I6 a3), (2, I6 a4), (3, .clo F_g5 C_g5), (8, I6 v8), (9, I6 v14), (37, S2 n2), (38, I6 v14), (39, S2 n2), (40, I6 v14), (41, I6 (W6 (v14 - 1))), (42, S2 n2), (43, I6 v14), (44, I6 (W6 (v14 - 1))), (45, .pe 2000000 2 (0 + Int.toNat (W6 (v14 - 1))) 0), (46, .agg [I6 e25.f_From, I6 e25.f_To]), (47, S2 n2), (48, I6 v14), (49, .pe 2000000 2 (0 + Int.toNat v14) 0), (50, .agg [I6 e27.f_From, I6 e27.f_To]), (51, .pe 2000000 2 (0 + Int.toNat v14) 0), (52, .pe 2000000 2 (0 + Int.toNat (W6 (v14 - 1))) 0), O2 u32]) (by kernel_rfl) ?_
            refine WO.fin [0, 1, 2, 3, 8, 9, 2000000] [] [] [] (e2 := [(0, S2 n2), (1, I6 a3), (2, I6 a4), (3, .clo F_g5 C_g5), (8, I6 v8), (9, I6 v14), O2 u32]) (by kernel_rfl) (fun _ h => h) ?_
            refine W.regT [0, 1, 2, 3, 8, 9, 2000000] [] [] [] (e2 := [(0, S2 n2), (1, I6 a3), (2, I6 a4), (3, .clo F_g5 C_g5), (8, I6 v8), (9, I6 (W6 (v14 - 1))), O2 u32]) (by kernel_rfl) (by kernel_rfl) (fun _ h => h) ?_
            exact hN2 (u32, (W6 (v14 - 1))) h
          replace h := cond_f hb h
          refine W.exit ?_
          refine W.weak [0, 1, 2, 3, 8, 2000000] [] [] [] (env' := [(0, S2 n2), (1, I6 a3), (2, I6 a4), (3, .clo F_g5 C_g5), (8, I6 v8), O2 v13]) (by kernel_rfl) ?_
          exact hK11 v13 h
        refine W.region (by kernel_rfl) ?_
        refine WO.boolK 4 (fun b => [(0, S2 n2), (1, I6 a3), (2, I6 a4), (3, .clo F_g5 C_g5), (8, I6 v8), (9, I6 v14), (18, I6 v14), (19, I6 a3), (20, .bool b), (21, .bool b), O2 v13]) (decide (v14 > a3)) (by kernel_rfl) (fun hb => ?_) (fun hb => ?_)
        · replace h := cond_t hb h
          obtain ⟨hc17, h⟩ := chk_some h
          refine WO.pureK 3 (if (0 : Int) ≤ v14 ∧ v14 < ((n2 : Nat) : Int) then some (.pe 2000000 2 (0 + Int.toNat v14) 0) else none) (v := .pe 2000000 2 (0 + Int.toNat v14) 0) (by kernel_rfl) (ite_some hc17) (e1 := [(0, S2 n2), (1, I6 a3), (2, I6 a4), (3, .clo F_g5 C_g5), (8, I6 v8), (9, I6 v14), (18, I6 v14), (19, I6 a3), (20, .bool true), (21, .bool true), (22, .clo F_g5 C_g5), (23, S2 n2), (24, I6 v14), (25, .pe 2000000 2 (0 + Int.toNat v14) 0), O2 v13]) (by kernel_rfl) ?_
          obtain ⟨e18, he18, h⟩ := bind_some h
          refine WO.pureK 0 (match (List.map e_dpDep v13)[(0 + Int.toNat v14)]? with | some y => cut Try.prog 33 (y.cells.map AV.strip) 0 | none => none) (v := .agg [I6 e18.f_From, I6 e18.f_To]) (by kernel_rfl) ((pe_ld (f := e_dpDep) (G := (fun y => cut Try.prog 33 (y.cells.map AV.strip) 0)) he18).trans (by kernel_rfl)) (e1 := [(0, S2 n2), (1, I6 a3), (2, I6 a4), (3, .clo F_g5 C_g5), (8, I6 v8), (9, I6 v14), (18, I6 v14), (19, I6 a3), (20, .bool true), (21, .bool true), (22, .clo F_g5 C_g5), (23, S2 n2), (24, I6 v14), (25, .pe 2000000 2 (0 + Int.toNat v14) 0), (26, .agg [I6 e18.f_From, I6 e18.f_To]), O2 v13]) (by kernel_rfl) ?_
          obtain ⟨hc19, h⟩ := chk_some h
          refine WO.pureK 3 (if (0 : Int) ≤ (W6 (v14 - 1)) ∧ (W6 (v14 - 1)) < ((n2 : Nat) : Int) then some (.pe 2000000 2 (0 + Int.toNat (W6 (v14 - 1))) 0) else none) (v := .pe 2000000 2 (0 + Int.toNat (W6 (v14 - 1))) 0) (by kernel_rfl) (ite_some hc19) (e1 := [(0, S2 n2), (1, I6 a3), (2, I6 a4), (3, .clo F_g5 C_g5), (8, I6 v8), (9, I6 v14), (18, I6 v14), (19, I6 a3), (20, .bool true), (21, .bool true), (22, .clo F_g5 C_g5), (23, S2 n2), (24, I6 v14), (25, .pe 2000000 2 (0 + Int.toNat v14) 0), (26, .agg [I6 e18.f_From, I6 e18.f_To]), (27, S2 n2), (28, I6 v14), (29, I6 (W6 (v14 - 1))), (30, .pe 2000000 2 (0 + Int.toNat (W6 (v14 - 1))) 0), O2 v13]) (by kernel_rfl) ?_
          obtain ⟨e20, he20, h⟩ := bind_some h
          refine WO.pureK 0 (match (List.map e_dpDep v13)[(0 + Int.toNat (W6 (v14 - 1)))]? with | some y => cut Try.prog 33 (y.cells.map AV.strip) 0 | none => none) (v := .agg [I6 e20.f_From, I6 e20.f_To]) (by kernel_rfl) ((pe_ld (f := e_dpDep) (G := (fun y => cut Try.prog 33 (y.cells.map AV.strip) 0)) he20).trans (by kernel_rfl)) (e1 := [(0, S2 n2), (1, I6 a3), (2, I6 a4), (3, .clo F_g5 C_g5), (8, I6 v8), (9, I6 v14), (18, I6 v14), (19, I6 a3), (20, .bool true), (21, .bool true), (22, .clo F_g5 C_g5), (23, S2 n2), (24, I6 v14), (25, .pe 2000000 2 (0 + Int.toNat v14) 0), (26, .agg [I6 e18.f_From, I6 e18.f_To]), (27, S2 n2), (28, I6 v14), (29, I6 (W6 (v14 - 1))), (30, .pe 2000000 2 (0 + Int.toNat (W6 (v14 - 1))) 0), (31, .agg [I6 e20.f_From, I6 e20.f_To]), O2 v13]) (by kernel_rfl) ?_
          obtain ⟨w21, hw21, h⟩ := bind_some h
          refine WO.callK 0 (F := F_g5) (l := [.agg [I6 e18.f_From, I6 e18.f_To], .agg [I6 e20.f_From, I6 e20.f_To]]) (C := C_g5) (r := I6 w21) (by kernel_rfl) hok_g5 (hrun_g5 e18 e20 w21 hw21) (e1 := [(0, S2 n2), (1, I6 a3), (2, I6 a4), (3, .clo F_g5 C_g5), (8, I6 v8), (9, I6 v14), (18, I6 v14), (19, I6 a3), (20, .bool true), (21, .bool true), (22, .clo F_g5 C_g5), (23, S2 n2), (24, I6 v14), (25, .pe 2000000 2 (0 + Int.toNat v14) 0), (26, .agg [I6 e18.f_From, I6 e18.f_To]), (27, S2 n2), (28, I6 v14), (29, I6 (W6 (v14 - 1))), (30, .pe 2000000 2 (0 + Int.toNat (W6 (v14 - 1))) 0), (31, .agg [I6 e20.f_From, I6 e20.f_To]), (32, I6 w21), O2 v13]) (by kernel_rfl) ?_
          refine WO.fin [0, 1, 2, 3, 8, 9, 34, 2000000] [] [] [] (e2 := [(0, S2 n2), (1, I6 a3), (2, I6 a4), (3, .clo F_g5 C_g5), (8, I6 v8), (9, I6 v14), (34, .bool (decide (w21 < 0))), O2 v13]) (by kernel_rfl) (fun _ h => h) ?_
          exact hK16 (decide (w21 < 0)) h
        replace h := cond_f hb h
        refine WO.fin [0, 1, 2, 3, 8, 9, 34, 2000000] [] [] [] (e2 := [(0, S2 n2), (1, I6 a3), (2, I6 a4), (3, .clo F_g5 C_g5), (8, I6 v8), (9, I6 v14), (34, .bool false), O2 v13]) (by kernel_rfl) (fun _ h => h) ?_
        exact hK16 false h
    replace h := cond_f hb h
    have hr : PostM Try.prog Try.f103 (.tup []) [O2 v7] .normal [(0, S2 n2), (1, I6 a3), (2, I6 a4), (3, .clo F_g5 C_g5), (8, I6 v8), (14, .bool (decide (v8 < a4))), O2 v7] := ⟨by kernel_rfl, by kernel_rfl⟩
    cases h
    exact W.exit hr

end Go.AM
