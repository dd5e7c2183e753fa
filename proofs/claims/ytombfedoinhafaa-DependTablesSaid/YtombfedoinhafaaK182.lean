/- PRINTED by gen.py: pure functions and the proofs that the code computes them. No statement of the seat is proved here. -/
import Derived.Test.YtombfedoinhafaaK181
set_option maxRecDepth 100000
set_option linter.unusedVariables false
set_option linter.unusedSimpArgs false
namespace Go.AM
open Go.Proofs
def sl_rotateCmpFunc_int_j9 (fuel : Nat) (n2 : Nat) (a4 : Int) (g6 : (Int → Int → Option Int)) (v20 : (List Int)) (v21 : Int) : Option (List Int) :=
  ((sl_swapRangeCmpFunc_int fuel v20 n2 (IntKind.wrap .i64 (a4 - v21)) a4 v21 g6).bind fun w22 => (some w22))
def sl_rotateCmpFunc_int_l1 (fuel : Nat) (n2 : Nat) (a4 : Int) (g6 : (Int → Int → Option Int)) (K9 : ((List Int) → Int → Option (List Int))) : Nat → (List Int) → Int → Int → Option (List Int)
  | 0, _, _, _ => none
  | m1 + 1, v10, v11, v12 => (bif (v11 != v12) then (bif (decide (v11 > v12)) then ((sl_swapRangeCmpFunc_int fuel v10 n2 (IntKind.wrap .i64 (a4 - v11)) a4 v12 g6).bind fun w17 => ((sl_rotateCmpFunc_int_l1 fuel n2 a4 g6 K9 m1) w17 (IntKind.wrap .i64 (v11 - v12)) v12)) else ((sl_swapRangeCmpFunc_int fuel v10 n2 (IntKind.wrap .i64 (a4 - v11)) (IntKind.wrap .i64 ((IntKind.wrap .i64 (a4 + v12)) - v11)) v11 g6).bind fun w19 => ((sl_rotateCmpFunc_int_l1 fuel n2 a4 g6 K9 m1) w19 v11 (IntKind.wrap .i64 (v12 - v11))))) else (K9 v10 v11))
def sl_rotateCmpFunc_int (fuel : Nat) (a1 : (List Int)) (n2 : Nat) (a3 : Int) (a4 : Int) (a5 : Int) (g6 : (Int → Int → Option Int)) : Option (List Int) :=
  (sl_rotateCmpFunc_int_l1 fuel n2 a4 g6 (sl_rotateCmpFunc_int_j9 fuel n2 a4 g6) fuel a1 (IntKind.wrap .i64 (a4 - a3)) (IntKind.wrap .i64 (a5 - a4)))
theorem run_sl_rotateCmpFunc_int (fuel : Nat) (a1 : (List Int)) (n2 : Nat) (a3 : Int) (a4 : Int) (a5 : Int) (g6 : (Int → Int → Option Int)) (F_g6 : Nat) (C_g6 : List AV) (hok_g6 : okFn Try.prog F_g6 = true) (hrun_g6 : ∀ (x0 : Int) (x1 : Int) r, g6 x0 x1 = some r → Run Try.prog (.call F_g6 ([I6 x0, I6 x1] ++ C_g6) (I6 r))) (r : (List Int)) (h : sl_rotateCmpFunc_int fuel a1 n2 a3 a4 a5 g6 = some r) : Run Try.prog (.callM 113 [S1 n2, I6 a3, I6 a4, I6 a5, .clo F_g6 C_g6] [O1 a1] (.tup []) [O1 r]) := by
  refine callM_of_W Try.func113 rfl (by kernel_rfl) (env0 := [(0, S1 n2), (1, I6 a3), (2, I6 a4), (3, I6 a5), (4, .clo F_g6 C_g6), O1 a1]) (by kernel_rfl) ?_
  unfold sl_rotateCmpFunc_int at h
  refine W.seq ?_
  refine W.regT [0, 2, 3, 4, 10, 2000000] [] [] [] (e2 := [(0, S1 n2), (2, I6 a4), (3, I6 a5), (4, .clo F_g6 C_g6), (10, I6 (W6 (a4 - a3))), O1 a1]) (by kernel_rfl) (by kernel_rfl) (fun _ h => h) ?_
  refine W.seq ?_
  refine W.regT [0, 2, 4, 10, 11, 2000000] [] [] [] (e2 := [(0, S1 n2), (2, I6 a4), (4, .clo F_g6 C_g6), (10, I6 (W6 (a4 - a3))), (11, I6 (W6 (a5 - a4))), O1 a1]) (by kernel_rfl) (by kernel_rfl) (fun _ h => h) ?_
  refine W.seq ?_
  refine W.join (σ := ((List Int) × Int)) (fun s => [(0, S1 n2), (2, I6 a4), (4, .clo F_g6 C_g6), (10, I6 s.2), (2000000, .obj 3 1 (List.map (AV.int .i64) s.1))]) (fun s => (sl_rotateCmpFunc_int_j9 fuel n2 a4 g6) s.1 s.2 = some r) (fun s h => ?_) (fun hK9 => ?_)
  · obtain ⟨v20, v21⟩ := s
    have h : (sl_rotateCmpFunc_int_j9 fuel n2 a4 g6) v20 v21 = some r := h
    unfold sl_rotateCmpFunc_int_j9 at h
    refine W.region (by kernel_rfl) ?_
    obtain ⟨w22, hw22, h⟩ := bind_some h
    refine WO.callMK 7 [(2000000, 2000000)] [] (F := 119) (args := [S1 n2, I6 (W6 (a4 - v21)), I6 a4, I6 v21, .clo F_g6 C_g6]) (hp := [O1 v20]) (hp2 := [O1 w22]) (r := .tup []) (by kernel_rfl) (run_sl_swapRangeCmpFunc_int fuel v20 n2 (W6 (a4 - v21)) a4 v21 g6 F_g6 C_g6 hok_g6 hrun_g6 w22 hw22) (e1 := [(0, S1 n2), (2, I6 a4), (4, .clo F_g6 C_g6), (10, I6 v21), (50, S1 n2), (51, I6 a4), (52, I6 v21), (53, I6 (W6 (a4 - v21))), (54, I6 a4), (55, I6 v21), (56, .clo F_g6 C_g6), (57, .tup []), O1 w22]) (by kernel_rfl) ?_
    refine WO.end0 (e2 := [(0, S1 n2), (2, I6 a4), (4, .clo F_g6 C_g6), (10, I6 v21), (50, S1 n2), (51, I6 a4), (52, I6 v21), (53, I6 (W6 (a4 - v21))), (54, I6 a4), (55, I6 v21), (56, .clo F_g6 C_g6), (57, .tup []), O1 w22]) (by kernel_rfl) ?_
    have hr : PostM Try.prog Try.f113 (.tup []) [O1 w22] .normal [(0, S1 n2), (2, I6 a4), (4, .clo F_g6 C_g6), (10, I6 v21), (50, S1 n2), (51, I6 a4), (52, I6 v21), (53, I6 (W6 (a4 - v21))), (54, I6 a4), (55, I6 v21), (56, .clo F_g6 C_g6), (57, .tup []), O1 w22] := ⟨by kernel_rfl, by kernel_rfl⟩
    cases h
    exact hr
  refine W.block ?_
  refine W.weak [0, 2, 4, 10, 11, 2000000] [] [] [] (env' := [(0, S1 n2), (2, I6 a4), (4, .clo F_g6 C_g6), (10, I6 (W6 (a4 - a3))), (11, I6 (W6 (a5 - a4))), O1 a1]) (by kernel_rfl) ?_
  refine W.fuel (σ := ((List Int) × Int × Int)) (fun s => [(0, S1 n2), (2, I6 a4), (4, .clo F_g6 C_g6), (10, I6 s.2.1), (11, I6 s.2.2), (2000000, .obj 3 1 (List.map (AV.int .i64) s.1))]) (fun m0 s => sl_rotateCmpFunc_int_l1 fuel n2 a4 g6 (sl_rotateCmpFunc_int_j9 fuel n2 a4 g6) m0 s.1 s.2.1 s.2.2 = some r) (fun s h => ?_) (fun m1 s h hN1 => ?_) fuel (a1, (W6 (a4 - a3)), (W6 (a5 - a4))) h
  · obtain ⟨v10, v11, v12⟩ := s
    have h : sl_rotateCmpFunc_int_l1 fuel n2 a4 g6 (sl_rotateCmpFunc_int_j9 fuel n2 a4 g6) 0 v10 v11 v12 = some r := h
    rw [sl_rotateCmpFunc_int_l1.eq_1] at h
    cases h
  · obtain ⟨v10, v11, v12⟩ := s
    have h : sl_rotateCmpFunc_int_l1 fuel n2 a4 g6 (sl_rotateCmpFunc_int_j9 fuel n2 a4 g6) (m1 + 1) v10 v11 v12 = some r := h
    rw [sl_rotateCmpFunc_int_l1.eq_2] at h
    refine W.seq ?_
    refine W.seq ?_
    refine W.regT [0, 2, 4, 10, 11, 20, 2000000] [] [] [] (e2 := [(0, S1 n2), (2, I6 a4), (4, .clo F_g6 C_g6), (10, I6 v11), (11, I6 v12), (20, .bool (v11 != v12)), O1 v10]) (by kernel_rfl) (by kernel_rfl) (fun _ h => h) ?_
    refine W.condB (v11 != v12) (by kernel_rfl) (fun hb => ?_) (fun hb => ?_)
    · replace h := cond_t hb h
      refine W.skip ?_
      refine W.weak [0, 2, 4, 10, 11, 2000000] [] [] [] (env' := [(0, S1 n2), (2, I6 a4), (4, .clo F_g6 C_g6), (10, I6 v11), (11, I6 v12), O1 v10]) (by kernel_rfl) ?_
      refine W.block ?_
      refine W.seq ?_
      refine W.regT [0, 2, 4, 10, 11, 23, 2000000] [] [] [] (e2 := [(0, S1 n2), (2, I6 a4), (4, .clo F_g6 C_g6), (10, I6 v11), (11, I6 v12), (23, .bool (decide (v11 > v12))), O1 v10]) (by kernel_rfl) (by kernel_rfl) (fun _ h => h) ?_
      refine W.condB (decide (v11 > v12)) (by kernel_rfl) (fun hb => ?_) (fun hb => ?_)
      · replace h := cond_t hb h
        refine W.seq ?_
        refine W.region (by kernel_rfl) ?_
        obtain ⟨w17, hw17, h⟩ := bind_some h
        refine WO.callMK 7 [(2000000, 2000000)] [] (F := 119) (args := [S1 n2, I6 (W6 (a4 - v11)), I6 a4, I6 v12, .clo F_g6 C_g6]) (hp := [O1 v10]) (hp2 := [O1 w17]) (r := .tup []) (by kernel_rfl) (run_sl_swapRangeCmpFunc_int fuel v10 n2 (W6 (a4 - v11)) a4 v12 g6 F_g6 C_g6 hok_g6 hrun_g6 w17 hw17) (e1 := [(0, S1 n2), (2, I6 a4), (4, .clo F_g6 C_g6), (10, I6 v11), (11, I6 v12), (23, .bool (decide (v11 > v12))), (24, S1 n2), (25, I6 a4), (26, I6 v11), (27, I6 (W6 (a4 - v11))), (28, I6 a4), (29, I6 v12), (30, .clo F_g6 C_g6), (31, .tup []), O1 w17]) (by kernel_rfl) ?_
        refine WO.fin [0, 2, 4, 10, 11, 2000000] [] [] [] (e2 := [(0, S1 n2), (2, I6 a4), (4, .clo F_g6 C_g6), (10, I6 v11), (11, I6 v12), O1 w17]) (by kernel_rfl) (fun _ h => h) ?_
        refine W.regT [0, 2, 4, 10, 11, 2000000] [] [] [] (e2 := [(0, S1 n2), (2, I6 a4), (4, .clo F_g6 C_g6), (10, I6 (W6 (v11 - v12))), (11, I6 v12), O1 w17]) (by kernel_rfl) (by kernel_rfl) (fun _ h => h) ?_
        exact hN1 (w17, (W6 (v11 - v12)), v12) h
      replace h := cond_f hb h
      refine W.seq ?_
      refine W.region (by kernel_rfl) ?_
      obtain ⟨w19, hw19, h⟩ := bind_some h
      refine WO.callMK 11 [(2000000, 2000000)] [] (F := 119) (args := [S1 n2, I6 (W6 (a4 - v11)), I6 (W6 ((W6 (a4 + v12)) - v11)), I6 v11, .clo F_g6 C_g6]) (hp := [O1 v10]) (hp2 := [O1 w19]) (r := .tup []) (by kernel_rfl) (run_sl_swapRangeCmpFunc_int fuel v10 n2 (W6 (a4 - v11)) (W6 ((W6 (a4 + v12)) - v11)) v11 g6 F_g6 C_g6 hok_g6 hrun_g6 w19 hw19) (e1 := [(0, S1 n2), (2, I6 a4), (4, .clo F_g6 C_g6), (10, I6 v11), (11, I6 v12), (23, .bool (decide (v11 > v12))), (35, S1 n2), (36, I6 a4), (37, I6 v11), (38, I6 (W6 (a4 - v11))), (39, I6 a4), (40, I6 v12), (41, I6 (W6 (a4 + v12))), (42, I6 v11), (43, I6 (W6 ((W6 (a4 + v12)) - v11))), (44, I6 v11), (45, .clo F_g6 C_g6), (46, .tup []), O1 w19]) (by kernel_rfl) ?_
      refine WO.fin [0, 2, 4, 10, 11, 2000000] [] [] [] (e2 := [(0, S1 n2), (2, I6 a4), (4, .clo F_g6 C_g6), (10, I6 v11), (11, I6 v12), O1 w19]) (by kernel_rfl) (fun _ h => h) ?_
      refine W.regT [0, 2, 4, 10, 11, 2000000] [] [] [] (e2 := [(0, S1 n2), (2, I6 a4), (4, .clo F_g6 C_g6), (10, I6 v11), (11, I6 (W6 (v12 - v11))), O1 w19]) (by kernel_rfl) (by kernel_rfl) (fun _ h => h) ?_
      exact hN1 (w19, v11, (W6 (v12 - v11))) h
    replace h := cond_f hb h
    refine W.exit ?_
    refine W.weak [0, 2, 4, 10, 2000000] [] [] [] (env' := [(0, S1 n2), (2, I6 a4), (4, .clo F_g6 C_g6), (10, I6 v11), O1 v10]) (by kernel_rfl) ?_
    exact hK9 (v10, v11) h
def sl_symMergeCmpFunc_int_j24 (v41 : (List Int)) : Option (List Int) :=
  (some v41)
def sl_symMergeCmpFunc_int_l2 (n2 : Nat) (v23 : Int) (K24 : ((List Int) → Option (List Int))) : Nat → (List Int) → Int → Option (List Int)
  | 0, _, _ => none
  | m2 + 1, v26, v27 => (bif (decide (v27 < (IntKind.wrap .i64 (v23 - 1)))) then (chk (decide ((0 : Int) ≤ (IntKind.wrap .i64 (v27 + 1)) ∧ (IntKind.wrap .i64 (v27 + 1)) < ((n2 : Nat) : Int))) ((v26[(0 + Int.toNat (IntKind.wrap .i64 (v27 + 1)))]?).bind fun e32 => (chk (decide ((0 : Int) ≤ v27 ∧ v27 < ((n2 : Nat) : Int))) ((v26[(0 + Int.toNat v27)]?).bind fun e34 => (chk (decide ((0 : Int) ≤ v27 ∧ v27 < ((n2 : Nat) : Int))) ((upd v26 (0 + Int.toNat v27) e32).bind fun u36 => (chk (decide ((0 : Int) ≤ (IntKind.wrap .i64 (v27 + 1)) ∧ (IntKind.wrap .i64 (v27 + 1)) < ((n2 : Nat) : Int))) ((upd u36 (0 + Int.toNat (IntKind.wrap .i64 (v27 + 1))) e34).bind fun u39 => ((sl_symMergeCmpFunc_int_l2 n2 v23 K24 m2) u39 (IntKind.wrap .i64 (v27 + 1))))))))))) else (K24 v26))
def sl_symMergeCmpFunc_int_j11 (fuel : Nat) (a1 : (List Int)) (n2 : Nat) (a3 : Int) (v23 : Int) : Option (List Int) :=
  (sl_symMergeCmpFunc_int_l2 n2 v23 (sl_symMergeCmpFunc_int_j24) fuel a1 a3)
def sl_symMergeCmpFunc_int_j59 (v76 : (List Int)) : Option (List Int) :=
  (some v76)
def sl_symMergeCmpFunc_int_l4 (n2 : Nat) (v58 : Int) (K59 : ((List Int) → Option (List Int))) : Nat → (List Int) → Int → Option (List Int)
  | 0, _, _ => none
  | m4 + 1, v61, v62 => (bif (decide (v62 > v58)) then (chk (decide ((0 : Int) ≤ (IntKind.wrap .i64 (v62 - 1)) ∧ (IntKind.wrap .i64 (v62 - 1)) < ((n2 : Nat) : Int))) ((v61[(0 + Int.toNat (IntKind.wrap .i64 (v62 - 1)))]?).bind fun e67 => (chk (decide ((0 : Int) ≤ v62 ∧ v62 < ((n2 : Nat) : Int))) ((v61[(0 + Int.toNat v62)]?).bind fun e69 => (chk (decide ((0 : Int) ≤ v62 ∧ v62 < ((n2 : Nat) : Int))) ((upd v61 (0 + Int.toNat v62) e67).bind fun u71 => (chk (decide ((0 : Int) ≤ (IntKind.wrap .i64 (v62 - 1)) ∧ (IntKind.wrap .i64 (v62 - 1)) < ((n2 : Nat) : Int))) ((upd u71 (0 + Int.toNat (IntKind.wrap .i64 (v62 - 1))) e69).bind fun u74 => ((sl_symMergeCmpFunc_int_l4 n2 v58 K59 m4) u74 (IntKind.wrap .i64 (v62 - 1))))))))))) else (K59 v61))
def sl_symMergeCmpFunc_int_j46 (fuel : Nat) (a1 : (List Int)) (n2 : Nat) (a4 : Int) (v58 : Int) : Option (List Int) :=
  (sl_symMergeCmpFunc_int_l4 n2 v58 (sl_symMergeCmpFunc_int_j59) fuel a1 a4)
def sl_symMergeCmpFunc_int_j111 (n2 : Nat) (a3 : Int) (a4 : Int) (a5 : Int) (g6 : (Int → Int → Option Int)) (v99 : Int) (v110 : (List Int)) (K0 : ((List Int) → Nat → Int → Int → Int → (Int → Int → Option Int) → Option (List Int))) (v112 : Bool) : Option (List Int) :=
  (bif v112 then ((K0 v110 n2 (IntKind.wrap .i64 (iShr .u64 (IntKind.wrap .u64 (IntKind.wrap .i64 (a3 + a5))) 1)) (IntKind.wrap .i64 ((IntKind.wrap .i64 ((IntKind.wrap .i64 (iShr .u64 (IntKind.wrap .u64 (IntKind.wrap .i64 (a3 + a5))) 1)) + a4)) - v99)) a5 g6).bind fun w113 => (some w113)) else (some v110))
def sl_symMergeCmpFunc_int_j106 (n2 : Nat) (a3 : Int) (a4 : Int) (a5 : Int) (g6 : (Int → Int → Option Int)) (v99 : Int) (K0 : ((List Int) → Nat → Int → Int → Int → (Int → Int → Option Int) → Option (List Int))) (v110 : (List Int)) : Option (List Int) :=
  (bif (decide ((IntKind.wrap .i64 (iShr .u64 (IntKind.wrap .u64 (IntKind.wrap .i64 (a3 + a5))) 1)) < (IntKind.wrap .i64 ((IntKind.wrap .i64 ((IntKind.wrap .i64 (iShr .u64 (IntKind.wrap .u64 (IntKind.wrap .i64 (a3 + a5))) 1)) + a4)) - v99)))) then ((sl_symMergeCmpFunc_int_j111 n2 a3 a4 a5 g6 v99 v110 K0) (decide ((IntKind.wrap .i64 ((IntKind.wrap .i64 ((IntKind.wrap .i64 (iShr .u64 (IntKind.wrap .u64 (IntKind.wrap .i64 (a3 + a5))) 1)) + a4)) - v99)) < a5))) else ((sl_symMergeCmpFunc_int_j111 n2 a3 a4 a5 g6 v99 v110 K0) false))
def sl_symMergeCmpFunc_int_j107 (n2 : Nat) (a3 : Int) (a5 : Int) (g6 : (Int → Int → Option Int)) (v99 : Int) (v105 : (List Int)) (K0 : ((List Int) → Nat → Int → Int → Int → (Int → Int → Option Int) → Option (List Int))) (K106 : ((List Int) → Option (List Int))) (v108 : Bool) : Option (List Int) :=
  (bif v108 then ((K0 v105 n2 a3 v99 (IntKind.wrap .i64 (iShr .u64 (IntKind.wrap .u64 (IntKind.wrap .i64 (a3 + a5))) 1)) g6).bind fun w109 => (K106 w109)) else (K106 v105))
def sl_symMergeCmpFunc_int_j101 (n2 : Nat) (a3 : Int) (a4 : Int) (a5 : Int) (g6 : (Int → Int → Option Int)) (v99 : Int) (K0 : ((List Int) → Nat → Int → Int → Int → (Int → Int → Option Int) → Option (List Int))) (v105 : (List Int)) : Option (List Int) :=
  (bif (decide (a3 < v99)) then ((sl_symMergeCmpFunc_int_j107 n2 a3 a5 g6 v99 v105 K0 (sl_symMergeCmpFunc_int_j106 n2 a3 a4 a5 g6 v99 K0)) (decide (v99 < (IntKind.wrap .i64 (iShr .u64 (IntKind.wrap .u64 (IntKind.wrap .i64 (a3 + a5))) 1))))) else ((sl_symMergeCmpFunc_int_j107 n2 a3 a5 g6 v99 v105 K0 (sl_symMergeCmpFunc_int_j106 n2 a3 a4 a5 g6 v99 K0)) false))
def sl_symMergeCmpFunc_int_j102 (fuel : Nat) (a1 : (List Int)) (n2 : Nat) (a3 : Int) (a4 : Int) (a5 : Int) (g6 : (Int → Int → Option Int)) (v99 : Int) (K101 : ((List Int) → Option (List Int))) (v103 : Bool) : Option (List Int) :=
  (bif v103 then ((sl_rotateCmpFunc_int fuel a1 n2 v99 a4 (IntKind.wrap .i64 ((IntKind.wrap .i64 ((IntKind.wrap .i64 (iShr .u64 (IntKind.wrap .u64 (IntKind.wrap .i64 (a3 + a5))) 1)) + a4)) - v99)) g6).bind fun w104 => (K101 w104)) else (K101 a1))
def sl_symMergeCmpFunc_int_j87 (fuel : Nat) (a1 : (List Int)) (n2 : Nat) (a3 : Int) (a4 : Int) (a5 : Int) (g6 : (Int → Int → Option Int)) (K0 : ((List Int) → Nat → Int → Int → Int → (Int → Int → Option Int) → Option (List Int))) (v99 : Int) : Option (List Int) :=
  (bif (decide (v99 < a4)) then ((sl_symMergeCmpFunc_int_j102 fuel a1 n2 a3 a4 a5 g6 v99 (sl_symMergeCmpFunc_int_j101 n2 a3 a4 a5 g6 v99 K0)) (decide (a4 < (IntKind.wrap .i64 ((IntKind.wrap .i64 ((IntKind.wrap .i64 (iShr .u64 (IntKind.wrap .u64 (IntKind.wrap .i64 (a3 + a5))) 1)) + a4)) - v99))))) else ((sl_symMergeCmpFunc_int_j102 fuel a1 n2 a3 a4 a5 g6 v99 (sl_symMergeCmpFunc_int_j101 n2 a3 a4 a5 g6 v99 K0)) false))
def sl_symMergeCmpFunc_int_l5 (a1 : (List Int)) (n2 : Nat) (a3 : Int) (a4 : Int) (a5 : Int) (g6 : (Int → Int → Option Int)) (K87 : (Int → Option (List Int))) : Nat → Int → Int → Option (List Int)
  | 0, _, _ => none
  | m5 + 1, v88, v89 => (bif (decide (v88 < v89)) then (chk (decide ((0 : Int) ≤ (IntKind.wrap .i64 ((IntKind.wrap .i64 ((IntKind.wrap .i64 ((IntKind.wrap .i64 (iShr .u64 (IntKind.wrap .u64 (IntKind.wrap .i64 (a3 + a5))) 1)) + a4)) - 1)) - (IntKind.wrap .i64 (iShr .u64 (IntKind.wrap .u64 (IntKind.wrap .i64 (v88 + v89))) 1)))) ∧ (IntKind.wrap .i64 ((IntKind.wrap .i64 ((IntKind.wrap .i64 ((IntKind.wrap .i64 (iShr .u64 (IntKind.wrap .u64 (IntKind.wrap .i64 (a3 + a5))) 1)) + a4)) - 1)) - (IntKind.wrap .i64 (iShr .u64 (IntKind.wrap .u64 (IntKind.wrap .i64 (v88 + v89))) 1)))) < ((n2 : Nat) : Int))) ((a1[(0 + Int.toNat (IntKind.wrap .i64 ((IntKind.wrap .i64 ((IntKind.wrap .i64 ((IntKind.wrap .i64 (iShr .u64 (IntKind.wrap .u64 (IntKind.wrap .i64 (a3 + a5))) 1)) + a4)) - 1)) - (IntKind.wrap .i64 (iShr .u64 (IntKind.wrap .u64 (IntKind.wrap .i64 (v88 + v89))) 1)))))]?).bind fun e95 => (chk (decide ((0 : Int) ≤ (IntKind.wrap .i64 (iShr .u64 (IntKind.wrap .u64 (IntKind.wrap .i64 (v88 + v89))) 1)) ∧ (IntKind.wrap .i64 (iShr .u64 (IntKind.wrap .u64 (IntKind.wrap .i64 (v88 + v89))) 1)) < ((n2 : Nat) : Int))) ((a1[(0 + Int.toNat (IntKind.wrap .i64 (iShr .u64 (IntKind.wrap .u64 (IntKind.wrap .i64 (v88 + v89))) 1)))]?).bind fun e97 => ((g6 e95 e97).bind fun w98 => (bif (!(decide (w98 < 0))) then ((sl_symMergeCmpFunc_int_l5 a1 n2 a3 a4 a5 g6 K87 m5) (IntKind.wrap .i64 ((IntKind.wrap .i64 (iShr .u64 (IntKind.wrap .u64 (IntKind.wrap .i64 (v88 + v89))) 1)) + 1)) v89) else ((sl_symMergeCmpFunc_int_l5 a1 n2 a3 a4 a5 g6 K87 m5) v88 (IntKind.wrap .i64 (iShr .u64 (IntKind.wrap .u64 (IntKind.wrap .i64 (v88 + v89))) 1))))))))) else (K87 v88))
def sl_symMergeCmpFunc_int_j80 (fuel : Nat) (a1 : (List Int)) (n2 : Nat) (a3 : Int) (a4 : Int) (a5 : Int) (g6 : (Int → Int → Option Int)) (K0 : ((List Int) → Nat → Int → Int → Int → (Int → Int → Option Int) → Option (List Int))) (v84 : Int) (v85 : Int) : Option (List Int) :=
  (sl_symMergeCmpFunc_int_l5 a1 n2 a3 a4 a5 g6 (sl_symMergeCmpFunc_int_j87 fuel a1 n2 a3 a4 a5 g6 K0) fuel v84 v85)
def sl_symMergeCmpFunc_int_l1 (a1 : (List Int)) (n2 : Nat) (a3 : Int) (g6 : (Int → Int → Option Int)) (K11 : (Int → Option (List Int))) : Nat → Int → Int → Option (List Int)
  | 0, _, _ => none
  | m1 + 1, v12, v13 => (bif (decide (v12 < v13)) then (chk (decide ((0 : Int) ≤ (IntKind.wrap .i64 (iShr .u64 (IntKind.wrap .u64 (IntKind.wrap .i64 (v12 + v13))) 1)) ∧ (IntKind.wrap .i64 (iShr .u64 (IntKind.wrap .u64 (IntKind.wrap .i64 (v12 + v13))) 1)) < ((n2 : Nat) : Int))) ((a1[(0 + Int.toNat (IntKind.wrap .i64 (iShr .u64 (IntKind.wrap .u64 (IntKind.wrap .i64 (v12 + v13))) 1)))]?).bind fun e19 => (chk (decide ((0 : Int) ≤ a3 ∧ a3 < ((n2 : Nat) : Int))) ((a1[(0 + Int.toNat a3)]?).bind fun e21 => ((g6 e19 e21).bind fun w22 => (bif (decide (w22 < 0)) then ((sl_symMergeCmpFunc_int_l1 a1 n2 a3 g6 K11 m1) (IntKind.wrap .i64 ((IntKind.wrap .i64 (iShr .u64 (IntKind.wrap .u64 (IntKind.wrap .i64 (v12 + v13))) 1)) + 1)) v13) else ((sl_symMergeCmpFunc_int_l1 a1 n2 a3 g6 K11 m1) v12 (IntKind.wrap .i64 (iShr .u64 (IntKind.wrap .u64 (IntKind.wrap .i64 (v12 + v13))) 1))))))))) else (K11 v12))
def sl_symMergeCmpFunc_int_l3 (a1 : (List Int)) (n2 : Nat) (a4 : Int) (g6 : (Int → Int → Option Int)) (K46 : (Int → Option (List Int))) : Nat → Int → Int → Option (List Int)
  | 0, _, _ => none
  | m3 + 1, v47, v48 => (bif (decide (v47 < v48)) then (chk (decide ((0 : Int) ≤ a4 ∧ a4 < ((n2 : Nat) : Int))) ((a1[(0 + Int.toNat a4)]?).bind fun e54 => (chk (decide ((0 : Int) ≤ (IntKind.wrap .i64 (iShr .u64 (IntKind.wrap .u64 (IntKind.wrap .i64 (v47 + v48))) 1)) ∧ (IntKind.wrap .i64 (iShr .u64 (IntKind.wrap .u64 (IntKind.wrap .i64 (v47 + v48))) 1)) < ((n2 : Nat) : Int))) ((a1[(0 + Int.toNat (IntKind.wrap .i64 (iShr .u64 (IntKind.wrap .u64 (IntKind.wrap .i64 (v47 + v48))) 1)))]?).bind fun e56 => ((g6 e54 e56).bind fun w57 => (bif (!(decide (w57 < 0))) then ((sl_symMergeCmpFunc_int_l3 a1 n2 a4 g6 K46 m3) (IntKind.wrap .i64 ((IntKind.wrap .i64 (iShr .u64 (IntKind.wrap .u64 (IntKind.wrap .i64 (v47 + v48))) 1)) + 1)) v48) else ((sl_symMergeCmpFunc_int_l3 a1 n2 a4 g6 K46 m3) v47 (IntKind.wrap .i64 (iShr .u64 (IntKind.wrap .u64 (IntKind.wrap .i64 (v47 + v48))) 1))))))))) else (K46 v47))
def sl_symMergeCmpFunc_int : Nat → (List Int) → Nat → Int → Int → Int → (Int → Int → Option Int) → Option (List Int)
  | 0, _, _, _, _, _, _ => none
  | fuel + 1, a1, n2, a3, a4, a5, g6 => (bif ((IntKind.wrap .i64 (a4 - a3)) == 1) then (sl_symMergeCmpFunc_int_l1 a1 n2 a3 g6 (sl_symMergeCmpFunc_int_j11 fuel a1 n2 a3) fuel a4 a5) else (bif ((IntKind.wrap .i64 (a5 - a4)) == 1) then (sl_symMergeCmpFunc_int_l3 a1 n2 a4 g6 (sl_symMergeCmpFunc_int_j46 fuel a1 n2 a4) fuel a3 a4) else (bif (decide (a4 > (IntKind.wrap .i64 (iShr .u64 (IntKind.wrap .u64 (IntKind.wrap .i64 (a3 + a5))) 1)))) then ((sl_symMergeCmpFunc_int_j80 fuel a1 n2 a3 a4 a5 g6 (sl_symMergeCmpFunc_int fuel)) (IntKind.wrap .i64 ((IntKind.wrap .i64 ((IntKind.wrap .i64 (iShr .u64 (IntKind.wrap .u64 (IntKind.wrap .i64 (a3 + a5))) 1)) + a4)) - a5)) (IntKind.wrap .i64 (iShr .u64 (IntKind.wrap .u64 (IntKind.wrap .i64 (a3 + a5))) 1))) else ((sl_symMergeCmpFunc_int_j80 fuel a1 n2 a3 a4 a5 g6 (sl_symMergeCmpFunc_int fuel)) a3 a4))))
theorem run_sl_symMergeCmpFunc_int : ∀ (fuel : Nat) (a1 : (List Int)) (n2 : Nat) (a3 : Int) (a4 : Int) (a5 : Int) (g6 : (Int → Int → Option Int)) (F_g6 : Nat) (C_g6 : List AV) (hok_g6 : okFn Try.prog F_g6 = true) (hrun_g6 : ∀ (x0 : Int) (x1 : Int) r, g6 x0 x1 = some r → Run Try.prog (.call F_g6 ([I6 x0, I6 x1] ++ C_g6) (I6 r))) (r : (List Int)) (h : sl_symMergeCmpFunc_int fuel a1 n2 a3 a4 a5 g6 = some r), Run Try.prog (.callM 102 [S1 n2, I6 a3, I6 a4, I6 a5, .clo F_g6 C_g6] [O1 a1] (.tup []) [O1 r]) := by
  intro fuel
  induction fuel with
  | zero => intro a1 n2 a3 a4 a5 g6 F_g6 C_g6 hok_g6 hrun_g6 r h; cases h
  | succ fuel ih =>
    intro a1 n2 a3 a4 a5 g6 F_g6 C_g6 hok_g6 hrun_g6 r h
    refine callM_of_W Try.func102 rfl (by kernel_rfl) (env0 := [(0, S1 n2), (1, I6 a3), (2, I6 a4), (3, I6 a5), (4, .clo F_g6 C_g6), O1 a1]) (by kernel_rfl) ?_
    rw [sl_symMergeCmpFunc_int.eq_2] at h
    refine W.seq ?_
    refine W.seq ?_
    refine W.regT [0, 1, 2, 3, 4, 28, 2000000] [] [] [] (e2 := [(0, S1 n2), (1, I6 a3), (2, I6 a4), (3, I6 a5), (4, .clo F_g6 C_g6), (28, .bool ((W6 (a4 - a3)) == 1)), O1 a1]) (by kernel_rfl) (by kernel_rfl) (fun _ h => h) ?_
    refine W.condB ((W6 (a4 - a3)) == 1) (by kernel_rfl) (fun hb => ?_) (fun hb => ?_)
    · replace h := cond_t hb h
      refine W.seq ?_
      refine W.regT [0, 1, 3, 4, 10, 2000000] [] [] [] (e2 := [(0, S1 n2), (1, I6 a3), (3, I6 a5), (4, .clo F_g6 C_g6), (10, I6 a4), O1 a1]) (by kernel_rfl) (by kernel_rfl) (fun _ h => h) ?_
      refine W.seq ?_
      refine W.regT [0, 1, 4, 10, 11, 2000000] [] [] [] (e2 := [(0, S1 n2), (1, I6 a3), (4, .clo F_g6 C_g6), (10, I6 a4), (11, I6 a5), O1 a1]) (by kernel_rfl) (by kernel_rfl) (fun _ h => h) ?_
      refine W.seq ?_
      refine W.join (σ := (Int)) (fun s => [(0, S1 n2), (1, I6 a3), (10, I6 s), O1 a1]) (fun s => (sl_symMergeCmpFunc_int_j11 fuel a1 n2 a3) s = some r) (fun s h => ?_) (fun hK11 => ?_)
      · obtain ⟨v23, rfl⟩ : ∃ x, x = s := ⟨s, rfl⟩
        have h : (sl_symMergeCmpFunc_int_j11 fuel a1 n2 a3) v23 = some r := h
        unfold sl_symMergeCmpFunc_int_j11 at h
        refine W.seq ?_
        refine W.join (σ := ((List Int))) (fun s => [O1 s]) (fun s => (sl_symMergeCmpFunc_int_j24) s = some r) (fun s h => ?_) (fun hK24 => ?_)
        · obtain ⟨v41, rfl⟩ : ∃ x, x = s := ⟨s, rfl⟩
          have h : (sl_symMergeCmpFunc_int_j24) v41 = some r := h
          unfold sl_symMergeCmpFunc_int_j24 at h
          refine W.weak [2000000] [] [] [] (env' := [O1 v41]) (by kernel_rfl) ?_
          have hr : PostM Try.prog Try.f102 (.tup []) [O1 v41] .ret [O1 v41] := ⟨by kernel_rfl, by kernel_rfl⟩
          cases h
          exact W.ret hr
        refine W.seq ?_
        refine W.regT [0, 10, 13, 2000000] [] [] [] (e2 := [(0, S1 n2), (10, I6 v23), (13, I6 a3), O1 a1]) (by kernel_rfl) (by kernel_rfl) (fun _ h => h) ?_
        refine W.block ?_
        refine W.weak [0, 10, 13, 2000000] [] [] [] (env' := [(0, S1 n2), (10, I6 v23), (13, I6 a3), O1 a1]) (by kernel_rfl) ?_
        refine W.fuel (σ := ((List Int) × Int)) (fun s => [(0, S1 n2), (10, I6 v23), (13, I6 s.2), (2000000, .obj 3 1 (List.map (AV.int .i64) s.1))]) (fun m0 s => sl_symMergeCmpFunc_int_l2 n2 v23 (sl_symMergeCmpFunc_int_j24) m0 s.1 s.2 = some r) (fun s h => ?_) (fun m2 s h hN2 => ?_) fuel (a1, a3) h
        · obtain ⟨v26, v27⟩ := s
          have h : sl_symMergeCmpFunc_int_l2 n2 v23 (sl_symMergeCmpFunc_int_j24) 0 v26 v27 = some r := h
          rw [sl_symMergeCmpFunc_int_l2.eq_1] at h
          cases h
        · obtain ⟨v26, v27⟩ := s
          have h : sl_symMergeCmpFunc_int_l2 n2 v23 (sl_symMergeCmpFunc_int_j24) (m2 + 1) v26 v27 = some r := h
          rw [sl_symMergeCmpFunc_int_l2.eq_2] at h
          refine W.seq ?_
          refine W.seq ?_
          refine W.regT [0, 10, 13, 58, 2000000] [] [] [] (e2 := [(0, S1 n2), (10, I6 v23), (13, I6 v27), (58, .bool (decide (v27 < (W6 (v23 - 1))))), O1 v26]) (by kernel_rfl) (by kernel_rfl) (fun _ h => h) ?_
          refine W.condB (decide (v27 < (W6 (v23 - 1)))) (by kernel_rfl) (fun hb => ?_) (fun hb => ?_)
          · replace h := cond_t hb h
            refine W.skip ?_
            refine W.weak [0, 10, 13, 2000000] [] [] [] (env' := [(0, S1 n2), (10, I6 v23), (13, I6 v27), O1 v26]) (by kernel_rfl) ?_
            refine W.seq ?_
            refine W.block ?_
            refine W.region (by kernel_rfl) ?_
            obtain ⟨hc31, h⟩ := chk_some h
            refine WO.pureK 8 (if (0 : Int) ≤ (W6 (v27 + 1)) ∧ (W6 (v27 + 1)) < ((n2 : Nat) : Int) then some (.pe 2000000 1 (0 + Int.toNat (W6 (v27 + 1))) 0) else none) (v := .pe 2000000 1 (0 + Int.toNat (W6 (v27 + 1))) 0) (by kernel_rfl) (ite_some hc31) (e1 := [(0, S1 n2), (10, I6 v23), (13, I6 v27), (61, S1 n2), (62, I6 v27), (63, S1 n2), (64, I6 v27), (65, I6 (W6 (v27 + 1))), (66, S1 n2), (67, I6 v27), (68, I6 (W6 (v27 + 1))), (69, .pe 2000000 1 (0 + Int.toNat (W6 (v27 + 1))) 0), O1 v26]) (by kernel_rfl) ?_
            obtain ⟨e32, he32, h⟩ := bind_some h
            refine WO.pureK 0 (match (List.map (AV.int .i64) v26)[(0 + Int.toNat (W6 (v27 + 1)))]? with | some y => cut Try.prog 3 (y.cells.map AV.strip) 0 | none => none) (v := I6 e32) (by kernel_rfl) ((pe_ld (f := (AV.int .i64)) (G := (fun y => cut Try.prog 3 (y.cells.map AV.strip) 0)) he32).trans (by kernel_rfl)) (e1 := [(0, S1 n2), (10, I6 v23), (13, I6 v27), (61, S1 n2), (62, I6 v27), (63, S1 n2), (64, I6 v27), (65, I6 (W6 (v27 + 1))), (66, S1 n2), (67, I6 v27), (68, I6 (W6 (v27 + 1))), (69, .pe 2000000 1 (0 + Int.toNat (W6 (v27 + 1))) 0), (70, I6 e32), O1 v26]) (by kernel_rfl) ?_
            obtain ⟨hc33, h⟩ := chk_some h
            refine WO.pureK 2 (if (0 : Int) ≤ v27 ∧ v27 < ((n2 : Nat) : Int) then some (.pe 2000000 1 (0 + Int.toNat v27) 0) else none) (v := .pe 2000000 1 (0 + Int.toNat v27) 0) (by kernel_rfl) (ite_some hc33) (e1 := [(0, S1 n2), (10, I6 v23), (13, I6 v27), (61, S1 n2), (62, I6 v27), (63, S1 n2), (64, I6 v27), (65, I6 (W6 (v27 + 1))), (66, S1 n2), (67, I6 v27), (68, I6 (W6 (v27 + 1))), (69, .pe 2000000 1 (0 + Int.toNat (W6 (v27 + 1))) 0), (70, I6 e32), (71, S1 n2), (72, I6 v27), (73, .pe 2000000 1 (0 + Int.toNat v27) 0), O1 v26]) (by kernel_rfl) ?_
            obtain ⟨e34, he34, h⟩ := bind_some h
            refine WO.pureK 0 (match (List.map (AV.int .i64) v26)[(0 + Int.toNat v27)]? with | some y => cut Try.prog 3 (y.cells.map AV.strip) 0 | none => none) (v := I6 e34) (by kernel_rfl) ((pe_ld (f := (AV.int .i64)) (G := (fun y => cut Try.prog 3 (y.cells.map AV.strip) 0)) he34).trans (by kernel_rfl)) (e1 := [(0, S1 n2), (10, I6 v23), (13, I6 v27), (61, S1 n2), (62, I6 v27), (63, S1 n2), (64, I6 v27), (65, I6 (W6 (v27 + 1))), (66, S1 n2), (67, I6 v27), (68, I6 (W6 (v27 + 1))), (69, .pe 2000000 1 (0 + Int.toNat (W6 (v27 + 1))) 0), (70, I6 e32), (71, S1 n2), (72, I6 v27), (73, .pe 2000000 1 (0 + Int.toNat v27) 0), (74, I6 e34), O1 v26]) (by kernel_rfl) ?_
            obtain ⟨hc35, h⟩ := chk_some h
            refine WO.pureK 0 (if (0 : Int) ≤ v27 ∧ v27 < ((n2 : Nat) : Int) then some (.pe 2000000 1 (0 + Int.toNat v27) 0) else none) (v := .pe 2000000 1 (0 + Int.toNat v27) 0) (by kernel_rfl) (ite_some hc35) (e1 := [(0, S1 n2), (10, I6 v23), (13, I6 v27), (61, S1 n2), (62, I6 v27), (63, S1 n2), (64, I6 v27), (65, I6 (W6 (v27 + 1))), (66, S1 n2), (67, I6 v27), (68, I6 (W6 (v27 + 1))), (69, .pe 2000000 1 (0 + Int.toNat (W6 (v27 + 1))) 0), (70, I6 e32), (71, S1 n2), (72, I6 v27), (73, .pe 2000000 1 (0 + Int.toNat v27) 0), (74, I6 e34), (75, .pe 2000000 1 (0 + Int.toNat v27) 0), O1 v26]) (by kernel_rfl) ?_
            obtain ⟨u36, hu36, h⟩ := bind_some h
            obtain ⟨y37, hyy37, hzy37⟩ := upd_some hu36
            refine WO.storeK 0 (id := 2000000) (e := 3) (s := 1) (j := (0 + Int.toNat v27)) (off := 0) (vs := [I6 e32]) (xs := (List.map (AV.int .i64) v26)) (zs := (List.map (AV.int .i64) u36)) (y := ((AV.int .i64)) y37) (y' := ((AV.int .i64)) e32) (by kernel_rfl) (upd_get hyy37) (by kernel_rfl) (upd_set hzy37) (e1 := [(0, S1 n2), (10, I6 v23), (13, I6 v27), (61, S1 n2), (62, I6 v27), (63, S1 n2), (64, I6 v27), (65, I6 (W6 (v27 + 1))), (66, S1 n2), (67, I6 v27), (68, I6 (W6 (v27 + 1))), (69, .pe 2000000 1 (0 + Int.toNat (W6 (v27 + 1))) 0), (70, I6 e32), (71, S1 n2), (72, I6 v27), (73, .pe 2000000 1 (0 + Int.toNat v27) 0), (74, I6 e34), (75, .pe 2000000 1 (0 + Int.toNat v27) 0), O1 u36]) (by kernel_rfl) ?_
            obtain ⟨hc38, h⟩ := chk_some h
            refine WO.pureK 0 (if (0 : Int) ≤ (W6 (v27 + 1)) ∧ (W6 (v27 + 1)) < ((n2 : Nat) : Int) then some (.pe 2000000 1 (0 + Int.toNat (W6 (v27 + 1))) 0) else none) (v := .pe 2000000 1 (0 + Int.toNat (W6 (v27 + 1))) 0) (by kernel_rfl) (ite_some hc38) (e1 := [(0, S1 n2), (10, I6 v23), (13, I6 v27), (61, S1 n2), (62, I6 v27), (63, S1 n2), (64, I6 v27), (65, I6 (W6 (v27 + 1))), (66, S1 n2), (67, I6 v27), (68, I6 (W6 (v27 + 1))), (69, .pe 2000000 1 (0 + Int.toNat (W6 (v27 + 1))) 0), (70, I6 e32), (71, S1 n2), (72, I6 v27), (73, .pe 2000000 1 (0 + Int.toNat v27) 0), (74, I6 e34), (75, .pe 2000000 1 (0 + Int.toNat v27) 0), (76, .pe 2000000 1 (0 + Int.toNat (W6 (v27 + 1))) 0), O1 u36]) (by kernel_rfl) ?_
            obtain ⟨u39, hu39, h⟩ := bind_some h
            obtain ⟨y40, hyy40, hzy40⟩ := upd_some hu39
            refine WO.storeK 0 (id := 2000000) (e := 3) (s := 1) (j := (0 + Int.toNat (W6 (v27 + 1)))) (off := 0) (vs := [I6 e34]) (xs := (List.map (AV.int .i64) u36)) (zs := (List.map (AV.int .i64) u39)) (y := ((AV.int .i64)) y40) (y' := ((AV.int .i64)) e34) (by kernel_rfl) (upd_get hyy40) (by kernel_rfl) (upd_set hzy40) (e1 := [(0, S1 n2), (10, I6 v23), (13, I6 v27), (61, S1 n2), (62, I6 v27), (63, S1 n2), (64, I6 v27), (65, I6 (W6 (v27 + 1))), (66, S1 n2), (67, I6 v27), (68, I6 (W6 (v27 + 1))), (69, .pe 2000000 1 (0 + Int.toNat (W6 (v27 + 1))) 0), (70, I6 e32), (71, S1 n2), (72, I6 v27), (73, .pe 2000000 1 (0 + Int.toNat v27) 0), (74, I6 e34), (75, .pe 2000000 1 (0 + Int.toNat v27) 0), (76, .pe 2000000 1 (0 + Int.toNat (W6 (v27 + 1))) 0), O1 u39]) (by kernel_rfl) ?_
            refine WO.fin [0, 10, 13, 2000000] [] [] [] (e2 := [(0, S1 n2), (10, I6 v23), (13, I6 v27), O1 u39]) (by kernel_rfl) (fun _ h => h) ?_
            refine W.regT [0, 10, 13, 2000000] [] [] [] (e2 := [(0, S1 n2), (10, I6 v23), (13, I6 (W6 (v27 + 1))), O1 u39]) (by kernel_rfl) (by kernel_rfl) (fun _ h => h) ?_
            exact hN2 (u39, (W6 (v27 + 1))) h
          replace h := cond_f hb h
          refine W.exit ?_
          refine W.weak [2000000] [] [] [] (env' := [O1 v26]) (by kernel_rfl) ?_
          exact hK24 v26 h
      refine W.block ?_
      refine W.weak [0, 1, 4, 10, 11, 2000000] [] [] [] (env' := [(0, S1 n2), (1, I6 a3), (4, .clo F_g6 C_g6), (10, I6 a4), (11, I6 a5), O1 a1]) (by kernel_rfl) ?_
      refine W.fuel (σ := (Int × Int)) (fun s => [(0, S1 n2), (1, I6 a3), (4, .clo F_g6 C_g6), (10, I6 s.1), (11, I6 s.2), O1 a1]) (fun m0 s => sl_symMergeCmpFunc_int_l1 a1 n2 a3 g6 (sl_symMergeCmpFunc_int_j11 fuel a1 n2 a3) m0 s.1 s.2 = some r) (fun s h => ?_) (fun m1 s h hN1 => ?_) fuel (a4, a5) h
      · obtain ⟨v12, v13⟩ := s
        have h : sl_symMergeCmpFunc_int_l1 a1 n2 a3 g6 (sl_symMergeCmpFunc_int_j11 fuel a1 n2 a3) 0 v12 v13 = some r := h
        rw [sl_symMergeCmpFunc_int_l1.eq_1] at h
        cases h
      · obtain ⟨v12, v13⟩ := s
        have h : sl_symMergeCmpFunc_int_l1 a1 n2 a3 g6 (sl_symMergeCmpFunc_int_j11 fuel a1 n2 a3) (m1 + 1) v12 v13 = some r := h
        rw [sl_symMergeCmpFunc_int_l1.eq_2] at h
        refine W.seq ?_
        refine W.seq ?_
        refine W.regT [0, 1, 4, 10, 11, 33, 2000000] [] [] [] (e2 := [(0, S1 n2), (1, I6 a3), (4, .clo F_g6 C_g6), (10, I6 v12), (11, I6 v13), (33, .bool (decide (v12 < v13))), O1 a1]) (by kernel_rfl) (by kernel_rfl) (fun _ h => h) ?_
        refine W.condB (decide (v12 < v13)) (by kernel_rfl) (fun hb => ?_) (fun hb => ?_)
        · replace h := cond_t hb h
          refine W.skip ?_
          refine W.weak [0, 1, 4, 10, 11, 2000000] [] [] [] (env' := [(0, S1 n2), (1, I6 a3), (4, .clo F_g6 C_g6), (10, I6 v12), (11, I6 v13), O1 a1]) (by kernel_rfl) ?_
          refine W.block ?_
          refine W.seq ?_
          refine W.regT [0, 1, 4, 10, 11, 12, 2000000] [] [] [] (e2 := [(0, S1 n2), (1, I6 a3), (4, .clo F_g6 C_g6), (10, I6 v12), (11, I6 v13), (12, I6 (W6 (iShr .u64 (IntKind.wrap .u64 (W6 (v12 + v13))) 1))), O1 a1]) (by kernel_rfl) (by kernel_rfl) (fun _ h => h) ?_
          refine W.seq ?_
          refine W.region (by kernel_rfl) ?_
          obtain ⟨hc18, h⟩ := chk_some h
          refine WO.pureK 3 (if (0 : Int) ≤ (W6 (iShr .u64 (IntKind.wrap .u64 (W6 (v12 + v13))) 1)) ∧ (W6 (iShr .u64 (IntKind.wrap .u64 (W6 (v12 + v13))) 1)) < ((n2 : Nat) : Int) then some (.pe 2000000 1 (0 + Int.toNat (W6 (iShr .u64 (IntKind.wrap .u64 (W6 (v12 + v13))) 1))) 0) else none) (v := .pe 2000000 1 (0 + Int.toNat (W6 (iShr .u64 (IntKind.wrap .u64 (W6 (v12 + v13))) 1))) 0) (by kernel_rfl) (ite_some hc18) (e1 := [(0, S1 n2), (1, I6 a3), (4, .clo F_g6 C_g6), (10, I6 v12), (11, I6 v13), (12, I6 (W6 (iShr .u64 (IntKind.wrap .u64 (W6 (v12 + v13))) 1))), (40, .clo F_g6 C_g6), (41, S1 n2), (42, I6 (W6 (iShr .u64 (IntKind.wrap .u64 (W6 (v12 + v13))) 1))), (43, .pe 2000000 1 (0 + Int.toNat (W6 (iShr .u64 (IntKind.wrap .u64 (W6 (v12 + v13))) 1))) 0), O1 a1]) (by kernel_rfl) ?_
          obtain ⟨e19, he19, h⟩ := bind_some h
          refine WO.pureK 0 (match (List.map (AV.int .i64) a1)[(0 + Int.toNat (W6 (iShr .u64 (IntKind.wrap .u64 (W6 (v12 + v13))) 1)))]? with | some y => cut Try.prog 3 (y.cells.map AV.strip) 0 | none => none) (v := I6 e19) (by kernel_rfl) ((pe_ld (f := (AV.int .i64)) (G := (fun y => cut Try.prog 3 (y.cells.map AV.strip) 0)) he19).trans (by kernel_rfl)) (e1 := [(0, S1 n2), (1, I6 a3), (4, .clo F_g6 C_g6), (10, I6 v12), (11, I6 v13), (12, I6 (W6 (iShr .u64 (IntKind.wrap .u64 (W6 (v12 + v13))) 1))), (40, .clo F_g6 C_g6), (41, S1 n2), (42, I6 (W6 (iShr .u64 (IntKind.wrap .u64 (W6 (v12 + v13))) 1))), (43, .pe 2000000 1 (0 + Int.toNat (W6 (iShr .u64 (IntKind.wrap .u64 (W6 (v12 + v13))) 1))) 0), (44, I6 e19), O1 a1]) (by kernel_rfl) ?_
          obtain ⟨hc20, h⟩ := chk_some h
          refine WO.pureK 2 (if (0 : Int) ≤ a3 ∧ a3 < ((n2 : Nat) : Int) then some (.pe 2000000 1 (0 + Int.toNat a3) 0) else none) (v := .pe 2000000 1 (0 + Int.toNat a3) 0) (by kernel_rfl) (ite_some hc20) (e1 := [(0, S1 n2), (1, I6 a3), (4, .clo F_g6 C_g6), (10, I6 v12), (11, I6 v13), (12, I6 (W6 (iShr .u64 (IntKind.wrap .u64 (W6 (v12 + v13))) 1))), (40, .clo F_g6 C_g6), (41, S1 n2), (42, I6 (W6 (iShr .u64 (IntKind.wrap .u64 (W6 (v12 + v13))) 1))), (43, .pe 2000000 1 (0 + Int.toNat (W6 (iShr .u64 (IntKind.wrap .u64 (W6 (v12 + v13))) 1))) 0), (44, I6 e19), (45, S1 n2), (46, I6 a3), (47, .pe 2000000 1 (0 + Int.toNat a3) 0), O1 a1]) (by kernel_rfl) ?_
          obtain ⟨e21, he21, h⟩ := bind_some h
          refine WO.pureK 0 (match (List.map (AV.int .i64) a1)[(0 + Int.toNat a3)]? with | some y => cut Try.prog 3 (y.cells.map AV.strip) 0 | none => none) (v := I6 e21) (by kernel_rfl) ((pe_ld (f := (AV.int .i64)) (G := (fun y => cut Try.prog 3 (y.cells.map AV.strip) 0)) he21).trans (by kernel_rfl)) (e1 := [(0, S1 n2), (1, I6 a3), (4, .clo F_g6 C_g6), (10, I6 v12), (11, I6 v13), (12, I6 (W6 (iShr .u64 (IntKind.wrap .u64 (W6 (v12 + v13))) 1))), (40, .clo F_g6 C_g6), (41, S1 n2), (42, I6 (W6 (iShr .u64 (IntKind.wrap .u64 (W6 (v12 + v13))) 1))), (43, .pe 2000000 1 (0 + Int.toNat (W6 (iShr .u64 (IntKind.wrap .u64 (W6 (v12 + v13))) 1))) 0), (44, I6 e19), (45, S1 n2), (46, I6 a3), (47, .pe 2000000 1 (0 + Int.toNat a3) 0), (48, I6 e21), O1 a1]) (by kernel_rfl) ?_
          obtain ⟨w22, hw22, h⟩ := bind_some h
          refine WO.callK 0 (F := F_g6) (l := [I6 e19, I6 e21]) (C := C_g6) (r := I6 w22) (by kernel_rfl) hok_g6 (hrun_g6 e19 e21 w22 hw22) (e1 := [(0, S1 n2), (1, I6 a3), (4, .clo F_g6 C_g6), (10, I6 v12), (11, I6 v13), (12, I6 (W6 (iShr .u64 (IntKind.wrap .u64 (W6 (v12 + v13))) 1))), (40, .clo F_g6 C_g6), (41, S1 n2), (42, I6 (W6 (iShr .u64 (IntKind.wrap .u64 (W6 (v12 + v13))) 1))), (43, .pe 2000000 1 (0 + Int.toNat (W6 (iShr .u64 (IntKind.wrap .u64 (W6 (v12 + v13))) 1))) 0), (44, I6 e19), (45, S1 n2), (46, I6 a3), (47, .pe 2000000 1 (0 + Int.toNat a3) 0), (48, I6 e21), (49, I6 w22), O1 a1]) (by kernel_rfl) ?_
          refine WO.fin [0, 1, 4, 10, 11, 12, 50, 2000000] [] [] [] (e2 := [(0, S1 n2), (1, I6 a3), (4, .clo F_g6 C_g6), (10, I6 v12), (11, I6 v13), (12, I6 (W6 (iShr .u64 (IntKind.wrap .u64 (W6 (v12 + v13))) 1))), (50, .bool (decide (w22 < 0))), O1 a1]) (by kernel_rfl) (fun _ h => h) ?_
          refine W.condB (decide (w22 < 0)) (by kernel_rfl) (fun hb => ?_) (fun hb => ?_)
          · replace h := cond_t hb h
            refine W.regT [0, 1, 4, 10, 11, 2000000] [] [] [] (e2 := [(0, S1 n2), (1, I6 a3), (4, .clo F_g6 C_g6), (10, I6 (W6 ((W6 (iShr .u64 (IntKind.wrap .u64 (W6 (v12 + v13))) 1)) + 1))), (11, I6 v13), O1 a1]) (by kernel_rfl) (by kernel_rfl) (fun _ h => h) ?_
            exact hN1 ((W6 ((W6 (iShr .u64 (IntKind.wrap .u64 (W6 (v12 + v13))) 1)) + 1)), v13) h
          replace h := cond_f hb h
          refine W.regT [0, 1, 4, 10, 11, 2000000] [] [] [] (e2 := [(0, S1 n2), (1, I6 a3), (4, .clo F_g6 C_g6), (10, I6 v12), (11, I6 (W6 (iShr .u64 (IntKind.wrap .u64 (W6 (v12 + v13))) 1))), O1 a1]) (by kernel_rfl) (by kernel_rfl) (fun _ h => h) ?_
          exact hN1 (v12, (W6 (iShr .u64 (IntKind.wrap .u64 (W6 (v12 + v13))) 1))) h
        replace h := cond_f hb h
        refine W.exit ?_
        refine W.weak [0, 1, 10, 2000000] [] [] [] (env' := [(0, S1 n2), (1, I6 a3), (10, I6 v12), O1 a1]) (by kernel_rfl) ?_
        exact hK11 v12 h
    replace h := cond_f hb h
    refine W.skip ?_
    refine W.weak [0, 1, 2, 3, 4, 2000000] [] [] [] (env' := [(0, S1 n2), (1, I6 a3), (2, I6 a4), (3, I6 a5), (4, .clo F_g6 C_g6), O1 a1]) (by kernel_rfl) ?_
    refine W.seq ?_
    refine W.seq ?_
    refine W.regT [0, 1, 2, 3, 4, 80, 2000000] [] [] [] (e2 := [(0, S1 n2), (1, I6 a3), (2, I6 a4), (3, I6 a5), (4, .clo F_g6 C_g6), (80, .bool ((W6 (a5 - a4)) == 1)), O1 a1]) (by kernel_rfl) (by kernel_rfl) (fun _ h => h) ?_
    refine W.condB ((W6 (a5 - a4)) == 1) (by kernel_rfl) (fun hb => ?_) (fun hb => ?_)
    · replace h := cond_t hb h
      refine W.seq ?_
      refine W.regT [0, 2, 4, 14, 2000000] [] [] [] (e2 := [(0, S1 n2), (2, I6 a4), (4, .clo F_g6 C_g6), (14, I6 a3), O1 a1]) (by kernel_rfl) (by kernel_rfl) (fun _ h => h) ?_
      refine W.seq ?_
      refine W.regT [0, 2, 4, 14, 15, 2000000] [] [] [] (e2 := [(0, S1 n2), (2, I6 a4), (4, .clo F_g6 C_g6), (14, I6 a3), (15, I6 a4), O1 a1]) (by kernel_rfl) (by kernel_rfl) (fun _ h => h) ?_
      refine W.seq ?_
      refine W.join (σ := (Int)) (fun s => [(0, S1 n2), (2, I6 a4), (14, I6 s), O1 a1]) (fun s => (sl_symMergeCmpFunc_int_j46 fuel a1 n2 a4) s = some r) (fun s h => ?_) (fun hK46 => ?_)
      · obtain ⟨v58, rfl⟩ : ∃ x, x = s := ⟨s, rfl⟩
        have h : (sl_symMergeCmpFunc_int_j46 fuel a1 n2 a4) v58 = some r := h
        unfold sl_symMergeCmpFunc_int_j46 at h
        refine W.seq ?_
        refine W.join (σ := ((List Int))) (fun s => [O1 s]) (fun s => (sl_symMergeCmpFunc_int_j59) s = some r) (fun s h => ?_) (fun hK59 => ?_)
        · obtain ⟨v76, rfl⟩ : ∃ x, x = s := ⟨s, rfl⟩
          have h : (sl_symMergeCmpFunc_int_j59) v76 = some r := h
          unfold sl_symMergeCmpFunc_int_j59 at h
          refine W.weak [2000000] [] [] [] (env' := [O1 v76]) (by kernel_rfl) ?_
          have hr : PostM Try.prog Try.f102 (.tup []) [O1 v76] .ret [O1 v76] := ⟨by kernel_rfl, by kernel_rfl⟩
          cases h
          exact W.ret hr
        refine W.seq ?_
        refine W.regT [0, 14, 17, 2000000] [] [] [] (e2 := [(0, S1 n2), (14, I6 v58), (17, I6 a4), O1 a1]) (by kernel_rfl) (by kernel_rfl) (fun _ h => h) ?_
        refine W.block ?_
        refine W.weak [0, 14, 17, 2000000] [] [] [] (env' := [(0, S1 n2), (14, I6 v58), (17, I6 a4), O1 a1]) (by kernel_rfl) ?_
        refine W.fuel (σ := ((List Int) × Int)) (fun s => [(0, S1 n2), (14, I6 v58), (17, I6 s.2), (2000000, .obj 3 1 (List.map (AV.int .i64) s.1))]) (fun m0 s => sl_symMergeCmpFunc_int_l4 n2 v58 (sl_symMergeCmpFunc_int_j59) m0 s.1 s.2 = some r) (fun s h => ?_) (fun m4 s h hN4 => ?_) fuel (a1, a4) h
        · obtain ⟨v61, v62⟩ := s
          have h : sl_symMergeCmpFunc_int_l4 n2 v58 (sl_symMergeCmpFunc_int_j59) 0 v61 v62 = some r := h
          rw [sl_symMergeCmpFunc_int_l4.eq_1] at h
          cases h
        · obtain ⟨v61, v62⟩ := s
          have h : sl_symMergeCmpFunc_int_l4 n2 v58 (sl_symMergeCmpFunc_int_j59) (m4 + 1) v61 v62 = some r := h
          rw [sl_symMergeCmpFunc_int_l4.eq_2] at h
          refine W.seq ?_
          refine W.seq ?_
          refine W.regT [0, 14, 17, 110, 2000000] [] [] [] (e2 := [(0, S1 n2), (14, I6 v58), (17, I6 v62), (110, .bool (decide (v62 > v58))), O1 v61]) (by kernel_rfl) (by kernel_rfl) (fun _ h => h) ?_
          refine W.condB (decide (v62 > v58)) (by kernel_rfl) (fun hb => ?_) (fun hb => ?_)
          · replace h := cond_t hb h
            refine W.skip ?_
            refine W.weak [0, 14, 17, 2000000] [] [] [] (env' := [(0, S1 n2), (14, I6 v58), (17, I6 v62), O1 v61]) (by kernel_rfl) ?_
            refine W.seq ?_
            refine W.block ?_
            refine W.region (by kernel_rfl) ?_
            obtain ⟨hc66, h⟩ := chk_some h
            refine WO.pureK 8 (if (0 : Int) ≤ (W6 (v62 - 1)) ∧ (W6 (v62 - 1)) < ((n2 : Nat) : Int) then some (.pe 2000000 1 (0 + Int.toNat (W6 (v62 - 1))) 0) else none) (v := .pe 2000000 1 (0 + Int.toNat (W6 (v62 - 1))) 0) (by kernel_rfl) (ite_some hc66) (e1 := [(0, S1 n2), (14, I6 v58), (17, I6 v62), (113, S1 n2), (114, I6 v62), (115, S1 n2), (116, I6 v62), (117, I6 (W6 (v62 - 1))), (118, S1 n2), (119, I6 v62), (120, I6 (W6 (v62 - 1))), (121, .pe 2000000 1 (0 + Int.toNat (W6 (v62 - 1))) 0), O1 v61]) (by kernel_rfl) ?_
            obtain ⟨e67, he67, h⟩ := bind_some h
            refine WO.pureK 0 (match (List.map (AV.int .i64) v61)[(0 + Int.toNat (W6 (v62 - 1)))]? with | some y => cut Try.prog 3 (y.cells.map AV.strip) 0 | none => none) (v := I6 e67) (by kernel_rfl) ((pe_ld (f := (AV.int .i64)) (G := (fun y => cut Try.prog 3 (y.cells.map AV.strip) 0)) he67).trans (by kernel_rfl)) (e1 := [(0, S1 n2), (14, I6 v58), (17, I6 v62), (113, S1 n2), (114, I6 v62), (115, S1 n2), (116, I6 v62), (117, I6 (W6 (v62 - 1))), (118, S1 n2), (119, I6 v62), (120, I6 (W6 (v62 - 1))), (121, .pe 2000000 1 (0 + Int.toNat (W6 (v62 - 1))) 0), (122, I6 e67), O1 v61]) (by kernel_rfl) ?_
            obtain ⟨hc68, h⟩ := chk_some h
            refine WO.pureK 2 (if (0 : Int) ≤ v62 ∧ v62 < ((n2 : Nat) : Int) then some (.pe 2000000 1 (0 + Int.toNat v62) 0) else none) (v := .pe 2000000 1 (0 + Int.toNat v62) 0) (by kernel_rfl) (ite_some hc68) (e1 := [(0, S1 n2), (14, I6 v58), (17, I6 v62), (113, S1 n2), (114, I6 v62), (115, S1 n2), (116, I6 v62), (117, I6 (W6 (v62 - 1))), (118, S1 n2), (119, I6 v62), (120, I6 (W6 (v62 - 1))), (121, .pe 2000000 1 (0 + Int.toNat (W6 (v62 - 1))) 0), (122, I6 e67), (123, S1 n2), (124, I6 v62), (125, .pe 2000000 1 (0 + Int.toNat v62) 0), O1 v61]) (by kernel_rfl) ?_
            obtain ⟨e69, he69, h⟩ := bind_some h
            refine WO.pureK 0 (match (List.map (AV.int .i64) v61)[(0 + Int.toNat v62)]? with | some y => cut Try.prog 3 (y.cells.map AV.strip) 0 | none => none) (v := I6 e69) (by kernel_rfl) ((pe_ld (f := (AV.int .i64)) (G := (fun y => cut Try.prog 3 (y.cells.map AV.strip) 0)) he69).trans (by kernel_rfl)) (e1 := [(0, S1 n2), (14, I6 v58), (17, I6 v62), (113, S1 n2), (114, I6 v62), (115, S1 n2), (116, I6 v62), (117, I6 (W6 (v62 - 1))), (118, S1 n2), (119, I6 v62), (120, I6 (W6 (v62 - 1))), (121, .pe 2000000 1 (0 + Int.toNat (W6 (v62 - 1))) 0), (122, I6 e67), (123, S1 n2), (124, I6 v62), (125, .pe 2000000 1 (0 + Int.toNat v62) 0), (126, I6 e69), O1 v61]) (by kernel_rfl) ?_
            obtain ⟨hc70, h⟩ := chk_some h
            refine WO.pureK 0 (if (0 : Int) ≤ v62 ∧ v62 < ((n2 : Nat) : Int) then some (.pe 2000000 1 (0 + Int.toNat v62) 0) else none) (v := .pe 2000000 1 (0 + Int.toNat v62) 0) (by kernel_rfl) (ite_some hc70) (e1 := [(0, S1 n2), (14, I6 v58), (17, I6 v62), (113, S1 n2), (114, I6 v62), (115, S1 n2), (116, I6 v62), (117, I6 (W6 (v62 - 1))), (118, S1 n2), (119, I6 v62), (120, I6 (W6 (v62 - 1))), (121, .pe 2000000 1 (0 + Int.toNat (W6 (v62 - 1))) 0), (122, I6 e67), (123, S1 n2), (124, I6 v62), (125, .pe 2000000 1 (0 + Int.toNat v62) 0), (126, I6 e69), (127, .pe 2000000 1 (0 + Int.toNat v62) 0), O1 v61]) (by kernel_rfl) ?_
            obtain ⟨u71, hu71, h⟩ := bind_some h
            obtain ⟨y72, hyy72, hzy72⟩ := upd_some hu71
            refine WO.storeK 0 (id := 2000000) (e := 3) (s := 1) (j := (0 + Int.toNat v62)) (off := 0) (vs := [I6 e67]) (xs := (List.map (AV.int .i64) v61)) (zs := (List.map (AV.int .i64) u71)) (y := ((AV.int .i64)) y72) (y' := ((AV.int .i64)) e67) (by kernel_rfl) (upd_get hyy72) (by kernel_rfl) (upd_set hzy72) (e1 := [(0, S1 n2), (14, I6 v58), (17, I6 v62), (113, S1 n2), (114, I6 v62), (115, S1 n2), (116, I6 v62), (117, I6 (W6 (v62 - 1))), (118, S1 n2), (119, I6 v62), (120, I6 (W6 (v62 - 1))), (121, .pe 2000000 1 (0 + Int.toNat (W6 (v62 - 1))) 0), (122, I6 e67), (123, S1 n2), (124, I6 v62), (125, .pe 2000000 1 (0 + Int.toNat v62) 0), (126, I6 e69), (127, .pe 2000000 1 (0 + Int.toNat v62) 0), O1 u71]) (by kernel_rfl) ?_
            obtain ⟨hc73, h⟩ := chk_some h
            refine WO.pureK 0 (if (0 : Int) ≤ (W6 (v62 - 1)) ∧ (W6 (v62 - 1)) < ((n2 : Nat) : Int) then some (.pe 2000000 1 (0 + Int.toNat (W6 (v62 - 1))) 0) else none) (v := .pe 2000000 1 (0 + Int.toNat (W6 (v62 - 1))) 0) (by kernel_rfl) (ite_some hc73) (e1 := [(0, S1 n2), (14, I6 v58), (17, I6 v62), (113, S1 n2), (114, I6 v62), (115, S1 n2), (116, I6 v62), (117, I6 (W6 (v62 - 1))), (118, S1 n2), (119, I6 v62), (120, I6 (W6 (v62 - 1))), (121, .pe 2000000 1 (0 + Int.toNat (W6 (v62 - 1))) 0), (122, I6 e67), (123, S1 n2), (124, I6 v62), (125, .pe 2000000 1 (0 + Int.toNat v62) 0), (126, I6 e69), (127, .pe 2000000 1 (0 + Int.toNat v62) 0), (128, .pe 2000000 1 (0 + Int.toNat (W6 (v62 - 1))) 0), O1 u71]) (by kernel_rfl) ?_
            obtain ⟨u74, hu74, h⟩ := bind_some h
            obtain ⟨y75, hyy75, hzy75⟩ := upd_some hu74
            refine WO.storeK 0 (id := 2000000) (e := 3) (s := 1) (j := (0 + Int.toNat (W6 (v62 - 1)))) (off := 0) (vs := [I6 e69]) (xs := (List.map (AV.int .i64) u71)) (zs := (List.map (AV.int .i64) u74)) (y := ((AV.int .i64)) y75) (y' := ((AV.int .i64)) e69) (by kernel_rfl) (upd_get hyy75) (by kernel_rfl) (upd_set hzy75) (e1 := [(0, S1 n2), (14, I6 v58), (17, I6 v62), (113, S1 n2), (114, I6 v62), (115, S1 n2), (116, I6 v62), (117, I6 (W6 (v62 - 1))), (118, S1 n2), (119, I6 v62), (120, I6 (W6 (v62 - 1))), (121, .pe 2000000 1 (0 + Int.toNat (W6 (v62 - 1))) 0), (122, I6 e67), (123, S1 n2), (124, I6 v62), (125, .pe 2000000 1 (0 + Int.toNat v62) 0), (126, I6 e69), (127, .pe 2000000 1 (0 + Int.toNat v62) 0), (128, .pe 2000000 1 (0 + Int.toNat (W6 (v62 - 1))) 0), O1 u74]) (by kernel_rfl) ?_
            refine WO.fin [0, 14, 17, 2000000] [] [] [] (e2 := [(0, S1 n2), (14, I6 v58), (17, I6 v62), O1 u74]) (by kernel_rfl) (fun _ h => h) ?_
            refine W.regT [0, 14, 17, 2000000] [] [] [] (e2 := [(0, S1 n2), (14, I6 v58), (17, I6 (W6 (v62 - 1))), O1 u74]) (by kernel_rfl) (by kernel_rfl) (fun _ h => h) ?_
            exact hN4 (u74, (W6 (v62 - 1))) h
          replace h := cond_f hb h
          refine W.exit ?_
          refine W.weak [2000000] [] [] [] (env' := [O1 v61]) (by kernel_rfl) ?_
          exact hK59 v61 h
      refine W.block ?_
      refine W.weak [0, 2, 4, 14, 15, 2000000] [] [] [] (env' := [(0, S1 n2), (2, I6 a4), (4, .clo F_g6 C_g6), (14, I6 a3), (15, I6 a4), O1 a1]) (by kernel_rfl) ?_
      refine W.fuel (σ := (Int × Int)) (fun s => [(0, S1 n2), (2, I6 a4), (4, .clo F_g6 C_g6), (14, I6 s.1), (15, I6 s.2), O1 a1]) (fun m0 s => sl_symMergeCmpFunc_int_l3 a1 n2 a4 g6 (sl_symMergeCmpFunc_int_j46 fuel a1 n2 a4) m0 s.1 s.2 = some r) (fun s h => ?_) (fun m3 s h hN3 => ?_) fuel (a3, a4) h
      · obtain ⟨v47, v48⟩ := s
        have h : sl_symMergeCmpFunc_int_l3 a1 n2 a4 g6 (sl_symMergeCmpFunc_int_j46 fuel a1 n2 a4) 0 v47 v48 = some r := h
        rw [sl_symMergeCmpFunc_int_l3.eq_1] at h
        cases h
      · obtain ⟨v47, v48⟩ := s
        have h : sl_symMergeCmpFunc_int_l3 a1 n2 a4 g6 (sl_symMergeCmpFunc_int_j46 fuel a1 n2 a4) (m3 + 1) v47 v48 = some r := h
        rw [sl_symMergeCmpFunc_int_l3.eq_2] at h
        refine W.seq ?_
        refine W.seq ?_
        refine W.regT [0, 2, 4, 14, 15, 85, 2000000] [] [] [] (e2 := [(0, S1 n2), (2, I6 a4), (4, .clo F_g6 C_g6), (14, I6 v47), (15, I6 v48), (85, .bool (decide (v47 < v48))), O1 a1]) (by kernel_rfl) (by kernel_rfl) (fun _ h => h) ?_
        refine W.condB (decide (v47 < v48)) (by kernel_rfl) (fun hb => ?_) (fun hb => ?_)
        · replace h := cond_t hb h
          refine W.skip ?_
          refine W.weak [0, 2, 4, 14, 15, 2000000] [] [] [] (env' := [(0, S1 n2), (2, I6 a4), (4, .clo F_g6 C_g6), (14, I6 v47), (15, I6 v48), O1 a1]) (by kernel_rfl) ?_
          refine W.block ?_
          refine W.seq ?_
          refine W.regT [0, 2, 4, 14, 15, 16, 2000000] [] [] [] (e2 := [(0, S1 n2), (2, I6 a4), (4, .clo F_g6 C_g6), (14, I6 v47), (15, I6 v48), (16, I6 (W6 (iShr .u64 (IntKind.wrap .u64 (W6 (v47 + v48))) 1))), O1 a1]) (by kernel_rfl) (by kernel_rfl) (fun _ h => h) ?_
          refine W.seq ?_
          refine W.region (by kernel_rfl) ?_
          obtain ⟨hc53, h⟩ := chk_some h
          refine WO.pureK 3 (if (0 : Int) ≤ a4 ∧ a4 < ((n2 : Nat) : Int) then some (.pe 2000000 1 (0 + Int.toNat a4) 0) else none) (v := .pe 2000000 1 (0 + Int.toNat a4) 0) (by kernel_rfl) (ite_some hc53) (e1 := [(0, S1 n2), (2, I6 a4), (4, .clo F_g6 C_g6), (14, I6 v47), (15, I6 v48), (16, I6 (W6 (iShr .u64 (IntKind.wrap .u64 (W6 (v47 + v48))) 1))), (92, .clo F_g6 C_g6), (93, S1 n2), (94, I6 a4), (95, .pe 2000000 1 (0 + Int.toNat a4) 0), O1 a1]) (by kernel_rfl) ?_
          obtain ⟨e54, he54, h⟩ := bind_some h
          refine WO.pureK 0 (match (List.map (AV.int .i64) a1)[(0 + Int.toNat a4)]? with | some y => cut Try.prog 3 (y.cells.map AV.strip) 0 | none => none) (v := I6 e54) (by kernel_rfl) ((pe_ld (f := (AV.int .i64)) (G := (fun y => cut Try.prog 3 (y.cells.map AV.strip) 0)) he54).trans (by kernel_rfl)) (e1 := [(0, S1 n2), (2, I6 a4), (4, .clo F_g6 C_g6), (14, I6 v47), (15, I6 v48), (16, I6 (W6 (iShr .u64 (IntKind.wrap .u64 (W6 (v47 + v48))) 1))), (92, .clo F_g6 C_g6), (93, S1 n2), (94, I6 a4), (95, .pe 2000000 1 (0 + Int.toNat a4) 0), (96, I6 e54), O1 a1]) (by kernel_rfl) ?_
          obtain ⟨hc55, h⟩ := chk_some h
          refine WO.pureK 2 (if (0 : Int) ≤ (W6 (iShr .u64 (IntKind.wrap .u64 (W6 (v47 + v48))) 1)) ∧ (W6 (iShr .u64 (IntKind.wrap .u64 (W6 (v47 + v48))) 1)) < ((n2 : Nat) : Int) then some (.pe 2000000 1 (0 + Int.toNat (W6 (iShr .u64 (IntKind.wrap .u64 (W6 (v47 + v48))) 1))) 0) else none) (v := .pe 2000000 1 (0 + Int.toNat (W6 (iShr .u64 (IntKind.wrap .u64 (W6 (v47 + v48))) 1))) 0) (by kernel_rfl) (ite_some hc55) (e1 := [(0, S1 n2), (2, I6 a4), (4, .clo F_g6 C_g6), (14, I6 v47), (15, I6 v48), (16, I6 (W6 (iShr .u64 (IntKind.wrap .u64 (W6 (v47 + v48))) 1))), (92, .clo F_g6 C_g6), (93, S1 n2), (94, I6 a4), (95, .pe 2000000 1 (0 + Int.toNat a4) 0), (96, I6 e54), (97, S1 n2), (98, I6 (W6 (iShr .u64 (IntKind.wrap .u64 (W6 (v47 + v48))) 1))), (99, .pe 2000000 1 (0 + Int.toNat (W6 (iShr .u64 (IntKind.wrap .u64 (W6 (v47 + v48))) 1))) 0), O1 a1]) (by kernel_rfl) ?_
          obtain ⟨e56, he56, h⟩ := bind_some h
          refine WO.pureK 0 (match (List.map (AV.int .i64) a1)[(0 + Int.toNat (W6 (iShr .u64 (IntKind.wrap .u64 (W6 (v47 + v48))) 1)))]? with | some y => cut Try.prog 3 (y.cells.map AV.strip) 0 | none => none) (v := I6 e56) (by kernel_rfl) ((pe_ld (f := (AV.int .i64)) (G := (fun y => cut Try.prog 3 (y.cells.map AV.strip) 0)) he56).trans (by kernel_rfl)) (e1 := [(0, S1 n2), (2, I6 a4), (4, .clo F_g6 C_g6), (14, I6 v47), (15, I6 v48), (16, I6 (W6 (iShr .u64 (IntKind.wrap .u64 (W6 (v47 + v48))) 1))), (92, .clo F_g6 C_g6), (93, S1 n2), (94, I6 a4), (95, .pe 2000000 1 (0 + Int.toNat a4) 0), (96, I6 e54), (97, S1 n2), (98, I6 (W6 (iShr .u64 (IntKind.wrap .u64 (W6 (v47 + v48))) 1))), (99, .pe 2000000 1 (0 + Int.toNat (W6 (iShr .u64 (IntKind.wrap .u64 (W6 (v47 + v48))) 1))) 0), (100, I6 e56), O1 a1]) (by kernel_rfl) ?_
          obtain ⟨w57, hw57, h⟩ := bind_some h
          refine WO.callK 0 (F := F_g6) (l := [I6 e54, I6 e56]) (C := C_g6) (r := I6 w57) (by kernel_rfl) hok_g6 (hrun_g6 e54 e56 w57 hw57) (e1 := [(0, S1 n2), (2, I6 a4), (4, .clo F_g6 C_g6), (14, I6 v47), (15, I6 v48), (16, I6 (W6 (iShr .u64 (IntKind.wrap .u64 (W6 (v47 + v48))) 1))), (92, .clo F_g6 C_g6), (93, S1 n2), (94, I6 a4), (95, .pe 2000000 1 (0 + Int.toNat a4) 0), (96, I6 e54), (97, S1 n2), (98, I6 (W6 (iShr .u64 (IntKind.wrap .u64 (W6 (v47 + v48))) 1))), (99, .pe 2000000 1 (0 + Int.toNat (W6 (iShr .u64 (IntKind.wrap .u64 (W6 (v47 + v48))) 1))) 0), (100, I6 e56), (101, I6 w57), O1 a1]) (by kernel_rfl) ?_
          refine WO.fin [0, 2, 4, 14, 15, 16, 103, 2000000] [] [] [] (e2 := [(0, S1 n2), (2, I6 a4), (4, .clo F_g6 C_g6), (14, I6 v47), (15, I6 v48), (16, I6 (W6 (iShr .u64 (IntKind.wrap .u64 (W6 (v47 + v48))) 1))), (103, .bool (!(decide (w57 < 0)))), O1 a1]) (by kernel_rfl) (fun _ h => h) ?_
          refine W.condB (!(decide (w57 < 0))) (by kernel_rfl) (fun hb => ?_) (fun hb => ?_)
          · replace h := cond_t hb h
            refine W.regT [0, 2, 4, 14, 15, 2000000] [] [] [] (e2 := [(0, S1 n2), (2, I6 a4), (4, .clo F_g6 C_g6), (14, I6 (W6 ((W6 (iShr .u64 (IntKind.wrap .u64 (W6 (v47 + v48))) 1)) + 1))), (15, I6 v48), O1 a1]) (by kernel_rfl) (by kernel_rfl) (fun _ h => h) ?_
            exact hN3 ((W6 ((W6 (iShr .u64 (IntKind.wrap .u64 (W6 (v47 + v48))) 1)) + 1)), v48) h
          replace h := cond_f hb h
          refine W.regT [0, 2, 4, 14, 15, 2000000] [] [] [] (e2 := [(0, S1 n2), (2, I6 a4), (4, .clo F_g6 C_g6), (14, I6 v47), (15, I6 (W6 (iShr .u64 (IntKind.wrap .u64 (W6 (v47 + v48))) 1))), O1 a1]) (by kernel_rfl) (by kernel_rfl) (fun _ h => h) ?_
          exact hN3 (v47, (W6 (iShr .u64 (IntKind.wrap .u64 (W6 (v47 + v48))) 1))) h
        replace h := cond_f hb h
        refine W.exit ?_
        refine W.weak [0, 2, 14, 2000000] [] [] [] (env' := [(0, S1 n2), (2, I6 a4), (14, I6 v47), O1 a1]) (by kernel_rfl) ?_
        exact hK46 v47 h
    replace h := cond_f hb h
    refine W.skip ?_
    refine W.weak [0, 1, 2, 3, 4, 2000000] [] [] [] (env' := [(0, S1 n2), (1, I6 a3), (2, I6 a4), (3, I6 a5), (4, .clo F_g6 C_g6), O1 a1]) (by kernel_rfl) ?_
    refine W.seq ?_
    refine W.regT [0, 1, 2, 3, 4, 18, 2000000] [] [] [] (e2 := [(0, S1 n2), (1, I6 a3), (2, I6 a4), (3, I6 a5), (4, .clo F_g6 C_g6), (18, I6 (W6 (iShr .u64 (IntKind.wrap .u64 (W6 (a3 + a5))) 1))), O1 a1]) (by kernel_rfl) (by kernel_rfl) (fun _ h => h) ?_
    refine W.seq ?_
    refine W.regT [0, 1, 2, 3, 4, 18, 19, 2000000] [] [] [] (e2 := [(0, S1 n2), (1, I6 a3), (2, I6 a4), (3, I6 a5), (4, .clo F_g6 C_g6), (18, I6 (W6 (iShr .u64 (IntKind.wrap .u64 (W6 (a3 + a5))) 1))), (19, I6 (W6 ((W6 (iShr .u64 (IntKind.wrap .u64 (W6 (a3 + a5))) 1)) + a4))), O1 a1]) (by kernel_rfl) (by kernel_rfl) (fun _ h => h) ?_
    refine W.seq ?_
    refine W.regT [0, 1, 2, 3, 4, 18, 19, 2000000] [] [] [] (e2 := [(0, S1 n2), (1, I6 a3), (2, I6 a4), (3, I6 a5), (4, .clo F_g6 C_g6), (18, I6 (W6 (iShr .u64 (IntKind.wrap .u64 (W6 (a3 + a5))) 1))), (19, I6 (W6 ((W6 (iShr .u64 (IntKind.wrap .u64 (W6 (a3 + a5))) 1)) + a4))), O1 a1]) (by kernel_rfl) (by kernel_rfl) (fun _ h => h) ?_
    refine W.seq ?_
    refine W.join (σ := (Int × Int)) (fun s => [(0, S1 n2), (1, I6 a3), (2, I6 a4), (3, I6 a5), (4, .clo F_g6 C_g6), (18, I6 (W6 (iShr .u64 (IntKind.wrap .u64 (W6 (a3 + a5))) 1))), (19, I6 (W6 ((W6 (iShr .u64 (IntKind.wrap .u64 (W6 (a3 + a5))) 1)) + a4))), (20, I6 s.1), (21, I6 s.2), O1 a1]) (fun s => (sl_symMergeCmpFunc_int_j80 fuel a1 n2 a3 a4 a5 g6 (sl_symMergeCmpFunc_int fuel)) s.1 s.2 = some r) (fun s h => ?_) (fun hK80 => ?_)
    · obtain ⟨v84, v85⟩ := s
      have h : (sl_symMergeCmpFunc_int_j80 fuel a1 n2 a3 a4 a5 g6 (sl_symMergeCmpFunc_int fuel)) v84 v85 = some r := h
      unfold sl_symMergeCmpFunc_int_j80 at h
      refine W.seq ?_
      refine W.regT [0, 1, 2, 3, 4, 18, 19, 20, 21, 22, 2000000] [] [] [] (e2 := [(0, S1 n2), (1, I6 a3), (2, I6 a4), (3, I6 a5), (4, .clo F_g6 C_g6), (18, I6 (W6 (iShr .u64 (IntKind.wrap .u64 (W6 (a3 + a5))) 1))), (19, I6 (W6 ((W6 (iShr .u64 (IntKind.wrap .u64 (W6 (a3 + a5))) 1)) + a4))), (20, I6 v84), (21, I6 v85), (22, I6 (W6 ((W6 ((W6 (iShr .u64 (IntKind.wrap .u64 (W6 (a3 + a5))) 1)) + a4)) - 1))), O1 a1]) (by kernel_rfl) (by kernel_rfl) (fun _ h => h) ?_
      refine W.seq ?_
      refine W.join (σ := (Int)) (fun s => [(0, S1 n2), (1, I6 a3), (2, I6 a4), (3, I6 a5), (4, .clo F_g6 C_g6), (18, I6 (W6 (iShr .u64 (IntKind.wrap .u64 (W6 (a3 + a5))) 1))), (19, I6 (W6 ((W6 (iShr .u64 (IntKind.wrap .u64 (W6 (a3 + a5))) 1)) + a4))), (20, I6 s), O1 a1]) (fun s => (sl_symMergeCmpFunc_int_j87 fuel a1 n2 a3 a4 a5 g6 (sl_symMergeCmpFunc_int fuel)) s = some r) (fun s h => ?_) (fun hK87 => ?_)
      · obtain ⟨v99, rfl⟩ : ∃ x, x = s := ⟨s, rfl⟩
        have h : (sl_symMergeCmpFunc_int_j87 fuel a1 n2 a3 a4 a5 g6 (sl_symMergeCmpFunc_int fuel)) v99 = some r := h
        unfold sl_symMergeCmpFunc_int_j87 at h
        refine W.seq ?_
        refine W.regT [0, 1, 2, 3, 4, 18, 20, 24, 2000000] [] [] [] (e2 := [(0, S1 n2), (1, I6 a3), (2, I6 a4), (3, I6 a5), (4, .clo F_g6 C_g6), (18, I6 (W6 (iShr .u64 (IntKind.wrap .u64 (W6 (a3 + a5))) 1))), (20, I6 v99), (24, I6 (W6 ((W6 ((W6 (iShr .u64 (IntKind.wrap .u64 (W6 (a3 + a5))) 1)) + a4)) - v99))), O1 a1]) (by kernel_rfl) (by kernel_rfl) (fun _ h => h) ?_
        refine W.seq ?_
        refine W.join (σ := ((List Int))) (fun s => [(0, S1 n2), (1, I6 a3), (3, I6 a5), (4, .clo F_g6 C_g6), (18, I6 (W6 (iShr .u64 (IntKind.wrap .u64 (W6 (a3 + a5))) 1))), (20, I6 v99), (24, I6 (W6 ((W6 ((W6 (iShr .u64 (IntKind.wrap .u64 (W6 (a3 + a5))) 1)) + a4)) - v99))), O1 s]) (fun s => (sl_symMergeCmpFunc_int_j101 n2 a3 a4 a5 g6 v99 (sl_symMergeCmpFunc_int fuel)) s = some r) (fun s h => ?_) (fun hK101 => ?_)
        · obtain ⟨v105, rfl⟩ : ∃ x, x = s := ⟨s, rfl⟩
          have h : (sl_symMergeCmpFunc_int_j101 n2 a3 a4 a5 g6 v99 (sl_symMergeCmpFunc_int fuel)) v105 = some r := h
          unfold sl_symMergeCmpFunc_int_j101 at h
          refine W.seq ?_
          refine W.join (σ := ((List Int))) (fun s => [(0, S1 n2), (3, I6 a5), (4, .clo F_g6 C_g6), (18, I6 (W6 (iShr .u64 (IntKind.wrap .u64 (W6 (a3 + a5))) 1))), (24, I6 (W6 ((W6 ((W6 (iShr .u64 (IntKind.wrap .u64 (W6 (a3 + a5))) 1)) + a4)) - v99))), O1 s]) (fun s => (sl_symMergeCmpFunc_int_j106 n2 a3 a4 a5 g6 v99 (sl_symMergeCmpFunc_int fuel)) s = some r) (fun s h => ?_) (fun hK106 => ?_)
          · obtain ⟨v110, rfl⟩ : ∃ x, x = s := ⟨s, rfl⟩
            have h : (sl_symMergeCmpFunc_int_j106 n2 a3 a4 a5 g6 v99 (sl_symMergeCmpFunc_int fuel)) v110 = some r := h
            unfold sl_symMergeCmpFunc_int_j106 at h
            refine W.seq ?_
            refine W.join (σ := (Bool)) (fun s => [(0, S1 n2), (3, I6 a5), (4, .clo F_g6 C_g6), (18, I6 (W6 (iShr .u64 (IntKind.wrap .u64 (W6 (a3 + a5))) 1))), (24, I6 (W6 ((W6 ((W6 (iShr .u64 (IntKind.wrap .u64 (W6 (a3 + a5))) 1)) + a4)) - v99))), (213, .bool s), O1 v110]) (fun s => (sl_symMergeCmpFunc_int_j111 n2 a3 a4 a5 g6 v99 v110 (sl_symMergeCmpFunc_int fuel)) s = some r) (fun s h => ?_) (fun hK111 => ?_)
            · obtain ⟨v112, rfl⟩ : ∃ x, x = s := ⟨s, rfl⟩
              have h : (sl_symMergeCmpFunc_int_j111 n2 a3 a4 a5 g6 v99 v110 (sl_symMergeCmpFunc_int fuel)) v112 = some r := h
              unfold sl_symMergeCmpFunc_int_j111 at h
              refine W.condB v112 (by kernel_rfl) (fun hb => ?_) (fun hb => ?_)
              · replace h := cond_t hb h
                refine W.region (by kernel_rfl) ?_
                obtain ⟨w113, hw113, h⟩ := bind_some h
                refine WO.callMK 5 [(2000000, 2000000)] [] (F := 102) (args := [S1 n2, I6 (W6 (iShr .u64 (IntKind.wrap .u64 (W6 (a3 + a5))) 1)), I6 (W6 ((W6 ((W6 (iShr .u64 (IntKind.wrap .u64 (W6 (a3 + a5))) 1)) + a4)) - v99)), I6 a5, .clo F_g6 C_g6]) (hp := [O1 v110]) (hp2 := [O1 w113]) (r := .tup []) (by kernel_rfl) (ih v110 n2 (W6 (iShr .u64 (IntKind.wrap .u64 (W6 (a3 + a5))) 1)) (W6 ((W6 ((W6 (iShr .u64 (IntKind.wrap .u64 (W6 (a3 + a5))) 1)) + a4)) - v99)) a5 g6 F_g6 C_g6 hok_g6 hrun_g6 w113 hw113) (e1 := [(0, S1 n2), (3, I6 a5), (4, .clo F_g6 C_g6), (18, I6 (W6 (iShr .u64 (IntKind.wrap .u64 (W6 (a3 + a5))) 1))), (24, I6 (W6 ((W6 ((W6 (iShr .u64 (IntKind.wrap .u64 (W6 (a3 + a5))) 1)) + a4)) - v99))), (213, .bool v112), (214, S1 n2), (215, I6 (W6 (iShr .u64 (IntKind.wrap .u64 (W6 (a3 + a5))) 1))), (216, I6 (W6 ((W6 ((W6 (iShr .u64 (IntKind.wrap .u64 (W6 (a3 + a5))) 1)) + a4)) - v99))), (217, I6 a5), (218, .clo F_g6 C_g6), (219, .tup []), O1 w113]) (by kernel_rfl) ?_
                refine WO.end0 (e2 := [(0, S1 n2), (3, I6 a5), (4, .clo F_g6 C_g6), (18, I6 (W6 (iShr .u64 (IntKind.wrap .u64 (W6 (a3 + a5))) 1))), (24, I6 (W6 ((W6 ((W6 (iShr .u64 (IntKind.wrap .u64 (W6 (a3 + a5))) 1)) + a4)) - v99))), (213, .bool v112), (214, S1 n2), (215, I6 (W6 (iShr .u64 (IntKind.wrap .u64 (W6 (a3 + a5))) 1))), (216, I6 (W6 ((W6 ((W6 (iShr .u64 (IntKind.wrap .u64 (W6 (a3 + a5))) 1)) + a4)) - v99))), (217, I6 a5), (218, .clo F_g6 C_g6), (219, .tup []), O1 w113]) (by kernel_rfl) ?_
                have hr : PostM Try.prog Try.f102 (.tup []) [O1 w113] .normal [(0, S1 n2), (3, I6 a5), (4, .clo F_g6 C_g6), (18, I6 (W6 (iShr .u64 (IntKind.wrap .u64 (W6 (a3 + a5))) 1))), (24, I6 (W6 ((W6 ((W6 (iShr .u64 (IntKind.wrap .u64 (W6 (a3 + a5))) 1)) + a4)) - v99))), (213, .bool v112), (214, S1 n2), (215, I6 (W6 (iShr .u64 (IntKind.wrap .u64 (W6 (a3 + a5))) 1))), (216, I6 (W6 ((W6 ((W6 (iShr .u64 (IntKind.wrap .u64 (W6 (a3 + a5))) 1)) + a4)) - v99))), (217, I6 a5), (218, .clo F_g6 C_g6), (219, .tup []), O1 w113] := ⟨by kernel_rfl, by kernel_rfl⟩
                cases h
                exact hr
              replace h := cond_f hb h
              have hr : PostM Try.prog Try.f102 (.tup []) [O1 v110] .normal [(0, S1 n2), (3, I6 a5), (4, .clo F_g6 C_g6), (18, I6 (W6 (iShr .u64 (IntKind.wrap .u64 (W6 (a3 + a5))) 1))), (24, I6 (W6 ((W6 ((W6 (iShr .u64 (IntKind.wrap .u64 (W6 (a3 + a5))) 1)) + a4)) - v99))), (213, .bool v112), O1 v110] := ⟨by kernel_rfl, by kernel_rfl⟩
              cases h
              exact W.skip hr
            refine W.region (by kernel_rfl) ?_
            refine WO.boolK 4 (fun b => [(0, S1 n2), (3, I6 a5), (4, .clo F_g6 C_g6), (18, I6 (W6 (iShr .u64 (IntKind.wrap .u64 (W6 (a3 + a5))) 1))), (24, I6 (W6 ((W6 ((W6 (iShr .u64 (IntKind.wrap .u64 (W6 (a3 + a5))) 1)) + a4)) - v99))), (206, I6 (W6 (iShr .u64 (IntKind.wrap .u64 (W6 (a3 + a5))) 1))), (207, I6 (W6 ((W6 ((W6 (iShr .u64 (IntKind.wrap .u64 (W6 (a3 + a5))) 1)) + a4)) - v99))), (208, .bool b), (209, .bool b), O1 v110]) (decide ((W6 (iShr .u64 (IntKind.wrap .u64 (W6 (a3 + a5))) 1)) < (W6 ((W6 ((W6 (iShr .u64 (IntKind.wrap .u64 (W6 (a3 + a5))) 1)) + a4)) - v99)))) (by kernel_rfl) (fun hb => ?_) (fun hb => ?_)
            · replace h := cond_t hb h
              refine WO.fin [0, 3, 4, 18, 24, 213, 2000000] [] [] [] (e2 := [(0, S1 n2), (3, I6 a5), (4, .clo F_g6 C_g6), (18, I6 (W6 (iShr .u64 (IntKind.wrap .u64 (W6 (a3 + a5))) 1))), (24, I6 (W6 ((W6 ((W6 (iShr .u64 (IntKind.wrap .u64 (W6 (a3 + a5))) 1)) + a4)) - v99))), (213, .bool (decide ((W6 ((W6 ((W6 (iShr .u64 (IntKind.wrap .u64 (W6 (a3 + a5))) 1)) + a4)) - v99)) < a5))), O1 v110]) (by kernel_rfl) (fun _ h => h) ?_
              exact hK111 (decide ((W6 ((W6 ((W6 (iShr .u64 (IntKind.wrap .u64 (W6 (a3 + a5))) 1)) + a4)) - v99)) < a5)) h
            replace h := cond_f hb h
            refine WO.fin [0, 3, 4, 18, 24, 213, 2000000] [] [] [] (e2 := [(0, S1 n2), (3, I6 a5), (4, .clo F_g6 C_g6), (18, I6 (W6 (iShr .u64 (IntKind.wrap .u64 (W6 (a3 + a5))) 1))), (24, I6 (W6 ((W6 ((W6 (iShr .u64 (IntKind.wrap .u64 (W6 (a3 + a5))) 1)) + a4)) - v99))), (213, .bool false), O1 v110]) (by kernel_rfl) (fun _ h => h) ?_
            exact hK111 false h
          refine W.seq ?_
          refine W.join (σ := (Bool)) (fun s => [(0, S1 n2), (1, I6 a3), (3, I6 a5), (4, .clo F_g6 C_g6), (18, I6 (W6 (iShr .u64 (IntKind.wrap .u64 (W6 (a3 + a5))) 1))), (20, I6 v99), (24, I6 (W6 ((W6 ((W6 (iShr .u64 (IntKind.wrap .u64 (W6 (a3 + a5))) 1)) + a4)) - v99))), (199, .bool s), O1 v105]) (fun s => (sl_symMergeCmpFunc_int_j107 n2 a3 a5 g6 v99 v105 (sl_symMergeCmpFunc_int fuel) (sl_symMergeCmpFunc_int_j106 n2 a3 a4 a5 g6 v99 (sl_symMergeCmpFunc_int fuel))) s = some r) (fun s h => ?_) (fun hK107 => ?_)
          · obtain ⟨v108, rfl⟩ : ∃ x, x = s := ⟨s, rfl⟩
            have h : (sl_symMergeCmpFunc_int_j107 n2 a3 a5 g6 v99 v105 (sl_symMergeCmpFunc_int fuel) (sl_symMergeCmpFunc_int_j106 n2 a3 a4 a5 g6 v99 (sl_symMergeCmpFunc_int fuel))) v108 = some r := h
            unfold sl_symMergeCmpFunc_int_j107 at h
            refine W.condB v108 (by kernel_rfl) (fun hb => ?_) (fun hb => ?_)
            · replace h := cond_t hb h
              refine W.region (by kernel_rfl) ?_
              obtain ⟨w109, hw109, h⟩ := bind_some h
              refine WO.callMK 5 [(2000000, 2000000)] [] (F := 102) (args := [S1 n2, I6 a3, I6 v99, I6 (W6 (iShr .u64 (IntKind.wrap .u64 (W6 (a3 + a5))) 1)), .clo F_g6 C_g6]) (hp := [O1 v105]) (hp2 := [O1 w109]) (r := .tup []) (by kernel_rfl) (ih v105 n2 a3 v99 (W6 (iShr .u64 (IntKind.wrap .u64 (W6 (a3 + a5))) 1)) g6 F_g6 C_g6 hok_g6 hrun_g6 w109 hw109) (e1 := [(0, S1 n2), (1, I6 a3), (3, I6 a5), (4, .clo F_g6 C_g6), (18, I6 (W6 (iShr .u64 (IntKind.wrap .u64 (W6 (a3 + a5))) 1))), (20, I6 v99), (24, I6 (W6 ((W6 ((W6 (iShr .u64 (IntKind.wrap .u64 (W6 (a3 + a5))) 1)) + a4)) - v99))), (199, .bool v108), (200, S1 n2), (201, I6 a3), (202, I6 v99), (203, I6 (W6 (iShr .u64 (IntKind.wrap .u64 (W6 (a3 + a5))) 1))), (204, .clo F_g6 C_g6), (205, .tup []), O1 w109]) (by kernel_rfl) ?_
              refine WO.fin [0, 3, 4, 18, 24, 2000000] [] [] [] (e2 := [(0, S1 n2), (3, I6 a5), (4, .clo F_g6 C_g6), (18, I6 (W6 (iShr .u64 (IntKind.wrap .u64 (W6 (a3 + a5))) 1))), (24, I6 (W6 ((W6 ((W6 (iShr .u64 (IntKind.wrap .u64 (W6 (a3 + a5))) 1)) + a4)) - v99))), O1 w109]) (by kernel_rfl) (fun _ h => h) ?_
              exact hK106 w109 h
            replace h := cond_f hb h
            refine W.skip ?_
            refine W.weak [0, 3, 4, 18, 24, 2000000] [] [] [] (env' := [(0, S1 n2), (3, I6 a5), (4, .clo F_g6 C_g6), (18, I6 (W6 (iShr .u64 (IntKind.wrap .u64 (W6 (a3 + a5))) 1))), (24, I6 (W6 ((W6 ((W6 (iShr .u64 (IntKind.wrap .u64 (W6 (a3 + a5))) 1)) + a4)) - v99))), O1 v105]) (by kernel_rfl) ?_
            exact hK106 v105 h
          refine W.region (by kernel_rfl) ?_
          refine WO.boolK 4 (fun b => [(0, S1 n2), (1, I6 a3), (3, I6 a5), (4, .clo F_g6 C_g6), (18, I6 (W6 (iShr .u64 (IntKind.wrap .u64 (W6 (a3 + a5))) 1))), (20, I6 v99), (24, I6 (W6 ((W6 ((W6 (iShr .u64 (IntKind.wrap .u64 (W6 (a3 + a5))) 1)) + a4)) - v99))), (192, I6 a3), (193, I6 v99), (194, .bool b), (195, .bool b), O1 v105]) (decide (a3 < v99)) (by kernel_rfl) (fun hb => ?_) (fun hb => ?_)
          · replace h := cond_t hb h
            refine WO.fin [0, 1, 3, 4, 18, 20, 24, 199, 2000000] [] [] [] (e2 := [(0, S1 n2), (1, I6 a3), (3, I6 a5), (4, .clo F_g6 C_g6), (18, I6 (W6 (iShr .u64 (IntKind.wrap .u64 (W6 (a3 + a5))) 1))), (20, I6 v99), (24, I6 (W6 ((W6 ((W6 (iShr .u64 (IntKind.wrap .u64 (W6 (a3 + a5))) 1)) + a4)) - v99))), (199, .bool (decide (v99 < (W6 (iShr .u64 (IntKind.wrap .u64 (W6 (a3 + a5))) 1))))), O1 v105]) (by kernel_rfl) (fun _ h => h) ?_
            exact hK107 (decide (v99 < (W6 (iShr .u64 (IntKind.wrap .u64 (W6 (a3 + a5))) 1)))) h
          replace h := cond_f hb h
          refine WO.fin [0, 1, 3, 4, 18, 20, 24, 199, 2000000] [] [] [] (e2 := [(0, S1 n2), (1, I6 a3), (3, I6 a5), (4, .clo F_g6 C_g6), (18, I6 (W6 (iShr .u64 (IntKind.wrap .u64 (W6 (a3 + a5))) 1))), (20, I6 v99), (24, I6 (W6 ((W6 ((W6 (iShr .u64 (IntKind.wrap .u64 (W6 (a3 + a5))) 1)) + a4)) - v99))), (199, .bool false), O1 v105]) (by kernel_rfl) (fun _ h => h) ?_
          exact hK107 false h
        refine W.seq ?_
        refine W.join (σ := (Bool)) (fun s => [(0, S1 n2), (1, I6 a3), (2, I6 a4), (3, I6 a5), (4, .clo F_g6 C_g6), (18, I6 (W6 (iShr .u64 (IntKind.wrap .u64 (W6 (a3 + a5))) 1))), (20, I6 v99), (24, I6 (W6 ((W6 ((W6 (iShr .u64 (IntKind.wrap .u64 (W6 (a3 + a5))) 1)) + a4)) - v99))), (185, .bool s), O1 a1]) (fun s => (sl_symMergeCmpFunc_int_j102 fuel a1 n2 a3 a4 a5 g6 v99 (sl_symMergeCmpFunc_int_j101 n2 a3 a4 a5 g6 v99 (sl_symMergeCmpFunc_int fuel))) s = some r) (fun s h => ?_) (fun hK102 => ?_)
        · obtain ⟨v103, rfl⟩ : ∃ x, x = s := ⟨s, rfl⟩
          have h : (sl_symMergeCmpFunc_int_j102 fuel a1 n2 a3 a4 a5 g6 v99 (sl_symMergeCmpFunc_int_j101 n2 a3 a4 a5 g6 v99 (sl_symMergeCmpFunc_int fuel))) v103 = some r := h
          unfold sl_symMergeCmpFunc_int_j102 at h
          refine W.condB v103 (by kernel_rfl) (fun hb => ?_) (fun hb => ?_)
          · replace h := cond_t hb h
            refine W.region (by kernel_rfl) ?_
            obtain ⟨w104, hw104, h⟩ := bind_some h
            refine WO.callMK 5 [(2000000, 2000000)] [] (F := 113) (args := [S1 n2, I6 v99, I6 a4, I6 (W6 ((W6 ((W6 (iShr .u64 (IntKind.wrap .u64 (W6 (a3 + a5))) 1)) + a4)) - v99)), .clo F_g6 C_g6]) (hp := [O1 a1]) (hp2 := [O1 w104]) (r := .tup []) (by kernel_rfl) (run_sl_rotateCmpFunc_int fuel a1 n2 v99 a4 (W6 ((W6 ((W6 (iShr .u64 (IntKind.wrap .u64 (W6 (a3 + a5))) 1)) + a4)) - v99)) g6 F_g6 C_g6 hok_g6 hrun_g6 w104 hw104) (e1 := [(0, S1 n2), (1, I6 a3), (2, I6 a4), (3, I6 a5), (4, .clo F_g6 C_g6), (18, I6 (W6 (iShr .u64 (IntKind.wrap .u64 (W6 (a3 + a5))) 1))), (20, I6 v99), (24, I6 (W6 ((W6 ((W6 (iShr .u64 (IntKind.wrap .u64 (W6 (a3 + a5))) 1)) + a4)) - v99))), (185, .bool v103), (186, S1 n2), (187, I6 v99), (188, I6 a4), (189, I6 (W6 ((W6 ((W6 (iShr .u64 (IntKind.wrap .u64 (W6 (a3 + a5))) 1)) + a4)) - v99))), (190, .clo F_g6 C_g6), (191, .tup []), O1 w104]) (by kernel_rfl) ?_
            refine WO.fin [0, 1, 3, 4, 18, 20, 24, 2000000] [] [] [] (e2 := [(0, S1 n2), (1, I6 a3), (3, I6 a5), (4, .clo F_g6 C_g6), (18, I6 (W6 (iShr .u64 (IntKind.wrap .u64 (W6 (a3 + a5))) 1))), (20, I6 v99), (24, I6 (W6 ((W6 ((W6 (iShr .u64 (IntKind.wrap .u64 (W6 (a3 + a5))) 1)) + a4)) - v99))), O1 w104]) (by kernel_rfl) (fun _ h => h) ?_
            exact hK101 w104 h
          replace h := cond_f hb h
          refine W.skip ?_
          refine W.weak [0, 1, 3, 4, 18, 20, 24, 2000000] [] [] [] (env' := [(0, S1 n2), (1, I6 a3), (3, I6 a5), (4, .clo F_g6 C_g6), (18, I6 (W6 (iShr .u64 (IntKind.wrap .u64 (W6 (a3 + a5))) 1))), (20, I6 v99), (24, I6 (W6 ((W6 ((W6 (iShr .u64 (IntKind.wrap .u64 (W6 (a3 + a5))) 1)) + a4)) - v99))), O1 a1]) (by kernel_rfl) ?_
          exact hK101 a1 h
        refine W.region (by kernel_rfl) ?_
        refine WO.boolK 4 (fun b => [(0, S1 n2), (1, I6 a3), (2, I6 a4), (3, I6 a5), (4, .clo F_g6 C_g6), (18, I6 (W6 (iShr .u64 (IntKind.wrap .u64 (W6 (a3 + a5))) 1))), (20, I6 v99), (24, I6 (W6 ((W6 ((W6 (iShr .u64 (IntKind.wrap .u64 (W6 (a3 + a5))) 1)) + a4)) - v99))), (178, I6 v99), (179, I6 a4), (180, .bool b), (181, .bool b), O1 a1]) (decide (v99 < a4)) (by kernel_rfl) (fun hb => ?_) (fun hb => ?_)
        · replace h := cond_t hb h
          refine WO.fin [0, 1, 2, 3, 4, 18, 20, 24, 185, 2000000] [] [] [] (e2 := [(0, S1 n2), (1, I6 a3), (2, I6 a4), (3, I6 a5), (4, .clo F_g6 C_g6), (18, I6 (W6 (iShr .u64 (IntKind.wrap .u64 (W6 (a3 + a5))) 1))), (20, I6 v99), (24, I6 (W6 ((W6 ((W6 (iShr .u64 (IntKind.wrap .u64 (W6 (a3 + a5))) 1)) + a4)) - v99))), (185, .bool (decide (a4 < (W6 ((W6 ((W6 (iShr .u64 (IntKind.wrap .u64 (W6 (a3 + a5))) 1)) + a4)) - v99))))), O1 a1]) (by kernel_rfl) (fun _ h => h) ?_
          exact hK102 (decide (a4 < (W6 ((W6 ((W6 (iShr .u64 (IntKind.wrap .u64 (W6 (a3 + a5))) 1)) + a4)) - v99)))) h
        replace h := cond_f hb h
        refine WO.fin [0, 1, 2, 3, 4, 18, 20, 24, 185, 2000000] [] [] [] (e2 := [(0, S1 n2), (1, I6 a3), (2, I6 a4), (3, I6 a5), (4, .clo F_g6 C_g6), (18, I6 (W6 (iShr .u64 (IntKind.wrap .u64 (W6 (a3 + a5))) 1))), (20, I6 v99), (24, I6 (W6 ((W6 ((W6 (iShr .u64 (IntKind.wrap .u64 (W6 (a3 + a5))) 1)) + a4)) - v99))), (185, .bool false), O1 a1]) (by kernel_rfl) (fun _ h => h) ?_
        exact hK102 false h
      refine W.block ?_
      refine W.weak [0, 1, 2, 3, 4, 18, 19, 20, 21, 22, 2000000] [] [] [] (env' := [(0, S1 n2), (1, I6 a3), (2, I6 a4), (3, I6 a5), (4, .clo F_g6 C_g6), (18, I6 (W6 (iShr .u64 (IntKind.wrap .u64 (W6 (a3 + a5))) 1))), (19, I6 (W6 ((W6 (iShr .u64 (IntKind.wrap .u64 (W6 (a3 + a5))) 1)) + a4))), (20, I6 v84), (21, I6 v85), (22, I6 (W6 ((W6 ((W6 (iShr .u64 (IntKind.wrap .u64 (W6 (a3 + a5))) 1)) + a4)) - 1))), O1 a1]) (by kernel_rfl) ?_
      refine W.fuel (σ := (Int × Int)) (fun s => [(0, S1 n2), (1, I6 a3), (2, I6 a4), (3, I6 a5), (4, .clo F_g6 C_g6), (18, I6 (W6 (iShr .u64 (IntKind.wrap .u64 (W6 (a3 + a5))) 1))), (19, I6 (W6 ((W6 (iShr .u64 (IntKind.wrap .u64 (W6 (a3 + a5))) 1)) + a4))), (20, I6 s.1), (21, I6 s.2), (22, I6 (W6 ((W6 ((W6 (iShr .u64 (IntKind.wrap .u64 (W6 (a3 + a5))) 1)) + a4)) - 1))), O1 a1]) (fun m0 s => sl_symMergeCmpFunc_int_l5 a1 n2 a3 a4 a5 g6 (sl_symMergeCmpFunc_int_j87 fuel a1 n2 a3 a4 a5 g6 (sl_symMergeCmpFunc_int fuel)) m0 s.1 s.2 = some r) (fun s h => ?_) (fun m5 s h hN5 => ?_) fuel (v84, v85) h
      · obtain ⟨v88, v89⟩ := s
        have h : sl_symMergeCmpFunc_int_l5 a1 n2 a3 a4 a5 g6 (sl_symMergeCmpFunc_int_j87 fuel a1 n2 a3 a4 a5 g6 (sl_symMergeCmpFunc_int fuel)) 0 v88 v89 = some r := h
        rw [sl_symMergeCmpFunc_int_l5.eq_1] at h
        cases h
      · obtain ⟨v88, v89⟩ := s
        have h : sl_symMergeCmpFunc_int_l5 a1 n2 a3 a4 a5 g6 (sl_symMergeCmpFunc_int_j87 fuel a1 n2 a3 a4 a5 g6 (sl_symMergeCmpFunc_int fuel)) (m5 + 1) v88 v89 = some r := h
        rw [sl_symMergeCmpFunc_int_l5.eq_2] at h
        refine W.seq ?_
        refine W.seq ?_
        refine W.regT [0, 1, 2, 3, 4, 18, 19, 20, 21, 22, 151, 2000000] [] [] [] (e2 := [(0, S1 n2), (1, I6 a3), (2, I6 a4), (3, I6 a5), (4, .clo F_g6 C_g6), (18, I6 (W6 (iShr .u64 (IntKind.wrap .u64 (W6 (a3 + a5))) 1))), (19, I6 (W6 ((W6 (iShr .u64 (IntKind.wrap .u64 (W6 (a3 + a5))) 1)) + a4))), (20, I6 v88), (21, I6 v89), (22, I6 (W6 ((W6 ((W6 (iShr .u64 (IntKind.wrap .u64 (W6 (a3 + a5))) 1)) + a4)) - 1))), (151, .bool (decide (v88 < v89))), O1 a1]) (by kernel_rfl) (by kernel_rfl) (fun _ h => h) ?_
        refine W.condB (decide (v88 < v89)) (by kernel_rfl) (fun hb => ?_) (fun hb => ?_)
        · replace h := cond_t hb h
          refine W.skip ?_
          refine W.weak [0, 1, 2, 3, 4, 18, 19, 20, 21, 22, 2000000] [] [] [] (env' := [(0, S1 n2), (1, I6 a3), (2, I6 a4), (3, I6 a5), (4, .clo F_g6 C_g6), (18, I6 (W6 (iShr .u64 (IntKind.wrap .u64 (W6 (a3 + a5))) 1))), (19, I6 (W6 ((W6 (iShr .u64 (IntKind.wrap .u64 (W6 (a3 + a5))) 1)) + a4))), (20, I6 v88), (21, I6 v89), (22, I6 (W6 ((W6 ((W6 (iShr .u64 (IntKind.wrap .u64 (W6 (a3 + a5))) 1)) + a4)) - 1))), O1 a1]) (by kernel_rfl) ?_
          refine W.block ?_
          refine W.seq ?_
          refine W.regT [0, 1, 2, 3, 4, 18, 19, 20, 21, 22, 23, 2000000] [] [] [] (e2 := [(0, S1 n2), (1, I6 a3), (2, I6 a4), (3, I6 a5), (4, .clo F_g6 C_g6), (18, I6 (W6 (iShr .u64 (IntKind.wrap .u64 (W6 (a3 + a5))) 1))), (19, I6 (W6 ((W6 (iShr .u64 (IntKind.wrap .u64 (W6 (a3 + a5))) 1)) + a4))), (20, I6 v88), (21, I6 v89), (22, I6 (W6 ((W6 ((W6 (iShr .u64 (IntKind.wrap .u64 (W6 (a3 + a5))) 1)) + a4)) - 1))), (23, I6 (W6 (iShr .u64 (IntKind.wrap .u64 (W6 (v88 + v89))) 1))), O1 a1]) (by kernel_rfl) (by kernel_rfl) (fun _ h => h) ?_
          refine W.seq ?_
          refine W.region (by kernel_rfl) ?_
          obtain ⟨hc94, h⟩ := chk_some h
          refine WO.pureK 5 (if (0 : Int) ≤ (W6 ((W6 ((W6 ((W6 (iShr .u64 (IntKind.wrap .u64 (W6 (a3 + a5))) 1)) + a4)) - 1)) - (W6 (iShr .u64 (IntKind.wrap .u64 (W6 (v88 + v89))) 1)))) ∧ (W6 ((W6 ((W6 ((W6 (iShr .u64 (IntKind.wrap .u64 (W6 (a3 + a5))) 1)) + a4)) - 1)) - (W6 (iShr .u64 (IntKind.wrap .u64 (W6 (v88 + v89))) 1)))) < ((n2 : Nat) : Int) then some (.pe 2000000 1 (0 + Int.toNat (W6 ((W6 ((W6 ((W6 (iShr .u64 (IntKind.wrap .u64 (W6 (a3 + a5))) 1)) + a4)) - 1)) - (W6 (iShr .u64 (IntKind.wrap .u64 (W6 (v88 + v89))) 1))))) 0) else none) (v := .pe 2000000 1 (0 + Int.toNat (W6 ((W6 ((W6 ((W6 (iShr .u64 (IntKind.wrap .u64 (W6 (a3 + a5))) 1)) + a4)) - 1)) - (W6 (iShr .u64 (IntKind.wrap .u64 (W6 (v88 + v89))) 1))))) 0) (by kernel_rfl) (ite_some hc94) (e1 := [(0, S1 n2), (1, I6 a3), (2, I6 a4), (3, I6 a5), (4, .clo F_g6 C_g6), (18, I6 (W6 (iShr .u64 (IntKind.wrap .u64 (W6 (a3 + a5))) 1))), (19, I6 (W6 ((W6 (iShr .u64 (IntKind.wrap .u64 (W6 (a3 + a5))) 1)) + a4))), (20, I6 v88), (21, I6 v89), (22, I6 (W6 ((W6 ((W6 (iShr .u64 (IntKind.wrap .u64 (W6 (a3 + a5))) 1)) + a4)) - 1))), (23, I6 (W6 (iShr .u64 (IntKind.wrap .u64 (W6 (v88 + v89))) 1))), (158, .clo F_g6 C_g6), (159, S1 n2), (160, I6 (W6 ((W6 ((W6 (iShr .u64 (IntKind.wrap .u64 (W6 (a3 + a5))) 1)) + a4)) - 1))), (161, I6 (W6 (iShr .u64 (IntKind.wrap .u64 (W6 (v88 + v89))) 1))), (162, I6 (W6 ((W6 ((W6 ((W6 (iShr .u64 (IntKind.wrap .u64 (W6 (a3 + a5))) 1)) + a4)) - 1)) - (W6 (iShr .u64 (IntKind.wrap .u64 (W6 (v88 + v89))) 1))))), (163, .pe 2000000 1 (0 + Int.toNat (W6 ((W6 ((W6 ((W6 (iShr .u64 (IntKind.wrap .u64 (W6 (a3 + a5))) 1)) + a4)) - 1)) - (W6 (iShr .u64 (IntKind.wrap .u64 (W6 (v88 + v89))) 1))))) 0), O1 a1]) (by kernel_rfl) ?_
          obtain ⟨e95, he95, h⟩ := bind_some h
          refine WO.pureK 0 (match (List.map (AV.int .i64) a1)[(0 + Int.toNat (W6 ((W6 ((W6 ((W6 (iShr .u64 (IntKind.wrap .u64 (W6 (a3 + a5))) 1)) + a4)) - 1)) - (W6 (iShr .u64 (IntKind.wrap .u64 (W6 (v88 + v89))) 1)))))]? with | some y => cut Try.prog 3 (y.cells.map AV.strip) 0 | none => none) (v := I6 e95) (by kernel_rfl) ((pe_ld (f := (AV.int .i64)) (G := (fun y => cut Try.prog 3 (y.cells.map AV.strip) 0)) he95).trans (by kernel_rfl)) (e1 := [(0, S1 n2), (1, I6 a3), (2, I6 a4), (3, I6 a5), (4, .clo F_g6 C_g6), (18, I6 (W6 (iShr .u64 (IntKind.wrap .u64 (W6 (a3 + a5))) 1))), (19, I6 (W6 ((W6 (iShr .u64 (IntKind.wrap .u64 (W6 (a3 + a5))) 1)) + a4))), (20, I6 v88), (21, I6 v89), (22, I6 (W6 ((W6 ((W6 (iShr .u64 (IntKind.wrap .u64 (W6 (a3 + a5))) 1)) + a4)) - 1))), (23, I6 (W6 (iShr .u64 (IntKind.wrap .u64 (W6 (v88 + v89))) 1))), (158, .clo F_g6 C_g6), (159, S1 n2), (160, I6 (W6 ((W6 ((W6 (iShr .u64 (IntKind.wrap .u64 (W6 (a3 + a5))) 1)) + a4)) - 1))), (161, I6 (W6 (iShr .u64 (IntKind.wrap .u64 (W6 (v88 + v89))) 1))), (162, I6 (W6 ((W6 ((W6 ((W6 (iShr .u64 (IntKind.wrap .u64 (W6 (a3 + a5))) 1)) + a4)) - 1)) - (W6 (iShr .u64 (IntKind.wrap .u64 (W6 (v88 + v89))) 1))))), (163, .pe 2000000 1 (0 + Int.toNat (W6 ((W6 ((W6 ((W6 (iShr .u64 (IntKind.wrap .u64 (W6 (a3 + a5))) 1)) + a4)) - 1)) - (W6 (iShr .u64 (IntKind.wrap .u64 (W6 (v88 + v89))) 1))))) 0), (164, I6 e95), O1 a1]) (by kernel_rfl) ?_
          obtain ⟨hc96, h⟩ := chk_some h
          refine WO.pureK 2 (if (0 : Int) ≤ (W6 (iShr .u64 (IntKind.wrap .u64 (W6 (v88 + v89))) 1)) ∧ (W6 (iShr .u64 (IntKind.wrap .u64 (W6 (v88 + v89))) 1)) < ((n2 : Nat) : Int) then some (.pe 2000000 1 (0 + Int.toNat (W6 (iShr .u64 (IntKind.wrap .u64 (W6 (v88 + v89))) 1))) 0) else none) (v := .pe 2000000 1 (0 + Int.toNat (W6 (iShr .u64 (IntKind.wrap .u64 (W6 (v88 + v89))) 1))) 0) (by kernel_rfl) (ite_some hc96) (e1 := [(0, S1 n2), (1, I6 a3), (2, I6 a4), (3, I6 a5), (4, .clo F_g6 C_g6), (18, I6 (W6 (iShr .u64 (IntKind.wrap .u64 (W6 (a3 + a5))) 1))), (19, I6 (W6 ((W6 (iShr .u64 (IntKind.wrap .u64 (W6 (a3 + a5))) 1)) + a4))), (20, I6 v88), (21, I6 v89), (22, I6 (W6 ((W6 ((W6 (iShr .u64 (IntKind.wrap .u64 (W6 (a3 + a5))) 1)) + a4)) - 1))), (23, I6 (W6 (iShr .u64 (IntKind.wrap .u64 (W6 (v88 + v89))) 1))), (158, .clo F_g6 C_g6), (159, S1 n2), (160, I6 (W6 ((W6 ((W6 (iShr .u64 (IntKind.wrap .u64 (W6 (a3 + a5))) 1)) + a4)) - 1))), (161, I6 (W6 (iShr .u64 (IntKind.wrap .u64 (W6 (v88 + v89))) 1))), (162, I6 (W6 ((W6 ((W6 ((W6 (iShr .u64 (IntKind.wrap .u64 (W6 (a3 + a5))) 1)) + a4)) - 1)) - (W6 (iShr .u64 (IntKind.wrap .u64 (W6 (v88 + v89))) 1))))), (163, .pe 2000000 1 (0 + Int.toNat (W6 ((W6 ((W6 ((W6 (iShr .u64 (IntKind.wrap .u64 (W6 (a3 + a5))) 1)) + a4)) - 1)) - (W6 (iShr .u64 (IntKind.wrap .u64 (W6 (v88 + v89))) 1))))) 0), (164, I6 e95), (165, S1 n2), (166, I6 (W6 (iShr .u64 (IntKind.wrap .u64 (W6 (v88 + v89))) 1))), (167, .pe 2000000 1 (0 + Int.toNat (W6 (iShr .u64 (IntKind.wrap .u64 (W6 (v88 + v89))) 1))) 0), O1 a1]) (by kernel_rfl) ?_
          obtain ⟨e97, he97, h⟩ := bind_some h
          refine WO.pureK 0 (match (List.map (AV.int .i64) a1)[(0 + Int.toNat (W6 (iShr .u64 (IntKind.wrap .u64 (W6 (v88 + v89))) 1)))]? with | some y => cut Try.prog 3 (y.cells.map AV.strip) 0 | none => none) (v := I6 e97) (by kernel_rfl) ((pe_ld (f := (AV.int .i64)) (G := (fun y => cut Try.prog 3 (y.cells.map AV.strip) 0)) he97).trans (by kernel_rfl)) (e1 := [(0, S1 n2), (1, I6 a3), (2, I6 a4), (3, I6 a5), (4, .clo F_g6 C_g6), (18, I6 (W6 (iShr .u64 (IntKind.wrap .u64 (W6 (a3 + a5))) 1))), (19, I6 (W6 ((W6 (iShr .u64 (IntKind.wrap .u64 (W6 (a3 + a5))) 1)) + a4))), (20, I6 v88), (21, I6 v89), (22, I6 (W6 ((W6 ((W6 (iShr .u64 (IntKind.wrap .u64 (W6 (a3 + a5))) 1)) + a4)) - 1))), (23, I6 (W6 (iShr .u64 (IntKind.wrap .u64 (W6 (v88 + v89))) 1))), (158, .clo F_g6 C_g6), (159, S1 n2), (160, I6 (W6 ((W6 ((W6 (iShr .u64 (IntKind.wrap .u64 (W6 (a3 + a5))) 1)) + a4)) - 1))), (161, I6 (W6 (iShr .u64 (IntKind.wrap .u64 (W6 (v88 + v89))) 1))), (162, I6 (W6 ((W6 ((W6 ((W6 (iShr .u64 (IntKind.wrap .u64 (W6 (a3 + a5))) 1)) + a4)) - 1)) - (W6 (iShr .u64 (IntKind.wrap .u64 (W6 (v88 + v89))) 1))))), (163, .pe 2000000 1 (0 + Int.toNat (W6 ((W6 ((W6 ((W6 (iShr .u64 (IntKind.wrap .u64 (W6 (a3 + a5))) 1)) + a4)) - 1)) - (W6 (iShr .u64 (IntKind.wrap .u64 (W6 (v88 + v89))) 1))))) 0), (164, I6 e95), (165, S1 n2), (166, I6 (W6 (iShr .u64 (IntKind.wrap .u64 (W6 (v88 + v89))) 1))), (167, .pe 2000000 1 (0 + Int.toNat (W6 (iShr .u64 (IntKind.wrap .u64 (W6 (v88 + v89))) 1))) 0), (168, I6 e97), O1 a1]) (by kernel_rfl) ?_
          obtain ⟨w98, hw98, h⟩ := bind_some h
          refine WO.callK 0 (F := F_g6) (l := [I6 e95, I6 e97]) (C := C_g6) (r := I6 w98) (by kernel_rfl) hok_g6 (hrun_g6 e95 e97 w98 hw98) (e1 := [(0, S1 n2), (1, I6 a3), (2, I6 a4), (3, I6 a5), (4, .clo F_g6 C_g6), (18, I6 (W6 (iShr .u64 (IntKind.wrap .u64 (W6 (a3 + a5))) 1))), (19, I6 (W6 ((W6 (iShr .u64 (IntKind.wrap .u64 (W6 (a3 + a5))) 1)) + a4))), (20, I6 v88), (21, I6 v89), (22, I6 (W6 ((W6 ((W6 (iShr .u64 (IntKind.wrap .u64 (W6 (a3 + a5))) 1)) + a4)) - 1))), (23, I6 (W6 (iShr .u64 (IntKind.wrap .u64 (W6 (v88 + v89))) 1))), (158, .clo F_g6 C_g6), (159, S1 n2), (160, I6 (W6 ((W6 ((W6 (iShr .u64 (IntKind.wrap .u64 (W6 (a3 + a5))) 1)) + a4)) - 1))), (161, I6 (W6 (iShr .u64 (IntKind.wrap .u64 (W6 (v88 + v89))) 1))), (162, I6 (W6 ((W6 ((W6 ((W6 (iShr .u64 (IntKind.wrap .u64 (W6 (a3 + a5))) 1)) + a4)) - 1)) - (W6 (iShr .u64 (IntKind.wrap .u64 (W6 (v88 + v89))) 1))))), (163, .pe 2000000 1 (0 + Int.toNat (W6 ((W6 ((W6 ((W6 (iShr .u64 (IntKind.wrap .u64 (W6 (a3 + a5))) 1)) + a4)) - 1)) - (W6 (iShr .u64 (IntKind.wrap .u64 (W6 (v88 + v89))) 1))))) 0), (164, I6 e95), (165, S1 n2), (166, I6 (W6 (iShr .u64 (IntKind.wrap .u64 (W6 (v88 + v89))) 1))), (167, .pe 2000000 1 (0 + Int.toNat (W6 (iShr .u64 (IntKind.wrap .u64 (W6 (v88 + v89))) 1))) 0), (168, I6 e97), (169, I6 w98), O1 a1]) (by kernel_rfl) ?_
          refine WO.fin [0, 1, 2, 3, 4, 18, 19, 20, 21, 22, 23, 171, 2000000] [] [] [] (e2 := [(0, S1 n2), (1, I6 a3), (2, I6 a4), (3, I6 a5), (4, .clo F_g6 C_g6), (18, I6 (W6 (iShr .u64 (IntKind.wrap .u64 (W6 (a3 + a5))) 1))), (19, I6 (W6 ((W6 (iShr .u64 (IntKind.wrap .u64 (W6 (a3 + a5))) 1)) + a4))), (20, I6 v88), (21, I6 v89), (22, I6 (W6 ((W6 ((W6 (iShr .u64 (IntKind.wrap .u64 (W6 (a3 + a5))) 1)) + a4)) - 1))), (23, I6 (W6 (iShr .u64 (IntKind.wrap .u64 (W6 (v88 + v89))) 1))), (171, .bool (!(decide (w98 < 0)))), O1 a1]) (by kernel_rfl) (fun _ h => h) ?_
          refine W.condB (!(decide (w98 < 0))) (by kernel_rfl) (fun hb => ?_) (fun hb => ?_)
          · replace h := cond_t hb h
            refine W.regT [0, 1, 2, 3, 4, 18, 19, 20, 21, 22, 2000000] [] [] [] (e2 := [(0, S1 n2), (1, I6 a3), (2, I6 a4), (3, I6 a5), (4, .clo F_g6 C_g6), (18, I6 (W6 (iShr .u64 (IntKind.wrap .u64 (W6 (a3 + a5))) 1))), (19, I6 (W6 ((W6 (iShr .u64 (IntKind.wrap .u64 (W6 (a3 + a5))) 1)) + a4))), (20, I6 (W6 ((W6 (iShr .u64 (IntKind.wrap .u64 (W6 (v88 + v89))) 1)) + 1))), (21, I6 v89), (22, I6 (W6 ((W6 ((W6 (iShr .u64 (IntKind.wrap .u64 (W6 (a3 + a5))) 1)) + a4)) - 1))), O1 a1]) (by kernel_rfl) (by kernel_rfl) (fun _ h => h) ?_
            exact hN5 ((W6 ((W6 (iShr .u64 (IntKind.wrap .u64 (W6 (v88 + v89))) 1)) + 1)), v89) h
          replace h := cond_f hb h
          refine W.regT [0, 1, 2, 3, 4, 18, 19, 20, 21, 22, 2000000] [] [] [] (e2 := [(0, S1 n2), (1, I6 a3), (2, I6 a4), (3, I6 a5), (4, .clo F_g6 C_g6), (18, I6 (W6 (iShr .u64 (IntKind.wrap .u64 (W6 (a3 + a5))) 1))), (19, I6 (W6 ((W6 (iShr .u64 (IntKind.wrap .u64 (W6 (a3 + a5))) 1)) + a4))), (20, I6 v88), (21, I6 (W6 (iShr .u64 (IntKind.wrap .u64 (W6 (v88 + v89))) 1))), (22, I6 (W6 ((W6 ((W6 (iShr .u64 (IntKind.wrap .u64 (W6 (a3 + a5))) 1)) + a4)) - 1))), O1 a1]) (by kernel_rfl) (by kernel_rfl) (fun _ h => h) ?_
          exact hN5 (v88, (W6 (iShr .u64 (IntKind.wrap .u64 (W6 (v88 + v89))) 1))) h
        replace h := cond_f hb h
        refine W.exit ?_
        refine W.weak [0, 1, 2, 3, 4, 18, 19, 20, 2000000] [] [] [] (env' := [(0, S1 n2), (1, I6 a3), (2, I6 a4), (3, I6 a5), (4, .clo F_g6 C_g6), (18, I6 (W6 (iShr .u64 (IntKind.wrap .u64 (W6 (a3 + a5))) 1))), (19, I6 (W6 ((W6 (iShr .u64 (IntKind.wrap .u64 (W6 (a3 + a5))) 1)) + a4))), (20, I6 v88), O1 a1]) (by kernel_rfl) ?_
        exact hK87 v88 h
    refine W.seq ?_
    refine W.regT [0, 1, 2, 3, 4, 18, 19, 140, 2000000] [] [] [] (e2 := [(0, S1 n2), (1, I6 a3), (2, I6 a4), (3, I6 a5), (4, .clo F_g6 C_g6), (18, I6 (W6 (iShr .u64 (IntKind.wrap .u64 (W6 (a3 + a5))) 1))), (19, I6 (W6 ((W6 (iShr .u64 (IntKind.wrap .u64 (W6 (a3 + a5))) 1)) + a4))), (140, .bool (decide (a4 > (W6 (iShr .u64 (IntKind.wrap .u64 (W6 (a3 + a5))) 1))))), O1 a1]) (by kernel_rfl) (by kernel_rfl) (fun _ h => h) ?_
    refine W.condB (decide (a4 > (W6 (iShr .u64 (IntKind.wrap .u64 (W6 (a3 + a5))) 1)))) (by kernel_rfl) (fun hb => ?_) (fun hb => ?_)
    · replace h := cond_t hb h
      refine W.seq ?_
      refine W.regT [0, 1, 2, 3, 4, 18, 19, 20, 2000000] [] [] [] (e2 := [(0, S1 n2), (1, I6 a3), (2, I6 a4), (3, I6 a5), (4, .clo F_g6 C_g6), (18, I6 (W6 (iShr .u64 (IntKind.wrap .u64 (W6 (a3 + a5))) 1))), (19, I6 (W6 ((W6 (iShr .u64 (IntKind.wrap .u64 (W6 (a3 + a5))) 1)) + a4))), (20, I6 (W6 ((W6 ((W6 (iShr .u64 (IntKind.wrap .u64 (W6 (a3 + a5))) 1)) + a4)) - a5))), O1 a1]) (by kernel_rfl) (by kernel_rfl) (fun _ h => h) ?_
      refine W.regT [0, 1, 2, 3, 4, 18, 19, 20, 21, 2000000] [] [] [] (e2 := [(0, S1 n2), (1, I6 a3), (2, I6 a4), (3, I6 a5), (4, .clo F_g6 C_g6), (18, I6 (W6 (iShr .u64 (IntKind.wrap .u64 (W6 (a3 + a5))) 1))), (19, I6 (W6 ((W6 (iShr .u64 (IntKind.wrap .u64 (W6 (a3 + a5))) 1)) + a4))), (20, I6 (W6 ((W6 ((W6 (iShr .u64 (IntKind.wrap .u64 (W6 (a3 + a5))) 1)) + a4)) - a5))), (21, I6 (W6 (iShr .u64 (IntKind.wrap .u64 (W6 (a3 + a5))) 1))), O1 a1]) (by kernel_rfl) (by kernel_rfl) (fun _ h => h) ?_
      exact hK80 ((W6 ((W6 ((W6 (iShr .u64 (IntKind.wrap .u64 (W6 (a3 + a5))) 1)) + a4)) - a5)), (W6 (iShr .u64 (IntKind.wrap .u64 (W6 (a3 + a5))) 1))) h
    replace h := cond_f hb h
    refine W.seq ?_
    refine W.regT [0, 1, 2, 3, 4, 18, 19, 20, 2000000] [] [] [] (e2 := [(0, S1 n2), (1, I6 a3), (2, I6 a4), (3, I6 a5), (4, .clo F_g6 C_g6), (18, I6 (W6 (iShr .u64 (IntKind.wrap .u64 (W6 (a3 + a5))) 1))), (19, I6 (W6 ((W6 (iShr .u64 (IntKind.wrap .u64 (W6 (a3 + a5))) 1)) + a4))), (20, I6 a3), O1 a1]) (by kernel_rfl) (by kernel_rfl) (fun _ h => h) ?_
    refine W.regT [0, 1, 2, 3, 4, 18, 19, 20, 21, 2000000] [] [] [] (e2 := [(0, S1 n2), (1, I6 a3), (2, I6 a4), (3, I6 a5), (4, .clo F_g6 C_g6), (18, I6 (W6 (iShr .u64 (IntKind.wrap .u64 (W6 (a3 + a5))) 1))), (19, I6 (W6 ((W6 (iShr .u64 (IntKind.wrap .u64 (W6 (a3 + a5))) 1)) + a4))), (20, I6 a3), (21, I6 a4), O1 a1]) (by kernel_rfl) (by kernel_rfl) (fun _ h => h) ?_
    exact hK80 (a3, a4) h

end Go.AM
