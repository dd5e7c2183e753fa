/- s -/
import Derived.Test.YtmfdgonjnckdhaaDoorDX2
set_option maxRecDepth 100000
set_option linter.unusedVariables false
set_option linter.unusedSimpArgs false
namespace Go.AM
open Go.Proofs
def sl_stableCmpFunc_int_j36 (v21 : Int) (N2 : ((List Int) → Int → Option (List Int))) (v40 : (List Int)) : Option (List Int) :=
 (N2 v40 (IntKind.wrap .i64 (v21 * 2)))
def sl_stableCmpFunc_int_j25 (fuel : Nat) (n2 : Nat) (a3 : Int) (g4 : (Int → Int → Option Int)) (v21 : Int) (N2 : ((List Int) → Int → Option (List Int))) (v34 : (List Int)) (v35 : Int) : Option (List Int) :=
 (bif (decide ((IntKind.wrap .i64 (v35 + v21)) < a3)) then ((sl_symMergeCmpFunc_int fuel v34 n2 v35 (IntKind.wrap .i64 (v35 + v21)) a3 g4).bind fun w39 => ((sl_stableCmpFunc_int_j36 v21 N2) w39)) else ((sl_stableCmpFunc_int_j36 v21 N2) v34))
def sl_stableCmpFunc_int_l3 (fuel : Nat) (n2 : Nat) (a3 : Int) (g4 : (Int → Int → Option Int)) (v21 : Int) (K25 : ((List Int) → Int → Option (List Int))) : Nat → (List Int) → Int → Int → Option (List Int)
 | 0, _, _, _ => none
 | m3 + 1, v26, v27, v28 => (bif (decide (v28 ≤ a3)) then ((sl_symMergeCmpFunc_int fuel v26 n2 v27 (IntKind.wrap .i64 (v27 + v21)) v28 g4).bind fun w32 => ((sl_stableCmpFunc_int_l3 fuel n2 a3 g4 v21 K25 m3) w32 v28 (IntKind.wrap .i64 (v28 + (IntKind.wrap .i64 (2 * v21)))))) else (K25 v26 v27))
def sl_stableCmpFunc_int_l2 (fuel : Nat) (n2 : Nat) (a3 : Int) (g4 : (Int → Int → Option Int)) : Nat → (List Int) → Int → Option (List Int)
 | 0, _, _ => none
 | m2 + 1, v20, v21 => (bif (decide (v21 < a3)) then (sl_stableCmpFunc_int_l3 fuel n2 a3 g4 v21 (sl_stableCmpFunc_int_j25 fuel n2 a3 g4 v21 (sl_stableCmpFunc_int_l2 fuel n2 a3 g4 m2)) fuel v20 0 (IntKind.wrap .i64 (2 * v21))) else (some v20))
def sl_stableCmpFunc_int_j7 (fuel : Nat) (n2 : Nat) (a3 : Int) (g4 : (Int → Int → Option Int)) (v16 : (List Int)) (v17 : Int) : Option (List Int) :=
 ((sl_insertionSortCmpFunc_int fuel v16 n2 v17 a3 g4).bind fun w19 => (sl_stableCmpFunc_int_l2 fuel n2 a3 g4 fuel w19 20))
def sl_stableCmpFunc_int_l1 (fuel : Nat) (n2 : Nat) (a3 : Int) (g4 : (Int → Int → Option Int)) (K7 : ((List Int) → Int → Option (List Int))) : Nat → (List Int) → Int → Int → Option (List Int)
 | 0, _, _, _ => none
 | m1 + 1, v8, v9, v10 => (bif (decide (v10 ≤ a3)) then ((sl_insertionSortCmpFunc_int fuel v8 n2 v9 v10 g4).bind fun w14 => ((sl_stableCmpFunc_int_l1 fuel n2 a3 g4 K7 m1) w14 v10 (IntKind.wrap .i64 (v10 + 20)))) else (K7 v8 v9))
def sl_stableCmpFunc_int (fuel : Nat) (a1 : (List Int)) (n2 : Nat) (a3 : Int) (g4 : (Int → Int → Option Int)) : Option (List Int) :=
 (sl_stableCmpFunc_int_l1 fuel n2 a3 g4 (sl_stableCmpFunc_int_j7 fuel n2 a3 g4) fuel a1 0 20)
theorem run_sl_stableCmpFunc_int (fuel : Nat) (a1 : (List Int)) (n2 : Nat) (a3 : Int) (g4 : (Int → Int → Option Int)) (F_g4 : Nat) (C_g4 : List AV) (hok_g4 : okFn Tryd.prog F_g4 = true) (hrun_g4 : ∀ (x0 : Int) (x1 : Int) r, g4 x0 x1 = some r → Run Tryd.prog (.call F_g4 ([I6 x0, I6 x1] ++ C_g4) (I6 r))) (r : (List Int)) (h : sl_stableCmpFunc_int fuel a1 n2 a3 g4 = some r) : Run Tryd.prog (.callM 44 [.sb 2000000 3 1 0 n2, I6 a3, .clo F_g4 C_g4] [(2000000, .obj 3 1 (M6 a1))] (.tup []) [(2000000, .obj 3 1 (M6 r))]) := by
 refine cM Tryd.func44 rfl (env0 := [(0, .sb 2000000 3 1 0 n2), (1, I6 a3), (2, .clo F_g4 C_g4), (2000000, .obj 3 1 (M6 a1))]) ?_
 unfold sl_stableCmpFunc_int at h
 refine W.seq ?_
 let z0 := fun t => EN ((0, .sb 2000000 3 1 0 n2) :: (1, I6 a3) :: (2, .clo F_g4 C_g4) :: t)
 let z1 := fun t => z0 ((6, .int .i64 20) :: t)
 refine W.rt (e2 := z1 [(2000000, .obj 3 1 (M6 a1))]) ?_
 refine W.seq ?_
 let z2 := fun t => z1 ((7, .int .i64 0) :: (8, .int .i64 20) :: (2000000, .obj 3 1 (M6 a1)) :: t)
 refine W.rt (e2 := z2 []) ?_
 refine W.seq ?_
 refine W.join (σ := ((List Int) × Int)) (fun s => z1 [(7, I6 s.2), (2000000, .obj 3 1 (M6 s.1))]) (fun s => (sl_stableCmpFunc_int_j7 fuel n2 a3 g4) s.1 s.2 = some r) (fun s h => ?_) (fun hK7 => ?_)
 ·obtain ⟨v16, v17⟩ := s
  have h : (sl_stableCmpFunc_int_j7 fuel n2 a3 g4) v16 v17 = some r := h
  unfold sl_stableCmpFunc_int_j7 at h
  refine W.seq ?_
  refine W.rg ?_
  obtain ⟨w19, hw19, h⟩ := bind_some h
  refine WO.cm 4 [(2000000, 2000000)] [] (F := 66) (args := [.sb 2000000 3 1 0 n2, I6 v17, I6 a3, .clo F_g4 C_g4]) (hp := [(2000000, .obj 3 1 (M6 v16))]) (hp2 := [(2000000, .obj 3 1 (M6 w19))]) (r := .tup []) (run_sl_insertionSortCmpFunc_int fuel v16 n2 v17 a3 g4 F_g4 C_g4 hok_g4 hrun_g4 w19 hw19) (e1 := z1 [(7, I6 v17), (23, .sb 2000000 3 1 0 n2), (24, I6 v17), (25, I6 a3), (26, .clo F_g4 C_g4), (27, .tup []), (2000000, .obj 3 1 (M6 w19))]) ?_
  refine WO.fn (e2 := z1 [(2000000, .obj 3 1 (M6 w19))]) ?_
  refine W.block ?_
  refine W.wk (env' := z1 [(2000000, .obj 3 1 (M6 w19))]) ?_
  refine W.fuel (σ := ((List Int) × Int)) (fun s => z0 [(6, I6 s.2), (2000000, .obj 3 1 (M6 s.1))]) (fun m0 s => sl_stableCmpFunc_int_l2 fuel n2 a3 g4 m0 s.1 s.2 = some r) (fun s h => ?_) (fun m2 s h hN2 => ?_) fuel (w19, 20) h
  ·obtain ⟨v20, v21⟩ := s
   have h : sl_stableCmpFunc_int_l2 fuel n2 a3 g4 0 v20 v21 = some r := h
   rw [sl_stableCmpFunc_int_l2.eq_1] at h
   cases h
  ·obtain ⟨v20, v21⟩ := s
   have h : sl_stableCmpFunc_int_l2 fuel n2 a3 g4 (m2 + 1) v20 v21 = some r := h
   rw [sl_stableCmpFunc_int_l2.eq_2] at h
   refine W.seq ?_
   refine W.seq ?_
   let z3 := fun t => z0 ((6, I6 v21) :: t)
   let z4 := fun t => z3 ((30, .bool (decide (v21 < a3))) :: (2000000, .obj 3 1 (M6 v20)) :: t)
   refine W.rt (e2 := z4 []) ?_
   refine W.cb (decide (v21 < a3)) (fun hb => ?_) (fun hb => ?_)
   ·replace h := cond_t hb h
    refine W.skip ?_
    refine W.wk (env' := z3 [(2000000, .obj 3 1 (M6 v20))]) ?_
    refine W.block ?_
    refine W.seq ?_
    let z5 := fun t => z3 ((7, .int .i64 0) :: (8, I6 (W6 (2 * v21))) :: (2000000, .obj 3 1 (M6 v20)) :: t)
    refine W.rt (e2 := z5 []) ?_
    refine W.seq ?_
    refine W.join (σ := ((List Int) × Int)) (fun s => z3 [(7, I6 s.2), (2000000, .obj 3 1 (M6 s.1))]) (fun s => (sl_stableCmpFunc_int_j25 fuel n2 a3 g4 v21 (sl_stableCmpFunc_int_l2 fuel n2 a3 g4 m2)) s.1 s.2 = some r) (fun s h => ?_) (fun hK25 => ?_)
    ·obtain ⟨v34, v35⟩ := s
     have h : (sl_stableCmpFunc_int_j25 fuel n2 a3 g4 v21 (sl_stableCmpFunc_int_l2 fuel n2 a3 g4 m2)) v34 v35 = some r := h
     unfold sl_stableCmpFunc_int_j25 at h
     refine W.seq ?_
     refine W.join (σ := ((List Int))) (fun s => z3 [(2000000, .obj 3 1 (M6 s))]) (fun s => (sl_stableCmpFunc_int_j36 v21 (sl_stableCmpFunc_int_l2 fuel n2 a3 g4 m2)) s = some r) (fun s h => ?_) (fun hK36 => ?_)
     ·obtain ⟨v40, rfl⟩ : ∃ x, x = s := ⟨s, rfl⟩
      have h : (sl_stableCmpFunc_int_j36 v21 (sl_stableCmpFunc_int_l2 fuel n2 a3 g4 m2)) v40 = some r := h
      unfold sl_stableCmpFunc_int_j36 at h
      refine W.rt (e2 := z0 [(6, I6 (W6 (v21 * 2))), (2000000, .obj 3 1 (M6 v40))]) ?_
      exact hN2 (v40, (W6 (v21 * 2))) h
     refine W.seq ?_
     let z6 := fun t => z3 ((7, I6 v35) :: (9, I6 (W6 (v35 + v21))) :: t)
     refine W.rt (e2 := z6 [(2000000, .obj 3 1 (M6 v34))]) ?_
     refine W.seq ?_
     let z7 := fun t => z6 ((54, .bool (decide ((W6 (v35 + v21)) < a3))) :: t)
     refine W.rt (e2 := z7 [(2000000, .obj 3 1 (M6 v34))]) ?_
     refine W.cb (decide ((W6 (v35 + v21)) < a3)) (fun hb => ?_) (fun hb => ?_)
     ·replace h := cond_t hb h
      refine W.rg ?_
      obtain ⟨w39, hw39, h⟩ := bind_some h
      refine WO.cm 5 [(2000000, 2000000)] [] (F := 67) (args := [.sb 2000000 3 1 0 n2, I6 v35, I6 (W6 (v35 + v21)), I6 a3, .clo F_g4 C_g4]) (hp := [(2000000, .obj 3 1 (M6 v34))]) (hp2 := [(2000000, .obj 3 1 (M6 w39))]) (r := .tup []) (run_sl_symMergeCmpFunc_int fuel v34 n2 v35 (W6 (v35 + v21)) a3 g4 F_g4 C_g4 hok_g4 hrun_g4 w39 hw39) (e1 := z7 [(55, .sb 2000000 3 1 0 n2), (56, I6 v35), (57, I6 (W6 (v35 + v21))), (58, I6 a3), (59, .clo F_g4 C_g4), (60, .tup []), (2000000, .obj 3 1 (M6 w39))]) ?_
      refine WO.fn (e2 := z3 [(2000000, .obj 3 1 (M6 w39))]) ?_
      exact hK36 w39 h
     replace h := cond_f hb h
     refine W.skip ?_
     refine W.wk (env' := z3 [(2000000, .obj 3 1 (M6 v34))]) ?_
     exact hK36 v34 h
    refine W.block ?_
    refine W.wk (env' := z5 []) ?_
    refine W.fuel (σ := ((List Int) × Int × Int)) (fun s => z3 [(7, I6 s.2.1), (8, I6 s.2.2), (2000000, .obj 3 1 (M6 s.1))]) (fun m0 s => sl_stableCmpFunc_int_l3 fuel n2 a3 g4 v21 (sl_stableCmpFunc_int_j25 fuel n2 a3 g4 v21 (sl_stableCmpFunc_int_l2 fuel n2 a3 g4 m2)) m0 s.1 s.2.1 s.2.2 = some r) (fun s h => ?_) (fun m3 s h hN3 => ?_) fuel (v20, 0, (W6 (2 * v21))) h
    ·obtain ⟨v26, v27, v28⟩ := s
     have h : sl_stableCmpFunc_int_l3 fuel n2 a3 g4 v21 (sl_stableCmpFunc_int_j25 fuel n2 a3 g4 v21 (sl_stableCmpFunc_int_l2 fuel n2 a3 g4 m2)) 0 v26 v27 v28 = some r := h
     rw [sl_stableCmpFunc_int_l3.eq_1] at h
     cases h
    ·obtain ⟨v26, v27, v28⟩ := s
     have h : sl_stableCmpFunc_int_l3 fuel n2 a3 g4 v21 (sl_stableCmpFunc_int_j25 fuel n2 a3 g4 v21 (sl_stableCmpFunc_int_l2 fuel n2 a3 g4 m2)) (m3 + 1) v26 v27 v28 = some r := h
     rw [sl_stableCmpFunc_int_l3.eq_2] at h
     refine W.seq ?_
     refine W.seq ?_
     let z8 := fun t => z3 ((7, I6 v27) :: (8, I6 v28) :: t)
     refine W.rt (e2 := z8 [(35, .bool (decide (v28 ≤ a3))), (2000000, .obj 3 1 (M6 v26))]) ?_
     refine W.cb (decide (v28 ≤ a3)) (fun hb => ?_) (fun hb => ?_)
     ·replace h := cond_t hb h
      refine W.skip ?_
      refine W.wk (env' := z8 [(2000000, .obj 3 1 (M6 v26))]) ?_
      refine W.block ?_
      refine W.seq ?_
      refine W.rg ?_
      obtain ⟨w32, hw32, h⟩ := bind_some h
      refine WO.cm 7 [(2000000, 2000000)] [] (F := 67) (args := [.sb 2000000 3 1 0 n2, I6 v27, I6 (W6 (v27 + v21)), I6 v28, .clo F_g4 C_g4]) (hp := [(2000000, .obj 3 1 (M6 v26))]) (hp2 := [(2000000, .obj 3 1 (M6 w32))]) (r := .tup []) (run_sl_symMergeCmpFunc_int fuel v26 n2 v27 (W6 (v27 + v21)) v28 g4 F_g4 C_g4 hok_g4 hrun_g4 w32 hw32) (e1 := z8 [(36, .sb 2000000 3 1 0 n2), (37, I6 v27), (38, I6 v27), (39, I6 v21), (40, I6 (W6 (v27 + v21))), (41, I6 v28), (42, .clo F_g4 C_g4), (43, .tup []), (2000000, .obj 3 1 (M6 w32))]) ?_
      refine WO.fn (e2 := z3 [(8, I6 v28), (2000000, .obj 3 1 (M6 w32))]) ?_
      refine W.seq ?_
      refine W.rt (e2 := z3 [(7, I6 v28), (8, I6 v28), (2000000, .obj 3 1 (M6 w32))]) ?_
      refine W.rt (e2 := z3 [(7, I6 v28), (8, I6 (W6 (v28 + (W6 (2 * v21))))), (2000000, .obj 3 1 (M6 w32))]) ?_
      exact hN3 (w32, v28, (W6 (v28 + (W6 (2 * v21))))) h
     replace h := cond_f hb h
     refine W.exit ?_
     refine W.wk (env' := z3 [(7, I6 v27), (2000000, .obj 3 1 (M6 v26))]) ?_
     exact hK25 (v26, v27) h
   replace h := cond_f hb h
   have hr : PostM Tryd.prog Tryd.f44 (.tup []) [(2000000, .obj 3 1 (M6 v20))] .normal (z4 []) := ⟨by kernel_rfl, by kernel_rfl⟩
   cases h
   exact W.exit hr
 refine W.block ?_
 refine W.wk (env' := z2 []) ?_
 refine W.fuel (σ := ((List Int) × Int × Int)) (fun s => z1 [(7, I6 s.2.1), (8, I6 s.2.2), (2000000, .obj 3 1 (M6 s.1))]) (fun m0 s => sl_stableCmpFunc_int_l1 fuel n2 a3 g4 (sl_stableCmpFunc_int_j7 fuel n2 a3 g4) m0 s.1 s.2.1 s.2.2 = some r) (fun s h => ?_) (fun m1 s h hN1 => ?_) fuel (a1, 0, 20) h
 ·obtain ⟨v8, v9, v10⟩ := s
  have h : sl_stableCmpFunc_int_l1 fuel n2 a3 g4 (sl_stableCmpFunc_int_j7 fuel n2 a3 g4) 0 v8 v9 v10 = some r := h
  rw [sl_stableCmpFunc_int_l1.eq_1] at h
  cases h
 ·obtain ⟨v8, v9, v10⟩ := s
  have h : sl_stableCmpFunc_int_l1 fuel n2 a3 g4 (sl_stableCmpFunc_int_j7 fuel n2 a3 g4) (m1 + 1) v8 v9 v10 = some r := h
  rw [sl_stableCmpFunc_int_l1.eq_2] at h
  refine W.seq ?_
  refine W.seq ?_
  let z9 := fun t => z1 ((7, I6 v9) :: (8, I6 v10) :: t)
  refine W.rt (e2 := z9 [(13, .bool (decide (v10 ≤ a3))), (2000000, .obj 3 1 (M6 v8))]) ?_
  refine W.cb (decide (v10 ≤ a3)) (fun hb => ?_) (fun hb => ?_)
  ·replace h := cond_t hb h
   refine W.skip ?_
   refine W.wk (env' := z9 [(2000000, .obj 3 1 (M6 v8))]) ?_
   refine W.block ?_
   refine W.seq ?_
   refine W.rg ?_
   obtain ⟨w14, hw14, h⟩ := bind_some h
   refine WO.cm 4 [(2000000, 2000000)] [] (F := 66) (args := [.sb 2000000 3 1 0 n2, I6 v9, I6 v10, .clo F_g4 C_g4]) (hp := [(2000000, .obj 3 1 (M6 v8))]) (hp2 := [(2000000, .obj 3 1 (M6 w14))]) (r := .tup []) (run_sl_insertionSortCmpFunc_int fuel v8 n2 v9 v10 g4 F_g4 C_g4 hok_g4 hrun_g4 w14 hw14) (e1 := z9 [(14, .sb 2000000 3 1 0 n2), (15, I6 v9), (16, I6 v10), (17, .clo F_g4 C_g4), (18, .tup []), (2000000, .obj 3 1 (M6 w14))]) ?_
   refine WO.fn (e2 := z1 [(8, I6 v10), (2000000, .obj 3 1 (M6 w14))]) ?_
   refine W.seq ?_
   refine W.rt (e2 := z1 [(7, I6 v10), (8, I6 v10), (2000000, .obj 3 1 (M6 w14))]) ?_
   refine W.rt (e2 := z1 [(7, I6 v10), (8, I6 (W6 (v10 + 20))), (2000000, .obj 3 1 (M6 w14))]) ?_
   exact hN1 (w14, v10, (W6 (v10 + 20))) h
  replace h := cond_f hb h
  refine W.exit ?_
  refine W.wk (env' := z1 [(7, I6 v9), (2000000, .obj 3 1 (M6 v8))]) ?_
  exact hK7 (v8, v9) h
def sl_SortStableFunc_int (fuel : Nat) (a1 : (List Int)) (n2 : Nat) (g3 : (Int → Int → Option Int)) : Option (List Int) :=
 ((sl_stableCmpFunc_int fuel a1 n2 ((n2 : Nat) : Int) g3).bind fun w4 => (some w4))
theorem run_sl_SortStableFunc_int (fuel : Nat) (a1 : (List Int)) (n2 : Nat) (g3 : (Int → Int → Option Int)) (F_g3 : Nat) (C_g3 : List AV) (hok_g3 : okFn Tryd.prog F_g3 = true) (hrun_g3 : ∀ (x0 : Int) (x1 : Int) r, g3 x0 x1 = some r → Run Tryd.prog (.call F_g3 ([I6 x0, I6 x1] ++ C_g3) (I6 r))) (r : (List Int)) (h : sl_SortStableFunc_int fuel a1 n2 g3 = some r) : Run Tryd.prog (.callM 24 [.sb 2000000 3 1 0 n2, .clo F_g3 C_g3] [(2000000, .obj 3 1 (M6 a1))] (.tup []) [(2000000, .obj 3 1 (M6 r))]) := by
 refine cM Tryd.func24 rfl (env0 := [(0, .sb 2000000 3 1 0 n2), (1, .clo F_g3 C_g3), (2000000, .obj 3 1 (M6 a1))]) ?_
 unfold sl_SortStableFunc_int at h
 refine W.rg ?_
 obtain ⟨w4, hw4, h⟩ := bind_some h
 let z0 := fun t => EN ((0, .sb 2000000 3 1 0 n2) :: (1, .clo F_g3 C_g3) :: (4, .sb 2000000 3 1 0 n2) :: (5, .sb 2000000 3 1 0 n2) :: (6, I6 ((n2 : Nat) : Int)) :: (7, .clo F_g3 C_g3) :: (8, .tup []) :: (2000000, .obj 3 1 (M6 w4)) :: t)
 refine WO.cm 4 [(2000000, 2000000)] [] (F := 44) (args := [.sb 2000000 3 1 0 n2, I6 ((n2 : Nat) : Int), .clo F_g3 C_g3]) (hp := [(2000000, .obj 3 1 (M6 a1))]) (hp2 := [(2000000, .obj 3 1 (M6 w4))]) (r := .tup []) (run_sl_stableCmpFunc_int fuel a1 n2 ((n2 : Nat) : Int) g3 F_g3 C_g3 hok_g3 hrun_g3 w4 hw4) (e1 := z0 []) ?_
 refine WO.end0 (e2 := z0 []) (by kernel_rfl) ?_
 have hr : PostM Tryd.prog Tryd.f24 (.tup []) [(2000000, .obj 3 1 (M6 w4))] .normal (z0 []) := ⟨by kernel_rfl, by kernel_rfl⟩
 cases h
 exact hr
def ix_Back_1 (a1 : Int) (a2 : Int) (c3 : ByteArray) : Option Int :=
 ((sidx c3 a1).bind fun e6 => ((sidx c3 a2).bind fun e7 => (some (IntKind.wrap .i64 ((IntKind.wrap .i64 e6) - (IntKind.wrap .i64 e7))))))
theorem run_ix_Back_1 (a1 : Int) (a2 : Int) (c3 : ByteArray) (r : Int) (h : ix_Back_1 a1 a2 c3 = some r) : Run Tryd.prog (.call 25 [I6 a1, I6 a2, .ptr (.str c3)] (I6 r)) := by
 refine cW Tryd.func25 rfl (env0 := [(0, I6 a1), (1, I6 a2), (2, .ptr (.str c3))]) ?_
 unfold ix_Back_1 at h
 refine W.seq ?_
 let z0 := fun t => EN ((0, I6 a1) :: (1, I6 a2) :: (2, .ptr (.str c3)) :: t)
 refine W.rt (e2 := z0 []) ?_
 refine W.seq ?_
 refine W.rg ?_
 obtain ⟨e6, he6, h⟩ := bind_some h
 let z1 := fun t => z0 ((6, .str c3) :: (7, I6 a1) :: (8, .int .u8 e6) :: t)
 refine WO.pk 2 (if (0 : Int) ≤ a1 then (c3[Int.toNat a1]?).map fun b => AV.int .u8 b.toNat else none) (v := .int .u8 e6) (sidx_av he6) (e1 := z1 []) ?_
 obtain ⟨e7, he7, h⟩ := bind_some h
 refine WO.pk 3 (if (0 : Int) ≤ a2 then (c3[Int.toNat a2]?).map fun b => AV.int .u8 b.toNat else none) (v := .int .u8 e7) (sidx_av he7) (e1 := z1 [(9, I6 (W6 e6)), (10, .str c3), (11, I6 a2), (12, .int .u8 e7)]) ?_
 refine WO.fn (e2 := [(5, I6 (W6 ((W6 e6) - (W6 e7))))]) ?_
 refine W.wk (env' := [(5, I6 (W6 ((W6 e6) - (W6 e7))))]) ?_
 have hr : aresults Tryd.prog Tryd.f25 [(5, I6 (W6 ((W6 e6) - (W6 e7))))] = some (I6 (W6 ((W6 e6) - (W6 e7)))) := by kernel_rfl
 cases h
 exact W.ret hr
def st_IndexByte (a1 : ByteArray) (a2 : Int) : Option Int := some (Lib.indexByte a1.data.toList a2.toNat.toUInt8)
theorem run_st_IndexByte (a1 : ByteArray) (a2 : Int) (r : Int) (h : st_IndexByte a1 a2 = some r) : Run Tryd.prog (.call 26 [.str a1, .int .u8 a2] (I6 r)) := by
 unfold st_IndexByte at h
 cases h
 exact .ext rfl rfl fun w _ => (Tryd.strings_IndexByte a1 a2 w).mono fun e w' hh => ⟨hh.1, hh.2 ▸ RowKit.Below.refl _ _⟩
def ix_valid_j3 (v5 : Bool) : Option Bool :=
 (some v5)
def ix_valid (a1 : ByteArray) : Option Bool :=
 (bif (decide ((a1.size : Int) ≤ 200)) then ((ix_printable a1).bind fun w4 => ((ix_valid_j3) w4)) else ((ix_valid_j3) false))
theorem run_ix_valid (a1 : ByteArray) (r : Bool) (h : ix_valid a1 = some r) : Run Tryd.prog (.call 19 [.str a1] (.bool r)) := by
 refine cW Tryd.func19 rfl (env0 := [(0, .str a1)]) ?_
 unfold ix_valid at h
 refine W.seq ?_
 refine W.rt (e2 := [(0, .str a1)]) ?_
 refine W.seq ?_
 refine W.join (σ := (Bool)) (fun s => [(2, .bool s)]) (fun s => (ix_valid_j3) s = some r) (fun s h => ?_) (fun hK3 => ?_)
 ·obtain ⟨v5, rfl⟩ : ∃ x, x = s := ⟨s, rfl⟩
  have h : (ix_valid_j3) v5 = some r := h
  unfold ix_valid_j3 at h
  refine W.wk (env' := [(2, .bool v5)]) ?_
  have hr : aresults Tryd.prog Tryd.f19 [(2, .bool v5)] = some (.bool v5) := by kernel_rfl
  cases h
  exact W.ret hr
 refine W.rg ?_
 let z0 := fun t => EN ((0, .str a1) :: (3, .str a1) :: (4, I6 (a1.size : Int)) :: t)
 refine WO.bk 4 (fun b => z0 [(5, .bool b), (6, .bool b)]) (decide ((a1.size : Int) ≤ 200)) (fun hb => ?_) (fun hb => ?_)
 ·replace h := cond_t hb h
  obtain ⟨w4, hw4, h⟩ := bind_some h
  refine WO.ck 1 (F := 35) (l := [.str a1]) (C := []) (r := .bool w4) (run_ix_printable a1 w4 hw4) (e1 := z0 [(5, .bool true), (6, .bool true), (7, .str a1), (8, .bool w4)]) ?_
  refine WO.fn (e2 := [(2, .bool w4)]) ?_
  exact hK3 w4 h
 replace h := cond_f hb h
 refine WO.fn (e2 := [(2, .bool false)]) ?_
 exact hK3 false h
def sl_SortFunc_int (a1 : (List Int)) (n1 : Nat) (c2 : ByteArray) : Option (List Int) := chk (decide (n1 = a1.length ∧ a1 ≠ [] ∧ a1.length < 4611686018427387904 ∧ (a1.all fun z => decide (0 ≤ z) && decide (z ≤ (c2.size : Int))) = true)) (some (sortSuf c2 a1))
theorem run_sl_SortFunc_int (a1 : (List Int)) (n1 : Nat) (c2 : ByteArray) (r : (List Int)) (h : sl_SortFunc_int a1 n1 c2 = some r) : Run Tryd.prog (.callM 37 [.sb 2000000 3 1 0 n1, .clo 38 [.ptr (.str c2)]] [(2000000, .obj 3 1 (M6 a1))] (.tup []) [(2000000, .obj 3 1 (M6 r))]) := by
 unfold sl_SortFunc_int at h
 obtain ⟨hp, h⟩ := chk_some h
 cases h
 obtain ⟨h1, h2, h3, h4⟩ := of_decide_eq_true hp
 subst h1
 exact .extM (sortSuf37 h2 h3 h4) (fun id x hx => by simp only [look] at hx; split at hx <;> cases hx; rfl)
def ix_suffixes_j5 (a1 : ByteArray) (v13 : (List Int)) : Option (List Int) :=
 ((sl_SortFunc_int v13 (Int.toNat (IntKind.wrap .i64 ((a1.size : Int) + 1))) a1).bind fun w15 => (some (snap 0 (Int.toNat (IntKind.wrap .i64 ((a1.size : Int) + 1))) w15)))
def ix_suffixes_l1 (a1 : ByteArray) (K5 : ((List Int) → Option (List Int))) : List Nat → Nat → (List Int) → Option (List Int)
 | [], k1, v7 => (K5 v7)
 | x1 :: r1, k1, v7 => (chk (decide ((0 : Int) ≤ (k1 : Int) ∧ (k1 : Int) < (((Int.toNat (IntKind.wrap .i64 ((a1.size : Int) + 1))) : Nat) : Int))) ((upd v7 (0 + Int.toNat (k1 : Int)) (k1 : Int)).bind fun u11 => ((ix_suffixes_l1 a1 K5 r1 (k1 + 1)) u11)))
def ix_suffixes (a1 : ByteArray) : Option (List Int) :=
 (chk (mkOk 8 (IntKind.wrap .i64 ((a1.size : Int) + 1))) (chk (lenOk (List.range (Int.toNat (((Int.toNat (IntKind.wrap .i64 ((a1.size : Int) + 1))) : Nat) : Int)))) (ix_suffixes_l1 a1 (ix_suffixes_j5 a1) (List.range (Int.toNat (((Int.toNat (IntKind.wrap .i64 ((a1.size : Int) + 1))) : Nat) : Int))) 0 (List.replicate (Int.toNat (IntKind.wrap .i64 ((a1.size : Int) + 1))) 0))))
theorem run_ix_suffixes (a1 : ByteArray) (r : (List Int)) (h : ix_suffixes a1 = some r) : Run Tryd.prog (.call 21 [.str a1] (l3 none r)) := by
 refine cW Tryd.func21 rfl (env0 := [(0, .str a1)]) ?_
 unfold ix_suffixes at h
 refine W.seq ?_
 refine W.rg ?_
 refine WO.steps 2 (e1 := [(0, .str a1), (1, .box [.str a1]), (2, .nils)]) (by kernel_rfl) ?_
 refine WO.mv [.nil 2 3 1 1200002] (env' := [(0, .str a1), (1, .box [.str a1]), (2, .sb 1200002 3 1 0 (([] : (List Int)).length)), (1200002, .obj 3 1 (M6 ([] : (List Int))))]) (by kernel_rfl) ?_
 let z0 := fun t => EN ((1, .ptr (.str a1)) :: t)
 refine WO.fin [1] [1] [] [] (e2 := z0 []) (by kernel_rfl) (fun _ h => h) ?_
 refine W.seq ?_
 refine W.rg ?_
 obtain ⟨hc4, h⟩ := chk_some h
 refine WO.makeK 3 (d := 8) (e := 3) (s := 1) (bytes := 8) (m := (W6 ((a1.size : Int) + 1))) (z := (.int .i64 0)) (zs := (M6 (List.replicate (Int.toNat (W6 ((a1.size : Int) + 1))) 0))) (env1 := [(1, .ptr (.str a1)), (5, .str a1), (6, I6 (a1.size : Int)), (7, I6 (W6 ((a1.size : Int) + 1))), (8, .sb 1000008 3 1 0 (Int.toNat (W6 ((a1.size : Int) + 1))))]) (by kernel_rfl) hc4 (by first | exact rep_map | exact (rep_map (f := (AV.int .i64)))) (e1 := z0 [(5, .str a1), (6, I6 (a1.size : Int)), (7, I6 (W6 ((a1.size : Int) + 1))), (8, .sb 1000008 3 1 0 (Int.toNat (W6 ((a1.size : Int) + 1)))), (1000008, .obj 3 1 (M6 (List.replicate (Int.toNat (W6 ((a1.size : Int) + 1))) 0)))]) (by kernel_rfl) ?_
 let z1 := fun t => z0 ((3, .sb 1000008 3 1 0 (Int.toNat (W6 ((a1.size : Int) + 1)))) :: t)
 refine WO.fn (e2 := z1 [(1000008, .obj 3 1 (M6 (List.replicate (Int.toNat (W6 ((a1.size : Int) + 1))) 0)))]) ?_
 refine W.seq ?_
 refine W.join (σ := ((List Int))) (fun s => z1 [(1000008, .obj 3 1 (M6 s))]) (fun s => (ix_suffixes_j5 a1) s = some r) (fun s h => ?_) (fun hK5 => ?_)
 ·obtain ⟨v13, rfl⟩ : ∃ x, x = s := ⟨s, rfl⟩
  have h : (ix_suffixes_j5 a1) v13 = some r := h
  unfold ix_suffixes_j5 at h
  refine W.seq ?_
  refine W.rg ?_
  obtain ⟨w15, hw15, h⟩ := bind_some h
  refine WO.cm 2 [(1000008, 2000000)] [] (F := 37) (args := [.sb 2000000 3 1 0 (Int.toNat (W6 ((a1.size : Int) + 1))), .clo 38 [.ptr (.str a1)]]) (hp := [(2000000, .obj 3 1 (M6 v13))]) (hp2 := [(2000000, .obj 3 1 (M6 w15))]) (r := .tup []) (run_sl_SortFunc_int v13 (Int.toNat (W6 ((a1.size : Int) + 1))) a1 w15 hw15) (e1 := z1 [(19, .sb 1000008 3 1 0 (Int.toNat (W6 ((a1.size : Int) + 1)))), (20, .clo 38 [.ptr (.str a1)]), (21, .tup []), (1000008, .obj 3 1 (M6 w15))]) ?_
  refine WO.fn (e2 := [(3, .sb 1000008 3 1 0 (Int.toNat (W6 ((a1.size : Int) + 1)))), (1000008, .obj 3 1 (M6 w15))]) ?_
  refine W.seq ?_
  refine W.rt (e2 := [(2, .sb 1000008 3 1 0 (Int.toNat (W6 ((a1.size : Int) + 1)))), (1000008, .obj 3 1 (M6 w15))]) ?_
  let z2 := fun t => EN ((2, l3 none (snap 0 (Int.toNat (W6 ((a1.size : Int) + 1))) w15)) :: t)
  refine W.mv [.frz 1000008] (env' := z2 []) ((by kernel_rfl : mvAll [(2, .sb 1000008 3 1 0 (Int.toNat (W6 ((a1.size : Int) + 1)))), (1000008, .obj 3 1 (M6 w15))] [.frz 1000008] = [(2, .lst 3 1 none (snapA 0 (Int.toNat (W6 ((a1.size : Int) + 1))) (M6 w15)))]).trans (by first | (simp only [snap_map, snap_full, snap_rep]; done) | (simp only [snap_map, snap_full, snap_rep]; kernel_rfl))) ?_
  refine W.wk (env' := z2 []) ?_
  have hr : aresults Tryd.prog Tryd.f21 [(2, l3 none (snap 0 (Int.toNat (W6 ((a1.size : Int) + 1))) w15))] = some (l3 none (snap 0 (Int.toNat (W6 ((a1.size : Int) + 1))) w15)) := by kernel_rfl
  cases h
  exact W.ret hr
 refine W.seq ?_
 let z3 := fun t => z1 ((10, I6 (((Int.toNat (W6 ((a1.size : Int) + 1))) : Nat) : Int)) :: t)
 refine W.rt (e2 := z3 [(11, .int .i64 0), (1000008, .obj 3 1 (M6 (List.replicate (Int.toNat (W6 ((a1.size : Int) + 1))) 0)))]) ?_
 refine W.block ?_
 obtain ⟨hl1, h⟩ := chk_some h
 refine W.wk (env' := z3 [(11, I6 ((0 : Nat) : Int)), (1000008, .obj 3 1 (M6 (List.replicate (Int.toNat (W6 ((a1.size : Int) + 1))) 0)))]) ?_
 refine W.range (σ := ((List Int))) (List.range (Int.toNat (((Int.toNat (W6 ((a1.size : Int) + 1))) : Nat) : Int))) (fun k1 s => z3 [(11, I6 (k1 : Int)), (1000008, .obj 3 1 (M6 s))]) (fun r0 k0 s => ix_suffixes_l1 a1 (ix_suffixes_j5 a1) r0 k0 s = some r) (fun s h => ?_) (fun x1 r1 k1 s hx1 hk1 h hN1 => ?_) (List.replicate (Int.toNat (W6 ((a1.size : Int) + 1))) 0) h
 ·obtain ⟨v7, rfl⟩ : ∃ x, x = s := ⟨s, rfl⟩
  have h : ix_suffixes_l1 a1 (ix_suffixes_j5 a1) [] ((List.range (Int.toNat (((Int.toNat (W6 ((a1.size : Int) + 1))) : Nat) : Int)))).length v7 = some r := h
  rw [ix_suffixes_l1.eq_1] at h
  refine W.seq ?_
  refine W.rg ?_
  let z4 := fun t => z3 ((11, I6 (((List.range (Int.toNat (((Int.toNat (W6 ((a1.size : Int) + 1))) : Nat) : Int)))).length : Int)) :: (12, .bool false) :: (1000008, .obj 3 1 (M6 v7)) :: t)
  refine WO.pk 0 (some (.bool (decide ((((List.range (Int.toNat (((Int.toNat (W6 ((a1.size : Int) + 1))) : Nat) : Int)))).length : Int) < (((Int.toNat (W6 ((a1.size : Int) + 1))) : Nat) : Int))))) (v := .bool false) (by rw [ltr_false (n := (((Int.toNat (W6 ((a1.size : Int) + 1))) : Nat) : Int))]) (e1 := z4 []) ?_
  refine WO.fn (e2 := z4 []) ?_
  refine W.seq ?_
  refine W.cb false (fun h => Bool.noConfusion h) (fun _ => ?_)
  refine W.exit ?_
  refine W.wk (env' := z1 [(1000008, .obj 3 1 (M6 v7))]) ?_
  exact hK5 v7 h
 ·obtain ⟨v7, rfl⟩ : ∃ x, x = s := ⟨s, rfl⟩
  have h : ix_suffixes_l1 a1 (ix_suffixes_j5 a1) (x1 :: r1) k1 v7 = some r := h
  rw [ix_suffixes_l1.eq_2] at h
  refine W.seq ?_
  refine W.rg ?_
  let z5 := fun t => z3 ((11, I6 (k1 : Int)) :: (12, .bool true) :: (1000008, .obj 3 1 (M6 v7)) :: t)
  refine WO.pk 0 (some (.bool (decide ((k1 : Int) < (((Int.toNat (W6 ((a1.size : Int) + 1))) : Nat) : Int))))) (v := .bool true) (by rw [ltr_true hk1]) (e1 := z5 []) ?_
  refine WO.fn (e2 := z5 []) ?_
  refine W.seq ?_
  refine W.cb true (fun _ => ?_) (fun h => Bool.noConfusion h)
  refine W.skip ?_
  refine W.wk (env' := z3 [(11, I6 (k1 : Int)), (1000008, .obj 3 1 (M6 v7))]) ?_
  refine W.seq ?_
  refine W.block ?_
  refine W.seq ?_
  let z6 := fun t => z1 ((4, I6 (k1 : Int)) :: (10, I6 (((Int.toNat (W6 ((a1.size : Int) + 1))) : Nat) : Int)) :: (11, I6 (k1 : Int)) :: t)
  refine W.rt (e2 := z6 [(1000008, .obj 3 1 (M6 v7))]) ?_
  refine W.rg ?_
  obtain ⟨hc10, h⟩ := chk_some h
  let z7 := fun t => z6 ((14, .sb 1000008 3 1 0 (Int.toNat (W6 ((a1.size : Int) + 1)))) :: (15, I6 (k1 : Int)) :: (16, I6 (k1 : Int)) :: (17, .pe 1000008 1 (0 + Int.toNat (k1 : Int)) 0) :: t)
  refine WO.pi 3 (v := .pe 1000008 1 (0 + Int.toNat (k1 : Int)) 0) hc10 (e1 := z7 [(1000008, .obj 3 1 (M6 v7))]) ?_
  obtain ⟨u11, hu11, h⟩ := bind_some h
  obtain ⟨y12, hyy12, hzy12⟩ := upd_some hu11
  refine WO.sk 0 (id := 1000008) (e := 3) (s := 1) (off := 0) (vs := [I6 (k1 : Int)]) (AV.int .i64) hyy12 hzy12 (e1 := z7 [(1000008, .obj 3 1 (M6 u11))]) ?_
  refine WO.fn (e2 := z3 [(11, I6 (k1 : Int)), (1000008, .obj 3 1 (M6 u11))]) ?_
  refine W.rg ?_
  refine WO.pk 0 (some (I6 (IntKind.wrap .i64 ((k1 : Int) + 1)))) (v := I6 ((k1 + 1 : Nat) : Int)) (by rw [wrap_succ hl1 hk1]) (e1 := z0 [(3, .sb 1000008 3 1 0 (Int.toNat (IntKind.wrap .i64 ((a1.size : Int) + 1)))), (10, I6 (((Int.toNat (IntKind.wrap .i64 ((a1.size : Int) + 1))) : Nat) : Int)), (11, I6 (k1 : Int)), (18, I6 ((k1 + 1 : Nat) : Int)), (1000008, .obj 3 1 (M6 u11))]) ?_
  refine WO.fn (e2 := z3 [(11, I6 ((k1 + 1 : Nat) : Int)), (1000008, .obj 3 1 (M6 u11))]) ?_
  exact hN1 u11 h
def ix_transform (a1 : ByteArray) (a2 : (List Int)) : Option ByteArray := chk (decide ((a2.all fun z => decide (0 ≤ z) && decide (z ≤ (a1.size : Int))) = true ∧ a2 ≠ [] ∧ a2.length ≤ 1000000000 ∧ a1.size ≤ 1000000000)) (some (trS a1 a2))
theorem run_ix_transform (a1 : ByteArray) (a2 : (List Int)) (r : ByteArray) (h : ix_transform a1 a2 = some r) : Run Tryd.prog (.call 20 [.str a1, l3 none a2] (.str r)) := by
 unfold ix_transform at h
 obtain ⟨hp, h⟩ := chk_some h
 cases h
 obtain ⟨h1, h2, h3, h4⟩ := of_decide_eq_true hp
 exact .ext0 (transform20 h1 h2 h3 h4)
def ix_Back_j40 (v37 : (List Int)) (v44 : Bool) : Option (ByteArray × Int) :=
 (bif v44 then (some ((strOfI v37), 0)) else (some ((ByteArray.mk #[]), 4)))
def ix_Back_j25 (a1 : ByteArray) (v37 : (List Int)) : Option (ByteArray × Int) :=
 ((ix_valid (strOfI v37)).bind fun w41 => (bif w41 then ((ix_suffixes (strOfI v37)).bind fun w42 => ((ix_transform (strOfI v37) w42).bind fun w43 => ((ix_Back_j40 v37) (w43.toList == a1.toList)))) else ((ix_Back_j40 v37) false)))
def ix_Back_l2 (a1 : ByteArray) (w23 : (List Int)) (K25 : ((List Int) → Option (ByteArray × Int))) : Nat → (List Int) → Int → Option (ByteArray × Int)
 | 0, _, _ => none
 | m2 + 1, v28, v29 => (bif (decide ((v28.length : Int) < (IntKind.wrap .i64 ((a1.size : Int) - 1)))) then (chk (decide ((0 : Int) ≤ v29 ∧ v29 < (((Int.toNat (a1.size : Int)) : Nat) : Int))) ((w23[(0 + Int.toNat v29)]?).bind fun e34 => ((sidx a1 e34).bind fun e35 => (chk (capOk 1 ((v28 ++ [e35])).length) ((ix_Back_l2 a1 w23 K25 m2) (v28 ++ [e35]) e34))))) else (K25 v28))
def ix_Back_j13 (fuel : Nat) (a1 : ByteArray) (v21 : (List Int)) : Option (ByteArray × Int) :=
 ((sl_SortStableFunc_int fuel v21 (Int.toNat (a1.size : Int)) (fun y0 y1 => ix_Back_1 y0 y1 a1)).bind fun w23 => ((st_IndexByte a1 10).bind fun w27 => (ix_Back_l2 a1 w23 (ix_Back_j25 a1) fuel ([] : (List Int)) w27)))
def ix_Back_l1 (a1 : ByteArray) (K13 : ((List Int) → Option (ByteArray × Int))) : List Nat → Nat → (List Int) → Option (ByteArray × Int)
 | [], k1, v15 => (K13 v15)
 | x1 :: r1, k1, v15 => (chk (decide ((0 : Int) ≤ (k1 : Int) ∧ (k1 : Int) < (((Int.toNat (a1.size : Int)) : Nat) : Int))) ((upd v15 (0 + Int.toNat (k1 : Int)) (k1 : Int)).bind fun u19 => ((ix_Back_l1 a1 K13 r1 (k1 + 1)) u19)))
def ix_Back (fuel : Nat) (a1 : ByteArray) : Option (ByteArray × Int) :=
 ((ix_column a1).bind fun w5 => (bif (!w5) then (some ((ByteArray.mk #[]), 2)) else ((st_Count a1 (ByteArray.mk #[10])).bind fun w9 => (bif (w9 != 1) then (some ((ByteArray.mk #[]), 4)) else (chk (mkOk 8 (a1.size : Int)) (chk (lenOk (List.range (Int.toNat (((Int.toNat (a1.size : Int)) : Nat) : Int)))) (ix_Back_l1 a1 (ix_Back_j13 fuel a1) (List.range (Int.toNat (((Int.toNat (a1.size : Int)) : Nat) : Int))) 0 (List.replicate (Int.toNat (a1.size : Int)) 0))))))))
theorem run_ix_Back (fuel : Nat) (a1 : ByteArray) (r : (ByteArray × Int)) (h : ix_Back fuel a1 = some r) : Run Tryd.prog (.call 9 [.str a1] (.tup [.str r.1, I6 r.2])) := by
 refine cW Tryd.func9 rfl (env0 := [(0, .str a1)]) ?_
 unfold ix_Back at h
 refine W.seq ?_
 let z0 := fun t => EN ((1, .ptr (.str a1)) :: t)
 refine W.regT [1] [1] [] [] (e2 := z0 []) (by kernel_rfl) (by kernel_rfl) (fun _ h => h) ?_
 refine W.seq ?_
 refine W.seq ?_
 refine W.rg ?_
 obtain ⟨w5, hw5, h⟩ := bind_some h
 refine WO.ck 1 (F := 22) (l := [.str a1]) (C := []) (r := .bool w5) (run_ix_column a1 w5 hw5) (e1 := z0 [(9, .str a1), (10, .bool w5)]) ?_
 refine WO.fn (e2 := z0 [(11, .bool (!w5))]) ?_
 refine W.cb (!w5) (fun hb => ?_) (fun hb => ?_)
 ·replace h := cond_t hb h
  refine W.seq ?_
  let z1 := fun t => EN ((2, .str (ByteArray.mk #[])) :: (3, .int .i64 2) :: t)
  refine W.rt (e2 := z1 []) ?_
  refine W.wk (env' := z1 []) ?_
  have hr : aresults Tryd.prog Tryd.f9 [(2, .str (ByteArray.mk #[])), (3, .int .i64 2)] = some (.tup [.str (ByteArray.mk #[]), .int .i64 2]) := by kernel_rfl
  cases h
  exact W.ret hr
 replace h := cond_f hb h
 refine W.skip ?_
 refine W.wk (env' := z0 []) ?_
 refine W.seq ?_
 refine W.seq ?_
 refine W.rg ?_
 obtain ⟨w9, hw9, h⟩ := bind_some h
 refine WO.ck 1 (F := 23) (l := [.str a1, .str (ByteArray.mk #[10])]) (C := []) (r := I6 w9) (run_st_Count a1 (ByteArray.mk #[10]) w9 hw9) (e1 := z0 [(12, .str a1), (13, I6 w9)]) ?_
 refine WO.fn (e2 := z0 [(14, .bool (w9 != 1))]) ?_
 refine W.cb (w9 != 1) (fun hb => ?_) (fun hb => ?_)
 ·replace h := cond_t hb h
  refine W.seq ?_
  let z2 := fun t => EN ((2, .str (ByteArray.mk #[])) :: (3, .int .i64 4) :: t)
  refine W.rt (e2 := z2 []) ?_
  refine W.wk (env' := z2 []) ?_
  have hr : aresults Tryd.prog Tryd.f9 [(2, .str (ByteArray.mk #[])), (3, .int .i64 4)] = some (.tup [.str (ByteArray.mk #[]), .int .i64 4]) := by kernel_rfl
  cases h
  exact W.ret hr
 replace h := cond_f hb h
 refine W.skip ?_
 refine W.wk (env' := z0 []) ?_
 refine W.seq ?_
 refine W.rg ?_
 obtain ⟨hc12, h⟩ := chk_some h
 refine WO.makeK 2 (d := 17) (e := 3) (s := 1) (bytes := 8) (m := (a1.size : Int)) (z := (.int .i64 0)) (zs := (M6 (List.replicate (Int.toNat (a1.size : Int)) 0))) (env1 := [(1, .ptr (.str a1)), (15, .str a1), (16, I6 (a1.size : Int)), (17, .sb 1000017 3 1 0 (Int.toNat (a1.size : Int)))]) (by kernel_rfl) hc12 (by first | exact rep_map | exact (rep_map (f := (AV.int .i64)))) (e1 := z0 [(15, .str a1), (16, I6 (a1.size : Int)), (17, .sb 1000017 3 1 0 (Int.toNat (a1.size : Int))), (1000017, .obj 3 1 (M6 (List.replicate (Int.toNat (a1.size : Int)) 0)))]) (by kernel_rfl) ?_
 let z3 := fun t => z0 ((4, .sb 1000017 3 1 0 (Int.toNat (a1.size : Int))) :: t)
 refine WO.fn (e2 := z3 [(1000017, .obj 3 1 (M6 (List.replicate (Int.toNat (a1.size : Int)) 0)))]) ?_
 refine W.seq ?_
 refine W.join (σ := ((List Int))) (fun s => z3 [(1000017, .obj 3 1 (M6 s))]) (fun s => (ix_Back_j13 fuel a1) s = some r) (fun s h => ?_) (fun hK13 => ?_)
 ·obtain ⟨v21, rfl⟩ : ∃ x, x = s := ⟨s, rfl⟩
  have h : (ix_Back_j13 fuel a1) v21 = some r := h
  unfold ix_Back_j13 at h
  refine W.seq ?_
  refine W.rg ?_
  obtain ⟨w23, hw23, h⟩ := bind_some h
  refine WO.cm 2 [(1000017, 2000000)] [] (F := 24) (args := [.sb 2000000 3 1 0 (Int.toNat (a1.size : Int)), .clo 25 [.ptr (.str a1)]]) (hp := [(2000000, .obj 3 1 (M6 v21))]) (hp2 := [(2000000, .obj 3 1 (M6 w23))]) (r := .tup []) (run_sl_SortStableFunc_int fuel v21 (Int.toNat (a1.size : Int)) (fun y0 y1 => ix_Back_1 y0 y1 a1) 25 [.ptr (.str a1)] (by kernel_rfl) (fun y0 y1 r h => run_ix_Back_1 y0 y1 a1 r h) w23 hw23) (e1 := z3 [(28, .sb 1000017 3 1 0 (Int.toNat (a1.size : Int))), (29, .clo 25 [.ptr (.str a1)]), (30, .tup []), (1000017, .obj 3 1 (M6 w23))]) ?_
  refine WO.fn (e2 := z3 [(1000017, .obj 3 1 (M6 w23))]) ?_
  refine W.seq ?_
  refine W.rt (e2 := z3 [(6, .nils), (1000017, .obj 3 1 (M6 w23))]) ?_
  refine W.seq ?_
  refine W.join (σ := ((List Int))) (fun s => z0 [(6, l5 (some 10600) s)]) (fun s => (ix_Back_j25 a1) s = some r) (fun s h => ?_) (fun hK25 => ?_)
  ·obtain ⟨v37, rfl⟩ : ∃ x, x = s := ⟨s, rfl⟩
   have h : (ix_Back_j25 a1) v37 = some r := h
   unfold ix_Back_j25 at h
   refine W.seq ?_
   refine W.seq ?_
   refine W.rg ?_
   refine WO.pk 1 (match true, optAll ((M8 v37).map byteOf) with | true, some ns => some (AV.str ⟨(ns.map fun n => UInt8.ofNat n.toNat).toArray⟩) | _, _ => none) (v := .str (strOfI v37)) (strOf_av (f := strOfI) v37) (e1 := z0 [(6, l5 (some 10600) v37), (49, l5 (some 10600) v37), (50, .str (strOfI v37))]) ?_
   let z4 := fun t => z0 ((8, .str (strOfI v37)) :: t)
   refine WO.fn (e2 := z4 []) ?_
   refine W.seq ?_
   refine W.join (σ := (Bool)) (fun s => [(8, .str (strOfI v37)), (60, .bool s)]) (fun s => (ix_Back_j40 v37) s = some r) (fun s h => ?_) (fun hK40 => ?_)
   ·obtain ⟨v44, rfl⟩ : ∃ x, x = s := ⟨s, rfl⟩
    have h : (ix_Back_j40 v37) v44 = some r := h
    unfold ix_Back_j40 at h
    refine W.cb v44 (fun hb => ?_) (fun hb => ?_)
    ·replace h := cond_t hb h
     refine W.seq ?_
     refine W.rt (e2 := [(2, .str (strOfI v37)), (3, .int .i64 0)]) ?_
     refine W.wk (env' := [(2, .str (strOfI v37)), (3, .int .i64 0)]) ?_
     have hr : aresults Tryd.prog Tryd.f9 [(2, .str (strOfI v37)), (3, .int .i64 0)] = some (.tup [.str (strOfI v37), .int .i64 0]) := by kernel_rfl
     cases h
     exact W.ret hr
    replace h := cond_f hb h
    refine W.skip ?_
    refine W.wk (env' := []) ?_
    refine W.seq ?_
    refine W.rt (e2 := [(2, .str (ByteArray.mk #[])), (3, .int .i64 4)]) ?_
    refine W.wk (env' := [(2, .str (ByteArray.mk #[])), (3, .int .i64 4)]) ?_
    have hr : aresults Tryd.prog Tryd.f9 [(2, .str (ByteArray.mk #[])), (3, .int .i64 4)] = some (.tup [.str (ByteArray.mk #[]), .int .i64 4]) := by kernel_rfl
    cases h
    exact W.ret hr
   refine W.rg ?_
   obtain ⟨w41, hw41, h⟩ := bind_some h
   let z5 := fun t => z4 ((51, .str (strOfI v37)) :: t)
   refine WO.ck 1 (F := 19) (l := [.str (strOfI v37)]) (C := []) (r := .bool w41) (run_ix_valid (strOfI v37) w41 hw41) (e1 := z5 [(52, .bool w41)]) ?_
   refine WO.bk 1 (fun b => z5 [(52, .bool b), (53, .bool b)]) w41 (fun hb => ?_) (fun hb => ?_)
   ·replace h := cond_t hb h
    obtain ⟨w42, hw42, h⟩ := bind_some h
    let z6 := fun t => z5 ((52, .bool true) :: (53, .bool true) :: (54, .str (strOfI v37)) :: (55, .str (strOfI v37)) :: (56, l3 none w42) :: t)
    refine WO.ck 2 (F := 21) (l := [.str (strOfI v37)]) (C := []) (r := l3 none w42) (run_ix_suffixes (strOfI v37) w42 hw42) (e1 := z6 []) ?_
    obtain ⟨w43, hw43, h⟩ := bind_some h
    refine WO.ck 0 (F := 20) (l := [.str (strOfI v37), l3 none w42]) (C := []) (r := .str w43) (run_ix_transform (strOfI v37) w42 w43 hw43) (e1 := z6 [(57, .str w43)]) ?_
    refine WO.fn (e2 := [(8, .str (strOfI v37)), (60, .bool (w43.toList == a1.toList))]) ?_
    exact hK40 (w43.toList == a1.toList) h
   replace h := cond_f hb h
   refine WO.fn (e2 := [(8, .str (strOfI v37)), (60, .bool false)]) ?_
   exact hK40 false h
  refine W.seq ?_
  refine W.rg ?_
  obtain ⟨w27, hw27, h⟩ := bind_some h
  refine WO.ck 1 (F := 26) (l := [.str a1, .int .u8 10]) (C := []) (r := I6 w27) (run_st_IndexByte a1 10 w27 hw27) (e1 := z3 [(6, .nils), (31, .str a1), (32, I6 w27), (1000017, .obj 3 1 (M6 w23))]) ?_
  refine WO.fn (e2 := z3 [(6, .nils), (7, I6 w27), (1000017, .obj 3 1 (M6 w23))]) ?_
  refine W.block ?_
  refine W.weak [1, 4, 6, 7, 1000017] [] [(6, 0, 5, 1, 10600)] [] (env' := z3 [(6, l5 (some 10600) ([] : (List Int))), (7, I6 w27), (1000017, .obj 3 1 (M6 w23))]) (by kernel_rfl) ?_
  refine W.fuel (σ := ((List Int) × Int)) (fun s => z3 [(6, l5 (some 10600) s.1), (7, I6 s.2), (1000017, .obj 3 1 (M6 w23))]) (fun m0 s => ix_Back_l2 a1 w23 (ix_Back_j25 a1) m0 s.1 s.2 = some r) (fun s h => ?_) (fun m2 s h hN2 => ?_) fuel (([] : (List Int)), w27) h
  ·obtain ⟨v28, v29⟩ := s
   have h : ix_Back_l2 a1 w23 (ix_Back_j25 a1) 0 v28 v29 = some r := h
   rw [ix_Back_l2.eq_1] at h
   cases h
  ·obtain ⟨v28, v29⟩ := s
   have h : ix_Back_l2 a1 w23 (ix_Back_j25 a1) (m2 + 1) v28 v29 = some r := h
   rw [ix_Back_l2.eq_2] at h
   refine W.seq ?_
   refine W.seq ?_
   refine W.rg ?_
   let z7 := fun t => z3 ((6, l5 (some 10600) v28) :: (7, I6 v29) :: t)
   refine WO.pk 1 (some (I6 ((M8 v28).length : Int))) (v := I6 (v28.length : Int)) (by rw [List.length_map]) (e1 := z7 [(33, l5 (some 10600) v28), (34, I6 (v28.length : Int)), (1000017, .obj 3 1 (M6 w23))]) ?_
   refine WO.fn (e2 := z7 [(38, .bool (decide ((v28.length : Int) < (W6 ((a1.size : Int) - 1))))), (1000017, .obj 3 1 (M6 w23))]) ?_
   refine W.cb (decide ((v28.length : Int) < (W6 ((a1.size : Int) - 1)))) (fun hb => ?_) (fun hb => ?_)
   ·replace h := cond_t hb h
    refine W.skip ?_
    refine W.wk (env' := z7 [(1000017, .obj 3 1 (M6 w23))]) ?_
    refine W.block ?_
    refine W.seq ?_
    refine W.rg ?_
    obtain ⟨hc33, h⟩ := chk_some h
    let z8 := fun t => z7 ((39, .sb 1000017 3 1 0 (Int.toNat (a1.size : Int))) :: (40, I6 v29) :: (41, .pe 1000017 1 (0 + Int.toNat v29) 0) :: t)
    refine WO.pi 2 (v := .pe 1000017 1 (0 + Int.toNat v29) 0) hc33 (e1 := z8 [(1000017, .obj 3 1 (M6 w23))]) ?_
    obtain ⟨e34, he34, h⟩ := bind_some h
    refine WO.pk 0 (match (M6 w23)[(0 + Int.toNat v29)]? with | some y => cut Tryd.prog 3 (y.cells.map AV.strip) 0 | none => none) (v := I6 e34) ((pe_ld (f := (AV.int .i64)) (G := (fun y => cut Tryd.prog 3 (y.cells.map AV.strip) 0)) he34).trans (by kernel_rfl)) (e1 := z8 [(42, I6 e34), (1000017, .obj 3 1 (M6 w23))]) ?_
    let z9 := fun t => z3 ((6, l5 (some 10600) v28) :: (7, I6 e34) :: t)
    refine WO.fn (e2 := z9 [(1000017, .obj 3 1 (M6 w23))]) ?_
    refine W.rg ?_
    obtain ⟨e35, he35, h⟩ := bind_some h
    refine WO.pk 3 (if (0 : Int) ≤ e34 then (a1[Int.toNat e34]?).map fun b => AV.int .u8 b.toNat else none) (v := .int .u8 e35) (sidx_av he35) (e1 := z9 [(43, l5 (some 10600) v28), (44, .str a1), (45, I6 e34), (46, .int .u8 e35), (1000017, .obj 3 1 (M6 w23))]) ?_
    obtain ⟨hc36, h⟩ := chk_some h
    refine WO.appendK 1 (d := 48) (e := 5) (s := 1) (bytes := 1) (xs := (M8 v28)) (ys := (M8 [e35])) (zs := (M8 (v28 ++ [e35]))) (env1 := [(1, .ptr (.str a1)), (4, .sb 1000017 3 1 0 (Int.toNat (a1.size : Int))), (6, l5 none v28), (7, I6 e34), (43, l5 none v28), (44, .str a1), (45, I6 e34), (46, .int .u8 e35), (47, l5 (some 47) [e35]), (1000017, .obj 3 1 (M6 w23))]) (by kernel_rfl) (List.map_append.symm) (by rw [List.length_map]; exact hc36) (e1 := z3 [(6, l5 none v28), (7, I6 e34), (43, l5 none v28), (44, .str a1), (45, I6 e34), (46, .int .u8 e35), (47, l5 (some 47) [e35]), (48, l5 (some 48) (v28 ++ [e35])), (1000017, .obj 3 1 (M6 w23))]) (by kernel_rfl) ?_
    refine WO.fin [1, 4, 6, 7, 1000017] [] [] [(48, some 10600)] (e2 := z3 [(6, l5 (some 10600) (v28 ++ [e35])), (7, I6 e34), (1000017, .obj 3 1 (M6 w23))]) (by kernel_rfl) (fun _ h => h) ?_
    exact hN2 ((v28 ++ [e35]), e34) h
   replace h := cond_f hb h
   refine W.exit ?_
   refine W.wk (env' := z0 [(6, l5 (some 10600) v28)]) ?_
   exact hK25 v28 h
 refine W.seq ?_
 let z10 := fun t => z3 ((19, I6 (((Int.toNat (a1.size : Int)) : Nat) : Int)) :: t)
 refine W.rt (e2 := z10 [(20, .int .i64 0), (1000017, .obj 3 1 (M6 (List.replicate (Int.toNat (a1.size : Int)) 0)))]) ?_
 refine W.block ?_
 obtain ⟨hl1, h⟩ := chk_some h
 refine W.wk (env' := z10 [(20, I6 ((0 : Nat) : Int)), (1000017, .obj 3 1 (M6 (List.replicate (Int.toNat (a1.size : Int)) 0)))]) ?_
 refine W.range (σ := ((List Int))) (List.range (Int.toNat (((Int.toNat (a1.size : Int)) : Nat) : Int))) (fun k1 s => z10 [(20, I6 (k1 : Int)), (1000017, .obj 3 1 (M6 s))]) (fun r0 k0 s => ix_Back_l1 a1 (ix_Back_j13 fuel a1) r0 k0 s = some r) (fun s h => ?_) (fun x1 r1 k1 s hx1 hk1 h hN1 => ?_) (List.replicate (Int.toNat (a1.size : Int)) 0) h
 ·obtain ⟨v15, rfl⟩ : ∃ x, x = s := ⟨s, rfl⟩
  have h : ix_Back_l1 a1 (ix_Back_j13 fuel a1) [] ((List.range (Int.toNat (((Int.toNat (a1.size : Int)) : Nat) : Int)))).length v15 = some r := h
  rw [ix_Back_l1.eq_1] at h
  refine W.seq ?_
  refine W.rg ?_
  let z11 := fun t => z10 ((20, I6 (((List.range (Int.toNat (((Int.toNat (a1.size : Int)) : Nat) : Int)))).length : Int)) :: (21, .bool false) :: (1000017, .obj 3 1 (M6 v15)) :: t)
  refine WO.pk 0 (some (.bool (decide ((((List.range (Int.toNat (((Int.toNat (a1.size : Int)) : Nat) : Int)))).length : Int) < (((Int.toNat (a1.size : Int)) : Nat) : Int))))) (v := .bool false) (by rw [ltr_false (n := (((Int.toNat (a1.size : Int)) : Nat) : Int))]) (e1 := z11 []) ?_
  refine WO.fn (e2 := z11 []) ?_
  refine W.seq ?_
  refine W.cb false (fun h => Bool.noConfusion h) (fun _ => ?_)
  refine W.exit ?_
  refine W.wk (env' := z3 [(1000017, .obj 3 1 (M6 v15))]) ?_
  exact hK13 v15 h
 ·obtain ⟨v15, rfl⟩ : ∃ x, x = s := ⟨s, rfl⟩
  have h : ix_Back_l1 a1 (ix_Back_j13 fuel a1) (x1 :: r1) k1 v15 = some r := h
  rw [ix_Back_l1.eq_2] at h
  refine W.seq ?_
  refine W.rg ?_
  let z12 := fun t => z10 ((20, I6 (k1 : Int)) :: t)
  let z13 := fun t => z12 ((21, .bool true) :: (1000017, .obj 3 1 (M6 v15)) :: t)
  refine WO.pk 0 (some (.bool (decide ((k1 : Int) < (((Int.toNat (a1.size : Int)) : Nat) : Int))))) (v := .bool true) (by rw [ltr_true hk1]) (e1 := z13 []) ?_
  refine WO.fn (e2 := z13 []) ?_
  refine W.seq ?_
  refine W.cb true (fun _ => ?_) (fun h => Bool.noConfusion h)
  refine W.skip ?_
  refine W.wk (env' := z12 [(1000017, .obj 3 1 (M6 v15))]) ?_
  refine W.seq ?_
  refine W.block ?_
  refine W.seq ?_
  let z14 := fun t => z3 ((5, I6 (k1 : Int)) :: (19, I6 (((Int.toNat (a1.size : Int)) : Nat) : Int)) :: (20, I6 (k1 : Int)) :: t)
  refine W.rt (e2 := z14 [(1000017, .obj 3 1 (M6 v15))]) ?_
  refine W.rg ?_
  obtain ⟨hc18, h⟩ := chk_some h
  let z15 := fun t => z14 ((23, .sb 1000017 3 1 0 (Int.toNat (a1.size : Int))) :: (24, I6 (k1 : Int)) :: (25, I6 (k1 : Int)) :: (26, .pe 1000017 1 (0 + Int.toNat (k1 : Int)) 0) :: t)
  refine WO.pi 3 (v := .pe 1000017 1 (0 + Int.toNat (k1 : Int)) 0) hc18 (e1 := z15 [(1000017, .obj 3 1 (M6 v15))]) ?_
  obtain ⟨u19, hu19, h⟩ := bind_some h
  obtain ⟨y20, hyy20, hzy20⟩ := upd_some hu19
  refine WO.sk 0 (id := 1000017) (e := 3) (s := 1) (off := 0) (vs := [I6 (k1 : Int)]) (AV.int .i64) hyy20 hzy20 (e1 := z15 [(1000017, .obj 3 1 (M6 u19))]) ?_
  refine WO.fn (e2 := z12 [(1000017, .obj 3 1 (M6 u19))]) ?_
  refine W.rg ?_
  refine WO.pk 0 (some (I6 (IntKind.wrap .i64 ((k1 : Int) + 1)))) (v := I6 ((k1 + 1 : Nat) : Int)) (by rw [wrap_succ hl1 hk1]) (e1 := z12 [(27, I6 ((k1 + 1 : Nat) : Int)), (1000017, .obj 3 1 (M6 u19))]) ?_
  refine WO.fn (e2 := z10 [(20, I6 ((k1 + 1 : Nat) : Int)), (1000017, .obj 3 1 (M6 u19))]) ?_
  exact hN1 u19 h
end Go.AM
