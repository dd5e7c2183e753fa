/- PRINTED by gen.py: pure functions and the proofs that the code computes them. No statement of the seat is proved here. -/
import Derived.Test.YtmfdgonjnckdhaaS4
set_option maxRecDepth 100000
set_option linter.unusedVariables false
set_option linter.unusedSimpArgs false
namespace Go.AM
open Go.Proofs
def sl_pdqsortCmpFunc_int_j51 (fuel : Nat) (n2 : Nat) (g6 : (Int → Int → Option Int)) (v10 : Int) (v11 : Int) (v29 : Int) (v38 : Int) (v47 : (List Int)) (v48 : Bool) (v49 : Bool) (K0 : ((List Int) → Nat → Int → Int → Int → (Int → Int → Option Int) → Option (List Int))) (N1 : ((List Int) → Int → Int → Int → Bool → Bool → Option (List Int))) (v57 : Bool) : Option (List Int) :=
  (bif v57 then ((sl_partitionEqualCmpFunc_int fuel v47 n2 v10 v11 v38 g6).bind fun w59 => (N1 w59.2 w59.1 v11 v29 v48 v49)) else ((sl_partitionCmpFunc_int fuel v47 n2 v10 v11 v38 g6).bind fun w62 => (bif (decide ((IntKind.wrap .i64 (w62.1.1 - v10)) < (IntKind.wrap .i64 (v11 - w62.1.1)))) then ((K0 w62.2 n2 v10 w62.1.1 v29 g6).bind fun w69 => (N1 w69 (IntKind.wrap .i64 (w62.1.1 + 1)) v11 v29 (decide ((IntKind.wrap .i64 (w62.1.1 - v10)) ≥ (IntKind.wrap .i64 (((IntKind.wrap .i64 (v11 - v10))).tdiv 8)))) w62.1.2)) else ((K0 w62.2 n2 (IntKind.wrap .i64 (w62.1.1 + 1)) v11 v29 g6).bind fun w72 => (N1 w72 v10 w62.1.1 v29 (decide ((IntKind.wrap .i64 (v11 - w62.1.1)) ≥ (IntKind.wrap .i64 (((IntKind.wrap .i64 (v11 - v10))).tdiv 8)))) w62.1.2)))))
def sl_pdqsortCmpFunc_int_j40 (fuel : Nat) (n2 : Nat) (g6 : (Int → Int → Option Int)) (v10 : Int) (v11 : Int) (v29 : Int) (v38 : Int) (K0 : ((List Int) → Nat → Int → Int → Int → (Int → Int → Option Int) → Option (List Int))) (N1 : ((List Int) → Int → Int → Int → Bool → Bool → Option (List Int))) (v47 : (List Int)) (v48 : Bool) (v49 : Bool) : Option (List Int) :=
  (bif (decide (v10 > 0)) then (chk (decide ((0 : Int) ≤ (IntKind.wrap .i64 (v10 - 1)) ∧ (IntKind.wrap .i64 (v10 - 1)) < ((n2 : Nat) : Int))) ((v47[(0 + Int.toNat (IntKind.wrap .i64 (v10 - 1)))]?).bind fun e53 => (chk (decide ((0 : Int) ≤ v38 ∧ v38 < ((n2 : Nat) : Int))) ((v47[(0 + Int.toNat v38)]?).bind fun e55 => ((g6 e53 e55).bind fun w56 => ((sl_pdqsortCmpFunc_int_j51 fuel n2 g6 v10 v11 v29 v38 v47 v48 v49 K0 N1) (!(decide (w56 < 0))))))))) else ((sl_pdqsortCmpFunc_int_j51 fuel n2 g6 v10 v11 v29 v38 v47 v48 v49 K0 N1) false))
def sl_pdqsortCmpFunc_int_j41 (fuel : Nat) (n2 : Nat) (g6 : (Int → Int → Option Int)) (v10 : Int) (v11 : Int) (v37 : (List Int)) (K40 : ((List Int) → Bool → Bool → Option (List Int))) (v42 : Bool) (v43 : Bool) (v44 : Bool) : Option (List Int) :=
  (bif v44 then ((sl_partialInsertionSortCmpFunc_int fuel v37 n2 v10 v11 g6).bind fun w46 => (bif w46.1 then (some w46.2) else (K40 w46.2 v42 v43))) else (K40 v37 v42 v43))
def sl_pdqsortCmpFunc_int_j32 (fuel : Nat) (n2 : Nat) (g6 : (Int → Int → Option Int)) (v10 : Int) (v11 : Int) (v13 : Bool) (v14 : Bool) (v29 : Int) (K0 : ((List Int) → Nat → Int → Int → Int → (Int → Int → Option Int) → Option (List Int))) (N1 : ((List Int) → Int → Int → Int → Bool → Bool → Option (List Int))) (v37 : (List Int)) (v38 : Int) (v39 : Int) : Option (List Int) :=
  (bif v13 then (bif v14 then ((sl_pdqsortCmpFunc_int_j41 fuel n2 g6 v10 v11 v37 (sl_pdqsortCmpFunc_int_j40 fuel n2 g6 v10 v11 v29 v38 K0 N1)) true true (v39 == 1)) else ((sl_pdqsortCmpFunc_int_j41 fuel n2 g6 v10 v11 v37 (sl_pdqsortCmpFunc_int_j40 fuel n2 g6 v10 v11 v29 v38 K0 N1)) true false false)) else ((sl_pdqsortCmpFunc_int_j41 fuel n2 g6 v10 v11 v37 (sl_pdqsortCmpFunc_int_j40 fuel n2 g6 v10 v11 v29 v38 K0 N1)) false v14 false))
def sl_pdqsortCmpFunc_int_j24 (fuel : Nat) (n2 : Nat) (g6 : (Int → Int → Option Int)) (v10 : Int) (v11 : Int) (v13 : Bool) (v14 : Bool) (K0 : ((List Int) → Nat → Int → Int → Int → (Int → Int → Option Int) → Option (List Int))) (N1 : ((List Int) → Int → Int → Int → Bool → Bool → Option (List Int))) (v28 : (List Int)) (v29 : Int) : Option (List Int) :=
  ((sl_choosePivotCmpFunc_int (snap 0 n2 v28) v10 v11 g6).bind fun w31 => (bif (w31.2 == 2) then ((sl_reverseRangeCmpFunc_int fuel v28 n2 v10 v11 g6).bind fun w35 => ((sl_pdqsortCmpFunc_int_j32 fuel n2 g6 v10 v11 v13 v14 v29 K0 N1) w35 (IntKind.wrap .i64 ((IntKind.wrap .i64 (v11 - 1)) - (IntKind.wrap .i64 (w31.1 - v10)))) 1)) else ((sl_pdqsortCmpFunc_int_j32 fuel n2 g6 v10 v11 v13 v14 v29 K0 N1) v28 w31.1 w31.2)))
def sl_pdqsortCmpFunc_int_l1 (fuel : Nat) (n2 : Nat) (g6 : (Int → Int → Option Int)) (K0 : ((List Int) → Nat → Int → Int → Int → (Int → Int → Option Int) → Option (List Int))) : Nat → (List Int) → Int → Int → Int → Bool → Bool → Option (List Int)
  | 0, _, _, _, _, _, _ => none
  | m1 + 1, v9, v10, v11, v12, v13, v14 => (bif (decide ((IntKind.wrap .i64 (v11 - v10)) ≤ 12)) then ((sl_insertionSortCmpFunc_int fuel v9 n2 v10 v11 g6).bind fun w19 => (some w19)) else (bif (v12 == 0) then ((sl_heapSortCmpFunc_int fuel v9 n2 v10 v11 g6).bind fun w23 => (some w23)) else (bif (!v13) then ((sl_breakPatternsCmpFunc_int fuel v9 n2 v10 v11 g6).bind fun w27 => ((sl_pdqsortCmpFunc_int_j24 fuel n2 g6 v10 v11 v13 v14 K0 (sl_pdqsortCmpFunc_int_l1 fuel n2 g6 K0 m1)) w27 (IntKind.wrap .i64 (v12 - 1)))) else ((sl_pdqsortCmpFunc_int_j24 fuel n2 g6 v10 v11 v13 v14 K0 (sl_pdqsortCmpFunc_int_l1 fuel n2 g6 K0 m1)) v9 v12))))
def sl_pdqsortCmpFunc_int : Nat → (List Int) → Nat → Int → Int → Int → (Int → Int → Option Int) → Option (List Int)
  | 0, _, _, _, _, _, _ => none
  | fuel + 1, a1, n2, a3, a4, a5, g6 => (sl_pdqsortCmpFunc_int_l1 fuel n2 g6 (sl_pdqsortCmpFunc_int fuel) fuel a1 a3 a4 a5 true true)
theorem run_sl_pdqsortCmpFunc_int : ∀ (fuel : Nat) (a1 : (List Int)) (n2 : Nat) (a3 : Int) (a4 : Int) (a5 : Int) (g6 : (Int → Int → Option Int)) (F_g6 : Nat) (C_g6 : List AV) (hok_g6 : okFn Try.prog F_g6 = true) (hrun_g6 : ∀ (x0 : Int) (x1 : Int) r, g6 x0 x1 = some r → Run Try.prog (.call F_g6 ([I6 x0, I6 x1] ++ C_g6) (I6 r))) (r : (List Int)) (h : sl_pdqsortCmpFunc_int fuel a1 n2 a3 a4 a5 g6 = some r), Run Try.prog (.callM 83 [S1 n2, I6 a3, I6 a4, I6 a5, .clo F_g6 C_g6] [O1 a1] (.tup []) [O1 r]) := by
  intro fuel
  induction fuel with
  | zero => intro a1 n2 a3 a4 a5 g6 F_g6 C_g6 hok_g6 hrun_g6 r h; cases h
  | succ fuel ih =>
    intro a1 n2 a3 a4 a5 g6 F_g6 C_g6 hok_g6 hrun_g6 r h
    refine callM_of_W Try.func83 rfl (by kernel_rfl) (env0 := [(0, S1 n2), (1, I6 a3), (2, I6 a4), (3, I6 a5), (4, .clo F_g6 C_g6), O1 a1]) (by kernel_rfl) ?_
    rw [sl_pdqsortCmpFunc_int.eq_2] at h
    refine W.seq ?_
    refine W.regT [0, 1, 2, 3, 4, 10, 2000000] [] [] [] (e2 := [(0, S1 n2), (1, I6 a3), (2, I6 a4), (3, I6 a5), (4, .clo F_g6 C_g6), (10, .bool true), O1 a1]) (by kernel_rfl) (by kernel_rfl) (fun _ h => h) ?_
    refine W.seq ?_
    refine W.regT [0, 1, 2, 3, 4, 10, 11, 2000000] [] [] [] (e2 := [(0, S1 n2), (1, I6 a3), (2, I6 a4), (3, I6 a5), (4, .clo F_g6 C_g6), (10, .bool true), (11, .bool true), O1 a1]) (by kernel_rfl) (by kernel_rfl) (fun _ h => h) ?_
    refine W.block ?_
    refine W.weak [0, 1, 2, 3, 4, 10, 11, 2000000] [] [] [] (env' := [(0, S1 n2), (1, I6 a3), (2, I6 a4), (3, I6 a5), (4, .clo F_g6 C_g6), (10, .bool true), (11, .bool true), O1 a1]) (by kernel_rfl) ?_
    refine W.fuel (σ := ((List Int) × Int × Int × Int × Bool × Bool)) (fun s => [(0, S1 n2), (1, I6 s.2.1), (2, I6 s.2.2.1), (3, I6 s.2.2.2.1), (4, .clo F_g6 C_g6), (10, .bool s.2.2.2.2.1), (11, .bool s.2.2.2.2.2), (2000000, .obj 3 1 (List.map (AV.int .i64) s.1))]) (fun m0 s => sl_pdqsortCmpFunc_int_l1 fuel n2 g6 (sl_pdqsortCmpFunc_int fuel) m0 s.1 s.2.1 s.2.2.1 s.2.2.2.1 s.2.2.2.2.1 s.2.2.2.2.2 = some r) (fun s h => ?_) (fun m1 s h hN1 => ?_) fuel (a1, a3, a4, a5, true, true) h
    · obtain ⟨v9, v10, v11, v12, v13, v14⟩ := s
      have h : sl_pdqsortCmpFunc_int_l1 fuel n2 g6 (sl_pdqsortCmpFunc_int fuel) 0 v9 v10 v11 v12 v13 v14 = some r := h
      rw [sl_pdqsortCmpFunc_int_l1.eq_1] at h
      cases h
    · obtain ⟨v9, v10, v11, v12, v13, v14⟩ := s
      have h : sl_pdqsortCmpFunc_int_l1 fuel n2 g6 (sl_pdqsortCmpFunc_int fuel) (m1 + 1) v9 v10 v11 v12 v13 v14 = some r := h
      rw [sl_pdqsortCmpFunc_int_l1.eq_2] at h
      refine W.block ?_
      refine W.seq ?_
      refine W.regT [0, 1, 2, 3, 4, 10, 11, 12, 2000000] [] [] [] (e2 := [(0, S1 n2), (1, I6 v10), (2, I6 v11), (3, I6 v12), (4, .clo F_g6 C_g6), (10, .bool v13), (11, .bool v14), (12, I6 (W6 (v11 - v10))), O1 v9]) (by kernel_rfl) (by kernel_rfl) (fun _ h => h) ?_
      refine W.seq ?_
      refine W.seq ?_
      refine W.regT [0, 1, 2, 3, 4, 10, 11, 12, 25, 2000000] [] [] [] (e2 := [(0, S1 n2), (1, I6 v10), (2, I6 v11), (3, I6 v12), (4, .clo F_g6 C_g6), (10, .bool v13), (11, .bool v14), (12, I6 (W6 (v11 - v10))), (25, .bool (decide ((W6 (v11 - v10)) ≤ 12))), O1 v9]) (by kernel_rfl) (by kernel_rfl) (fun _ h => h) ?_
      refine W.condB (decide ((W6 (v11 - v10)) ≤ 12)) (by kernel_rfl) (fun hb => ?_) (fun hb => ?_)
      · replace h := cond_t hb h
        refine W.seq ?_
        refine W.region (by kernel_rfl) ?_
        obtain ⟨w19, hw19, h⟩ := bind_some h
        refine WO.callMK 4 [(2000000, 2000000)] [] (F := 96) (args := [S1 n2, I6 v10, I6 v11, .clo F_g6 C_g6]) (hp := [O1 v9]) (hp2 := [O1 w19]) (r := .tup []) (by kernel_rfl) (run_sl_insertionSortCmpFunc_int fuel v9 n2 v10 v11 g6 F_g6 C_g6 hok_g6 hrun_g6 w19 hw19) (e1 := [(0, S1 n2), (1, I6 v10), (2, I6 v11), (3, I6 v12), (4, .clo F_g6 C_g6), (10, .bool v13), (11, .bool v14), (12, I6 (W6 (v11 - v10))), (25, .bool (decide ((W6 (v11 - v10)) ≤ 12))), (26, S1 n2), (27, I6 v10), (28, I6 v11), (29, .clo F_g6 C_g6), (30, .tup []), O1 w19]) (by kernel_rfl) ?_
        refine WO.fin [2000000] [] [] [] (e2 := [O1 w19]) (by kernel_rfl) (fun _ h => h) ?_
        refine W.weak [2000000] [] [] [] (env' := [O1 w19]) (by kernel_rfl) ?_
        have hr : PostM Try.prog Try.f83 (.tup []) [O1 w19] .ret [O1 w19] := ⟨by kernel_rfl, by kernel_rfl⟩
        cases h
        exact W.ret hr
      replace h := cond_f hb h
      refine W.skip ?_
      refine W.weak [0, 1, 2, 3, 4, 10, 11, 12, 2000000] [] [] [] (env' := [(0, S1 n2), (1, I6 v10), (2, I6 v11), (3, I6 v12), (4, .clo F_g6 C_g6), (10, .bool v13), (11, .bool v14), (12, I6 (W6 (v11 - v10))), O1 v9]) (by kernel_rfl) ?_
      refine W.seq ?_
      refine W.seq ?_
      refine W.regT [0, 1, 2, 3, 4, 10, 11, 12, 32, 2000000] [] [] [] (e2 := [(0, S1 n2), (1, I6 v10), (2, I6 v11), (3, I6 v12), (4, .clo F_g6 C_g6), (10, .bool v13), (11, .bool v14), (12, I6 (W6 (v11 - v10))), (32, .bool (v12 == 0)), O1 v9]) (by kernel_rfl) (by kernel_rfl) (fun _ h => h) ?_
      refine W.condB (v12 == 0) (by kernel_rfl) (fun hb => ?_) (fun hb => ?_)
      · replace h := cond_t hb h
        refine W.seq ?_
        refine W.region (by kernel_rfl) ?_
        obtain ⟨w23, hw23, h⟩ := bind_some h
        refine WO.callMK 4 [(2000000, 2000000)] [] (F := 97) (args := [S1 n2, I6 v10, I6 v11, .clo F_g6 C_g6]) (hp := [O1 v9]) (hp2 := [O1 w23]) (r := .tup []) (by kernel_rfl) (run_sl_heapSortCmpFunc_int fuel v9 n2 v10 v11 g6 F_g6 C_g6 hok_g6 hrun_g6 w23 hw23) (e1 := [(0, S1 n2), (1, I6 v10), (2, I6 v11), (3, I6 v12), (4, .clo F_g6 C_g6), (10, .bool v13), (11, .bool v14), (12, I6 (W6 (v11 - v10))), (32, .bool (v12 == 0)), (33, S1 n2), (34, I6 v10), (35, I6 v11), (36, .clo F_g6 C_g6), (37, .tup []), O1 w23]) (by kernel_rfl) ?_
        refine WO.fin [2000000] [] [] [] (e2 := [O1 w23]) (by kernel_rfl) (fun _ h => h) ?_
        refine W.weak [2000000] [] [] [] (env' := [O1 w23]) (by kernel_rfl) ?_
        have hr : PostM Try.prog Try.f83 (.tup []) [O1 w23] .ret [O1 w23] := ⟨by kernel_rfl, by kernel_rfl⟩
        cases h
        exact W.ret hr
      replace h := cond_f hb h
      refine W.skip ?_
      refine W.weak [0, 1, 2, 3, 4, 10, 11, 12, 2000000] [] [] [] (env' := [(0, S1 n2), (1, I6 v10), (2, I6 v11), (3, I6 v12), (4, .clo F_g6 C_g6), (10, .bool v13), (11, .bool v14), (12, I6 (W6 (v11 - v10))), O1 v9]) (by kernel_rfl) ?_
      refine W.seq ?_
      refine W.join (σ := ((List Int) × Int)) (fun s => [(0, S1 n2), (1, I6 v10), (2, I6 v11), (3, I6 s.2), (4, .clo F_g6 C_g6), (10, .bool v13), (11, .bool v14), (12, I6 (W6 (v11 - v10))), (2000000, .obj 3 1 (List.map (AV.int .i64) s.1))]) (fun s => (sl_pdqsortCmpFunc_int_j24 fuel n2 g6 v10 v11 v13 v14 (sl_pdqsortCmpFunc_int fuel) (sl_pdqsortCmpFunc_int_l1 fuel n2 g6 (sl_pdqsortCmpFunc_int fuel) m1)) s.1 s.2 = some r) (fun s h => ?_) (fun hK24 => ?_)
      · obtain ⟨v28, v29⟩ := s
        have h : (sl_pdqsortCmpFunc_int_j24 fuel n2 g6 v10 v11 v13 v14 (sl_pdqsortCmpFunc_int fuel) (sl_pdqsortCmpFunc_int_l1 fuel n2 g6 (sl_pdqsortCmpFunc_int fuel) m1)) v28 v29 = some r := h
        unfold sl_pdqsortCmpFunc_int_j24 at h
        refine W.seq ?_
        refine W.region (by kernel_rfl) ?_
        obtain ⟨w31, hw31, h⟩ := bind_some h
        refine WO.callRK 4 (F := 99) (l := [.lst 3 1 none (snapA 0 n2 (List.map (AV.int .i64) v28)), I6 v10, I6 v11, .clo F_g6 C_g6]) (C := []) (args := [l3 none (snap 0 n2 v28), I6 v10, I6 v11, .clo F_g6 C_g6]) (r := .tup [I6 w31.1, I6 w31.2]) (by kernel_rfl) (by first | (simp only [snap_map, snap_full, snap_rep, List.cons_append, List.nil_append]; done) | (simp only [snap_map, snap_full, snap_rep, List.cons_append, List.nil_append]; kernel_rfl)) (by kernel_rfl) (by kernel_rfl) (run_sl_choosePivotCmpFunc_int (snap 0 n2 v28) v10 v11 g6 F_g6 C_g6 hok_g6 hrun_g6 w31 hw31) (e1 := [(0, S1 n2), (1, I6 v10), (2, I6 v11), (3, I6 v29), (4, .clo F_g6 C_g6), (10, .bool v13), (11, .bool v14), (12, I6 (W6 (v11 - v10))), (48, S1 n2), (49, I6 v10), (50, I6 v11), (51, .clo F_g6 C_g6), (52, .tup [I6 w31.1, I6 w31.2]), O1 v28]) (by kernel_rfl) ?_
        refine WO.fin [0, 1, 2, 3, 4, 10, 11, 12, 13, 14, 2000000] [] [] [] (e2 := [(0, S1 n2), (1, I6 v10), (2, I6 v11), (3, I6 v29), (4, .clo F_g6 C_g6), (10, .bool v13), (11, .bool v14), (12, I6 (W6 (v11 - v10))), (13, I6 w31.1), (14, I6 w31.2), O1 v28]) (by kernel_rfl) (fun _ h => h) ?_
        refine W.seq ?_
        refine W.join (σ := ((List Int) × Int × Int)) (fun s => [(0, S1 n2), (1, I6 v10), (2, I6 v11), (3, I6 v29), (4, .clo F_g6 C_g6), (10, .bool v13), (11, .bool v14), (12, I6 (W6 (v11 - v10))), (13, I6 s.2.1), (14, I6 s.2.2), (2000000, .obj 3 1 (List.map (AV.int .i64) s.1))]) (fun s => (sl_pdqsortCmpFunc_int_j32 fuel n2 g6 v10 v11 v13 v14 v29 (sl_pdqsortCmpFunc_int fuel) (sl_pdqsortCmpFunc_int_l1 fuel n2 g6 (sl_pdqsortCmpFunc_int fuel) m1)) s.1 s.2.1 s.2.2 = some r) (fun s h => ?_) (fun hK32 => ?_)
        · obtain ⟨v37, v38, v39⟩ := s
          have h : (sl_pdqsortCmpFunc_int_j32 fuel n2 g6 v10 v11 v13 v14 v29 (sl_pdqsortCmpFunc_int fuel) (sl_pdqsortCmpFunc_int_l1 fuel n2 g6 (sl_pdqsortCmpFunc_int fuel) m1)) v37 v38 v39 = some r := h
          unfold sl_pdqsortCmpFunc_int_j32 at h
          refine W.seq ?_
          refine W.join (σ := ((List Int) × Bool × Bool)) (fun s => [(0, S1 n2), (1, I6 v10), (2, I6 v11), (3, I6 v29), (4, .clo F_g6 C_g6), (10, .bool s.2.1), (11, .bool s.2.2), (12, I6 (W6 (v11 - v10))), (13, I6 v38), (2000000, .obj 3 1 (List.map (AV.int .i64) s.1))]) (fun s => (sl_pdqsortCmpFunc_int_j40 fuel n2 g6 v10 v11 v29 v38 (sl_pdqsortCmpFunc_int fuel) (sl_pdqsortCmpFunc_int_l1 fuel n2 g6 (sl_pdqsortCmpFunc_int fuel) m1)) s.1 s.2.1 s.2.2 = some r) (fun s h => ?_) (fun hK40 => ?_)
          · obtain ⟨v47, v48, v49⟩ := s
            have h : (sl_pdqsortCmpFunc_int_j40 fuel n2 g6 v10 v11 v29 v38 (sl_pdqsortCmpFunc_int fuel) (sl_pdqsortCmpFunc_int_l1 fuel n2 g6 (sl_pdqsortCmpFunc_int fuel) m1)) v47 v48 v49 = some r := h
            unfold sl_pdqsortCmpFunc_int_j40 at h
            refine W.seq ?_
            refine W.seq ?_
            refine W.join (σ := (Bool)) (fun s => [(0, S1 n2), (1, I6 v10), (2, I6 v11), (3, I6 v29), (4, .clo F_g6 C_g6), (10, .bool v48), (11, .bool v49), (12, I6 (W6 (v11 - v10))), (13, I6 v38), (97, .bool s), O1 v47]) (fun s => (sl_pdqsortCmpFunc_int_j51 fuel n2 g6 v10 v11 v29 v38 v47 v48 v49 (sl_pdqsortCmpFunc_int fuel) (sl_pdqsortCmpFunc_int_l1 fuel n2 g6 (sl_pdqsortCmpFunc_int fuel) m1)) s = some r) (fun s h => ?_) (fun hK51 => ?_)
            · obtain ⟨v57, rfl⟩ : ∃ x, x = s := ⟨s, rfl⟩
              have h : (sl_pdqsortCmpFunc_int_j51 fuel n2 g6 v10 v11 v29 v38 v47 v48 v49 (sl_pdqsortCmpFunc_int fuel) (sl_pdqsortCmpFunc_int_l1 fuel n2 g6 (sl_pdqsortCmpFunc_int fuel) m1)) v57 = some r := h
              unfold sl_pdqsortCmpFunc_int_j51 at h
              refine W.condB v57 (by kernel_rfl) (fun hb => ?_) (fun hb => ?_)
              · replace h := cond_t hb h
                refine W.seq ?_
                refine W.region (by kernel_rfl) ?_
                obtain ⟨w59, hw59, h⟩ := bind_some h
                refine WO.callMK 5 [(2000000, 2000000)] [] (F := 102) (args := [S1 n2, I6 v10, I6 v11, I6 v38, .clo F_g6 C_g6]) (hp := [O1 v47]) (hp2 := [(2000000, .obj 3 1 (List.map (AV.int .i64) w59.2))]) (r := I6 w59.1) (by kernel_rfl) (run_sl_partitionEqualCmpFunc_int fuel v47 n2 v10 v11 v38 g6 F_g6 C_g6 hok_g6 hrun_g6 w59 hw59) (e1 := [(0, S1 n2), (1, I6 v10), (2, I6 v11), (3, I6 v29), (4, .clo F_g6 C_g6), (10, .bool v48), (11, .bool v49), (12, I6 (W6 (v11 - v10))), (13, I6 v38), (97, .bool v57), (98, S1 n2), (99, I6 v10), (100, I6 v11), (101, I6 v38), (102, .clo F_g6 C_g6), (103, I6 w59.1), (2000000, .obj 3 1 (List.map (AV.int .i64) w59.2))]) (by kernel_rfl) ?_
                refine WO.fin [0, 2, 3, 4, 10, 11, 15, 2000000] [] [] [] (e2 := [(0, S1 n2), (2, I6 v11), (3, I6 v29), (4, .clo F_g6 C_g6), (10, .bool v48), (11, .bool v49), (15, I6 w59.1), (2000000, .obj 3 1 (List.map (AV.int .i64) w59.2))]) (by kernel_rfl) (fun _ h => h) ?_
                refine W.seq ?_
                refine W.regT [0, 1, 2, 3, 4, 10, 11, 2000000] [] [] [] (e2 := [(0, S1 n2), (1, I6 w59.1), (2, I6 v11), (3, I6 v29), (4, .clo F_g6 C_g6), (10, .bool v48), (11, .bool v49), (2000000, .obj 3 1 (List.map (AV.int .i64) w59.2))]) (by kernel_rfl) (by kernel_rfl) (fun _ h => h) ?_
                refine W.exit ?_
                refine W.weak [0, 1, 2, 3, 4, 10, 11, 2000000] [] [] [] (env' := [(0, S1 n2), (1, I6 w59.1), (2, I6 v11), (3, I6 v29), (4, .clo F_g6 C_g6), (10, .bool v48), (11, .bool v49), (2000000, .obj 3 1 (List.map (AV.int .i64) w59.2))]) (by kernel_rfl) ?_
                exact hN1 (w59.2, w59.1, v11, v29, v48, v49) h
              replace h := cond_f hb h
              refine W.skip ?_
              refine W.weak [0, 1, 2, 3, 4, 12, 13, 2000000] [] [] [] (env' := [(0, S1 n2), (1, I6 v10), (2, I6 v11), (3, I6 v29), (4, .clo F_g6 C_g6), (12, I6 (W6 (v11 - v10))), (13, I6 v38), O1 v47]) (by kernel_rfl) ?_
              refine W.seq ?_
              refine W.region (by kernel_rfl) ?_
              obtain ⟨w62, hw62, h⟩ := bind_some h
              refine WO.callMK 5 [(2000000, 2000000)] [] (F := 103) (args := [S1 n2, I6 v10, I6 v11, I6 v38, .clo F_g6 C_g6]) (hp := [O1 v47]) (hp2 := [(2000000, .obj 3 1 (List.map (AV.int .i64) w62.2))]) (r := .tup [I6 w62.1.1, .bool w62.1.2]) (by kernel_rfl) (run_sl_partitionCmpFunc_int fuel v47 n2 v10 v11 v38 g6 F_g6 C_g6 hok_g6 hrun_g6 w62 hw62) (e1 := [(0, S1 n2), (1, I6 v10), (2, I6 v11), (3, I6 v29), (4, .clo F_g6 C_g6), (12, I6 (W6 (v11 - v10))), (13, I6 v38), (106, S1 n2), (107, I6 v10), (108, I6 v11), (109, I6 v38), (110, .clo F_g6 C_g6), (111, .tup [I6 w62.1.1, .bool w62.1.2]), (2000000, .obj 3 1 (List.map (AV.int .i64) w62.2))]) (by kernel_rfl) ?_
              refine WO.fin [0, 1, 2, 3, 4, 12, 16, 17, 2000000] [] [] [] (e2 := [(0, S1 n2), (1, I6 v10), (2, I6 v11), (3, I6 v29), (4, .clo F_g6 C_g6), (12, I6 (W6 (v11 - v10))), (16, I6 w62.1.1), (17, .bool w62.1.2), (2000000, .obj 3 1 (List.map (AV.int .i64) w62.2))]) (by kernel_rfl) (fun _ h => h) ?_
              refine W.seq ?_
              refine W.regT [0, 1, 2, 3, 4, 11, 12, 16, 2000000] [] [] [] (e2 := [(0, S1 n2), (1, I6 v10), (2, I6 v11), (3, I6 v29), (4, .clo F_g6 C_g6), (11, .bool w62.1.2), (12, I6 (W6 (v11 - v10))), (16, I6 w62.1.1), (2000000, .obj 3 1 (List.map (AV.int .i64) w62.2))]) (by kernel_rfl) (by kernel_rfl) (fun _ h => h) ?_
              refine W.seq ?_
              refine W.regT [0, 1, 2, 3, 4, 11, 12, 16, 18, 19, 2000000] [] [] [] (e2 := [(0, S1 n2), (1, I6 v10), (2, I6 v11), (3, I6 v29), (4, .clo F_g6 C_g6), (11, .bool w62.1.2), (12, I6 (W6 (v11 - v10))), (16, I6 w62.1.1), (18, I6 (W6 (w62.1.1 - v10))), (19, I6 (W6 (v11 - w62.1.1))), (2000000, .obj 3 1 (List.map (AV.int .i64) w62.2))]) (by kernel_rfl) (by kernel_rfl) (fun _ h => h) ?_
              refine W.seq ?_
              refine W.regT [0, 1, 2, 3, 4, 11, 16, 18, 19, 20, 2000000] [] [] [] (e2 := [(0, S1 n2), (1, I6 v10), (2, I6 v11), (3, I6 v29), (4, .clo F_g6 C_g6), (11, .bool w62.1.2), (16, I6 w62.1.1), (18, I6 (W6 (w62.1.1 - v10))), (19, I6 (W6 (v11 - w62.1.1))), (20, I6 (W6 (((W6 (v11 - v10))).tdiv 8))), (2000000, .obj 3 1 (List.map (AV.int .i64) w62.2))]) (by kernel_rfl) (by kernel_rfl) (fun _ h => h) ?_
              refine W.seq ?_
              refine W.regT [0, 1, 2, 3, 4, 11, 16, 18, 19, 20, 125, 2000000] [] [] [] (e2 := [(0, S1 n2), (1, I6 v10), (2, I6 v11), (3, I6 v29), (4, .clo F_g6 C_g6), (11, .bool w62.1.2), (16, I6 w62.1.1), (18, I6 (W6 (w62.1.1 - v10))), (19, I6 (W6 (v11 - w62.1.1))), (20, I6 (W6 (((W6 (v11 - v10))).tdiv 8))), (125, .bool (decide ((W6 (w62.1.1 - v10)) < (W6 (v11 - w62.1.1))))), (2000000, .obj 3 1 (List.map (AV.int .i64) w62.2))]) (by kernel_rfl) (by kernel_rfl) (fun _ h => h) ?_
              refine W.condB (decide ((W6 (w62.1.1 - v10)) < (W6 (v11 - w62.1.1)))) (by kernel_rfl) (fun hb => ?_) (fun hb => ?_)
              · replace h := cond_t hb h
                refine W.seq ?_
                refine W.regT [0, 1, 2, 3, 4, 10, 11, 16, 2000000] [] [] [] (e2 := [(0, S1 n2), (1, I6 v10), (2, I6 v11), (3, I6 v29), (4, .clo F_g6 C_g6), (10, .bool (decide ((W6 (w62.1.1 - v10)) ≥ (W6 (((W6 (v11 - v10))).tdiv 8))))), (11, .bool w62.1.2), (16, I6 w62.1.1), (2000000, .obj 3 1 (List.map (AV.int .i64) w62.2))]) (by kernel_rfl) (by kernel_rfl) (fun _ h => h) ?_
                refine W.seq ?_
                refine W.region (by kernel_rfl) ?_
                obtain ⟨w69, hw69, h⟩ := bind_some h
                refine WO.callMK 5 [(2000000, 2000000)] [] (F := 83) (args := [S1 n2, I6 v10, I6 w62.1.1, I6 v29, .clo F_g6 C_g6]) (hp := [(2000000, .obj 3 1 (List.map (AV.int .i64) w62.2))]) (hp2 := [O1 w69]) (r := .tup []) (by kernel_rfl) (ih w62.2 n2 v10 w62.1.1 v29 g6 F_g6 C_g6 hok_g6 hrun_g6 w69 hw69) (e1 := [(0, S1 n2), (1, I6 v10), (2, I6 v11), (3, I6 v29), (4, .clo F_g6 C_g6), (10, .bool (decide ((W6 (w62.1.1 - v10)) ≥ (W6 (((W6 (v11 - v10))).tdiv 8))))), (11, .bool w62.1.2), (16, I6 w62.1.1), (129, S1 n2), (130, I6 v10), (131, I6 w62.1.1), (132, I6 v29), (133, .clo F_g6 C_g6), (134, .tup []), O1 w69]) (by kernel_rfl) ?_
                refine WO.fin [0, 2, 3, 4, 10, 11, 16, 2000000] [] [] [] (e2 := [(0, S1 n2), (2, I6 v11), (3, I6 v29), (4, .clo F_g6 C_g6), (10, .bool (decide ((W6 (w62.1.1 - v10)) ≥ (W6 (((W6 (v11 - v10))).tdiv 8))))), (11, .bool w62.1.2), (16, I6 w62.1.1), O1 w69]) (by kernel_rfl) (fun _ h => h) ?_
                refine W.regT [0, 1, 2, 3, 4, 10, 11, 2000000] [] [] [] (e2 := [(0, S1 n2), (1, I6 (W6 (w62.1.1 + 1))), (2, I6 v11), (3, I6 v29), (4, .clo F_g6 C_g6), (10, .bool (decide ((W6 (w62.1.1 - v10)) ≥ (W6 (((W6 (v11 - v10))).tdiv 8))))), (11, .bool w62.1.2), O1 w69]) (by kernel_rfl) (by kernel_rfl) (fun _ h => h) ?_
                exact hN1 (w69, (W6 (w62.1.1 + 1)), v11, v29, (decide ((W6 (w62.1.1 - v10)) ≥ (W6 (((W6 (v11 - v10))).tdiv 8)))), w62.1.2) h
              replace h := cond_f hb h
              refine W.seq ?_
              refine W.regT [0, 1, 2, 3, 4, 10, 11, 16, 2000000] [] [] [] (e2 := [(0, S1 n2), (1, I6 v10), (2, I6 v11), (3, I6 v29), (4, .clo F_g6 C_g6), (10, .bool (decide ((W6 (v11 - w62.1.1)) ≥ (W6 (((W6 (v11 - v10))).tdiv 8))))), (11, .bool w62.1.2), (16, I6 w62.1.1), (2000000, .obj 3 1 (List.map (AV.int .i64) w62.2))]) (by kernel_rfl) (by kernel_rfl) (fun _ h => h) ?_
              refine W.seq ?_
              refine W.region (by kernel_rfl) ?_
              obtain ⟨w72, hw72, h⟩ := bind_some h
              refine WO.callMK 6 [(2000000, 2000000)] [] (F := 83) (args := [S1 n2, I6 (W6 (w62.1.1 + 1)), I6 v11, I6 v29, .clo F_g6 C_g6]) (hp := [(2000000, .obj 3 1 (List.map (AV.int .i64) w62.2))]) (hp2 := [O1 w72]) (r := .tup []) (by kernel_rfl) (ih w62.2 n2 (W6 (w62.1.1 + 1)) v11 v29 g6 F_g6 C_g6 hok_g6 hrun_g6 w72 hw72) (e1 := [(0, S1 n2), (1, I6 v10), (2, I6 v11), (3, I6 v29), (4, .clo F_g6 C_g6), (10, .bool (decide ((W6 (v11 - w62.1.1)) ≥ (W6 (((W6 (v11 - v10))).tdiv 8))))), (11, .bool w62.1.2), (16, I6 w62.1.1), (140, S1 n2), (141, I6 w62.1.1), (142, I6 (W6 (w62.1.1 + 1))), (143, I6 v11), (144, I6 v29), (145, .clo F_g6 C_g6), (146, .tup []), O1 w72]) (by kernel_rfl) ?_
              refine WO.fin [0, 1, 3, 4, 10, 11, 16, 2000000] [] [] [] (e2 := [(0, S1 n2), (1, I6 v10), (3, I6 v29), (4, .clo F_g6 C_g6), (10, .bool (decide ((W6 (v11 - w62.1.1)) ≥ (W6 (((W6 (v11 - v10))).tdiv 8))))), (11, .bool w62.1.2), (16, I6 w62.1.1), O1 w72]) (by kernel_rfl) (fun _ h => h) ?_
              refine W.regT [0, 1, 2, 3, 4, 10, 11, 2000000] [] [] [] (e2 := [(0, S1 n2), (1, I6 v10), (2, I6 w62.1.1), (3, I6 v29), (4, .clo F_g6 C_g6), (10, .bool (decide ((W6 (v11 - w62.1.1)) ≥ (W6 (((W6 (v11 - v10))).tdiv 8))))), (11, .bool w62.1.2), O1 w72]) (by kernel_rfl) (by kernel_rfl) (fun _ h => h) ?_
              exact hN1 (w72, v10, w62.1.1, v29, (decide ((W6 (v11 - w62.1.1)) ≥ (W6 (((W6 (v11 - v10))).tdiv 8)))), w62.1.2) h
            refine W.region (by kernel_rfl) ?_
            refine WO.boolK 3 (fun b => [(0, S1 n2), (1, I6 v10), (2, I6 v11), (3, I6 v29), (4, .clo F_g6 C_g6), (10, .bool v48), (11, .bool v49), (12, I6 (W6 (v11 - v10))), (13, I6 v38), (81, I6 v10), (82, .bool b), (83, .bool b), O1 v47]) (decide (v10 > 0)) (by kernel_rfl) (fun hb => ?_) (fun hb => ?_)
            · replace h := cond_t hb h
              obtain ⟨hc52, h⟩ := chk_some h
              refine WO.pureK 4 (if (0 : Int) ≤ (W6 (v10 - 1)) ∧ (W6 (v10 - 1)) < ((n2 : Nat) : Int) then some (.pe 2000000 1 (0 + Int.toNat (W6 (v10 - 1))) 0) else none) (v := .pe 2000000 1 (0 + Int.toNat (W6 (v10 - 1))) 0) (by kernel_rfl) (ite_some hc52) (e1 := [(0, S1 n2), (1, I6 v10), (2, I6 v11), (3, I6 v29), (4, .clo F_g6 C_g6), (10, .bool v48), (11, .bool v49), (12, I6 (W6 (v11 - v10))), (13, I6 v38), (81, I6 v10), (82, .bool true), (83, .bool true), (84, .clo F_g6 C_g6), (85, S1 n2), (86, I6 v10), (87, I6 (W6 (v10 - 1))), (88, .pe 2000000 1 (0 + Int.toNat (W6 (v10 - 1))) 0), O1 v47]) (by kernel_rfl) ?_
              obtain ⟨e53, he53, h⟩ := bind_some h
              refine WO.pureK 0 (match (List.map (AV.int .i64) v47)[(0 + Int.toNat (W6 (v10 - 1)))]? with | some y => cut Try.prog 3 (y.cells.map AV.strip) 0 | none => none) (v := I6 e53) (by kernel_rfl) ((pe_ld (f := (AV.int .i64)) (G := (fun y => cut Try.prog 3 (y.cells.map AV.strip) 0)) he53).trans (by kernel_rfl)) (e1 := [(0, S1 n2), (1, I6 v10), (2, I6 v11), (3, I6 v29), (4, .clo F_g6 C_g6), (10, .bool v48), (11, .bool v49), (12, I6 (W6 (v11 - v10))), (13, I6 v38), (81, I6 v10), (82, .bool true), (83, .bool true), (84, .clo F_g6 C_g6), (85, S1 n2), (86, I6 v10), (87, I6 (W6 (v10 - 1))), (88, .pe 2000000 1 (0 + Int.toNat (W6 (v10 - 1))) 0), (89, I6 e53), O1 v47]) (by kernel_rfl) ?_
              obtain ⟨hc54, h⟩ := chk_some h
              refine WO.pureK 2 (if (0 : Int) ≤ v38 ∧ v38 < ((n2 : Nat) : Int) then some (.pe 2000000 1 (0 + Int.toNat v38) 0) else none) (v := .pe 2000000 1 (0 + Int.toNat v38) 0) (by kernel_rfl) (ite_some hc54) (e1 := [(0, S1 n2), (1, I6 v10), (2, I6 v11), (3, I6 v29), (4, .clo F_g6 C_g6), (10, .bool v48), (11, .bool v49), (12, I6 (W6 (v11 - v10))), (13, I6 v38), (81, I6 v10), (82, .bool true), (83, .bool true), (84, .clo F_g6 C_g6), (85, S1 n2), (86, I6 v10), (87, I6 (W6 (v10 - 1))), (88, .pe 2000000 1 (0 + Int.toNat (W6 (v10 - 1))) 0), (89, I6 e53), (90, S1 n2), (91, I6 v38), (92, .pe 2000000 1 (0 + Int.toNat v38) 0), O1 v47]) (by kernel_rfl) ?_
              obtain ⟨e55, he55, h⟩ := bind_some h
              refine WO.pureK 0 (match (List.map (AV.int .i64) v47)[(0 + Int.toNat v38)]? with | some y => cut Try.prog 3 (y.cells.map AV.strip) 0 | none => none) (v := I6 e55) (by kernel_rfl) ((pe_ld (f := (AV.int .i64)) (G := (fun y => cut Try.prog 3 (y.cells.map AV.strip) 0)) he55).trans (by kernel_rfl)) (e1 := [(0, S1 n2), (1, I6 v10), (2, I6 v11), (3, I6 v29), (4, .clo F_g6 C_g6), (10, .bool v48), (11, .bool v49), (12, I6 (W6 (v11 - v10))), (13, I6 v38), (81, I6 v10), (82, .bool true), (83, .bool true), (84, .clo F_g6 C_g6), (85, S1 n2), (86, I6 v10), (87, I6 (W6 (v10 - 1))), (88, .pe 2000000 1 (0 + Int.toNat (W6 (v10 - 1))) 0), (89, I6 e53), (90, S1 n2), (91, I6 v38), (92, .pe 2000000 1 (0 + Int.toNat v38) 0), (93, I6 e55), O1 v47]) (by kernel_rfl) ?_
              obtain ⟨w56, hw56, h⟩ := bind_some h
              refine WO.callK 0 (F := F_g6) (l := [I6 e53, I6 e55]) (C := C_g6) (r := I6 w56) (by kernel_rfl) hok_g6 (hrun_g6 e53 e55 w56 hw56) (e1 := [(0, S1 n2), (1, I6 v10), (2, I6 v11), (3, I6 v29), (4, .clo F_g6 C_g6), (10, .bool v48), (11, .bool v49), (12, I6 (W6 (v11 - v10))), (13, I6 v38), (81, I6 v10), (82, .bool true), (83, .bool true), (84, .clo F_g6 C_g6), (85, S1 n2), (86, I6 v10), (87, I6 (W6 (v10 - 1))), (88, .pe 2000000 1 (0 + Int.toNat (W6 (v10 - 1))) 0), (89, I6 e53), (90, S1 n2), (91, I6 v38), (92, .pe 2000000 1 (0 + Int.toNat v38) 0), (93, I6 e55), (94, I6 w56), O1 v47]) (by kernel_rfl) ?_
              refine WO.fin [0, 1, 2, 3, 4, 10, 11, 12, 13, 97, 2000000] [] [] [] (e2 := [(0, S1 n2), (1, I6 v10), (2, I6 v11), (3, I6 v29), (4, .clo F_g6 C_g6), (10, .bool v48), (11, .bool v49), (12, I6 (W6 (v11 - v10))), (13, I6 v38), (97, .bool (!(decide (w56 < 0)))), O1 v47]) (by kernel_rfl) (fun _ h => h) ?_
              exact hK51 (!(decide (w56 < 0))) h
            replace h := cond_f hb h
            refine WO.fin [0, 1, 2, 3, 4, 10, 11, 12, 13, 97, 2000000] [] [] [] (e2 := [(0, S1 n2), (1, I6 v10), (2, I6 v11), (3, I6 v29), (4, .clo F_g6 C_g6), (10, .bool v48), (11, .bool v49), (12, I6 (W6 (v11 - v10))), (13, I6 v38), (97, .bool false), O1 v47]) (by kernel_rfl) (fun _ h => h) ?_
            exact hK51 false h
          refine W.seq ?_
          refine W.join (σ := (Bool × Bool × Bool)) (fun s => [(0, S1 n2), (1, I6 v10), (2, I6 v11), (3, I6 v29), (4, .clo F_g6 C_g6), (10, .bool s.1), (11, .bool s.2.1), (12, I6 (W6 (v11 - v10))), (13, I6 v38), (75, .bool s.2.2), O1 v37]) (fun s => (sl_pdqsortCmpFunc_int_j41 fuel n2 g6 v10 v11 v37 (sl_pdqsortCmpFunc_int_j40 fuel n2 g6 v10 v11 v29 v38 (sl_pdqsortCmpFunc_int fuel) (sl_pdqsortCmpFunc_int_l1 fuel n2 g6 (sl_pdqsortCmpFunc_int fuel) m1))) s.1 s.2.1 s.2.2 = some r) (fun s h => ?_) (fun hK41 => ?_)
          · obtain ⟨v42, v43, v44⟩ := s
            have h : (sl_pdqsortCmpFunc_int_j41 fuel n2 g6 v10 v11 v37 (sl_pdqsortCmpFunc_int_j40 fuel n2 g6 v10 v11 v29 v38 (sl_pdqsortCmpFunc_int fuel) (sl_pdqsortCmpFunc_int_l1 fuel n2 g6 (sl_pdqsortCmpFunc_int fuel) m1))) v42 v43 v44 = some r := h
            unfold sl_pdqsortCmpFunc_int_j41 at h
            refine W.condB v44 (by kernel_rfl) (fun hb => ?_) (fun hb => ?_)
            · replace h := cond_t hb h
              refine W.seq ?_
              refine W.region (by kernel_rfl) ?_
              obtain ⟨w46, hw46, h⟩ := bind_some h
              refine WO.callMK 4 [(2000000, 2000000)] [] (F := 101) (args := [S1 n2, I6 v10, I6 v11, .clo F_g6 C_g6]) (hp := [O1 v37]) (hp2 := [(2000000, .obj 3 1 (List.map (AV.int .i64) w46.2))]) (r := .bool w46.1) (by kernel_rfl) (run_sl_partialInsertionSortCmpFunc_int fuel v37 n2 v10 v11 g6 F_g6 C_g6 hok_g6 hrun_g6 w46 hw46) (e1 := [(0, S1 n2), (1, I6 v10), (2, I6 v11), (3, I6 v29), (4, .clo F_g6 C_g6), (10, .bool v42), (11, .bool v43), (12, I6 (W6 (v11 - v10))), (13, I6 v38), (75, .bool v44), (76, S1 n2), (77, I6 v10), (78, I6 v11), (79, .clo F_g6 C_g6), (80, .bool w46.1), (2000000, .obj 3 1 (List.map (AV.int .i64) w46.2))]) (by kernel_rfl) ?_
              refine WO.fin [0, 1, 2, 3, 4, 10, 11, 12, 13, 80, 2000000] [] [] [] (e2 := [(0, S1 n2), (1, I6 v10), (2, I6 v11), (3, I6 v29), (4, .clo F_g6 C_g6), (10, .bool v42), (11, .bool v43), (12, I6 (W6 (v11 - v10))), (13, I6 v38), (80, .bool w46.1), (2000000, .obj 3 1 (List.map (AV.int .i64) w46.2))]) (by kernel_rfl) (fun _ h => h) ?_
              refine W.condB w46.1 (by kernel_rfl) (fun hb => ?_) (fun hb => ?_)
              · replace h := cond_t hb h
                refine W.weak [2000000] [] [] [] (env' := [(2000000, .obj 3 1 (List.map (AV.int .i64) w46.2))]) (by kernel_rfl) ?_
                have hr : PostM Try.prog Try.f83 (.tup []) [(2000000, .obj 3 1 (List.map (AV.int .i64) w46.2))] .ret [(2000000, .obj 3 1 (List.map (AV.int .i64) w46.2))] := ⟨by kernel_rfl, by kernel_rfl⟩
                cases h
                exact W.ret hr
              replace h := cond_f hb h
              refine W.skip ?_
              refine W.weak [0, 1, 2, 3, 4, 10, 11, 12, 13, 2000000] [] [] [] (env' := [(0, S1 n2), (1, I6 v10), (2, I6 v11), (3, I6 v29), (4, .clo F_g6 C_g6), (10, .bool v42), (11, .bool v43), (12, I6 (W6 (v11 - v10))), (13, I6 v38), (2000000, .obj 3 1 (List.map (AV.int .i64) w46.2))]) (by kernel_rfl) ?_
              exact hK40 (w46.2, v42, v43) h
            replace h := cond_f hb h
            refine W.skip ?_
            refine W.weak [0, 1, 2, 3, 4, 10, 11, 12, 13, 2000000] [] [] [] (env' := [(0, S1 n2), (1, I6 v10), (2, I6 v11), (3, I6 v29), (4, .clo F_g6 C_g6), (10, .bool v42), (11, .bool v43), (12, I6 (W6 (v11 - v10))), (13, I6 v38), O1 v37]) (by kernel_rfl) ?_
            exact hK40 (v37, v42, v43) h
          refine W.region (by kernel_rfl) ?_
          refine WO.boolK 2 (fun b => [(0, S1 n2), (1, I6 v10), (2, I6 v11), (3, I6 v29), (4, .clo F_g6 C_g6), (10, .bool b), (11, .bool v14), (12, I6 (W6 (v11 - v10))), (13, I6 v38), (14, I6 v39), (68, .bool b), (69, .bool b), O1 v37]) v13 (by kernel_rfl) (fun hb => ?_) (fun hb => ?_)
          · replace h := cond_t hb h
            refine WO.boolK 3 (fun b => [(0, S1 n2), (1, I6 v10), (2, I6 v11), (3, I6 v29), (4, .clo F_g6 C_g6), (10, .bool true), (11, .bool b), (12, I6 (W6 (v11 - v10))), (13, I6 v38), (14, I6 v39), (68, .bool true), (69, .bool true), (70, .bool b), (71, .bool b), (72, .bool b), O1 v37]) v14 (by kernel_rfl) (fun hb => ?_) (fun hb => ?_)
            · replace h := cond_t hb h
              refine WO.fin [0, 1, 2, 3, 4, 10, 11, 12, 13, 75, 2000000] [] [] [] (e2 := [(0, S1 n2), (1, I6 v10), (2, I6 v11), (3, I6 v29), (4, .clo F_g6 C_g6), (10, .bool true), (11, .bool true), (12, I6 (W6 (v11 - v10))), (13, I6 v38), (75, .bool (v39 == 1)), O1 v37]) (by kernel_rfl) (fun _ h => h) ?_
              exact hK41 (true, true, (v39 == 1)) h
            replace h := cond_f hb h
            refine WO.fin [0, 1, 2, 3, 4, 10, 11, 12, 13, 75, 2000000] [] [] [] (e2 := [(0, S1 n2), (1, I6 v10), (2, I6 v11), (3, I6 v29), (4, .clo F_g6 C_g6), (10, .bool true), (11, .bool false), (12, I6 (W6 (v11 - v10))), (13, I6 v38), (75, .bool false), O1 v37]) (by kernel_rfl) (fun _ h => h) ?_
            exact hK41 (true, false, false) h
          replace h := cond_f hb h
          refine WO.fin [0, 1, 2, 3, 4, 10, 11, 12, 13, 75, 2000000] [] [] [] (e2 := [(0, S1 n2), (1, I6 v10), (2, I6 v11), (3, I6 v29), (4, .clo F_g6 C_g6), (10, .bool false), (11, .bool v14), (12, I6 (W6 (v11 - v10))), (13, I6 v38), (75, .bool false), O1 v37]) (by kernel_rfl) (fun _ h => h) ?_
          exact hK41 (false, v14, false) h
        refine W.seq ?_
        refine W.regT [0, 1, 2, 3, 4, 10, 11, 12, 13, 14, 56, 2000000] [] [] [] (e2 := [(0, S1 n2), (1, I6 v10), (2, I6 v11), (3, I6 v29), (4, .clo F_g6 C_g6), (10, .bool v13), (11, .bool v14), (12, I6 (W6 (v11 - v10))), (13, I6 w31.1), (14, I6 w31.2), (56, .bool (w31.2 == 2)), O1 v28]) (by kernel_rfl) (by kernel_rfl) (fun _ h => h) ?_
        refine W.condB (w31.2 == 2) (by kernel_rfl) (fun hb => ?_) (fun hb => ?_)
        · replace h := cond_t hb h
          refine W.seq ?_
          refine W.region (by kernel_rfl) ?_
          obtain ⟨w35, hw35, h⟩ := bind_some h
          refine WO.callMK 4 [(2000000, 2000000)] [] (F := 100) (args := [S1 n2, I6 v10, I6 v11, .clo F_g6 C_g6]) (hp := [O1 v28]) (hp2 := [O1 w35]) (r := .tup []) (by kernel_rfl) (run_sl_reverseRangeCmpFunc_int fuel v28 n2 v10 v11 g6 F_g6 C_g6 hok_g6 hrun_g6 w35 hw35) (e1 := [(0, S1 n2), (1, I6 v10), (2, I6 v11), (3, I6 v29), (4, .clo F_g6 C_g6), (10, .bool v13), (11, .bool v14), (12, I6 (W6 (v11 - v10))), (13, I6 w31.1), (14, I6 w31.2), (56, .bool (w31.2 == 2)), (57, S1 n2), (58, I6 v10), (59, I6 v11), (60, .clo F_g6 C_g6), (61, .tup []), O1 w35]) (by kernel_rfl) ?_
          refine WO.fin [0, 1, 2, 3, 4, 10, 11, 12, 13, 2000000] [] [] [] (e2 := [(0, S1 n2), (1, I6 v10), (2, I6 v11), (3, I6 v29), (4, .clo F_g6 C_g6), (10, .bool v13), (11, .bool v14), (12, I6 (W6 (v11 - v10))), (13, I6 w31.1), O1 w35]) (by kernel_rfl) (fun _ h => h) ?_
          refine W.seq ?_
          refine W.regT [0, 1, 2, 3, 4, 10, 11, 12, 13, 2000000] [] [] [] (e2 := [(0, S1 n2), (1, I6 v10), (2, I6 v11), (3, I6 v29), (4, .clo F_g6 C_g6), (10, .bool v13), (11, .bool v14), (12, I6 (W6 (v11 - v10))), (13, I6 (W6 ((W6 (v11 - 1)) - (W6 (w31.1 - v10))))), O1 w35]) (by kernel_rfl) (by kernel_rfl) (fun _ h => h) ?_
          refine W.regT [0, 1, 2, 3, 4, 10, 11, 12, 13, 14, 2000000] [] [] [] (e2 := [(0, S1 n2), (1, I6 v10), (2, I6 v11), (3, I6 v29), (4, .clo F_g6 C_g6), (10, .bool v13), (11, .bool v14), (12, I6 (W6 (v11 - v10))), (13, I6 (W6 ((W6 (v11 - 1)) - (W6 (w31.1 - v10))))), (14, .int .i64 1), O1 w35]) (by kernel_rfl) (by kernel_rfl) (fun _ h => h) ?_
          exact hK32 (w35, (W6 ((W6 (v11 - 1)) - (W6 (w31.1 - v10)))), 1) h
        replace h := cond_f hb h
        refine W.skip ?_
        refine W.weak [0, 1, 2, 3, 4, 10, 11, 12, 13, 14, 2000000] [] [] [] (env' := [(0, S1 n2), (1, I6 v10), (2, I6 v11), (3, I6 v29), (4, .clo F_g6 C_g6), (10, .bool v13), (11, .bool v14), (12, I6 (W6 (v11 - v10))), (13, I6 w31.1), (14, I6 w31.2), O1 v28]) (by kernel_rfl) ?_
        exact hK32 (v28, w31.1, w31.2) h
      refine W.seq ?_
      refine W.regT [0, 1, 2, 3, 4, 10, 11, 12, 39, 2000000] [] [] [] (e2 := [(0, S1 n2), (1, I6 v10), (2, I6 v11), (3, I6 v12), (4, .clo F_g6 C_g6), (10, .bool v13), (11, .bool v14), (12, I6 (W6 (v11 - v10))), (39, .bool (!v13)), O1 v9]) (by kernel_rfl) (by kernel_rfl) (fun _ h => h) ?_
      refine W.condB (!v13) (by kernel_rfl) (fun hb => ?_) (fun hb => ?_)
      · replace h := cond_t hb h
        refine W.seq ?_
        refine W.region (by kernel_rfl) ?_
        obtain ⟨w27, hw27, h⟩ := bind_some h
        refine WO.callMK 4 [(2000000, 2000000)] [] (F := 98) (args := [S1 n2, I6 v10, I6 v11, .clo F_g6 C_g6]) (hp := [O1 v9]) (hp2 := [O1 w27]) (r := .tup []) (by kernel_rfl) (run_sl_breakPatternsCmpFunc_int fuel v9 n2 v10 v11 g6 F_g6 C_g6 hok_g6 hrun_g6 w27 hw27) (e1 := [(0, S1 n2), (1, I6 v10), (2, I6 v11), (3, I6 v12), (4, .clo F_g6 C_g6), (10, .bool v13), (11, .bool v14), (12, I6 (W6 (v11 - v10))), (39, .bool (!v13)), (40, S1 n2), (41, I6 v10), (42, I6 v11), (43, .clo F_g6 C_g6), (44, .tup []), O1 w27]) (by kernel_rfl) ?_
        refine WO.fin [0, 1, 2, 3, 4, 10, 11, 12, 2000000] [] [] [] (e2 := [(0, S1 n2), (1, I6 v10), (2, I6 v11), (3, I6 v12), (4, .clo F_g6 C_g6), (10, .bool v13), (11, .bool v14), (12, I6 (W6 (v11 - v10))), O1 w27]) (by kernel_rfl) (fun _ h => h) ?_
        refine W.regT [0, 1, 2, 3, 4, 10, 11, 12, 2000000] [] [] [] (e2 := [(0, S1 n2), (1, I6 v10), (2, I6 v11), (3, I6 (W6 (v12 - 1))), (4, .clo F_g6 C_g6), (10, .bool v13), (11, .bool v14), (12, I6 (W6 (v11 - v10))), O1 w27]) (by kernel_rfl) (by kernel_rfl) (fun _ h => h) ?_
        exact hK24 (w27, (W6 (v12 - 1))) h
      replace h := cond_f hb h
      refine W.skip ?_
      refine W.weak [0, 1, 2, 3, 4, 10, 11, 12, 2000000] [] [] [] (env' := [(0, S1 n2), (1, I6 v10), (2, I6 v11), (3, I6 v12), (4, .clo F_g6 C_g6), (10, .bool v13), (11, .bool v14), (12, I6 (W6 (v11 - v10))), O1 v9]) (by kernel_rfl) ?_
      exact hK24 (v9, v12) h
def sl_SortFunc_int (fuel : Nat) (a1 : (List Int)) (n2 : Nat) (g3 : (Int → Int → Option Int)) : Option (List Int) :=
  ((mb_Len (IntKind.wrap .u64 ((n2 : Nat) : Int))).bind fun w5 => ((sl_pdqsortCmpFunc_int fuel a1 n2 0 ((n2 : Nat) : Int) w5 g3).bind fun w6 => (some w6)))
theorem run_sl_SortFunc_int (fuel : Nat) (a1 : (List Int)) (n2 : Nat) (g3 : (Int → Int → Option Int)) (F_g3 : Nat) (C_g3 : List AV) (hok_g3 : okFn Try.prog F_g3 = true) (hrun_g3 : ∀ (x0 : Int) (x1 : Int) r, g3 x0 x1 = some r → Run Try.prog (.call F_g3 ([I6 x0, I6 x1] ++ C_g3) (I6 r))) (r : (List Int)) (h : sl_SortFunc_int fuel a1 n2 g3 = some r) : Run Try.prog (.callM 59 [S1 n2, .clo F_g3 C_g3] [O1 a1] (.tup []) [O1 r]) := by
  refine callM_of_W Try.func59 rfl (by kernel_rfl) (env0 := [(0, S1 n2), (1, .clo F_g3 C_g3), O1 a1]) (by kernel_rfl) ?_
  unfold sl_SortFunc_int at h
  refine W.seq ?_
  refine W.regT [0, 1, 4, 2000000] [] [] [] (e2 := [(0, S1 n2), (1, .clo F_g3 C_g3), (4, I6 ((n2 : Nat) : Int)), O1 a1]) (by kernel_rfl) (by kernel_rfl) (fun _ h => h) ?_
  refine W.region (by kernel_rfl) ?_
  obtain ⟨w5, hw5, h⟩ := bind_some h
  refine WO.callK 4 (F := 47) (l := [.int .u64 (IntKind.wrap .u64 ((n2 : Nat) : Int))]) (C := []) (r := I6 w5) (by kernel_rfl) (by kernel_rfl) (run_mb_Len (IntKind.wrap .u64 ((n2 : Nat) : Int)) w5 hw5) (e1 := [(0, S1 n2), (1, .clo F_g3 C_g3), (4, I6 ((n2 : Nat) : Int)), (7, S1 n2), (8, I6 ((n2 : Nat) : Int)), (9, I6 ((n2 : Nat) : Int)), (10, .int .u64 (IntKind.wrap .u64 ((n2 : Nat) : Int))), (11, I6 w5), O1 a1]) (by kernel_rfl) ?_
  obtain ⟨w6, hw6, h⟩ := bind_some h
  refine WO.callMK 1 [(2000000, 2000000)] [] (F := 83) (args := [S1 n2, .int .i64 0, I6 ((n2 : Nat) : Int), I6 w5, .clo F_g3 C_g3]) (hp := [O1 a1]) (hp2 := [O1 w6]) (r := .tup []) (by kernel_rfl) (run_sl_pdqsortCmpFunc_int fuel a1 n2 0 ((n2 : Nat) : Int) w5 g3 F_g3 C_g3 hok_g3 hrun_g3 w6 hw6) (e1 := [(0, S1 n2), (1, .clo F_g3 C_g3), (4, I6 ((n2 : Nat) : Int)), (7, S1 n2), (8, I6 ((n2 : Nat) : Int)), (9, I6 ((n2 : Nat) : Int)), (10, .int .u64 (IntKind.wrap .u64 ((n2 : Nat) : Int))), (11, I6 w5), (12, .clo F_g3 C_g3), (13, .tup []), O1 w6]) (by kernel_rfl) ?_
  refine WO.end0 (e2 := [(0, S1 n2), (1, .clo F_g3 C_g3), (4, I6 ((n2 : Nat) : Int)), (7, S1 n2), (8, I6 ((n2 : Nat) : Int)), (9, I6 ((n2 : Nat) : Int)), (10, .int .u64 (IntKind.wrap .u64 ((n2 : Nat) : Int))), (11, I6 w5), (12, .clo F_g3 C_g3), (13, .tup []), O1 w6]) (by kernel_rfl) ?_
  have hr : PostM Try.prog Try.f59 (.tup []) [O1 w6] .normal [(0, S1 n2), (1, .clo F_g3 C_g3), (4, I6 ((n2 : Nat) : Int)), (7, S1 n2), (8, I6 ((n2 : Nat) : Int)), (9, I6 ((n2 : Nat) : Int)), (10, .int .u64 (IntKind.wrap .u64 ((n2 : Nat) : Int))), (11, I6 w5), (12, .clo F_g3 C_g3), (13, .tup []), O1 w6] := ⟨by kernel_rfl, by kernel_rfl⟩
  cases h
  exact hr
def st_Compare (a1 : ByteArray) (a2 : ByteArray) : Option Int := some (Lib.compareBytes a1.data.toList a2.data.toList)
theorem run_st_Compare (a1 : ByteArray) (a2 : ByteArray) (r : Int) (h : st_Compare a1 a2 = some r) : Run Try.prog (.call 61 [.str a1, .str a2] (I6 r)) := by
  unfold st_Compare at h
  cases h
  exact .ext rfl rfl fun w _ => (Try.strings_Compare a1 a2 w).mono fun e w' hh => ⟨hh.1, hh.2 ▸ RowKit.Below.refl _ _⟩
def ix_suffixes_1 (a1 : Int) (a2 : Int) (c3 : ByteArray) : Option Int :=
  ((ssub c3 a1 (c3.size : Int)).bind fun e6 => ((ssub c3 a2 (c3.size : Int)).bind fun e7 => ((st_Compare e6 e7).bind fun w8 => (some w8))))
theorem run_ix_suffixes_1 (a1 : Int) (a2 : Int) (c3 : ByteArray) (r : Int) (h : ix_suffixes_1 a1 a2 c3 = some r) : Run Try.prog (.call 60 [I6 a1, I6 a2, .ptr (.str c3)] (I6 r)) := by
  refine call_of_W Try.func60 rfl (by kernel_rfl) (env0 := [(0, I6 a1), (1, I6 a2), (2, .ptr (.str c3))]) (by kernel_rfl) ?_
  unfold ix_suffixes_1 at h
  refine W.seq ?_
  refine W.regT [0, 1, 2] [] [] [] (e2 := [(0, I6 a1), (1, I6 a2), (2, .ptr (.str c3))]) (by kernel_rfl) (by kernel_rfl) (fun _ h => h) ?_
  refine W.seq ?_
  refine W.region (by kernel_rfl) ?_
  obtain ⟨e6, he6, h⟩ := bind_some h
  refine WO.pureK 2 (if (0 : Int) ≤ a1 ∧ a1 ≤ (c3.size : Int) ∧ (c3.size : Int) ≤ (c3.size : Int) then some (AV.str (c3.extract (Int.toNat a1) (Int.toNat (c3.size : Int)))) else none) (v := .str e6) (by kernel_rfl) (ssub_av he6) (e1 := [(0, I6 a1), (1, I6 a2), (2, .ptr (.str c3)), (6, .str c3), (7, I6 a1), (8, .str e6)]) (by kernel_rfl) ?_
  obtain ⟨e7, he7, h⟩ := bind_some h
  refine WO.pureK 2 (if (0 : Int) ≤ a2 ∧ a2 ≤ (c3.size : Int) ∧ (c3.size : Int) ≤ (c3.size : Int) then some (AV.str (c3.extract (Int.toNat a2) (Int.toNat (c3.size : Int)))) else none) (v := .str e7) (by kernel_rfl) (ssub_av he7) (e1 := [(0, I6 a1), (1, I6 a2), (2, .ptr (.str c3)), (6, .str c3), (7, I6 a1), (8, .str e6), (9, .str c3), (10, I6 a2), (11, .str e7)]) (by kernel_rfl) ?_
  obtain ⟨w8, hw8, h⟩ := bind_some h
  refine WO.callK 0 (F := 61) (l := [.str e6, .str e7]) (C := []) (r := I6 w8) (by kernel_rfl) (by kernel_rfl) (run_st_Compare e6 e7 w8 hw8) (e1 := [(0, I6 a1), (1, I6 a2), (2, .ptr (.str c3)), (6, .str c3), (7, I6 a1), (8, .str e6), (9, .str c3), (10, I6 a2), (11, .str e7), (12, I6 w8)]) (by kernel_rfl) ?_
  refine WO.fin [5] [] [] [] (e2 := [(5, I6 w8)]) (by kernel_rfl) (fun _ h => h) ?_
  refine W.weak [5] [] [] [] (env' := [(5, I6 w8)]) (by kernel_rfl) ?_
  have hr : aresults Try.prog Try.f60 [(5, I6 w8)] = some (I6 w8) := by kernel_rfl
  cases h
  exact W.ret hr
def ix_suffixes_j5 (fuel : Nat) (a1 : ByteArray) (v13 : (List Int)) : Option (List Int) :=
  ((sl_SortFunc_int fuel v13 (Int.toNat (IntKind.wrap .i64 ((a1.size : Int) + 1))) (fun y0 y1 => ix_suffixes_1 y0 y1 a1)).bind fun w15 => (some (snap 0 (Int.toNat (IntKind.wrap .i64 ((a1.size : Int) + 1))) w15)))
def ix_suffixes_l1 (a1 : ByteArray) (K5 : ((List Int) → Option (List Int))) : List Nat → Nat → (List Int) → Option (List Int)
  | [], k1, v7 => (K5 v7)
  | x1 :: r1, k1, v7 => (chk (decide ((0 : Int) ≤ (k1 : Int) ∧ (k1 : Int) < (((Int.toNat (IntKind.wrap .i64 ((a1.size : Int) + 1))) : Nat) : Int))) ((upd v7 (0 + Int.toNat (k1 : Int)) (k1 : Int)).bind fun u11 => ((ix_suffixes_l1 a1 K5 r1 (k1 + 1)) u11)))
def ix_suffixes (fuel : Nat) (a1 : ByteArray) : Option (List Int) :=
  (chk (mkOk 8 (IntKind.wrap .i64 ((a1.size : Int) + 1))) (chk (lenOk (List.range (Int.toNat (((Int.toNat (IntKind.wrap .i64 ((a1.size : Int) + 1))) : Nat) : Int)))) (ix_suffixes_l1 a1 (ix_suffixes_j5 fuel a1) (List.range (Int.toNat (((Int.toNat (IntKind.wrap .i64 ((a1.size : Int) + 1))) : Nat) : Int))) 0 (List.replicate (Int.toNat (IntKind.wrap .i64 ((a1.size : Int) + 1))) 0))))
theorem run_ix_suffixes (fuel : Nat) (a1 : ByteArray) (r : (List Int)) (h : ix_suffixes fuel a1 = some r) : Run Try.prog (.call 41 [.str a1] (l3 none r)) := by
  refine call_of_W Try.func41 rfl (by kernel_rfl) (env0 := [(0, .str a1)]) (by kernel_rfl) ?_
  unfold ix_suffixes at h
  refine W.seq ?_
  refine W.region (by kernel_rfl) ?_
  refine WO.steps 2 (e1 := [(0, .str a1), (1, .box [.str a1]), (2, .nils)]) (by kernel_rfl) ?_
  refine WO.mv [.nil 2 3 1 1200002] (env' := [(0, .str a1), (1, .box [.str a1]), (2, .sb 1200002 3 1 0 (([] : (List Int)).length)), (1200002, .obj 3 1 (List.map (AV.int .i64) ([] : (List Int))))]) (by kernel_rfl) ?_
  refine WO.fin [1] [1] [] [] (e2 := [(1, .ptr (.str a1))]) (by kernel_rfl) (fun _ h => h) ?_
  refine W.seq ?_
  refine W.region (by kernel_rfl) ?_
  obtain ⟨hc4, h⟩ := chk_some h
  refine WO.makeK 3 (d := 8) (e := 3) (s := 1) (bytes := 8) (m := (W6 ((a1.size : Int) + 1))) (z := (.int .i64 0)) (zs := (List.map (AV.int .i64) (List.replicate (Int.toNat (W6 ((a1.size : Int) + 1))) 0))) (env1 := [(1, .ptr (.str a1)), (5, .str a1), (6, I6 (a1.size : Int)), (7, I6 (W6 ((a1.size : Int) + 1))), (8, .sb 1000008 3 1 0 (Int.toNat (W6 ((a1.size : Int) + 1))))]) (by kernel_rfl) hc4 (by first | exact rep_map | exact (rep_map (f := (AV.int .i64)))) (e1 := [(1, .ptr (.str a1)), (5, .str a1), (6, I6 (a1.size : Int)), (7, I6 (W6 ((a1.size : Int) + 1))), (8, .sb 1000008 3 1 0 (Int.toNat (W6 ((a1.size : Int) + 1)))), (1000008, .obj 3 1 (List.map (AV.int .i64) (List.replicate (Int.toNat (W6 ((a1.size : Int) + 1))) 0)))]) (by kernel_rfl) ?_
  refine WO.fin [1, 3, 1000008] [] [] [] (e2 := [(1, .ptr (.str a1)), (3, .sb 1000008 3 1 0 (Int.toNat (W6 ((a1.size : Int) + 1)))), (1000008, .obj 3 1 (List.map (AV.int .i64) (List.replicate (Int.toNat (W6 ((a1.size : Int) + 1))) 0)))]) (by kernel_rfl) (fun _ h => h) ?_
  refine W.seq ?_
  refine W.join (σ := ((List Int))) (fun s => [(1, .ptr (.str a1)), (3, .sb 1000008 3 1 0 (Int.toNat (W6 ((a1.size : Int) + 1)))), (1000008, .obj 3 1 (List.map (AV.int .i64) s))]) (fun s => (ix_suffixes_j5 fuel a1) s = some r) (fun s h => ?_) (fun hK5 => ?_)
  · obtain ⟨v13, rfl⟩ : ∃ x, x = s := ⟨s, rfl⟩
    have h : (ix_suffixes_j5 fuel a1) v13 = some r := h
    unfold ix_suffixes_j5 at h
    refine W.seq ?_
    refine W.region (by kernel_rfl) ?_
    obtain ⟨w15, hw15, h⟩ := bind_some h
    refine WO.callMK 2 [(1000008, 2000000)] [] (F := 59) (args := [.sb 2000000 3 1 0 (Int.toNat (W6 ((a1.size : Int) + 1))), .clo 60 [.ptr (.str a1)]]) (hp := [O1 v13]) (hp2 := [O1 w15]) (r := .tup []) (by kernel_rfl) (run_sl_SortFunc_int fuel v13 (Int.toNat (W6 ((a1.size : Int) + 1))) (fun y0 y1 => ix_suffixes_1 y0 y1 a1) 60 [.ptr (.str a1)] (by kernel_rfl) (fun y0 y1 r h => run_ix_suffixes_1 y0 y1 a1 r h) w15 hw15) (e1 := [(1, .ptr (.str a1)), (3, .sb 1000008 3 1 0 (Int.toNat (W6 ((a1.size : Int) + 1)))), (19, .sb 1000008 3 1 0 (Int.toNat (W6 ((a1.size : Int) + 1)))), (20, .clo 60 [.ptr (.str a1)]), (21, .tup []), (1000008, .obj 3 1 (List.map (AV.int .i64) w15))]) (by kernel_rfl) ?_
    refine WO.fin [3, 1000008] [] [] [] (e2 := [(3, .sb 1000008 3 1 0 (Int.toNat (W6 ((a1.size : Int) + 1)))), (1000008, .obj 3 1 (List.map (AV.int .i64) w15))]) (by kernel_rfl) (fun _ h => h) ?_
    refine W.seq ?_
    refine W.regT [2, 1000008] [] [] [] (e2 := [(2, .sb 1000008 3 1 0 (Int.toNat (W6 ((a1.size : Int) + 1)))), (1000008, .obj 3 1 (List.map (AV.int .i64) w15))]) (by kernel_rfl) (by kernel_rfl) (fun _ h => h) ?_
    refine W.mv [.frz 1000008] (env' := [(2, l3 none (snap 0 (Int.toNat (W6 ((a1.size : Int) + 1))) w15))]) ((by kernel_rfl : mvAll [(2, .sb 1000008 3 1 0 (Int.toNat (W6 ((a1.size : Int) + 1)))), (1000008, .obj 3 1 (List.map (AV.int .i64) w15))] [.frz 1000008] = [(2, .lst 3 1 none (snapA 0 (Int.toNat (W6 ((a1.size : Int) + 1))) (List.map (AV.int .i64) w15)))]).trans (by first | (simp only [snap_map, snap_full, snap_rep]; done) | (simp only [snap_map, snap_full, snap_rep]; kernel_rfl))) ?_
    refine W.weak [2] [] [] [] (env' := [(2, l3 none (snap 0 (Int.toNat (W6 ((a1.size : Int) + 1))) w15))]) (by kernel_rfl) ?_
    have hr : aresults Try.prog Try.f41 [(2, l3 none (snap 0 (Int.toNat (W6 ((a1.size : Int) + 1))) w15))] = some (l3 none (snap 0 (Int.toNat (W6 ((a1.size : Int) + 1))) w15)) := by kernel_rfl
    cases h
    exact W.ret hr
  refine W.seq ?_
  refine W.regT [1, 3, 10, 11, 1000008] [] [] [] (e2 := [(1, .ptr (.str a1)), (3, .sb 1000008 3 1 0 (Int.toNat (W6 ((a1.size : Int) + 1)))), (10, I6 (((Int.toNat (W6 ((a1.size : Int) + 1))) : Nat) : Int)), (11, .int .i64 0), (1000008, .obj 3 1 (List.map (AV.int .i64) (List.replicate (Int.toNat (W6 ((a1.size : Int) + 1))) 0)))]) (by kernel_rfl) (by kernel_rfl) (fun _ h => h) ?_
  refine W.block ?_
  obtain ⟨hl1, h⟩ := chk_some h
  refine W.weak [1, 3, 10, 11, 1000008] [] [] [] (env' := [(1, .ptr (.str a1)), (3, .sb 1000008 3 1 0 (Int.toNat (W6 ((a1.size : Int) + 1)))), (10, I6 (((Int.toNat (W6 ((a1.size : Int) + 1))) : Nat) : Int)), (11, I6 ((0 : Nat) : Int)), (1000008, .obj 3 1 (List.map (AV.int .i64) (List.replicate (Int.toNat (W6 ((a1.size : Int) + 1))) 0)))]) (by kernel_rfl) ?_
  refine W.range (σ := ((List Int))) (List.range (Int.toNat (((Int.toNat (W6 ((a1.size : Int) + 1))) : Nat) : Int))) (fun k1 s => [(1, .ptr (.str a1)), (3, .sb 1000008 3 1 0 (Int.toNat (W6 ((a1.size : Int) + 1)))), (10, I6 (((Int.toNat (W6 ((a1.size : Int) + 1))) : Nat) : Int)), (11, I6 (k1 : Int)), (1000008, .obj 3 1 (List.map (AV.int .i64) s))]) (fun r0 k0 s => ix_suffixes_l1 a1 (ix_suffixes_j5 fuel a1) r0 k0 s = some r) (fun s h => ?_) (fun x1 r1 k1 s hx1 hk1 h hN1 => ?_) (List.replicate (Int.toNat (W6 ((a1.size : Int) + 1))) 0) h
  · obtain ⟨v7, rfl⟩ : ∃ x, x = s := ⟨s, rfl⟩
    have h : ix_suffixes_l1 a1 (ix_suffixes_j5 fuel a1) [] ((List.range (Int.toNat (((Int.toNat (W6 ((a1.size : Int) + 1))) : Nat) : Int)))).length v7 = some r := h
    rw [ix_suffixes_l1.eq_1] at h
    refine W.seq ?_
    refine W.region (by kernel_rfl) ?_
    refine WO.pureK 0 (some (.bool (decide ((((List.range (Int.toNat (((Int.toNat (W6 ((a1.size : Int) + 1))) : Nat) : Int)))).length : Int) < (((Int.toNat (W6 ((a1.size : Int) + 1))) : Nat) : Int))))) (v := .bool false) (by kernel_rfl) (by rw [ltr_false (n := (((Int.toNat (W6 ((a1.size : Int) + 1))) : Nat) : Int))]) (e1 := [(1, .ptr (.str a1)), (3, .sb 1000008 3 1 0 (Int.toNat (W6 ((a1.size : Int) + 1)))), (10, I6 (((Int.toNat (W6 ((a1.size : Int) + 1))) : Nat) : Int)), (11, I6 (((List.range (Int.toNat (((Int.toNat (W6 ((a1.size : Int) + 1))) : Nat) : Int)))).length : Int)), (12, .bool false), (1000008, .obj 3 1 (List.map (AV.int .i64) v7))]) (by kernel_rfl) ?_
    refine WO.fin ([1, 3, 10, 11, 12, 1000008]) [] [] [] (e2 := [(1, .ptr (.str a1)), (3, .sb 1000008 3 1 0 (Int.toNat (W6 ((a1.size : Int) + 1)))), (10, I6 (((Int.toNat (W6 ((a1.size : Int) + 1))) : Nat) : Int)), (11, I6 (((List.range (Int.toNat (((Int.toNat (W6 ((a1.size : Int) + 1))) : Nat) : Int)))).length : Int)), (12, .bool false), (1000008, .obj 3 1 (List.map (AV.int .i64) v7))]) (by kernel_rfl) (fun _ h => h) ?_
    refine W.seq ?_
    refine W.condB false (by kernel_rfl) (fun h => Bool.noConfusion h) (fun _ => ?_)
    refine W.exit ?_
    refine W.weak [1, 3, 1000008] [] [] [] (env' := [(1, .ptr (.str a1)), (3, .sb 1000008 3 1 0 (Int.toNat (W6 ((a1.size : Int) + 1)))), (1000008, .obj 3 1 (List.map (AV.int .i64) v7))]) (by kernel_rfl) ?_
    exact hK5 v7 h
  · obtain ⟨v7, rfl⟩ : ∃ x, x = s := ⟨s, rfl⟩
    have h : ix_suffixes_l1 a1 (ix_suffixes_j5 fuel a1) (x1 :: r1) k1 v7 = some r := h
    rw [ix_suffixes_l1.eq_2] at h
    refine W.seq ?_
    refine W.region (by kernel_rfl) ?_
    refine WO.pureK 0 (some (.bool (decide ((k1 : Int) < (((Int.toNat (W6 ((a1.size : Int) + 1))) : Nat) : Int))))) (v := .bool true) (by kernel_rfl) (by rw [ltr_true hk1]) (e1 := [(1, .ptr (.str a1)), (3, .sb 1000008 3 1 0 (Int.toNat (W6 ((a1.size : Int) + 1)))), (10, I6 (((Int.toNat (W6 ((a1.size : Int) + 1))) : Nat) : Int)), (11, I6 (k1 : Int)), (12, .bool true), (1000008, .obj 3 1 (List.map (AV.int .i64) v7))]) (by kernel_rfl) ?_
    refine WO.fin ([1, 3, 10, 11, 12, 1000008]) [] [] [] (e2 := [(1, .ptr (.str a1)), (3, .sb 1000008 3 1 0 (Int.toNat (W6 ((a1.size : Int) + 1)))), (10, I6 (((Int.toNat (W6 ((a1.size : Int) + 1))) : Nat) : Int)), (11, I6 (k1 : Int)), (12, .bool true), (1000008, .obj 3 1 (List.map (AV.int .i64) v7))]) (by kernel_rfl) (fun _ h => h) ?_
    refine W.seq ?_
    refine W.condB true (by kernel_rfl) (fun _ => ?_) (fun h => Bool.noConfusion h)
    refine W.skip ?_
    refine W.weak [1, 3, 10, 11, 1000008] [] [] [] (env' := [(1, .ptr (.str a1)), (3, .sb 1000008 3 1 0 (Int.toNat (W6 ((a1.size : Int) + 1)))), (10, I6 (((Int.toNat (W6 ((a1.size : Int) + 1))) : Nat) : Int)), (11, I6 (k1 : Int)), (1000008, .obj 3 1 (List.map (AV.int .i64) v7))]) (by kernel_rfl) ?_
    refine W.seq ?_
    refine W.block ?_
    refine W.seq ?_
    refine W.regT [1, 3, 4, 10, 11, 1000008] [] [] [] (e2 := [(1, .ptr (.str a1)), (3, .sb 1000008 3 1 0 (Int.toNat (W6 ((a1.size : Int) + 1)))), (4, I6 (k1 : Int)), (10, I6 (((Int.toNat (W6 ((a1.size : Int) + 1))) : Nat) : Int)), (11, I6 (k1 : Int)), (1000008, .obj 3 1 (List.map (AV.int .i64) v7))]) (by kernel_rfl) (by kernel_rfl) (fun _ h => h) ?_
    refine W.region (by kernel_rfl) ?_
    obtain ⟨hc10, h⟩ := chk_some h
    refine WO.pureK 3 (if (0 : Int) ≤ (k1 : Int) ∧ (k1 : Int) < (((Int.toNat (W6 ((a1.size : Int) + 1))) : Nat) : Int) then some (.pe 1000008 1 (0 + Int.toNat (k1 : Int)) 0) else none) (v := .pe 1000008 1 (0 + Int.toNat (k1 : Int)) 0) (by kernel_rfl) (ite_some hc10) (e1 := [(1, .ptr (.str a1)), (3, .sb 1000008 3 1 0 (Int.toNat (W6 ((a1.size : Int) + 1)))), (4, I6 (k1 : Int)), (10, I6 (((Int.toNat (W6 ((a1.size : Int) + 1))) : Nat) : Int)), (11, I6 (k1 : Int)), (14, .sb 1000008 3 1 0 (Int.toNat (W6 ((a1.size : Int) + 1)))), (15, I6 (k1 : Int)), (16, I6 (k1 : Int)), (17, .pe 1000008 1 (0 + Int.toNat (k1 : Int)) 0), (1000008, .obj 3 1 (List.map (AV.int .i64) v7))]) (by kernel_rfl) ?_
    obtain ⟨u11, hu11, h⟩ := bind_some h
    obtain ⟨y12, hyy12, hzy12⟩ := upd_some hu11
    refine WO.storeK 0 (id := 1000008) (e := 3) (s := 1) (j := (0 + Int.toNat (k1 : Int))) (off := 0) (vs := [I6 (k1 : Int)]) (xs := (List.map (AV.int .i64) v7)) (zs := (List.map (AV.int .i64) u11)) (y := ((AV.int .i64)) y12) (y' := ((AV.int .i64)) (k1 : Int)) (by kernel_rfl) (upd_get hyy12) (by kernel_rfl) (upd_set hzy12) (e1 := [(1, .ptr (.str a1)), (3, .sb 1000008 3 1 0 (Int.toNat (W6 ((a1.size : Int) + 1)))), (4, I6 (k1 : Int)), (10, I6 (((Int.toNat (W6 ((a1.size : Int) + 1))) : Nat) : Int)), (11, I6 (k1 : Int)), (14, .sb 1000008 3 1 0 (Int.toNat (W6 ((a1.size : Int) + 1)))), (15, I6 (k1 : Int)), (16, I6 (k1 : Int)), (17, .pe 1000008 1 (0 + Int.toNat (k1 : Int)) 0), (1000008, .obj 3 1 (List.map (AV.int .i64) u11))]) (by kernel_rfl) ?_
    refine WO.fin [1, 3, 10, 11, 1000008] [] [] [] (e2 := [(1, .ptr (.str a1)), (3, .sb 1000008 3 1 0 (Int.toNat (W6 ((a1.size : Int) + 1)))), (10, I6 (((Int.toNat (W6 ((a1.size : Int) + 1))) : Nat) : Int)), (11, I6 (k1 : Int)), (1000008, .obj 3 1 (List.map (AV.int .i64) u11))]) (by kernel_rfl) (fun _ h => h) ?_
    refine W.region (by kernel_rfl) ?_
    refine WO.pureK 0 (some (I6 (IntKind.wrap .i64 ((k1 : Int) + 1)))) (v := I6 ((k1 + 1 : Nat) : Int)) (by kernel_rfl) (by rw [wrap_succ hl1 hk1]) (e1 := [(1, .ptr (.str a1)), (3, .sb 1000008 3 1 0 (Int.toNat (IntKind.wrap .i64 ((a1.size : Int) + 1)))), (10, I6 (((Int.toNat (IntKind.wrap .i64 ((a1.size : Int) + 1))) : Nat) : Int)), (11, I6 (k1 : Int)), (18, I6 ((k1 + 1 : Nat) : Int)), (1000008, .obj 3 1 (List.map (AV.int .i64) u11))]) (by kernel_rfl) ?_
    refine WO.fin [1, 3, 10, 11, 1000008] [] [] [] (e2 := [(1, .ptr (.str a1)), (3, .sb 1000008 3 1 0 (Int.toNat (W6 ((a1.size : Int) + 1)))), (10, I6 (((Int.toNat (W6 ((a1.size : Int) + 1))) : Nat) : Int)), (11, I6 ((k1 + 1 : Nat) : Int)), (1000008, .obj 3 1 (List.map (AV.int .i64) u11))]) (by kernel_rfl) (fun _ h => h) ?_
    exact hN1 u11 h
def ix_Sort (fuel : Nat) (a1 : ByteArray) : Option ((List Int) × Int) :=
  ((ix_valid a1).bind fun w5 => (bif (!w5) then (some (([] : (List Int)), 2)) else ((ix_suffixes fuel a1).bind fun w8 => (some (w8, 0)))))
theorem run_ix_Sort (fuel : Nat) (a1 : ByteArray) (r : ((List Int) × Int)) (h : ix_Sort fuel a1 = some r) : Run Try.prog (.call 15 [.str a1] (.tup [l3 none r.1, I6 r.2])) := by
  refine call_of_W Try.func15 rfl (by kernel_rfl) (env0 := [(0, .str a1)]) (by kernel_rfl) ?_
  unfold ix_Sort at h
  refine W.seq ?_
  refine W.regT [0] [] [] [] (e2 := [(0, .str a1)]) (by kernel_rfl) (by kernel_rfl) (fun _ h => h) ?_
  refine W.seq ?_
  refine W.seq ?_
  refine W.region (by kernel_rfl) ?_
  obtain ⟨w5, hw5, h⟩ := bind_some h
  refine WO.callK 1 (F := 40) (l := [.str a1]) (C := []) (r := .bool w5) (by kernel_rfl) (by kernel_rfl) (run_ix_valid a1 w5 hw5) (e1 := [(0, .str a1), (4, .str a1), (5, .bool w5)]) (by kernel_rfl) ?_
  refine WO.fin [0, 6] [] [] [] (e2 := [(0, .str a1), (6, .bool (!w5))]) (by kernel_rfl) (fun _ h => h) ?_
  refine W.condB (!w5) (by kernel_rfl) (fun hb => ?_) (fun hb => ?_)
  · replace h := cond_t hb h
    refine W.seq ?_
    refine W.regT [2, 3] [] [] [] (e2 := [(2, .nils), (3, .int .i64 2)]) (by kernel_rfl) (by kernel_rfl) (fun _ h => h) ?_
    refine W.weak [2, 3] [] [(2, 0, 3, 1, 70002)] [] (env' := [(2, l3 (some 70002) ([] : (List Int))), (3, .int .i64 2)]) (by kernel_rfl) ?_
    have hr : aresults Try.prog Try.f15 [(2, l3 (some 70002) ([] : (List Int))), (3, .int .i64 2)] = some (.tup [l3 none ([] : (List Int)), .int .i64 2]) := by kernel_rfl
    cases h
    exact W.ret hr
  replace h := cond_f hb h
  refine W.skip ?_
  refine W.weak [0] [] [] [] (env' := [(0, .str a1)]) (by kernel_rfl) ?_
  refine W.seq ?_
  refine W.region (by kernel_rfl) ?_
  obtain ⟨w8, hw8, h⟩ := bind_some h
  refine WO.callK 1 (F := 41) (l := [.str a1]) (C := []) (r := l3 none w8) (by kernel_rfl) (by kernel_rfl) (run_ix_suffixes fuel a1 w8 hw8) (e1 := [(0, .str a1), (7, .str a1), (8, l3 none w8)]) (by kernel_rfl) ?_
  refine WO.fin [2, 3] [] [] [] (e2 := [(2, l3 none w8), (3, .int .i64 0)]) (by kernel_rfl) (fun _ h => h) ?_
  refine W.weak [2, 3] [] [] [] (env' := [(2, l3 none w8), (3, .int .i64 0)]) (by kernel_rfl) ?_
  have hr : aresults Try.prog Try.f15 [(2, l3 none w8), (3, .int .i64 0)] = some (.tup [l3 none w8, .int .i64 0]) := by kernel_rfl
  cases h
  exact W.ret hr
def ix_agree_j5 (v12 : Int) : Option Int :=
  (some v12)
def ix_agree_j8 (v6 : Int) (N1 : (Int → Option Int)) (K5 : (Int → Option Int)) (v11 : Bool) : Option Int :=
  (bif v11 then (N1 (IntKind.wrap .i64 (v6 + 1))) else (K5 v6))
def ix_agree_l1 (a1 : ByteArray) (a2 : ByteArray) (K5 : (Int → Option Int)) : Nat → Int → Option Int
  | 0, _ => none
  | m1 + 1, v6 => (bif (decide (v6 < (if (a2.size : Int) < (a1.size : Int) then (a2.size : Int) else (a1.size : Int)))) then ((sidx a1 v6).bind fun e9 => ((sidx a2 v6).bind fun e10 => ((ix_agree_j8 v6 (ix_agree_l1 a1 a2 K5 m1) K5) (e9 == e10)))) else ((ix_agree_j8 v6 (ix_agree_l1 a1 a2 K5 m1) K5) false))
def ix_agree (fuel : Nat) (a1 : ByteArray) (a2 : ByteArray) : Option Int :=
  (ix_agree_l1 a1 a2 (ix_agree_j5) fuel 0)
theorem run_ix_agree (fuel : Nat) (a1 : ByteArray) (a2 : ByteArray) (r : Int) (h : ix_agree fuel a1 a2 = some r) : Run Try.prog (.call 62 [.str a1, .str a2] (I6 r)) := by
  refine call_of_W Try.func62 rfl (by kernel_rfl) (env0 := [(0, .str a1), (1, .str a2)]) (by kernel_rfl) ?_
  unfold ix_agree at h
  refine W.seq ?_
  refine W.regT [0, 1] [] [] [] (e2 := [(0, .str a1), (1, .str a2)]) (by kernel_rfl) (by kernel_rfl) (fun _ h => h) ?_
  refine W.seq ?_
  refine W.regT [0, 1, 5] [] [] [] (e2 := [(0, .str a1), (1, .str a2), (5, .int .i64 0)]) (by kernel_rfl) (by kernel_rfl) (fun _ h => h) ?_
  refine W.seq ?_
  refine W.join (σ := (Int)) (fun s => [(5, I6 s)]) (fun s => (ix_agree_j5) s = some r) (fun s h => ?_) (fun hK5 => ?_)
  · obtain ⟨v12, rfl⟩ : ∃ x, x = s := ⟨s, rfl⟩
    have h : (ix_agree_j5) v12 = some r := h
    unfold ix_agree_j5 at h
    refine W.seq ?_
    refine W.regT [4] [] [] [] (e2 := [(4, I6 v12)]) (by kernel_rfl) (by kernel_rfl) (fun _ h => h) ?_
    refine W.weak [4] [] [] [] (env' := [(4, I6 v12)]) (by kernel_rfl) ?_
    have hr : aresults Try.prog Try.f62 [(4, I6 v12)] = some (I6 v12) := by kernel_rfl
    cases h
    exact W.ret hr
  refine W.block ?_
  refine W.weak [0, 1, 5] [] [] [] (env' := [(0, .str a1), (1, .str a2), (5, .int .i64 0)]) (by kernel_rfl) ?_
  refine W.fuel (σ := (Int)) (fun s => [(0, .str a1), (1, .str a2), (5, I6 s)]) (fun m0 s => ix_agree_l1 a1 a2 (ix_agree_j5) m0 s = some r) (fun s h => ?_) (fun m1 s h hN1 => ?_) fuel 0 h
  · obtain ⟨v6, rfl⟩ : ∃ x, x = s := ⟨s, rfl⟩
    have h : ix_agree_l1 a1 a2 (ix_agree_j5) 0 v6 = some r := h
    rw [ix_agree_l1.eq_1] at h
    cases h
  · obtain ⟨v6, rfl⟩ : ∃ x, x = s := ⟨s, rfl⟩
    have h : ix_agree_l1 a1 a2 (ix_agree_j5) (m1 + 1) v6 = some r := h
    rw [ix_agree_l1.eq_2] at h
    refine W.seq ?_
    refine W.seq ?_
    refine W.join (σ := (Bool)) (fun s => [(0, .str a1), (1, .str a2), (5, I6 v6), (21, .bool s)]) (fun s => (ix_agree_j8 v6 (ix_agree_l1 a1 a2 (ix_agree_j5) m1) (ix_agree_j5)) s = some r) (fun s h => ?_) (fun hK8 => ?_)
    · obtain ⟨v11, rfl⟩ : ∃ x, x = s := ⟨s, rfl⟩
      have h : (ix_agree_j8 v6 (ix_agree_l1 a1 a2 (ix_agree_j5) m1) (ix_agree_j5)) v11 = some r := h
      unfold ix_agree_j8 at h
      refine W.condB v11 (by kernel_rfl) (fun hb => ?_) (fun hb => ?_)
      · replace h := cond_t hb h
        refine W.skip ?_
        refine W.weak [0, 1, 5] [] [] [] (env' := [(0, .str a1), (1, .str a2), (5, I6 v6)]) (by kernel_rfl) ?_
        refine W.block ?_
        refine W.regT [0, 1, 5] [] [] [] (e2 := [(0, .str a1), (1, .str a2), (5, I6 (W6 (v6 + 1)))]) (by kernel_rfl) (by kernel_rfl) (fun _ h => h) ?_
        exact hN1 (W6 (v6 + 1)) h
      replace h := cond_f hb h
      refine W.exit ?_
      refine W.weak [5] [] [] [] (env' := [(5, I6 v6)]) (by kernel_rfl) ?_
      exact hK5 v6 h
    refine W.region (by kernel_rfl) ?_
    refine WO.boolK 8 (fun b => [(0, .str a1), (1, .str a2), (5, I6 v6), (6, I6 v6), (7, .str a1), (8, I6 (a1.size : Int)), (9, .str a2), (10, I6 (a2.size : Int)), (11, I6 (if (a2.size : Int) < (a1.size : Int) then (a2.size : Int) else (a1.size : Int))), (12, .bool b), (13, .bool b)]) (decide (v6 < (if (a2.size : Int) < (a1.size : Int) then (a2.size : Int) else (a1.size : Int)))) (by kernel_rfl) (fun hb => ?_) (fun hb => ?_)
    · replace h := cond_t hb h
      obtain ⟨e9, he9, h⟩ := bind_some h
      refine WO.pureK 2 (if (0 : Int) ≤ v6 then (a1[Int.toNat v6]?).map fun b => AV.int .u8 b.toNat else none) (v := .int .u8 e9) (by kernel_rfl) (sidx_av he9) (e1 := [(0, .str a1), (1, .str a2), (5, I6 v6), (6, I6 v6), (7, .str a1), (8, I6 (a1.size : Int)), (9, .str a2), (10, I6 (a2.size : Int)), (11, I6 (if (a2.size : Int) < (a1.size : Int) then (a2.size : Int) else (a1.size : Int))), (12, .bool true), (13, .bool true), (14, .str a1), (15, I6 v6), (16, .int .u8 e9)]) (by kernel_rfl) ?_
      obtain ⟨e10, he10, h⟩ := bind_some h
      refine WO.pureK 2 (if (0 : Int) ≤ v6 then (a2[Int.toNat v6]?).map fun b => AV.int .u8 b.toNat else none) (v := .int .u8 e10) (by kernel_rfl) (sidx_av he10) (e1 := [(0, .str a1), (1, .str a2), (5, I6 v6), (6, I6 v6), (7, .str a1), (8, I6 (a1.size : Int)), (9, .str a2), (10, I6 (a2.size : Int)), (11, I6 (if (a2.size : Int) < (a1.size : Int) then (a2.size : Int) else (a1.size : Int))), (12, .bool true), (13, .bool true), (14, .str a1), (15, I6 v6), (16, .int .u8 e9), (17, .str a2), (18, I6 v6), (19, .int .u8 e10)]) (by kernel_rfl) ?_
      refine WO.fin [0, 1, 5, 21] [] [] [] (e2 := [(0, .str a1), (1, .str a2), (5, I6 v6), (21, .bool (e9 == e10))]) (by kernel_rfl) (fun _ h => h) ?_
      exact hK8 (e9 == e10) h
    replace h := cond_f hb h
    refine WO.fin [0, 1, 5, 21] [] [] [] (e2 := [(0, .str a1), (1, .str a2), (5, I6 v6), (21, .bool false)]) (by kernel_rfl) (fun _ h => h) ?_
    exact hK8 false h
def ix_common_j6 (v19 : (List Int)) : Option (List Int) :=
  (some v19)
def ix_common_l1 (fuel : Nat) (a1 : ByteArray) (w4 : (List Int)) (K6 : ((List Int) → Option (List Int))) : Nat → (List Int) → Int → Option (List Int)
  | 0, _, _ => none
  | m1 + 1, v8, v9 => (bif (decide (v9 < (w4.length : Int))) then ((idx w4 (IntKind.wrap .i64 (v9 - 1))).bind fun e13 => ((ssub a1 e13 (a1.size : Int)).bind fun e14 => ((idx w4 v9).bind fun e15 => ((ssub a1 e15 (a1.size : Int)).bind fun e16 => ((ix_agree fuel e14 e16).bind fun w17 => (chk (capOk 8 ((v8 ++ [w17])).length) ((ix_common_l1 fuel a1 w4 K6 m1) (v8 ++ [w17]) (IntKind.wrap .i64 (v9 + 1))))))))) else (K6 v8))
def ix_common (fuel : Nat) (a1 : ByteArray) : Option (List Int) :=
  ((ix_suffixes fuel a1).bind fun w4 => (ix_common_l1 fuel a1 w4 (ix_common_j6) fuel ([] : (List Int)) 1))
theorem run_ix_common (fuel : Nat) (a1 : ByteArray) (r : (List Int)) (h : ix_common fuel a1 = some r) : Run Try.prog (.call 42 [.str a1] (l3 (some 1) r)) := by
  refine call_of_W Try.func42 rfl (by kernel_rfl) (env0 := [(0, .str a1)]) (by kernel_rfl) ?_
  unfold ix_common at h
  refine W.seq ?_
  refine W.regT [0] [] [] [] (e2 := [(0, .str a1)]) (by kernel_rfl) (by kernel_rfl) (fun _ h => h) ?_
  refine W.seq ?_
  refine W.region (by kernel_rfl) ?_
  obtain ⟨w4, hw4, h⟩ := bind_some h
  refine WO.callK 1 (F := 41) (l := [.str a1]) (C := []) (r := l3 none w4) (by kernel_rfl) (by kernel_rfl) (run_ix_suffixes fuel a1 w4 hw4) (e1 := [(0, .str a1), (6, .str a1), (7, l3 none w4)]) (by kernel_rfl) ?_
  refine WO.fin [0, 3] [] [] [] (e2 := [(0, .str a1), (3, l3 none w4)]) (by kernel_rfl) (fun _ h => h) ?_
  refine W.seq ?_
  refine W.regT [0, 3, 4] [] [] [] (e2 := [(0, .str a1), (3, l3 none w4), (4, .nils)]) (by kernel_rfl) (by kernel_rfl) (fun _ h => h) ?_
  refine W.seq ?_
  refine W.join (σ := ((List Int))) (fun s => [(4, l3 (some 10400) s)]) (fun s => (ix_common_j6) s = some r) (fun s h => ?_) (fun hK6 => ?_)
  · obtain ⟨v19, rfl⟩ : ∃ x, x = s := ⟨s, rfl⟩
    have h : (ix_common_j6) v19 = some r := h
    unfold ix_common_j6 at h
    refine W.seq ?_
    refine W.regT [2] [] [] [] (e2 := [(2, l3 (some 10400) v19)]) (by kernel_rfl) (by kernel_rfl) (fun _ h => h) ?_
    refine W.weak [2] [] [] [(10400, some 1)] (env' := [(2, l3 (some 1) v19)]) (by kernel_rfl) ?_
    have hr : aresults Try.prog Try.f42 [(2, l3 (some 1) v19)] = some (l3 (some 1) v19) := by kernel_rfl
    cases h
    exact W.ret hr
  refine W.seq ?_
  refine W.regT [0, 3, 4, 5] [] [] [] (e2 := [(0, .str a1), (3, l3 none w4), (4, .nils), (5, .int .i64 1)]) (by kernel_rfl) (by kernel_rfl) (fun _ h => h) ?_
  refine W.block ?_
  refine W.weak [0, 3, 4, 5] [] [(4, 0, 3, 1, 10400)] [] (env' := [(0, .str a1), (3, l3 none w4), (4, l3 (some 10400) ([] : (List Int))), (5, .int .i64 1)]) (by kernel_rfl) ?_
  refine W.fuel (σ := ((List Int) × Int)) (fun s => [(0, .str a1), (3, l3 none w4), (4, l3 (some 10400) s.1), (5, I6 s.2)]) (fun m0 s => ix_common_l1 fuel a1 w4 (ix_common_j6) m0 s.1 s.2 = some r) (fun s h => ?_) (fun m1 s h hN1 => ?_) fuel (([] : (List Int)), 1) h
  · obtain ⟨v8, v9⟩ := s
    have h : ix_common_l1 fuel a1 w4 (ix_common_j6) 0 v8 v9 = some r := h
    rw [ix_common_l1.eq_1] at h
    cases h
  · obtain ⟨v8, v9⟩ := s
    have h : ix_common_l1 fuel a1 w4 (ix_common_j6) (m1 + 1) v8 v9 = some r := h
    rw [ix_common_l1.eq_2] at h
    refine W.seq ?_
    refine W.seq ?_
    refine W.region (by kernel_rfl) ?_
    refine WO.pureK 2 (some (I6 ((List.map (AV.int .i64) w4).length : Int))) (v := I6 (w4.length : Int)) (by kernel_rfl) (by rw [List.length_map]) (e1 := [(0, .str a1), (3, l3 none w4), (4, l3 (some 10400) v8), (5, I6 v9), (8, I6 v9), (9, l3 none w4), (10, I6 (w4.length : Int))]) (by kernel_rfl) ?_
    refine WO.fin [0, 3, 4, 5, 11] [] [] [] (e2 := [(0, .str a1), (3, l3 none w4), (4, l3 (some 10400) v8), (5, I6 v9), (11, .bool (decide (v9 < (w4.length : Int))))]) (by kernel_rfl) (fun _ h => h) ?_
    refine W.condB (decide (v9 < (w4.length : Int))) (by kernel_rfl) (fun hb => ?_) (fun hb => ?_)
    · replace h := cond_t hb h
      refine W.skip ?_
      refine W.weak [0, 3, 4, 5] [] [] [] (env' := [(0, .str a1), (3, l3 none w4), (4, l3 (some 10400) v8), (5, I6 v9)]) (by kernel_rfl) ?_
      refine W.seq ?_
      refine W.block ?_
      refine W.region (by kernel_rfl) ?_
      obtain ⟨e13, he13, h⟩ := bind_some h
      refine WO.pureK 5 (if (0 : Int) ≤ (W6 (v9 - 1)) then ((List.map (AV.int .i64) w4)[Int.toNat (W6 (v9 - 1))]?).map AV.ptr else none) (v := .ptr (I6 e13)) (by kernel_rfl) (idx_av (f := (AV.int .i64)) he13) (e1 := [(0, .str a1), (3, l3 none w4), (4, l3 (some 10400) v8), (5, I6 v9), (14, l3 (some 10400) v8), (15, .str a1), (16, l3 none w4), (17, I6 v9), (18, I6 (W6 (v9 - 1))), (19, .ptr (I6 e13))]) (by kernel_rfl) ?_
      obtain ⟨e14, he14, h⟩ := bind_some h
      refine WO.pureK 1 (if (0 : Int) ≤ e13 ∧ e13 ≤ (a1.size : Int) ∧ (a1.size : Int) ≤ (a1.size : Int) then some (AV.str (a1.extract (Int.toNat e13) (Int.toNat (a1.size : Int)))) else none) (v := .str e14) (by kernel_rfl) (ssub_av he14) (e1 := [(0, .str a1), (3, l3 none w4), (4, l3 (some 10400) v8), (5, I6 v9), (14, l3 (some 10400) v8), (15, .str a1), (16, l3 none w4), (17, I6 v9), (18, I6 (W6 (v9 - 1))), (19, .ptr (I6 e13)), (20, I6 e13), (21, .str e14)]) (by kernel_rfl) ?_
      obtain ⟨e15, he15, h⟩ := bind_some h
      refine WO.pureK 3 (if (0 : Int) ≤ v9 then ((List.map (AV.int .i64) w4)[Int.toNat v9]?).map AV.ptr else none) (v := .ptr (I6 e15)) (by kernel_rfl) (idx_av (f := (AV.int .i64)) he15) (e1 := [(0, .str a1), (3, l3 none w4), (4, l3 (some 10400) v8), (5, I6 v9), (14, l3 (some 10400) v8), (15, .str a1), (16, l3 none w4), (17, I6 v9), (18, I6 (W6 (v9 - 1))), (19, .ptr (I6 e13)), (20, I6 e13), (21, .str e14), (22, .str a1), (23, l3 none w4), (24, I6 v9), (25, .ptr (I6 e15))]) (by kernel_rfl) ?_
      obtain ⟨e16, he16, h⟩ := bind_some h
      refine WO.pureK 1 (if (0 : Int) ≤ e15 ∧ e15 ≤ (a1.size : Int) ∧ (a1.size : Int) ≤ (a1.size : Int) then some (AV.str (a1.extract (Int.toNat e15) (Int.toNat (a1.size : Int)))) else none) (v := .str e16) (by kernel_rfl) (ssub_av he16) (e1 := [(0, .str a1), (3, l3 none w4), (4, l3 (some 10400) v8), (5, I6 v9), (14, l3 (some 10400) v8), (15, .str a1), (16, l3 none w4), (17, I6 v9), (18, I6 (W6 (v9 - 1))), (19, .ptr (I6 e13)), (20, I6 e13), (21, .str e14), (22, .str a1), (23, l3 none w4), (24, I6 v9), (25, .ptr (I6 e15)), (26, I6 e15), (27, .str e16)]) (by kernel_rfl) ?_
      obtain ⟨w17, hw17, h⟩ := bind_some h
      refine WO.callK 0 (F := 62) (l := [.str e14, .str e16]) (C := []) (r := I6 w17) (by kernel_rfl) (by kernel_rfl) (run_ix_agree fuel e14 e16 w17 hw17) (e1 := [(0, .str a1), (3, l3 none w4), (4, l3 (some 10400) v8), (5, I6 v9), (14, l3 (some 10400) v8), (15, .str a1), (16, l3 none w4), (17, I6 v9), (18, I6 (W6 (v9 - 1))), (19, .ptr (I6 e13)), (20, I6 e13), (21, .str e14), (22, .str a1), (23, l3 none w4), (24, I6 v9), (25, .ptr (I6 e15)), (26, I6 e15), (27, .str e16), (28, I6 w17)]) (by kernel_rfl) ?_
      obtain ⟨hc18, h⟩ := chk_some h
      refine WO.appendK 1 (d := 30) (e := 3) (s := 1) (bytes := 8) (xs := (List.map (AV.int .i64) v8)) (ys := (List.map (AV.int .i64) [w17])) (zs := (List.map (AV.int .i64) (v8 ++ [w17]))) (env1 := [(0, .str a1), (3, l3 none w4), (4, l3 none v8), (5, I6 v9), (14, l3 none v8), (15, .str a1), (16, l3 none w4), (17, I6 v9), (18, I6 (W6 (v9 - 1))), (19, .ptr (I6 e13)), (20, I6 e13), (21, .str e14), (22, .str a1), (23, l3 none w4), (24, I6 v9), (25, .ptr (I6 e15)), (26, I6 e15), (27, .str e16), (28, I6 w17), (29, l3 none [w17])]) (by kernel_rfl) (List.map_append.symm) (by rw [List.length_map]; exact hc18) (e1 := [(0, .str a1), (3, l3 none w4), (4, l3 none v8), (5, I6 v9), (14, l3 none v8), (15, .str a1), (16, l3 none w4), (17, I6 v9), (18, I6 (W6 (v9 - 1))), (19, .ptr (I6 e13)), (20, I6 e13), (21, .str e14), (22, .str a1), (23, l3 none w4), (24, I6 v9), (25, .ptr (I6 e15)), (26, I6 e15), (27, .str e16), (28, I6 w17), (29, l3 none [w17]), (30, l3 (some 30) (v8 ++ [w17]))]) (by kernel_rfl) ?_
      refine WO.fin [0, 3, 4, 5] [] [] [] (e2 := [(0, .str a1), (3, l3 none w4), (4, l3 (some 30) (v8 ++ [w17])), (5, I6 v9)]) (by kernel_rfl) (fun _ h => h) ?_
      refine W.regT [0, 3, 4, 5] [] [] [(30, some 10400)] (e2 := [(0, .str a1), (3, l3 none w4), (4, l3 (some 10400) (v8 ++ [w17])), (5, I6 (W6 (v9 + 1)))]) (by kernel_rfl) (by kernel_rfl) (fun _ h => h) ?_
      exact hN1 ((v8 ++ [w17]), (W6 (v9 + 1))) h
    replace h := cond_f hb h
    refine W.exit ?_
    refine W.weak [4] [] [] [] (env' := [(4, l3 (some 10400) v8)]) (by kernel_rfl) ?_
    exact hK6 v8 h
def ix_Common (fuel : Nat) (a1 : ByteArray) : Option ((List Int) × Int) :=
  ((ix_valid a1).bind fun w5 => (bif (!w5) then (some (([] : (List Int)), 2)) else ((ix_common fuel a1).bind fun w8 => (some (w8, 0)))))
theorem run_ix_Common (fuel : Nat) (a1 : ByteArray) (r : ((List Int) × Int)) (h : ix_Common fuel a1 = some r) : Run Try.prog (.call 16 [.str a1] (.tup [l3 none r.1, I6 r.2])) := by
  refine call_of_W Try.func16 rfl (by kernel_rfl) (env0 := [(0, .str a1)]) (by kernel_rfl) ?_
  unfold ix_Common at h
  refine W.seq ?_
  refine W.regT [0] [] [] [] (e2 := [(0, .str a1)]) (by kernel_rfl) (by kernel_rfl) (fun _ h => h) ?_
  refine W.seq ?_
  refine W.seq ?_
  refine W.region (by kernel_rfl) ?_
  obtain ⟨w5, hw5, h⟩ := bind_some h
  refine WO.callK 1 (F := 40) (l := [.str a1]) (C := []) (r := .bool w5) (by kernel_rfl) (by kernel_rfl) (run_ix_valid a1 w5 hw5) (e1 := [(0, .str a1), (4, .str a1), (5, .bool w5)]) (by kernel_rfl) ?_
  refine WO.fin [0, 6] [] [] [] (e2 := [(0, .str a1), (6, .bool (!w5))]) (by kernel_rfl) (fun _ h => h) ?_
  refine W.condB (!w5) (by kernel_rfl) (fun hb => ?_) (fun hb => ?_)
  · replace h := cond_t hb h
    refine W.seq ?_
    refine W.regT [2, 3] [] [] [] (e2 := [(2, .nils), (3, .int .i64 2)]) (by kernel_rfl) (by kernel_rfl) (fun _ h => h) ?_
    refine W.weak [2, 3] [] [(2, 0, 3, 1, 70002)] [] (env' := [(2, l3 (some 70002) ([] : (List Int))), (3, .int .i64 2)]) (by kernel_rfl) ?_
    have hr : aresults Try.prog Try.f16 [(2, l3 (some 70002) ([] : (List Int))), (3, .int .i64 2)] = some (.tup [l3 none ([] : (List Int)), .int .i64 2]) := by kernel_rfl
    cases h
    exact W.ret hr
  replace h := cond_f hb h
  refine W.skip ?_
  refine W.weak [0] [] [] [] (env' := [(0, .str a1)]) (by kernel_rfl) ?_
  refine W.seq ?_
  refine W.region (by kernel_rfl) ?_
  obtain ⟨w8, hw8, h⟩ := bind_some h
  refine WO.callK 1 (F := 42) (l := [.str a1]) (C := []) (r := l3 (some 1) w8) (by kernel_rfl) (by kernel_rfl) (run_ix_common fuel a1 w8 hw8) (e1 := [(0, .str a1), (7, .str a1), (8, l3 (some 8) w8)]) (by kernel_rfl) ?_
  refine WO.fin [2, 3] [] [] [] (e2 := [(2, l3 (some 8) w8), (3, .int .i64 0)]) (by kernel_rfl) (fun _ h => h) ?_
  refine W.weak [2, 3] [] [] [] (env' := [(2, l3 (some 8) w8), (3, .int .i64 0)]) (by kernel_rfl) ?_
  have hr : aresults Try.prog Try.f16 [(2, l3 (some 8) w8), (3, .int .i64 0)] = some (.tup [l3 none w8, .int .i64 0]) := by kernel_rfl
  cases h
  exact W.ret hr
def rf4_Label_j3 (a1 : ByteArray) : Option Bool :=
  (some (decide ((a1.size : Int) ≤ 200)))
def rf4_Label_j7 (N1 : (Option Bool)) (v10 : Bool) : Option Bool :=
  (bif v10 then (some false) else N1)
def rf4_Label_l1 (a1 : ByteArray) (K3 : (Option Bool)) : List Nat → Nat → Option Bool
  | [], k1 => K3
  | x1 :: r1, k1 => ((sidx a1 (k1 : Int)).bind fun e8 => (bif (decide (e8 < 32)) then ((rf4_Label_j7 (rf4_Label_l1 a1 K3 r1 (k1 + 1))) true) else ((sidx a1 (k1 : Int)).bind fun e9 => ((rf4_Label_j7 (rf4_Label_l1 a1 K3 r1 (k1 + 1))) (decide (e9 > 126))))))
def rf4_Label (a1 : ByteArray) : Option Bool :=
  (chk (lenOk (List.range (Int.toNat (a1.size : Int)))) (rf4_Label_l1 a1 (rf4_Label_j3 a1) (List.range (Int.toNat (a1.size : Int))) 0))
theorem run_rf4_Label (a1 : ByteArray) (r : Bool) (h : rf4_Label a1 = some r) : Run Try.prog (.call 17 [.str a1] (.bool r)) := by
  refine call_of_W Try.func17 rfl (by kernel_rfl) (env0 := [(0, .str a1)]) (by kernel_rfl) ?_
  unfold rf4_Label at h
  refine W.seq ?_
  refine W.regT [0] [] [] [] (e2 := [(0, .str a1)]) (by kernel_rfl) (by kernel_rfl) (fun _ h => h) ?_
  refine W.seq ?_
  refine W.join (σ := Unit) (fun s => [(0, .str a1)]) (fun s => (rf4_Label_j3 a1) = some r) (fun s h => ?_) (fun hK3 => ?_)
  · have h : (rf4_Label_j3 a1) = some r := h
    unfold rf4_Label_j3 at h
    refine W.seq ?_
    refine W.regT [2] [] [] [] (e2 := [(2, .bool (decide ((a1.size : Int) ≤ 200)))]) (by kernel_rfl) (by kernel_rfl) (fun _ h => h) ?_
    refine W.weak [2] [] [] [] (env' := [(2, .bool (decide ((a1.size : Int) ≤ 200)))]) (by kernel_rfl) ?_
    have hr : aresults Try.prog Try.f17 [(2, .bool (decide ((a1.size : Int) ≤ 200)))] = some (.bool (decide ((a1.size : Int) ≤ 200))) := by kernel_rfl
    cases h
    exact W.ret hr
  refine W.seq ?_
  refine W.regT [0, 5, 6] [] [] [] (e2 := [(0, .str a1), (5, I6 (a1.size : Int)), (6, .int .i64 0)]) (by kernel_rfl) (by kernel_rfl) (fun _ h => h) ?_
  refine W.block ?_
  obtain ⟨hl1, h⟩ := chk_some h
  refine W.weak [0, 5, 6] [] [] [] (env' := [(0, .str a1), (5, I6 (a1.size : Int)), (6, I6 ((0 : Nat) : Int))]) (by kernel_rfl) ?_
  refine W.range (σ := Unit) (List.range (Int.toNat (a1.size : Int))) (fun k1 s => [(0, .str a1), (5, I6 (a1.size : Int)), (6, I6 (k1 : Int))]) (fun r0 k0 s => rf4_Label_l1 a1 (rf4_Label_j3 a1) r0 k0 = some r) (fun s h => ?_) (fun x1 r1 k1 s hx1 hk1 h hN1 => ?_) () h
  · have h : rf4_Label_l1 a1 (rf4_Label_j3 a1) [] ((List.range (Int.toNat (a1.size : Int)))).length = some r := h
    rw [rf4_Label_l1.eq_1] at h
    refine W.seq ?_
    refine W.region (by kernel_rfl) ?_
    refine WO.pureK 0 (some (.bool (decide ((((List.range (Int.toNat (a1.size : Int)))).length : Int) < (a1.size : Int))))) (v := .bool false) (by kernel_rfl) (by rw [ltr_false (n := (a1.size : Int))]) (e1 := [(0, .str a1), (5, I6 (a1.size : Int)), (6, I6 (((List.range (Int.toNat (a1.size : Int)))).length : Int)), (7, .bool false)]) (by kernel_rfl) ?_
    refine WO.fin ([0, 5, 6, 7]) [] [] [] (e2 := [(0, .str a1), (5, I6 (a1.size : Int)), (6, I6 (((List.range (Int.toNat (a1.size : Int)))).length : Int)), (7, .bool false)]) (by kernel_rfl) (fun _ h => h) ?_
    refine W.seq ?_
    refine W.condB false (by kernel_rfl) (fun h => Bool.noConfusion h) (fun _ => ?_)
    refine W.exit ?_
    refine W.weak [0] [] [] [] (env' := [(0, .str a1)]) (by kernel_rfl) ?_
    exact hK3 () h
  · have h : rf4_Label_l1 a1 (rf4_Label_j3 a1) (x1 :: r1) k1 = some r := h
    rw [rf4_Label_l1.eq_2] at h
    refine W.seq ?_
    refine W.region (by kernel_rfl) ?_
    refine WO.pureK 0 (some (.bool (decide ((k1 : Int) < (a1.size : Int))))) (v := .bool true) (by kernel_rfl) (by rw [ltr_true hk1]) (e1 := [(0, .str a1), (5, I6 (a1.size : Int)), (6, I6 (k1 : Int)), (7, .bool true)]) (by kernel_rfl) ?_
    refine WO.fin ([0, 5, 6, 7]) [] [] [] (e2 := [(0, .str a1), (5, I6 (a1.size : Int)), (6, I6 (k1 : Int)), (7, .bool true)]) (by kernel_rfl) (fun _ h => h) ?_
    refine W.seq ?_
    refine W.condB true (by kernel_rfl) (fun _ => ?_) (fun h => Bool.noConfusion h)
    refine W.skip ?_
    refine W.weak [0, 5, 6] [] [] [] (env' := [(0, .str a1), (5, I6 (a1.size : Int)), (6, I6 (k1 : Int))]) (by kernel_rfl) ?_
    refine W.seq ?_
    refine W.block ?_
    refine W.seq ?_
    refine W.regT [0, 3, 5, 6] [] [] [] (e2 := [(0, .str a1), (3, I6 (k1 : Int)), (5, I6 (a1.size : Int)), (6, I6 (k1 : Int))]) (by kernel_rfl) (by kernel_rfl) (fun _ h => h) ?_
    refine W.seq ?_
    refine W.join (σ := (Bool)) (fun s => [(0, .str a1), (5, I6 (a1.size : Int)), (6, I6 (k1 : Int)), (18, .bool s)]) (fun s => (rf4_Label_j7 (rf4_Label_l1 a1 (rf4_Label_j3 a1) r1 (k1 + 1))) s = some r) (fun s h => ?_) (fun hK7 => ?_)
    · obtain ⟨v10, rfl⟩ : ∃ x, x = s := ⟨s, rfl⟩
      have h : (rf4_Label_j7 (rf4_Label_l1 a1 (rf4_Label_j3 a1) r1 (k1 + 1))) v10 = some r := h
      unfold rf4_Label_j7 at h
      refine W.condB v10 (by kernel_rfl) (fun hb => ?_) (fun hb => ?_)
      · replace h := cond_t hb h
        refine W.seq ?_
        refine W.regT [2] [] [] [] (e2 := [(2, .bool false)]) (by kernel_rfl) (by kernel_rfl) (fun _ h => h) ?_
        refine W.weak [2] [] [] [] (env' := [(2, .bool false)]) (by kernel_rfl) ?_
        have hr : aresults Try.prog Try.f17 [(2, .bool false)] = some (.bool false) := by kernel_rfl
        cases h
        exact W.ret hr
      replace h := cond_f hb h
      refine W.skip ?_
      refine W.weak [0, 5, 6] [] [] [] (env' := [(0, .str a1), (5, I6 (a1.size : Int)), (6, I6 (k1 : Int))]) (by kernel_rfl) ?_
      refine W.region (by kernel_rfl) ?_
      refine WO.pureK 0 (some (I6 (IntKind.wrap .i64 ((k1 : Int) + 1)))) (v := I6 ((k1 + 1 : Nat) : Int)) (by kernel_rfl) (by rw [wrap_succ hl1 hk1]) (e1 := [(0, .str a1), (5, I6 (a1.size : Int)), (6, I6 (k1 : Int)), (19, I6 ((k1 + 1 : Nat) : Int))]) (by kernel_rfl) ?_
      refine WO.fin [0, 5, 6] [] [] [] (e2 := [(0, .str a1), (5, I6 (a1.size : Int)), (6, I6 ((k1 + 1 : Nat) : Int))]) (by kernel_rfl) (fun _ h => h) ?_
      exact hN1 () h
    refine W.region (by kernel_rfl) ?_
    obtain ⟨e8, he8, h⟩ := bind_some h
    refine WO.pureK 2 (if (0 : Int) ≤ (k1 : Int) then (a1[Int.toNat (k1 : Int)]?).map fun b => AV.int .u8 b.toNat else none) (v := .int .u8 e8) (by kernel_rfl) (sidx_av he8) (e1 := [(0, .str a1), (3, I6 (k1 : Int)), (5, I6 (a1.size : Int)), (6, I6 (k1 : Int)), (9, .str a1), (10, I6 (k1 : Int)), (11, .int .u8 e8)]) (by kernel_rfl) ?_
    refine WO.boolK 2 (fun b => [(0, .str a1), (3, I6 (k1 : Int)), (5, I6 (a1.size : Int)), (6, I6 (k1 : Int)), (9, .str a1), (10, I6 (k1 : Int)), (11, .int .u8 e8), (12, .bool b), (13, .bool b)]) (decide (e8 < 32)) (by kernel_rfl) (fun hb => ?_) (fun hb => ?_)
    · replace h := cond_t hb h
      refine WO.fin [0, 5, 6, 18] [] [] [] (e2 := [(0, .str a1), (5, I6 (a1.size : Int)), (6, I6 (k1 : Int)), (18, .bool true)]) (by kernel_rfl) (fun _ h => h) ?_
      exact hK7 true h
    replace h := cond_f hb h
    obtain ⟨e9, he9, h⟩ := bind_some h
    refine WO.pureK 2 (if (0 : Int) ≤ (k1 : Int) then (a1[Int.toNat (k1 : Int)]?).map fun b => AV.int .u8 b.toNat else none) (v := .int .u8 e9) (by kernel_rfl) (sidx_av he9) (e1 := [(0, .str a1), (3, I6 (k1 : Int)), (5, I6 (a1.size : Int)), (6, I6 (k1 : Int)), (9, .str a1), (10, I6 (k1 : Int)), (11, .int .u8 e8), (12, .bool false), (13, .bool false), (14, .str a1), (15, I6 (k1 : Int)), (16, .int .u8 e9)]) (by kernel_rfl) ?_
    refine WO.fin [0, 5, 6, 18] [] [] [] (e2 := [(0, .str a1), (5, I6 (a1.size : Int)), (6, I6 (k1 : Int)), (18, .bool (decide (e9 > 126)))]) (by kernel_rfl) (fun _ h => h) ?_
    exact hK7 (decide (e9 > 126)) h
def sl_Equal_int_j7 : Option Bool :=
  (some true)
def sl_Equal_int_l1 (a2 : (List Int)) (K7 : (Option Bool)) : List Int → Nat → Option Bool
  | [], k1 => K7
  | x1 :: r1, k1 => ((idx a2 (k1 : Int)).bind fun e12 => (bif (x1 != e12) then (some false) else (sl_Equal_int_l1 a2 K7 r1 (k1 + 1))))
def sl_Equal_int (a1 : (List Int)) (a2 : (List Int)) : Option Bool :=
  (bif ((a1.length : Int) != (a2.length : Int)) then (some false) else (chk (lenOk a1) (sl_Equal_int_l1 a2 (sl_Equal_int_j7) a1 0)))
theorem run_sl_Equal_int (a1 : (List Int)) (a2 : (List Int)) (r : Bool) (h : sl_Equal_int a1 a2 = some r) : Run Try.prog (.call 19 [l3 none a1, l3 none a2] (.bool r)) := by
  refine call_of_W Try.func19 rfl (by kernel_rfl) (env0 := [(0, l3 none a1), (1, l3 none a2)]) (by kernel_rfl) ?_
  unfold sl_Equal_int at h
  refine W.seq ?_
  refine W.regT [0, 1] [] [] [] (e2 := [(0, l3 none a1), (1, l3 none a2)]) (by kernel_rfl) (by kernel_rfl) (fun _ h => h) ?_
  refine W.seq ?_
  refine W.seq ?_
  refine W.region (by kernel_rfl) ?_
  refine WO.pureK 1 (some (I6 ((List.map (AV.int .i64) a1).length : Int))) (v := I6 (a1.length : Int)) (by kernel_rfl) (by rw [List.length_map]) (e1 := [(0, l3 none a1), (1, l3 none a2), (6, l3 none a1), (7, I6 (a1.length : Int))]) (by kernel_rfl) ?_
  refine WO.pureK 1 (some (I6 ((List.map (AV.int .i64) a2).length : Int))) (v := I6 (a2.length : Int)) (by kernel_rfl) (by rw [List.length_map]) (e1 := [(0, l3 none a1), (1, l3 none a2), (6, l3 none a1), (7, I6 (a1.length : Int)), (8, l3 none a2), (9, I6 (a2.length : Int))]) (by kernel_rfl) ?_
  refine WO.fin [0, 1, 10] [] [] [] (e2 := [(0, l3 none a1), (1, l3 none a2), (10, .bool ((a1.length : Int) != (a2.length : Int)))]) (by kernel_rfl) (fun _ h => h) ?_
  refine W.condB ((a1.length : Int) != (a2.length : Int)) (by kernel_rfl) (fun hb => ?_) (fun hb => ?_)
  · replace h := cond_t hb h
    refine W.seq ?_
    refine W.regT [4] [] [] [] (e2 := [(4, .bool false)]) (by kernel_rfl) (by kernel_rfl) (fun _ h => h) ?_
    refine W.weak [4] [] [] [] (env' := [(4, .bool false)]) (by kernel_rfl) ?_
    have hr : aresults Try.prog Try.f19 [(4, .bool false)] = some (.bool false) := by kernel_rfl
    cases h
    exact W.ret hr
  replace h := cond_f hb h
  refine W.skip ?_
  refine W.weak [0, 1] [] [] [] (env' := [(0, l3 none a1), (1, l3 none a2)]) (by kernel_rfl) ?_
  refine W.seq ?_
  refine W.join (σ := Unit) (fun s => []) (fun s => (sl_Equal_int_j7) = some r) (fun s h => ?_) (fun hK7 => ?_)
  · have h : (sl_Equal_int_j7) = some r := h
    unfold sl_Equal_int_j7 at h
    refine W.seq ?_
    refine W.regT [4] [] [] [] (e2 := [(4, .bool true)]) (by kernel_rfl) (by kernel_rfl) (fun _ h => h) ?_
    refine W.weak [4] [] [] [] (env' := [(4, .bool true)]) (by kernel_rfl) ?_
    have hr : aresults Try.prog Try.f19 [(4, .bool true)] = some (.bool true) := by kernel_rfl
    cases h
    exact W.ret hr
  refine W.seq ?_
  refine W.region (by kernel_rfl) ?_
  refine WO.pureK 1 (some (I6 ((List.map (AV.int .i64) a1).length : Int))) (v := I6 (a1.length : Int)) (by kernel_rfl) (by rw [List.length_map]) (e1 := [(0, l3 none a1), (1, l3 none a2), (11, l3 none a1), (12, I6 (a1.length : Int))]) (by kernel_rfl) ?_
  refine WO.fin [0, 1, 12, 13] [] [] [] (e2 := [(0, l3 none a1), (1, l3 none a2), (12, I6 (a1.length : Int)), (13, .int .i64 0)]) (by kernel_rfl) (fun _ h => h) ?_
  refine W.block ?_
  obtain ⟨hl1, h⟩ := chk_some h
  refine W.weak [0, 1, 12, 13] [] [] [] (env' := [(0, l3 none a1), (1, l3 none a2), (12, I6 (a1.length : Int)), (13, I6 ((0 : Nat) : Int))]) (by kernel_rfl) ?_
  refine W.range (σ := Unit) a1 (fun k1 s => [(0, l3 none a1), (1, l3 none a2), (12, I6 (a1.length : Int)), (13, I6 (k1 : Int))]) (fun r0 k0 s => sl_Equal_int_l1 a2 (sl_Equal_int_j7) r0 k0 = some r) (fun s h => ?_) (fun x1 r1 k1 s hx1 hk1 h hN1 => ?_) () h
  · have h : sl_Equal_int_l1 a2 (sl_Equal_int_j7) [] (a1).length = some r := h
    rw [sl_Equal_int_l1.eq_1] at h
    refine W.seq ?_
    refine W.region (by kernel_rfl) ?_
    refine WO.pureK 0 (some (.bool (decide (((a1).length : Int) < (a1.length : Int))))) (v := .bool false) (by kernel_rfl) (by rw [lt_false (l := a1)]) (e1 := [(0, l3 none a1), (1, l3 none a2), (12, I6 (a1.length : Int)), (13, I6 ((a1).length : Int)), (14, .bool false)]) (by kernel_rfl) ?_
    refine WO.fin ([0, 1, 12, 13, 14]) [] [] [] (e2 := [(0, l3 none a1), (1, l3 none a2), (12, I6 (a1.length : Int)), (13, I6 ((a1).length : Int)), (14, .bool false)]) (by kernel_rfl) (fun _ h => h) ?_
    refine W.seq ?_
    refine W.condB false (by kernel_rfl) (fun h => Bool.noConfusion h) (fun _ => ?_)
    refine W.exit ?_
    refine W.weak [] [] [] [] (env' := []) (by kernel_rfl) ?_
    exact hK7 () h
  · have h : sl_Equal_int_l1 a2 (sl_Equal_int_j7) (x1 :: r1) k1 = some r := h
    rw [sl_Equal_int_l1.eq_2] at h
    refine W.seq ?_
    refine W.region (by kernel_rfl) ?_
    refine WO.pureK 0 (some (.bool (decide ((k1 : Int) < (a1.length : Int))))) (v := .bool true) (by kernel_rfl) (by rw [lt_true hk1]) (e1 := [(0, l3 none a1), (1, l3 none a2), (12, I6 (a1.length : Int)), (13, I6 (k1 : Int)), (14, .bool true)]) (by kernel_rfl) ?_
    refine WO.fin ([0, 1, 12, 13, 14]) [] [] [] (e2 := [(0, l3 none a1), (1, l3 none a2), (12, I6 (a1.length : Int)), (13, I6 (k1 : Int)), (14, .bool true)]) (by kernel_rfl) (fun _ h => h) ?_
    refine W.seq ?_
    refine W.condB true (by kernel_rfl) (fun _ => ?_) (fun h => Bool.noConfusion h)
    refine W.skip ?_
    refine W.weak [0, 1, 12, 13] [] [] [] (env' := [(0, l3 none a1), (1, l3 none a2), (12, I6 (a1.length : Int)), (13, I6 (k1 : Int))]) (by kernel_rfl) ?_
    refine W.seq ?_
    refine W.block ?_
    refine W.seq ?_
    refine W.regT [0, 1, 5, 12, 13] [] [] [] (e2 := [(0, l3 none a1), (1, l3 none a2), (5, I6 (k1 : Int)), (12, I6 (a1.length : Int)), (13, I6 (k1 : Int))]) (by kernel_rfl) (by kernel_rfl) (fun _ h => h) ?_
    refine W.seq ?_
    refine W.region (by kernel_rfl) ?_
    refine WO.pureK 2 (if (0 : Int) ≤ (k1 : Int) then ((List.map (AV.int .i64) a1)[Int.toNat (k1 : Int)]?).map AV.ptr else none) (v := .ptr (I6 x1)) (by kernel_rfl) (idx_nat (f := (AV.int .i64)) hx1) (e1 := [(0, l3 none a1), (1, l3 none a2), (5, I6 (k1 : Int)), (12, I6 (a1.length : Int)), (13, I6 (k1 : Int)), (16, l3 none a1), (17, I6 (k1 : Int)), (18, .ptr (I6 x1))]) (by kernel_rfl) ?_
    obtain ⟨e12, he12, h⟩ := bind_some h
    refine WO.pureK 3 (if (0 : Int) ≤ (k1 : Int) then ((List.map (AV.int .i64) a2)[Int.toNat (k1 : Int)]?).map AV.ptr else none) (v := .ptr (I6 e12)) (by kernel_rfl) (idx_av (f := (AV.int .i64)) he12) (e1 := [(0, l3 none a1), (1, l3 none a2), (5, I6 (k1 : Int)), (12, I6 (a1.length : Int)), (13, I6 (k1 : Int)), (16, l3 none a1), (17, I6 (k1 : Int)), (18, .ptr (I6 x1)), (19, I6 x1), (20, l3 none a2), (21, I6 (k1 : Int)), (22, .ptr (I6 e12))]) (by kernel_rfl) ?_
    refine WO.fin [0, 1, 12, 13, 24] [] [] [] (e2 := [(0, l3 none a1), (1, l3 none a2), (12, I6 (a1.length : Int)), (13, I6 (k1 : Int)), (24, .bool (x1 != e12))]) (by kernel_rfl) (fun _ h => h) ?_
    refine W.condB (x1 != e12) (by kernel_rfl) (fun hb => ?_) (fun hb => ?_)
    · replace h := cond_t hb h
      refine W.seq ?_
      refine W.regT [4] [] [] [] (e2 := [(4, .bool false)]) (by kernel_rfl) (by kernel_rfl) (fun _ h => h) ?_
      refine W.weak [4] [] [] [] (env' := [(4, .bool false)]) (by kernel_rfl) ?_
      have hr : aresults Try.prog Try.f19 [(4, .bool false)] = some (.bool false) := by kernel_rfl
      cases h
      exact W.ret hr
    replace h := cond_f hb h
    refine W.skip ?_
    refine W.weak [0, 1, 12, 13] [] [] [] (env' := [(0, l3 none a1), (1, l3 none a2), (12, I6 (a1.length : Int)), (13, I6 (k1 : Int))]) (by kernel_rfl) ?_
    refine W.region (by kernel_rfl) ?_
    refine WO.pureK 0 (some (I6 (IntKind.wrap .i64 ((k1 : Int) + 1)))) (v := I6 ((k1 + 1 : Nat) : Int)) (by kernel_rfl) (by rw [wrap_succ hl1 hk1]) (e1 := [(0, l3 none a1), (1, l3 none a2), (12, I6 (a1.length : Int)), (13, I6 (k1 : Int)), (25, I6 ((k1 + 1 : Nat) : Int))]) (by kernel_rfl) ?_
    refine WO.fin [0, 1, 12, 13] [] [] [] (e2 := [(0, l3 none a1), (1, l3 none a2), (12, I6 (a1.length : Int)), (13, I6 ((k1 + 1 : Nat) : Int))]) (by kernel_rfl) (fun _ h => h) ?_
    exact hN1 () h
def lw4_awake_j4 (v6 : Bool) : Option Bool :=
  (some v6)
def lw4_awake (fuel : Nat) : Option Bool :=
  ((ix_Sort fuel (ByteArray.mk #[97, 98, 97, 98])).bind fun w3 => (bif (w3.2 == 0) then ((sl_Equal_int w3.1 [4, 2, 0, 3, 1]).bind fun w5 => ((lw4_awake_j4) w5)) else ((lw4_awake_j4) false)))
theorem run_lw4_awake (fuel : Nat)  (r : Bool) (h : lw4_awake fuel = some r) : Run Try.prog (.call 18 [] (.bool r)) := by
  refine call_of_W Try.func18 rfl (by kernel_rfl) (env0 := []) (by kernel_rfl) ?_
  unfold lw4_awake at h
  refine W.seq ?_
  refine W.regT [] [] [] [] (e2 := []) (by kernel_rfl) (by kernel_rfl) (fun _ h => h) ?_
  refine W.seq ?_
  refine W.region (by kernel_rfl) ?_
  obtain ⟨w3, hw3, h⟩ := bind_some h
  refine WO.callK 0 (F := 15) (l := [.str (ByteArray.mk #[97, 98, 97, 98])]) (C := []) (r := .tup [l3 none w3.1, I6 w3.2]) (by kernel_rfl) (by kernel_rfl) (run_ix_Sort fuel (ByteArray.mk #[97, 98, 97, 98]) w3 hw3) (e1 := [(4, .tup [l3 none w3.1, I6 w3.2])]) (by kernel_rfl) ?_
  refine WO.fin [1, 2] [] [] [] (e2 := [(1, l3 none w3.1), (2, I6 w3.2)]) (by kernel_rfl) (fun _ h => h) ?_
  refine W.seq ?_
  refine W.join (σ := (Bool)) (fun s => [(0, .bool s)]) (fun s => (lw4_awake_j4) s = some r) (fun s h => ?_) (fun hK4 => ?_)
  · obtain ⟨v6, rfl⟩ : ∃ x, x = s := ⟨s, rfl⟩
    have h : (lw4_awake_j4) v6 = some r := h
    unfold lw4_awake_j4 at h
    refine W.weak [0] [] [] [] (env' := [(0, .bool v6)]) (by kernel_rfl) ?_
    have hr : aresults Try.prog Try.f18 [(0, .bool v6)] = some (.bool v6) := by kernel_rfl
    cases h
    exact W.ret hr
  refine W.region (by kernel_rfl) ?_
  refine WO.boolK 3 (fun b => [(1, l3 none w3.1), (2, I6 w3.2), (7, I6 w3.2), (8, .bool b), (9, .bool b)]) (w3.2 == 0) (by kernel_rfl) (fun hb => ?_) (fun hb => ?_)
  · replace h := cond_t hb h
    obtain ⟨w5, hw5, h⟩ := bind_some h
    refine WO.callK 2 (F := 19) (l := [l3 none w3.1, l3 none [4, 2, 0, 3, 1]]) (C := []) (r := .bool w5) (by kernel_rfl) (by kernel_rfl) (run_sl_Equal_int w3.1 [4, 2, 0, 3, 1] w5 hw5) (e1 := [(1, l3 none w3.1), (2, I6 w3.2), (7, I6 w3.2), (8, .bool true), (9, .bool true), (10, l3 none w3.1), (11, l3 (some 11) [4, 2, 0, 3, 1]), (12, .bool w5)]) (by kernel_rfl) ?_
    refine WO.fin [0] [] [] [] (e2 := [(0, .bool w5)]) (by kernel_rfl) (fun _ h => h) ?_
    exact hK4 w5 h
  replace h := cond_f hb h
  refine WO.fin [0] [] [] [] (e2 := [(0, .bool false)]) (by kernel_rfl) (fun _ h => h) ?_
  exact hK4 false h

end Go.AM
