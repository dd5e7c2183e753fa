/- PRINTED by gen.py: pure functions and the proofs that the code computes them. No statement of the seat is proved here. -/
import Derived.Test.YtombfedoinhafaaK187
set_option maxRecDepth 100000
set_option linter.unusedVariables false
set_option linter.unusedSimpArgs false
namespace Go.AM
open Go.Proofs
def sl_pdqsortCmpFunc_dpDep_j51 (fuel : Nat) (n2 : Nat) (g6 : (dpDep → dpDep → Option Int)) (v10 : Int) (v11 : Int) (v29 : Int) (v38 : Int) (v47 : (List dpDep)) (v48 : Bool) (v49 : Bool) (K0 : ((List dpDep) → Nat → Int → Int → Int → (dpDep → dpDep → Option Int) → Option (List dpDep))) (N1 : ((List dpDep) → Int → Int → Int → Bool → Bool → Option (List dpDep))) (v57 : Bool) : Option (List dpDep) :=
  (bif v57 then ((sl_partitionEqualCmpFunc_dpDep fuel v47 n2 v10 v11 v38 g6).bind fun w59 => (N1 w59.2 w59.1 v11 v29 v48 v49)) else ((sl_partitionCmpFunc_dpDep fuel v47 n2 v10 v11 v38 g6).bind fun w62 => (bif (decide ((IntKind.wrap .i64 (w62.1.1 - v10)) < (IntKind.wrap .i64 (v11 - w62.1.1)))) then ((K0 w62.2 n2 v10 w62.1.1 v29 g6).bind fun w69 => (N1 w69 (IntKind.wrap .i64 (w62.1.1 + 1)) v11 v29 (decide ((IntKind.wrap .i64 (w62.1.1 - v10)) ≥ (IntKind.wrap .i64 (((IntKind.wrap .i64 (v11 - v10))).tdiv 8)))) w62.1.2)) else ((K0 w62.2 n2 (IntKind.wrap .i64 (w62.1.1 + 1)) v11 v29 g6).bind fun w72 => (N1 w72 v10 w62.1.1 v29 (decide ((IntKind.wrap .i64 (v11 - w62.1.1)) ≥ (IntKind.wrap .i64 (((IntKind.wrap .i64 (v11 - v10))).tdiv 8)))) w62.1.2)))))
def sl_pdqsortCmpFunc_dpDep_j40 (fuel : Nat) (n2 : Nat) (g6 : (dpDep → dpDep → Option Int)) (v10 : Int) (v11 : Int) (v29 : Int) (v38 : Int) (K0 : ((List dpDep) → Nat → Int → Int → Int → (dpDep → dpDep → Option Int) → Option (List dpDep))) (N1 : ((List dpDep) → Int → Int → Int → Bool → Bool → Option (List dpDep))) (v47 : (List dpDep)) (v48 : Bool) (v49 : Bool) : Option (List dpDep) :=
  (bif (decide (v10 > 0)) then (chk (decide ((0 : Int) ≤ (IntKind.wrap .i64 (v10 - 1)) ∧ (IntKind.wrap .i64 (v10 - 1)) < ((n2 : Nat) : Int))) ((v47[(0 + Int.toNat (IntKind.wrap .i64 (v10 - 1)))]?).bind fun e53 => (chk (decide ((0 : Int) ≤ v38 ∧ v38 < ((n2 : Nat) : Int))) ((v47[(0 + Int.toNat v38)]?).bind fun e55 => ((g6 e53 e55).bind fun w56 => ((sl_pdqsortCmpFunc_dpDep_j51 fuel n2 g6 v10 v11 v29 v38 v47 v48 v49 K0 N1) (!(decide (w56 < 0))))))))) else ((sl_pdqsortCmpFunc_dpDep_j51 fuel n2 g6 v10 v11 v29 v38 v47 v48 v49 K0 N1) false))
def sl_pdqsortCmpFunc_dpDep_j41 (fuel : Nat) (n2 : Nat) (g6 : (dpDep → dpDep → Option Int)) (v10 : Int) (v11 : Int) (v37 : (List dpDep)) (K40 : ((List dpDep) → Bool → Bool → Option (List dpDep))) (v42 : Bool) (v43 : Bool) (v44 : Bool) : Option (List dpDep) :=
  (bif v44 then ((sl_partialInsertionSortCmpFunc_dpDep fuel v37 n2 v10 v11 g6).bind fun w46 => (bif w46.1 then (some w46.2) else (K40 w46.2 v42 v43))) else (K40 v37 v42 v43))
def sl_pdqsortCmpFunc_dpDep_j32 (fuel : Nat) (n2 : Nat) (g6 : (dpDep → dpDep → Option Int)) (v10 : Int) (v11 : Int) (v13 : Bool) (v14 : Bool) (v29 : Int) (K0 : ((List dpDep) → Nat → Int → Int → Int → (dpDep → dpDep → Option Int) → Option (List dpDep))) (N1 : ((List dpDep) → Int → Int → Int → Bool → Bool → Option (List dpDep))) (v37 : (List dpDep)) (v38 : Int) (v39 : Int) : Option (List dpDep) :=
  (bif v13 then (bif v14 then ((sl_pdqsortCmpFunc_dpDep_j41 fuel n2 g6 v10 v11 v37 (sl_pdqsortCmpFunc_dpDep_j40 fuel n2 g6 v10 v11 v29 v38 K0 N1)) true true (v39 == 1)) else ((sl_pdqsortCmpFunc_dpDep_j41 fuel n2 g6 v10 v11 v37 (sl_pdqsortCmpFunc_dpDep_j40 fuel n2 g6 v10 v11 v29 v38 K0 N1)) true false false)) else ((sl_pdqsortCmpFunc_dpDep_j41 fuel n2 g6 v10 v11 v37 (sl_pdqsortCmpFunc_dpDep_j40 fuel n2 g6 v10 v11 v29 v38 K0 N1)) false v14 false))
def sl_pdqsortCmpFunc_dpDep_j24 (fuel : Nat) (n2 : Nat) (g6 : (dpDep → dpDep → Option Int)) (v10 : Int) (v11 : Int) (v13 : Bool) (v14 : Bool) (K0 : ((List dpDep) → Nat → Int → Int → Int → (dpDep → dpDep → Option Int) → Option (List dpDep))) (N1 : ((List dpDep) → Int → Int → Int → Bool → Bool → Option (List dpDep))) (v28 : (List dpDep)) (v29 : Int) : Option (List dpDep) :=
  ((sl_choosePivotCmpFunc_dpDep (snap 0 n2 v28) v10 v11 g6).bind fun w31 => (bif (w31.2 == 2) then ((sl_reverseRangeCmpFunc_dpDep fuel v28 n2 v10 v11 g6).bind fun w35 => ((sl_pdqsortCmpFunc_dpDep_j32 fuel n2 g6 v10 v11 v13 v14 v29 K0 N1) w35 (IntKind.wrap .i64 ((IntKind.wrap .i64 (v11 - 1)) - (IntKind.wrap .i64 (w31.1 - v10)))) 1)) else ((sl_pdqsortCmpFunc_dpDep_j32 fuel n2 g6 v10 v11 v13 v14 v29 K0 N1) v28 w31.1 w31.2)))
def sl_pdqsortCmpFunc_dpDep_l1 (fuel : Nat) (n2 : Nat) (g6 : (dpDep → dpDep → Option Int)) (K0 : ((List dpDep) → Nat → Int → Int → Int → (dpDep → dpDep → Option Int) → Option (List dpDep))) : Nat → (List dpDep) → Int → Int → Int → Bool → Bool → Option (List dpDep)
  | 0, _, _, _, _, _, _ => none
  | m1 + 1, v9, v10, v11, v12, v13, v14 => (bif (decide ((IntKind.wrap .i64 (v11 - v10)) ≤ 12)) then ((sl_insertionSortCmpFunc_dpDep fuel v9 n2 v10 v11 g6).bind fun w19 => (some w19)) else (bif (v12 == 0) then ((sl_heapSortCmpFunc_dpDep fuel v9 n2 v10 v11 g6).bind fun w23 => (some w23)) else (bif (!v13) then ((sl_breakPatternsCmpFunc_dpDep fuel v9 n2 v10 v11 g6).bind fun w27 => ((sl_pdqsortCmpFunc_dpDep_j24 fuel n2 g6 v10 v11 v13 v14 K0 (sl_pdqsortCmpFunc_dpDep_l1 fuel n2 g6 K0 m1)) w27 (IntKind.wrap .i64 (v12 - 1)))) else ((sl_pdqsortCmpFunc_dpDep_j24 fuel n2 g6 v10 v11 v13 v14 K0 (sl_pdqsortCmpFunc_dpDep_l1 fuel n2 g6 K0 m1)) v9 v12))))
def sl_pdqsortCmpFunc_dpDep : Nat → (List dpDep) → Nat → Int → Int → Int → (dpDep → dpDep → Option Int) → Option (List dpDep)
  | 0, _, _, _, _, _, _ => none
  | fuel + 1, a1, n2, a3, a4, a5, g6 => (sl_pdqsortCmpFunc_dpDep_l1 fuel n2 g6 (sl_pdqsortCmpFunc_dpDep fuel) fuel a1 a3 a4 a5 true true)
theorem run_sl_pdqsortCmpFunc_dpDep : ∀ (fuel : Nat) (a1 : (List dpDep)) (n2 : Nat) (a3 : Int) (a4 : Int) (a5 : Int) (g6 : (dpDep → dpDep → Option Int)) (F_g6 : Nat) (C_g6 : List AV) (hok_g6 : okFn Try.prog F_g6 = true) (hrun_g6 : ∀ (x0 : dpDep) (x1 : dpDep) r, g6 x0 x1 = some r → Run Try.prog (.call F_g6 ([.agg [I6 x0.f_From, I6 x0.f_To], .agg [I6 x1.f_From, I6 x1.f_To]] ++ C_g6) (I6 r))) (r : (List dpDep)) (h : sl_pdqsortCmpFunc_dpDep fuel a1 n2 a3 a4 a5 g6 = some r), Run Try.prog (.callM 98 [S2 n2, I6 a3, I6 a4, I6 a5, .clo F_g6 C_g6] [O2 a1] (.tup []) [O2 r]) := by
  intro fuel
  induction fuel with
  | zero => intro a1 n2 a3 a4 a5 g6 F_g6 C_g6 hok_g6 hrun_g6 r h; cases h
  | succ fuel ih =>
    intro a1 n2 a3 a4 a5 g6 F_g6 C_g6 hok_g6 hrun_g6 r h
    refine callM_of_W Try.func98 rfl (by kernel_rfl) (env0 := [(0, S2 n2), (1, I6 a3), (2, I6 a4), (3, I6 a5), (4, .clo F_g6 C_g6), O2 a1]) (by kernel_rfl) ?_
    rw [sl_pdqsortCmpFunc_dpDep.eq_2] at h
    refine W.seq ?_
    refine W.regT [0, 1, 2, 3, 4, 10, 2000000] [] [] [] (e2 := [(0, S2 n2), (1, I6 a3), (2, I6 a4), (3, I6 a5), (4, .clo F_g6 C_g6), (10, .bool true), O2 a1]) (by kernel_rfl) (by kernel_rfl) (fun _ h => h) ?_
    refine W.seq ?_
    refine W.regT [0, 1, 2, 3, 4, 10, 11, 2000000] [] [] [] (e2 := [(0, S2 n2), (1, I6 a3), (2, I6 a4), (3, I6 a5), (4, .clo F_g6 C_g6), (10, .bool true), (11, .bool true), O2 a1]) (by kernel_rfl) (by kernel_rfl) (fun _ h => h) ?_
    refine W.block ?_
    refine W.weak [0, 1, 2, 3, 4, 10, 11, 2000000] [] [] [] (env' := [(0, S2 n2), (1, I6 a3), (2, I6 a4), (3, I6 a5), (4, .clo F_g6 C_g6), (10, .bool true), (11, .bool true), O2 a1]) (by kernel_rfl) ?_
    refine W.fuel (σ := ((List dpDep) × Int × Int × Int × Bool × Bool)) (fun s => [(0, S2 n2), (1, I6 s.2.1), (2, I6 s.2.2.1), (3, I6 s.2.2.2.1), (4, .clo F_g6 C_g6), (10, .bool s.2.2.2.2.1), (11, .bool s.2.2.2.2.2), (2000000, .obj 33 2 (List.map e_dpDep s.1))]) (fun m0 s => sl_pdqsortCmpFunc_dpDep_l1 fuel n2 g6 (sl_pdqsortCmpFunc_dpDep fuel) m0 s.1 s.2.1 s.2.2.1 s.2.2.2.1 s.2.2.2.2.1 s.2.2.2.2.2 = some r) (fun s h => ?_) (fun m1 s h hN1 => ?_) fuel (a1, a3, a4, a5, true, true) h
    · obtain ⟨v9, v10, v11, v12, v13, v14⟩ := s
      have h : sl_pdqsortCmpFunc_dpDep_l1 fuel n2 g6 (sl_pdqsortCmpFunc_dpDep fuel) 0 v9 v10 v11 v12 v13 v14 = some r := h
      rw [sl_pdqsortCmpFunc_dpDep_l1.eq_1] at h
      cases h
    · obtain ⟨v9, v10, v11, v12, v13, v14⟩ := s
      have h : sl_pdqsortCmpFunc_dpDep_l1 fuel n2 g6 (sl_pdqsortCmpFunc_dpDep fuel) (m1 + 1) v9 v10 v11 v12 v13 v14 = some r := h
      rw [sl_pdqsortCmpFunc_dpDep_l1.eq_2] at h
      refine W.block ?_
      refine W.seq ?_
      refine W.regT [0, 1, 2, 3, 4, 10, 11, 12, 2000000] [] [] [] (e2 := [(0, S2 n2), (1, I6 v10), (2, I6 v11), (3, I6 v12), (4, .clo F_g6 C_g6), (10, .bool v13), (11, .bool v14), (12, I6 (W6 (v11 - v10))), O2 v9]) (by kernel_rfl) (by kernel_rfl) (fun _ h => h) ?_
      refine W.seq ?_
      refine W.seq ?_
      refine W.regT [0, 1, 2, 3, 4, 10, 11, 12, 25, 2000000] [] [] [] (e2 := [(0, S2 n2), (1, I6 v10), (2, I6 v11), (3, I6 v12), (4, .clo F_g6 C_g6), (10, .bool v13), (11, .bool v14), (12, I6 (W6 (v11 - v10))), (25, .bool (decide ((W6 (v11 - v10)) ≤ 12))), O2 v9]) (by kernel_rfl) (by kernel_rfl) (fun _ h => h) ?_
      refine W.condB (decide ((W6 (v11 - v10)) ≤ 12)) (by kernel_rfl) (fun hb => ?_) (fun hb => ?_)
      · replace h := cond_t hb h
        refine W.seq ?_
        refine W.region (by kernel_rfl) ?_
        obtain ⟨w19, hw19, h⟩ := bind_some h
        refine WO.callMK 4 [(2000000, 2000000)] [] (F := 103) (args := [S2 n2, I6 v10, I6 v11, .clo F_g6 C_g6]) (hp := [O2 v9]) (hp2 := [O2 w19]) (r := .tup []) (by kernel_rfl) (run_sl_insertionSortCmpFunc_dpDep fuel v9 n2 v10 v11 g6 F_g6 C_g6 hok_g6 hrun_g6 w19 hw19) (e1 := [(0, S2 n2), (1, I6 v10), (2, I6 v11), (3, I6 v12), (4, .clo F_g6 C_g6), (10, .bool v13), (11, .bool v14), (12, I6 (W6 (v11 - v10))), (25, .bool (decide ((W6 (v11 - v10)) ≤ 12))), (26, S2 n2), (27, I6 v10), (28, I6 v11), (29, .clo F_g6 C_g6), (30, .tup []), O2 w19]) (by kernel_rfl) ?_
        refine WO.fin [2000000] [] [] [] (e2 := [O2 w19]) (by kernel_rfl) (fun _ h => h) ?_
        refine W.weak [2000000] [] [] [] (env' := [O2 w19]) (by kernel_rfl) ?_
        have hr : PostM Try.prog Try.f98 (.tup []) [O2 w19] .ret [O2 w19] := ⟨by kernel_rfl, by kernel_rfl⟩
        cases h
        exact W.ret hr
      replace h := cond_f hb h
      refine W.skip ?_
      refine W.weak [0, 1, 2, 3, 4, 10, 11, 12, 2000000] [] [] [] (env' := [(0, S2 n2), (1, I6 v10), (2, I6 v11), (3, I6 v12), (4, .clo F_g6 C_g6), (10, .bool v13), (11, .bool v14), (12, I6 (W6 (v11 - v10))), O2 v9]) (by kernel_rfl) ?_
      refine W.seq ?_
      refine W.seq ?_
      refine W.regT [0, 1, 2, 3, 4, 10, 11, 12, 32, 2000000] [] [] [] (e2 := [(0, S2 n2), (1, I6 v10), (2, I6 v11), (3, I6 v12), (4, .clo F_g6 C_g6), (10, .bool v13), (11, .bool v14), (12, I6 (W6 (v11 - v10))), (32, .bool (v12 == 0)), O2 v9]) (by kernel_rfl) (by kernel_rfl) (fun _ h => h) ?_
      refine W.condB (v12 == 0) (by kernel_rfl) (fun hb => ?_) (fun hb => ?_)
      · replace h := cond_t hb h
        refine W.seq ?_
        refine W.region (by kernel_rfl) ?_
        obtain ⟨w23, hw23, h⟩ := bind_some h
        refine WO.callMK 4 [(2000000, 2000000)] [] (F := 104) (args := [S2 n2, I6 v10, I6 v11, .clo F_g6 C_g6]) (hp := [O2 v9]) (hp2 := [O2 w23]) (r := .tup []) (by kernel_rfl) (run_sl_heapSortCmpFunc_dpDep fuel v9 n2 v10 v11 g6 F_g6 C_g6 hok_g6 hrun_g6 w23 hw23) (e1 := [(0, S2 n2), (1, I6 v10), (2, I6 v11), (3, I6 v12), (4, .clo F_g6 C_g6), (10, .bool v13), (11, .bool v14), (12, I6 (W6 (v11 - v10))), (32, .bool (v12 == 0)), (33, S2 n2), (34, I6 v10), (35, I6 v11), (36, .clo F_g6 C_g6), (37, .tup []), O2 w23]) (by kernel_rfl) ?_
        refine WO.fin [2000000] [] [] [] (e2 := [O2 w23]) (by kernel_rfl) (fun _ h => h) ?_
        refine W.weak [2000000] [] [] [] (env' := [O2 w23]) (by kernel_rfl) ?_
        have hr : PostM Try.prog Try.f98 (.tup []) [O2 w23] .ret [O2 w23] := ⟨by kernel_rfl, by kernel_rfl⟩
        cases h
        exact W.ret hr
      replace h := cond_f hb h
      refine W.skip ?_
      refine W.weak [0, 1, 2, 3, 4, 10, 11, 12, 2000000] [] [] [] (env' := [(0, S2 n2), (1, I6 v10), (2, I6 v11), (3, I6 v12), (4, .clo F_g6 C_g6), (10, .bool v13), (11, .bool v14), (12, I6 (W6 (v11 - v10))), O2 v9]) (by kernel_rfl) ?_
      refine W.seq ?_
      refine W.join (σ := ((List dpDep) × Int)) (fun s => [(0, S2 n2), (1, I6 v10), (2, I6 v11), (3, I6 s.2), (4, .clo F_g6 C_g6), (10, .bool v13), (11, .bool v14), (12, I6 (W6 (v11 - v10))), (2000000, .obj 33 2 (List.map e_dpDep s.1))]) (fun s => (sl_pdqsortCmpFunc_dpDep_j24 fuel n2 g6 v10 v11 v13 v14 (sl_pdqsortCmpFunc_dpDep fuel) (sl_pdqsortCmpFunc_dpDep_l1 fuel n2 g6 (sl_pdqsortCmpFunc_dpDep fuel) m1)) s.1 s.2 = some r) (fun s h => ?_) (fun hK24 => ?_)
      · obtain ⟨v28, v29⟩ := s
        have h : (sl_pdqsortCmpFunc_dpDep_j24 fuel n2 g6 v10 v11 v13 v14 (sl_pdqsortCmpFunc_dpDep fuel) (sl_pdqsortCmpFunc_dpDep_l1 fuel n2 g6 (sl_pdqsortCmpFunc_dpDep fuel) m1)) v28 v29 = some r := h
        unfold sl_pdqsortCmpFunc_dpDep_j24 at h
        refine W.seq ?_
        refine W.region (by kernel_rfl) ?_
        obtain ⟨w31, hw31, h⟩ := bind_some h
        refine WO.callRK 4 (F := 106) (l := [.lst 33 2 none (snapA 0 n2 (List.map e_dpDep v28)), I6 v10, I6 v11, .clo F_g6 C_g6]) (C := []) (args := [l33 none (snap 0 n2 v28), I6 v10, I6 v11, .clo F_g6 C_g6]) (r := .tup [I6 w31.1, I6 w31.2]) (by kernel_rfl) (by first | (simp only [snap_map, snap_full, snap_rep, List.cons_append, List.nil_append]; done) | (simp only [snap_map, snap_full, snap_rep, List.cons_append, List.nil_append]; kernel_rfl)) (by kernel_rfl) (by kernel_rfl) (run_sl_choosePivotCmpFunc_dpDep (snap 0 n2 v28) v10 v11 g6 F_g6 C_g6 hok_g6 hrun_g6 w31 hw31) (e1 := [(0, S2 n2), (1, I6 v10), (2, I6 v11), (3, I6 v29), (4, .clo F_g6 C_g6), (10, .bool v13), (11, .bool v14), (12, I6 (W6 (v11 - v10))), (48, S2 n2), (49, I6 v10), (50, I6 v11), (51, .clo F_g6 C_g6), (52, .tup [I6 w31.1, I6 w31.2]), O2 v28]) (by kernel_rfl) ?_
        refine WO.fin [0, 1, 2, 3, 4, 10, 11, 12, 13, 14, 2000000] [] [] [] (e2 := [(0, S2 n2), (1, I6 v10), (2, I6 v11), (3, I6 v29), (4, .clo F_g6 C_g6), (10, .bool v13), (11, .bool v14), (12, I6 (W6 (v11 - v10))), (13, I6 w31.1), (14, I6 w31.2), O2 v28]) (by kernel_rfl) (fun _ h => h) ?_
        refine W.seq ?_
        refine W.join (σ := ((List dpDep) × Int × Int)) (fun s => [(0, S2 n2), (1, I6 v10), (2, I6 v11), (3, I6 v29), (4, .clo F_g6 C_g6), (10, .bool v13), (11, .bool v14), (12, I6 (W6 (v11 - v10))), (13, I6 s.2.1), (14, I6 s.2.2), (2000000, .obj 33 2 (List.map e_dpDep s.1))]) (fun s => (sl_pdqsortCmpFunc_dpDep_j32 fuel n2 g6 v10 v11 v13 v14 v29 (sl_pdqsortCmpFunc_dpDep fuel) (sl_pdqsortCmpFunc_dpDep_l1 fuel n2 g6 (sl_pdqsortCmpFunc_dpDep fuel) m1)) s.1 s.2.1 s.2.2 = some r) (fun s h => ?_) (fun hK32 => ?_)
        · obtain ⟨v37, v38, v39⟩ := s
          have h : (sl_pdqsortCmpFunc_dpDep_j32 fuel n2 g6 v10 v11 v13 v14 v29 (sl_pdqsortCmpFunc_dpDep fuel) (sl_pdqsortCmpFunc_dpDep_l1 fuel n2 g6 (sl_pdqsortCmpFunc_dpDep fuel) m1)) v37 v38 v39 = some r := h
          unfold sl_pdqsortCmpFunc_dpDep_j32 at h
          refine W.seq ?_
          refine W.join (σ := ((List dpDep) × Bool × Bool)) (fun s => [(0, S2 n2), (1, I6 v10), (2, I6 v11), (3, I6 v29), (4, .clo F_g6 C_g6), (10, .bool s.2.1), (11, .bool s.2.2), (12, I6 (W6 (v11 - v10))), (13, I6 v38), (2000000, .obj 33 2 (List.map e_dpDep s.1))]) (fun s => (sl_pdqsortCmpFunc_dpDep_j40 fuel n2 g6 v10 v11 v29 v38 (sl_pdqsortCmpFunc_dpDep fuel) (sl_pdqsortCmpFunc_dpDep_l1 fuel n2 g6 (sl_pdqsortCmpFunc_dpDep fuel) m1)) s.1 s.2.1 s.2.2 = some r) (fun s h => ?_) (fun hK40 => ?_)
          · obtain ⟨v47, v48, v49⟩ := s
            have h : (sl_pdqsortCmpFunc_dpDep_j40 fuel n2 g6 v10 v11 v29 v38 (sl_pdqsortCmpFunc_dpDep fuel) (sl_pdqsortCmpFunc_dpDep_l1 fuel n2 g6 (sl_pdqsortCmpFunc_dpDep fuel) m1)) v47 v48 v49 = some r := h
            unfold sl_pdqsortCmpFunc_dpDep_j40 at h
            refine W.seq ?_
            refine W.seq ?_
            refine W.join (σ := (Bool)) (fun s => [(0, S2 n2), (1, I6 v10), (2, I6 v11), (3, I6 v29), (4, .clo F_g6 C_g6), (10, .bool v48), (11, .bool v49), (12, I6 (W6 (v11 - v10))), (13, I6 v38), (97, .bool s), O2 v47]) (fun s => (sl_pdqsortCmpFunc_dpDep_j51 fuel n2 g6 v10 v11 v29 v38 v47 v48 v49 (sl_pdqsortCmpFunc_dpDep fuel) (sl_pdqsortCmpFunc_dpDep_l1 fuel n2 g6 (sl_pdqsortCmpFunc_dpDep fuel) m1)) s = some r) (fun s h => ?_) (fun hK51 => ?_)
            · obtain ⟨v57, rfl⟩ : ∃ x, x = s := ⟨s, rfl⟩
              have h : (sl_pdqsortCmpFunc_dpDep_j51 fuel n2 g6 v10 v11 v29 v38 v47 v48 v49 (sl_pdqsortCmpFunc_dpDep fuel) (sl_pdqsortCmpFunc_dpDep_l1 fuel n2 g6 (sl_pdqsortCmpFunc_dpDep fuel) m1)) v57 = some r := h
              unfold sl_pdqsortCmpFunc_dpDep_j51 at h
              refine W.condB v57 (by kernel_rfl) (fun hb => ?_) (fun hb => ?_)
              · replace h := cond_t hb h
                refine W.seq ?_
                refine W.region (by kernel_rfl) ?_
                obtain ⟨w59, hw59, h⟩ := bind_some h
                refine WO.callMK 5 [(2000000, 2000000)] [] (F := 109) (args := [S2 n2, I6 v10, I6 v11, I6 v38, .clo F_g6 C_g6]) (hp := [O2 v47]) (hp2 := [(2000000, .obj 33 2 (List.map e_dpDep w59.2))]) (r := I6 w59.1) (by kernel_rfl) (run_sl_partitionEqualCmpFunc_dpDep fuel v47 n2 v10 v11 v38 g6 F_g6 C_g6 hok_g6 hrun_g6 w59 hw59) (e1 := [(0, S2 n2), (1, I6 v10), (2, I6 v11), (3, I6 v29), (4, .clo F_g6 C_g6), (10, .bool v48), (11, .bool v49), (12, I6 (W6 (v11 - v10))), (13, I6 v38), (97, .bool v57), (98, S2 n2), (99, I6 v10), (100, I6 v11), (101, I6 v38), (102, .clo F_g6 C_g6), (103, I6 w59.1), (2000000, .obj 33 2 (List.map e_dpDep w59.2))]) (by kernel_rfl) ?_
                refine WO.fin [0, 2, 3, 4, 10, 11, 15, 2000000] [] [] [] (e2 := [(0, S2 n2), (2, I6 v11), (3, I6 v29), (4, .clo F_g6 C_g6), (10, .bool v48), (11, .bool v49), (15, I6 w59.1), (2000000, .obj 33 2 (List.map e_dpDep w59.2))]) (by kernel_rfl) (fun _ h => h) ?_
                refine W.seq ?_
                refine W.regT [0, 1, 2, 3, 4, 10, 11, 2000000] [] [] [] (e2 := [(0, S2 n2), (1, I6 w59.1), (2, I6 v11), (3, I6 v29), (4, .clo F_g6 C_g6), (10, .bool v48), (11, .bool v49), (2000000, .obj 33 2 (List.map e_dpDep w59.2))]) (by kernel_rfl) (by kernel_rfl) (fun _ h => h) ?_
                refine W.exit ?_
                refine W.weak [0, 1, 2, 3, 4, 10, 11, 2000000] [] [] [] (env' := [(0, S2 n2), (1, I6 w59.1), (2, I6 v11), (3, I6 v29), (4, .clo F_g6 C_g6), (10, .bool v48), (11, .bool v49), (2000000, .obj 33 2 (List.map e_dpDep w59.2))]) (by kernel_rfl) ?_
                exact hN1 (w59.2, w59.1, v11, v29, v48, v49) h
              replace h := cond_f hb h
              refine W.skip ?_
              refine W.weak [0, 1, 2, 3, 4, 12, 13, 2000000] [] [] [] (env' := [(0, S2 n2), (1, I6 v10), (2, I6 v11), (3, I6 v29), (4, .clo F_g6 C_g6), (12, I6 (W6 (v11 - v10))), (13, I6 v38), O2 v47]) (by kernel_rfl) ?_
              refine W.seq ?_
              refine W.region (by kernel_rfl) ?_
              obtain ⟨w62, hw62, h⟩ := bind_some h
              refine WO.callMK 5 [(2000000, 2000000)] [] (F := 110) (args := [S2 n2, I6 v10, I6 v11, I6 v38, .clo F_g6 C_g6]) (hp := [O2 v47]) (hp2 := [(2000000, .obj 33 2 (List.map e_dpDep w62.2))]) (r := .tup [I6 w62.1.1, .bool w62.1.2]) (by kernel_rfl) (run_sl_partitionCmpFunc_dpDep fuel v47 n2 v10 v11 v38 g6 F_g6 C_g6 hok_g6 hrun_g6 w62 hw62) (e1 := [(0, S2 n2), (1, I6 v10), (2, I6 v11), (3, I6 v29), (4, .clo F_g6 C_g6), (12, I6 (W6 (v11 - v10))), (13, I6 v38), (106, S2 n2), (107, I6 v10), (108, I6 v11), (109, I6 v38), (110, .clo F_g6 C_g6), (111, .tup [I6 w62.1.1, .bool w62.1.2]), (2000000, .obj 33 2 (List.map e_dpDep w62.2))]) (by kernel_rfl) ?_
              refine WO.fin [0, 1, 2, 3, 4, 12, 16, 17, 2000000] [] [] [] (e2 := [(0, S2 n2), (1, I6 v10), (2, I6 v11), (3, I6 v29), (4, .clo F_g6 C_g6), (12, I6 (W6 (v11 - v10))), (16, I6 w62.1.1), (17, .bool w62.1.2), (2000000, .obj 33 2 (List.map e_dpDep w62.2))]) (by kernel_rfl) (fun _ h => h) ?_
              refine W.seq ?_
              refine W.regT [0, 1, 2, 3, 4, 11, 12, 16, 2000000] [] [] [] (e2 := [(0, S2 n2), (1, I6 v10), (2, I6 v11), (3, I6 v29), (4, .clo F_g6 C_g6), (11, .bool w62.1.2), (12, I6 (W6 (v11 - v10))), (16, I6 w62.1.1), (2000000, .obj 33 2 (List.map e_dpDep w62.2))]) (by kernel_rfl) (by kernel_rfl) (fun _ h => h) ?_
              refine W.seq ?_
              refine W.regT [0, 1, 2, 3, 4, 11, 12, 16, 18, 19, 2000000] [] [] [] (e2 := [(0, S2 n2), (1, I6 v10), (2, I6 v11), (3, I6 v29), (4, .clo F_g6 C_g6), (11, .bool w62.1.2), (12, I6 (W6 (v11 - v10))), (16, I6 w62.1.1), (18, I6 (W6 (w62.1.1 - v10))), (19, I6 (W6 (v11 - w62.1.1))), (2000000, .obj 33 2 (List.map e_dpDep w62.2))]) (by kernel_rfl) (by kernel_rfl) (fun _ h => h) ?_
              refine W.seq ?_
              refine W.regT [0, 1, 2, 3, 4, 11, 16, 18, 19, 20, 2000000] [] [] [] (e2 := [(0, S2 n2), (1, I6 v10), (2, I6 v11), (3, I6 v29), (4, .clo F_g6 C_g6), (11, .bool w62.1.2), (16, I6 w62.1.1), (18, I6 (W6 (w62.1.1 - v10))), (19, I6 (W6 (v11 - w62.1.1))), (20, I6 (W6 (((W6 (v11 - v10))).tdiv 8))), (2000000, .obj 33 2 (List.map e_dpDep w62.2))]) (by kernel_rfl) (by kernel_rfl) (fun _ h => h) ?_
              refine W.seq ?_
              refine W.regT [0, 1, 2, 3, 4, 11, 16, 18, 19, 20, 125, 2000000] [] [] [] (e2 := [(0, S2 n2), (1, I6 v10), (2, I6 v11), (3, I6 v29), (4, .clo F_g6 C_g6), (11, .bool w62.1.2), (16, I6 w62.1.1), (18, I6 (W6 (w62.1.1 - v10))), (19, I6 (W6 (v11 - w62.1.1))), (20, I6 (W6 (((W6 (v11 - v10))).tdiv 8))), (125, .bool (decide ((W6 (w62.1.1 - v10)) < (W6 (v11 - w62.1.1))))), (2000000, .obj 33 2 (List.map e_dpDep w62.2))]) (by kernel_rfl) (by kernel_rfl) (fun _ h => h) ?_
              refine W.condB (decide ((W6 (w62.1.1 - v10)) < (W6 (v11 - w62.1.1)))) (by kernel_rfl) (fun hb => ?_) (fun hb => ?_)
              · replace h := cond_t hb h
                refine W.seq ?_
                refine W.regT [0, 1, 2, 3, 4, 10, 11, 16, 2000000] [] [] [] (e2 := [(0, S2 n2), (1, I6 v10), (2, I6 v11), (3, I6 v29), (4, .clo F_g6 C_g6), (10, .bool (decide ((W6 (w62.1.1 - v10)) ≥ (W6 (((W6 (v11 - v10))).tdiv 8))))), (11, .bool w62.1.2), (16, I6 w62.1.1), (2000000, .obj 33 2 (List.map e_dpDep w62.2))]) (by kernel_rfl) (by kernel_rfl) (fun _ h => h) ?_
                refine W.seq ?_
                refine W.region (by kernel_rfl) ?_
                obtain ⟨w69, hw69, h⟩ := bind_some h
                refine WO.callMK 5 [(2000000, 2000000)] [] (F := 98) (args := [S2 n2, I6 v10, I6 w62.1.1, I6 v29, .clo F_g6 C_g6]) (hp := [(2000000, .obj 33 2 (List.map e_dpDep w62.2))]) (hp2 := [O2 w69]) (r := .tup []) (by kernel_rfl) (ih w62.2 n2 v10 w62.1.1 v29 g6 F_g6 C_g6 hok_g6 hrun_g6 w69 hw69) (e1 := [(0, S2 n2), (1, I6 v10), (2, I6 v11), (3, I6 v29), (4, .clo F_g6 C_g6), (10, .bool (decide ((W6 (w62.1.1 - v10)) ≥ (W6 (((W6 (v11 - v10))).tdiv 8))))), (11, .bool w62.1.2), (16, I6 w62.1.1), (129, S2 n2), (130, I6 v10), (131, I6 w62.1.1), (132, I6 v29), (133, .clo F_g6 C_g6), (134, .tup []), O2 w69]) (by kernel_rfl) ?_
                refine WO.fin [0, 2, 3, 4, 10, 11, 16, 2000000] [] [] [] (e2 := [(0, S2 n2), (2, I6 v11), (3, I6 v29), (4, .clo F_g6 C_g6), (10, .bool (decide ((W6 (w62.1.1 - v10)) ≥ (W6 (((W6 (v11 - v10))).tdiv 8))))), (11, .bool w62.1.2), (16, I6 w62.1.1), O2 w69]) (by kernel_rfl) (fun _ h => h) ?_
                refine W.regT [0, 1, 2, 3, 4, 10, 11, 2000000] [] [] [] (e2 := [(0, S2 n2), (1, I6 (W6 (w62.1.1 + 1))), (2, I6 v11), (3, I6 v29), (4, .clo F_g6 C_g6), (10, .bool (decide ((W6 (w62.1.1 - v10)) ≥ (W6 (((W6 (v11 - v10))).tdiv 8))))), (11, .bool w62.1.2), O2 w69]) (by kernel_rfl) (by kernel_rfl) (fun _ h => h) ?_
                exact hN1 (w69, (W6 (w62.1.1 + 1)), v11, v29, (decide ((W6 (w62.1.1 - v10)) ≥ (W6 (((W6 (v11 - v10))).tdiv 8)))), w62.1.2) h
              replace h := cond_f hb h
              refine W.seq ?_
              refine W.regT [0, 1, 2, 3, 4, 10, 11, 16, 2000000] [] [] [] (e2 := [(0, S2 n2), (1, I6 v10), (2, I6 v11), (3, I6 v29), (4, .clo F_g6 C_g6), (10, .bool (decide ((W6 (v11 - w62.1.1)) ≥ (W6 (((W6 (v11 - v10))).tdiv 8))))), (11, .bool w62.1.2), (16, I6 w62.1.1), (2000000, .obj 33 2 (List.map e_dpDep w62.2))]) (by kernel_rfl) (by kernel_rfl) (fun _ h => h) ?_
              refine W.seq ?_
              refine W.region (by kernel_rfl) ?_
              obtain ⟨w72, hw72, h⟩ := bind_some h
              refine WO.callMK 6 [(2000000, 2000000)] [] (F := 98) (args := [S2 n2, I6 (W6 (w62.1.1 + 1)), I6 v11, I6 v29, .clo F_g6 C_g6]) (hp := [(2000000, .obj 33 2 (List.map e_dpDep w62.2))]) (hp2 := [O2 w72]) (r := .tup []) (by kernel_rfl) (ih w62.2 n2 (W6 (w62.1.1 + 1)) v11 v29 g6 F_g6 C_g6 hok_g6 hrun_g6 w72 hw72) (e1 := [(0, S2 n2), (1, I6 v10), (2, I6 v11), (3, I6 v29), (4, .clo F_g6 C_g6), (10, .bool (decide ((W6 (v11 - w62.1.1)) ≥ (W6 (((W6 (v11 - v10))).tdiv 8))))), (11, .bool w62.1.2), (16, I6 w62.1.1), (140, S2 n2), (141, I6 w62.1.1), (142, I6 (W6 (w62.1.1 + 1))), (143, I6 v11), (144, I6 v29), (145, .clo F_g6 C_g6), (146, .tup []), O2 w72]) (by kernel_rfl) ?_
              refine WO.fin [0, 1, 3, 4, 10, 11, 16, 2000000] [] [] [] (e2 := [(0, S2 n2), (1, I6 v10), (3, I6 v29), (4, .clo F_g6 C_g6), (10, .bool (decide ((W6 (v11 - w62.1.1)) ≥ (W6 (((W6 (v11 - v10))).tdiv 8))))), (11, .bool w62.1.2), (16, I6 w62.1.1), O2 w72]) (by kernel_rfl) (fun _ h => h) ?_
              refine W.regT [0, 1, 2, 3, 4, 10, 11, 2000000] [] [] [] (e2 := [(0, S2 n2), (1, I6 v10), (2, I6 w62.1.1), (3, I6 v29), (4, .clo F_g6 C_g6), (10, .bool (decide ((W6 (v11 - w62.1.1)) ≥ (W6 (((W6 (v11 - v10))).tdiv 8))))), (11, .bool w62.1.2), O2 w72]) (by kernel_rfl) (by kernel_rfl) (fun _ h => h) ?_
              exact hN1 (w72, v10, w62.1.1, v29, (decide ((W6 (v11 - w62.1.1)) ≥ (W6 (((W6 (v11 - v10))).tdiv 8)))), w62.1.2) h
            refine W.region (by kernel_rfl) ?_
            refine WO.boolK 3 (fun b => [(0, S2 n2), (1, I6 v10), (2, I6 v11), (3, I6 v29), (4, .clo F_g6 C_g6), (10, .bool v48), (11, .bool v49), (12, I6 (W6 (v11 - v10))), (13, I6 v38), (81, I6 v10), (82, .bool b), (83, .bool b), O2 v47]) (decide (v10 > 0)) (by kernel_rfl) (fun hb => ?_) (fun hb => ?_)
            · replace h := cond_t hb h
              obtain ⟨hc52, h⟩ := chk_some h
              refine WO.pureK 4 (if (0 : Int) ≤ (W6 (v10 - 1)) ∧ (W6 (v10 - 1)) < ((n2 : Nat) : Int) then some (.pe 2000000 2 (0 + Int.toNat (W6 (v10 - 1))) 0) else none) (v := .pe 2000000 2 (0 + Int.toNat (W6 (v10 - 1))) 0) (by kernel_rfl) (ite_some hc52) (e1 := [(0, S2 n2), (1, I6 v10), (2, I6 v11), (3, I6 v29), (4, .clo F_g6 C_g6), (10, .bool v48), (11, .bool v49), (12, I6 (W6 (v11 - v10))), (13, I6 v38), (81, I6 v10), (82, .bool true), (83, .bool true), (84, .clo F_g6 C_g6), (85, S2 n2), (86, I6 v10), (87, I6 (W6 (v10 - 1))), (88, .pe 2000000 2 (0 + Int.toNat (W6 (v10 - 1))) 0), O2 v47]) (by kernel_rfl) ?_
              obtain ⟨e53, he53, h⟩ := bind_some h
              refine WO.pureK 0 (match (List.map e_dpDep v47)[(0 + Int.toNat (W6 (v10 - 1)))]? with | some y => cut Try.prog 33 (y.cells.map AV.strip) 0 | none => none) (v := .agg [I6 e53.f_From, I6 e53.f_To]) (by kernel_rfl) ((pe_ld (f := e_dpDep) (G := (fun y => cut Try.prog 33 (y.cells.map AV.strip) 0)) he53).trans (by kernel_rfl)) (e1 := [(0, S2 n2), (1, I6 v10), (2, I6 v11), (3, I6 v29), (4, .clo F_g6 C_g6), (10, .bool v48), (11, .bool v49), (12, I6 (W6 (v11 - v10))), (13, I6 v38), (81, I6 v10), (82, .bool true), (83, .bool true), (84, .clo F_g6 C_g6), (85, S2 n2), (86, I6 v10), (87, I6 (W6 (v10 - 1))), (88, .pe 2000000 2 (0 + Int.toNat (W6 (v10 - 1))) 0), (89, .agg [I6 e53.f_From, I6 e53.f_To]), O2 v47]) (by kernel_rfl) ?_
              obtain ⟨hc54, h⟩ := chk_some h
              refine WO.pureK 2 (if (0 : Int) ≤ v38 ∧ v38 < ((n2 : Nat) : Int) then some (.pe 2000000 2 (0 + Int.toNat v38) 0) else none) (v := .pe 2000000 2 (0 + Int.toNat v38) 0) (by kernel_rfl) (ite_some hc54) (e1 := [(0, S2 n2), (1, I6 v10), (2, I6 v11), (3, I6 v29), (4, .clo F_g6 C_g6), (10, .bool v48), (11, .bool v49), (12, I6 (W6 (v11 - v10))), (13, I6 v38), (81, I6 v10), (82, .bool true), (83, .bool true), (84, .clo F_g6 C_g6), (85, S2 n2), (86, I6 v10), (87, I6 (W6 (v10 - 1))), (88, .pe 2000000 2 (0 + Int.toNat (W6 (v10 - 1))) 0), (89, .agg [I6 e53.f_From, I6 e53.f_To]), (90, S2 n2), (91, I6 v38), (92, .pe 2000000 2 (0 + Int.toNat v38) 0), O2 v47]) (by kernel_rfl) ?_
              obtain ⟨e55, he55, h⟩ := bind_some h
              refine WO.pureK 0 (match (List.map e_dpDep v47)[(0 + Int.toNat v38)]? with | some y => cut Try.prog 33 (y.cells.map AV.strip) 0 | none => none) (v := .agg [I6 e55.f_From, I6 e55.f_To]) (by kernel_rfl) ((pe_ld (f := e_dpDep) (G := (fun y => cut Try.prog 33 (y.cells.map AV.strip) 0)) he55).trans (by kernel_rfl)) (e1 := [(0, S2 n2), (1, I6 v10), (2, I6 v11), (3, I6 v29), (4, .clo F_g6 C_g6), (10, .bool v48), (11, .bool v49), (12, I6 (W6 (v11 - v10))), (13, I6 v38), (81, I6 v10), (82, .bool true), (83, .bool true), (84, .clo F_g6 C_g6), (85, S2 n2), (86, I6 v10), (87, I6 (W6 (v10 - 1))), (88, .pe 2000000 2 (0 + Int.toNat (W6 (v10 - 1))) 0), (89, .agg [I6 e53.f_From, I6 e53.f_To]), (90, S2 n2), (91, I6 v38), (92, .pe 2000000 2 (0 + Int.toNat v38) 0), (93, .agg [I6 e55.f_From, I6 e55.f_To]), O2 v47]) (by kernel_rfl) ?_
              obtain ⟨w56, hw56, h⟩ := bind_some h
              refine WO.callK 0 (F := F_g6) (l := [.agg [I6 e53.f_From, I6 e53.f_To], .agg [I6 e55.f_From, I6 e55.f_To]]) (C := C_g6) (r := I6 w56) (by kernel_rfl) hok_g6 (hrun_g6 e53 e55 w56 hw56) (e1 := [(0, S2 n2), (1, I6 v10), (2, I6 v11), (3, I6 v29), (4, .clo F_g6 C_g6), (10, .bool v48), (11, .bool v49), (12, I6 (W6 (v11 - v10))), (13, I6 v38), (81, I6 v10), (82, .bool true), (83, .bool true), (84, .clo F_g6 C_g6), (85, S2 n2), (86, I6 v10), (87, I6 (W6 (v10 - 1))), (88, .pe 2000000 2 (0 + Int.toNat (W6 (v10 - 1))) 0), (89, .agg [I6 e53.f_From, I6 e53.f_To]), (90, S2 n2), (91, I6 v38), (92, .pe 2000000 2 (0 + Int.toNat v38) 0), (93, .agg [I6 e55.f_From, I6 e55.f_To]), (94, I6 w56), O2 v47]) (by kernel_rfl) ?_
              refine WO.fin [0, 1, 2, 3, 4, 10, 11, 12, 13, 97, 2000000] [] [] [] (e2 := [(0, S2 n2), (1, I6 v10), (2, I6 v11), (3, I6 v29), (4, .clo F_g6 C_g6), (10, .bool v48), (11, .bool v49), (12, I6 (W6 (v11 - v10))), (13, I6 v38), (97, .bool (!(decide (w56 < 0)))), O2 v47]) (by kernel_rfl) (fun _ h => h) ?_
              exact hK51 (!(decide (w56 < 0))) h
            replace h := cond_f hb h
            refine WO.fin [0, 1, 2, 3, 4, 10, 11, 12, 13, 97, 2000000] [] [] [] (e2 := [(0, S2 n2), (1, I6 v10), (2, I6 v11), (3, I6 v29), (4, .clo F_g6 C_g6), (10, .bool v48), (11, .bool v49), (12, I6 (W6 (v11 - v10))), (13, I6 v38), (97, .bool false), O2 v47]) (by kernel_rfl) (fun _ h => h) ?_
            exact hK51 false h
          refine W.seq ?_
          refine W.join (σ := (Bool × Bool × Bool)) (fun s => [(0, S2 n2), (1, I6 v10), (2, I6 v11), (3, I6 v29), (4, .clo F_g6 C_g6), (10, .bool s.1), (11, .bool s.2.1), (12, I6 (W6 (v11 - v10))), (13, I6 v38), (75, .bool s.2.2), O2 v37]) (fun s => (sl_pdqsortCmpFunc_dpDep_j41 fuel n2 g6 v10 v11 v37 (sl_pdqsortCmpFunc_dpDep_j40 fuel n2 g6 v10 v11 v29 v38 (sl_pdqsortCmpFunc_dpDep fuel) (sl_pdqsortCmpFunc_dpDep_l1 fuel n2 g6 (sl_pdqsortCmpFunc_dpDep fuel) m1))) s.1 s.2.1 s.2.2 = some r) (fun s h => ?_) (fun hK41 => ?_)
          · obtain ⟨v42, v43, v44⟩ := s
            have h : (sl_pdqsortCmpFunc_dpDep_j41 fuel n2 g6 v10 v11 v37 (sl_pdqsortCmpFunc_dpDep_j40 fuel n2 g6 v10 v11 v29 v38 (sl_pdqsortCmpFunc_dpDep fuel) (sl_pdqsortCmpFunc_dpDep_l1 fuel n2 g6 (sl_pdqsortCmpFunc_dpDep fuel) m1))) v42 v43 v44 = some r := h
            unfold sl_pdqsortCmpFunc_dpDep_j41 at h
            refine W.condB v44 (by kernel_rfl) (fun hb => ?_) (fun hb => ?_)
            · replace h := cond_t hb h
              refine W.seq ?_
              refine W.region (by kernel_rfl) ?_
              obtain ⟨w46, hw46, h⟩ := bind_some h
              refine WO.callMK 4 [(2000000, 2000000)] [] (F := 108) (args := [S2 n2, I6 v10, I6 v11, .clo F_g6 C_g6]) (hp := [O2 v37]) (hp2 := [(2000000, .obj 33 2 (List.map e_dpDep w46.2))]) (r := .bool w46.1) (by kernel_rfl) (run_sl_partialInsertionSortCmpFunc_dpDep fuel v37 n2 v10 v11 g6 F_g6 C_g6 hok_g6 hrun_g6 w46 hw46) (e1 := [(0, S2 n2), (1, I6 v10), (2, I6 v11), (3, I6 v29), (4, .clo F_g6 C_g6), (10, .bool v42), (11, .bool v43), (12, I6 (W6 (v11 - v10))), (13, I6 v38), (75, .bool v44), (76, S2 n2), (77, I6 v10), (78, I6 v11), (79, .clo F_g6 C_g6), (80, .bool w46.1), (2000000, .obj 33 2 (List.map e_dpDep w46.2))]) (by kernel_rfl) ?_
              refine WO.fin [0, 1, 2, 3, 4, 10, 11, 12, 13, 80, 2000000] [] [] [] (e2 := [(0, S2 n2), (1, I6 v10), (2, I6 v11), (3, I6 v29), (4, .clo F_g6 C_g6), (10, .bool v42), (11, .bool v43), (12, I6 (W6 (v11 - v10))), (13, I6 v38), (80, .bool w46.1), (2000000, .obj 33 2 (List.map e_dpDep w46.2))]) (by kernel_rfl) (fun _ h => h) ?_
              refine W.condB w46.1 (by kernel_rfl) (fun hb => ?_) (fun hb => ?_)
              · replace h := cond_t hb h
                refine W.weak [2000000] [] [] [] (env' := [(2000000, .obj 33 2 (List.map e_dpDep w46.2))]) (by kernel_rfl) ?_
                have hr : PostM Try.prog Try.f98 (.tup []) [(2000000, .obj 33 2 (List.map e_dpDep w46.2))] .ret [(2000000, .obj 33 2 (List.map e_dpDep w46.2))] := ⟨by kernel_rfl, by kernel_rfl⟩
                cases h
                exact W.ret hr
              replace h := cond_f hb h
              refine W.skip ?_
              refine W.weak [0, 1, 2, 3, 4, 10, 11, 12, 13, 2000000] [] [] [] (env' := [(0, S2 n2), (1, I6 v10), (2, I6 v11), (3, I6 v29), (4, .clo F_g6 C_g6), (10, .bool v42), (11, .bool v43), (12, I6 (W6 (v11 - v10))), (13, I6 v38), (2000000, .obj 33 2 (List.map e_dpDep w46.2))]) (by kernel_rfl) ?_
              exact hK40 (w46.2, v42, v43) h
            replace h := cond_f hb h
            refine W.skip ?_
            refine W.weak [0, 1, 2, 3, 4, 10, 11, 12, 13, 2000000] [] [] [] (env' := [(0, S2 n2), (1, I6 v10), (2, I6 v11), (3, I6 v29), (4, .clo F_g6 C_g6), (10, .bool v42), (11, .bool v43), (12, I6 (W6 (v11 - v10))), (13, I6 v38), O2 v37]) (by kernel_rfl) ?_
            exact hK40 (v37, v42, v43) h
          refine W.region (by kernel_rfl) ?_
          refine WO.boolK 2 (fun b => [(0, S2 n2), (1, I6 v10), (2, I6 v11), (3, I6 v29), (4, .clo F_g6 C_g6), (10, .bool b), (11, .bool v14), (12, I6 (W6 (v11 - v10))), (13, I6 v38), (14, I6 v39), (68, .bool b), (69, .bool b), O2 v37]) v13 (by kernel_rfl) (fun hb => ?_) (fun hb => ?_)
          · replace h := cond_t hb h
            refine WO.boolK 3 (fun b => [(0, S2 n2), (1, I6 v10), (2, I6 v11), (3, I6 v29), (4, .clo F_g6 C_g6), (10, .bool true), (11, .bool b), (12, I6 (W6 (v11 - v10))), (13, I6 v38), (14, I6 v39), (68, .bool true), (69, .bool true), (70, .bool b), (71, .bool b), (72, .bool b), O2 v37]) v14 (by kernel_rfl) (fun hb => ?_) (fun hb => ?_)
            · replace h := cond_t hb h
              refine WO.fin [0, 1, 2, 3, 4, 10, 11, 12, 13, 75, 2000000] [] [] [] (e2 := [(0, S2 n2), (1, I6 v10), (2, I6 v11), (3, I6 v29), (4, .clo F_g6 C_g6), (10, .bool true), (11, .bool true), (12, I6 (W6 (v11 - v10))), (13, I6 v38), (75, .bool (v39 == 1)), O2 v37]) (by kernel_rfl) (fun _ h => h) ?_
              exact hK41 (true, true, (v39 == 1)) h
            replace h := cond_f hb h
            refine WO.fin [0, 1, 2, 3, 4, 10, 11, 12, 13, 75, 2000000] [] [] [] (e2 := [(0, S2 n2), (1, I6 v10), (2, I6 v11), (3, I6 v29), (4, .clo F_g6 C_g6), (10, .bool true), (11, .bool false), (12, I6 (W6 (v11 - v10))), (13, I6 v38), (75, .bool false), O2 v37]) (by kernel_rfl) (fun _ h => h) ?_
            exact hK41 (true, false, false) h
          replace h := cond_f hb h
          refine WO.fin [0, 1, 2, 3, 4, 10, 11, 12, 13, 75, 2000000] [] [] [] (e2 := [(0, S2 n2), (1, I6 v10), (2, I6 v11), (3, I6 v29), (4, .clo F_g6 C_g6), (10, .bool false), (11, .bool v14), (12, I6 (W6 (v11 - v10))), (13, I6 v38), (75, .bool false), O2 v37]) (by kernel_rfl) (fun _ h => h) ?_
          exact hK41 (false, v14, false) h
        refine W.seq ?_
        refine W.regT [0, 1, 2, 3, 4, 10, 11, 12, 13, 14, 56, 2000000] [] [] [] (e2 := [(0, S2 n2), (1, I6 v10), (2, I6 v11), (3, I6 v29), (4, .clo F_g6 C_g6), (10, .bool v13), (11, .bool v14), (12, I6 (W6 (v11 - v10))), (13, I6 w31.1), (14, I6 w31.2), (56, .bool (w31.2 == 2)), O2 v28]) (by kernel_rfl) (by kernel_rfl) (fun _ h => h) ?_
        refine W.condB (w31.2 == 2) (by kernel_rfl) (fun hb => ?_) (fun hb => ?_)
        · replace h := cond_t hb h
          refine W.seq ?_
          refine W.region (by kernel_rfl) ?_
          obtain ⟨w35, hw35, h⟩ := bind_some h
          refine WO.callMK 4 [(2000000, 2000000)] [] (F := 107) (args := [S2 n2, I6 v10, I6 v11, .clo F_g6 C_g6]) (hp := [O2 v28]) (hp2 := [O2 w35]) (r := .tup []) (by kernel_rfl) (run_sl_reverseRangeCmpFunc_dpDep fuel v28 n2 v10 v11 g6 F_g6 C_g6 hok_g6 hrun_g6 w35 hw35) (e1 := [(0, S2 n2), (1, I6 v10), (2, I6 v11), (3, I6 v29), (4, .clo F_g6 C_g6), (10, .bool v13), (11, .bool v14), (12, I6 (W6 (v11 - v10))), (13, I6 w31.1), (14, I6 w31.2), (56, .bool (w31.2 == 2)), (57, S2 n2), (58, I6 v10), (59, I6 v11), (60, .clo F_g6 C_g6), (61, .tup []), O2 w35]) (by kernel_rfl) ?_
          refine WO.fin [0, 1, 2, 3, 4, 10, 11, 12, 13, 2000000] [] [] [] (e2 := [(0, S2 n2), (1, I6 v10), (2, I6 v11), (3, I6 v29), (4, .clo F_g6 C_g6), (10, .bool v13), (11, .bool v14), (12, I6 (W6 (v11 - v10))), (13, I6 w31.1), O2 w35]) (by kernel_rfl) (fun _ h => h) ?_
          refine W.seq ?_
          refine W.regT [0, 1, 2, 3, 4, 10, 11, 12, 13, 2000000] [] [] [] (e2 := [(0, S2 n2), (1, I6 v10), (2, I6 v11), (3, I6 v29), (4, .clo F_g6 C_g6), (10, .bool v13), (11, .bool v14), (12, I6 (W6 (v11 - v10))), (13, I6 (W6 ((W6 (v11 - 1)) - (W6 (w31.1 - v10))))), O2 w35]) (by kernel_rfl) (by kernel_rfl) (fun _ h => h) ?_
          refine W.regT [0, 1, 2, 3, 4, 10, 11, 12, 13, 14, 2000000] [] [] [] (e2 := [(0, S2 n2), (1, I6 v10), (2, I6 v11), (3, I6 v29), (4, .clo F_g6 C_g6), (10, .bool v13), (11, .bool v14), (12, I6 (W6 (v11 - v10))), (13, I6 (W6 ((W6 (v11 - 1)) - (W6 (w31.1 - v10))))), (14, .int .i64 1), O2 w35]) (by kernel_rfl) (by kernel_rfl) (fun _ h => h) ?_
          exact hK32 (w35, (W6 ((W6 (v11 - 1)) - (W6 (w31.1 - v10)))), 1) h
        replace h := cond_f hb h
        refine W.skip ?_
        refine W.weak [0, 1, 2, 3, 4, 10, 11, 12, 13, 14, 2000000] [] [] [] (env' := [(0, S2 n2), (1, I6 v10), (2, I6 v11), (3, I6 v29), (4, .clo F_g6 C_g6), (10, .bool v13), (11, .bool v14), (12, I6 (W6 (v11 - v10))), (13, I6 w31.1), (14, I6 w31.2), O2 v28]) (by kernel_rfl) ?_
        exact hK32 (v28, w31.1, w31.2) h
      refine W.seq ?_
      refine W.regT [0, 1, 2, 3, 4, 10, 11, 12, 39, 2000000] [] [] [] (e2 := [(0, S2 n2), (1, I6 v10), (2, I6 v11), (3, I6 v12), (4, .clo F_g6 C_g6), (10, .bool v13), (11, .bool v14), (12, I6 (W6 (v11 - v10))), (39, .bool (!v13)), O2 v9]) (by kernel_rfl) (by kernel_rfl) (fun _ h => h) ?_
      refine W.condB (!v13) (by kernel_rfl) (fun hb => ?_) (fun hb => ?_)
      · replace h := cond_t hb h
        refine W.seq ?_
        refine W.region (by kernel_rfl) ?_
        obtain ⟨w27, hw27, h⟩ := bind_some h
        refine WO.callMK 4 [(2000000, 2000000)] [] (F := 105) (args := [S2 n2, I6 v10, I6 v11, .clo F_g6 C_g6]) (hp := [O2 v9]) (hp2 := [O2 w27]) (r := .tup []) (by kernel_rfl) (run_sl_breakPatternsCmpFunc_dpDep fuel v9 n2 v10 v11 g6 F_g6 C_g6 hok_g6 hrun_g6 w27 hw27) (e1 := [(0, S2 n2), (1, I6 v10), (2, I6 v11), (3, I6 v12), (4, .clo F_g6 C_g6), (10, .bool v13), (11, .bool v14), (12, I6 (W6 (v11 - v10))), (39, .bool (!v13)), (40, S2 n2), (41, I6 v10), (42, I6 v11), (43, .clo F_g6 C_g6), (44, .tup []), O2 w27]) (by kernel_rfl) ?_
        refine WO.fin [0, 1, 2, 3, 4, 10, 11, 12, 2000000] [] [] [] (e2 := [(0, S2 n2), (1, I6 v10), (2, I6 v11), (3, I6 v12), (4, .clo F_g6 C_g6), (10, .bool v13), (11, .bool v14), (12, I6 (W6 (v11 - v10))), O2 w27]) (by kernel_rfl) (fun _ h => h) ?_
        refine W.regT [0, 1, 2, 3, 4, 10, 11, 12, 2000000] [] [] [] (e2 := [(0, S2 n2), (1, I6 v10), (2, I6 v11), (3, I6 (W6 (v12 - 1))), (4, .clo F_g6 C_g6), (10, .bool v13), (11, .bool v14), (12, I6 (W6 (v11 - v10))), O2 w27]) (by kernel_rfl) (by kernel_rfl) (fun _ h => h) ?_
        exact hK24 (w27, (W6 (v12 - 1))) h
      replace h := cond_f hb h
      refine W.skip ?_
      refine W.weak [0, 1, 2, 3, 4, 10, 11, 12, 2000000] [] [] [] (env' := [(0, S2 n2), (1, I6 v10), (2, I6 v11), (3, I6 v12), (4, .clo F_g6 C_g6), (10, .bool v13), (11, .bool v14), (12, I6 (W6 (v11 - v10))), O2 v9]) (by kernel_rfl) ?_
      exact hK24 (v9, v12) h
def sl_SortFunc_dpDep (fuel : Nat) (a1 : (List dpDep)) (n2 : Nat) (g3 : (dpDep → dpDep → Option Int)) : Option (List dpDep) :=
  ((mb_Len (IntKind.wrap .u64 ((n2 : Nat) : Int))).bind fun w5 => ((sl_pdqsortCmpFunc_dpDep fuel a1 n2 0 ((n2 : Nat) : Int) w5 g3).bind fun w6 => (some w6)))
theorem run_sl_SortFunc_dpDep (fuel : Nat) (a1 : (List dpDep)) (n2 : Nat) (g3 : (dpDep → dpDep → Option Int)) (F_g3 : Nat) (C_g3 : List AV) (hok_g3 : okFn Try.prog F_g3 = true) (hrun_g3 : ∀ (x0 : dpDep) (x1 : dpDep) r, g3 x0 x1 = some r → Run Try.prog (.call F_g3 ([.agg [I6 x0.f_From, I6 x0.f_To], .agg [I6 x1.f_From, I6 x1.f_To]] ++ C_g3) (I6 r))) (r : (List dpDep)) (h : sl_SortFunc_dpDep fuel a1 n2 g3 = some r) : Run Try.prog (.callM 90 [S2 n2, .clo F_g3 C_g3] [O2 a1] (.tup []) [O2 r]) := by
  refine callM_of_W Try.func90 rfl (by kernel_rfl) (env0 := [(0, S2 n2), (1, .clo F_g3 C_g3), O2 a1]) (by kernel_rfl) ?_
  unfold sl_SortFunc_dpDep at h
  refine W.seq ?_
  refine W.regT [0, 1, 4, 2000000] [] [] [] (e2 := [(0, S2 n2), (1, .clo F_g3 C_g3), (4, I6 ((n2 : Nat) : Int)), O2 a1]) (by kernel_rfl) (by kernel_rfl) (fun _ h => h) ?_
  refine W.region (by kernel_rfl) ?_
  obtain ⟨w5, hw5, h⟩ := bind_some h
  refine WO.callK 4 (F := 99) (l := [.int .u64 (IntKind.wrap .u64 ((n2 : Nat) : Int))]) (C := []) (r := I6 w5) (by kernel_rfl) (by kernel_rfl) (run_mb_Len (IntKind.wrap .u64 ((n2 : Nat) : Int)) w5 hw5) (e1 := [(0, S2 n2), (1, .clo F_g3 C_g3), (4, I6 ((n2 : Nat) : Int)), (7, S2 n2), (8, I6 ((n2 : Nat) : Int)), (9, I6 ((n2 : Nat) : Int)), (10, .int .u64 (IntKind.wrap .u64 ((n2 : Nat) : Int))), (11, I6 w5), O2 a1]) (by kernel_rfl) ?_
  obtain ⟨w6, hw6, h⟩ := bind_some h
  refine WO.callMK 1 [(2000000, 2000000)] [] (F := 98) (args := [S2 n2, .int .i64 0, I6 ((n2 : Nat) : Int), I6 w5, .clo F_g3 C_g3]) (hp := [O2 a1]) (hp2 := [O2 w6]) (r := .tup []) (by kernel_rfl) (run_sl_pdqsortCmpFunc_dpDep fuel a1 n2 0 ((n2 : Nat) : Int) w5 g3 F_g3 C_g3 hok_g3 hrun_g3 w6 hw6) (e1 := [(0, S2 n2), (1, .clo F_g3 C_g3), (4, I6 ((n2 : Nat) : Int)), (7, S2 n2), (8, I6 ((n2 : Nat) : Int)), (9, I6 ((n2 : Nat) : Int)), (10, .int .u64 (IntKind.wrap .u64 ((n2 : Nat) : Int))), (11, I6 w5), (12, .clo F_g3 C_g3), (13, .tup []), O2 w6]) (by kernel_rfl) ?_
  refine WO.end0 (e2 := [(0, S2 n2), (1, .clo F_g3 C_g3), (4, I6 ((n2 : Nat) : Int)), (7, S2 n2), (8, I6 ((n2 : Nat) : Int)), (9, I6 ((n2 : Nat) : Int)), (10, .int .u64 (IntKind.wrap .u64 ((n2 : Nat) : Int))), (11, I6 w5), (12, .clo F_g3 C_g3), (13, .tup []), O2 w6]) (by kernel_rfl) ?_
  have hr : PostM Try.prog Try.f90 (.tup []) [O2 w6] .normal [(0, S2 n2), (1, .clo F_g3 C_g3), (4, I6 ((n2 : Nat) : Int)), (7, S2 n2), (8, I6 ((n2 : Nat) : Int)), (9, I6 ((n2 : Nat) : Int)), (10, .int .u64 (IntKind.wrap .u64 ((n2 : Nat) : Int))), (11, I6 w5), (12, .clo F_g3 C_g3), (13, .tup []), O2 w6] := ⟨by kernel_rfl, by kernel_rfl⟩
  cases h
  exact hr
def dp_critical_3 (a1 : dpDep) (a2 : dpDep) : Option Int :=
  (some (IntKind.wrap .i64 (a1.f_From - a2.f_From)))
theorem run_dp_critical_3 (a1 : dpDep) (a2 : dpDep) (r : Int) (h : dp_critical_3 a1 a2 = some r) : Run Try.prog (.call 91 [.agg [I6 a1.f_From, I6 a1.f_To], .agg [I6 a2.f_From, I6 a2.f_To]] (I6 r)) := by
  refine call_of_W Try.func91 rfl (by kernel_rfl) (env0 := [(0, .agg [I6 a1.f_From, I6 a1.f_To]), (1, .agg [I6 a2.f_From, I6 a2.f_To])]) (by kernel_rfl) ?_
  unfold dp_critical_3 at h
  refine W.seq ?_
  refine W.regT [2, 3] [2, 3] [] [] (e2 := [(2, .ptr (.agg [I6 a1.f_From, I6 a1.f_To])), (3, .ptr (.agg [I6 a2.f_From, I6 a2.f_To]))]) (by kernel_rfl) (by kernel_rfl) (fun _ h => h) ?_
  refine W.seq ?_
  refine W.regT [4] [] [] [] (e2 := [(4, I6 (W6 (a1.f_From - a2.f_From)))]) (by kernel_rfl) (by kernel_rfl) (fun _ h => h) ?_
  refine W.weak [4] [] [] [] (env' := [(4, I6 (W6 (a1.f_From - a2.f_From)))]) (by kernel_rfl) ?_
  have hr : aresults Try.prog Try.f91 [(4, I6 (W6 (a1.f_From - a2.f_From)))] = some (I6 (W6 (a1.f_From - a2.f_From))) := by kernel_rfl
  cases h
  exact W.ret hr
def dp_critical_j18 (fuel : Nat) (v34 : (List dpDep)) (n35 : Nat) : Option (List dpDep) :=
  ((sl_SortFunc_dpDep fuel v34 n35 (fun y0 y1 => dp_critical_3 y0 y1)).bind fun w37 => (some (snap 0 n35 w37)))
def dp_critical_j22 (N2 : ((List dpDep) → Nat → Option (List dpDep))) (v32 : (List dpDep)) (n33 : Nat) : Option (List dpDep) :=
  (N2 v32 n33)
def dp_critical_j26 (g2 : (Int → Option Int)) (v20 : (List dpDep)) (n21 : Nat) (e25 : Int) (K22 : ((List dpDep) → Nat → Option (List dpDep))) (v29 : Bool) : Option (List dpDep) :=
  (bif v29 then ((g2 e25).bind fun w30 => (chk (capOk 16 (n21 + ([(dpDep.mk e25 w30)]).length)) (K22 ((snap 0 n21 v20) ++ [(dpDep.mk e25 w30)]) ((((snap 0 n21 v20) ++ [(dpDep.mk e25 w30)])).length)))) else (K22 v20 n21))
def dp_critical_l2 (g2 : (Int → Option Int)) (n14 : Nat) (w16 : (List Int)) (K18 : ((List dpDep) → Nat → Option (List dpDep))) : List Nat → Nat → (List dpDep) → Nat → Option (List dpDep)
  | [], k2, v20, n21 => (K18 v20 n21)
  | x2 :: r2, k2, v20, n21 => (chk (decide ((0 : Int) ≤ (k2 : Int) ∧ (k2 : Int) < ((n14 : Nat) : Int))) ((w16[(0 + Int.toNat (k2 : Int))]?).bind fun e25 => ((g2 e25).bind fun w27 => (bif (w27 != e25) then ((sl_ContainsFunc_dpDep (snap 0 n21 v20) (fun y0 => dp_critical_2 y0 e25)).bind fun w28 => ((dp_critical_j26 g2 v20 n21 e25 (dp_critical_j22 (dp_critical_l2 g2 n14 w16 K18 r2 (k2 + 1)))) (!w28))) else ((dp_critical_j26 g2 v20 n21 e25 (dp_critical_j22 (dp_critical_l2 g2 n14 w16 K18 r2 (k2 + 1)))) false)))))
def dp_critical_j5 (fuel : Nat) (g2 : (Int → Option Int)) (v13 : (List Int)) (n14 : Nat) : Option (List dpDep) :=
  ((sl_SortStableFunc_int fuel v13 n14 (fun y0 y1 => dp_critical_1 y0 y1)).bind fun w16 => (chk (lenOk (List.range (Int.toNat ((n14 : Nat) : Int)))) (dp_critical_l2 g2 n14 w16 (dp_critical_j18 fuel) (List.range (Int.toNat ((n14 : Nat) : Int))) 0 ([] : (List dpDep)) (([] : (List dpDep)).length))))
def dp_critical_l1 (K5 : ((List Int) → Nat → Option (List dpDep))) : List Nat → Nat → (List Int) → Nat → Option (List dpDep)
  | [], k1, v8, n9 => (K5 v8 n9)
  | x1 :: r1, k1, v8, n9 => (chk (capOk 8 (n9 + ([(k1 : Int)]).length)) ((dp_critical_l1 K5 r1 (k1 + 1)) ((snap 0 n9 v8) ++ [(k1 : Int)]) ((((snap 0 n9 v8) ++ [(k1 : Int)])).length)))
def dp_critical (fuel : Nat) (a1 : Int) (g2 : (Int → Option Int)) : Option (List dpDep) :=
  (chk (decide (0 ≤ a1)) (chk (lenOk (List.range (Int.toNat (iShl .i64 1 a1)))) (dp_critical_l1 (dp_critical_j5 fuel g2) (List.range (Int.toNat (iShl .i64 1 a1))) 0 ([] : (List Int)) (([] : (List Int)).length))))
theorem run_dp_critical (fuel : Nat) (a1 : Int) (g2 : (Int → Option Int)) (F_g2 : Nat) (C_g2 : List AV) (hok_g2 : okFn Try.prog F_g2 = true) (hrun_g2 : ∀ (x0 : Int) r, g2 x0 = some r → Run Try.prog (.call F_g2 ([I6 x0] ++ C_g2) (I6 r))) (r : (List dpDep)) (h : dp_critical fuel a1 g2 = some r) : Run Try.prog (.call 70 [I6 a1, .clo F_g2 C_g2] (l33 none r)) := by
  refine call_of_W Try.func70 rfl (by kernel_rfl) (env0 := [(0, I6 a1), (1, .clo F_g2 C_g2)]) (by kernel_rfl) ?_
  unfold dp_critical at h
  refine W.seq ?_
  refine W.region (by kernel_rfl) ?_
  refine WO.steps 1 (e1 := [(0, I6 a1), (1, .clo F_g2 C_g2), (4, .nils)]) (by kernel_rfl) ?_
  refine WO.mv [.nil 4 33 2 1200004] (env' := [(0, I6 a1), (1, .clo F_g2 C_g2), (4, .sb 1200004 33 2 0 (([] : (List dpDep)).length)), (1200004, .obj 33 2 (List.map e_dpDep ([] : (List dpDep))))]) (by kernel_rfl) ?_
  refine WO.fin [0, 1] [] [] [] (e2 := [(0, I6 a1), (1, .clo F_g2 C_g2)]) (by kernel_rfl) (fun _ h => h) ?_
  refine W.seq ?_
  refine W.region (by kernel_rfl) ?_
  refine WO.steps 1 (e1 := [(0, I6 a1), (1, .clo F_g2 C_g2), (5, .nils)]) (by kernel_rfl) ?_
  refine WO.mv [.nil 5 3 1 1200005] (env' := [(0, I6 a1), (1, .clo F_g2 C_g2), (5, .sb 1200005 3 1 0 (([] : (List Int)).length)), (1200005, .obj 3 1 (List.map (AV.int .i64) ([] : (List Int))))]) (by kernel_rfl) ?_
  refine WO.fin [0, 1, 5, 1200005] [] [] [] (e2 := [(0, I6 a1), (1, .clo F_g2 C_g2), (5, .sb 1200005 3 1 0 (([] : (List Int)).length)), (1200005, .obj 3 1 (List.map (AV.int .i64) ([] : (List Int))))]) (by kernel_rfl) (fun _ h => h) ?_
  refine W.seq ?_
  refine W.join (σ := ((List Int) × Nat)) (fun s => [(1, .clo F_g2 C_g2), (5, .sb 1500005 3 1 0 s.2), (1500005, .obj 3 1 (List.map (AV.int .i64) s.1))]) (fun s => (dp_critical_j5 fuel g2) s.1 s.2 = some r) (fun s h => ?_) (fun hK5 => ?_)
  · obtain ⟨v13, n14⟩ := s
    have h : (dp_critical_j5 fuel g2) v13 n14 = some r := h
    unfold dp_critical_j5 at h
    refine W.seq ?_
    refine W.region (by kernel_rfl) ?_
    obtain ⟨w16, hw16, h⟩ := bind_some h
    refine WO.callMK 1 [(1500005, 2000000)] [] (F := 86) (args := [.sb 2000000 3 1 0 n14, .clo 87 []]) (hp := [O1 v13]) (hp2 := [O1 w16]) (r := .tup []) (by kernel_rfl) (run_sl_SortStableFunc_int fuel v13 n14 (fun y0 y1 => dp_critical_1 y0 y1) 87 [] (by kernel_rfl) (fun y0 y1 r h => run_dp_critical_1 y0 y1 r h) w16 hw16) (e1 := [(1, .clo F_g2 C_g2), (5, .sb 1500005 3 1 0 n14), (20, .sb 1500005 3 1 0 n14), (21, .tup []), (1500005, .obj 3 1 (List.map (AV.int .i64) w16))]) (by kernel_rfl) ?_
    refine WO.fin [1, 5, 1500005] [] [] [] (e2 := [(1, .clo F_g2 C_g2), (5, .sb 1500005 3 1 0 n14), (1500005, .obj 3 1 (List.map (AV.int .i64) w16))]) (by kernel_rfl) (fun _ h => h) ?_
    refine W.seq ?_
    refine W.region (by kernel_rfl) ?_
    refine WO.steps 1 (e1 := [(1, .clo F_g2 C_g2), (5, .sb 1500005 3 1 0 n14), (7, .nils), (1500005, .obj 3 1 (List.map (AV.int .i64) w16))]) (by kernel_rfl) ?_
    refine WO.mv [.nil 7 33 2 1200007] (env' := [(1, .clo F_g2 C_g2), (5, .sb 1500005 3 1 0 n14), (7, .sb 1200007 33 2 0 (([] : (List dpDep)).length)), (1200007, .obj 33 2 (List.map e_dpDep ([] : (List dpDep)))), (1500005, .obj 3 1 (List.map (AV.int .i64) w16))]) (by kernel_rfl) ?_
    refine WO.fin [1, 5, 7, 1200007, 1500005] [] [] [] (e2 := [(1, .clo F_g2 C_g2), (5, .sb 1500005 3 1 0 n14), (7, .sb 1200007 33 2 0 (([] : (List dpDep)).length)), (1200007, .obj 33 2 (List.map e_dpDep ([] : (List dpDep)))), (1500005, .obj 3 1 (List.map (AV.int .i64) w16))]) (by kernel_rfl) (fun _ h => h) ?_
    refine W.seq ?_
    refine W.join (σ := ((List dpDep) × Nat)) (fun s => [(7, .sb 1500007 33 2 0 s.2), (1500007, .obj 33 2 (List.map e_dpDep s.1))]) (fun s => (dp_critical_j18 fuel) s.1 s.2 = some r) (fun s h => ?_) (fun hK18 => ?_)
    · obtain ⟨v34, n35⟩ := s
      have h : (dp_critical_j18 fuel) v34 n35 = some r := h
      unfold dp_critical_j18 at h
      refine W.seq ?_
      refine W.region (by kernel_rfl) ?_
      obtain ⟨w37, hw37, h⟩ := bind_some h
      refine WO.callMK 1 [(1500007, 2000000)] [] (F := 90) (args := [.sb 2000000 33 2 0 n35, .clo 91 []]) (hp := [O2 v34]) (hp2 := [O2 w37]) (r := .tup []) (by kernel_rfl) (run_sl_SortFunc_dpDep fuel v34 n35 (fun y0 y1 => dp_critical_3 y0 y1) 91 [] (by kernel_rfl) (fun y0 y1 r h => run_dp_critical_3 y0 y1 r h) w37 hw37) (e1 := [(7, .sb 1500007 33 2 0 n35), (48, .sb 1500007 33 2 0 n35), (49, .tup []), (1500007, .obj 33 2 (List.map e_dpDep w37))]) (by kernel_rfl) ?_
      refine WO.fin [7, 1500007] [] [] [] (e2 := [(7, .sb 1500007 33 2 0 n35), (1500007, .obj 33 2 (List.map e_dpDep w37))]) (by kernel_rfl) (fun _ h => h) ?_
      refine W.seq ?_
      refine W.regT [4, 1500007] [] [] [] (e2 := [(4, .sb 1500007 33 2 0 n35), (1500007, .obj 33 2 (List.map e_dpDep w37))]) (by kernel_rfl) (by kernel_rfl) (fun _ h => h) ?_
      refine W.mv [.frz 1500007] (env' := [(4, l33 none (snap 0 n35 w37))]) ((by kernel_rfl : mvAll [(4, .sb 1500007 33 2 0 n35), (1500007, .obj 33 2 (List.map e_dpDep w37))] [.frz 1500007] = [(4, .lst 33 2 none (snapA 0 n35 (List.map e_dpDep w37)))]).trans (by first | (simp only [snap_map, snap_full, snap_rep]; done) | (simp only [snap_map, snap_full, snap_rep]; kernel_rfl))) ?_
      refine W.weak [4] [] [] [] (env' := [(4, l33 none (snap 0 n35 w37))]) (by kernel_rfl) ?_
      have hr : aresults Try.prog Try.f70 [(4, l33 none (snap 0 n35 w37))] = some (l33 none (snap 0 n35 w37)) := by kernel_rfl
      cases h
      exact W.ret hr
    refine W.seq ?_
    refine W.regT [1, 7, 22, 23, 24, 1200007, 1500005] [] [] [] (e2 := [(1, .clo F_g2 C_g2), (7, .sb 1200007 33 2 0 (([] : (List dpDep)).length)), (22, .sb 1500005 3 1 0 n14), (23, I6 ((n14 : Nat) : Int)), (24, .int .i64 0), (1200007, .obj 33 2 (List.map e_dpDep ([] : (List dpDep)))), (1500005, .obj 3 1 (List.map (AV.int .i64) w16))]) (by kernel_rfl) (by kernel_rfl) (fun _ h => h) ?_
    refine W.block ?_
    obtain ⟨hl2, h⟩ := chk_some h
    refine W.weak [1, 7, 22, 23, 24, 1200007, 1500005] [] [] [] (env' := [(1, .clo F_g2 C_g2), (7, .sb 1200007 33 2 0 (([] : (List dpDep)).length)), (22, .sb 1500005 3 1 0 n14), (23, I6 ((n14 : Nat) : Int)), (24, .int .i64 0), (1200007, .obj 33 2 (List.map e_dpDep ([] : (List dpDep)))), (1500005, .obj 3 1 (List.map (AV.int .i64) w16))]) (by kernel_rfl) ?_
    refine W.mv [.ren 1200007 1500007] (env' := [(1, .clo F_g2 C_g2), (7, .sb 1500007 33 2 0 (([] : (List dpDep)).length)), (22, .sb 1500005 3 1 0 n14), (23, I6 ((n14 : Nat) : Int)), (24, .int .i64 0), (1500005, .obj 3 1 (List.map (AV.int .i64) w16)), (1500007, .obj 33 2 (List.map e_dpDep ([] : (List dpDep))))]) (by kernel_rfl) ?_
    refine W.weak [1, 7, 22, 23, 24, 1500005, 1500007] [] [] [] (env' := [(1, .clo F_g2 C_g2), (7, .sb 1500007 33 2 0 (([] : (List dpDep)).length)), (22, .sb 1500005 3 1 0 n14), (23, I6 ((n14 : Nat) : Int)), (24, I6 ((0 : Nat) : Int)), (1500005, .obj 3 1 (List.map (AV.int .i64) w16)), (1500007, .obj 33 2 (List.map e_dpDep ([] : (List dpDep))))]) (by kernel_rfl) ?_
    refine W.range (σ := ((List dpDep) × Nat)) (List.range (Int.toNat ((n14 : Nat) : Int))) (fun k2 s => [(1, .clo F_g2 C_g2), (7, .sb 1500007 33 2 0 s.2), (22, .sb 1500005 3 1 0 n14), (23, I6 ((n14 : Nat) : Int)), (24, I6 (k2 : Int)), (1500005, .obj 3 1 (List.map (AV.int .i64) w16)), (1500007, .obj 33 2 (List.map e_dpDep s.1))]) (fun r0 k0 s => dp_critical_l2 g2 n14 w16 (dp_critical_j18 fuel) r0 k0 s.1 s.2 = some r) (fun s h => ?_) (fun x2 r2 k2 s hx2 hk2 h hN2 => ?_) (([] : (List dpDep)), ([] : (List dpDep)).length) h
    · obtain ⟨v20, n21⟩ := s
      have h : dp_critical_l2 g2 n14 w16 (dp_critical_j18 fuel) [] ((List.range (Int.toNat ((n14 : Nat) : Int)))).length v20 n21 = some r := h
      rw [dp_critical_l2.eq_1] at h
      refine W.seq ?_
      refine W.region (by kernel_rfl) ?_
      refine WO.pureK 0 (some (.bool (decide ((((List.range (Int.toNat ((n14 : Nat) : Int)))).length : Int) < ((n14 : Nat) : Int))))) (v := .bool false) (by kernel_rfl) (by rw [ltr_false (n := ((n14 : Nat) : Int))]) (e1 := [(1, .clo F_g2 C_g2), (7, .sb 1500007 33 2 0 n21), (22, .sb 1500005 3 1 0 n14), (23, I6 ((n14 : Nat) : Int)), (24, I6 (((List.range (Int.toNat ((n14 : Nat) : Int)))).length : Int)), (25, .bool false), (1500005, .obj 3 1 (List.map (AV.int .i64) w16)), (1500007, .obj 33 2 (List.map e_dpDep v20))]) (by kernel_rfl) ?_
      refine WO.fin ([1, 7, 22, 23, 24, 25, 1500005, 1500007]) [] [] [] (e2 := [(1, .clo F_g2 C_g2), (7, .sb 1500007 33 2 0 n21), (22, .sb 1500005 3 1 0 n14), (23, I6 ((n14 : Nat) : Int)), (24, I6 (((List.range (Int.toNat ((n14 : Nat) : Int)))).length : Int)), (25, .bool false), (1500005, .obj 3 1 (List.map (AV.int .i64) w16)), (1500007, .obj 33 2 (List.map e_dpDep v20))]) (by kernel_rfl) (fun _ h => h) ?_
      refine W.seq ?_
      refine W.condB false (by kernel_rfl) (fun h => Bool.noConfusion h) (fun _ => ?_)
      refine W.exit ?_
      refine W.weak [7, 1500007] [] [] [] (env' := [(7, .sb 1500007 33 2 0 n21), (1500007, .obj 33 2 (List.map e_dpDep v20))]) (by kernel_rfl) ?_
      exact hK18 (v20, n21) h
    · obtain ⟨v20, n21⟩ := s
      have h : dp_critical_l2 g2 n14 w16 (dp_critical_j18 fuel) (x2 :: r2) k2 v20 n21 = some r := h
      rw [dp_critical_l2.eq_2] at h
      refine W.seq ?_
      refine W.region (by kernel_rfl) ?_
      refine WO.pureK 0 (some (.bool (decide ((k2 : Int) < ((n14 : Nat) : Int))))) (v := .bool true) (by kernel_rfl) (by rw [ltr_true hk2]) (e1 := [(1, .clo F_g2 C_g2), (7, .sb 1500007 33 2 0 n21), (22, .sb 1500005 3 1 0 n14), (23, I6 ((n14 : Nat) : Int)), (24, I6 (k2 : Int)), (25, .bool true), (1500005, .obj 3 1 (List.map (AV.int .i64) w16)), (1500007, .obj 33 2 (List.map e_dpDep v20))]) (by kernel_rfl) ?_
      refine WO.fin ([1, 7, 22, 23, 24, 25, 1500005, 1500007]) [] [] [] (e2 := [(1, .clo F_g2 C_g2), (7, .sb 1500007 33 2 0 n21), (22, .sb 1500005 3 1 0 n14), (23, I6 ((n14 : Nat) : Int)), (24, I6 (k2 : Int)), (25, .bool true), (1500005, .obj 3 1 (List.map (AV.int .i64) w16)), (1500007, .obj 33 2 (List.map e_dpDep v20))]) (by kernel_rfl) (fun _ h => h) ?_
      refine W.seq ?_
      refine W.condB true (by kernel_rfl) (fun _ => ?_) (fun h => Bool.noConfusion h)
      refine W.skip ?_
      refine W.weak [1, 7, 22, 23, 24, 1500005, 1500007] [] [] [] (env' := [(1, .clo F_g2 C_g2), (7, .sb 1500007 33 2 0 n21), (22, .sb 1500005 3 1 0 n14), (23, I6 ((n14 : Nat) : Int)), (24, I6 (k2 : Int)), (1500005, .obj 3 1 (List.map (AV.int .i64) w16)), (1500007, .obj 33 2 (List.map e_dpDep v20))]) (by kernel_rfl) ?_
      refine W.seq ?_
      refine W.join (σ := ((List dpDep) × Nat)) (fun s => [(1, .clo F_g2 C_g2), (7, .sb 1500007 33 2 0 s.2), (22, .sb 1500005 3 1 0 n14), (23, I6 ((n14 : Nat) : Int)), (24, I6 (k2 : Int)), (1500005, .obj 3 1 (List.map (AV.int .i64) w16)), (1500007, .obj 33 2 (List.map e_dpDep s.1))]) (fun s => (dp_critical_j22 (dp_critical_l2 g2 n14 w16 (dp_critical_j18 fuel) r2 (k2 + 1))) s.1 s.2 = some r) (fun s h => ?_) (fun hK22 => ?_)
      · obtain ⟨v32, n33⟩ := s
        have h : (dp_critical_j22 (dp_critical_l2 g2 n14 w16 (dp_critical_j18 fuel) r2 (k2 + 1))) v32 n33 = some r := h
        unfold dp_critical_j22 at h
        refine W.region (by kernel_rfl) ?_
        refine WO.pureK 0 (some (I6 (IntKind.wrap .i64 ((k2 : Int) + 1)))) (v := I6 ((k2 + 1 : Nat) : Int)) (by kernel_rfl) (by rw [wrap_succ hl2 hk2]) (e1 := [(1, .clo F_g2 C_g2), (7, .sb 1500007 33 2 0 n33), (22, .sb 1500005 3 1 0 n14), (23, I6 ((n14 : Nat) : Int)), (24, I6 (k2 : Int)), (47, I6 ((k2 + 1 : Nat) : Int)), (1500005, .obj 3 1 (List.map (AV.int .i64) w16)), (1500007, .obj 33 2 (List.map e_dpDep v32))]) (by kernel_rfl) ?_
        refine WO.fin [1, 7, 22, 23, 24, 1500005, 1500007] [] [] [] (e2 := [(1, .clo F_g2 C_g2), (7, .sb 1500007 33 2 0 n33), (22, .sb 1500005 3 1 0 n14), (23, I6 ((n14 : Nat) : Int)), (24, I6 ((k2 + 1 : Nat) : Int)), (1500005, .obj 3 1 (List.map (AV.int .i64) w16)), (1500007, .obj 33 2 (List.map e_dpDep v32))]) (by kernel_rfl) (fun _ h => h) ?_
        exact hN2 (v32, n33) h
      refine W.block ?_
      refine W.seq ?_
      refine W.region (by kernel_rfl) ?_
      obtain ⟨hc24, h⟩ := chk_some h
      refine WO.pureK 0 (if (0 : Int) ≤ (k2 : Int) ∧ (k2 : Int) < ((n14 : Nat) : Int) then some (.pe 1500005 1 (0 + Int.toNat (k2 : Int)) 0) else none) (v := .pe 1500005 1 (0 + Int.toNat (k2 : Int)) 0) (by kernel_rfl) (ite_some hc24) (e1 := [(1, .clo F_g2 C_g2), (7, .sb 1500007 33 2 0 n21), (22, .sb 1500005 3 1 0 n14), (23, I6 ((n14 : Nat) : Int)), (24, I6 (k2 : Int)), (26, .pe 1500005 1 (0 + Int.toNat (k2 : Int)) 0), (1500005, .obj 3 1 (List.map (AV.int .i64) w16)), (1500007, .obj 33 2 (List.map e_dpDep v20))]) (by kernel_rfl) ?_
      obtain ⟨e25, he25, h⟩ := bind_some h
      refine WO.pureK 0 (match (List.map (AV.int .i64) w16)[(0 + Int.toNat (k2 : Int))]? with | some y => cut Try.prog 3 (y.cells.map AV.strip) 0 | none => none) (v := I6 e25) (by kernel_rfl) ((pe_ld (f := (AV.int .i64)) (G := (fun y => cut Try.prog 3 (y.cells.map AV.strip) 0)) he25).trans (by kernel_rfl)) (e1 := [(1, .clo F_g2 C_g2), (7, .sb 1500007 33 2 0 n21), (22, .sb 1500005 3 1 0 n14), (23, I6 ((n14 : Nat) : Int)), (24, I6 (k2 : Int)), (26, .pe 1500005 1 (0 + Int.toNat (k2 : Int)) 0), (27, I6 e25), (1500005, .obj 3 1 (List.map (AV.int .i64) w16)), (1500007, .obj 33 2 (List.map e_dpDep v20))]) (by kernel_rfl) ?_
      refine WO.fin [1, 7, 9, 22, 23, 24, 1500005, 1500007] [9] [] [] (e2 := [(1, .clo F_g2 C_g2), (7, .sb 1500007 33 2 0 n21), (9, .ptr (I6 e25)), (22, .sb 1500005 3 1 0 n14), (23, I6 ((n14 : Nat) : Int)), (24, I6 (k2 : Int)), (1500005, .obj 3 1 (List.map (AV.int .i64) w16)), (1500007, .obj 33 2 (List.map e_dpDep v20))]) (by kernel_rfl) (fun _ h => h) ?_
      refine W.seq ?_
      refine W.join (σ := (Bool)) (fun s => [(1, .clo F_g2 C_g2), (7, .sb 1500007 33 2 0 n21), (9, .ptr (I6 e25)), (22, .sb 1500005 3 1 0 n14), (23, I6 ((n14 : Nat) : Int)), (24, I6 (k2 : Int)), (38, .bool s), (1500005, .obj 3 1 (List.map (AV.int .i64) w16)), (1500007, .obj 33 2 (List.map e_dpDep v20))]) (fun s => (dp_critical_j26 g2 v20 n21 e25 (dp_critical_j22 (dp_critical_l2 g2 n14 w16 (dp_critical_j18 fuel) r2 (k2 + 1)))) s = some r) (fun s h => ?_) (fun hK26 => ?_)
      · obtain ⟨v29, rfl⟩ : ∃ x, x = s := ⟨s, rfl⟩
        have h : (dp_critical_j26 g2 v20 n21 e25 (dp_critical_j22 (dp_critical_l2 g2 n14 w16 (dp_critical_j18 fuel) r2 (k2 + 1)))) v29 = some r := h
        unfold dp_critical_j26 at h
        refine W.condB v29 (by kernel_rfl) (fun hb => ?_) (fun hb => ?_)
        · replace h := cond_t hb h
          refine W.region (by kernel_rfl) ?_
          obtain ⟨w30, hw30, h⟩ := bind_some h
          refine WO.callK 4 (F := F_g2) (l := [I6 e25]) (C := C_g2) (r := I6 w30) (by kernel_rfl) hok_g2 (hrun_g2 e25 w30 hw30) (e1 := [(1, .clo F_g2 C_g2), (7, .sb 1500007 33 2 0 n21), (9, .ptr (I6 e25)), (22, .sb 1500005 3 1 0 n14), (23, I6 ((n14 : Nat) : Int)), (24, I6 (k2 : Int)), (38, .bool v29), (39, .sb 1500007 33 2 0 n21), (40, I6 e25), (41, .clo F_g2 C_g2), (42, I6 e25), (43, I6 w30), (1500005, .obj 3 1 (List.map (AV.int .i64) w16)), (1500007, .obj 33 2 (List.map e_dpDep v20))]) (by kernel_rfl) ?_
          obtain ⟨hc31, h⟩ := chk_some h
          refine WO.appendOK 2 (d := 46) (e := 33) (s := 2) (bytes := 16) (m := n21) (n2 := (((snap 0 n21 v20) ++ [(dpDep.mk e25 w30)])).length) (xs := (List.map e_dpDep v20)) (ys := (List.map e_dpDep [(dpDep.mk e25 w30)])) (zs := (List.map e_dpDep ((snap 0 n21 v20) ++ [(dpDep.mk e25 w30)]))) (env1 := [(1, .clo F_g2 C_g2), (7, .top), (9, .ptr (I6 e25)), (22, .sb 1500005 3 1 0 n14), (23, I6 ((n14 : Nat) : Int)), (24, I6 (k2 : Int)), (38, .bool v29), (39, .top), (40, I6 e25), (41, .clo F_g2 C_g2), (42, I6 e25), (43, I6 w30), (44, .agg [I6 e25, I6 w30]), (45, l33 none [(dpDep.mk e25 w30)]), (1500005, .obj 3 1 (List.map (AV.int .i64) w16))]) (by kernel_rfl) (by first | exact hc31 | (simp only [snap_map, List.length_map]; exact hc31)) (by simp only [snap_map, snap_full, snap_rep, List.map_append]) (List.length_map _) (e1 := [(1, .clo F_g2 C_g2), (7, .top), (9, .ptr (I6 e25)), (22, .sb 1500005 3 1 0 n14), (23, I6 ((n14 : Nat) : Int)), (24, I6 (k2 : Int)), (38, .bool v29), (39, .top), (40, I6 e25), (41, .clo F_g2 C_g2), (42, I6 e25), (43, I6 w30), (44, .agg [I6 e25, I6 w30]), (45, l33 none [(dpDep.mk e25 w30)]), (46, .sb 1000046 33 2 0 ((((snap 0 n21 v20) ++ [(dpDep.mk e25 w30)])).length)), (1000046, .obj 33 2 (List.map e_dpDep ((snap 0 n21 v20) ++ [(dpDep.mk e25 w30)]))), (1500005, .obj 3 1 (List.map (AV.int .i64) w16))]) (by kernel_rfl) ?_
          refine WO.fin [1, 7, 22, 23, 24, 1000046, 1500005] [] [] [] (e2 := [(1, .clo F_g2 C_g2), (7, .sb 1000046 33 2 0 ((((snap 0 n21 v20) ++ [(dpDep.mk e25 w30)])).length)), (22, .sb 1500005 3 1 0 n14), (23, I6 ((n14 : Nat) : Int)), (24, I6 (k2 : Int)), (1000046, .obj 33 2 (List.map e_dpDep ((snap 0 n21 v20) ++ [(dpDep.mk e25 w30)]))), (1500005, .obj 3 1 (List.map (AV.int .i64) w16))]) (by kernel_rfl) (fun _ h => h) ?_
          refine W.mv [.ren 1000046 1500007] (env' := [(1, .clo F_g2 C_g2), (7, .sb 1500007 33 2 0 ((((snap 0 n21 v20) ++ [(dpDep.mk e25 w30)])).length)), (22, .sb 1500005 3 1 0 n14), (23, I6 ((n14 : Nat) : Int)), (24, I6 (k2 : Int)), (1500005, .obj 3 1 (List.map (AV.int .i64) w16)), (1500007, .obj 33 2 (List.map e_dpDep ((snap 0 n21 v20) ++ [(dpDep.mk e25 w30)])))]) (by kernel_rfl) ?_
          refine W.weak [1, 7, 22, 23, 24, 1500005, 1500007] [] [] [] (env' := [(1, .clo F_g2 C_g2), (7, .sb 1500007 33 2 0 ((((snap 0 n21 v20) ++ [(dpDep.mk e25 w30)])).length)), (22, .sb 1500005 3 1 0 n14), (23, I6 ((n14 : Nat) : Int)), (24, I6 (k2 : Int)), (1500005, .obj 3 1 (List.map (AV.int .i64) w16)), (1500007, .obj 33 2 (List.map e_dpDep ((snap 0 n21 v20) ++ [(dpDep.mk e25 w30)])))]) (by kernel_rfl) ?_
          exact hK22 (((snap 0 n21 v20) ++ [(dpDep.mk e25 w30)]), (((snap 0 n21 v20) ++ [(dpDep.mk e25 w30)])).length) h
        replace h := cond_f hb h
        refine W.skip ?_
        refine W.weak [1, 7, 22, 23, 24, 1500005, 1500007] [] [] [] (env' := [(1, .clo F_g2 C_g2), (7, .sb 1500007 33 2 0 n21), (22, .sb 1500005 3 1 0 n14), (23, I6 ((n14 : Nat) : Int)), (24, I6 (k2 : Int)), (1500005, .obj 3 1 (List.map (AV.int .i64) w16)), (1500007, .obj 33 2 (List.map e_dpDep v20))]) (by kernel_rfl) ?_
        exact hK22 (v20, n21) h
      refine W.region (by kernel_rfl) ?_
      obtain ⟨w27, hw27, h⟩ := bind_some h
      refine WO.callK 2 (F := F_g2) (l := [I6 e25]) (C := C_g2) (r := I6 w27) (by kernel_rfl) hok_g2 (hrun_g2 e25 w27 hw27) (e1 := [(1, .clo F_g2 C_g2), (7, .sb 1500007 33 2 0 n21), (9, .ptr (I6 e25)), (22, .sb 1500005 3 1 0 n14), (23, I6 ((n14 : Nat) : Int)), (24, I6 (k2 : Int)), (28, .clo F_g2 C_g2), (29, I6 e25), (30, I6 w27), (1500005, .obj 3 1 (List.map (AV.int .i64) w16)), (1500007, .obj 33 2 (List.map e_dpDep v20))]) (by kernel_rfl) ?_
      refine WO.boolK 3 (fun b => [(1, .clo F_g2 C_g2), (7, .sb 1500007 33 2 0 n21), (9, .ptr (I6 e25)), (22, .sb 1500005 3 1 0 n14), (23, I6 ((n14 : Nat) : Int)), (24, I6 (k2 : Int)), (28, .clo F_g2 C_g2), (29, I6 e25), (30, I6 w27), (31, I6 e25), (32, .bool b), (33, .bool b), (1500005, .obj 3 1 (List.map (AV.int .i64) w16)), (1500007, .obj 33 2 (List.map e_dpDep v20))]) (w27 != e25) (by kernel_rfl) (fun hb => ?_) (fun hb => ?_)
      · replace h := cond_t hb h
        obtain ⟨w28, hw28, h⟩ := bind_some h
        refine WO.callRK 2 (F := 74) (l := [.lst 33 2 none (snapA 0 n21 (List.map e_dpDep v20)), .clo 89 [.ptr (I6 e25)]]) (C := []) (args := [l33 none (snap 0 n21 v20), .clo 89 [.ptr (I6 e25)]]) (r := .bool w28) (by kernel_rfl) (by first | (simp only [snap_map, snap_full, snap_rep, List.cons_append, List.nil_append]; done) | (simp only [snap_map, snap_full, snap_rep, List.cons_append, List.nil_append]; kernel_rfl)) (by kernel_rfl) (by kernel_rfl) (run_sl_ContainsFunc_dpDep (snap 0 n21 v20) (fun y0 => dp_critical_2 y0 e25) 89 [.ptr (I6 e25)] (by kernel_rfl) (fun y0 r h => run_dp_critical_2 y0 e25 r h) w28 hw28) (e1 := [(1, .clo F_g2 C_g2), (7, .sb 1500007 33 2 0 n21), (9, .ptr (I6 e25)), (22, .sb 1500005 3 1 0 n14), (23, I6 ((n14 : Nat) : Int)), (24, I6 (k2 : Int)), (28, .clo F_g2 C_g2), (29, I6 e25), (30, I6 w27), (31, I6 e25), (32, .bool true), (33, .bool true), (34, .sb 1500007 33 2 0 n21), (35, .clo 89 [.ptr (I6 e25)]), (36, .bool w28), (1500005, .obj 3 1 (List.map (AV.int .i64) w16)), (1500007, .obj 33 2 (List.map e_dpDep v20))]) (by kernel_rfl) ?_
        refine WO.fin [1, 7, 9, 22, 23, 24, 38, 1500005, 1500007] [] [] [] (e2 := [(1, .clo F_g2 C_g2), (7, .sb 1500007 33 2 0 n21), (9, .ptr (I6 e25)), (22, .sb 1500005 3 1 0 n14), (23, I6 ((n14 : Nat) : Int)), (24, I6 (k2 : Int)), (38, .bool (!w28)), (1500005, .obj 3 1 (List.map (AV.int .i64) w16)), (1500007, .obj 33 2 (List.map e_dpDep v20))]) (by kernel_rfl) (fun _ h => h) ?_
        exact hK26 (!w28) h
      replace h := cond_f hb h
      refine WO.fin [1, 7, 9, 22, 23, 24, 38, 1500005, 1500007] [] [] [] (e2 := [(1, .clo F_g2 C_g2), (7, .sb 1500007 33 2 0 n21), (9, .ptr (I6 e25)), (22, .sb 1500005 3 1 0 n14), (23, I6 ((n14 : Nat) : Int)), (24, I6 (k2 : Int)), (38, .bool false), (1500005, .obj 3 1 (List.map (AV.int .i64) w16)), (1500007, .obj 33 2 (List.map e_dpDep v20))]) (by kernel_rfl) (fun _ h => h) ?_
      exact hK26 false h
  refine W.seq ?_
  refine W.region (by kernel_rfl) ?_
  obtain ⟨hc7, h⟩ := chk_some h
  refine WO.pureK 1 (if a1 < 0 then none else some (I6 (iShl .i64 1 a1))) (v := I6 (iShl .i64 1 a1)) (by kernel_rfl) (if_neg (not_lt_of_chk hc7)) (e1 := [(0, I6 a1), (1, .clo F_g2 C_g2), (5, .sb 1200005 3 1 0 (([] : (List Int)).length)), (10, I6 a1), (11, I6 (iShl .i64 1 a1)), (1200005, .obj 3 1 (List.map (AV.int .i64) ([] : (List Int))))]) (by kernel_rfl) ?_
  refine WO.fin [1, 5, 11, 12, 1200005] [] [] [] (e2 := [(1, .clo F_g2 C_g2), (5, .sb 1200005 3 1 0 (([] : (List Int)).length)), (11, I6 (iShl .i64 1 a1)), (12, .int .i64 0), (1200005, .obj 3 1 (List.map (AV.int .i64) ([] : (List Int))))]) (by kernel_rfl) (fun _ h => h) ?_
  refine W.block ?_
  obtain ⟨hl1, h⟩ := chk_some h
  refine W.weak [1, 5, 11, 12, 1200005] [] [] [] (env' := [(1, .clo F_g2 C_g2), (5, .sb 1200005 3 1 0 (([] : (List Int)).length)), (11, I6 (iShl .i64 1 a1)), (12, .int .i64 0), (1200005, .obj 3 1 (List.map (AV.int .i64) ([] : (List Int))))]) (by kernel_rfl) ?_
  refine W.mv [.ren 1200005 1500005] (env' := [(1, .clo F_g2 C_g2), (5, .sb 1500005 3 1 0 (([] : (List Int)).length)), (11, I6 (iShl .i64 1 a1)), (12, .int .i64 0), (1500005, .obj 3 1 (List.map (AV.int .i64) ([] : (List Int))))]) (by kernel_rfl) ?_
  refine W.weak [1, 5, 11, 12, 1500005] [] [] [] (env' := [(1, .clo F_g2 C_g2), (5, .sb 1500005 3 1 0 (([] : (List Int)).length)), (11, I6 (iShl .i64 1 a1)), (12, I6 ((0 : Nat) : Int)), (1500005, .obj 3 1 (List.map (AV.int .i64) ([] : (List Int))))]) (by kernel_rfl) ?_
  refine W.range (σ := ((List Int) × Nat)) (List.range (Int.toNat (iShl .i64 1 a1))) (fun k1 s => [(1, .clo F_g2 C_g2), (5, .sb 1500005 3 1 0 s.2), (11, I6 (iShl .i64 1 a1)), (12, I6 (k1 : Int)), (1500005, .obj 3 1 (List.map (AV.int .i64) s.1))]) (fun r0 k0 s => dp_critical_l1 (dp_critical_j5 fuel g2) r0 k0 s.1 s.2 = some r) (fun s h => ?_) (fun x1 r1 k1 s hx1 hk1 h hN1 => ?_) (([] : (List Int)), ([] : (List Int)).length) h
  · obtain ⟨v8, n9⟩ := s
    have h : dp_critical_l1 (dp_critical_j5 fuel g2) [] ((List.range (Int.toNat (iShl .i64 1 a1)))).length v8 n9 = some r := h
    rw [dp_critical_l1.eq_1] at h
    refine W.seq ?_
    refine W.region (by kernel_rfl) ?_
    refine WO.pureK 0 (some (.bool (decide ((((List.range (Int.toNat (iShl .i64 1 a1)))).length : Int) < (iShl .i64 1 a1))))) (v := .bool false) (by kernel_rfl) (by rw [ltr_false (n := (iShl .i64 1 a1))]) (e1 := [(1, .clo F_g2 C_g2), (5, .sb 1500005 3 1 0 n9), (11, I6 (iShl .i64 1 a1)), (12, I6 (((List.range (Int.toNat (iShl .i64 1 a1)))).length : Int)), (13, .bool false), (1500005, .obj 3 1 (List.map (AV.int .i64) v8))]) (by kernel_rfl) ?_
    refine WO.fin ([1, 5, 11, 12, 13, 1500005]) [] [] [] (e2 := [(1, .clo F_g2 C_g2), (5, .sb 1500005 3 1 0 n9), (11, I6 (iShl .i64 1 a1)), (12, I6 (((List.range (Int.toNat (iShl .i64 1 a1)))).length : Int)), (13, .bool false), (1500005, .obj 3 1 (List.map (AV.int .i64) v8))]) (by kernel_rfl) (fun _ h => h) ?_
    refine W.seq ?_
    refine W.condB false (by kernel_rfl) (fun h => Bool.noConfusion h) (fun _ => ?_)
    refine W.exit ?_
    refine W.weak [1, 5, 1500005] [] [] [] (env' := [(1, .clo F_g2 C_g2), (5, .sb 1500005 3 1 0 n9), (1500005, .obj 3 1 (List.map (AV.int .i64) v8))]) (by kernel_rfl) ?_
    exact hK5 (v8, n9) h
  · obtain ⟨v8, n9⟩ := s
    have h : dp_critical_l1 (dp_critical_j5 fuel g2) (x1 :: r1) k1 v8 n9 = some r := h
    rw [dp_critical_l1.eq_2] at h
    refine W.seq ?_
    refine W.region (by kernel_rfl) ?_
    refine WO.pureK 0 (some (.bool (decide ((k1 : Int) < (iShl .i64 1 a1))))) (v := .bool true) (by kernel_rfl) (by rw [ltr_true hk1]) (e1 := [(1, .clo F_g2 C_g2), (5, .sb 1500005 3 1 0 n9), (11, I6 (iShl .i64 1 a1)), (12, I6 (k1 : Int)), (13, .bool true), (1500005, .obj 3 1 (List.map (AV.int .i64) v8))]) (by kernel_rfl) ?_
    refine WO.fin ([1, 5, 11, 12, 13, 1500005]) [] [] [] (e2 := [(1, .clo F_g2 C_g2), (5, .sb 1500005 3 1 0 n9), (11, I6 (iShl .i64 1 a1)), (12, I6 (k1 : Int)), (13, .bool true), (1500005, .obj 3 1 (List.map (AV.int .i64) v8))]) (by kernel_rfl) (fun _ h => h) ?_
    refine W.seq ?_
    refine W.condB true (by kernel_rfl) (fun _ => ?_) (fun h => Bool.noConfusion h)
    refine W.skip ?_
    refine W.weak [1, 5, 11, 12, 1500005] [] [] [] (env' := [(1, .clo F_g2 C_g2), (5, .sb 1500005 3 1 0 n9), (11, I6 (iShl .i64 1 a1)), (12, I6 (k1 : Int)), (1500005, .obj 3 1 (List.map (AV.int .i64) v8))]) (by kernel_rfl) ?_
    refine W.seq ?_
    refine W.block ?_
    refine W.seq ?_
    refine W.regT [1, 5, 6, 11, 12, 1500005] [] [] [] (e2 := [(1, .clo F_g2 C_g2), (5, .sb 1500005 3 1 0 n9), (6, I6 (k1 : Int)), (11, I6 (iShl .i64 1 a1)), (12, I6 (k1 : Int)), (1500005, .obj 3 1 (List.map (AV.int .i64) v8))]) (by kernel_rfl) (by kernel_rfl) (fun _ h => h) ?_
    refine W.region (by kernel_rfl) ?_
    obtain ⟨hc12, h⟩ := chk_some h
    refine WO.appendOK 3 (d := 18) (e := 3) (s := 1) (bytes := 8) (m := n9) (n2 := (((snap 0 n9 v8) ++ [(k1 : Int)])).length) (xs := (List.map (AV.int .i64) v8)) (ys := (List.map (AV.int .i64) [(k1 : Int)])) (zs := (List.map (AV.int .i64) ((snap 0 n9 v8) ++ [(k1 : Int)]))) (env1 := [(1, .clo F_g2 C_g2), (5, .top), (6, I6 (k1 : Int)), (11, I6 (iShl .i64 1 a1)), (12, I6 (k1 : Int)), (15, .top), (16, I6 (k1 : Int)), (17, l3 (some 17) [(k1 : Int)])]) (by kernel_rfl) (by first | exact hc12 | (simp only [snap_map, List.length_map]; exact hc12)) (by simp only [snap_map, snap_full, snap_rep, List.map_append]) (List.length_map _) (e1 := [(1, .clo F_g2 C_g2), (5, .top), (6, I6 (k1 : Int)), (11, I6 (iShl .i64 1 a1)), (12, I6 (k1 : Int)), (15, .top), (16, I6 (k1 : Int)), (17, l3 (some 17) [(k1 : Int)]), (18, .sb 1000018 3 1 0 ((((snap 0 n9 v8) ++ [(k1 : Int)])).length)), (1000018, .obj 3 1 (List.map (AV.int .i64) ((snap 0 n9 v8) ++ [(k1 : Int)])))]) (by kernel_rfl) ?_
    refine WO.fin [1, 5, 11, 12, 1000018] [] [] [] (e2 := [(1, .clo F_g2 C_g2), (5, .sb 1000018 3 1 0 ((((snap 0 n9 v8) ++ [(k1 : Int)])).length)), (11, I6 (iShl .i64 1 a1)), (12, I6 (k1 : Int)), (1000018, .obj 3 1 (List.map (AV.int .i64) ((snap 0 n9 v8) ++ [(k1 : Int)])))]) (by kernel_rfl) (fun _ h => h) ?_
    refine W.region (by kernel_rfl) ?_
    refine WO.pureK 0 (some (I6 (IntKind.wrap .i64 ((k1 : Int) + 1)))) (v := I6 ((k1 + 1 : Nat) : Int)) (by kernel_rfl) (by rw [wrap_succ hl1 hk1]) (e1 := [(1, .clo F_g2 C_g2), (5, .sb 1000018 3 1 0 ((((snap 0 n9 v8) ++ [(k1 : Int)])).length)), (11, I6 (iShl .i64 1 a1)), (12, I6 (k1 : Int)), (19, I6 ((k1 + 1 : Nat) : Int)), (1000018, .obj 3 1 (List.map (AV.int .i64) ((snap 0 n9 v8) ++ [(k1 : Int)])))]) (by kernel_rfl) ?_
    refine WO.fin [1, 5, 11, 12, 1000018] [] [] [] (e2 := [(1, .clo F_g2 C_g2), (5, .sb 1000018 3 1 0 ((((snap 0 n9 v8) ++ [(k1 : Int)])).length)), (11, I6 (iShl .i64 1 a1)), (12, I6 ((k1 + 1 : Nat) : Int)), (1000018, .obj 3 1 (List.map (AV.int .i64) ((snap 0 n9 v8) ++ [(k1 : Int)])))]) (by kernel_rfl) (fun _ h => h) ?_
    refine W.mv [.ren 1000018 1500005] (env' := [(1, .clo F_g2 C_g2), (5, .sb 1500005 3 1 0 ((((snap 0 n9 v8) ++ [(k1 : Int)])).length)), (11, I6 (iShl .i64 1 a1)), (12, I6 ((k1 + 1 : Nat) : Int)), (1500005, .obj 3 1 (List.map (AV.int .i64) ((snap 0 n9 v8) ++ [(k1 : Int)])))]) (by kernel_rfl) ?_
    refine W.weak [1, 5, 11, 12, 1500005] [] [] [] (env' := [(1, .clo F_g2 C_g2), (5, .sb 1500005 3 1 0 ((((snap 0 n9 v8) ++ [(k1 : Int)])).length)), (11, I6 (iShl .i64 1 a1)), (12, I6 ((k1 + 1 : Nat) : Int)), (1500005, .obj 3 1 (List.map (AV.int .i64) ((snap 0 n9 v8) ++ [(k1 : Int)])))]) (by kernel_rfl) ?_
    exact hN1 (((snap 0 n9 v8) ++ [(k1 : Int)]), (((snap 0 n9 v8) ++ [(k1 : Int)])).length) h
def dp_Mine_1_j7 (v14 : Int) : Option Int :=
  (some v14)
def dp_Mine_1_j10 (N1 : (Int → Option Int)) (v13 : Int) : Option Int :=
  (N1 v13)
def dp_Mine_1_l1 (a1 : Int) (K7 : (Int → Option Int)) : List Int → Nat → Int → Option Int
  | [], k1, v9 => (K7 v9)
  | x1 :: r1, k1, v9 => (bif ((iAndNot .i64 a1 x1) == 0) then ((dp_Mine_1_j10 (dp_Mine_1_l1 a1 K7 r1 (k1 + 1))) (iAnd .i64 v9 x1)) else ((dp_Mine_1_j10 (dp_Mine_1_l1 a1 K7 r1 (k1 + 1))) v9))
def dp_Mine_1 (a1 : Int) (c2 : Int) (c3 : (List Int)) : Option Int :=
  (chk (decide (0 ≤ c2)) (chk (lenOk c3) (dp_Mine_1_l1 a1 (dp_Mine_1_j7) c3 0 (IntKind.wrap .i64 ((iShl .i64 1 c2) - 1)))))
theorem run_dp_Mine_1 (a1 : Int) (c2 : Int) (c3 : (List Int)) (r : Int) (h : dp_Mine_1 a1 c2 c3 = some r) : Run Try.prog (.call 72 [I6 a1, .ptr (I6 c2), .ptr (l3 none c3)] (I6 r)) := by
  refine call_of_W Try.func72 rfl (by kernel_rfl) (env0 := [(0, I6 a1), (1, .ptr (I6 c2)), (2, .ptr (l3 none c3))]) (by kernel_rfl) ?_
  unfold dp_Mine_1 at h
  refine W.seq ?_
  refine W.regT [0, 1, 2] [] [] [] (e2 := [(0, I6 a1), (1, .ptr (I6 c2)), (2, .ptr (l3 none c3))]) (by kernel_rfl) (by kernel_rfl) (fun _ h => h) ?_
  refine W.seq ?_
  refine W.region (by kernel_rfl) ?_
  obtain ⟨hc6, h⟩ := chk_some h
  refine WO.pureK 1 (if c2 < 0 then none else some (I6 (iShl .i64 1 c2))) (v := I6 (iShl .i64 1 c2)) (by kernel_rfl) (if_neg (not_lt_of_chk hc6)) (e1 := [(0, I6 a1), (1, .ptr (I6 c2)), (2, .ptr (l3 none c3)), (8, I6 c2), (9, I6 (iShl .i64 1 c2))]) (by kernel_rfl) ?_
  refine WO.fin [0, 2, 5] [] [] [] (e2 := [(0, I6 a1), (2, .ptr (l3 none c3)), (5, I6 (W6 ((iShl .i64 1 c2) - 1)))]) (by kernel_rfl) (fun _ h => h) ?_
  refine W.seq ?_
  refine W.join (σ := (Int)) (fun s => [(5, I6 s)]) (fun s => (dp_Mine_1_j7) s = some r) (fun s h => ?_) (fun hK7 => ?_)
  · obtain ⟨v14, rfl⟩ : ∃ x, x = s := ⟨s, rfl⟩
    have h : (dp_Mine_1_j7) v14 = some r := h
    unfold dp_Mine_1_j7 at h
    refine W.seq ?_
    refine W.regT [4] [] [] [] (e2 := [(4, I6 v14)]) (by kernel_rfl) (by kernel_rfl) (fun _ h => h) ?_
    refine W.weak [4] [] [] [] (env' := [(4, I6 v14)]) (by kernel_rfl) ?_
    have hr : aresults Try.prog Try.f72 [(4, I6 v14)] = some (I6 v14) := by kernel_rfl
    cases h
    exact W.ret hr
  refine W.seq ?_
  refine W.region (by kernel_rfl) ?_
  refine WO.pureK 1 (some (I6 ((List.map (AV.int .i64) c3).length : Int))) (v := I6 (c3.length : Int)) (by kernel_rfl) (by rw [List.length_map]) (e1 := [(0, I6 a1), (2, .ptr (l3 none c3)), (5, I6 (W6 ((iShl .i64 1 c2) - 1))), (11, l3 none c3), (12, I6 (c3.length : Int))]) (by kernel_rfl) ?_
  refine WO.fin [0, 5, 11, 12, 13] [] [] [] (e2 := [(0, I6 a1), (5, I6 (W6 ((iShl .i64 1 c2) - 1))), (11, l3 none c3), (12, I6 (c3.length : Int)), (13, .int .i64 0)]) (by kernel_rfl) (fun _ h => h) ?_
  refine W.block ?_
  obtain ⟨hl1, h⟩ := chk_some h
  refine W.weak [0, 5, 11, 12, 13] [] [] [] (env' := [(0, I6 a1), (5, I6 (W6 ((iShl .i64 1 c2) - 1))), (11, l3 none c3), (12, I6 (c3.length : Int)), (13, I6 ((0 : Nat) : Int))]) (by kernel_rfl) ?_
  refine W.range (σ := (Int)) c3 (fun k1 s => [(0, I6 a1), (5, I6 s), (11, l3 none c3), (12, I6 (c3.length : Int)), (13, I6 (k1 : Int))]) (fun r0 k0 s => dp_Mine_1_l1 a1 (dp_Mine_1_j7) r0 k0 s = some r) (fun s h => ?_) (fun x1 r1 k1 s hx1 hk1 h hN1 => ?_) (W6 ((iShl .i64 1 c2) - 1)) h
  · obtain ⟨v9, rfl⟩ : ∃ x, x = s := ⟨s, rfl⟩
    have h : dp_Mine_1_l1 a1 (dp_Mine_1_j7) [] (c3).length v9 = some r := h
    rw [dp_Mine_1_l1.eq_1] at h
    refine W.seq ?_
    refine W.region (by kernel_rfl) ?_
    refine WO.pureK 0 (some (.bool (decide (((c3).length : Int) < (c3.length : Int))))) (v := .bool false) (by kernel_rfl) (by rw [lt_false (l := c3)]) (e1 := [(0, I6 a1), (5, I6 v9), (11, l3 none c3), (12, I6 (c3.length : Int)), (13, I6 ((c3).length : Int)), (14, .bool false)]) (by kernel_rfl) ?_
    refine WO.fin ([0, 5, 11, 12, 13, 14]) [] [] [] (e2 := [(0, I6 a1), (5, I6 v9), (11, l3 none c3), (12, I6 (c3.length : Int)), (13, I6 ((c3).length : Int)), (14, .bool false)]) (by kernel_rfl) (fun _ h => h) ?_
    refine W.seq ?_
    refine W.condB false (by kernel_rfl) (fun h => Bool.noConfusion h) (fun _ => ?_)
    refine W.exit ?_
    refine W.weak [5] [] [] [] (env' := [(5, I6 v9)]) (by kernel_rfl) ?_
    exact hK7 v9 h
  · obtain ⟨v9, rfl⟩ : ∃ x, x = s := ⟨s, rfl⟩
    have h : dp_Mine_1_l1 a1 (dp_Mine_1_j7) (x1 :: r1) k1 v9 = some r := h
    rw [dp_Mine_1_l1.eq_2] at h
    refine W.seq ?_
    refine W.region (by kernel_rfl) ?_
    refine WO.pureK 0 (some (.bool (decide ((k1 : Int) < (c3.length : Int))))) (v := .bool true) (by kernel_rfl) (by rw [lt_true hk1]) (e1 := [(0, I6 a1), (5, I6 v9), (11, l3 none c3), (12, I6 (c3.length : Int)), (13, I6 (k1 : Int)), (14, .bool true)]) (by kernel_rfl) ?_
    refine WO.fin ([0, 5, 11, 12, 13, 14]) [] [] [] (e2 := [(0, I6 a1), (5, I6 v9), (11, l3 none c3), (12, I6 (c3.length : Int)), (13, I6 (k1 : Int)), (14, .bool true)]) (by kernel_rfl) (fun _ h => h) ?_
    refine W.seq ?_
    refine W.condB true (by kernel_rfl) (fun _ => ?_) (fun h => Bool.noConfusion h)
    refine W.skip ?_
    refine W.weak [0, 5, 11, 12, 13] [] [] [] (env' := [(0, I6 a1), (5, I6 v9), (11, l3 none c3), (12, I6 (c3.length : Int)), (13, I6 (k1 : Int))]) (by kernel_rfl) ?_
    refine W.seq ?_
    refine W.join (σ := (Int)) (fun s => [(0, I6 a1), (5, I6 s), (11, l3 none c3), (12, I6 (c3.length : Int)), (13, I6 (k1 : Int))]) (fun s => (dp_Mine_1_j10 (dp_Mine_1_l1 a1 (dp_Mine_1_j7) r1 (k1 + 1))) s = some r) (fun s h => ?_) (fun hK10 => ?_)
    · obtain ⟨v13, rfl⟩ : ∃ x, x = s := ⟨s, rfl⟩
      have h : (dp_Mine_1_j10 (dp_Mine_1_l1 a1 (dp_Mine_1_j7) r1 (k1 + 1))) v13 = some r := h
      unfold dp_Mine_1_j10 at h
      refine W.region (by kernel_rfl) ?_
      refine WO.pureK 0 (some (I6 (IntKind.wrap .i64 ((k1 : Int) + 1)))) (v := I6 ((k1 + 1 : Nat) : Int)) (by kernel_rfl) (by rw [wrap_succ hl1 hk1]) (e1 := [(0, I6 a1), (5, I6 v13), (11, l3 none c3), (12, I6 (c3.length : Int)), (13, I6 (k1 : Int)), (24, I6 ((k1 + 1 : Nat) : Int))]) (by kernel_rfl) ?_
      refine WO.fin [0, 5, 11, 12, 13] [] [] [] (e2 := [(0, I6 a1), (5, I6 v13), (11, l3 none c3), (12, I6 (c3.length : Int)), (13, I6 ((k1 + 1 : Nat) : Int))]) (by kernel_rfl) (fun _ h => h) ?_
      exact hN1 v13 h
    refine W.block ?_
    refine W.seq ?_
    refine W.region (by kernel_rfl) ?_
    refine WO.pureK 0 (if (0 : Int) ≤ (k1 : Int) then ((List.map (AV.int .i64) c3)[Int.toNat (k1 : Int)]?).map AV.ptr else none) (v := .ptr (I6 x1)) (by kernel_rfl) (idx_nat (f := (AV.int .i64)) hx1) (e1 := [(0, I6 a1), (5, I6 v9), (11, l3 none c3), (12, I6 (c3.length : Int)), (13, I6 (k1 : Int)), (15, .ptr (I6 x1))]) (by kernel_rfl) ?_
    refine WO.fin [0, 5, 7, 11, 12, 13] [] [] [] (e2 := [(0, I6 a1), (5, I6 v9), (7, I6 x1), (11, l3 none c3), (12, I6 (c3.length : Int)), (13, I6 (k1 : Int))]) (by kernel_rfl) (fun _ h => h) ?_
    refine W.seq ?_
    refine W.regT [0, 5, 7, 11, 12, 13, 20] [] [] [] (e2 := [(0, I6 a1), (5, I6 v9), (7, I6 x1), (11, l3 none c3), (12, I6 (c3.length : Int)), (13, I6 (k1 : Int)), (20, .bool ((iAndNot .i64 a1 x1) == 0))]) (by kernel_rfl) (by kernel_rfl) (fun _ h => h) ?_
    refine W.condB ((iAndNot .i64 a1 x1) == 0) (by kernel_rfl) (fun hb => ?_) (fun hb => ?_)
    · replace h := cond_t hb h
      refine W.regT [0, 5, 11, 12, 13] [] [] [] (e2 := [(0, I6 a1), (5, I6 (iAnd .i64 v9 x1)), (11, l3 none c3), (12, I6 (c3.length : Int)), (13, I6 (k1 : Int))]) (by kernel_rfl) (by kernel_rfl) (fun _ h => h) ?_
      exact hK10 (iAnd .i64 v9 x1) h
    replace h := cond_f hb h
    refine W.skip ?_
    refine W.weak [0, 5, 11, 12, 13] [] [] [] (env' := [(0, I6 a1), (5, I6 v9), (11, l3 none c3), (12, I6 (c3.length : Int)), (13, I6 (k1 : Int))]) (by kernel_rfl) ?_
    exact hK10 v9 h
def dp_Mine_j9 (fuel : Nat) (a1 : Int) (v22 : (List Int)) : Option ((List dpDep) × Int) :=
  ((dp_critical fuel a1 (fun y0 => dp_Mine_1 y0 a1 v22)).bind fun w24 => (some (w24, 0)))
def dp_Mine_j12 (N1 : ((List Int) → Option ((List dpDep) × Int))) (v21 : (List Int)) : Option ((List dpDep) × Int) :=
  (N1 v21)
def dp_Mine_l2 (x1 : (List Int)) (K12 : ((List Int) → Option ((List dpDep) × Int))) : List (List Int) → Nat → (List Int) → Option ((List dpDep) × Int)
  | [], k2, v16 => (K12 v16)
  | x2 :: r2, k2, v16 => ((dp_agree x1 x2).bind fun w19 => (chk (capOk 8 ((v16 ++ [w19])).length) ((dp_Mine_l2 x1 K12 r2 (k2 + 1)) (v16 ++ [w19]))))
def dp_Mine_l1 (a2 : (List (List Int))) (K9 : ((List Int) → Option ((List dpDep) × Int))) : List (List Int) → Nat → (List Int) → Option ((List dpDep) × Int)
  | [], k1, v11 => (K9 v11)
  | x1 :: r1, k1, v11 => ((sub a2 0 (k1 : Int)).bind fun e15 => (chk (lenOk e15) (dp_Mine_l2 x1 (dp_Mine_j12 (dp_Mine_l1 a2 K9 r1 (k1 + 1))) e15 0 v11)))
def dp_Mine (fuel : Nat) (a1 : Int) (a2 : (List (List Int))) : Option ((List dpDep) × Int) :=
  ((dp_table a1 a2).bind fun w6 => (bif (!w6) then (some (([] : (List dpDep)), 2)) else (chk (lenOk a2) (dp_Mine_l1 a2 (dp_Mine_j9 fuel a1) a2 0 ([] : (List Int))))))
theorem run_dp_Mine (fuel : Nat) (a1 : Int) (a2 : (List (List Int))) (r : ((List dpDep) × Int)) (h : dp_Mine fuel a1 a2 = some r) : Run Try.prog (.call 54 [I6 a1, l35 none a2] (.tup [l33 none r.1, I6 r.2])) := by
  refine call_of_W Try.func54 rfl (by kernel_rfl) (env0 := [(0, I6 a1), (1, l35 none a2)]) (by kernel_rfl) ?_
  unfold dp_Mine at h
  refine W.seq ?_
  refine W.regT [1, 2] [2] [] [] (e2 := [(1, l35 none a2), (2, .ptr (I6 a1))]) (by kernel_rfl) (by kernel_rfl) (fun _ h => h) ?_
  refine W.seq ?_
  refine W.seq ?_
  refine W.region (by kernel_rfl) ?_
  obtain ⟨w6, hw6, h⟩ := bind_some h
  refine WO.callK 2 (F := 65) (l := [I6 a1, l35 none a2]) (C := []) (r := .bool w6) (by kernel_rfl) (by kernel_rfl) (run_dp_table a1 a2 w6 hw6) (e1 := [(1, l35 none a2), (2, .ptr (I6 a1)), (11, I6 a1), (12, l35 none a2), (13, .bool w6)]) (by kernel_rfl) ?_
  refine WO.fin [1, 2, 14] [] [] [] (e2 := [(1, l35 none a2), (2, .ptr (I6 a1)), (14, .bool (!w6))]) (by kernel_rfl) (fun _ h => h) ?_
  refine W.condB (!w6) (by kernel_rfl) (fun hb => ?_) (fun hb => ?_)
  · replace h := cond_t hb h
    refine W.seq ?_
    refine W.regT [4, 5] [] [] [] (e2 := [(4, .nils), (5, .int .i64 2)]) (by kernel_rfl) (by kernel_rfl) (fun _ h => h) ?_
    refine W.weak [4, 5] [] [(4, 0, 33, 2, 70004)] [] (env' := [(4, l33 (some 70004) ([] : (List dpDep))), (5, .int .i64 2)]) (by kernel_rfl) ?_
    have hr : aresults Try.prog Try.f54 [(4, l33 (some 70004) ([] : (List dpDep))), (5, .int .i64 2)] = some (.tup [l33 none ([] : (List dpDep)), .int .i64 2]) := by kernel_rfl
    cases h
    exact W.ret hr
  replace h := cond_f hb h
  refine W.skip ?_
  refine W.weak [1, 2] [] [] [] (env' := [(1, l35 none a2), (2, .ptr (I6 a1))]) (by kernel_rfl) ?_
  refine W.seq ?_
  refine W.regT [1, 2, 6] [] [] [] (e2 := [(1, l35 none a2), (2, .ptr (I6 a1)), (6, .box [.nils])]) (by kernel_rfl) (by kernel_rfl) (fun _ h => h) ?_
  refine W.seq ?_
  refine W.join (σ := ((List Int))) (fun s => [(2, .ptr (I6 a1)), (6, .ptr (l3 none s))]) (fun s => (dp_Mine_j9 fuel a1) s = some r) (fun s h => ?_) (fun hK9 => ?_)
  · obtain ⟨v22, rfl⟩ : ∃ x, x = s := ⟨s, rfl⟩
    have h : (dp_Mine_j9 fuel a1) v22 = some r := h
    unfold dp_Mine_j9 at h
    refine W.seq ?_
    refine W.region (by kernel_rfl) ?_
    obtain ⟨w24, hw24, h⟩ := bind_some h
    refine WO.callK 2 (F := 70) (l := [I6 a1, .clo 72 [.ptr (I6 a1), .ptr (l3 none v22)]]) (C := []) (r := l33 none w24) (by kernel_rfl) (by kernel_rfl) (run_dp_critical fuel a1 (fun y0 => dp_Mine_1 y0 a1 v22) 72 [.ptr (I6 a1), .ptr (l3 none v22)] (by kernel_rfl) (fun y0 r h => run_dp_Mine_1 y0 a1 v22 r h) w24 hw24) (e1 := [(2, .ptr (I6 a1)), (6, .ptr (l3 none v22)), (38, I6 a1), (39, .clo 72 [.ptr (I6 a1), .ptr (l3 none v22)]), (40, l33 none w24)]) (by kernel_rfl) ?_
    refine WO.fin [4, 5] [] [] [] (e2 := [(4, l33 none w24), (5, .int .i64 0)]) (by kernel_rfl) (fun _ h => h) ?_
    refine W.weak [4, 5] [] [] [] (env' := [(4, l33 none w24), (5, .int .i64 0)]) (by kernel_rfl) ?_
    have hr : aresults Try.prog Try.f54 [(4, l33 none w24), (5, .int .i64 0)] = some (.tup [l33 none w24, .int .i64 0]) := by kernel_rfl
    cases h
    exact W.ret hr
  refine W.seq ?_
  refine W.region (by kernel_rfl) ?_
  refine WO.pureK 1 (some (I6 ((List.map (encL 3 1 (AV.int .i64)) a2).length : Int))) (v := I6 (a2.length : Int)) (by kernel_rfl) (by rw [List.length_map]) (e1 := [(1, l35 none a2), (2, .ptr (I6 a1)), (6, .box [.nils]), (15, l35 none a2), (16, I6 (a2.length : Int))]) (by kernel_rfl) ?_
  refine WO.fin [1, 2, 6, 15, 16, 17] [] [] [] (e2 := [(1, l35 none a2), (2, .ptr (I6 a1)), (6, .box [.nils]), (15, l35 none a2), (16, I6 (a2.length : Int)), (17, .int .i64 0)]) (by kernel_rfl) (fun _ h => h) ?_
  refine W.block ?_
  obtain ⟨hl1, h⟩ := chk_some h
  refine W.weak [1, 2, 6, 15, 16, 17] [] [(6, 0, 3, 1, 10600)] [] (env' := [(1, l35 none a2), (2, .ptr (I6 a1)), (6, .box [l3 (some 10600) ([] : (List Int))]), (15, l35 none a2), (16, I6 (a2.length : Int)), (17, I6 ((0 : Nat) : Int))]) (by kernel_rfl) ?_
  refine W.range (σ := ((List Int))) a2 (fun k1 s => [(1, l35 none a2), (2, .ptr (I6 a1)), (6, .box [l3 (some 10600) s]), (15, l35 none a2), (16, I6 (a2.length : Int)), (17, I6 (k1 : Int))]) (fun r0 k0 s => dp_Mine_l1 a2 (dp_Mine_j9 fuel a1) r0 k0 s = some r) (fun s h => ?_) (fun x1 r1 k1 s hx1 hk1 h hN1 => ?_) ([] : (List Int)) h
  · obtain ⟨v11, rfl⟩ : ∃ x, x = s := ⟨s, rfl⟩
    have h : dp_Mine_l1 a2 (dp_Mine_j9 fuel a1) [] (a2).length v11 = some r := h
    rw [dp_Mine_l1.eq_1] at h
    refine W.seq ?_
    refine W.region (by kernel_rfl) ?_
    refine WO.pureK 0 (some (.bool (decide (((a2).length : Int) < (a2.length : Int))))) (v := .bool false) (by kernel_rfl) (by rw [lt_false (l := a2)]) (e1 := [(1, l35 none a2), (2, .ptr (I6 a1)), (6, .box [l3 (some 10600) v11]), (15, l35 none a2), (16, I6 (a2.length : Int)), (17, I6 ((a2).length : Int)), (18, .bool false)]) (by kernel_rfl) ?_
    refine WO.fin ([1, 2, 6, 15, 16, 17, 18]) [] [] [] (e2 := [(1, l35 none a2), (2, .ptr (I6 a1)), (6, .box [l3 (some 10600) v11]), (15, l35 none a2), (16, I6 (a2.length : Int)), (17, I6 ((a2).length : Int)), (18, .bool false)]) (by kernel_rfl) (fun _ h => h) ?_
    refine W.seq ?_
    refine W.condB false (by kernel_rfl) (fun h => Bool.noConfusion h) (fun _ => ?_)
    refine W.exit ?_
    refine W.weak [2, 6] [6] [] [] (env' := [(2, .ptr (I6 a1)), (6, .ptr (l3 none v11))]) (by kernel_rfl) ?_
    exact hK9 v11 h
  · obtain ⟨v11, rfl⟩ : ∃ x, x = s := ⟨s, rfl⟩
    have h : dp_Mine_l1 a2 (dp_Mine_j9 fuel a1) (x1 :: r1) k1 v11 = some r := h
    rw [dp_Mine_l1.eq_2] at h
    refine W.seq ?_
    refine W.region (by kernel_rfl) ?_
    refine WO.pureK 0 (some (.bool (decide ((k1 : Int) < (a2.length : Int))))) (v := .bool true) (by kernel_rfl) (by rw [lt_true hk1]) (e1 := [(1, l35 none a2), (2, .ptr (I6 a1)), (6, .box [l3 (some 10600) v11]), (15, l35 none a2), (16, I6 (a2.length : Int)), (17, I6 (k1 : Int)), (18, .bool true)]) (by kernel_rfl) ?_
    refine WO.fin ([1, 2, 6, 15, 16, 17, 18]) [] [] [] (e2 := [(1, l35 none a2), (2, .ptr (I6 a1)), (6, .box [l3 (some 10600) v11]), (15, l35 none a2), (16, I6 (a2.length : Int)), (17, I6 (k1 : Int)), (18, .bool true)]) (by kernel_rfl) (fun _ h => h) ?_
    refine W.seq ?_
    refine W.condB true (by kernel_rfl) (fun _ => ?_) (fun h => Bool.noConfusion h)
    refine W.skip ?_
    refine W.weak [1, 2, 6, 15, 16, 17] [] [] [] (env' := [(1, l35 none a2), (2, .ptr (I6 a1)), (6, .box [l3 (some 10600) v11]), (15, l35 none a2), (16, I6 (a2.length : Int)), (17, I6 (k1 : Int))]) (by kernel_rfl) ?_
    refine W.seq ?_
    refine W.join (σ := ((List Int))) (fun s => [(1, l35 none a2), (2, .ptr (I6 a1)), (6, .box [l3 (some 10600) s]), (15, l35 none a2), (16, I6 (a2.length : Int)), (17, I6 (k1 : Int))]) (fun s => (dp_Mine_j12 (dp_Mine_l1 a2 (dp_Mine_j9 fuel a1) r1 (k1 + 1))) s = some r) (fun s h => ?_) (fun hK12 => ?_)
    · obtain ⟨v21, rfl⟩ : ∃ x, x = s := ⟨s, rfl⟩
      have h : (dp_Mine_j12 (dp_Mine_l1 a2 (dp_Mine_j9 fuel a1) r1 (k1 + 1))) v21 = some r := h
      unfold dp_Mine_j12 at h
      refine W.region (by kernel_rfl) ?_
      refine WO.pureK 0 (some (I6 (IntKind.wrap .i64 ((k1 : Int) + 1)))) (v := I6 ((k1 + 1 : Nat) : Int)) (by kernel_rfl) (by rw [wrap_succ hl1 hk1]) (e1 := [(1, l35 none a2), (2, .ptr (I6 a1)), (6, .box [l3 (some 10600) v21]), (15, l35 none a2), (16, I6 (a2.length : Int)), (17, I6 (k1 : Int)), (37, I6 ((k1 + 1 : Nat) : Int))]) (by kernel_rfl) ?_
      refine WO.fin [1, 2, 6, 15, 16, 17] [] [] [] (e2 := [(1, l35 none a2), (2, .ptr (I6 a1)), (6, .box [l3 (some 10600) v21]), (15, l35 none a2), (16, I6 (a2.length : Int)), (17, I6 ((k1 + 1 : Nat) : Int))]) (by kernel_rfl) (fun _ h => h) ?_
      exact hN1 v21 h
    refine W.block ?_
    refine W.seq ?_
    refine W.region (by kernel_rfl) ?_
    refine WO.pureK 1 (if (0 : Int) ≤ (k1 : Int) then ((List.map (encL 3 1 (AV.int .i64)) a2)[Int.toNat (k1 : Int)]?).map AV.ptr else none) (v := .ptr (l3 none x1)) (by kernel_rfl) (idx_nat (f := (encL 3 1 (AV.int .i64))) hx1) (e1 := [(1, l35 none a2), (2, .ptr (I6 a1)), (6, .box [l3 (some 10600) v11]), (15, l35 none a2), (16, I6 (a2.length : Int)), (17, I6 (k1 : Int)), (19, I6 (k1 : Int)), (20, .ptr (l3 none x1))]) (by kernel_rfl) ?_
    refine WO.fin [1, 2, 6, 7, 8, 15, 16, 17] [] [] [] (e2 := [(1, l35 none a2), (2, .ptr (I6 a1)), (6, .box [l3 (some 10600) v11]), (7, I6 (k1 : Int)), (8, l3 none x1), (15, l35 none a2), (16, I6 (a2.length : Int)), (17, I6 (k1 : Int))]) (by kernel_rfl) (fun _ h => h) ?_
    refine W.seq ?_
    refine W.region (by kernel_rfl) ?_
    obtain ⟨e15, he15, h⟩ := bind_some h
    refine WO.pureK 2 (if (0 : Int) ≤ 0 ∧ 0 ≤ (k1 : Int) ∧ (k1 : Int) ≤ ((List.map (encL 3 1 (AV.int .i64)) a2).length : Int) then some (.lst 35 1 none (((List.map (encL 3 1 (AV.int .i64)) a2).take (Int.toNat (k1 : Int))).drop (Int.toNat 0))) else none) (v := l35 none e15) (by kernel_rfl) (sub_av he15) (e1 := [(1, l35 none a2), (2, .ptr (I6 a1)), (6, .box [l3 (some 10600) v11]), (7, I6 (k1 : Int)), (8, l3 none x1), (15, l35 none a2), (16, I6 (a2.length : Int)), (17, I6 (k1 : Int)), (22, l35 none a2), (23, I6 (k1 : Int)), (24, l35 none e15)]) (by kernel_rfl) ?_
    refine WO.pureK 0 (some (I6 ((List.map (encL 3 1 (AV.int .i64)) e15).length : Int))) (v := I6 (e15.length : Int)) (by kernel_rfl) (by rw [List.length_map]) (e1 := [(1, l35 none a2), (2, .ptr (I6 a1)), (6, .box [l3 (some 10600) v11]), (7, I6 (k1 : Int)), (8, l3 none x1), (15, l35 none a2), (16, I6 (a2.length : Int)), (17, I6 (k1 : Int)), (22, l35 none a2), (23, I6 (k1 : Int)), (24, l35 none e15), (25, I6 (e15.length : Int))]) (by kernel_rfl) ?_
    refine WO.fin [1, 2, 6, 8, 15, 16, 17, 24, 25, 26] [] [] [] (e2 := [(1, l35 none a2), (2, .ptr (I6 a1)), (6, .box [l3 (some 10600) v11]), (8, l3 none x1), (15, l35 none a2), (16, I6 (a2.length : Int)), (17, I6 (k1 : Int)), (24, l35 none e15), (25, I6 (e15.length : Int)), (26, .int .i64 0)]) (by kernel_rfl) (fun _ h => h) ?_
    refine W.block ?_
    obtain ⟨hl2, h⟩ := chk_some h
    refine W.weak [1, 2, 6, 8, 15, 16, 17, 24, 25, 26] [] [] [] (env' := [(1, l35 none a2), (2, .ptr (I6 a1)), (6, .box [l3 (some 10600) v11]), (8, l3 none x1), (15, l35 none a2), (16, I6 (a2.length : Int)), (17, I6 (k1 : Int)), (24, l35 none e15), (25, I6 (e15.length : Int)), (26, I6 ((0 : Nat) : Int))]) (by kernel_rfl) ?_
    refine W.range (σ := ((List Int))) e15 (fun k2 s => [(1, l35 none a2), (2, .ptr (I6 a1)), (6, .box [l3 (some 10600) s]), (8, l3 none x1), (15, l35 none a2), (16, I6 (a2.length : Int)), (17, I6 (k1 : Int)), (24, l35 none e15), (25, I6 (e15.length : Int)), (26, I6 (k2 : Int))]) (fun r0 k0 s => dp_Mine_l2 x1 (dp_Mine_j12 (dp_Mine_l1 a2 (dp_Mine_j9 fuel a1) r1 (k1 + 1))) r0 k0 s = some r) (fun s h => ?_) (fun x2 r2 k2 s hx2 hk2 h hN2 => ?_) v11 h
    · obtain ⟨v16, rfl⟩ : ∃ x, x = s := ⟨s, rfl⟩
      have h : dp_Mine_l2 x1 (dp_Mine_j12 (dp_Mine_l1 a2 (dp_Mine_j9 fuel a1) r1 (k1 + 1))) [] (e15).length v16 = some r := h
      rw [dp_Mine_l2.eq_1] at h
      refine W.seq ?_
      refine W.region (by kernel_rfl) ?_
      refine WO.pureK 0 (some (.bool (decide (((e15).length : Int) < (e15.length : Int))))) (v := .bool false) (by kernel_rfl) (by rw [lt_false (l := e15)]) (e1 := [(1, l35 none a2), (2, .ptr (I6 a1)), (6, .box [l3 (some 10600) v16]), (8, l3 none x1), (15, l35 none a2), (16, I6 (a2.length : Int)), (17, I6 (k1 : Int)), (24, l35 none e15), (25, I6 (e15.length : Int)), (26, I6 ((e15).length : Int)), (27, .bool false)]) (by kernel_rfl) ?_
      refine WO.fin ([1, 2, 6, 8, 15, 16, 17, 24, 25, 26, 27]) [] [] [] (e2 := [(1, l35 none a2), (2, .ptr (I6 a1)), (6, .box [l3 (some 10600) v16]), (8, l3 none x1), (15, l35 none a2), (16, I6 (a2.length : Int)), (17, I6 (k1 : Int)), (24, l35 none e15), (25, I6 (e15.length : Int)), (26, I6 ((e15).length : Int)), (27, .bool false)]) (by kernel_rfl) (fun _ h => h) ?_
      refine W.seq ?_
      refine W.condB false (by kernel_rfl) (fun h => Bool.noConfusion h) (fun _ => ?_)
      refine W.exit ?_
      refine W.weak [1, 2, 6, 15, 16, 17] [] [] [] (env' := [(1, l35 none a2), (2, .ptr (I6 a1)), (6, .box [l3 (some 10600) v16]), (15, l35 none a2), (16, I6 (a2.length : Int)), (17, I6 (k1 : Int))]) (by kernel_rfl) ?_
      exact hK12 v16 h
    · obtain ⟨v16, rfl⟩ : ∃ x, x = s := ⟨s, rfl⟩
      have h : dp_Mine_l2 x1 (dp_Mine_j12 (dp_Mine_l1 a2 (dp_Mine_j9 fuel a1) r1 (k1 + 1))) (x2 :: r2) k2 v16 = some r := h
      rw [dp_Mine_l2.eq_2] at h
      refine W.seq ?_
      refine W.region (by kernel_rfl) ?_
      refine WO.pureK 0 (some (.bool (decide ((k2 : Int) < (e15.length : Int))))) (v := .bool true) (by kernel_rfl) (by rw [lt_true hk2]) (e1 := [(1, l35 none a2), (2, .ptr (I6 a1)), (6, .box [l3 (some 10600) v16]), (8, l3 none x1), (15, l35 none a2), (16, I6 (a2.length : Int)), (17, I6 (k1 : Int)), (24, l35 none e15), (25, I6 (e15.length : Int)), (26, I6 (k2 : Int)), (27, .bool true)]) (by kernel_rfl) ?_
      refine WO.fin ([1, 2, 6, 8, 15, 16, 17, 24, 25, 26, 27]) [] [] [] (e2 := [(1, l35 none a2), (2, .ptr (I6 a1)), (6, .box [l3 (some 10600) v16]), (8, l3 none x1), (15, l35 none a2), (16, I6 (a2.length : Int)), (17, I6 (k1 : Int)), (24, l35 none e15), (25, I6 (e15.length : Int)), (26, I6 (k2 : Int)), (27, .bool true)]) (by kernel_rfl) (fun _ h => h) ?_
      refine W.seq ?_
      refine W.condB true (by kernel_rfl) (fun _ => ?_) (fun h => Bool.noConfusion h)
      refine W.skip ?_
      refine W.weak [1, 2, 6, 8, 15, 16, 17, 24, 25, 26] [] [] [] (env' := [(1, l35 none a2), (2, .ptr (I6 a1)), (6, .box [l3 (some 10600) v16]), (8, l3 none x1), (15, l35 none a2), (16, I6 (a2.length : Int)), (17, I6 (k1 : Int)), (24, l35 none e15), (25, I6 (e15.length : Int)), (26, I6 (k2 : Int))]) (by kernel_rfl) ?_
      refine W.seq ?_
      refine W.block ?_
      refine W.seq ?_
      refine W.region (by kernel_rfl) ?_
      refine WO.pureK 0 (if (0 : Int) ≤ (k2 : Int) then ((List.map (encL 3 1 (AV.int .i64)) e15)[Int.toNat (k2 : Int)]?).map AV.ptr else none) (v := .ptr (l3 none x2)) (by kernel_rfl) (idx_nat (f := (encL 3 1 (AV.int .i64))) hx2) (e1 := [(1, l35 none a2), (2, .ptr (I6 a1)), (6, .box [l3 (some 10600) v16]), (8, l3 none x1), (15, l35 none a2), (16, I6 (a2.length : Int)), (17, I6 (k1 : Int)), (24, l35 none e15), (25, I6 (e15.length : Int)), (26, I6 (k2 : Int)), (28, .ptr (l3 none x2))]) (by kernel_rfl) ?_
      refine WO.fin [1, 2, 6, 8, 10, 15, 16, 17, 24, 25, 26] [] [] [] (e2 := [(1, l35 none a2), (2, .ptr (I6 a1)), (6, .box [l3 (some 10600) v16]), (8, l3 none x1), (10, l3 none x2), (15, l35 none a2), (16, I6 (a2.length : Int)), (17, I6 (k1 : Int)), (24, l35 none e15), (25, I6 (e15.length : Int)), (26, I6 (k2 : Int))]) (by kernel_rfl) (fun _ h => h) ?_
      refine W.region (by kernel_rfl) ?_
      obtain ⟨w19, hw19, h⟩ := bind_some h
      refine WO.callK 3 (F := 66) (l := [l3 none x1, l3 none x2]) (C := []) (r := I6 w19) (by kernel_rfl) (by kernel_rfl) (run_dp_agree x1 x2 w19 hw19) (e1 := [(1, l35 none a2), (2, .ptr (I6 a1)), (6, .box [l3 (some 10600) v16]), (8, l3 none x1), (10, l3 none x2), (15, l35 none a2), (16, I6 (a2.length : Int)), (17, I6 (k1 : Int)), (24, l35 none e15), (25, I6 (e15.length : Int)), (26, I6 (k2 : Int)), (30, l3 (some 10600) v16), (31, l3 none x1), (32, l3 none x2), (33, I6 w19)]) (by kernel_rfl) ?_
      obtain ⟨hc20, h⟩ := chk_some h
      refine WO.appendK 1 (d := 35) (e := 3) (s := 1) (bytes := 8) (xs := (List.map (AV.int .i64) v16)) (ys := (List.map (AV.int .i64) [w19])) (zs := (List.map (AV.int .i64) (v16 ++ [w19]))) (env1 := [(1, l35 none a2), (2, .ptr (I6 a1)), (6, .box [l3 none v16]), (8, l3 none x1), (10, l3 none x2), (15, l35 none a2), (16, I6 (a2.length : Int)), (17, I6 (k1 : Int)), (24, l35 none e15), (25, I6 (e15.length : Int)), (26, I6 (k2 : Int)), (30, l3 none v16), (31, l3 none x1), (32, l3 none x2), (33, I6 w19), (34, l3 none [w19])]) (by kernel_rfl) (List.map_append.symm) (by rw [List.length_map]; exact hc20) (e1 := [(1, l35 none a2), (2, .ptr (I6 a1)), (6, .box [l3 none v16]), (8, l3 none x1), (10, l3 none x2), (15, l35 none a2), (16, I6 (a2.length : Int)), (17, I6 (k1 : Int)), (24, l35 none e15), (25, I6 (e15.length : Int)), (26, I6 (k2 : Int)), (30, l3 none v16), (31, l3 none x1), (32, l3 none x2), (33, I6 w19), (34, l3 none [w19]), (35, l3 (some 35) (v16 ++ [w19]))]) (by kernel_rfl) ?_
      refine WO.fin [1, 2, 6, 8, 15, 16, 17, 24, 25, 26] [] [] [] (e2 := [(1, l35 none a2), (2, .ptr (I6 a1)), (6, .box [l3 (some 35) (v16 ++ [w19])]), (8, l3 none x1), (15, l35 none a2), (16, I6 (a2.length : Int)), (17, I6 (k1 : Int)), (24, l35 none e15), (25, I6 (e15.length : Int)), (26, I6 (k2 : Int))]) (by kernel_rfl) (fun _ h => h) ?_
      refine W.region (by kernel_rfl) ?_
      refine WO.pureK 0 (some (I6 (IntKind.wrap .i64 ((k2 : Int) + 1)))) (v := I6 ((k2 + 1 : Nat) : Int)) (by kernel_rfl) (by rw [wrap_succ hl2 hk2]) (e1 := [(1, l35 none a2), (2, .ptr (I6 a1)), (6, .box [l3 (some 35) (v16 ++ [w19])]), (8, l3 none x1), (15, l35 none a2), (16, I6 (a2.length : Int)), (17, I6 (k1 : Int)), (24, l35 none e15), (25, I6 (e15.length : Int)), (26, I6 (k2 : Int)), (36, I6 ((k2 + 1 : Nat) : Int))]) (by kernel_rfl) ?_
      refine WO.fin [1, 2, 6, 8, 15, 16, 17, 24, 25, 26] [] [] [(35, some 10600)] (e2 := [(1, l35 none a2), (2, .ptr (I6 a1)), (6, .box [l3 (some 10600) (v16 ++ [w19])]), (8, l3 none x1), (15, l35 none a2), (16, I6 (a2.length : Int)), (17, I6 (k1 : Int)), (24, l35 none e15), (25, I6 (e15.length : Int)), (26, I6 ((k2 + 1 : Nat) : Int))]) (by kernel_rfl) (fun _ h => h) ?_
      exact hN2 (v16 ++ [w19]) h

end Go.AM
