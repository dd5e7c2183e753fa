/- PRINTED by gen.py: pure functions and the proofs that the code computes them. No statement of the seat is proved here. -/
import Derived.Test.YtombfedoinhafaaK185
set_option maxRecDepth 100000
set_option linter.unusedVariables false
set_option linter.unusedSimpArgs false
namespace Go.AM
open Go.Proofs
def sl_partitionEqualCmpFunc_dpDep_j20 (v60 : (List dpDep)) (v61 : Int) : Option (Int × (List dpDep)) :=
  (some (v61, v60))
def sl_partitionEqualCmpFunc_dpDep_j35 (n2 : Nat) (v21 : (List dpDep)) (v34 : Int) (N1 : ((List dpDep) → Int → Int → Option (Int × (List dpDep)))) (K20 : ((List dpDep) → Int → Option (Int × (List dpDep)))) (v45 : Int) : Option (Int × (List dpDep)) :=
  (bif (decide (v34 > v45)) then (K20 v21 v34) else (chk (decide ((0 : Int) ≤ v45 ∧ v45 < ((n2 : Nat) : Int))) ((v21[(0 + Int.toNat v45)]?).bind fun e50 => (chk (decide ((0 : Int) ≤ v34 ∧ v34 < ((n2 : Nat) : Int))) ((v21[(0 + Int.toNat v34)]?).bind fun e52 => (chk (decide ((0 : Int) ≤ v34 ∧ v34 < ((n2 : Nat) : Int))) ((upd v21 (0 + Int.toNat v34) e50).bind fun u54 => (chk (decide ((0 : Int) ≤ v45 ∧ v45 < ((n2 : Nat) : Int))) ((upd u54 (0 + Int.toNat v45) e52).bind fun u57 => (N1 u57 (IntKind.wrap .i64 (v34 + 1)) (IntKind.wrap .i64 (v45 - 1))))))))))))
def sl_partitionEqualCmpFunc_dpDep_j38 (v36 : Int) (N3 : (Int → Option (Int × (List dpDep)))) (K35 : (Int → Option (Int × (List dpDep)))) (v44 : Bool) : Option (Int × (List dpDep)) :=
  (bif v44 then (N3 (IntKind.wrap .i64 (v36 - 1))) else (K35 v36))
def sl_partitionEqualCmpFunc_dpDep_l3 (n2 : Nat) (a3 : Int) (g6 : (dpDep → dpDep → Option Int)) (v21 : (List dpDep)) (v34 : Int) (K35 : (Int → Option (Int × (List dpDep)))) : Nat → Int → Option (Int × (List dpDep))
  | 0, _ => none
  | m3 + 1, v36 => (bif (decide (v34 ≤ v36)) then (chk (decide ((0 : Int) ≤ a3 ∧ a3 < ((n2 : Nat) : Int))) ((v21[(0 + Int.toNat a3)]?).bind fun e40 => (chk (decide ((0 : Int) ≤ v36 ∧ v36 < ((n2 : Nat) : Int))) ((v21[(0 + Int.toNat v36)]?).bind fun e42 => ((g6 e40 e42).bind fun w43 => ((sl_partitionEqualCmpFunc_dpDep_j38 v36 (sl_partitionEqualCmpFunc_dpDep_l3 n2 a3 g6 v21 v34 K35 m3) K35) (decide (w43 < 0)))))))) else ((sl_partitionEqualCmpFunc_dpDep_j38 v36 (sl_partitionEqualCmpFunc_dpDep_l3 n2 a3 g6 v21 v34 K35 m3) K35) false))
def sl_partitionEqualCmpFunc_dpDep_j24 (fuel : Nat) (n2 : Nat) (a3 : Int) (g6 : (dpDep → dpDep → Option Int)) (v21 : (List dpDep)) (v23 : Int) (N1 : ((List dpDep) → Int → Int → Option (Int × (List dpDep)))) (K20 : ((List dpDep) → Int → Option (Int × (List dpDep)))) (v34 : Int) : Option (Int × (List dpDep)) :=
  (sl_partitionEqualCmpFunc_dpDep_l3 n2 a3 g6 v21 v34 (sl_partitionEqualCmpFunc_dpDep_j35 n2 v21 v34 N1 K20) fuel v23)
def sl_partitionEqualCmpFunc_dpDep_j27 (v25 : Int) (N2 : (Int → Option (Int × (List dpDep)))) (K24 : (Int → Option (Int × (List dpDep)))) (v33 : Bool) : Option (Int × (List dpDep)) :=
  (bif v33 then (N2 (IntKind.wrap .i64 (v25 + 1))) else (K24 v25))
def sl_partitionEqualCmpFunc_dpDep_l2 (n2 : Nat) (a3 : Int) (g6 : (dpDep → dpDep → Option Int)) (v21 : (List dpDep)) (v23 : Int) (K24 : (Int → Option (Int × (List dpDep)))) : Nat → Int → Option (Int × (List dpDep))
  | 0, _ => none
  | m2 + 1, v25 => (bif (decide (v25 ≤ v23)) then (chk (decide ((0 : Int) ≤ a3 ∧ a3 < ((n2 : Nat) : Int))) ((v21[(0 + Int.toNat a3)]?).bind fun e29 => (chk (decide ((0 : Int) ≤ v25 ∧ v25 < ((n2 : Nat) : Int))) ((v21[(0 + Int.toNat v25)]?).bind fun e31 => ((g6 e29 e31).bind fun w32 => ((sl_partitionEqualCmpFunc_dpDep_j27 v25 (sl_partitionEqualCmpFunc_dpDep_l2 n2 a3 g6 v21 v23 K24 m2) K24) (!(decide (w32 < 0))))))))) else ((sl_partitionEqualCmpFunc_dpDep_j27 v25 (sl_partitionEqualCmpFunc_dpDep_l2 n2 a3 g6 v21 v23 K24 m2) K24) false))
def sl_partitionEqualCmpFunc_dpDep_l1 (fuel : Nat) (n2 : Nat) (a3 : Int) (g6 : (dpDep → dpDep → Option Int)) (K20 : ((List dpDep) → Int → Option (Int × (List dpDep)))) : Nat → (List dpDep) → Int → Int → Option (Int × (List dpDep))
  | 0, _, _, _ => none
  | m1 + 1, v21, v22, v23 => (sl_partitionEqualCmpFunc_dpDep_l2 n2 a3 g6 v21 v23 (sl_partitionEqualCmpFunc_dpDep_j24 fuel n2 a3 g6 v21 v23 (sl_partitionEqualCmpFunc_dpDep_l1 fuel n2 a3 g6 K20 m1) K20) fuel v22)
def sl_partitionEqualCmpFunc_dpDep (fuel : Nat) (a1 : (List dpDep)) (n2 : Nat) (a3 : Int) (a4 : Int) (a5 : Int) (g6 : (dpDep → dpDep → Option Int)) : Option (Int × (List dpDep)) :=
  (chk (decide ((0 : Int) ≤ a5 ∧ a5 < ((n2 : Nat) : Int))) ((a1[(0 + Int.toNat a5)]?).bind fun e10 => (chk (decide ((0 : Int) ≤ a3 ∧ a3 < ((n2 : Nat) : Int))) ((a1[(0 + Int.toNat a3)]?).bind fun e12 => (chk (decide ((0 : Int) ≤ a3 ∧ a3 < ((n2 : Nat) : Int))) ((upd a1 (0 + Int.toNat a3) e10).bind fun u14 => (chk (decide ((0 : Int) ≤ a5 ∧ a5 < ((n2 : Nat) : Int))) ((upd u14 (0 + Int.toNat a5) e12).bind fun u17 => (sl_partitionEqualCmpFunc_dpDep_l1 fuel n2 a3 g6 (sl_partitionEqualCmpFunc_dpDep_j20) fuel u17 (IntKind.wrap .i64 (a3 + 1)) (IntKind.wrap .i64 (a4 - 1)))))))))))
theorem run_sl_partitionEqualCmpFunc_dpDep (fuel : Nat) (a1 : (List dpDep)) (n2 : Nat) (a3 : Int) (a4 : Int) (a5 : Int) (g6 : (dpDep → dpDep → Option Int)) (F_g6 : Nat) (C_g6 : List AV) (hok_g6 : okFn Try.prog F_g6 = true) (hrun_g6 : ∀ (x0 : dpDep) (x1 : dpDep) r, g6 x0 x1 = some r → Run Try.prog (.call F_g6 ([.agg [I6 x0.f_From, I6 x0.f_To], .agg [I6 x1.f_From, I6 x1.f_To]] ++ C_g6) (I6 r))) (r : (Int × (List dpDep))) (h : sl_partitionEqualCmpFunc_dpDep fuel a1 n2 a3 a4 a5 g6 = some r) : Run Try.prog (.callM 109 [S2 n2, I6 a3, I6 a4, I6 a5, .clo F_g6 C_g6] [O2 a1] (I6 r.1) [(2000000, .obj 33 2 (List.map e_dpDep r.2))]) := by
  refine callM_of_W Try.func109 rfl (by kernel_rfl) (env0 := [(0, S2 n2), (1, I6 a3), (2, I6 a4), (3, I6 a5), (4, .clo F_g6 C_g6), O2 a1]) (by kernel_rfl) ?_
  unfold sl_partitionEqualCmpFunc_dpDep at h
  refine W.seq ?_
  refine W.regT [0, 1, 2, 3, 4, 2000000] [] [] [] (e2 := [(0, S2 n2), (1, I6 a3), (2, I6 a4), (3, I6 a5), (4, .clo F_g6 C_g6), O2 a1]) (by kernel_rfl) (by kernel_rfl) (fun _ h => h) ?_
  refine W.seq ?_
  refine W.region (by kernel_rfl) ?_
  obtain ⟨hc9, h⟩ := chk_some h
  refine WO.pureK 6 (if (0 : Int) ≤ a5 ∧ a5 < ((n2 : Nat) : Int) then some (.pe 2000000 2 (0 + Int.toNat a5) 0) else none) (v := .pe 2000000 2 (0 + Int.toNat a5) 0) (by kernel_rfl) (ite_some hc9) (e1 := [(0, S2 n2), (1, I6 a3), (2, I6 a4), (3, I6 a5), (4, .clo F_g6 C_g6), (13, S2 n2), (14, I6 a3), (15, S2 n2), (16, I6 a5), (17, S2 n2), (18, I6 a5), (19, .pe 2000000 2 (0 + Int.toNat a5) 0), O2 a1]) (by kernel_rfl) ?_
  obtain ⟨e10, he10, h⟩ := bind_some h
  refine WO.pureK 0 (match (List.map e_dpDep a1)[(0 + Int.toNat a5)]? with | some y => cut Try.prog 33 (y.cells.map AV.strip) 0 | none => none) (v := .agg [I6 e10.f_From, I6 e10.f_To]) (by kernel_rfl) ((pe_ld (f := e_dpDep) (G := (fun y => cut Try.prog 33 (y.cells.map AV.strip) 0)) he10).trans (by kernel_rfl)) (e1 := [(0, S2 n2), (1, I6 a3), (2, I6 a4), (3, I6 a5), (4, .clo F_g6 C_g6), (13, S2 n2), (14, I6 a3), (15, S2 n2), (16, I6 a5), (17, S2 n2), (18, I6 a5), (19, .pe 2000000 2 (0 + Int.toNat a5) 0), (20, .agg [I6 e10.f_From, I6 e10.f_To]), O2 a1]) (by kernel_rfl) ?_
  obtain ⟨hc11, h⟩ := chk_some h
  refine WO.pureK 2 (if (0 : Int) ≤ a3 ∧ a3 < ((n2 : Nat) : Int) then some (.pe 2000000 2 (0 + Int.toNat a3) 0) else none) (v := .pe 2000000 2 (0 + Int.toNat a3) 0) (by kernel_rfl) (ite_some hc11) (e1 := [(0, S2 n2), (1, I6 a3), (2, I6 a4), (3, I6 a5), (4, .clo F_g6 C_g6), (13, S2 n2), (14, I6 a3), (15, S2 n2), (16, I6 a5), (17, S2 n2), (18, I6 a5), (19, .pe 2000000 2 (0 + Int.toNat a5) 0), (20, .agg [I6 e10.f_From, I6 e10.f_To]), (21, S2 n2), (22, I6 a3), (23, .pe 2000000 2 (0 + Int.toNat a3) 0), O2 a1]) (by kernel_rfl) ?_
  obtain ⟨e12, he12, h⟩ := bind_some h
  refine WO.pureK 0 (match (List.map e_dpDep a1)[(0 + Int.toNat a3)]? with | some y => cut Try.prog 33 (y.cells.map AV.strip) 0 | none => none) (v := .agg [I6 e12.f_From, I6 e12.f_To]) (by kernel_rfl) ((pe_ld (f := e_dpDep) (G := (fun y => cut Try.prog 33 (y.cells.map AV.strip) 0)) he12).trans (by kernel_rfl)) (e1 := [(0, S2 n2), (1, I6 a3), (2, I6 a4), (3, I6 a5), (4, .clo F_g6 C_g6), (13, S2 n2), (14, I6 a3), (15, S2 n2), (16, I6 a5), (17, S2 n2), (18, I6 a5), (19, .pe 2000000 2 (0 + Int.toNat a5) 0), (20, .agg [I6 e10.f_From, I6 e10.f_To]), (21, S2 n2), (22, I6 a3), (23, .pe 2000000 2 (0 + Int.toNat a3) 0), (24, .agg [I6 e12.f_From, I6 e12.f_To]), O2 a1]) (by kernel_rfl) ?_
  obtain ⟨hc13, h⟩ := chk_some h
  refine WO.pureK 0 (if (0 : Int) ≤ a3 ∧ a3 < ((n2 : Nat) : Int) then some (.pe 2000000 2 (0 + Int.toNat a3) 0) else none) (v := .pe 2000000 2 (0 + Int.toNat a3) 0) (by kernel_rfl) (ite_some hc13) (e1 := [(0, S2 n2), (1, I6 a3), (2, I6 a4), (3, I6 a5), (4, .clo F_g6 C_g6), (13, S2 n2), (14, I6 a3), (15, S2 n2), (16, I6 a5), (17, S2 n2), (18, I6 a5), (19, .pe 2000000 2 (0 + Int.toNat a5) 0), (20, .agg [I6 e10.f_From, I6 e10.f_To]), (21, S2 n2), (22, I6 a3), (23, .pe 2000000 2 (0 + Int.toNat a3) 0), (24, .agg [I6 e12.f_From, I6 e12.f_To]), (25, .pe 2000000 2 (0 + Int.toNat a3) 0), O2 a1]) (by kernel_rfl) ?_
  obtain ⟨u14, hu14, h⟩ := bind_some h
  obtain ⟨y15, hyy15, hzy15⟩ := upd_some hu14
  refine WO.storeK 0 (id := 2000000) (e := 33) (s := 2) (j := (0 + Int.toNat a3)) (off := 0) (vs := [I6 e10.f_From, I6 e10.f_To]) (xs := (List.map e_dpDep a1)) (zs := (List.map e_dpDep u14)) (y := (e_dpDep) y15) (y' := (e_dpDep) e10) (by kernel_rfl) (upd_get hyy15) (by kernel_rfl) (upd_set hzy15) (e1 := [(0, S2 n2), (1, I6 a3), (2, I6 a4), (3, I6 a5), (4, .clo F_g6 C_g6), (13, S2 n2), (14, I6 a3), (15, S2 n2), (16, I6 a5), (17, S2 n2), (18, I6 a5), (19, .pe 2000000 2 (0 + Int.toNat a5) 0), (20, .agg [I6 e10.f_From, I6 e10.f_To]), (21, S2 n2), (22, I6 a3), (23, .pe 2000000 2 (0 + Int.toNat a3) 0), (24, .agg [I6 e12.f_From, I6 e12.f_To]), (25, .pe 2000000 2 (0 + Int.toNat a3) 0), O2 u14]) (by kernel_rfl) ?_
  obtain ⟨hc16, h⟩ := chk_some h
  refine WO.pureK 0 (if (0 : Int) ≤ a5 ∧ a5 < ((n2 : Nat) : Int) then some (.pe 2000000 2 (0 + Int.toNat a5) 0) else none) (v := .pe 2000000 2 (0 + Int.toNat a5) 0) (by kernel_rfl) (ite_some hc16) (e1 := [(0, S2 n2), (1, I6 a3), (2, I6 a4), (3, I6 a5), (4, .clo F_g6 C_g6), (13, S2 n2), (14, I6 a3), (15, S2 n2), (16, I6 a5), (17, S2 n2), (18, I6 a5), (19, .pe 2000000 2 (0 + Int.toNat a5) 0), (20, .agg [I6 e10.f_From, I6 e10.f_To]), (21, S2 n2), (22, I6 a3), (23, .pe 2000000 2 (0 + Int.toNat a3) 0), (24, .agg [I6 e12.f_From, I6 e12.f_To]), (25, .pe 2000000 2 (0 + Int.toNat a3) 0), (26, .pe 2000000 2 (0 + Int.toNat a5) 0), O2 u14]) (by kernel_rfl) ?_
  obtain ⟨u17, hu17, h⟩ := bind_some h
  obtain ⟨y18, hyy18, hzy18⟩ := upd_some hu17
  refine WO.storeK 0 (id := 2000000) (e := 33) (s := 2) (j := (0 + Int.toNat a5)) (off := 0) (vs := [I6 e12.f_From, I6 e12.f_To]) (xs := (List.map e_dpDep u14)) (zs := (List.map e_dpDep u17)) (y := (e_dpDep) y18) (y' := (e_dpDep) e12) (by kernel_rfl) (upd_get hyy18) (by kernel_rfl) (upd_set hzy18) (e1 := [(0, S2 n2), (1, I6 a3), (2, I6 a4), (3, I6 a5), (4, .clo F_g6 C_g6), (13, S2 n2), (14, I6 a3), (15, S2 n2), (16, I6 a5), (17, S2 n2), (18, I6 a5), (19, .pe 2000000 2 (0 + Int.toNat a5) 0), (20, .agg [I6 e10.f_From, I6 e10.f_To]), (21, S2 n2), (22, I6 a3), (23, .pe 2000000 2 (0 + Int.toNat a3) 0), (24, .agg [I6 e12.f_From, I6 e12.f_To]), (25, .pe 2000000 2 (0 + Int.toNat a3) 0), (26, .pe 2000000 2 (0 + Int.toNat a5) 0), O2 u17]) (by kernel_rfl) ?_
  refine WO.fin [0, 1, 2, 4, 2000000] [] [] [] (e2 := [(0, S2 n2), (1, I6 a3), (2, I6 a4), (4, .clo F_g6 C_g6), O2 u17]) (by kernel_rfl) (fun _ h => h) ?_
  refine W.seq ?_
  refine W.regT [0, 1, 4, 11, 12, 2000000] [] [] [] (e2 := [(0, S2 n2), (1, I6 a3), (4, .clo F_g6 C_g6), (11, I6 (W6 (a3 + 1))), (12, I6 (W6 (a4 - 1))), O2 u17]) (by kernel_rfl) (by kernel_rfl) (fun _ h => h) ?_
  refine W.seq ?_
  refine W.join (σ := ((List dpDep) × Int)) (fun s => [(11, I6 s.2), (2000000, .obj 33 2 (List.map e_dpDep s.1))]) (fun s => (sl_partitionEqualCmpFunc_dpDep_j20) s.1 s.2 = some r) (fun s h => ?_) (fun hK20 => ?_)
  · obtain ⟨v60, v61⟩ := s
    have h : (sl_partitionEqualCmpFunc_dpDep_j20) v60 v61 = some r := h
    unfold sl_partitionEqualCmpFunc_dpDep_j20 at h
    refine W.seq ?_
    refine W.regT [10, 2000000] [] [] [] (e2 := [(10, I6 v61), O2 v60]) (by kernel_rfl) (by kernel_rfl) (fun _ h => h) ?_
    refine W.weak [10, 2000000] [] [] [] (env' := [(10, I6 v61), O2 v60]) (by kernel_rfl) ?_
    have hr : PostM Try.prog Try.f109 (I6 v61) [O2 v60] .ret [(10, I6 v61), O2 v60] := ⟨by kernel_rfl, by kernel_rfl⟩
    cases h
    exact W.ret hr
  refine W.block ?_
  refine W.weak [0, 1, 4, 11, 12, 2000000] [] [] [] (env' := [(0, S2 n2), (1, I6 a3), (4, .clo F_g6 C_g6), (11, I6 (W6 (a3 + 1))), (12, I6 (W6 (a4 - 1))), O2 u17]) (by kernel_rfl) ?_
  refine W.fuel (σ := ((List dpDep) × Int × Int)) (fun s => [(0, S2 n2), (1, I6 a3), (4, .clo F_g6 C_g6), (11, I6 s.2.1), (12, I6 s.2.2), (2000000, .obj 33 2 (List.map e_dpDep s.1))]) (fun m0 s => sl_partitionEqualCmpFunc_dpDep_l1 fuel n2 a3 g6 (sl_partitionEqualCmpFunc_dpDep_j20) m0 s.1 s.2.1 s.2.2 = some r) (fun s h => ?_) (fun m1 s h hN1 => ?_) fuel (u17, (W6 (a3 + 1)), (W6 (a4 - 1))) h
  · obtain ⟨v21, v22, v23⟩ := s
    have h : sl_partitionEqualCmpFunc_dpDep_l1 fuel n2 a3 g6 (sl_partitionEqualCmpFunc_dpDep_j20) 0 v21 v22 v23 = some r := h
    rw [sl_partitionEqualCmpFunc_dpDep_l1.eq_1] at h
    cases h
  · obtain ⟨v21, v22, v23⟩ := s
    have h : sl_partitionEqualCmpFunc_dpDep_l1 fuel n2 a3 g6 (sl_partitionEqualCmpFunc_dpDep_j20) (m1 + 1) v21 v22 v23 = some r := h
    rw [sl_partitionEqualCmpFunc_dpDep_l1.eq_2] at h
    refine W.block ?_
    refine W.seq ?_
    refine W.join (σ := (Int)) (fun s => [(0, S2 n2), (1, I6 a3), (4, .clo F_g6 C_g6), (11, I6 s), (12, I6 v23), O2 v21]) (fun s => (sl_partitionEqualCmpFunc_dpDep_j24 fuel n2 a3 g6 v21 v23 (sl_partitionEqualCmpFunc_dpDep_l1 fuel n2 a3 g6 (sl_partitionEqualCmpFunc_dpDep_j20) m1) (sl_partitionEqualCmpFunc_dpDep_j20)) s = some r) (fun s h => ?_) (fun hK24 => ?_)
    · obtain ⟨v34, rfl⟩ : ∃ x, x = s := ⟨s, rfl⟩
      have h : (sl_partitionEqualCmpFunc_dpDep_j24 fuel n2 a3 g6 v21 v23 (sl_partitionEqualCmpFunc_dpDep_l1 fuel n2 a3 g6 (sl_partitionEqualCmpFunc_dpDep_j20) m1) (sl_partitionEqualCmpFunc_dpDep_j20)) v34 = some r := h
      unfold sl_partitionEqualCmpFunc_dpDep_j24 at h
      refine W.seq ?_
      refine W.join (σ := (Int)) (fun s => [(0, S2 n2), (1, I6 a3), (4, .clo F_g6 C_g6), (11, I6 v34), (12, I6 s), O2 v21]) (fun s => (sl_partitionEqualCmpFunc_dpDep_j35 n2 v21 v34 (sl_partitionEqualCmpFunc_dpDep_l1 fuel n2 a3 g6 (sl_partitionEqualCmpFunc_dpDep_j20) m1) (sl_partitionEqualCmpFunc_dpDep_j20)) s = some r) (fun s h => ?_) (fun hK35 => ?_)
      · obtain ⟨v45, rfl⟩ : ∃ x, x = s := ⟨s, rfl⟩
        have h : (sl_partitionEqualCmpFunc_dpDep_j35 n2 v21 v34 (sl_partitionEqualCmpFunc_dpDep_l1 fuel n2 a3 g6 (sl_partitionEqualCmpFunc_dpDep_j20) m1) (sl_partitionEqualCmpFunc_dpDep_j20)) v45 = some r := h
        unfold sl_partitionEqualCmpFunc_dpDep_j35 at h
        refine W.seq ?_
        refine W.seq ?_
        refine W.regT [0, 1, 4, 11, 12, 70, 2000000] [] [] [] (e2 := [(0, S2 n2), (1, I6 a3), (4, .clo F_g6 C_g6), (11, I6 v34), (12, I6 v45), (70, .bool (decide (v34 > v45))), O2 v21]) (by kernel_rfl) (by kernel_rfl) (fun _ h => h) ?_
        refine W.condB (decide (v34 > v45)) (by kernel_rfl) (fun hb => ?_) (fun hb => ?_)
        · replace h := cond_t hb h
          refine W.exit ?_
          refine W.weak [11, 2000000] [] [] [] (env' := [(11, I6 v34), O2 v21]) (by kernel_rfl) ?_
          exact hK20 (v21, v34) h
        replace h := cond_f hb h
        refine W.skip ?_
        refine W.weak [0, 1, 4, 11, 12, 2000000] [] [] [] (env' := [(0, S2 n2), (1, I6 a3), (4, .clo F_g6 C_g6), (11, I6 v34), (12, I6 v45), O2 v21]) (by kernel_rfl) ?_
        refine W.seq ?_
        refine W.region (by kernel_rfl) ?_
        obtain ⟨hc49, h⟩ := chk_some h
        refine WO.pureK 6 (if (0 : Int) ≤ v45 ∧ v45 < ((n2 : Nat) : Int) then some (.pe 2000000 2 (0 + Int.toNat v45) 0) else none) (v := .pe 2000000 2 (0 + Int.toNat v45) 0) (by kernel_rfl) (ite_some hc49) (e1 := [(0, S2 n2), (1, I6 a3), (4, .clo F_g6 C_g6), (11, I6 v34), (12, I6 v45), (71, S2 n2), (72, I6 v34), (73, S2 n2), (74, I6 v45), (75, S2 n2), (76, I6 v45), (77, .pe 2000000 2 (0 + Int.toNat v45) 0), O2 v21]) (by kernel_rfl) ?_
        obtain ⟨e50, he50, h⟩ := bind_some h
        refine WO.pureK 0 (match (List.map e_dpDep v21)[(0 + Int.toNat v45)]? with | some y => cut Try.prog 33 (y.cells.map AV.strip) 0 | none => none) (v := .agg [I6 e50.f_From, I6 e50.f_To]) (by kernel_rfl) ((pe_ld (f := e_dpDep) (G := (fun y => cut Try.prog 33 (y.cells.map AV.strip) 0)) he50).trans (by kernel_rfl)) (e1 := [(0, S2 n2), (1, I6 a3), (4, .clo F_g6 C_g6), (11, I6 v34), (12, I6 v45), (71, S2 n2), (72, I6 v34), (73, S2 n2), (74, I6 v45), (75, S2 n2), (76, I6 v45), (77, .pe 2000000 2 (0 + Int.toNat v45) 0), (78, .agg [I6 e50.f_From, I6 e50.f_To]), O2 v21]) (by kernel_rfl) ?_
        obtain ⟨hc51, h⟩ := chk_some h
        refine WO.pureK 2 (if (0 : Int) ≤ v34 ∧ v34 < ((n2 : Nat) : Int) then some (.pe 2000000 2 (0 + Int.toNat v34) 0) else none) (v := .pe 2000000 2 (0 + Int.toNat v34) 0) (by kernel_rfl) (ite_some hc51) (e1 := [(0, S2 n2), (1, I6 a3), (4, .clo F_g6 C_g6), (11, I6 v34), (12, I6 v45), (71, S2 n2), (72, I6 v34), (73, S2 n2), (74, I6 v45), (75, S2 n2), (76, I6 v45), (77, .pe 2000000 2 (0 + Int.toNat v45) 0), (78, .agg [I6 e50.f_From, I6 e50.f_To]), (79, S2 n2), (80, I6 v34), (81, .pe 2000000 2 (0 + Int.toNat v34) 0), O2 v21]) (by kernel_rfl) ?_
        obtain ⟨e52, he52, h⟩ := bind_some h
        refine WO.pureK 0 (match (List.map e_dpDep v21)[(0 + Int.toNat v34)]? with | some y => cut Try.prog 33 (y.cells.map AV.strip) 0 | none => none) (v := .agg [I6 e52.f_From, I6 e52.f_To]) (by kernel_rfl) ((pe_ld (f := e_dpDep) (G := (fun y => cut Try.prog 33 (y.cells.map AV.strip) 0)) he52).trans (by kernel_rfl)) (e1 := [(0, S2 n2), (1, I6 a3), (4, .clo F_g6 C_g6), (11, I6 v34), (12, I6 v45), (71, S2 n2), (72, I6 v34), (73, S2 n2), (74, I6 v45), (75, S2 n2), (76, I6 v45), (77, .pe 2000000 2 (0 + Int.toNat v45) 0), (78, .agg [I6 e50.f_From, I6 e50.f_To]), (79, S2 n2), (80, I6 v34), (81, .pe 2000000 2 (0 + Int.toNat v34) 0), (82, .agg [I6 e52.f_From, I6 e52.f_To]), O2 v21]) (by kernel_rfl) ?_
        obtain ⟨hc53, h⟩ := chk_some h
        refine WO.pureK 0 (if (0 : Int) ≤ v34 ∧ v34 < ((n2 : Nat) : Int) then some (.pe 2000000 2 (0 + Int.toNat v34) 0) else none) (v := .pe 2000000 2 (0 + Int.toNat v34) 0) (by kernel_rfl) (ite_some hc53) (e1 := [(0, S2 n2), (1, I6 a3), (4, .clo F_g6 C_g6), (11, I6 v34), (12, I6 v45), (71, S2 n2), (72, I6 v34), (73, S2 n2), (74, I6 v45), (75, S2 n2), (76, I6 v45), (77, .pe 2000000 2 (0 + Int.toNat v45) 0), (78, .agg [I6 e50.f_From, I6 e50.f_To]), (79, S2 n2), (80, I6 v34), (81, .pe 2000000 2 (0 + Int.toNat v34) 0), (82, .agg [I6 e52.f_From, I6 e52.f_To]), (83, .pe 2000000 2 (0 + Int.toNat v34) 0), O2 v21]) (by kernel_rfl) ?_
        obtain ⟨u54, hu54, h⟩ := bind_some h
        obtain ⟨y55, hyy55, hzy55⟩ := upd_some hu54
        refine WO.storeK 0 (id := 2000000) (e := 33) (s := 2) (j := (0 + Int.toNat v34)) (off := 0) (vs := [I6 e50.f_From, I6 e50.f_To]) (xs := (List.map e_dpDep v21)) (zs := (List.map e_dpDep u54)) (y := (e_dpDep) y55) (y' := (e_dpDep) e50) (by kernel_rfl) (upd_get hyy55) (by kernel_rfl) (upd_set hzy55) (e1 := [(0, S2 n2), (1, I6 a3), (4, .clo F_g6 C_g6), (11, I6 v34), (12, I6 v45), (71, S2 n2), (72, I6 v34), (73, S2 n2), (74, I6 v45), (75, S2 n2), (76, I6 v45), (77, .pe 2000000 2 (0 + Int.toNat v45) 0), (78, .agg [I6 e50.f_From, I6 e50.f_To]), (79, S2 n2), (80, I6 v34), (81, .pe 2000000 2 (0 + Int.toNat v34) 0), (82, .agg [I6 e52.f_From, I6 e52.f_To]), (83, .pe 2000000 2 (0 + Int.toNat v34) 0), O2 u54]) (by kernel_rfl) ?_
        obtain ⟨hc56, h⟩ := chk_some h
        refine WO.pureK 0 (if (0 : Int) ≤ v45 ∧ v45 < ((n2 : Nat) : Int) then some (.pe 2000000 2 (0 + Int.toNat v45) 0) else none) (v := .pe 2000000 2 (0 + Int.toNat v45) 0) (by kernel_rfl) (ite_some hc56) (e1 := [(0, S2 n2), (1, I6 a3), (4, .clo F_g6 C_g6), (11, I6 v34), (12, I6 v45), (71, S2 n2), (72, I6 v34), (73, S2 n2), (74, I6 v45), (75, S2 n2), (76, I6 v45), (77, .pe 2000000 2 (0 + Int.toNat v45) 0), (78, .agg [I6 e50.f_From, I6 e50.f_To]), (79, S2 n2), (80, I6 v34), (81, .pe 2000000 2 (0 + Int.toNat v34) 0), (82, .agg [I6 e52.f_From, I6 e52.f_To]), (83, .pe 2000000 2 (0 + Int.toNat v34) 0), (84, .pe 2000000 2 (0 + Int.toNat v45) 0), O2 u54]) (by kernel_rfl) ?_
        obtain ⟨u57, hu57, h⟩ := bind_some h
        obtain ⟨y58, hyy58, hzy58⟩ := upd_some hu57
        refine WO.storeK 0 (id := 2000000) (e := 33) (s := 2) (j := (0 + Int.toNat v45)) (off := 0) (vs := [I6 e52.f_From, I6 e52.f_To]) (xs := (List.map e_dpDep u54)) (zs := (List.map e_dpDep u57)) (y := (e_dpDep) y58) (y' := (e_dpDep) e52) (by kernel_rfl) (upd_get hyy58) (by kernel_rfl) (upd_set hzy58) (e1 := [(0, S2 n2), (1, I6 a3), (4, .clo F_g6 C_g6), (11, I6 v34), (12, I6 v45), (71, S2 n2), (72, I6 v34), (73, S2 n2), (74, I6 v45), (75, S2 n2), (76, I6 v45), (77, .pe 2000000 2 (0 + Int.toNat v45) 0), (78, .agg [I6 e50.f_From, I6 e50.f_To]), (79, S2 n2), (80, I6 v34), (81, .pe 2000000 2 (0 + Int.toNat v34) 0), (82, .agg [I6 e52.f_From, I6 e52.f_To]), (83, .pe 2000000 2 (0 + Int.toNat v34) 0), (84, .pe 2000000 2 (0 + Int.toNat v45) 0), O2 u57]) (by kernel_rfl) ?_
        refine WO.fin [0, 1, 4, 11, 12, 2000000] [] [] [] (e2 := [(0, S2 n2), (1, I6 a3), (4, .clo F_g6 C_g6), (11, I6 v34), (12, I6 v45), O2 u57]) (by kernel_rfl) (fun _ h => h) ?_
        refine W.seq ?_
        refine W.regT [0, 1, 4, 11, 12, 2000000] [] [] [] (e2 := [(0, S2 n2), (1, I6 a3), (4, .clo F_g6 C_g6), (11, I6 (W6 (v34 + 1))), (12, I6 v45), O2 u57]) (by kernel_rfl) (by kernel_rfl) (fun _ h => h) ?_
        refine W.regT [0, 1, 4, 11, 12, 2000000] [] [] [] (e2 := [(0, S2 n2), (1, I6 a3), (4, .clo F_g6 C_g6), (11, I6 (W6 (v34 + 1))), (12, I6 (W6 (v45 - 1))), O2 u57]) (by kernel_rfl) (by kernel_rfl) (fun _ h => h) ?_
        exact hN1 (u57, (W6 (v34 + 1)), (W6 (v45 - 1))) h
      refine W.block ?_
      refine W.weak [0, 1, 4, 11, 12, 2000000] [] [] [] (env' := [(0, S2 n2), (1, I6 a3), (4, .clo F_g6 C_g6), (11, I6 v34), (12, I6 v23), O2 v21]) (by kernel_rfl) ?_
      refine W.fuel (σ := (Int)) (fun s => [(0, S2 n2), (1, I6 a3), (4, .clo F_g6 C_g6), (11, I6 v34), (12, I6 s), O2 v21]) (fun m0 s => sl_partitionEqualCmpFunc_dpDep_l3 n2 a3 g6 v21 v34 (sl_partitionEqualCmpFunc_dpDep_j35 n2 v21 v34 (sl_partitionEqualCmpFunc_dpDep_l1 fuel n2 a3 g6 (sl_partitionEqualCmpFunc_dpDep_j20) m1) (sl_partitionEqualCmpFunc_dpDep_j20)) m0 s = some r) (fun s h => ?_) (fun m3 s h hN3 => ?_) fuel v23 h
      · obtain ⟨v36, rfl⟩ : ∃ x, x = s := ⟨s, rfl⟩
        have h : sl_partitionEqualCmpFunc_dpDep_l3 n2 a3 g6 v21 v34 (sl_partitionEqualCmpFunc_dpDep_j35 n2 v21 v34 (sl_partitionEqualCmpFunc_dpDep_l1 fuel n2 a3 g6 (sl_partitionEqualCmpFunc_dpDep_j20) m1) (sl_partitionEqualCmpFunc_dpDep_j20)) 0 v36 = some r := h
        rw [sl_partitionEqualCmpFunc_dpDep_l3.eq_1] at h
        cases h
      · obtain ⟨v36, rfl⟩ : ∃ x, x = s := ⟨s, rfl⟩
        have h : sl_partitionEqualCmpFunc_dpDep_l3 n2 a3 g6 v21 v34 (sl_partitionEqualCmpFunc_dpDep_j35 n2 v21 v34 (sl_partitionEqualCmpFunc_dpDep_l1 fuel n2 a3 g6 (sl_partitionEqualCmpFunc_dpDep_j20) m1) (sl_partitionEqualCmpFunc_dpDep_j20)) (m3 + 1) v36 = some r := h
        rw [sl_partitionEqualCmpFunc_dpDep_l3.eq_2] at h
        refine W.seq ?_
        refine W.seq ?_
        refine W.join (σ := (Bool)) (fun s => [(0, S2 n2), (1, I6 a3), (4, .clo F_g6 C_g6), (11, I6 v34), (12, I6 v36), (65, .bool s), O2 v21]) (fun s => (sl_partitionEqualCmpFunc_dpDep_j38 v36 (sl_partitionEqualCmpFunc_dpDep_l3 n2 a3 g6 v21 v34 (sl_partitionEqualCmpFunc_dpDep_j35 n2 v21 v34 (sl_partitionEqualCmpFunc_dpDep_l1 fuel n2 a3 g6 (sl_partitionEqualCmpFunc_dpDep_j20) m1) (sl_partitionEqualCmpFunc_dpDep_j20)) m3) (sl_partitionEqualCmpFunc_dpDep_j35 n2 v21 v34 (sl_partitionEqualCmpFunc_dpDep_l1 fuel n2 a3 g6 (sl_partitionEqualCmpFunc_dpDep_j20) m1) (sl_partitionEqualCmpFunc_dpDep_j20))) s = some r) (fun s h => ?_) (fun hK38 => ?_)
        · obtain ⟨v44, rfl⟩ : ∃ x, x = s := ⟨s, rfl⟩
          have h : (sl_partitionEqualCmpFunc_dpDep_j38 v36 (sl_partitionEqualCmpFunc_dpDep_l3 n2 a3 g6 v21 v34 (sl_partitionEqualCmpFunc_dpDep_j35 n2 v21 v34 (sl_partitionEqualCmpFunc_dpDep_l1 fuel n2 a3 g6 (sl_partitionEqualCmpFunc_dpDep_j20) m1) (sl_partitionEqualCmpFunc_dpDep_j20)) m3) (sl_partitionEqualCmpFunc_dpDep_j35 n2 v21 v34 (sl_partitionEqualCmpFunc_dpDep_l1 fuel n2 a3 g6 (sl_partitionEqualCmpFunc_dpDep_j20) m1) (sl_partitionEqualCmpFunc_dpDep_j20))) v44 = some r := h
          unfold sl_partitionEqualCmpFunc_dpDep_j38 at h
          refine W.condB v44 (by kernel_rfl) (fun hb => ?_) (fun hb => ?_)
          · replace h := cond_t hb h
            refine W.skip ?_
            refine W.weak [0, 1, 4, 11, 12, 2000000] [] [] [] (env' := [(0, S2 n2), (1, I6 a3), (4, .clo F_g6 C_g6), (11, I6 v34), (12, I6 v36), O2 v21]) (by kernel_rfl) ?_
            refine W.block ?_
            refine W.regT [0, 1, 4, 11, 12, 2000000] [] [] [] (e2 := [(0, S2 n2), (1, I6 a3), (4, .clo F_g6 C_g6), (11, I6 v34), (12, I6 (W6 (v36 - 1))), O2 v21]) (by kernel_rfl) (by kernel_rfl) (fun _ h => h) ?_
            exact hN3 (W6 (v36 - 1)) h
          replace h := cond_f hb h
          refine W.exit ?_
          refine W.weak [0, 1, 4, 11, 12, 2000000] [] [] [] (env' := [(0, S2 n2), (1, I6 a3), (4, .clo F_g6 C_g6), (11, I6 v34), (12, I6 v36), O2 v21]) (by kernel_rfl) ?_
          exact hK35 v36 h
        refine W.region (by kernel_rfl) ?_
        refine WO.boolK 4 (fun b => [(0, S2 n2), (1, I6 a3), (4, .clo F_g6 C_g6), (11, I6 v34), (12, I6 v36), (50, I6 v34), (51, I6 v36), (52, .bool b), (53, .bool b), O2 v21]) (decide (v34 ≤ v36)) (by kernel_rfl) (fun hb => ?_) (fun hb => ?_)
        · replace h := cond_t hb h
          obtain ⟨hc39, h⟩ := chk_some h
          refine WO.pureK 3 (if (0 : Int) ≤ a3 ∧ a3 < ((n2 : Nat) : Int) then some (.pe 2000000 2 (0 + Int.toNat a3) 0) else none) (v := .pe 2000000 2 (0 + Int.toNat a3) 0) (by kernel_rfl) (ite_some hc39) (e1 := [(0, S2 n2), (1, I6 a3), (4, .clo F_g6 C_g6), (11, I6 v34), (12, I6 v36), (50, I6 v34), (51, I6 v36), (52, .bool true), (53, .bool true), (54, .clo F_g6 C_g6), (55, S2 n2), (56, I6 a3), (57, .pe 2000000 2 (0 + Int.toNat a3) 0), O2 v21]) (by kernel_rfl) ?_
          obtain ⟨e40, he40, h⟩ := bind_some h
          refine WO.pureK 0 (match (List.map e_dpDep v21)[(0 + Int.toNat a3)]? with | some y => cut Try.prog 33 (y.cells.map AV.strip) 0 | none => none) (v := .agg [I6 e40.f_From, I6 e40.f_To]) (by kernel_rfl) ((pe_ld (f := e_dpDep) (G := (fun y => cut Try.prog 33 (y.cells.map AV.strip) 0)) he40).trans (by kernel_rfl)) (e1 := [(0, S2 n2), (1, I6 a3), (4, .clo F_g6 C_g6), (11, I6 v34), (12, I6 v36), (50, I6 v34), (51, I6 v36), (52, .bool true), (53, .bool true), (54, .clo F_g6 C_g6), (55, S2 n2), (56, I6 a3), (57, .pe 2000000 2 (0 + Int.toNat a3) 0), (58, .agg [I6 e40.f_From, I6 e40.f_To]), O2 v21]) (by kernel_rfl) ?_
          obtain ⟨hc41, h⟩ := chk_some h
          refine WO.pureK 2 (if (0 : Int) ≤ v36 ∧ v36 < ((n2 : Nat) : Int) then some (.pe 2000000 2 (0 + Int.toNat v36) 0) else none) (v := .pe 2000000 2 (0 + Int.toNat v36) 0) (by kernel_rfl) (ite_some hc41) (e1 := [(0, S2 n2), (1, I6 a3), (4, .clo F_g6 C_g6), (11, I6 v34), (12, I6 v36), (50, I6 v34), (51, I6 v36), (52, .bool true), (53, .bool true), (54, .clo F_g6 C_g6), (55, S2 n2), (56, I6 a3), (57, .pe 2000000 2 (0 + Int.toNat a3) 0), (58, .agg [I6 e40.f_From, I6 e40.f_To]), (59, S2 n2), (60, I6 v36), (61, .pe 2000000 2 (0 + Int.toNat v36) 0), O2 v21]) (by kernel_rfl) ?_
          obtain ⟨e42, he42, h⟩ := bind_some h
          refine WO.pureK 0 (match (List.map e_dpDep v21)[(0 + Int.toNat v36)]? with | some y => cut Try.prog 33 (y.cells.map AV.strip) 0 | none => none) (v := .agg [I6 e42.f_From, I6 e42.f_To]) (by kernel_rfl) ((pe_ld (f := e_dpDep) (G := (fun y => cut Try.prog 33 (y.cells.map AV.strip) 0)) he42).trans (by kernel_rfl)) (e1 := [(0, S2 n2), (1, I6 a3), (4, .clo F_g6 C_g6), (11, I6 v34), (12, I6 v36), (50, I6 v34), (51, I6 v36), (52, .bool true), (53, .bool true), (54, .clo F_g6 C_g6), (55, S2 n2), (56, I6 a3), (57, .pe 2000000 2 (0 + Int.toNat a3) 0), (58, .agg [I6 e40.f_From, I6 e40.f_To]), (59, S2 n2), (60, I6 v36), (61, .pe 2000000 2 (0 + Int.toNat v36) 0), (62, .agg [I6 e42.f_From, I6 e42.f_To]), O2 v21]) (by kernel_rfl) ?_
          obtain ⟨w43, hw43, h⟩ := bind_some h
          refine WO.callK 0 (F := F_g6) (l := [.agg [I6 e40.f_From, I6 e40.f_To], .agg [I6 e42.f_From, I6 e42.f_To]]) (C := C_g6) (r := I6 w43) (by kernel_rfl) hok_g6 (hrun_g6 e40 e42 w43 hw43) (e1 := [(0, S2 n2), (1, I6 a3), (4, .clo F_g6 C_g6), (11, I6 v34), (12, I6 v36), (50, I6 v34), (51, I6 v36), (52, .bool true), (53, .bool true), (54, .clo F_g6 C_g6), (55, S2 n2), (56, I6 a3), (57, .pe 2000000 2 (0 + Int.toNat a3) 0), (58, .agg [I6 e40.f_From, I6 e40.f_To]), (59, S2 n2), (60, I6 v36), (61, .pe 2000000 2 (0 + Int.toNat v36) 0), (62, .agg [I6 e42.f_From, I6 e42.f_To]), (63, I6 w43), O2 v21]) (by kernel_rfl) ?_
          refine WO.fin [0, 1, 4, 11, 12, 65, 2000000] [] [] [] (e2 := [(0, S2 n2), (1, I6 a3), (4, .clo F_g6 C_g6), (11, I6 v34), (12, I6 v36), (65, .bool (decide (w43 < 0))), O2 v21]) (by kernel_rfl) (fun _ h => h) ?_
          exact hK38 (decide (w43 < 0)) h
        replace h := cond_f hb h
        refine WO.fin [0, 1, 4, 11, 12, 65, 2000000] [] [] [] (e2 := [(0, S2 n2), (1, I6 a3), (4, .clo F_g6 C_g6), (11, I6 v34), (12, I6 v36), (65, .bool false), O2 v21]) (by kernel_rfl) (fun _ h => h) ?_
        exact hK38 false h
    refine W.block ?_
    refine W.weak [0, 1, 4, 11, 12, 2000000] [] [] [] (env' := [(0, S2 n2), (1, I6 a3), (4, .clo F_g6 C_g6), (11, I6 v22), (12, I6 v23), O2 v21]) (by kernel_rfl) ?_
    refine W.fuel (σ := (Int)) (fun s => [(0, S2 n2), (1, I6 a3), (4, .clo F_g6 C_g6), (11, I6 s), (12, I6 v23), O2 v21]) (fun m0 s => sl_partitionEqualCmpFunc_dpDep_l2 n2 a3 g6 v21 v23 (sl_partitionEqualCmpFunc_dpDep_j24 fuel n2 a3 g6 v21 v23 (sl_partitionEqualCmpFunc_dpDep_l1 fuel n2 a3 g6 (sl_partitionEqualCmpFunc_dpDep_j20) m1) (sl_partitionEqualCmpFunc_dpDep_j20)) m0 s = some r) (fun s h => ?_) (fun m2 s h hN2 => ?_) fuel v22 h
    · obtain ⟨v25, rfl⟩ : ∃ x, x = s := ⟨s, rfl⟩
      have h : sl_partitionEqualCmpFunc_dpDep_l2 n2 a3 g6 v21 v23 (sl_partitionEqualCmpFunc_dpDep_j24 fuel n2 a3 g6 v21 v23 (sl_partitionEqualCmpFunc_dpDep_l1 fuel n2 a3 g6 (sl_partitionEqualCmpFunc_dpDep_j20) m1) (sl_partitionEqualCmpFunc_dpDep_j20)) 0 v25 = some r := h
      rw [sl_partitionEqualCmpFunc_dpDep_l2.eq_1] at h
      cases h
    · obtain ⟨v25, rfl⟩ : ∃ x, x = s := ⟨s, rfl⟩
      have h : sl_partitionEqualCmpFunc_dpDep_l2 n2 a3 g6 v21 v23 (sl_partitionEqualCmpFunc_dpDep_j24 fuel n2 a3 g6 v21 v23 (sl_partitionEqualCmpFunc_dpDep_l1 fuel n2 a3 g6 (sl_partitionEqualCmpFunc_dpDep_j20) m1) (sl_partitionEqualCmpFunc_dpDep_j20)) (m2 + 1) v25 = some r := h
      rw [sl_partitionEqualCmpFunc_dpDep_l2.eq_2] at h
      refine W.seq ?_
      refine W.seq ?_
      refine W.join (σ := (Bool)) (fun s => [(0, S2 n2), (1, I6 a3), (4, .clo F_g6 C_g6), (11, I6 v25), (12, I6 v23), (47, .bool s), O2 v21]) (fun s => (sl_partitionEqualCmpFunc_dpDep_j27 v25 (sl_partitionEqualCmpFunc_dpDep_l2 n2 a3 g6 v21 v23 (sl_partitionEqualCmpFunc_dpDep_j24 fuel n2 a3 g6 v21 v23 (sl_partitionEqualCmpFunc_dpDep_l1 fuel n2 a3 g6 (sl_partitionEqualCmpFunc_dpDep_j20) m1) (sl_partitionEqualCmpFunc_dpDep_j20)) m2) (sl_partitionEqualCmpFunc_dpDep_j24 fuel n2 a3 g6 v21 v23 (sl_partitionEqualCmpFunc_dpDep_l1 fuel n2 a3 g6 (sl_partitionEqualCmpFunc_dpDep_j20) m1) (sl_partitionEqualCmpFunc_dpDep_j20))) s = some r) (fun s h => ?_) (fun hK27 => ?_)
      · obtain ⟨v33, rfl⟩ : ∃ x, x = s := ⟨s, rfl⟩
        have h : (sl_partitionEqualCmpFunc_dpDep_j27 v25 (sl_partitionEqualCmpFunc_dpDep_l2 n2 a3 g6 v21 v23 (sl_partitionEqualCmpFunc_dpDep_j24 fuel n2 a3 g6 v21 v23 (sl_partitionEqualCmpFunc_dpDep_l1 fuel n2 a3 g6 (sl_partitionEqualCmpFunc_dpDep_j20) m1) (sl_partitionEqualCmpFunc_dpDep_j20)) m2) (sl_partitionEqualCmpFunc_dpDep_j24 fuel n2 a3 g6 v21 v23 (sl_partitionEqualCmpFunc_dpDep_l1 fuel n2 a3 g6 (sl_partitionEqualCmpFunc_dpDep_j20) m1) (sl_partitionEqualCmpFunc_dpDep_j20))) v33 = some r := h
        unfold sl_partitionEqualCmpFunc_dpDep_j27 at h
        refine W.condB v33 (by kernel_rfl) (fun hb => ?_) (fun hb => ?_)
        · replace h := cond_t hb h
          refine W.skip ?_
          refine W.weak [0, 1, 4, 11, 12, 2000000] [] [] [] (env' := [(0, S2 n2), (1, I6 a3), (4, .clo F_g6 C_g6), (11, I6 v25), (12, I6 v23), O2 v21]) (by kernel_rfl) ?_
          refine W.block ?_
          refine W.regT [0, 1, 4, 11, 12, 2000000] [] [] [] (e2 := [(0, S2 n2), (1, I6 a3), (4, .clo F_g6 C_g6), (11, I6 (W6 (v25 + 1))), (12, I6 v23), O2 v21]) (by kernel_rfl) (by kernel_rfl) (fun _ h => h) ?_
          exact hN2 (W6 (v25 + 1)) h
        replace h := cond_f hb h
        refine W.exit ?_
        refine W.weak [0, 1, 4, 11, 12, 2000000] [] [] [] (env' := [(0, S2 n2), (1, I6 a3), (4, .clo F_g6 C_g6), (11, I6 v25), (12, I6 v23), O2 v21]) (by kernel_rfl) ?_
        exact hK24 v25 h
      refine W.region (by kernel_rfl) ?_
      refine WO.boolK 4 (fun b => [(0, S2 n2), (1, I6 a3), (4, .clo F_g6 C_g6), (11, I6 v25), (12, I6 v23), (31, I6 v25), (32, I6 v23), (33, .bool b), (34, .bool b), O2 v21]) (decide (v25 ≤ v23)) (by kernel_rfl) (fun hb => ?_) (fun hb => ?_)
      · replace h := cond_t hb h
        obtain ⟨hc28, h⟩ := chk_some h
        refine WO.pureK 3 (if (0 : Int) ≤ a3 ∧ a3 < ((n2 : Nat) : Int) then some (.pe 2000000 2 (0 + Int.toNat a3) 0) else none) (v := .pe 2000000 2 (0 + Int.toNat a3) 0) (by kernel_rfl) (ite_some hc28) (e1 := [(0, S2 n2), (1, I6 a3), (4, .clo F_g6 C_g6), (11, I6 v25), (12, I6 v23), (31, I6 v25), (32, I6 v23), (33, .bool true), (34, .bool true), (35, .clo F_g6 C_g6), (36, S2 n2), (37, I6 a3), (38, .pe 2000000 2 (0 + Int.toNat a3) 0), O2 v21]) (by kernel_rfl) ?_
        obtain ⟨e29, he29, h⟩ := bind_some h
        refine WO.pureK 0 (match (List.map e_dpDep v21)[(0 + Int.toNat a3)]? with | some y => cut Try.prog 33 (y.cells.map AV.strip) 0 | none => none) (v := .agg [I6 e29.f_From, I6 e29.f_To]) (by kernel_rfl) ((pe_ld (f := e_dpDep) (G := (fun y => cut Try.prog 33 (y.cells.map AV.strip) 0)) he29).trans (by kernel_rfl)) (e1 := [(0, S2 n2), (1, I6 a3), (4, .clo F_g6 C_g6), (11, I6 v25), (12, I6 v23), (31, I6 v25), (32, I6 v23), (33, .bool true), (34, .bool true), (35, .clo F_g6 C_g6), (36, S2 n2), (37, I6 a3), (38, .pe 2000000 2 (0 + Int.toNat a3) 0), (39, .agg [I6 e29.f_From, I6 e29.f_To]), O2 v21]) (by kernel_rfl) ?_
        obtain ⟨hc30, h⟩ := chk_some h
        refine WO.pureK 2 (if (0 : Int) ≤ v25 ∧ v25 < ((n2 : Nat) : Int) then some (.pe 2000000 2 (0 + Int.toNat v25) 0) else none) (v := .pe 2000000 2 (0 + Int.toNat v25) 0) (by kernel_rfl) (ite_some hc30) (e1 := [(0, S2 n2), (1, I6 a3), (4, .clo F_g6 C_g6), (11, I6 v25), (12, I6 v23), (31, I6 v25), (32, I6 v23), (33, .bool true), (34, .bool true), (35, .clo F_g6 C_g6), (36, S2 n2), (37, I6 a3), (38, .pe 2000000 2 (0 + Int.toNat a3) 0), (39, .agg [I6 e29.f_From, I6 e29.f_To]), (40, S2 n2), (41, I6 v25), (42, .pe 2000000 2 (0 + Int.toNat v25) 0), O2 v21]) (by kernel_rfl) ?_
        obtain ⟨e31, he31, h⟩ := bind_some h
        refine WO.pureK 0 (match (List.map e_dpDep v21)[(0 + Int.toNat v25)]? with | some y => cut Try.prog 33 (y.cells.map AV.strip) 0 | none => none) (v := .agg [I6 e31.f_From, I6 e31.f_To]) (by kernel_rfl) ((pe_ld (f := e_dpDep) (G := (fun y => cut Try.prog 33 (y.cells.map AV.strip) 0)) he31).trans (by kernel_rfl)) (e1 := [(0, S2 n2), (1, I6 a3), (4, .clo F_g6 C_g6), (11, I6 v25), (12, I6 v23), (31, I6 v25), (32, I6 v23), (33, .bool true), (34, .bool true), (35, .clo F_g6 C_g6), (36, S2 n2), (37, I6 a3), (38, .pe 2000000 2 (0 + Int.toNat a3) 0), (39, .agg [I6 e29.f_From, I6 e29.f_To]), (40, S2 n2), (41, I6 v25), (42, .pe 2000000 2 (0 + Int.toNat v25) 0), (43, .agg [I6 e31.f_From, I6 e31.f_To]), O2 v21]) (by kernel_rfl) ?_
        obtain ⟨w32, hw32, h⟩ := bind_some h
        refine WO.callK 0 (F := F_g6) (l := [.agg [I6 e29.f_From, I6 e29.f_To], .agg [I6 e31.f_From, I6 e31.f_To]]) (C := C_g6) (r := I6 w32) (by kernel_rfl) hok_g6 (hrun_g6 e29 e31 w32 hw32) (e1 := [(0, S2 n2), (1, I6 a3), (4, .clo F_g6 C_g6), (11, I6 v25), (12, I6 v23), (31, I6 v25), (32, I6 v23), (33, .bool true), (34, .bool true), (35, .clo F_g6 C_g6), (36, S2 n2), (37, I6 a3), (38, .pe 2000000 2 (0 + Int.toNat a3) 0), (39, .agg [I6 e29.f_From, I6 e29.f_To]), (40, S2 n2), (41, I6 v25), (42, .pe 2000000 2 (0 + Int.toNat v25) 0), (43, .agg [I6 e31.f_From, I6 e31.f_To]), (44, I6 w32), O2 v21]) (by kernel_rfl) ?_
        refine WO.fin [0, 1, 4, 11, 12, 47, 2000000] [] [] [] (e2 := [(0, S2 n2), (1, I6 a3), (4, .clo F_g6 C_g6), (11, I6 v25), (12, I6 v23), (47, .bool (!(decide (w32 < 0)))), O2 v21]) (by kernel_rfl) (fun _ h => h) ?_
        exact hK27 (!(decide (w32 < 0))) h
      replace h := cond_f hb h
      refine WO.fin [0, 1, 4, 11, 12, 47, 2000000] [] [] [] (e2 := [(0, S2 n2), (1, I6 a3), (4, .clo F_g6 C_g6), (11, I6 v25), (12, I6 v23), (47, .bool false), O2 v21]) (by kernel_rfl) (fun _ h => h) ?_
      exact hK27 false h

end Go.AM
