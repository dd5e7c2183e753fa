/- PRINTED by gen.py: pure functions and the proofs that the code computes them. No statement of the seat is proved here. -/
import Derived.Test.YtmfdgonjnckdhaaS3
set_option maxRecDepth 100000
set_option linter.unusedVariables false
set_option linter.unusedSimpArgs false
namespace Go.AM
open Go.Proofs
def sl_partitionCmpFunc_int_j69 (n2 : Nat) (a3 : Int) (v109 : (List Int)) (v110 : Int) : Option ((Int × Bool) × (List Int)) :=
  (chk (decide ((0 : Int) ≤ a3 ∧ a3 < ((n2 : Nat) : Int))) ((v109[(0 + Int.toNat a3)]?).bind fun e113 => (chk (decide ((0 : Int) ≤ v110 ∧ v110 < ((n2 : Nat) : Int))) ((v109[(0 + Int.toNat v110)]?).bind fun e115 => (chk (decide ((0 : Int) ≤ v110 ∧ v110 < ((n2 : Nat) : Int))) ((upd v109 (0 + Int.toNat v110) e113).bind fun u117 => (chk (decide ((0 : Int) ≤ a3 ∧ a3 < ((n2 : Nat) : Int))) ((upd u117 (0 + Int.toNat a3) e115).bind fun u120 => (some ((v110, false), u120))))))))))
def sl_partitionCmpFunc_int_j84 (n2 : Nat) (v70 : (List Int)) (v83 : Int) (N3 : ((List Int) → Int → Int → Option ((Int × Bool) × (List Int)))) (K69 : ((List Int) → Int → Option ((Int × Bool) × (List Int)))) (v94 : Int) : Option ((Int × Bool) × (List Int)) :=
  (bif (decide (v83 > v94)) then (K69 v70 v94) else (chk (decide ((0 : Int) ≤ v94 ∧ v94 < ((n2 : Nat) : Int))) ((v70[(0 + Int.toNat v94)]?).bind fun e99 => (chk (decide ((0 : Int) ≤ v83 ∧ v83 < ((n2 : Nat) : Int))) ((v70[(0 + Int.toNat v83)]?).bind fun e101 => (chk (decide ((0 : Int) ≤ v83 ∧ v83 < ((n2 : Nat) : Int))) ((upd v70 (0 + Int.toNat v83) e99).bind fun u103 => (chk (decide ((0 : Int) ≤ v94 ∧ v94 < ((n2 : Nat) : Int))) ((upd u103 (0 + Int.toNat v94) e101).bind fun u106 => (N3 u106 (IntKind.wrap .i64 (v83 + 1)) (IntKind.wrap .i64 (v94 - 1))))))))))))
def sl_partitionCmpFunc_int_j87 (v85 : Int) (N5 : (Int → Option ((Int × Bool) × (List Int)))) (K84 : (Int → Option ((Int × Bool) × (List Int)))) (v93 : Bool) : Option ((Int × Bool) × (List Int)) :=
  (bif v93 then (N5 (IntKind.wrap .i64 (v85 - 1))) else (K84 v85))
def sl_partitionCmpFunc_int_l5 (n2 : Nat) (a3 : Int) (g6 : (Int → Int → Option Int)) (v70 : (List Int)) (v83 : Int) (K84 : (Int → Option ((Int × Bool) × (List Int)))) : Nat → Int → Option ((Int × Bool) × (List Int))
  | 0, _ => none
  | m5 + 1, v85 => (bif (decide (v83 ≤ v85)) then (chk (decide ((0 : Int) ≤ v85 ∧ v85 < ((n2 : Nat) : Int))) ((v70[(0 + Int.toNat v85)]?).bind fun e89 => (chk (decide ((0 : Int) ≤ a3 ∧ a3 < ((n2 : Nat) : Int))) ((v70[(0 + Int.toNat a3)]?).bind fun e91 => ((g6 e89 e91).bind fun w92 => ((sl_partitionCmpFunc_int_j87 v85 (sl_partitionCmpFunc_int_l5 n2 a3 g6 v70 v83 K84 m5) K84) (!(decide (w92 < 0))))))))) else ((sl_partitionCmpFunc_int_j87 v85 (sl_partitionCmpFunc_int_l5 n2 a3 g6 v70 v83 K84 m5) K84) false))
def sl_partitionCmpFunc_int_j73 (fuel : Nat) (n2 : Nat) (a3 : Int) (g6 : (Int → Int → Option Int)) (v70 : (List Int)) (v72 : Int) (N3 : ((List Int) → Int → Int → Option ((Int × Bool) × (List Int)))) (K69 : ((List Int) → Int → Option ((Int × Bool) × (List Int)))) (v83 : Int) : Option ((Int × Bool) × (List Int)) :=
  (sl_partitionCmpFunc_int_l5 n2 a3 g6 v70 v83 (sl_partitionCmpFunc_int_j84 n2 v70 v83 N3 K69) fuel v72)
def sl_partitionCmpFunc_int_j76 (v74 : Int) (N4 : (Int → Option ((Int × Bool) × (List Int)))) (K73 : (Int → Option ((Int × Bool) × (List Int)))) (v82 : Bool) : Option ((Int × Bool) × (List Int)) :=
  (bif v82 then (N4 (IntKind.wrap .i64 (v74 + 1))) else (K73 v74))
def sl_partitionCmpFunc_int_l4 (n2 : Nat) (a3 : Int) (g6 : (Int → Int → Option Int)) (v70 : (List Int)) (v72 : Int) (K73 : (Int → Option ((Int × Bool) × (List Int)))) : Nat → Int → Option ((Int × Bool) × (List Int))
  | 0, _ => none
  | m4 + 1, v74 => (bif (decide (v74 ≤ v72)) then (chk (decide ((0 : Int) ≤ v74 ∧ v74 < ((n2 : Nat) : Int))) ((v70[(0 + Int.toNat v74)]?).bind fun e78 => (chk (decide ((0 : Int) ≤ a3 ∧ a3 < ((n2 : Nat) : Int))) ((v70[(0 + Int.toNat a3)]?).bind fun e80 => ((g6 e78 e80).bind fun w81 => ((sl_partitionCmpFunc_int_j76 v74 (sl_partitionCmpFunc_int_l4 n2 a3 g6 v70 v72 K73 m4) K73) (decide (w81 < 0)))))))) else ((sl_partitionCmpFunc_int_j76 v74 (sl_partitionCmpFunc_int_l4 n2 a3 g6 v70 v72 K73 m4) K73) false))
def sl_partitionCmpFunc_int_l3 (fuel : Nat) (n2 : Nat) (a3 : Int) (g6 : (Int → Int → Option Int)) (K69 : ((List Int) → Int → Option ((Int × Bool) × (List Int)))) : Nat → (List Int) → Int → Int → Option ((Int × Bool) × (List Int))
  | 0, _, _, _ => none
  | m3 + 1, v70, v71, v72 => (sl_partitionCmpFunc_int_l4 n2 a3 g6 v70 v72 (sl_partitionCmpFunc_int_j73 fuel n2 a3 g6 v70 v72 (sl_partitionCmpFunc_int_l3 fuel n2 a3 g6 K69 m3) K69) fuel v71)
def sl_partitionCmpFunc_int_j31 (fuel : Nat) (n2 : Nat) (a3 : Int) (g6 : (Int → Int → Option Int)) (u17 : (List Int)) (v30 : Int) (v41 : Int) : Option ((Int × Bool) × (List Int)) :=
  (bif (decide (v30 > v41)) then (chk (decide ((0 : Int) ≤ a3 ∧ a3 < ((n2 : Nat) : Int))) ((u17[(0 + Int.toNat a3)]?).bind fun e46 => (chk (decide ((0 : Int) ≤ v41 ∧ v41 < ((n2 : Nat) : Int))) ((u17[(0 + Int.toNat v41)]?).bind fun e48 => (chk (decide ((0 : Int) ≤ v41 ∧ v41 < ((n2 : Nat) : Int))) ((upd u17 (0 + Int.toNat v41) e46).bind fun u50 => (chk (decide ((0 : Int) ≤ a3 ∧ a3 < ((n2 : Nat) : Int))) ((upd u50 (0 + Int.toNat a3) e48).bind fun u53 => (some ((v41, true), u53)))))))))) else (chk (decide ((0 : Int) ≤ v41 ∧ v41 < ((n2 : Nat) : Int))) ((u17[(0 + Int.toNat v41)]?).bind fun e58 => (chk (decide ((0 : Int) ≤ v30 ∧ v30 < ((n2 : Nat) : Int))) ((u17[(0 + Int.toNat v30)]?).bind fun e60 => (chk (decide ((0 : Int) ≤ v30 ∧ v30 < ((n2 : Nat) : Int))) ((upd u17 (0 + Int.toNat v30) e58).bind fun u62 => (chk (decide ((0 : Int) ≤ v41 ∧ v41 < ((n2 : Nat) : Int))) ((upd u62 (0 + Int.toNat v41) e60).bind fun u65 => (sl_partitionCmpFunc_int_l3 fuel n2 a3 g6 (sl_partitionCmpFunc_int_j69 n2 a3) fuel u65 (IntKind.wrap .i64 (v30 + 1)) (IntKind.wrap .i64 (v41 - 1))))))))))))
def sl_partitionCmpFunc_int_j34 (v32 : Int) (N2 : (Int → Option ((Int × Bool) × (List Int)))) (K31 : (Int → Option ((Int × Bool) × (List Int)))) (v40 : Bool) : Option ((Int × Bool) × (List Int)) :=
  (bif v40 then (N2 (IntKind.wrap .i64 (v32 - 1))) else (K31 v32))
def sl_partitionCmpFunc_int_l2 (n2 : Nat) (a3 : Int) (g6 : (Int → Int → Option Int)) (u17 : (List Int)) (v30 : Int) (K31 : (Int → Option ((Int × Bool) × (List Int)))) : Nat → Int → Option ((Int × Bool) × (List Int))
  | 0, _ => none
  | m2 + 1, v32 => (bif (decide (v30 ≤ v32)) then (chk (decide ((0 : Int) ≤ v32 ∧ v32 < ((n2 : Nat) : Int))) ((u17[(0 + Int.toNat v32)]?).bind fun e36 => (chk (decide ((0 : Int) ≤ a3 ∧ a3 < ((n2 : Nat) : Int))) ((u17[(0 + Int.toNat a3)]?).bind fun e38 => ((g6 e36 e38).bind fun w39 => ((sl_partitionCmpFunc_int_j34 v32 (sl_partitionCmpFunc_int_l2 n2 a3 g6 u17 v30 K31 m2) K31) (!(decide (w39 < 0))))))))) else ((sl_partitionCmpFunc_int_j34 v32 (sl_partitionCmpFunc_int_l2 n2 a3 g6 u17 v30 K31 m2) K31) false))
def sl_partitionCmpFunc_int_j20 (fuel : Nat) (n2 : Nat) (a3 : Int) (a4 : Int) (g6 : (Int → Int → Option Int)) (u17 : (List Int)) (v30 : Int) : Option ((Int × Bool) × (List Int)) :=
  (sl_partitionCmpFunc_int_l2 n2 a3 g6 u17 v30 (sl_partitionCmpFunc_int_j31 fuel n2 a3 g6 u17 v30) fuel (IntKind.wrap .i64 (a4 - 1)))
def sl_partitionCmpFunc_int_j23 (v21 : Int) (N1 : (Int → Option ((Int × Bool) × (List Int)))) (K20 : (Int → Option ((Int × Bool) × (List Int)))) (v29 : Bool) : Option ((Int × Bool) × (List Int)) :=
  (bif v29 then (N1 (IntKind.wrap .i64 (v21 + 1))) else (K20 v21))
def sl_partitionCmpFunc_int_l1 (n2 : Nat) (a3 : Int) (a4 : Int) (g6 : (Int → Int → Option Int)) (u17 : (List Int)) (K20 : (Int → Option ((Int × Bool) × (List Int)))) : Nat → Int → Option ((Int × Bool) × (List Int))
  | 0, _ => none
  | m1 + 1, v21 => (bif (decide (v21 ≤ (IntKind.wrap .i64 (a4 - 1)))) then (chk (decide ((0 : Int) ≤ v21 ∧ v21 < ((n2 : Nat) : Int))) ((u17[(0 + Int.toNat v21)]?).bind fun e25 => (chk (decide ((0 : Int) ≤ a3 ∧ a3 < ((n2 : Nat) : Int))) ((u17[(0 + Int.toNat a3)]?).bind fun e27 => ((g6 e25 e27).bind fun w28 => ((sl_partitionCmpFunc_int_j23 v21 (sl_partitionCmpFunc_int_l1 n2 a3 a4 g6 u17 K20 m1) K20) (decide (w28 < 0)))))))) else ((sl_partitionCmpFunc_int_j23 v21 (sl_partitionCmpFunc_int_l1 n2 a3 a4 g6 u17 K20 m1) K20) false))
def sl_partitionCmpFunc_int (fuel : Nat) (a1 : (List Int)) (n2 : Nat) (a3 : Int) (a4 : Int) (a5 : Int) (g6 : (Int → Int → Option Int)) : Option ((Int × Bool) × (List Int)) :=
  (chk (decide ((0 : Int) ≤ a5 ∧ a5 < ((n2 : Nat) : Int))) ((a1[(0 + Int.toNat a5)]?).bind fun e10 => (chk (decide ((0 : Int) ≤ a3 ∧ a3 < ((n2 : Nat) : Int))) ((a1[(0 + Int.toNat a3)]?).bind fun e12 => (chk (decide ((0 : Int) ≤ a3 ∧ a3 < ((n2 : Nat) : Int))) ((upd a1 (0 + Int.toNat a3) e10).bind fun u14 => (chk (decide ((0 : Int) ≤ a5 ∧ a5 < ((n2 : Nat) : Int))) ((upd u14 (0 + Int.toNat a5) e12).bind fun u17 => (sl_partitionCmpFunc_int_l1 n2 a3 a4 g6 u17 (sl_partitionCmpFunc_int_j20 fuel n2 a3 a4 g6 u17) fuel (IntKind.wrap .i64 (a3 + 1)))))))))))
theorem run_sl_partitionCmpFunc_int (fuel : Nat) (a1 : (List Int)) (n2 : Nat) (a3 : Int) (a4 : Int) (a5 : Int) (g6 : (Int → Int → Option Int)) (F_g6 : Nat) (C_g6 : List AV) (hok_g6 : okFn Try.prog F_g6 = true) (hrun_g6 : ∀ (x0 : Int) (x1 : Int) r, g6 x0 x1 = some r → Run Try.prog (.call F_g6 ([I6 x0, I6 x1] ++ C_g6) (I6 r))) (r : ((Int × Bool) × (List Int))) (h : sl_partitionCmpFunc_int fuel a1 n2 a3 a4 a5 g6 = some r) : Run Try.prog (.callM 103 [S1 n2, I6 a3, I6 a4, I6 a5, .clo F_g6 C_g6] [O1 a1] (.tup [I6 r.1.1, .bool r.1.2]) [(2000000, .obj 3 1 (List.map (AV.int .i64) r.2))]) := by
  refine callM_of_W Try.func103 rfl (by kernel_rfl) (env0 := [(0, S1 n2), (1, I6 a3), (2, I6 a4), (3, I6 a5), (4, .clo F_g6 C_g6), O1 a1]) (by kernel_rfl) ?_
  unfold sl_partitionCmpFunc_int at h
  refine W.seq ?_
  refine W.regT [0, 1, 2, 3, 4, 2000000] [] [] [] (e2 := [(0, S1 n2), (1, I6 a3), (2, I6 a4), (3, I6 a5), (4, .clo F_g6 C_g6), O1 a1]) (by kernel_rfl) (by kernel_rfl) (fun _ h => h) ?_
  refine W.seq ?_
  refine W.region (by kernel_rfl) ?_
  obtain ⟨hc9, h⟩ := chk_some h
  refine WO.pureK 6 (if (0 : Int) ≤ a5 ∧ a5 < ((n2 : Nat) : Int) then some (.pe 2000000 1 (0 + Int.toNat a5) 0) else none) (v := .pe 2000000 1 (0 + Int.toNat a5) 0) (by kernel_rfl) (ite_some hc9) (e1 := [(0, S1 n2), (1, I6 a3), (2, I6 a4), (3, I6 a5), (4, .clo F_g6 C_g6), (14, S1 n2), (15, I6 a3), (16, S1 n2), (17, I6 a5), (18, S1 n2), (19, I6 a5), (20, .pe 2000000 1 (0 + Int.toNat a5) 0), O1 a1]) (by kernel_rfl) ?_
  obtain ⟨e10, he10, h⟩ := bind_some h
  refine WO.pureK 0 (match (List.map (AV.int .i64) a1)[(0 + Int.toNat a5)]? with | some y => cut Try.prog 3 (y.cells.map AV.strip) 0 | none => none) (v := I6 e10) (by kernel_rfl) ((pe_ld (f := (AV.int .i64)) (G := (fun y => cut Try.prog 3 (y.cells.map AV.strip) 0)) he10).trans (by kernel_rfl)) (e1 := [(0, S1 n2), (1, I6 a3), (2, I6 a4), (3, I6 a5), (4, .clo F_g6 C_g6), (14, S1 n2), (15, I6 a3), (16, S1 n2), (17, I6 a5), (18, S1 n2), (19, I6 a5), (20, .pe 2000000 1 (0 + Int.toNat a5) 0), (21, I6 e10), O1 a1]) (by kernel_rfl) ?_
  obtain ⟨hc11, h⟩ := chk_some h
  refine WO.pureK 2 (if (0 : Int) ≤ a3 ∧ a3 < ((n2 : Nat) : Int) then some (.pe 2000000 1 (0 + Int.toNat a3) 0) else none) (v := .pe 2000000 1 (0 + Int.toNat a3) 0) (by kernel_rfl) (ite_some hc11) (e1 := [(0, S1 n2), (1, I6 a3), (2, I6 a4), (3, I6 a5), (4, .clo F_g6 C_g6), (14, S1 n2), (15, I6 a3), (16, S1 n2), (17, I6 a5), (18, S1 n2), (19, I6 a5), (20, .pe 2000000 1 (0 + Int.toNat a5) 0), (21, I6 e10), (22, S1 n2), (23, I6 a3), (24, .pe 2000000 1 (0 + Int.toNat a3) 0), O1 a1]) (by kernel_rfl) ?_
  obtain ⟨e12, he12, h⟩ := bind_some h
  refine WO.pureK 0 (match (List.map (AV.int .i64) a1)[(0 + Int.toNat a3)]? with | some y => cut Try.prog 3 (y.cells.map AV.strip) 0 | none => none) (v := I6 e12) (by kernel_rfl) ((pe_ld (f := (AV.int .i64)) (G := (fun y => cut Try.prog 3 (y.cells.map AV.strip) 0)) he12).trans (by kernel_rfl)) (e1 := [(0, S1 n2), (1, I6 a3), (2, I6 a4), (3, I6 a5), (4, .clo F_g6 C_g6), (14, S1 n2), (15, I6 a3), (16, S1 n2), (17, I6 a5), (18, S1 n2), (19, I6 a5), (20, .pe 2000000 1 (0 + Int.toNat a5) 0), (21, I6 e10), (22, S1 n2), (23, I6 a3), (24, .pe 2000000 1 (0 + Int.toNat a3) 0), (25, I6 e12), O1 a1]) (by kernel_rfl) ?_
  obtain ⟨hc13, h⟩ := chk_some h
  refine WO.pureK 0 (if (0 : Int) ≤ a3 ∧ a3 < ((n2 : Nat) : Int) then some (.pe 2000000 1 (0 + Int.toNat a3) 0) else none) (v := .pe 2000000 1 (0 + Int.toNat a3) 0) (by kernel_rfl) (ite_some hc13) (e1 := [(0, S1 n2), (1, I6 a3), (2, I6 a4), (3, I6 a5), (4, .clo F_g6 C_g6), (14, S1 n2), (15, I6 a3), (16, S1 n2), (17, I6 a5), (18, S1 n2), (19, I6 a5), (20, .pe 2000000 1 (0 + Int.toNat a5) 0), (21, I6 e10), (22, S1 n2), (23, I6 a3), (24, .pe 2000000 1 (0 + Int.toNat a3) 0), (25, I6 e12), (26, .pe 2000000 1 (0 + Int.toNat a3) 0), O1 a1]) (by kernel_rfl) ?_
  obtain ⟨u14, hu14, h⟩ := bind_some h
  obtain ⟨y15, hyy15, hzy15⟩ := upd_some hu14
  refine WO.storeK 0 (id := 2000000) (e := 3) (s := 1) (j := (0 + Int.toNat a3)) (off := 0) (vs := [I6 e10]) (xs := (List.map (AV.int .i64) a1)) (zs := (List.map (AV.int .i64) u14)) (y := ((AV.int .i64)) y15) (y' := ((AV.int .i64)) e10) (by kernel_rfl) (upd_get hyy15) (by kernel_rfl) (upd_set hzy15) (e1 := [(0, S1 n2), (1, I6 a3), (2, I6 a4), (3, I6 a5), (4, .clo F_g6 C_g6), (14, S1 n2), (15, I6 a3), (16, S1 n2), (17, I6 a5), (18, S1 n2), (19, I6 a5), (20, .pe 2000000 1 (0 + Int.toNat a5) 0), (21, I6 e10), (22, S1 n2), (23, I6 a3), (24, .pe 2000000 1 (0 + Int.toNat a3) 0), (25, I6 e12), (26, .pe 2000000 1 (0 + Int.toNat a3) 0), O1 u14]) (by kernel_rfl) ?_
  obtain ⟨hc16, h⟩ := chk_some h
  refine WO.pureK 0 (if (0 : Int) ≤ a5 ∧ a5 < ((n2 : Nat) : Int) then some (.pe 2000000 1 (0 + Int.toNat a5) 0) else none) (v := .pe 2000000 1 (0 + Int.toNat a5) 0) (by kernel_rfl) (ite_some hc16) (e1 := [(0, S1 n2), (1, I6 a3), (2, I6 a4), (3, I6 a5), (4, .clo F_g6 C_g6), (14, S1 n2), (15, I6 a3), (16, S1 n2), (17, I6 a5), (18, S1 n2), (19, I6 a5), (20, .pe 2000000 1 (0 + Int.toNat a5) 0), (21, I6 e10), (22, S1 n2), (23, I6 a3), (24, .pe 2000000 1 (0 + Int.toNat a3) 0), (25, I6 e12), (26, .pe 2000000 1 (0 + Int.toNat a3) 0), (27, .pe 2000000 1 (0 + Int.toNat a5) 0), O1 u14]) (by kernel_rfl) ?_
  obtain ⟨u17, hu17, h⟩ := bind_some h
  obtain ⟨y18, hyy18, hzy18⟩ := upd_some hu17
  refine WO.storeK 0 (id := 2000000) (e := 3) (s := 1) (j := (0 + Int.toNat a5)) (off := 0) (vs := [I6 e12]) (xs := (List.map (AV.int .i64) u14)) (zs := (List.map (AV.int .i64) u17)) (y := ((AV.int .i64)) y18) (y' := ((AV.int .i64)) e12) (by kernel_rfl) (upd_get hyy18) (by kernel_rfl) (upd_set hzy18) (e1 := [(0, S1 n2), (1, I6 a3), (2, I6 a4), (3, I6 a5), (4, .clo F_g6 C_g6), (14, S1 n2), (15, I6 a3), (16, S1 n2), (17, I6 a5), (18, S1 n2), (19, I6 a5), (20, .pe 2000000 1 (0 + Int.toNat a5) 0), (21, I6 e10), (22, S1 n2), (23, I6 a3), (24, .pe 2000000 1 (0 + Int.toNat a3) 0), (25, I6 e12), (26, .pe 2000000 1 (0 + Int.toNat a3) 0), (27, .pe 2000000 1 (0 + Int.toNat a5) 0), O1 u17]) (by kernel_rfl) ?_
  refine WO.fin [0, 1, 2, 4, 2000000] [] [] [] (e2 := [(0, S1 n2), (1, I6 a3), (2, I6 a4), (4, .clo F_g6 C_g6), O1 u17]) (by kernel_rfl) (fun _ h => h) ?_
  refine W.seq ?_
  refine W.regT [0, 1, 4, 12, 13, 2000000] [] [] [] (e2 := [(0, S1 n2), (1, I6 a3), (4, .clo F_g6 C_g6), (12, I6 (W6 (a3 + 1))), (13, I6 (W6 (a4 - 1))), O1 u17]) (by kernel_rfl) (by kernel_rfl) (fun _ h => h) ?_
  refine W.seq ?_
  refine W.join (σ := (Int)) (fun s => [(0, S1 n2), (1, I6 a3), (4, .clo F_g6 C_g6), (12, I6 s), (13, I6 (W6 (a4 - 1))), O1 u17]) (fun s => (sl_partitionCmpFunc_int_j20 fuel n2 a3 a4 g6 u17) s = some r) (fun s h => ?_) (fun hK20 => ?_)
  · obtain ⟨v30, rfl⟩ : ∃ x, x = s := ⟨s, rfl⟩
    have h : (sl_partitionCmpFunc_int_j20 fuel n2 a3 a4 g6 u17) v30 = some r := h
    unfold sl_partitionCmpFunc_int_j20 at h
    refine W.seq ?_
    refine W.join (σ := (Int)) (fun s => [(0, S1 n2), (1, I6 a3), (4, .clo F_g6 C_g6), (12, I6 v30), (13, I6 s), O1 u17]) (fun s => (sl_partitionCmpFunc_int_j31 fuel n2 a3 g6 u17 v30) s = some r) (fun s h => ?_) (fun hK31 => ?_)
    · obtain ⟨v41, rfl⟩ : ∃ x, x = s := ⟨s, rfl⟩
      have h : (sl_partitionCmpFunc_int_j31 fuel n2 a3 g6 u17 v30) v41 = some r := h
      unfold sl_partitionCmpFunc_int_j31 at h
      refine W.seq ?_
      refine W.seq ?_
      refine W.regT [0, 1, 4, 12, 13, 71, 2000000] [] [] [] (e2 := [(0, S1 n2), (1, I6 a3), (4, .clo F_g6 C_g6), (12, I6 v30), (13, I6 v41), (71, .bool (decide (v30 > v41))), O1 u17]) (by kernel_rfl) (by kernel_rfl) (fun _ h => h) ?_
      refine W.condB (decide (v30 > v41)) (by kernel_rfl) (fun hb => ?_) (fun hb => ?_)
      · replace h := cond_t hb h
        refine W.seq ?_
        refine W.region (by kernel_rfl) ?_
        obtain ⟨hc45, h⟩ := chk_some h
        refine WO.pureK 6 (if (0 : Int) ≤ a3 ∧ a3 < ((n2 : Nat) : Int) then some (.pe 2000000 1 (0 + Int.toNat a3) 0) else none) (v := .pe 2000000 1 (0 + Int.toNat a3) 0) (by kernel_rfl) (ite_some hc45) (e1 := [(0, S1 n2), (1, I6 a3), (4, .clo F_g6 C_g6), (12, I6 v30), (13, I6 v41), (71, .bool (decide (v30 > v41))), (72, S1 n2), (73, I6 v41), (74, S1 n2), (75, I6 a3), (76, S1 n2), (77, I6 a3), (78, .pe 2000000 1 (0 + Int.toNat a3) 0), O1 u17]) (by kernel_rfl) ?_
        obtain ⟨e46, he46, h⟩ := bind_some h
        refine WO.pureK 0 (match (List.map (AV.int .i64) u17)[(0 + Int.toNat a3)]? with | some y => cut Try.prog 3 (y.cells.map AV.strip) 0 | none => none) (v := I6 e46) (by kernel_rfl) ((pe_ld (f := (AV.int .i64)) (G := (fun y => cut Try.prog 3 (y.cells.map AV.strip) 0)) he46).trans (by kernel_rfl)) (e1 := [(0, S1 n2), (1, I6 a3), (4, .clo F_g6 C_g6), (12, I6 v30), (13, I6 v41), (71, .bool (decide (v30 > v41))), (72, S1 n2), (73, I6 v41), (74, S1 n2), (75, I6 a3), (76, S1 n2), (77, I6 a3), (78, .pe 2000000 1 (0 + Int.toNat a3) 0), (79, I6 e46), O1 u17]) (by kernel_rfl) ?_
        obtain ⟨hc47, h⟩ := chk_some h
        refine WO.pureK 2 (if (0 : Int) ≤ v41 ∧ v41 < ((n2 : Nat) : Int) then some (.pe 2000000 1 (0 + Int.toNat v41) 0) else none) (v := .pe 2000000 1 (0 + Int.toNat v41) 0) (by kernel_rfl) (ite_some hc47) (e1 := [(0, S1 n2), (1, I6 a3), (4, .clo F_g6 C_g6), (12, I6 v30), (13, I6 v41), (71, .bool (decide (v30 > v41))), (72, S1 n2), (73, I6 v41), (74, S1 n2), (75, I6 a3), (76, S1 n2), (77, I6 a3), (78, .pe 2000000 1 (0 + Int.toNat a3) 0), (79, I6 e46), (80, S1 n2), (81, I6 v41), (82, .pe 2000000 1 (0 + Int.toNat v41) 0), O1 u17]) (by kernel_rfl) ?_
        obtain ⟨e48, he48, h⟩ := bind_some h
        refine WO.pureK 0 (match (List.map (AV.int .i64) u17)[(0 + Int.toNat v41)]? with | some y => cut Try.prog 3 (y.cells.map AV.strip) 0 | none => none) (v := I6 e48) (by kernel_rfl) ((pe_ld (f := (AV.int .i64)) (G := (fun y => cut Try.prog 3 (y.cells.map AV.strip) 0)) he48).trans (by kernel_rfl)) (e1 := [(0, S1 n2), (1, I6 a3), (4, .clo F_g6 C_g6), (12, I6 v30), (13, I6 v41), (71, .bool (decide (v30 > v41))), (72, S1 n2), (73, I6 v41), (74, S1 n2), (75, I6 a3), (76, S1 n2), (77, I6 a3), (78, .pe 2000000 1 (0 + Int.toNat a3) 0), (79, I6 e46), (80, S1 n2), (81, I6 v41), (82, .pe 2000000 1 (0 + Int.toNat v41) 0), (83, I6 e48), O1 u17]) (by kernel_rfl) ?_
        obtain ⟨hc49, h⟩ := chk_some h
        refine WO.pureK 0 (if (0 : Int) ≤ v41 ∧ v41 < ((n2 : Nat) : Int) then some (.pe 2000000 1 (0 + Int.toNat v41) 0) else none) (v := .pe 2000000 1 (0 + Int.toNat v41) 0) (by kernel_rfl) (ite_some hc49) (e1 := [(0, S1 n2), (1, I6 a3), (4, .clo F_g6 C_g6), (12, I6 v30), (13, I6 v41), (71, .bool (decide (v30 > v41))), (72, S1 n2), (73, I6 v41), (74, S1 n2), (75, I6 a3), (76, S1 n2), (77, I6 a3), (78, .pe 2000000 1 (0 + Int.toNat a3) 0), (79, I6 e46), (80, S1 n2), (81, I6 v41), (82, .pe 2000000 1 (0 + Int.toNat v41) 0), (83, I6 e48), (84, .pe 2000000 1 (0 + Int.toNat v41) 0), O1 u17]) (by kernel_rfl) ?_
        obtain ⟨u50, hu50, h⟩ := bind_some h
        obtain ⟨y51, hyy51, hzy51⟩ := upd_some hu50
        refine WO.storeK 0 (id := 2000000) (e := 3) (s := 1) (j := (0 + Int.toNat v41)) (off := 0) (vs := [I6 e46]) (xs := (List.map (AV.int .i64) u17)) (zs := (List.map (AV.int .i64) u50)) (y := ((AV.int .i64)) y51) (y' := ((AV.int .i64)) e46) (by kernel_rfl) (upd_get hyy51) (by kernel_rfl) (upd_set hzy51) (e1 := [(0, S1 n2), (1, I6 a3), (4, .clo F_g6 C_g6), (12, I6 v30), (13, I6 v41), (71, .bool (decide (v30 > v41))), (72, S1 n2), (73, I6 v41), (74, S1 n2), (75, I6 a3), (76, S1 n2), (77, I6 a3), (78, .pe 2000000 1 (0 + Int.toNat a3) 0), (79, I6 e46), (80, S1 n2), (81, I6 v41), (82, .pe 2000000 1 (0 + Int.toNat v41) 0), (83, I6 e48), (84, .pe 2000000 1 (0 + Int.toNat v41) 0), O1 u50]) (by kernel_rfl) ?_
        obtain ⟨hc52, h⟩ := chk_some h
        refine WO.pureK 0 (if (0 : Int) ≤ a3 ∧ a3 < ((n2 : Nat) : Int) then some (.pe 2000000 1 (0 + Int.toNat a3) 0) else none) (v := .pe 2000000 1 (0 + Int.toNat a3) 0) (by kernel_rfl) (ite_some hc52) (e1 := [(0, S1 n2), (1, I6 a3), (4, .clo F_g6 C_g6), (12, I6 v30), (13, I6 v41), (71, .bool (decide (v30 > v41))), (72, S1 n2), (73, I6 v41), (74, S1 n2), (75, I6 a3), (76, S1 n2), (77, I6 a3), (78, .pe 2000000 1 (0 + Int.toNat a3) 0), (79, I6 e46), (80, S1 n2), (81, I6 v41), (82, .pe 2000000 1 (0 + Int.toNat v41) 0), (83, I6 e48), (84, .pe 2000000 1 (0 + Int.toNat v41) 0), (85, .pe 2000000 1 (0 + Int.toNat a3) 0), O1 u50]) (by kernel_rfl) ?_
        obtain ⟨u53, hu53, h⟩ := bind_some h
        obtain ⟨y54, hyy54, hzy54⟩ := upd_some hu53
        refine WO.storeK 0 (id := 2000000) (e := 3) (s := 1) (j := (0 + Int.toNat a3)) (off := 0) (vs := [I6 e48]) (xs := (List.map (AV.int .i64) u50)) (zs := (List.map (AV.int .i64) u53)) (y := ((AV.int .i64)) y54) (y' := ((AV.int .i64)) e48) (by kernel_rfl) (upd_get hyy54) (by kernel_rfl) (upd_set hzy54) (e1 := [(0, S1 n2), (1, I6 a3), (4, .clo F_g6 C_g6), (12, I6 v30), (13, I6 v41), (71, .bool (decide (v30 > v41))), (72, S1 n2), (73, I6 v41), (74, S1 n2), (75, I6 a3), (76, S1 n2), (77, I6 a3), (78, .pe 2000000 1 (0 + Int.toNat a3) 0), (79, I6 e46), (80, S1 n2), (81, I6 v41), (82, .pe 2000000 1 (0 + Int.toNat v41) 0), (83, I6 e48), (84, .pe 2000000 1 (0 + Int.toNat v41) 0), (85, .pe 2000000 1 (0 + Int.toNat a3) 0), O1 u53]) (by kernel_rfl) ?_
        refine WO.fin [13, 2000000] [] [] [] (e2 := [(13, I6 v41), O1 u53]) (by kernel_rfl) (fun _ h => h) ?_
        refine W.seq ?_
        refine W.regT [10, 11, 2000000] [] [] [] (e2 := [(10, I6 v41), (11, .bool true), O1 u53]) (by kernel_rfl) (by kernel_rfl) (fun _ h => h) ?_
        refine W.weak [10, 11, 2000000] [] [] [] (env' := [(10, I6 v41), (11, .bool true), O1 u53]) (by kernel_rfl) ?_
        have hr : PostM Try.prog Try.f103 (.tup [I6 v41, .bool true]) [O1 u53] .ret [(10, I6 v41), (11, .bool true), O1 u53] := ⟨by kernel_rfl, by kernel_rfl⟩
        cases h
        exact W.ret hr
      replace h := cond_f hb h
      refine W.skip ?_
      refine W.weak [0, 1, 4, 12, 13, 2000000] [] [] [] (env' := [(0, S1 n2), (1, I6 a3), (4, .clo F_g6 C_g6), (12, I6 v30), (13, I6 v41), O1 u17]) (by kernel_rfl) ?_
      refine W.seq ?_
      refine W.region (by kernel_rfl) ?_
      obtain ⟨hc57, h⟩ := chk_some h
      refine WO.pureK 6 (if (0 : Int) ≤ v41 ∧ v41 < ((n2 : Nat) : Int) then some (.pe 2000000 1 (0 + Int.toNat v41) 0) else none) (v := .pe 2000000 1 (0 + Int.toNat v41) 0) (by kernel_rfl) (ite_some hc57) (e1 := [(0, S1 n2), (1, I6 a3), (4, .clo F_g6 C_g6), (12, I6 v30), (13, I6 v41), (87, S1 n2), (88, I6 v30), (89, S1 n2), (90, I6 v41), (91, S1 n2), (92, I6 v41), (93, .pe 2000000 1 (0 + Int.toNat v41) 0), O1 u17]) (by kernel_rfl) ?_
      obtain ⟨e58, he58, h⟩ := bind_some h
      refine WO.pureK 0 (match (List.map (AV.int .i64) u17)[(0 + Int.toNat v41)]? with | some y => cut Try.prog 3 (y.cells.map AV.strip) 0 | none => none) (v := I6 e58) (by kernel_rfl) ((pe_ld (f := (AV.int .i64)) (G := (fun y => cut Try.prog 3 (y.cells.map AV.strip) 0)) he58).trans (by kernel_rfl)) (e1 := [(0, S1 n2), (1, I6 a3), (4, .clo F_g6 C_g6), (12, I6 v30), (13, I6 v41), (87, S1 n2), (88, I6 v30), (89, S1 n2), (90, I6 v41), (91, S1 n2), (92, I6 v41), (93, .pe 2000000 1 (0 + Int.toNat v41) 0), (94, I6 e58), O1 u17]) (by kernel_rfl) ?_
      obtain ⟨hc59, h⟩ := chk_some h
      refine WO.pureK 2 (if (0 : Int) ≤ v30 ∧ v30 < ((n2 : Nat) : Int) then some (.pe 2000000 1 (0 + Int.toNat v30) 0) else none) (v := .pe 2000000 1 (0 + Int.toNat v30) 0) (by kernel_rfl) (ite_some hc59) (e1 := [(0, S1 n2), (1, I6 a3), (4, .clo F_g6 C_g6), (12, I6 v30), (13, I6 v41), (87, S1 n2), (88, I6 v30), (89, S1 n2), (90, I6 v41), (91, S1 n2), (92, I6 v41), (93, .pe 2000000 1 (0 + Int.toNat v41) 0), (94, I6 e58), (95, S1 n2), (96, I6 v30), (97, .pe 2000000 1 (0 + Int.toNat v30) 0), O1 u17]) (by kernel_rfl) ?_
      obtain ⟨e60, he60, h⟩ := bind_some h
      refine WO.pureK 0 (match (List.map (AV.int .i64) u17)[(0 + Int.toNat v30)]? with | some y => cut Try.prog 3 (y.cells.map AV.strip) 0 | none => none) (v := I6 e60) (by kernel_rfl) ((pe_ld (f := (AV.int .i64)) (G := (fun y => cut Try.prog 3 (y.cells.map AV.strip) 0)) he60).trans (by kernel_rfl)) (e1 := [(0, S1 n2), (1, I6 a3), (4, .clo F_g6 C_g6), (12, I6 v30), (13, I6 v41), (87, S1 n2), (88, I6 v30), (89, S1 n2), (90, I6 v41), (91, S1 n2), (92, I6 v41), (93, .pe 2000000 1 (0 + Int.toNat v41) 0), (94, I6 e58), (95, S1 n2), (96, I6 v30), (97, .pe 2000000 1 (0 + Int.toNat v30) 0), (98, I6 e60), O1 u17]) (by kernel_rfl) ?_
      obtain ⟨hc61, h⟩ := chk_some h
      refine WO.pureK 0 (if (0 : Int) ≤ v30 ∧ v30 < ((n2 : Nat) : Int) then some (.pe 2000000 1 (0 + Int.toNat v30) 0) else none) (v := .pe 2000000 1 (0 + Int.toNat v30) 0) (by kernel_rfl) (ite_some hc61) (e1 := [(0, S1 n2), (1, I6 a3), (4, .clo F_g6 C_g6), (12, I6 v30), (13, I6 v41), (87, S1 n2), (88, I6 v30), (89, S1 n2), (90, I6 v41), (91, S1 n2), (92, I6 v41), (93, .pe 2000000 1 (0 + Int.toNat v41) 0), (94, I6 e58), (95, S1 n2), (96, I6 v30), (97, .pe 2000000 1 (0 + Int.toNat v30) 0), (98, I6 e60), (99, .pe 2000000 1 (0 + Int.toNat v30) 0), O1 u17]) (by kernel_rfl) ?_
      obtain ⟨u62, hu62, h⟩ := bind_some h
      obtain ⟨y63, hyy63, hzy63⟩ := upd_some hu62
      refine WO.storeK 0 (id := 2000000) (e := 3) (s := 1) (j := (0 + Int.toNat v30)) (off := 0) (vs := [I6 e58]) (xs := (List.map (AV.int .i64) u17)) (zs := (List.map (AV.int .i64) u62)) (y := ((AV.int .i64)) y63) (y' := ((AV.int .i64)) e58) (by kernel_rfl) (upd_get hyy63) (by kernel_rfl) (upd_set hzy63) (e1 := [(0, S1 n2), (1, I6 a3), (4, .clo F_g6 C_g6), (12, I6 v30), (13, I6 v41), (87, S1 n2), (88, I6 v30), (89, S1 n2), (90, I6 v41), (91, S1 n2), (92, I6 v41), (93, .pe 2000000 1 (0 + Int.toNat v41) 0), (94, I6 e58), (95, S1 n2), (96, I6 v30), (97, .pe 2000000 1 (0 + Int.toNat v30) 0), (98, I6 e60), (99, .pe 2000000 1 (0 + Int.toNat v30) 0), O1 u62]) (by kernel_rfl) ?_
      obtain ⟨hc64, h⟩ := chk_some h
      refine WO.pureK 0 (if (0 : Int) ≤ v41 ∧ v41 < ((n2 : Nat) : Int) then some (.pe 2000000 1 (0 + Int.toNat v41) 0) else none) (v := .pe 2000000 1 (0 + Int.toNat v41) 0) (by kernel_rfl) (ite_some hc64) (e1 := [(0, S1 n2), (1, I6 a3), (4, .clo F_g6 C_g6), (12, I6 v30), (13, I6 v41), (87, S1 n2), (88, I6 v30), (89, S1 n2), (90, I6 v41), (91, S1 n2), (92, I6 v41), (93, .pe 2000000 1 (0 + Int.toNat v41) 0), (94, I6 e58), (95, S1 n2), (96, I6 v30), (97, .pe 2000000 1 (0 + Int.toNat v30) 0), (98, I6 e60), (99, .pe 2000000 1 (0 + Int.toNat v30) 0), (100, .pe 2000000 1 (0 + Int.toNat v41) 0), O1 u62]) (by kernel_rfl) ?_
      obtain ⟨u65, hu65, h⟩ := bind_some h
      obtain ⟨y66, hyy66, hzy66⟩ := upd_some hu65
      refine WO.storeK 0 (id := 2000000) (e := 3) (s := 1) (j := (0 + Int.toNat v41)) (off := 0) (vs := [I6 e60]) (xs := (List.map (AV.int .i64) u62)) (zs := (List.map (AV.int .i64) u65)) (y := ((AV.int .i64)) y66) (y' := ((AV.int .i64)) e60) (by kernel_rfl) (upd_get hyy66) (by kernel_rfl) (upd_set hzy66) (e1 := [(0, S1 n2), (1, I6 a3), (4, .clo F_g6 C_g6), (12, I6 v30), (13, I6 v41), (87, S1 n2), (88, I6 v30), (89, S1 n2), (90, I6 v41), (91, S1 n2), (92, I6 v41), (93, .pe 2000000 1 (0 + Int.toNat v41) 0), (94, I6 e58), (95, S1 n2), (96, I6 v30), (97, .pe 2000000 1 (0 + Int.toNat v30) 0), (98, I6 e60), (99, .pe 2000000 1 (0 + Int.toNat v30) 0), (100, .pe 2000000 1 (0 + Int.toNat v41) 0), O1 u65]) (by kernel_rfl) ?_
      refine WO.fin [0, 1, 4, 12, 13, 2000000] [] [] [] (e2 := [(0, S1 n2), (1, I6 a3), (4, .clo F_g6 C_g6), (12, I6 v30), (13, I6 v41), O1 u65]) (by kernel_rfl) (fun _ h => h) ?_
      refine W.seq ?_
      refine W.regT [0, 1, 4, 12, 13, 2000000] [] [] [] (e2 := [(0, S1 n2), (1, I6 a3), (4, .clo F_g6 C_g6), (12, I6 (W6 (v30 + 1))), (13, I6 v41), O1 u65]) (by kernel_rfl) (by kernel_rfl) (fun _ h => h) ?_
      refine W.seq ?_
      refine W.regT [0, 1, 4, 12, 13, 2000000] [] [] [] (e2 := [(0, S1 n2), (1, I6 a3), (4, .clo F_g6 C_g6), (12, I6 (W6 (v30 + 1))), (13, I6 (W6 (v41 - 1))), O1 u65]) (by kernel_rfl) (by kernel_rfl) (fun _ h => h) ?_
      refine W.seq ?_
      refine W.join (σ := ((List Int) × Int)) (fun s => [(0, S1 n2), (1, I6 a3), (13, I6 s.2), (2000000, .obj 3 1 (List.map (AV.int .i64) s.1))]) (fun s => (sl_partitionCmpFunc_int_j69 n2 a3) s.1 s.2 = some r) (fun s h => ?_) (fun hK69 => ?_)
      · obtain ⟨v109, v110⟩ := s
        have h : (sl_partitionCmpFunc_int_j69 n2 a3) v109 v110 = some r := h
        unfold sl_partitionCmpFunc_int_j69 at h
        refine W.seq ?_
        refine W.region (by kernel_rfl) ?_
        obtain ⟨hc112, h⟩ := chk_some h
        refine WO.pureK 6 (if (0 : Int) ≤ a3 ∧ a3 < ((n2 : Nat) : Int) then some (.pe 2000000 1 (0 + Int.toNat a3) 0) else none) (v := .pe 2000000 1 (0 + Int.toNat a3) 0) (by kernel_rfl) (ite_some hc112) (e1 := [(0, S1 n2), (1, I6 a3), (13, I6 v110), (163, S1 n2), (164, I6 v110), (165, S1 n2), (166, I6 a3), (167, S1 n2), (168, I6 a3), (169, .pe 2000000 1 (0 + Int.toNat a3) 0), O1 v109]) (by kernel_rfl) ?_
        obtain ⟨e113, he113, h⟩ := bind_some h
        refine WO.pureK 0 (match (List.map (AV.int .i64) v109)[(0 + Int.toNat a3)]? with | some y => cut Try.prog 3 (y.cells.map AV.strip) 0 | none => none) (v := I6 e113) (by kernel_rfl) ((pe_ld (f := (AV.int .i64)) (G := (fun y => cut Try.prog 3 (y.cells.map AV.strip) 0)) he113).trans (by kernel_rfl)) (e1 := [(0, S1 n2), (1, I6 a3), (13, I6 v110), (163, S1 n2), (164, I6 v110), (165, S1 n2), (166, I6 a3), (167, S1 n2), (168, I6 a3), (169, .pe 2000000 1 (0 + Int.toNat a3) 0), (170, I6 e113), O1 v109]) (by kernel_rfl) ?_
        obtain ⟨hc114, h⟩ := chk_some h
        refine WO.pureK 2 (if (0 : Int) ≤ v110 ∧ v110 < ((n2 : Nat) : Int) then some (.pe 2000000 1 (0 + Int.toNat v110) 0) else none) (v := .pe 2000000 1 (0 + Int.toNat v110) 0) (by kernel_rfl) (ite_some hc114) (e1 := [(0, S1 n2), (1, I6 a3), (13, I6 v110), (163, S1 n2), (164, I6 v110), (165, S1 n2), (166, I6 a3), (167, S1 n2), (168, I6 a3), (169, .pe 2000000 1 (0 + Int.toNat a3) 0), (170, I6 e113), (171, S1 n2), (172, I6 v110), (173, .pe 2000000 1 (0 + Int.toNat v110) 0), O1 v109]) (by kernel_rfl) ?_
        obtain ⟨e115, he115, h⟩ := bind_some h
        refine WO.pureK 0 (match (List.map (AV.int .i64) v109)[(0 + Int.toNat v110)]? with | some y => cut Try.prog 3 (y.cells.map AV.strip) 0 | none => none) (v := I6 e115) (by kernel_rfl) ((pe_ld (f := (AV.int .i64)) (G := (fun y => cut Try.prog 3 (y.cells.map AV.strip) 0)) he115).trans (by kernel_rfl)) (e1 := [(0, S1 n2), (1, I6 a3), (13, I6 v110), (163, S1 n2), (164, I6 v110), (165, S1 n2), (166, I6 a3), (167, S1 n2), (168, I6 a3), (169, .pe 2000000 1 (0 + Int.toNat a3) 0), (170, I6 e113), (171, S1 n2), (172, I6 v110), (173, .pe 2000000 1 (0 + Int.toNat v110) 0), (174, I6 e115), O1 v109]) (by kernel_rfl) ?_
        obtain ⟨hc116, h⟩ := chk_some h
        refine WO.pureK 0 (if (0 : Int) ≤ v110 ∧ v110 < ((n2 : Nat) : Int) then some (.pe 2000000 1 (0 + Int.toNat v110) 0) else none) (v := .pe 2000000 1 (0 + Int.toNat v110) 0) (by kernel_rfl) (ite_some hc116) (e1 := [(0, S1 n2), (1, I6 a3), (13, I6 v110), (163, S1 n2), (164, I6 v110), (165, S1 n2), (166, I6 a3), (167, S1 n2), (168, I6 a3), (169, .pe 2000000 1 (0 + Int.toNat a3) 0), (170, I6 e113), (171, S1 n2), (172, I6 v110), (173, .pe 2000000 1 (0 + Int.toNat v110) 0), (174, I6 e115), (175, .pe 2000000 1 (0 + Int.toNat v110) 0), O1 v109]) (by kernel_rfl) ?_
        obtain ⟨u117, hu117, h⟩ := bind_some h
        obtain ⟨y118, hyy118, hzy118⟩ := upd_some hu117
        refine WO.storeK 0 (id := 2000000) (e := 3) (s := 1) (j := (0 + Int.toNat v110)) (off := 0) (vs := [I6 e113]) (xs := (List.map (AV.int .i64) v109)) (zs := (List.map (AV.int .i64) u117)) (y := ((AV.int .i64)) y118) (y' := ((AV.int .i64)) e113) (by kernel_rfl) (upd_get hyy118) (by kernel_rfl) (upd_set hzy118) (e1 := [(0, S1 n2), (1, I6 a3), (13, I6 v110), (163, S1 n2), (164, I6 v110), (165, S1 n2), (166, I6 a3), (167, S1 n2), (168, I6 a3), (169, .pe 2000000 1 (0 + Int.toNat a3) 0), (170, I6 e113), (171, S1 n2), (172, I6 v110), (173, .pe 2000000 1 (0 + Int.toNat v110) 0), (174, I6 e115), (175, .pe 2000000 1 (0 + Int.toNat v110) 0), O1 u117]) (by kernel_rfl) ?_
        obtain ⟨hc119, h⟩ := chk_some h
        refine WO.pureK 0 (if (0 : Int) ≤ a3 ∧ a3 < ((n2 : Nat) : Int) then some (.pe 2000000 1 (0 + Int.toNat a3) 0) else none) (v := .pe 2000000 1 (0 + Int.toNat a3) 0) (by kernel_rfl) (ite_some hc119) (e1 := [(0, S1 n2), (1, I6 a3), (13, I6 v110), (163, S1 n2), (164, I6 v110), (165, S1 n2), (166, I6 a3), (167, S1 n2), (168, I6 a3), (169, .pe 2000000 1 (0 + Int.toNat a3) 0), (170, I6 e113), (171, S1 n2), (172, I6 v110), (173, .pe 2000000 1 (0 + Int.toNat v110) 0), (174, I6 e115), (175, .pe 2000000 1 (0 + Int.toNat v110) 0), (176, .pe 2000000 1 (0 + Int.toNat a3) 0), O1 u117]) (by kernel_rfl) ?_
        obtain ⟨u120, hu120, h⟩ := bind_some h
        obtain ⟨y121, hyy121, hzy121⟩ := upd_some hu120
        refine WO.storeK 0 (id := 2000000) (e := 3) (s := 1) (j := (0 + Int.toNat a3)) (off := 0) (vs := [I6 e115]) (xs := (List.map (AV.int .i64) u117)) (zs := (List.map (AV.int .i64) u120)) (y := ((AV.int .i64)) y121) (y' := ((AV.int .i64)) e115) (by kernel_rfl) (upd_get hyy121) (by kernel_rfl) (upd_set hzy121) (e1 := [(0, S1 n2), (1, I6 a3), (13, I6 v110), (163, S1 n2), (164, I6 v110), (165, S1 n2), (166, I6 a3), (167, S1 n2), (168, I6 a3), (169, .pe 2000000 1 (0 + Int.toNat a3) 0), (170, I6 e113), (171, S1 n2), (172, I6 v110), (173, .pe 2000000 1 (0 + Int.toNat v110) 0), (174, I6 e115), (175, .pe 2000000 1 (0 + Int.toNat v110) 0), (176, .pe 2000000 1 (0 + Int.toNat a3) 0), O1 u120]) (by kernel_rfl) ?_
        refine WO.fin [13, 2000000] [] [] [] (e2 := [(13, I6 v110), O1 u120]) (by kernel_rfl) (fun _ h => h) ?_
        refine W.seq ?_
        refine W.regT [10, 11, 2000000] [] [] [] (e2 := [(10, I6 v110), (11, .bool false), O1 u120]) (by kernel_rfl) (by kernel_rfl) (fun _ h => h) ?_
        refine W.weak [10, 11, 2000000] [] [] [] (env' := [(10, I6 v110), (11, .bool false), O1 u120]) (by kernel_rfl) ?_
        have hr : PostM Try.prog Try.f103 (.tup [I6 v110, .bool false]) [O1 u120] .ret [(10, I6 v110), (11, .bool false), O1 u120] := ⟨by kernel_rfl, by kernel_rfl⟩
        cases h
        exact W.ret hr
      refine W.block ?_
      refine W.weak [0, 1, 4, 12, 13, 2000000] [] [] [] (env' := [(0, S1 n2), (1, I6 a3), (4, .clo F_g6 C_g6), (12, I6 (W6 (v30 + 1))), (13, I6 (W6 (v41 - 1))), O1 u65]) (by kernel_rfl) ?_
      refine W.fuel (σ := ((List Int) × Int × Int)) (fun s => [(0, S1 n2), (1, I6 a3), (4, .clo F_g6 C_g6), (12, I6 s.2.1), (13, I6 s.2.2), (2000000, .obj 3 1 (List.map (AV.int .i64) s.1))]) (fun m0 s => sl_partitionCmpFunc_int_l3 fuel n2 a3 g6 (sl_partitionCmpFunc_int_j69 n2 a3) m0 s.1 s.2.1 s.2.2 = some r) (fun s h => ?_) (fun m3 s h hN3 => ?_) fuel (u65, (W6 (v30 + 1)), (W6 (v41 - 1))) h
      · obtain ⟨v70, v71, v72⟩ := s
        have h : sl_partitionCmpFunc_int_l3 fuel n2 a3 g6 (sl_partitionCmpFunc_int_j69 n2 a3) 0 v70 v71 v72 = some r := h
        rw [sl_partitionCmpFunc_int_l3.eq_1] at h
        cases h
      · obtain ⟨v70, v71, v72⟩ := s
        have h : sl_partitionCmpFunc_int_l3 fuel n2 a3 g6 (sl_partitionCmpFunc_int_j69 n2 a3) (m3 + 1) v70 v71 v72 = some r := h
        rw [sl_partitionCmpFunc_int_l3.eq_2] at h
        refine W.block ?_
        refine W.seq ?_
        refine W.join (σ := (Int)) (fun s => [(0, S1 n2), (1, I6 a3), (4, .clo F_g6 C_g6), (12, I6 s), (13, I6 v72), O1 v70]) (fun s => (sl_partitionCmpFunc_int_j73 fuel n2 a3 g6 v70 v72 (sl_partitionCmpFunc_int_l3 fuel n2 a3 g6 (sl_partitionCmpFunc_int_j69 n2 a3) m3) (sl_partitionCmpFunc_int_j69 n2 a3)) s = some r) (fun s h => ?_) (fun hK73 => ?_)
        · obtain ⟨v83, rfl⟩ : ∃ x, x = s := ⟨s, rfl⟩
          have h : (sl_partitionCmpFunc_int_j73 fuel n2 a3 g6 v70 v72 (sl_partitionCmpFunc_int_l3 fuel n2 a3 g6 (sl_partitionCmpFunc_int_j69 n2 a3) m3) (sl_partitionCmpFunc_int_j69 n2 a3)) v83 = some r := h
          unfold sl_partitionCmpFunc_int_j73 at h
          refine W.seq ?_
          refine W.join (σ := (Int)) (fun s => [(0, S1 n2), (1, I6 a3), (4, .clo F_g6 C_g6), (12, I6 v83), (13, I6 s), O1 v70]) (fun s => (sl_partitionCmpFunc_int_j84 n2 v70 v83 (sl_partitionCmpFunc_int_l3 fuel n2 a3 g6 (sl_partitionCmpFunc_int_j69 n2 a3) m3) (sl_partitionCmpFunc_int_j69 n2 a3)) s = some r) (fun s h => ?_) (fun hK84 => ?_)
          · obtain ⟨v94, rfl⟩ : ∃ x, x = s := ⟨s, rfl⟩
            have h : (sl_partitionCmpFunc_int_j84 n2 v70 v83 (sl_partitionCmpFunc_int_l3 fuel n2 a3 g6 (sl_partitionCmpFunc_int_j69 n2 a3) m3) (sl_partitionCmpFunc_int_j69 n2 a3)) v94 = some r := h
            unfold sl_partitionCmpFunc_int_j84 at h
            refine W.seq ?_
            refine W.seq ?_
            refine W.regT [0, 1, 4, 12, 13, 144, 2000000] [] [] [] (e2 := [(0, S1 n2), (1, I6 a3), (4, .clo F_g6 C_g6), (12, I6 v83), (13, I6 v94), (144, .bool (decide (v83 > v94))), O1 v70]) (by kernel_rfl) (by kernel_rfl) (fun _ h => h) ?_
            refine W.condB (decide (v83 > v94)) (by kernel_rfl) (fun hb => ?_) (fun hb => ?_)
            · replace h := cond_t hb h
              refine W.exit ?_
              refine W.weak [0, 1, 13, 2000000] [] [] [] (env' := [(0, S1 n2), (1, I6 a3), (13, I6 v94), O1 v70]) (by kernel_rfl) ?_
              exact hK69 (v70, v94) h
            replace h := cond_f hb h
            refine W.skip ?_
            refine W.weak [0, 1, 4, 12, 13, 2000000] [] [] [] (env' := [(0, S1 n2), (1, I6 a3), (4, .clo F_g6 C_g6), (12, I6 v83), (13, I6 v94), O1 v70]) (by kernel_rfl) ?_
            refine W.seq ?_
            refine W.region (by kernel_rfl) ?_
            obtain ⟨hc98, h⟩ := chk_some h
            refine WO.pureK 6 (if (0 : Int) ≤ v94 ∧ v94 < ((n2 : Nat) : Int) then some (.pe 2000000 1 (0 + Int.toNat v94) 0) else none) (v := .pe 2000000 1 (0 + Int.toNat v94) 0) (by kernel_rfl) (ite_some hc98) (e1 := [(0, S1 n2), (1, I6 a3), (4, .clo F_g6 C_g6), (12, I6 v83), (13, I6 v94), (145, S1 n2), (146, I6 v83), (147, S1 n2), (148, I6 v94), (149, S1 n2), (150, I6 v94), (151, .pe 2000000 1 (0 + Int.toNat v94) 0), O1 v70]) (by kernel_rfl) ?_
            obtain ⟨e99, he99, h⟩ := bind_some h
            refine WO.pureK 0 (match (List.map (AV.int .i64) v70)[(0 + Int.toNat v94)]? with | some y => cut Try.prog 3 (y.cells.map AV.strip) 0 | none => none) (v := I6 e99) (by kernel_rfl) ((pe_ld (f := (AV.int .i64)) (G := (fun y => cut Try.prog 3 (y.cells.map AV.strip) 0)) he99).trans (by kernel_rfl)) (e1 := [(0, S1 n2), (1, I6 a3), (4, .clo F_g6 C_g6), (12, I6 v83), (13, I6 v94), (145, S1 n2), (146, I6 v83), (147, S1 n2), (148, I6 v94), (149, S1 n2), (150, I6 v94), (151, .pe 2000000 1 (0 + Int.toNat v94) 0), (152, I6 e99), O1 v70]) (by kernel_rfl) ?_
            obtain ⟨hc100, h⟩ := chk_some h
            refine WO.pureK 2 (if (0 : Int) ≤ v83 ∧ v83 < ((n2 : Nat) : Int) then some (.pe 2000000 1 (0 + Int.toNat v83) 0) else none) (v := .pe 2000000 1 (0 + Int.toNat v83) 0) (by kernel_rfl) (ite_some hc100) (e1 := [(0, S1 n2), (1, I6 a3), (4, .clo F_g6 C_g6), (12, I6 v83), (13, I6 v94), (145, S1 n2), (146, I6 v83), (147, S1 n2), (148, I6 v94), (149, S1 n2), (150, I6 v94), (151, .pe 2000000 1 (0 + Int.toNat v94) 0), (152, I6 e99), (153, S1 n2), (154, I6 v83), (155, .pe 2000000 1 (0 + Int.toNat v83) 0), O1 v70]) (by kernel_rfl) ?_
            obtain ⟨e101, he101, h⟩ := bind_some h
            refine WO.pureK 0 (match (List.map (AV.int .i64) v70)[(0 + Int.toNat v83)]? with | some y => cut Try.prog 3 (y.cells.map AV.strip) 0 | none => none) (v := I6 e101) (by kernel_rfl) ((pe_ld (f := (AV.int .i64)) (G := (fun y => cut Try.prog 3 (y.cells.map AV.strip) 0)) he101).trans (by kernel_rfl)) (e1 := [(0, S1 n2), (1, I6 a3), (4, .clo F_g6 C_g6), (12, I6 v83), (13, I6 v94), (145, S1 n2), (146, I6 v83), (147, S1 n2), (148, I6 v94), (149, S1 n2), (150, I6 v94), (151, .pe 2000000 1 (0 + Int.toNat v94) 0), (152, I6 e99), (153, S1 n2), (154, I6 v83), (155, .pe 2000000 1 (0 + Int.toNat v83) 0), (156, I6 e101), O1 v70]) (by kernel_rfl) ?_
            obtain ⟨hc102, h⟩ := chk_some h
            refine WO.pureK 0 (if (0 : Int) ≤ v83 ∧ v83 < ((n2 : Nat) : Int) then some (.pe 2000000 1 (0 + Int.toNat v83) 0) else none) (v := .pe 2000000 1 (0 + Int.toNat v83) 0) (by kernel_rfl) (ite_some hc102) (e1 := [(0, S1 n2), (1, I6 a3), (4, .clo F_g6 C_g6), (12, I6 v83), (13, I6 v94), (145, S1 n2), (146, I6 v83), (147, S1 n2), (148, I6 v94), (149, S1 n2), (150, I6 v94), (151, .pe 2000000 1 (0 + Int.toNat v94) 0), (152, I6 e99), (153, S1 n2), (154, I6 v83), (155, .pe 2000000 1 (0 + Int.toNat v83) 0), (156, I6 e101), (157, .pe 2000000 1 (0 + Int.toNat v83) 0), O1 v70]) (by kernel_rfl) ?_
            obtain ⟨u103, hu103, h⟩ := bind_some h
            obtain ⟨y104, hyy104, hzy104⟩ := upd_some hu103
            refine WO.storeK 0 (id := 2000000) (e := 3) (s := 1) (j := (0 + Int.toNat v83)) (off := 0) (vs := [I6 e99]) (xs := (List.map (AV.int .i64) v70)) (zs := (List.map (AV.int .i64) u103)) (y := ((AV.int .i64)) y104) (y' := ((AV.int .i64)) e99) (by kernel_rfl) (upd_get hyy104) (by kernel_rfl) (upd_set hzy104) (e1 := [(0, S1 n2), (1, I6 a3), (4, .clo F_g6 C_g6), (12, I6 v83), (13, I6 v94), (145, S1 n2), (146, I6 v83), (147, S1 n2), (148, I6 v94), (149, S1 n2), (150, I6 v94), (151, .pe 2000000 1 (0 + Int.toNat v94) 0), (152, I6 e99), (153, S1 n2), (154, I6 v83), (155, .pe 2000000 1 (0 + Int.toNat v83) 0), (156, I6 e101), (157, .pe 2000000 1 (0 + Int.toNat v83) 0), O1 u103]) (by kernel_rfl) ?_
            obtain ⟨hc105, h⟩ := chk_some h
            refine WO.pureK 0 (if (0 : Int) ≤ v94 ∧ v94 < ((n2 : Nat) : Int) then some (.pe 2000000 1 (0 + Int.toNat v94) 0) else none) (v := .pe 2000000 1 (0 + Int.toNat v94) 0) (by kernel_rfl) (ite_some hc105) (e1 := [(0, S1 n2), (1, I6 a3), (4, .clo F_g6 C_g6), (12, I6 v83), (13, I6 v94), (145, S1 n2), (146, I6 v83), (147, S1 n2), (148, I6 v94), (149, S1 n2), (150, I6 v94), (151, .pe 2000000 1 (0 + Int.toNat v94) 0), (152, I6 e99), (153, S1 n2), (154, I6 v83), (155, .pe 2000000 1 (0 + Int.toNat v83) 0), (156, I6 e101), (157, .pe 2000000 1 (0 + Int.toNat v83) 0), (158, .pe 2000000 1 (0 + Int.toNat v94) 0), O1 u103]) (by kernel_rfl) ?_
            obtain ⟨u106, hu106, h⟩ := bind_some h
            obtain ⟨y107, hyy107, hzy107⟩ := upd_some hu106
            refine WO.storeK 0 (id := 2000000) (e := 3) (s := 1) (j := (0 + Int.toNat v94)) (off := 0) (vs := [I6 e101]) (xs := (List.map (AV.int .i64) u103)) (zs := (List.map (AV.int .i64) u106)) (y := ((AV.int .i64)) y107) (y' := ((AV.int .i64)) e101) (by kernel_rfl) (upd_get hyy107) (by kernel_rfl) (upd_set hzy107) (e1 := [(0, S1 n2), (1, I6 a3), (4, .clo F_g6 C_g6), (12, I6 v83), (13, I6 v94), (145, S1 n2), (146, I6 v83), (147, S1 n2), (148, I6 v94), (149, S1 n2), (150, I6 v94), (151, .pe 2000000 1 (0 + Int.toNat v94) 0), (152, I6 e99), (153, S1 n2), (154, I6 v83), (155, .pe 2000000 1 (0 + Int.toNat v83) 0), (156, I6 e101), (157, .pe 2000000 1 (0 + Int.toNat v83) 0), (158, .pe 2000000 1 (0 + Int.toNat v94) 0), O1 u106]) (by kernel_rfl) ?_
            refine WO.fin [0, 1, 4, 12, 13, 2000000] [] [] [] (e2 := [(0, S1 n2), (1, I6 a3), (4, .clo F_g6 C_g6), (12, I6 v83), (13, I6 v94), O1 u106]) (by kernel_rfl) (fun _ h => h) ?_
            refine W.seq ?_
            refine W.regT [0, 1, 4, 12, 13, 2000000] [] [] [] (e2 := [(0, S1 n2), (1, I6 a3), (4, .clo F_g6 C_g6), (12, I6 (W6 (v83 + 1))), (13, I6 v94), O1 u106]) (by kernel_rfl) (by kernel_rfl) (fun _ h => h) ?_
            refine W.regT [0, 1, 4, 12, 13, 2000000] [] [] [] (e2 := [(0, S1 n2), (1, I6 a3), (4, .clo F_g6 C_g6), (12, I6 (W6 (v83 + 1))), (13, I6 (W6 (v94 - 1))), O1 u106]) (by kernel_rfl) (by kernel_rfl) (fun _ h => h) ?_
            exact hN3 (u106, (W6 (v83 + 1)), (W6 (v94 - 1))) h
          refine W.block ?_
          refine W.weak [0, 1, 4, 12, 13, 2000000] [] [] [] (env' := [(0, S1 n2), (1, I6 a3), (4, .clo F_g6 C_g6), (12, I6 v83), (13, I6 v72), O1 v70]) (by kernel_rfl) ?_
          refine W.fuel (σ := (Int)) (fun s => [(0, S1 n2), (1, I6 a3), (4, .clo F_g6 C_g6), (12, I6 v83), (13, I6 s), O1 v70]) (fun m0 s => sl_partitionCmpFunc_int_l5 n2 a3 g6 v70 v83 (sl_partitionCmpFunc_int_j84 n2 v70 v83 (sl_partitionCmpFunc_int_l3 fuel n2 a3 g6 (sl_partitionCmpFunc_int_j69 n2 a3) m3) (sl_partitionCmpFunc_int_j69 n2 a3)) m0 s = some r) (fun s h => ?_) (fun m5 s h hN5 => ?_) fuel v72 h
          · obtain ⟨v85, rfl⟩ : ∃ x, x = s := ⟨s, rfl⟩
            have h : sl_partitionCmpFunc_int_l5 n2 a3 g6 v70 v83 (sl_partitionCmpFunc_int_j84 n2 v70 v83 (sl_partitionCmpFunc_int_l3 fuel n2 a3 g6 (sl_partitionCmpFunc_int_j69 n2 a3) m3) (sl_partitionCmpFunc_int_j69 n2 a3)) 0 v85 = some r := h
            rw [sl_partitionCmpFunc_int_l5.eq_1] at h
            cases h
          · obtain ⟨v85, rfl⟩ : ∃ x, x = s := ⟨s, rfl⟩
            have h : sl_partitionCmpFunc_int_l5 n2 a3 g6 v70 v83 (sl_partitionCmpFunc_int_j84 n2 v70 v83 (sl_partitionCmpFunc_int_l3 fuel n2 a3 g6 (sl_partitionCmpFunc_int_j69 n2 a3) m3) (sl_partitionCmpFunc_int_j69 n2 a3)) (m5 + 1) v85 = some r := h
            rw [sl_partitionCmpFunc_int_l5.eq_2] at h
            refine W.seq ?_
            refine W.seq ?_
            refine W.join (σ := (Bool)) (fun s => [(0, S1 n2), (1, I6 a3), (4, .clo F_g6 C_g6), (12, I6 v83), (13, I6 v85), (139, .bool s), O1 v70]) (fun s => (sl_partitionCmpFunc_int_j87 v85 (sl_partitionCmpFunc_int_l5 n2 a3 g6 v70 v83 (sl_partitionCmpFunc_int_j84 n2 v70 v83 (sl_partitionCmpFunc_int_l3 fuel n2 a3 g6 (sl_partitionCmpFunc_int_j69 n2 a3) m3) (sl_partitionCmpFunc_int_j69 n2 a3)) m5) (sl_partitionCmpFunc_int_j84 n2 v70 v83 (sl_partitionCmpFunc_int_l3 fuel n2 a3 g6 (sl_partitionCmpFunc_int_j69 n2 a3) m3) (sl_partitionCmpFunc_int_j69 n2 a3))) s = some r) (fun s h => ?_) (fun hK87 => ?_)
            · obtain ⟨v93, rfl⟩ : ∃ x, x = s := ⟨s, rfl⟩
              have h : (sl_partitionCmpFunc_int_j87 v85 (sl_partitionCmpFunc_int_l5 n2 a3 g6 v70 v83 (sl_partitionCmpFunc_int_j84 n2 v70 v83 (sl_partitionCmpFunc_int_l3 fuel n2 a3 g6 (sl_partitionCmpFunc_int_j69 n2 a3) m3) (sl_partitionCmpFunc_int_j69 n2 a3)) m5) (sl_partitionCmpFunc_int_j84 n2 v70 v83 (sl_partitionCmpFunc_int_l3 fuel n2 a3 g6 (sl_partitionCmpFunc_int_j69 n2 a3) m3) (sl_partitionCmpFunc_int_j69 n2 a3))) v93 = some r := h
              unfold sl_partitionCmpFunc_int_j87 at h
              refine W.condB v93 (by kernel_rfl) (fun hb => ?_) (fun hb => ?_)
              · replace h := cond_t hb h
                refine W.skip ?_
                refine W.weak [0, 1, 4, 12, 13, 2000000] [] [] [] (env' := [(0, S1 n2), (1, I6 a3), (4, .clo F_g6 C_g6), (12, I6 v83), (13, I6 v85), O1 v70]) (by kernel_rfl) ?_
                refine W.block ?_
                refine W.regT [0, 1, 4, 12, 13, 2000000] [] [] [] (e2 := [(0, S1 n2), (1, I6 a3), (4, .clo F_g6 C_g6), (12, I6 v83), (13, I6 (W6 (v85 - 1))), O1 v70]) (by kernel_rfl) (by kernel_rfl) (fun _ h => h) ?_
                exact hN5 (W6 (v85 - 1)) h
              replace h := cond_f hb h
              refine W.exit ?_
              refine W.weak [0, 1, 4, 12, 13, 2000000] [] [] [] (env' := [(0, S1 n2), (1, I6 a3), (4, .clo F_g6 C_g6), (12, I6 v83), (13, I6 v85), O1 v70]) (by kernel_rfl) ?_
              exact hK84 v85 h
            refine W.region (by kernel_rfl) ?_
            refine WO.boolK 4 (fun b => [(0, S1 n2), (1, I6 a3), (4, .clo F_g6 C_g6), (12, I6 v83), (13, I6 v85), (123, I6 v83), (124, I6 v85), (125, .bool b), (126, .bool b), O1 v70]) (decide (v83 ≤ v85)) (by kernel_rfl) (fun hb => ?_) (fun hb => ?_)
            · replace h := cond_t hb h
              obtain ⟨hc88, h⟩ := chk_some h
              refine WO.pureK 3 (if (0 : Int) ≤ v85 ∧ v85 < ((n2 : Nat) : Int) then some (.pe 2000000 1 (0 + Int.toNat v85) 0) else none) (v := .pe 2000000 1 (0 + Int.toNat v85) 0) (by kernel_rfl) (ite_some hc88) (e1 := [(0, S1 n2), (1, I6 a3), (4, .clo F_g6 C_g6), (12, I6 v83), (13, I6 v85), (123, I6 v83), (124, I6 v85), (125, .bool true), (126, .bool true), (127, .clo F_g6 C_g6), (128, S1 n2), (129, I6 v85), (130, .pe 2000000 1 (0 + Int.toNat v85) 0), O1 v70]) (by kernel_rfl) ?_
              obtain ⟨e89, he89, h⟩ := bind_some h
              refine WO.pureK 0 (match (List.map (AV.int .i64) v70)[(0 + Int.toNat v85)]? with | some y => cut Try.prog 3 (y.cells.map AV.strip) 0 | none => none) (v := I6 e89) (by kernel_rfl) ((pe_ld (f := (AV.int .i64)) (G := (fun y => cut Try.prog 3 (y.cells.map AV.strip) 0)) he89).trans (by kernel_rfl)) (e1 := [(0, S1 n2), (1, I6 a3), (4, .clo F_g6 C_g6), (12, I6 v83), (13, I6 v85), (123, I6 v83), (124, I6 v85), (125, .bool true), (126, .bool true), (127, .clo F_g6 C_g6), (128, S1 n2), (129, I6 v85), (130, .pe 2000000 1 (0 + Int.toNat v85) 0), (131, I6 e89), O1 v70]) (by kernel_rfl) ?_
              obtain ⟨hc90, h⟩ := chk_some h
              refine WO.pureK 2 (if (0 : Int) ≤ a3 ∧ a3 < ((n2 : Nat) : Int) then some (.pe 2000000 1 (0 + Int.toNat a3) 0) else none) (v := .pe 2000000 1 (0 + Int.toNat a3) 0) (by kernel_rfl) (ite_some hc90) (e1 := [(0, S1 n2), (1, I6 a3), (4, .clo F_g6 C_g6), (12, I6 v83), (13, I6 v85), (123, I6 v83), (124, I6 v85), (125, .bool true), (126, .bool true), (127, .clo F_g6 C_g6), (128, S1 n2), (129, I6 v85), (130, .pe 2000000 1 (0 + Int.toNat v85) 0), (131, I6 e89), (132, S1 n2), (133, I6 a3), (134, .pe 2000000 1 (0 + Int.toNat a3) 0), O1 v70]) (by kernel_rfl) ?_
              obtain ⟨e91, he91, h⟩ := bind_some h
              refine WO.pureK 0 (match (List.map (AV.int .i64) v70)[(0 + Int.toNat a3)]? with | some y => cut Try.prog 3 (y.cells.map AV.strip) 0 | none => none) (v := I6 e91) (by kernel_rfl) ((pe_ld (f := (AV.int .i64)) (G := (fun y => cut Try.prog 3 (y.cells.map AV.strip) 0)) he91).trans (by kernel_rfl)) (e1 := [(0, S1 n2), (1, I6 a3), (4, .clo F_g6 C_g6), (12, I6 v83), (13, I6 v85), (123, I6 v83), (124, I6 v85), (125, .bool true), (126, .bool true), (127, .clo F_g6 C_g6), (128, S1 n2), (129, I6 v85), (130, .pe 2000000 1 (0 + Int.toNat v85) 0), (131, I6 e89), (132, S1 n2), (133, I6 a3), (134, .pe 2000000 1 (0 + Int.toNat a3) 0), (135, I6 e91), O1 v70]) (by kernel_rfl) ?_
              obtain ⟨w92, hw92, h⟩ := bind_some h
              refine WO.callK 0 (F := F_g6) (l := [I6 e89, I6 e91]) (C := C_g6) (r := I6 w92) (by kernel_rfl) hok_g6 (hrun_g6 e89 e91 w92 hw92) (e1 := [(0, S1 n2), (1, I6 a3), (4, .clo F_g6 C_g6), (12, I6 v83), (13, I6 v85), (123, I6 v83), (124, I6 v85), (125, .bool true), (126, .bool true), (127, .clo F_g6 C_g6), (128, S1 n2), (129, I6 v85), (130, .pe 2000000 1 (0 + Int.toNat v85) 0), (131, I6 e89), (132, S1 n2), (133, I6 a3), (134, .pe 2000000 1 (0 + Int.toNat a3) 0), (135, I6 e91), (136, I6 w92), O1 v70]) (by kernel_rfl) ?_
              refine WO.fin [0, 1, 4, 12, 13, 139, 2000000] [] [] [] (e2 := [(0, S1 n2), (1, I6 a3), (4, .clo F_g6 C_g6), (12, I6 v83), (13, I6 v85), (139, .bool (!(decide (w92 < 0)))), O1 v70]) (by kernel_rfl) (fun _ h => h) ?_
              exact hK87 (!(decide (w92 < 0))) h
            replace h := cond_f hb h
            refine WO.fin [0, 1, 4, 12, 13, 139, 2000000] [] [] [] (e2 := [(0, S1 n2), (1, I6 a3), (4, .clo F_g6 C_g6), (12, I6 v83), (13, I6 v85), (139, .bool false), O1 v70]) (by kernel_rfl) (fun _ h => h) ?_
            exact hK87 false h
        refine W.block ?_
        refine W.weak [0, 1, 4, 12, 13, 2000000] [] [] [] (env' := [(0, S1 n2), (1, I6 a3), (4, .clo F_g6 C_g6), (12, I6 v71), (13, I6 v72), O1 v70]) (by kernel_rfl) ?_
        refine W.fuel (σ := (Int)) (fun s => [(0, S1 n2), (1, I6 a3), (4, .clo F_g6 C_g6), (12, I6 s), (13, I6 v72), O1 v70]) (fun m0 s => sl_partitionCmpFunc_int_l4 n2 a3 g6 v70 v72 (sl_partitionCmpFunc_int_j73 fuel n2 a3 g6 v70 v72 (sl_partitionCmpFunc_int_l3 fuel n2 a3 g6 (sl_partitionCmpFunc_int_j69 n2 a3) m3) (sl_partitionCmpFunc_int_j69 n2 a3)) m0 s = some r) (fun s h => ?_) (fun m4 s h hN4 => ?_) fuel v71 h
        · obtain ⟨v74, rfl⟩ : ∃ x, x = s := ⟨s, rfl⟩
          have h : sl_partitionCmpFunc_int_l4 n2 a3 g6 v70 v72 (sl_partitionCmpFunc_int_j73 fuel n2 a3 g6 v70 v72 (sl_partitionCmpFunc_int_l3 fuel n2 a3 g6 (sl_partitionCmpFunc_int_j69 n2 a3) m3) (sl_partitionCmpFunc_int_j69 n2 a3)) 0 v74 = some r := h
          rw [sl_partitionCmpFunc_int_l4.eq_1] at h
          cases h
        · obtain ⟨v74, rfl⟩ : ∃ x, x = s := ⟨s, rfl⟩
          have h : sl_partitionCmpFunc_int_l4 n2 a3 g6 v70 v72 (sl_partitionCmpFunc_int_j73 fuel n2 a3 g6 v70 v72 (sl_partitionCmpFunc_int_l3 fuel n2 a3 g6 (sl_partitionCmpFunc_int_j69 n2 a3) m3) (sl_partitionCmpFunc_int_j69 n2 a3)) (m4 + 1) v74 = some r := h
          rw [sl_partitionCmpFunc_int_l4.eq_2] at h
          refine W.seq ?_
          refine W.seq ?_
          refine W.join (σ := (Bool)) (fun s => [(0, S1 n2), (1, I6 a3), (4, .clo F_g6 C_g6), (12, I6 v74), (13, I6 v72), (120, .bool s), O1 v70]) (fun s => (sl_partitionCmpFunc_int_j76 v74 (sl_partitionCmpFunc_int_l4 n2 a3 g6 v70 v72 (sl_partitionCmpFunc_int_j73 fuel n2 a3 g6 v70 v72 (sl_partitionCmpFunc_int_l3 fuel n2 a3 g6 (sl_partitionCmpFunc_int_j69 n2 a3) m3) (sl_partitionCmpFunc_int_j69 n2 a3)) m4) (sl_partitionCmpFunc_int_j73 fuel n2 a3 g6 v70 v72 (sl_partitionCmpFunc_int_l3 fuel n2 a3 g6 (sl_partitionCmpFunc_int_j69 n2 a3) m3) (sl_partitionCmpFunc_int_j69 n2 a3))) s = some r) (fun s h => ?_) (fun hK76 => ?_)
          · obtain ⟨v82, rfl⟩ : ∃ x, x = s := ⟨s, rfl⟩
            have h : (sl_partitionCmpFunc_int_j76 v74 (sl_partitionCmpFunc_int_l4 n2 a3 g6 v70 v72 (sl_partitionCmpFunc_int_j73 fuel n2 a3 g6 v70 v72 (sl_partitionCmpFunc_int_l3 fuel n2 a3 g6 (sl_partitionCmpFunc_int_j69 n2 a3) m3) (sl_partitionCmpFunc_int_j69 n2 a3)) m4) (sl_partitionCmpFunc_int_j73 fuel n2 a3 g6 v70 v72 (sl_partitionCmpFunc_int_l3 fuel n2 a3 g6 (sl_partitionCmpFunc_int_j69 n2 a3) m3) (sl_partitionCmpFunc_int_j69 n2 a3))) v82 = some r := h
            unfold sl_partitionCmpFunc_int_j76 at h
            refine W.condB v82 (by kernel_rfl) (fun hb => ?_) (fun hb => ?_)
            · replace h := cond_t hb h
              refine W.skip ?_
              refine W.weak [0, 1, 4, 12, 13, 2000000] [] [] [] (env' := [(0, S1 n2), (1, I6 a3), (4, .clo F_g6 C_g6), (12, I6 v74), (13, I6 v72), O1 v70]) (by kernel_rfl) ?_
              refine W.block ?_
              refine W.regT [0, 1, 4, 12, 13, 2000000] [] [] [] (e2 := [(0, S1 n2), (1, I6 a3), (4, .clo F_g6 C_g6), (12, I6 (W6 (v74 + 1))), (13, I6 v72), O1 v70]) (by kernel_rfl) (by kernel_rfl) (fun _ h => h) ?_
              exact hN4 (W6 (v74 + 1)) h
            replace h := cond_f hb h
            refine W.exit ?_
            refine W.weak [0, 1, 4, 12, 13, 2000000] [] [] [] (env' := [(0, S1 n2), (1, I6 a3), (4, .clo F_g6 C_g6), (12, I6 v74), (13, I6 v72), O1 v70]) (by kernel_rfl) ?_
            exact hK73 v74 h
          refine W.region (by kernel_rfl) ?_
          refine WO.boolK 4 (fun b => [(0, S1 n2), (1, I6 a3), (4, .clo F_g6 C_g6), (12, I6 v74), (13, I6 v72), (105, I6 v74), (106, I6 v72), (107, .bool b), (108, .bool b), O1 v70]) (decide (v74 ≤ v72)) (by kernel_rfl) (fun hb => ?_) (fun hb => ?_)
          · replace h := cond_t hb h
            obtain ⟨hc77, h⟩ := chk_some h
            refine WO.pureK 3 (if (0 : Int) ≤ v74 ∧ v74 < ((n2 : Nat) : Int) then some (.pe 2000000 1 (0 + Int.toNat v74) 0) else none) (v := .pe 2000000 1 (0 + Int.toNat v74) 0) (by kernel_rfl) (ite_some hc77) (e1 := [(0, S1 n2), (1, I6 a3), (4, .clo F_g6 C_g6), (12, I6 v74), (13, I6 v72), (105, I6 v74), (106, I6 v72), (107, .bool true), (108, .bool true), (109, .clo F_g6 C_g6), (110, S1 n2), (111, I6 v74), (112, .pe 2000000 1 (0 + Int.toNat v74) 0), O1 v70]) (by kernel_rfl) ?_
            obtain ⟨e78, he78, h⟩ := bind_some h
            refine WO.pureK 0 (match (List.map (AV.int .i64) v70)[(0 + Int.toNat v74)]? with | some y => cut Try.prog 3 (y.cells.map AV.strip) 0 | none => none) (v := I6 e78) (by kernel_rfl) ((pe_ld (f := (AV.int .i64)) (G := (fun y => cut Try.prog 3 (y.cells.map AV.strip) 0)) he78).trans (by kernel_rfl)) (e1 := [(0, S1 n2), (1, I6 a3), (4, .clo F_g6 C_g6), (12, I6 v74), (13, I6 v72), (105, I6 v74), (106, I6 v72), (107, .bool true), (108, .bool true), (109, .clo F_g6 C_g6), (110, S1 n2), (111, I6 v74), (112, .pe 2000000 1 (0 + Int.toNat v74) 0), (113, I6 e78), O1 v70]) (by kernel_rfl) ?_
            obtain ⟨hc79, h⟩ := chk_some h
            refine WO.pureK 2 (if (0 : Int) ≤ a3 ∧ a3 < ((n2 : Nat) : Int) then some (.pe 2000000 1 (0 + Int.toNat a3) 0) else none) (v := .pe 2000000 1 (0 + Int.toNat a3) 0) (by kernel_rfl) (ite_some hc79) (e1 := [(0, S1 n2), (1, I6 a3), (4, .clo F_g6 C_g6), (12, I6 v74), (13, I6 v72), (105, I6 v74), (106, I6 v72), (107, .bool true), (108, .bool true), (109, .clo F_g6 C_g6), (110, S1 n2), (111, I6 v74), (112, .pe 2000000 1 (0 + Int.toNat v74) 0), (113, I6 e78), (114, S1 n2), (115, I6 a3), (116, .pe 2000000 1 (0 + Int.toNat a3) 0), O1 v70]) (by kernel_rfl) ?_
            obtain ⟨e80, he80, h⟩ := bind_some h
            refine WO.pureK 0 (match (List.map (AV.int .i64) v70)[(0 + Int.toNat a3)]? with | some y => cut Try.prog 3 (y.cells.map AV.strip) 0 | none => none) (v := I6 e80) (by kernel_rfl) ((pe_ld (f := (AV.int .i64)) (G := (fun y => cut Try.prog 3 (y.cells.map AV.strip) 0)) he80).trans (by kernel_rfl)) (e1 := [(0, S1 n2), (1, I6 a3), (4, .clo F_g6 C_g6), (12, I6 v74), (13, I6 v72), (105, I6 v74), (106, I6 v72), (107, .bool true), (108, .bool true), (109, .clo F_g6 C_g6), (110, S1 n2), (111, I6 v74), (112, .pe 2000000 1 (0 + Int.toNat v74) 0), (113, I6 e78), (114, S1 n2), (115, I6 a3), (116, .pe 2000000 1 (0 + Int.toNat a3) 0), (117, I6 e80), O1 v70]) (by kernel_rfl) ?_
            obtain ⟨w81, hw81, h⟩ := bind_some h
            refine WO.callK 0 (F := F_g6) (l := [I6 e78, I6 e80]) (C := C_g6) (r := I6 w81) (by kernel_rfl) hok_g6 (hrun_g6 e78 e80 w81 hw81) (e1 := [(0, S1 n2), (1, I6 a3), (4, .clo F_g6 C_g6), (12, I6 v74), (13, I6 v72), (105, I6 v74), (106, I6 v72), (107, .bool true), (108, .bool true), (109, .clo F_g6 C_g6), (110, S1 n2), (111, I6 v74), (112, .pe 2000000 1 (0 + Int.toNat v74) 0), (113, I6 e78), (114, S1 n2), (115, I6 a3), (116, .pe 2000000 1 (0 + Int.toNat a3) 0), (117, I6 e80), (118, I6 w81), O1 v70]) (by kernel_rfl) ?_
            refine WO.fin [0, 1, 4, 12, 13, 120, 2000000] [] [] [] (e2 := [(0, S1 n2), (1, I6 a3), (4, .clo F_g6 C_g6), (12, I6 v74), (13, I6 v72), (120, .bool (decide (w81 < 0))), O1 v70]) (by kernel_rfl) (fun _ h => h) ?_
            exact hK76 (decide (w81 < 0)) h
          replace h := cond_f hb h
          refine WO.fin [0, 1, 4, 12, 13, 120, 2000000] [] [] [] (e2 := [(0, S1 n2), (1, I6 a3), (4, .clo F_g6 C_g6), (12, I6 v74), (13, I6 v72), (120, .bool false), O1 v70]) (by kernel_rfl) (fun _ h => h) ?_
          exact hK76 false h
    refine W.block ?_
    refine W.weak [0, 1, 4, 12, 13, 2000000] [] [] [] (env' := [(0, S1 n2), (1, I6 a3), (4, .clo F_g6 C_g6), (12, I6 v30), (13, I6 (W6 (a4 - 1))), O1 u17]) (by kernel_rfl) ?_
    refine W.fuel (σ := (Int)) (fun s => [(0, S1 n2), (1, I6 a3), (4, .clo F_g6 C_g6), (12, I6 v30), (13, I6 s), O1 u17]) (fun m0 s => sl_partitionCmpFunc_int_l2 n2 a3 g6 u17 v30 (sl_partitionCmpFunc_int_j31 fuel n2 a3 g6 u17 v30) m0 s = some r) (fun s h => ?_) (fun m2 s h hN2 => ?_) fuel (W6 (a4 - 1)) h
    · obtain ⟨v32, rfl⟩ : ∃ x, x = s := ⟨s, rfl⟩
      have h : sl_partitionCmpFunc_int_l2 n2 a3 g6 u17 v30 (sl_partitionCmpFunc_int_j31 fuel n2 a3 g6 u17 v30) 0 v32 = some r := h
      rw [sl_partitionCmpFunc_int_l2.eq_1] at h
      cases h
    · obtain ⟨v32, rfl⟩ : ∃ x, x = s := ⟨s, rfl⟩
      have h : sl_partitionCmpFunc_int_l2 n2 a3 g6 u17 v30 (sl_partitionCmpFunc_int_j31 fuel n2 a3 g6 u17 v30) (m2 + 1) v32 = some r := h
      rw [sl_partitionCmpFunc_int_l2.eq_2] at h
      refine W.seq ?_
      refine W.seq ?_
      refine W.join (σ := (Bool)) (fun s => [(0, S1 n2), (1, I6 a3), (4, .clo F_g6 C_g6), (12, I6 v30), (13, I6 v32), (66, .bool s), O1 u17]) (fun s => (sl_partitionCmpFunc_int_j34 v32 (sl_partitionCmpFunc_int_l2 n2 a3 g6 u17 v30 (sl_partitionCmpFunc_int_j31 fuel n2 a3 g6 u17 v30) m2) (sl_partitionCmpFunc_int_j31 fuel n2 a3 g6 u17 v30)) s = some r) (fun s h => ?_) (fun hK34 => ?_)
      · obtain ⟨v40, rfl⟩ : ∃ x, x = s := ⟨s, rfl⟩
        have h : (sl_partitionCmpFunc_int_j34 v32 (sl_partitionCmpFunc_int_l2 n2 a3 g6 u17 v30 (sl_partitionCmpFunc_int_j31 fuel n2 a3 g6 u17 v30) m2) (sl_partitionCmpFunc_int_j31 fuel n2 a3 g6 u17 v30)) v40 = some r := h
        unfold sl_partitionCmpFunc_int_j34 at h
        refine W.condB v40 (by kernel_rfl) (fun hb => ?_) (fun hb => ?_)
        · replace h := cond_t hb h
          refine W.skip ?_
          refine W.weak [0, 1, 4, 12, 13, 2000000] [] [] [] (env' := [(0, S1 n2), (1, I6 a3), (4, .clo F_g6 C_g6), (12, I6 v30), (13, I6 v32), O1 u17]) (by kernel_rfl) ?_
          refine W.block ?_
          refine W.regT [0, 1, 4, 12, 13, 2000000] [] [] [] (e2 := [(0, S1 n2), (1, I6 a3), (4, .clo F_g6 C_g6), (12, I6 v30), (13, I6 (W6 (v32 - 1))), O1 u17]) (by kernel_rfl) (by kernel_rfl) (fun _ h => h) ?_
          exact hN2 (W6 (v32 - 1)) h
        replace h := cond_f hb h
        refine W.exit ?_
        refine W.weak [0, 1, 4, 12, 13, 2000000] [] [] [] (env' := [(0, S1 n2), (1, I6 a3), (4, .clo F_g6 C_g6), (12, I6 v30), (13, I6 v32), O1 u17]) (by kernel_rfl) ?_
        exact hK31 v32 h
      refine W.region (by kernel_rfl) ?_
      refine WO.boolK 4 (fun b => [(0, S1 n2), (1, I6 a3), (4, .clo F_g6 C_g6), (12, I6 v30), (13, I6 v32), (50, I6 v30), (51, I6 v32), (52, .bool b), (53, .bool b), O1 u17]) (decide (v30 ≤ v32)) (by kernel_rfl) (fun hb => ?_) (fun hb => ?_)
      · replace h := cond_t hb h
        obtain ⟨hc35, h⟩ := chk_some h
        refine WO.pureK 3 (if (0 : Int) ≤ v32 ∧ v32 < ((n2 : Nat) : Int) then some (.pe 2000000 1 (0 + Int.toNat v32) 0) else none) (v := .pe 2000000 1 (0 + Int.toNat v32) 0) (by kernel_rfl) (ite_some hc35) (e1 := [(0, S1 n2), (1, I6 a3), (4, .clo F_g6 C_g6), (12, I6 v30), (13, I6 v32), (50, I6 v30), (51, I6 v32), (52, .bool true), (53, .bool true), (54, .clo F_g6 C_g6), (55, S1 n2), (56, I6 v32), (57, .pe 2000000 1 (0 + Int.toNat v32) 0), O1 u17]) (by kernel_rfl) ?_
        obtain ⟨e36, he36, h⟩ := bind_some h
        refine WO.pureK 0 (match (List.map (AV.int .i64) u17)[(0 + Int.toNat v32)]? with | some y => cut Try.prog 3 (y.cells.map AV.strip) 0 | none => none) (v := I6 e36) (by kernel_rfl) ((pe_ld (f := (AV.int .i64)) (G := (fun y => cut Try.prog 3 (y.cells.map AV.strip) 0)) he36).trans (by kernel_rfl)) (e1 := [(0, S1 n2), (1, I6 a3), (4, .clo F_g6 C_g6), (12, I6 v30), (13, I6 v32), (50, I6 v30), (51, I6 v32), (52, .bool true), (53, .bool true), (54, .clo F_g6 C_g6), (55, S1 n2), (56, I6 v32), (57, .pe 2000000 1 (0 + Int.toNat v32) 0), (58, I6 e36), O1 u17]) (by kernel_rfl) ?_
        obtain ⟨hc37, h⟩ := chk_some h
        refine WO.pureK 2 (if (0 : Int) ≤ a3 ∧ a3 < ((n2 : Nat) : Int) then some (.pe 2000000 1 (0 + Int.toNat a3) 0) else none) (v := .pe 2000000 1 (0 + Int.toNat a3) 0) (by kernel_rfl) (ite_some hc37) (e1 := [(0, S1 n2), (1, I6 a3), (4, .clo F_g6 C_g6), (12, I6 v30), (13, I6 v32), (50, I6 v30), (51, I6 v32), (52, .bool true), (53, .bool true), (54, .clo F_g6 C_g6), (55, S1 n2), (56, I6 v32), (57, .pe 2000000 1 (0 + Int.toNat v32) 0), (58, I6 e36), (59, S1 n2), (60, I6 a3), (61, .pe 2000000 1 (0 + Int.toNat a3) 0), O1 u17]) (by kernel_rfl) ?_
        obtain ⟨e38, he38, h⟩ := bind_some h
        refine WO.pureK 0 (match (List.map (AV.int .i64) u17)[(0 + Int.toNat a3)]? with | some y => cut Try.prog 3 (y.cells.map AV.strip) 0 | none => none) (v := I6 e38) (by kernel_rfl) ((pe_ld (f := (AV.int .i64)) (G := (fun y => cut Try.prog 3 (y.cells.map AV.strip) 0)) he38).trans (by kernel_rfl)) (e1 := [(0, S1 n2), (1, I6 a3), (4, .clo F_g6 C_g6), (12, I6 v30), (13, I6 v32), (50, I6 v30), (51, I6 v32), (52, .bool true), (53, .bool true), (54, .clo F_g6 C_g6), (55, S1 n2), (56, I6 v32), (57, .pe 2000000 1 (0 + Int.toNat v32) 0), (58, I6 e36), (59, S1 n2), (60, I6 a3), (61, .pe 2000000 1 (0 + Int.toNat a3) 0), (62, I6 e38), O1 u17]) (by kernel_rfl) ?_
        obtain ⟨w39, hw39, h⟩ := bind_some h
        refine WO.callK 0 (F := F_g6) (l := [I6 e36, I6 e38]) (C := C_g6) (r := I6 w39) (by kernel_rfl) hok_g6 (hrun_g6 e36 e38 w39 hw39) (e1 := [(0, S1 n2), (1, I6 a3), (4, .clo F_g6 C_g6), (12, I6 v30), (13, I6 v32), (50, I6 v30), (51, I6 v32), (52, .bool true), (53, .bool true), (54, .clo F_g6 C_g6), (55, S1 n2), (56, I6 v32), (57, .pe 2000000 1 (0 + Int.toNat v32) 0), (58, I6 e36), (59, S1 n2), (60, I6 a3), (61, .pe 2000000 1 (0 + Int.toNat a3) 0), (62, I6 e38), (63, I6 w39), O1 u17]) (by kernel_rfl) ?_
        refine WO.fin [0, 1, 4, 12, 13, 66, 2000000] [] [] [] (e2 := [(0, S1 n2), (1, I6 a3), (4, .clo F_g6 C_g6), (12, I6 v30), (13, I6 v32), (66, .bool (!(decide (w39 < 0)))), O1 u17]) (by kernel_rfl) (fun _ h => h) ?_
        exact hK34 (!(decide (w39 < 0))) h
      replace h := cond_f hb h
      refine WO.fin [0, 1, 4, 12, 13, 66, 2000000] [] [] [] (e2 := [(0, S1 n2), (1, I6 a3), (4, .clo F_g6 C_g6), (12, I6 v30), (13, I6 v32), (66, .bool false), O1 u17]) (by kernel_rfl) (fun _ h => h) ?_
      exact hK34 false h
  refine W.block ?_
  refine W.weak [0, 1, 4, 12, 13, 2000000] [] [] [] (env' := [(0, S1 n2), (1, I6 a3), (4, .clo F_g6 C_g6), (12, I6 (W6 (a3 + 1))), (13, I6 (W6 (a4 - 1))), O1 u17]) (by kernel_rfl) ?_
  refine W.fuel (σ := (Int)) (fun s => [(0, S1 n2), (1, I6 a3), (4, .clo F_g6 C_g6), (12, I6 s), (13, I6 (W6 (a4 - 1))), O1 u17]) (fun m0 s => sl_partitionCmpFunc_int_l1 n2 a3 a4 g6 u17 (sl_partitionCmpFunc_int_j20 fuel n2 a3 a4 g6 u17) m0 s = some r) (fun s h => ?_) (fun m1 s h hN1 => ?_) fuel (W6 (a3 + 1)) h
  · obtain ⟨v21, rfl⟩ : ∃ x, x = s := ⟨s, rfl⟩
    have h : sl_partitionCmpFunc_int_l1 n2 a3 a4 g6 u17 (sl_partitionCmpFunc_int_j20 fuel n2 a3 a4 g6 u17) 0 v21 = some r := h
    rw [sl_partitionCmpFunc_int_l1.eq_1] at h
    cases h
  · obtain ⟨v21, rfl⟩ : ∃ x, x = s := ⟨s, rfl⟩
    have h : sl_partitionCmpFunc_int_l1 n2 a3 a4 g6 u17 (sl_partitionCmpFunc_int_j20 fuel n2 a3 a4 g6 u17) (m1 + 1) v21 = some r := h
    rw [sl_partitionCmpFunc_int_l1.eq_2] at h
    refine W.seq ?_
    refine W.seq ?_
    refine W.join (σ := (Bool)) (fun s => [(0, S1 n2), (1, I6 a3), (4, .clo F_g6 C_g6), (12, I6 v21), (13, I6 (W6 (a4 - 1))), (47, .bool s), O1 u17]) (fun s => (sl_partitionCmpFunc_int_j23 v21 (sl_partitionCmpFunc_int_l1 n2 a3 a4 g6 u17 (sl_partitionCmpFunc_int_j20 fuel n2 a3 a4 g6 u17) m1) (sl_partitionCmpFunc_int_j20 fuel n2 a3 a4 g6 u17)) s = some r) (fun s h => ?_) (fun hK23 => ?_)
    · obtain ⟨v29, rfl⟩ : ∃ x, x = s := ⟨s, rfl⟩
      have h : (sl_partitionCmpFunc_int_j23 v21 (sl_partitionCmpFunc_int_l1 n2 a3 a4 g6 u17 (sl_partitionCmpFunc_int_j20 fuel n2 a3 a4 g6 u17) m1) (sl_partitionCmpFunc_int_j20 fuel n2 a3 a4 g6 u17)) v29 = some r := h
      unfold sl_partitionCmpFunc_int_j23 at h
      refine W.condB v29 (by kernel_rfl) (fun hb => ?_) (fun hb => ?_)
      · replace h := cond_t hb h
        refine W.skip ?_
        refine W.weak [0, 1, 4, 12, 13, 2000000] [] [] [] (env' := [(0, S1 n2), (1, I6 a3), (4, .clo F_g6 C_g6), (12, I6 v21), (13, I6 (W6 (a4 - 1))), O1 u17]) (by kernel_rfl) ?_
        refine W.block ?_
        refine W.regT [0, 1, 4, 12, 13, 2000000] [] [] [] (e2 := [(0, S1 n2), (1, I6 a3), (4, .clo F_g6 C_g6), (12, I6 (W6 (v21 + 1))), (13, I6 (W6 (a4 - 1))), O1 u17]) (by kernel_rfl) (by kernel_rfl) (fun _ h => h) ?_
        exact hN1 (W6 (v21 + 1)) h
      replace h := cond_f hb h
      refine W.exit ?_
      refine W.weak [0, 1, 4, 12, 13, 2000000] [] [] [] (env' := [(0, S1 n2), (1, I6 a3), (4, .clo F_g6 C_g6), (12, I6 v21), (13, I6 (W6 (a4 - 1))), O1 u17]) (by kernel_rfl) ?_
      exact hK20 v21 h
    refine W.region (by kernel_rfl) ?_
    refine WO.boolK 4 (fun b => [(0, S1 n2), (1, I6 a3), (4, .clo F_g6 C_g6), (12, I6 v21), (13, I6 (W6 (a4 - 1))), (32, I6 v21), (33, I6 (W6 (a4 - 1))), (34, .bool b), (35, .bool b), O1 u17]) (decide (v21 ≤ (W6 (a4 - 1)))) (by kernel_rfl) (fun hb => ?_) (fun hb => ?_)
    · replace h := cond_t hb h
      obtain ⟨hc24, h⟩ := chk_some h
      refine WO.pureK 3 (if (0 : Int) ≤ v21 ∧ v21 < ((n2 : Nat) : Int) then some (.pe 2000000 1 (0 + Int.toNat v21) 0) else none) (v := .pe 2000000 1 (0 + Int.toNat v21) 0) (by kernel_rfl) (ite_some hc24) (e1 := [(0, S1 n2), (1, I6 a3), (4, .clo F_g6 C_g6), (12, I6 v21), (13, I6 (W6 (a4 - 1))), (32, I6 v21), (33, I6 (W6 (a4 - 1))), (34, .bool true), (35, .bool true), (36, .clo F_g6 C_g6), (37, S1 n2), (38, I6 v21), (39, .pe 2000000 1 (0 + Int.toNat v21) 0), O1 u17]) (by kernel_rfl) ?_
      obtain ⟨e25, he25, h⟩ := bind_some h
      refine WO.pureK 0 (match (List.map (AV.int .i64) u17)[(0 + Int.toNat v21)]? with | some y => cut Try.prog 3 (y.cells.map AV.strip) 0 | none => none) (v := I6 e25) (by kernel_rfl) ((pe_ld (f := (AV.int .i64)) (G := (fun y => cut Try.prog 3 (y.cells.map AV.strip) 0)) he25).trans (by kernel_rfl)) (e1 := [(0, S1 n2), (1, I6 a3), (4, .clo F_g6 C_g6), (12, I6 v21), (13, I6 (W6 (a4 - 1))), (32, I6 v21), (33, I6 (W6 (a4 - 1))), (34, .bool true), (35, .bool true), (36, .clo F_g6 C_g6), (37, S1 n2), (38, I6 v21), (39, .pe 2000000 1 (0 + Int.toNat v21) 0), (40, I6 e25), O1 u17]) (by kernel_rfl) ?_
      obtain ⟨hc26, h⟩ := chk_some h
      refine WO.pureK 2 (if (0 : Int) ≤ a3 ∧ a3 < ((n2 : Nat) : Int) then some (.pe 2000000 1 (0 + Int.toNat a3) 0) else none) (v := .pe 2000000 1 (0 + Int.toNat a3) 0) (by kernel_rfl) (ite_some hc26) (e1 := [(0, S1 n2), (1, I6 a3), (4, .clo F_g6 C_g6), (12, I6 v21), (13, I6 (W6 (a4 - 1))), (32, I6 v21), (33, I6 (W6 (a4 - 1))), (34, .bool true), (35, .bool true), (36, .clo F_g6 C_g6), (37, S1 n2), (38, I6 v21), (39, .pe 2000000 1 (0 + Int.toNat v21) 0), (40, I6 e25), (41, S1 n2), (42, I6 a3), (43, .pe 2000000 1 (0 + Int.toNat a3) 0), O1 u17]) (by kernel_rfl) ?_
      obtain ⟨e27, he27, h⟩ := bind_some h
      refine WO.pureK 0 (match (List.map (AV.int .i64) u17)[(0 + Int.toNat a3)]? with | some y => cut Try.prog 3 (y.cells.map AV.strip) 0 | none => none) (v := I6 e27) (by kernel_rfl) ((pe_ld (f := (AV.int .i64)) (G := (fun y => cut Try.prog 3 (y.cells.map AV.strip) 0)) he27).trans (by kernel_rfl)) (e1 := [(0, S1 n2), (1, I6 a3), (4, .clo F_g6 C_g6), (12, I6 v21), (13, I6 (W6 (a4 - 1))), (32, I6 v21), (33, I6 (W6 (a4 - 1))), (34, .bool true), (35, .bool true), (36, .clo F_g6 C_g6), (37, S1 n2), (38, I6 v21), (39, .pe 2000000 1 (0 + Int.toNat v21) 0), (40, I6 e25), (41, S1 n2), (42, I6 a3), (43, .pe 2000000 1 (0 + Int.toNat a3) 0), (44, I6 e27), O1 u17]) (by kernel_rfl) ?_
      obtain ⟨w28, hw28, h⟩ := bind_some h
      refine WO.callK 0 (F := F_g6) (l := [I6 e25, I6 e27]) (C := C_g6) (r := I6 w28) (by kernel_rfl) hok_g6 (hrun_g6 e25 e27 w28 hw28) (e1 := [(0, S1 n2), (1, I6 a3), (4, .clo F_g6 C_g6), (12, I6 v21), (13, I6 (W6 (a4 - 1))), (32, I6 v21), (33, I6 (W6 (a4 - 1))), (34, .bool true), (35, .bool true), (36, .clo F_g6 C_g6), (37, S1 n2), (38, I6 v21), (39, .pe 2000000 1 (0 + Int.toNat v21) 0), (40, I6 e25), (41, S1 n2), (42, I6 a3), (43, .pe 2000000 1 (0 + Int.toNat a3) 0), (44, I6 e27), (45, I6 w28), O1 u17]) (by kernel_rfl) ?_
      refine WO.fin [0, 1, 4, 12, 13, 47, 2000000] [] [] [] (e2 := [(0, S1 n2), (1, I6 a3), (4, .clo F_g6 C_g6), (12, I6 v21), (13, I6 (W6 (a4 - 1))), (47, .bool (decide (w28 < 0))), O1 u17]) (by kernel_rfl) (fun _ h => h) ?_
      exact hK23 (decide (w28 < 0)) h
    replace h := cond_f hb h
    refine WO.fin [0, 1, 4, 12, 13, 47, 2000000] [] [] [] (e2 := [(0, S1 n2), (1, I6 a3), (4, .clo F_g6 C_g6), (12, I6 v21), (13, I6 (W6 (a4 - 1))), (47, .bool false), O1 u17]) (by kernel_rfl) (fun _ h => h) ?_
    exact hK23 false h

end Go.AM
