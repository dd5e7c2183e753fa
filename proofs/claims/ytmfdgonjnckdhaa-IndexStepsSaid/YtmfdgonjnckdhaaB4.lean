/- s -/
import Derived.Test.YtmfdgonjnckdhaaB3
set_option maxRecDepth 100000
set_option linter.unusedVariables false
set_option linter.unusedSimpArgs false
namespace Go.AM
open Go.Proofs
def sl_partitionOrdered_byte_j68 (n2 : Nat) (a3 : Int) (v108 : (List Int)) (v109 : Int) : Option ((Int × Bool) × (List Int)) :=
 (chk (decide ((0 : Int) ≤ a3 ∧ a3 < ((n2 : Nat) : Int))) ((v108[(0 + Int.toNat a3)]?).bind fun e112 => (chk (decide ((0 : Int) ≤ v109 ∧ v109 < ((n2 : Nat) : Int))) ((v108[(0 + Int.toNat v109)]?).bind fun e114 => (chk (decide ((0 : Int) ≤ v109 ∧ v109 < ((n2 : Nat) : Int))) ((upd v108 (0 + Int.toNat v109) e112).bind fun u116 => (chk (decide ((0 : Int) ≤ a3 ∧ a3 < ((n2 : Nat) : Int))) ((upd u116 (0 + Int.toNat a3) e114).bind fun u119 => (some ((v109, false), u119))))))))))
def sl_partitionOrdered_byte_j83 (n2 : Nat) (v69 : (List Int)) (v82 : Int) (N3 : ((List Int) → Int → Int → Option ((Int × Bool) × (List Int)))) (K68 : ((List Int) → Int → Option ((Int × Bool) × (List Int)))) (v93 : Int) : Option ((Int × Bool) × (List Int)) :=
 (bif (decide (v82 > v93)) then (K68 v69 v93) else (chk (decide ((0 : Int) ≤ v93 ∧ v93 < ((n2 : Nat) : Int))) ((v69[(0 + Int.toNat v93)]?).bind fun e98 => (chk (decide ((0 : Int) ≤ v82 ∧ v82 < ((n2 : Nat) : Int))) ((v69[(0 + Int.toNat v82)]?).bind fun e100 => (chk (decide ((0 : Int) ≤ v82 ∧ v82 < ((n2 : Nat) : Int))) ((upd v69 (0 + Int.toNat v82) e98).bind fun u102 => (chk (decide ((0 : Int) ≤ v93 ∧ v93 < ((n2 : Nat) : Int))) ((upd u102 (0 + Int.toNat v93) e100).bind fun u105 => (N3 u105 (IntKind.wrap .i64 (v82 + 1)) (IntKind.wrap .i64 (v93 - 1))))))))))))
def sl_partitionOrdered_byte_j86 (v84 : Int) (N5 : (Int → Option ((Int × Bool) × (List Int)))) (K83 : (Int → Option ((Int × Bool) × (List Int)))) (v92 : Bool) : Option ((Int × Bool) × (List Int)) :=
 (bif v92 then (N5 (IntKind.wrap .i64 (v84 - 1))) else (K83 v84))
def sl_partitionOrdered_byte_l5 (n2 : Nat) (a3 : Int) (v69 : (List Int)) (v82 : Int) (K83 : (Int → Option ((Int × Bool) × (List Int)))) : Nat → Int → Option ((Int × Bool) × (List Int))
 | 0, _ => none
 | m5 + 1, v84 => (bif (decide (v82 ≤ v84)) then (chk (decide ((0 : Int) ≤ v84 ∧ v84 < ((n2 : Nat) : Int))) ((v69[(0 + Int.toNat v84)]?).bind fun e88 => (chk (decide ((0 : Int) ≤ a3 ∧ a3 < ((n2 : Nat) : Int))) ((v69[(0 + Int.toNat a3)]?).bind fun e90 => ((cm_Less_byte e88 e90).bind fun w91 => ((sl_partitionOrdered_byte_j86 v84 (sl_partitionOrdered_byte_l5 n2 a3 v69 v82 K83 m5) K83) (!w91))))))) else ((sl_partitionOrdered_byte_j86 v84 (sl_partitionOrdered_byte_l5 n2 a3 v69 v82 K83 m5) K83) false))
def sl_partitionOrdered_byte_j72 (fuel : Nat) (n2 : Nat) (a3 : Int) (v69 : (List Int)) (v71 : Int) (N3 : ((List Int) → Int → Int → Option ((Int × Bool) × (List Int)))) (K68 : ((List Int) → Int → Option ((Int × Bool) × (List Int)))) (v82 : Int) : Option ((Int × Bool) × (List Int)) :=
 (sl_partitionOrdered_byte_l5 n2 a3 v69 v82 (sl_partitionOrdered_byte_j83 n2 v69 v82 N3 K68) fuel v71)
def sl_partitionOrdered_byte_j75 (v73 : Int) (N4 : (Int → Option ((Int × Bool) × (List Int)))) (K72 : (Int → Option ((Int × Bool) × (List Int)))) (v81 : Bool) : Option ((Int × Bool) × (List Int)) :=
 (bif v81 then (N4 (IntKind.wrap .i64 (v73 + 1))) else (K72 v73))
def sl_partitionOrdered_byte_l4 (n2 : Nat) (a3 : Int) (v69 : (List Int)) (v71 : Int) (K72 : (Int → Option ((Int × Bool) × (List Int)))) : Nat → Int → Option ((Int × Bool) × (List Int))
 | 0, _ => none
 | m4 + 1, v73 => (bif (decide (v73 ≤ v71)) then (chk (decide ((0 : Int) ≤ v73 ∧ v73 < ((n2 : Nat) : Int))) ((v69[(0 + Int.toNat v73)]?).bind fun e77 => (chk (decide ((0 : Int) ≤ a3 ∧ a3 < ((n2 : Nat) : Int))) ((v69[(0 + Int.toNat a3)]?).bind fun e79 => ((cm_Less_byte e77 e79).bind fun w80 => ((sl_partitionOrdered_byte_j75 v73 (sl_partitionOrdered_byte_l4 n2 a3 v69 v71 K72 m4) K72) w80)))))) else ((sl_partitionOrdered_byte_j75 v73 (sl_partitionOrdered_byte_l4 n2 a3 v69 v71 K72 m4) K72) false))
def sl_partitionOrdered_byte_l3 (fuel : Nat) (n2 : Nat) (a3 : Int) (K68 : ((List Int) → Int → Option ((Int × Bool) × (List Int)))) : Nat → (List Int) → Int → Int → Option ((Int × Bool) × (List Int))
 | 0, _, _, _ => none
 | m3 + 1, v69, v70, v71 => (sl_partitionOrdered_byte_l4 n2 a3 v69 v71 (sl_partitionOrdered_byte_j72 fuel n2 a3 v69 v71 (sl_partitionOrdered_byte_l3 fuel n2 a3 K68 m3) K68) fuel v70)
def sl_partitionOrdered_byte_j30 (fuel : Nat) (n2 : Nat) (a3 : Int) (u16 : (List Int)) (v29 : Int) (v40 : Int) : Option ((Int × Bool) × (List Int)) :=
 (bif (decide (v29 > v40)) then (chk (decide ((0 : Int) ≤ a3 ∧ a3 < ((n2 : Nat) : Int))) ((u16[(0 + Int.toNat a3)]?).bind fun e45 => (chk (decide ((0 : Int) ≤ v40 ∧ v40 < ((n2 : Nat) : Int))) ((u16[(0 + Int.toNat v40)]?).bind fun e47 => (chk (decide ((0 : Int) ≤ v40 ∧ v40 < ((n2 : Nat) : Int))) ((upd u16 (0 + Int.toNat v40) e45).bind fun u49 => (chk (decide ((0 : Int) ≤ a3 ∧ a3 < ((n2 : Nat) : Int))) ((upd u49 (0 + Int.toNat a3) e47).bind fun u52 => (some ((v40, true), u52)))))))))) else (chk (decide ((0 : Int) ≤ v40 ∧ v40 < ((n2 : Nat) : Int))) ((u16[(0 + Int.toNat v40)]?).bind fun e57 => (chk (decide ((0 : Int) ≤ v29 ∧ v29 < ((n2 : Nat) : Int))) ((u16[(0 + Int.toNat v29)]?).bind fun e59 => (chk (decide ((0 : Int) ≤ v29 ∧ v29 < ((n2 : Nat) : Int))) ((upd u16 (0 + Int.toNat v29) e57).bind fun u61 => (chk (decide ((0 : Int) ≤ v40 ∧ v40 < ((n2 : Nat) : Int))) ((upd u61 (0 + Int.toNat v40) e59).bind fun u64 => (sl_partitionOrdered_byte_l3 fuel n2 a3 (sl_partitionOrdered_byte_j68 n2 a3) fuel u64 (IntKind.wrap .i64 (v29 + 1)) (IntKind.wrap .i64 (v40 - 1))))))))))))
def sl_partitionOrdered_byte_j33 (v31 : Int) (N2 : (Int → Option ((Int × Bool) × (List Int)))) (K30 : (Int → Option ((Int × Bool) × (List Int)))) (v39 : Bool) : Option ((Int × Bool) × (List Int)) :=
 (bif v39 then (N2 (IntKind.wrap .i64 (v31 - 1))) else (K30 v31))
def sl_partitionOrdered_byte_l2 (n2 : Nat) (a3 : Int) (u16 : (List Int)) (v29 : Int) (K30 : (Int → Option ((Int × Bool) × (List Int)))) : Nat → Int → Option ((Int × Bool) × (List Int))
 | 0, _ => none
 | m2 + 1, v31 => (bif (decide (v29 ≤ v31)) then (chk (decide ((0 : Int) ≤ v31 ∧ v31 < ((n2 : Nat) : Int))) ((u16[(0 + Int.toNat v31)]?).bind fun e35 => (chk (decide ((0 : Int) ≤ a3 ∧ a3 < ((n2 : Nat) : Int))) ((u16[(0 + Int.toNat a3)]?).bind fun e37 => ((cm_Less_byte e35 e37).bind fun w38 => ((sl_partitionOrdered_byte_j33 v31 (sl_partitionOrdered_byte_l2 n2 a3 u16 v29 K30 m2) K30) (!w38))))))) else ((sl_partitionOrdered_byte_j33 v31 (sl_partitionOrdered_byte_l2 n2 a3 u16 v29 K30 m2) K30) false))
def sl_partitionOrdered_byte_j19 (fuel : Nat) (n2 : Nat) (a3 : Int) (a4 : Int) (u16 : (List Int)) (v29 : Int) : Option ((Int × Bool) × (List Int)) :=
 (sl_partitionOrdered_byte_l2 n2 a3 u16 v29 (sl_partitionOrdered_byte_j30 fuel n2 a3 u16 v29) fuel (IntKind.wrap .i64 (a4 - 1)))
def sl_partitionOrdered_byte_j22 (v20 : Int) (N1 : (Int → Option ((Int × Bool) × (List Int)))) (K19 : (Int → Option ((Int × Bool) × (List Int)))) (v28 : Bool) : Option ((Int × Bool) × (List Int)) :=
 (bif v28 then (N1 (IntKind.wrap .i64 (v20 + 1))) else (K19 v20))
def sl_partitionOrdered_byte_l1 (n2 : Nat) (a3 : Int) (a4 : Int) (u16 : (List Int)) (K19 : (Int → Option ((Int × Bool) × (List Int)))) : Nat → Int → Option ((Int × Bool) × (List Int))
 | 0, _ => none
 | m1 + 1, v20 => (bif (decide (v20 ≤ (IntKind.wrap .i64 (a4 - 1)))) then (chk (decide ((0 : Int) ≤ v20 ∧ v20 < ((n2 : Nat) : Int))) ((u16[(0 + Int.toNat v20)]?).bind fun e24 => (chk (decide ((0 : Int) ≤ a3 ∧ a3 < ((n2 : Nat) : Int))) ((u16[(0 + Int.toNat a3)]?).bind fun e26 => ((cm_Less_byte e24 e26).bind fun w27 => ((sl_partitionOrdered_byte_j22 v20 (sl_partitionOrdered_byte_l1 n2 a3 a4 u16 K19 m1) K19) w27)))))) else ((sl_partitionOrdered_byte_j22 v20 (sl_partitionOrdered_byte_l1 n2 a3 a4 u16 K19 m1) K19) false))
def sl_partitionOrdered_byte (fuel : Nat) (a1 : (List Int)) (n2 : Nat) (a3 : Int) (a4 : Int) (a5 : Int) : Option ((Int × Bool) × (List Int)) :=
 (chk (decide ((0 : Int) ≤ a5 ∧ a5 < ((n2 : Nat) : Int))) ((a1[(0 + Int.toNat a5)]?).bind fun e9 => (chk (decide ((0 : Int) ≤ a3 ∧ a3 < ((n2 : Nat) : Int))) ((a1[(0 + Int.toNat a3)]?).bind fun e11 => (chk (decide ((0 : Int) ≤ a3 ∧ a3 < ((n2 : Nat) : Int))) ((upd a1 (0 + Int.toNat a3) e9).bind fun u13 => (chk (decide ((0 : Int) ≤ a5 ∧ a5 < ((n2 : Nat) : Int))) ((upd u13 (0 + Int.toNat a5) e11).bind fun u16 => (sl_partitionOrdered_byte_l1 n2 a3 a4 u16 (sl_partitionOrdered_byte_j19 fuel n2 a3 a4 u16) fuel (IntKind.wrap .i64 (a3 + 1)))))))))))
theorem run_sl_partitionOrdered_byte (fuel : Nat) (a1 : (List Int)) (n2 : Nat) (a3 : Int) (a4 : Int) (a5 : Int) (r : ((Int × Bool) × (List Int))) (h : sl_partitionOrdered_byte fuel a1 n2 a3 a4 a5 = some r) : Run Try.prog (.callM 118 [S1 n2, I6 a3, I6 a4, I6 a5] [O1 a1] (.tup [I6 r.1.1, .bool r.1.2]) [(2000000, .obj 1000000005 1 (M8 r.2))]) := by
 refine callM_of_W Try.func118 rfl (by kernel_rfl) (env0 := [(0, S1 n2), (1, I6 a3), (2, I6 a4), (3, I6 a5), O1 a1]) (by kernel_rfl) ?_
 unfold sl_partitionOrdered_byte at h
 refine W.seq ?_
 refine W.regT [0, 1, 2, 3, 2000000] [] [] [] (e2 := [(0, S1 n2), (1, I6 a3), (2, I6 a4), (3, I6 a5), O1 a1]) (by kernel_rfl) (by kernel_rfl) (fun _ h => h) ?_
 refine W.seq ?_
 refine W.region (by kernel_rfl) ?_
 obtain ⟨hc8, h⟩ := chk_some h
 refine WO.pureK 6 (if (0 : Int) ≤ a5 ∧ a5 < ((n2 : Nat) : Int) then some (.pe 2000000 1 (0 + Int.toNat a5) 0) else none) (v := .pe 2000000 1 (0 + Int.toNat a5) 0) (by kernel_rfl) (ite_some hc8) (e1 := [(0, S1 n2), (1, I6 a3), (2, I6 a4), (3, I6 a5), (12, S1 n2), (13, I6 a3), (14, S1 n2), (15, I6 a5), (16, S1 n2), (17, I6 a5), (18, .pe 2000000 1 (0 + Int.toNat a5) 0), O1 a1]) (by kernel_rfl) ?_
 obtain ⟨e9, he9, h⟩ := bind_some h
 refine WO.pureK 0 (match (M8 a1)[(0 + Int.toNat a5)]? with | some y => cut Try.prog 5 (y.cells.map AV.strip) 0 | none => none) (v := .int .u8 e9) (by kernel_rfl) ((pe_ld (f := (AV.int .u8)) (G := (fun y => cut Try.prog 5 (y.cells.map AV.strip) 0)) he9).trans (by kernel_rfl)) (e1 := [(0, S1 n2), (1, I6 a3), (2, I6 a4), (3, I6 a5), (12, S1 n2), (13, I6 a3), (14, S1 n2), (15, I6 a5), (16, S1 n2), (17, I6 a5), (18, .pe 2000000 1 (0 + Int.toNat a5) 0), (19, .int .u8 e9), O1 a1]) (by kernel_rfl) ?_
 obtain ⟨hc10, h⟩ := chk_some h
 refine WO.pureK 2 (if (0 : Int) ≤ a3 ∧ a3 < ((n2 : Nat) : Int) then some (.pe 2000000 1 (0 + Int.toNat a3) 0) else none) (v := .pe 2000000 1 (0 + Int.toNat a3) 0) (by kernel_rfl) (ite_some hc10) (e1 := [(0, S1 n2), (1, I6 a3), (2, I6 a4), (3, I6 a5), (12, S1 n2), (13, I6 a3), (14, S1 n2), (15, I6 a5), (16, S1 n2), (17, I6 a5), (18, .pe 2000000 1 (0 + Int.toNat a5) 0), (19, .int .u8 e9), (20, S1 n2), (21, I6 a3), (22, .pe 2000000 1 (0 + Int.toNat a3) 0), O1 a1]) (by kernel_rfl) ?_
 obtain ⟨e11, he11, h⟩ := bind_some h
 refine WO.pureK 0 (match (M8 a1)[(0 + Int.toNat a3)]? with | some y => cut Try.prog 5 (y.cells.map AV.strip) 0 | none => none) (v := .int .u8 e11) (by kernel_rfl) ((pe_ld (f := (AV.int .u8)) (G := (fun y => cut Try.prog 5 (y.cells.map AV.strip) 0)) he11).trans (by kernel_rfl)) (e1 := [(0, S1 n2), (1, I6 a3), (2, I6 a4), (3, I6 a5), (12, S1 n2), (13, I6 a3), (14, S1 n2), (15, I6 a5), (16, S1 n2), (17, I6 a5), (18, .pe 2000000 1 (0 + Int.toNat a5) 0), (19, .int .u8 e9), (20, S1 n2), (21, I6 a3), (22, .pe 2000000 1 (0 + Int.toNat a3) 0), (23, .int .u8 e11), O1 a1]) (by kernel_rfl) ?_
 obtain ⟨hc12, h⟩ := chk_some h
 refine WO.pureK 0 (if (0 : Int) ≤ a3 ∧ a3 < ((n2 : Nat) : Int) then some (.pe 2000000 1 (0 + Int.toNat a3) 0) else none) (v := .pe 2000000 1 (0 + Int.toNat a3) 0) (by kernel_rfl) (ite_some hc12) (e1 := [(0, S1 n2), (1, I6 a3), (2, I6 a4), (3, I6 a5), (12, S1 n2), (13, I6 a3), (14, S1 n2), (15, I6 a5), (16, S1 n2), (17, I6 a5), (18, .pe 2000000 1 (0 + Int.toNat a5) 0), (19, .int .u8 e9), (20, S1 n2), (21, I6 a3), (22, .pe 2000000 1 (0 + Int.toNat a3) 0), (23, .int .u8 e11), (24, .pe 2000000 1 (0 + Int.toNat a3) 0), O1 a1]) (by kernel_rfl) ?_
 obtain ⟨u13, hu13, h⟩ := bind_some h
 obtain ⟨y14, hyy14, hzy14⟩ := upd_some hu13
 refine WO.storeK 0 (id := 2000000) (e := 1000000005) (s := 1) (j := (0 + Int.toNat a3)) (off := 0) (vs := [.int .u8 e9]) (xs := (M8 a1)) (zs := (M8 u13)) (y := ((AV.int .u8)) y14) (y' := ((AV.int .u8)) e9) (by kernel_rfl) (upd_get hyy14) (by kernel_rfl) (upd_set hzy14) (e1 := [(0, S1 n2), (1, I6 a3), (2, I6 a4), (3, I6 a5), (12, S1 n2), (13, I6 a3), (14, S1 n2), (15, I6 a5), (16, S1 n2), (17, I6 a5), (18, .pe 2000000 1 (0 + Int.toNat a5) 0), (19, .int .u8 e9), (20, S1 n2), (21, I6 a3), (22, .pe 2000000 1 (0 + Int.toNat a3) 0), (23, .int .u8 e11), (24, .pe 2000000 1 (0 + Int.toNat a3) 0), O1 u13]) (by kernel_rfl) ?_
 obtain ⟨hc15, h⟩ := chk_some h
 refine WO.pureK 0 (if (0 : Int) ≤ a5 ∧ a5 < ((n2 : Nat) : Int) then some (.pe 2000000 1 (0 + Int.toNat a5) 0) else none) (v := .pe 2000000 1 (0 + Int.toNat a5) 0) (by kernel_rfl) (ite_some hc15) (e1 := [(0, S1 n2), (1, I6 a3), (2, I6 a4), (3, I6 a5), (12, S1 n2), (13, I6 a3), (14, S1 n2), (15, I6 a5), (16, S1 n2), (17, I6 a5), (18, .pe 2000000 1 (0 + Int.toNat a5) 0), (19, .int .u8 e9), (20, S1 n2), (21, I6 a3), (22, .pe 2000000 1 (0 + Int.toNat a3) 0), (23, .int .u8 e11), (24, .pe 2000000 1 (0 + Int.toNat a3) 0), (25, .pe 2000000 1 (0 + Int.toNat a5) 0), O1 u13]) (by kernel_rfl) ?_
 obtain ⟨u16, hu16, h⟩ := bind_some h
 obtain ⟨y17, hyy17, hzy17⟩ := upd_some hu16
 refine WO.storeK 0 (id := 2000000) (e := 1000000005) (s := 1) (j := (0 + Int.toNat a5)) (off := 0) (vs := [.int .u8 e11]) (xs := (M8 u13)) (zs := (M8 u16)) (y := ((AV.int .u8)) y17) (y' := ((AV.int .u8)) e11) (by kernel_rfl) (upd_get hyy17) (by kernel_rfl) (upd_set hzy17) (e1 := [(0, S1 n2), (1, I6 a3), (2, I6 a4), (3, I6 a5), (12, S1 n2), (13, I6 a3), (14, S1 n2), (15, I6 a5), (16, S1 n2), (17, I6 a5), (18, .pe 2000000 1 (0 + Int.toNat a5) 0), (19, .int .u8 e9), (20, S1 n2), (21, I6 a3), (22, .pe 2000000 1 (0 + Int.toNat a3) 0), (23, .int .u8 e11), (24, .pe 2000000 1 (0 + Int.toNat a3) 0), (25, .pe 2000000 1 (0 + Int.toNat a5) 0), O1 u16]) (by kernel_rfl) ?_
 refine WO.fin [0, 1, 2, 2000000] [] [] [] (e2 := [(0, S1 n2), (1, I6 a3), (2, I6 a4), O1 u16]) (by kernel_rfl) (fun _ h => h) ?_
 refine W.seq ?_
 refine W.regT [0, 1, 10, 11, 2000000] [] [] [] (e2 := [(0, S1 n2), (1, I6 a3), (10, I6 (W6 (a3 + 1))), (11, I6 (W6 (a4 - 1))), O1 u16]) (by kernel_rfl) (by kernel_rfl) (fun _ h => h) ?_
 refine W.seq ?_
 refine W.join (σ := (Int)) (fun s => [(0, S1 n2), (1, I6 a3), (10, I6 s), (11, I6 (W6 (a4 - 1))), O1 u16]) (fun s => (sl_partitionOrdered_byte_j19 fuel n2 a3 a4 u16) s = some r) (fun s h => ?_) (fun hK19 => ?_)
 ·obtain ⟨v29, rfl⟩ : ∃ x, x = s := ⟨s, rfl⟩
  have h : (sl_partitionOrdered_byte_j19 fuel n2 a3 a4 u16) v29 = some r := h
  unfold sl_partitionOrdered_byte_j19 at h
  refine W.seq ?_
  refine W.join (σ := (Int)) (fun s => [(0, S1 n2), (1, I6 a3), (10, I6 v29), (11, I6 s), O1 u16]) (fun s => (sl_partitionOrdered_byte_j30 fuel n2 a3 u16 v29) s = some r) (fun s h => ?_) (fun hK30 => ?_)
  ·obtain ⟨v40, rfl⟩ : ∃ x, x = s := ⟨s, rfl⟩
   have h : (sl_partitionOrdered_byte_j30 fuel n2 a3 u16 v29) v40 = some r := h
   unfold sl_partitionOrdered_byte_j30 at h
   refine W.seq ?_
   refine W.seq ?_
   refine W.regT [0, 1, 10, 11, 65, 2000000] [] [] [] (e2 := [(0, S1 n2), (1, I6 a3), (10, I6 v29), (11, I6 v40), (65, .bool (decide (v29 > v40))), O1 u16]) (by kernel_rfl) (by kernel_rfl) (fun _ h => h) ?_
   refine W.condB (decide (v29 > v40)) (by kernel_rfl) (fun hb => ?_) (fun hb => ?_)
   ·replace h := cond_t hb h
    refine W.seq ?_
    refine W.region (by kernel_rfl) ?_
    obtain ⟨hc44, h⟩ := chk_some h
    refine WO.pureK 6 (if (0 : Int) ≤ a3 ∧ a3 < ((n2 : Nat) : Int) then some (.pe 2000000 1 (0 + Int.toNat a3) 0) else none) (v := .pe 2000000 1 (0 + Int.toNat a3) 0) (by kernel_rfl) (ite_some hc44) (e1 := [(0, S1 n2), (1, I6 a3), (10, I6 v29), (11, I6 v40), (65, .bool (decide (v29 > v40))), (66, S1 n2), (67, I6 v40), (68, S1 n2), (69, I6 a3), (70, S1 n2), (71, I6 a3), (72, .pe 2000000 1 (0 + Int.toNat a3) 0), O1 u16]) (by kernel_rfl) ?_
    obtain ⟨e45, he45, h⟩ := bind_some h
    refine WO.pureK 0 (match (M8 u16)[(0 + Int.toNat a3)]? with | some y => cut Try.prog 5 (y.cells.map AV.strip) 0 | none => none) (v := .int .u8 e45) (by kernel_rfl) ((pe_ld (f := (AV.int .u8)) (G := (fun y => cut Try.prog 5 (y.cells.map AV.strip) 0)) he45).trans (by kernel_rfl)) (e1 := [(0, S1 n2), (1, I6 a3), (10, I6 v29), (11, I6 v40), (65, .bool (decide (v29 > v40))), (66, S1 n2), (67, I6 v40), (68, S1 n2), (69, I6 a3), (70, S1 n2), (71, I6 a3), (72, .pe 2000000 1 (0 + Int.toNat a3) 0), (73, .int .u8 e45), O1 u16]) (by kernel_rfl) ?_
    obtain ⟨hc46, h⟩ := chk_some h
    refine WO.pureK 2 (if (0 : Int) ≤ v40 ∧ v40 < ((n2 : Nat) : Int) then some (.pe 2000000 1 (0 + Int.toNat v40) 0) else none) (v := .pe 2000000 1 (0 + Int.toNat v40) 0) (by kernel_rfl) (ite_some hc46) (e1 := [(0, S1 n2), (1, I6 a3), (10, I6 v29), (11, I6 v40), (65, .bool (decide (v29 > v40))), (66, S1 n2), (67, I6 v40), (68, S1 n2), (69, I6 a3), (70, S1 n2), (71, I6 a3), (72, .pe 2000000 1 (0 + Int.toNat a3) 0), (73, .int .u8 e45), (74, S1 n2), (75, I6 v40), (76, .pe 2000000 1 (0 + Int.toNat v40) 0), O1 u16]) (by kernel_rfl) ?_
    obtain ⟨e47, he47, h⟩ := bind_some h
    refine WO.pureK 0 (match (M8 u16)[(0 + Int.toNat v40)]? with | some y => cut Try.prog 5 (y.cells.map AV.strip) 0 | none => none) (v := .int .u8 e47) (by kernel_rfl) ((pe_ld (f := (AV.int .u8)) (G := (fun y => cut Try.prog 5 (y.cells.map AV.strip) 0)) he47).trans (by kernel_rfl)) (e1 := [(0, S1 n2), (1, I6 a3), (10, I6 v29), (11, I6 v40), (65, .bool (decide (v29 > v40))), (66, S1 n2), (67, I6 v40), (68, S1 n2), (69, I6 a3), (70, S1 n2), (71, I6 a3), (72, .pe 2000000 1 (0 + Int.toNat a3) 0), (73, .int .u8 e45), (74, S1 n2), (75, I6 v40), (76, .pe 2000000 1 (0 + Int.toNat v40) 0), (77, .int .u8 e47), O1 u16]) (by kernel_rfl) ?_
    obtain ⟨hc48, h⟩ := chk_some h
    refine WO.pureK 0 (if (0 : Int) ≤ v40 ∧ v40 < ((n2 : Nat) : Int) then some (.pe 2000000 1 (0 + Int.toNat v40) 0) else none) (v := .pe 2000000 1 (0 + Int.toNat v40) 0) (by kernel_rfl) (ite_some hc48) (e1 := [(0, S1 n2), (1, I6 a3), (10, I6 v29), (11, I6 v40), (65, .bool (decide (v29 > v40))), (66, S1 n2), (67, I6 v40), (68, S1 n2), (69, I6 a3), (70, S1 n2), (71, I6 a3), (72, .pe 2000000 1 (0 + Int.toNat a3) 0), (73, .int .u8 e45), (74, S1 n2), (75, I6 v40), (76, .pe 2000000 1 (0 + Int.toNat v40) 0), (77, .int .u8 e47), (78, .pe 2000000 1 (0 + Int.toNat v40) 0), O1 u16]) (by kernel_rfl) ?_
    obtain ⟨u49, hu49, h⟩ := bind_some h
    obtain ⟨y50, hyy50, hzy50⟩ := upd_some hu49
    refine WO.storeK 0 (id := 2000000) (e := 1000000005) (s := 1) (j := (0 + Int.toNat v40)) (off := 0) (vs := [.int .u8 e45]) (xs := (M8 u16)) (zs := (M8 u49)) (y := ((AV.int .u8)) y50) (y' := ((AV.int .u8)) e45) (by kernel_rfl) (upd_get hyy50) (by kernel_rfl) (upd_set hzy50) (e1 := [(0, S1 n2), (1, I6 a3), (10, I6 v29), (11, I6 v40), (65, .bool (decide (v29 > v40))), (66, S1 n2), (67, I6 v40), (68, S1 n2), (69, I6 a3), (70, S1 n2), (71, I6 a3), (72, .pe 2000000 1 (0 + Int.toNat a3) 0), (73, .int .u8 e45), (74, S1 n2), (75, I6 v40), (76, .pe 2000000 1 (0 + Int.toNat v40) 0), (77, .int .u8 e47), (78, .pe 2000000 1 (0 + Int.toNat v40) 0), O1 u49]) (by kernel_rfl) ?_
    obtain ⟨hc51, h⟩ := chk_some h
    refine WO.pureK 0 (if (0 : Int) ≤ a3 ∧ a3 < ((n2 : Nat) : Int) then some (.pe 2000000 1 (0 + Int.toNat a3) 0) else none) (v := .pe 2000000 1 (0 + Int.toNat a3) 0) (by kernel_rfl) (ite_some hc51) (e1 := [(0, S1 n2), (1, I6 a3), (10, I6 v29), (11, I6 v40), (65, .bool (decide (v29 > v40))), (66, S1 n2), (67, I6 v40), (68, S1 n2), (69, I6 a3), (70, S1 n2), (71, I6 a3), (72, .pe 2000000 1 (0 + Int.toNat a3) 0), (73, .int .u8 e45), (74, S1 n2), (75, I6 v40), (76, .pe 2000000 1 (0 + Int.toNat v40) 0), (77, .int .u8 e47), (78, .pe 2000000 1 (0 + Int.toNat v40) 0), (79, .pe 2000000 1 (0 + Int.toNat a3) 0), O1 u49]) (by kernel_rfl) ?_
    obtain ⟨u52, hu52, h⟩ := bind_some h
    obtain ⟨y53, hyy53, hzy53⟩ := upd_some hu52
    refine WO.storeK 0 (id := 2000000) (e := 1000000005) (s := 1) (j := (0 + Int.toNat a3)) (off := 0) (vs := [.int .u8 e47]) (xs := (M8 u49)) (zs := (M8 u52)) (y := ((AV.int .u8)) y53) (y' := ((AV.int .u8)) e47) (by kernel_rfl) (upd_get hyy53) (by kernel_rfl) (upd_set hzy53) (e1 := [(0, S1 n2), (1, I6 a3), (10, I6 v29), (11, I6 v40), (65, .bool (decide (v29 > v40))), (66, S1 n2), (67, I6 v40), (68, S1 n2), (69, I6 a3), (70, S1 n2), (71, I6 a3), (72, .pe 2000000 1 (0 + Int.toNat a3) 0), (73, .int .u8 e45), (74, S1 n2), (75, I6 v40), (76, .pe 2000000 1 (0 + Int.toNat v40) 0), (77, .int .u8 e47), (78, .pe 2000000 1 (0 + Int.toNat v40) 0), (79, .pe 2000000 1 (0 + Int.toNat a3) 0), O1 u52]) (by kernel_rfl) ?_
    refine WO.fin [11, 2000000] [] [] [] (e2 := [(11, I6 v40), O1 u52]) (by kernel_rfl) (fun _ h => h) ?_
    refine W.seq ?_
    refine W.regT [8, 9, 2000000] [] [] [] (e2 := [(8, I6 v40), (9, .bool true), O1 u52]) (by kernel_rfl) (by kernel_rfl) (fun _ h => h) ?_
    refine W.weak [8, 9, 2000000] [] [] [] (env' := [(8, I6 v40), (9, .bool true), O1 u52]) (by kernel_rfl) ?_
    have hr : PostM Try.prog Try.f118 (.tup [I6 v40, .bool true]) [O1 u52] .ret [(8, I6 v40), (9, .bool true), O1 u52] := ⟨by kernel_rfl, by kernel_rfl⟩
    cases h
    exact W.ret hr
   replace h := cond_f hb h
   refine W.skip ?_
   refine W.weak [0, 1, 10, 11, 2000000] [] [] [] (env' := [(0, S1 n2), (1, I6 a3), (10, I6 v29), (11, I6 v40), O1 u16]) (by kernel_rfl) ?_
   refine W.seq ?_
   refine W.region (by kernel_rfl) ?_
   obtain ⟨hc56, h⟩ := chk_some h
   refine WO.pureK 6 (if (0 : Int) ≤ v40 ∧ v40 < ((n2 : Nat) : Int) then some (.pe 2000000 1 (0 + Int.toNat v40) 0) else none) (v := .pe 2000000 1 (0 + Int.toNat v40) 0) (by kernel_rfl) (ite_some hc56) (e1 := [(0, S1 n2), (1, I6 a3), (10, I6 v29), (11, I6 v40), (81, S1 n2), (82, I6 v29), (83, S1 n2), (84, I6 v40), (85, S1 n2), (86, I6 v40), (87, .pe 2000000 1 (0 + Int.toNat v40) 0), O1 u16]) (by kernel_rfl) ?_
   obtain ⟨e57, he57, h⟩ := bind_some h
   refine WO.pureK 0 (match (M8 u16)[(0 + Int.toNat v40)]? with | some y => cut Try.prog 5 (y.cells.map AV.strip) 0 | none => none) (v := .int .u8 e57) (by kernel_rfl) ((pe_ld (f := (AV.int .u8)) (G := (fun y => cut Try.prog 5 (y.cells.map AV.strip) 0)) he57).trans (by kernel_rfl)) (e1 := [(0, S1 n2), (1, I6 a3), (10, I6 v29), (11, I6 v40), (81, S1 n2), (82, I6 v29), (83, S1 n2), (84, I6 v40), (85, S1 n2), (86, I6 v40), (87, .pe 2000000 1 (0 + Int.toNat v40) 0), (88, .int .u8 e57), O1 u16]) (by kernel_rfl) ?_
   obtain ⟨hc58, h⟩ := chk_some h
   refine WO.pureK 2 (if (0 : Int) ≤ v29 ∧ v29 < ((n2 : Nat) : Int) then some (.pe 2000000 1 (0 + Int.toNat v29) 0) else none) (v := .pe 2000000 1 (0 + Int.toNat v29) 0) (by kernel_rfl) (ite_some hc58) (e1 := [(0, S1 n2), (1, I6 a3), (10, I6 v29), (11, I6 v40), (81, S1 n2), (82, I6 v29), (83, S1 n2), (84, I6 v40), (85, S1 n2), (86, I6 v40), (87, .pe 2000000 1 (0 + Int.toNat v40) 0), (88, .int .u8 e57), (89, S1 n2), (90, I6 v29), (91, .pe 2000000 1 (0 + Int.toNat v29) 0), O1 u16]) (by kernel_rfl) ?_
   obtain ⟨e59, he59, h⟩ := bind_some h
   refine WO.pureK 0 (match (M8 u16)[(0 + Int.toNat v29)]? with | some y => cut Try.prog 5 (y.cells.map AV.strip) 0 | none => none) (v := .int .u8 e59) (by kernel_rfl) ((pe_ld (f := (AV.int .u8)) (G := (fun y => cut Try.prog 5 (y.cells.map AV.strip) 0)) he59).trans (by kernel_rfl)) (e1 := [(0, S1 n2), (1, I6 a3), (10, I6 v29), (11, I6 v40), (81, S1 n2), (82, I6 v29), (83, S1 n2), (84, I6 v40), (85, S1 n2), (86, I6 v40), (87, .pe 2000000 1 (0 + Int.toNat v40) 0), (88, .int .u8 e57), (89, S1 n2), (90, I6 v29), (91, .pe 2000000 1 (0 + Int.toNat v29) 0), (92, .int .u8 e59), O1 u16]) (by kernel_rfl) ?_
   obtain ⟨hc60, h⟩ := chk_some h
   refine WO.pureK 0 (if (0 : Int) ≤ v29 ∧ v29 < ((n2 : Nat) : Int) then some (.pe 2000000 1 (0 + Int.toNat v29) 0) else none) (v := .pe 2000000 1 (0 + Int.toNat v29) 0) (by kernel_rfl) (ite_some hc60) (e1 := [(0, S1 n2), (1, I6 a3), (10, I6 v29), (11, I6 v40), (81, S1 n2), (82, I6 v29), (83, S1 n2), (84, I6 v40), (85, S1 n2), (86, I6 v40), (87, .pe 2000000 1 (0 + Int.toNat v40) 0), (88, .int .u8 e57), (89, S1 n2), (90, I6 v29), (91, .pe 2000000 1 (0 + Int.toNat v29) 0), (92, .int .u8 e59), (93, .pe 2000000 1 (0 + Int.toNat v29) 0), O1 u16]) (by kernel_rfl) ?_
   obtain ⟨u61, hu61, h⟩ := bind_some h
   obtain ⟨y62, hyy62, hzy62⟩ := upd_some hu61
   refine WO.storeK 0 (id := 2000000) (e := 1000000005) (s := 1) (j := (0 + Int.toNat v29)) (off := 0) (vs := [.int .u8 e57]) (xs := (M8 u16)) (zs := (M8 u61)) (y := ((AV.int .u8)) y62) (y' := ((AV.int .u8)) e57) (by kernel_rfl) (upd_get hyy62) (by kernel_rfl) (upd_set hzy62) (e1 := [(0, S1 n2), (1, I6 a3), (10, I6 v29), (11, I6 v40), (81, S1 n2), (82, I6 v29), (83, S1 n2), (84, I6 v40), (85, S1 n2), (86, I6 v40), (87, .pe 2000000 1 (0 + Int.toNat v40) 0), (88, .int .u8 e57), (89, S1 n2), (90, I6 v29), (91, .pe 2000000 1 (0 + Int.toNat v29) 0), (92, .int .u8 e59), (93, .pe 2000000 1 (0 + Int.toNat v29) 0), O1 u61]) (by kernel_rfl) ?_
   obtain ⟨hc63, h⟩ := chk_some h
   refine WO.pureK 0 (if (0 : Int) ≤ v40 ∧ v40 < ((n2 : Nat) : Int) then some (.pe 2000000 1 (0 + Int.toNat v40) 0) else none) (v := .pe 2000000 1 (0 + Int.toNat v40) 0) (by kernel_rfl) (ite_some hc63) (e1 := [(0, S1 n2), (1, I6 a3), (10, I6 v29), (11, I6 v40), (81, S1 n2), (82, I6 v29), (83, S1 n2), (84, I6 v40), (85, S1 n2), (86, I6 v40), (87, .pe 2000000 1 (0 + Int.toNat v40) 0), (88, .int .u8 e57), (89, S1 n2), (90, I6 v29), (91, .pe 2000000 1 (0 + Int.toNat v29) 0), (92, .int .u8 e59), (93, .pe 2000000 1 (0 + Int.toNat v29) 0), (94, .pe 2000000 1 (0 + Int.toNat v40) 0), O1 u61]) (by kernel_rfl) ?_
   obtain ⟨u64, hu64, h⟩ := bind_some h
   obtain ⟨y65, hyy65, hzy65⟩ := upd_some hu64
   refine WO.storeK 0 (id := 2000000) (e := 1000000005) (s := 1) (j := (0 + Int.toNat v40)) (off := 0) (vs := [.int .u8 e59]) (xs := (M8 u61)) (zs := (M8 u64)) (y := ((AV.int .u8)) y65) (y' := ((AV.int .u8)) e59) (by kernel_rfl) (upd_get hyy65) (by kernel_rfl) (upd_set hzy65) (e1 := [(0, S1 n2), (1, I6 a3), (10, I6 v29), (11, I6 v40), (81, S1 n2), (82, I6 v29), (83, S1 n2), (84, I6 v40), (85, S1 n2), (86, I6 v40), (87, .pe 2000000 1 (0 + Int.toNat v40) 0), (88, .int .u8 e57), (89, S1 n2), (90, I6 v29), (91, .pe 2000000 1 (0 + Int.toNat v29) 0), (92, .int .u8 e59), (93, .pe 2000000 1 (0 + Int.toNat v29) 0), (94, .pe 2000000 1 (0 + Int.toNat v40) 0), O1 u64]) (by kernel_rfl) ?_
   refine WO.fin [0, 1, 10, 11, 2000000] [] [] [] (e2 := [(0, S1 n2), (1, I6 a3), (10, I6 v29), (11, I6 v40), O1 u64]) (by kernel_rfl) (fun _ h => h) ?_
   refine W.seq ?_
   refine W.regT [0, 1, 10, 11, 2000000] [] [] [] (e2 := [(0, S1 n2), (1, I6 a3), (10, I6 (W6 (v29 + 1))), (11, I6 v40), O1 u64]) (by kernel_rfl) (by kernel_rfl) (fun _ h => h) ?_
   refine W.seq ?_
   refine W.regT [0, 1, 10, 11, 2000000] [] [] [] (e2 := [(0, S1 n2), (1, I6 a3), (10, I6 (W6 (v29 + 1))), (11, I6 (W6 (v40 - 1))), O1 u64]) (by kernel_rfl) (by kernel_rfl) (fun _ h => h) ?_
   refine W.seq ?_
   refine W.join (σ := ((List Int) × Int)) (fun s => [(0, S1 n2), (1, I6 a3), (11, I6 s.2), (2000000, .obj 1000000005 1 (M8 s.1))]) (fun s => (sl_partitionOrdered_byte_j68 n2 a3) s.1 s.2 = some r) (fun s h => ?_) (fun hK68 => ?_)
   ·obtain ⟨v108, v109⟩ := s
    have h : (sl_partitionOrdered_byte_j68 n2 a3) v108 v109 = some r := h
    unfold sl_partitionOrdered_byte_j68 at h
    refine W.seq ?_
    refine W.region (by kernel_rfl) ?_
    obtain ⟨hc111, h⟩ := chk_some h
    refine WO.pureK 6 (if (0 : Int) ≤ a3 ∧ a3 < ((n2 : Nat) : Int) then some (.pe 2000000 1 (0 + Int.toNat a3) 0) else none) (v := .pe 2000000 1 (0 + Int.toNat a3) 0) (by kernel_rfl) (ite_some hc111) (e1 := [(0, S1 n2), (1, I6 a3), (11, I6 v109), (153, S1 n2), (154, I6 v109), (155, S1 n2), (156, I6 a3), (157, S1 n2), (158, I6 a3), (159, .pe 2000000 1 (0 + Int.toNat a3) 0), O1 v108]) (by kernel_rfl) ?_
    obtain ⟨e112, he112, h⟩ := bind_some h
    refine WO.pureK 0 (match (M8 v108)[(0 + Int.toNat a3)]? with | some y => cut Try.prog 5 (y.cells.map AV.strip) 0 | none => none) (v := .int .u8 e112) (by kernel_rfl) ((pe_ld (f := (AV.int .u8)) (G := (fun y => cut Try.prog 5 (y.cells.map AV.strip) 0)) he112).trans (by kernel_rfl)) (e1 := [(0, S1 n2), (1, I6 a3), (11, I6 v109), (153, S1 n2), (154, I6 v109), (155, S1 n2), (156, I6 a3), (157, S1 n2), (158, I6 a3), (159, .pe 2000000 1 (0 + Int.toNat a3) 0), (160, .int .u8 e112), O1 v108]) (by kernel_rfl) ?_
    obtain ⟨hc113, h⟩ := chk_some h
    refine WO.pureK 2 (if (0 : Int) ≤ v109 ∧ v109 < ((n2 : Nat) : Int) then some (.pe 2000000 1 (0 + Int.toNat v109) 0) else none) (v := .pe 2000000 1 (0 + Int.toNat v109) 0) (by kernel_rfl) (ite_some hc113) (e1 := [(0, S1 n2), (1, I6 a3), (11, I6 v109), (153, S1 n2), (154, I6 v109), (155, S1 n2), (156, I6 a3), (157, S1 n2), (158, I6 a3), (159, .pe 2000000 1 (0 + Int.toNat a3) 0), (160, .int .u8 e112), (161, S1 n2), (162, I6 v109), (163, .pe 2000000 1 (0 + Int.toNat v109) 0), O1 v108]) (by kernel_rfl) ?_
    obtain ⟨e114, he114, h⟩ := bind_some h
    refine WO.pureK 0 (match (M8 v108)[(0 + Int.toNat v109)]? with | some y => cut Try.prog 5 (y.cells.map AV.strip) 0 | none => none) (v := .int .u8 e114) (by kernel_rfl) ((pe_ld (f := (AV.int .u8)) (G := (fun y => cut Try.prog 5 (y.cells.map AV.strip) 0)) he114).trans (by kernel_rfl)) (e1 := [(0, S1 n2), (1, I6 a3), (11, I6 v109), (153, S1 n2), (154, I6 v109), (155, S1 n2), (156, I6 a3), (157, S1 n2), (158, I6 a3), (159, .pe 2000000 1 (0 + Int.toNat a3) 0), (160, .int .u8 e112), (161, S1 n2), (162, I6 v109), (163, .pe 2000000 1 (0 + Int.toNat v109) 0), (164, .int .u8 e114), O1 v108]) (by kernel_rfl) ?_
    obtain ⟨hc115, h⟩ := chk_some h
    refine WO.pureK 0 (if (0 : Int) ≤ v109 ∧ v109 < ((n2 : Nat) : Int) then some (.pe 2000000 1 (0 + Int.toNat v109) 0) else none) (v := .pe 2000000 1 (0 + Int.toNat v109) 0) (by kernel_rfl) (ite_some hc115) (e1 := [(0, S1 n2), (1, I6 a3), (11, I6 v109), (153, S1 n2), (154, I6 v109), (155, S1 n2), (156, I6 a3), (157, S1 n2), (158, I6 a3), (159, .pe 2000000 1 (0 + Int.toNat a3) 0), (160, .int .u8 e112), (161, S1 n2), (162, I6 v109), (163, .pe 2000000 1 (0 + Int.toNat v109) 0), (164, .int .u8 e114), (165, .pe 2000000 1 (0 + Int.toNat v109) 0), O1 v108]) (by kernel_rfl) ?_
    obtain ⟨u116, hu116, h⟩ := bind_some h
    obtain ⟨y117, hyy117, hzy117⟩ := upd_some hu116
    refine WO.storeK 0 (id := 2000000) (e := 1000000005) (s := 1) (j := (0 + Int.toNat v109)) (off := 0) (vs := [.int .u8 e112]) (xs := (M8 v108)) (zs := (M8 u116)) (y := ((AV.int .u8)) y117) (y' := ((AV.int .u8)) e112) (by kernel_rfl) (upd_get hyy117) (by kernel_rfl) (upd_set hzy117) (e1 := [(0, S1 n2), (1, I6 a3), (11, I6 v109), (153, S1 n2), (154, I6 v109), (155, S1 n2), (156, I6 a3), (157, S1 n2), (158, I6 a3), (159, .pe 2000000 1 (0 + Int.toNat a3) 0), (160, .int .u8 e112), (161, S1 n2), (162, I6 v109), (163, .pe 2000000 1 (0 + Int.toNat v109) 0), (164, .int .u8 e114), (165, .pe 2000000 1 (0 + Int.toNat v109) 0), O1 u116]) (by kernel_rfl) ?_
    obtain ⟨hc118, h⟩ := chk_some h
    refine WO.pureK 0 (if (0 : Int) ≤ a3 ∧ a3 < ((n2 : Nat) : Int) then some (.pe 2000000 1 (0 + Int.toNat a3) 0) else none) (v := .pe 2000000 1 (0 + Int.toNat a3) 0) (by kernel_rfl) (ite_some hc118) (e1 := [(0, S1 n2), (1, I6 a3), (11, I6 v109), (153, S1 n2), (154, I6 v109), (155, S1 n2), (156, I6 a3), (157, S1 n2), (158, I6 a3), (159, .pe 2000000 1 (0 + Int.toNat a3) 0), (160, .int .u8 e112), (161, S1 n2), (162, I6 v109), (163, .pe 2000000 1 (0 + Int.toNat v109) 0), (164, .int .u8 e114), (165, .pe 2000000 1 (0 + Int.toNat v109) 0), (166, .pe 2000000 1 (0 + Int.toNat a3) 0), O1 u116]) (by kernel_rfl) ?_
    obtain ⟨u119, hu119, h⟩ := bind_some h
    obtain ⟨y120, hyy120, hzy120⟩ := upd_some hu119
    refine WO.storeK 0 (id := 2000000) (e := 1000000005) (s := 1) (j := (0 + Int.toNat a3)) (off := 0) (vs := [.int .u8 e114]) (xs := (M8 u116)) (zs := (M8 u119)) (y := ((AV.int .u8)) y120) (y' := ((AV.int .u8)) e114) (by kernel_rfl) (upd_get hyy120) (by kernel_rfl) (upd_set hzy120) (e1 := [(0, S1 n2), (1, I6 a3), (11, I6 v109), (153, S1 n2), (154, I6 v109), (155, S1 n2), (156, I6 a3), (157, S1 n2), (158, I6 a3), (159, .pe 2000000 1 (0 + Int.toNat a3) 0), (160, .int .u8 e112), (161, S1 n2), (162, I6 v109), (163, .pe 2000000 1 (0 + Int.toNat v109) 0), (164, .int .u8 e114), (165, .pe 2000000 1 (0 + Int.toNat v109) 0), (166, .pe 2000000 1 (0 + Int.toNat a3) 0), O1 u119]) (by kernel_rfl) ?_
    refine WO.fin [11, 2000000] [] [] [] (e2 := [(11, I6 v109), O1 u119]) (by kernel_rfl) (fun _ h => h) ?_
    refine W.seq ?_
    refine W.regT [8, 9, 2000000] [] [] [] (e2 := [(8, I6 v109), (9, .bool false), O1 u119]) (by kernel_rfl) (by kernel_rfl) (fun _ h => h) ?_
    refine W.weak [8, 9, 2000000] [] [] [] (env' := [(8, I6 v109), (9, .bool false), O1 u119]) (by kernel_rfl) ?_
    have hr : PostM Try.prog Try.f118 (.tup [I6 v109, .bool false]) [O1 u119] .ret [(8, I6 v109), (9, .bool false), O1 u119] := ⟨by kernel_rfl, by kernel_rfl⟩
    cases h
    exact W.ret hr
   refine W.block ?_
   refine W.weak [0, 1, 10, 11, 2000000] [] [] [] (env' := [(0, S1 n2), (1, I6 a3), (10, I6 (W6 (v29 + 1))), (11, I6 (W6 (v40 - 1))), O1 u64]) (by kernel_rfl) ?_
   refine W.fuel (σ := ((List Int) × Int × Int)) (fun s => [(0, S1 n2), (1, I6 a3), (10, I6 s.2.1), (11, I6 s.2.2), (2000000, .obj 1000000005 1 (M8 s.1))]) (fun m0 s => sl_partitionOrdered_byte_l3 fuel n2 a3 (sl_partitionOrdered_byte_j68 n2 a3) m0 s.1 s.2.1 s.2.2 = some r) (fun s h => ?_) (fun m3 s h hN3 => ?_) fuel (u64, (W6 (v29 + 1)), (W6 (v40 - 1))) h
   ·obtain ⟨v69, v70, v71⟩ := s
    have h : sl_partitionOrdered_byte_l3 fuel n2 a3 (sl_partitionOrdered_byte_j68 n2 a3) 0 v69 v70 v71 = some r := h
    rw [sl_partitionOrdered_byte_l3.eq_1] at h
    cases h
   ·obtain ⟨v69, v70, v71⟩ := s
    have h : sl_partitionOrdered_byte_l3 fuel n2 a3 (sl_partitionOrdered_byte_j68 n2 a3) (m3 + 1) v69 v70 v71 = some r := h
    rw [sl_partitionOrdered_byte_l3.eq_2] at h
    refine W.block ?_
    refine W.seq ?_
    refine W.join (σ := (Int)) (fun s => [(0, S1 n2), (1, I6 a3), (10, I6 s), (11, I6 v71), O1 v69]) (fun s => (sl_partitionOrdered_byte_j72 fuel n2 a3 v69 v71 (sl_partitionOrdered_byte_l3 fuel n2 a3 (sl_partitionOrdered_byte_j68 n2 a3) m3) (sl_partitionOrdered_byte_j68 n2 a3)) s = some r) (fun s h => ?_) (fun hK72 => ?_)
    ·obtain ⟨v82, rfl⟩ : ∃ x, x = s := ⟨s, rfl⟩
     have h : (sl_partitionOrdered_byte_j72 fuel n2 a3 v69 v71 (sl_partitionOrdered_byte_l3 fuel n2 a3 (sl_partitionOrdered_byte_j68 n2 a3) m3) (sl_partitionOrdered_byte_j68 n2 a3)) v82 = some r := h
     unfold sl_partitionOrdered_byte_j72 at h
     refine W.seq ?_
     refine W.join (σ := (Int)) (fun s => [(0, S1 n2), (1, I6 a3), (10, I6 v82), (11, I6 s), O1 v69]) (fun s => (sl_partitionOrdered_byte_j83 n2 v69 v82 (sl_partitionOrdered_byte_l3 fuel n2 a3 (sl_partitionOrdered_byte_j68 n2 a3) m3) (sl_partitionOrdered_byte_j68 n2 a3)) s = some r) (fun s h => ?_) (fun hK83 => ?_)
     ·obtain ⟨v93, rfl⟩ : ∃ x, x = s := ⟨s, rfl⟩
      have h : (sl_partitionOrdered_byte_j83 n2 v69 v82 (sl_partitionOrdered_byte_l3 fuel n2 a3 (sl_partitionOrdered_byte_j68 n2 a3) m3) (sl_partitionOrdered_byte_j68 n2 a3)) v93 = some r := h
      unfold sl_partitionOrdered_byte_j83 at h
      refine W.seq ?_
      refine W.seq ?_
      refine W.regT [0, 1, 10, 11, 134, 2000000] [] [] [] (e2 := [(0, S1 n2), (1, I6 a3), (10, I6 v82), (11, I6 v93), (134, .bool (decide (v82 > v93))), O1 v69]) (by kernel_rfl) (by kernel_rfl) (fun _ h => h) ?_
      refine W.condB (decide (v82 > v93)) (by kernel_rfl) (fun hb => ?_) (fun hb => ?_)
      ·replace h := cond_t hb h
       refine W.exit ?_
       refine W.weak [0, 1, 11, 2000000] [] [] [] (env' := [(0, S1 n2), (1, I6 a3), (11, I6 v93), O1 v69]) (by kernel_rfl) ?_
       exact hK68 (v69, v93) h
      replace h := cond_f hb h
      refine W.skip ?_
      refine W.weak [0, 1, 10, 11, 2000000] [] [] [] (env' := [(0, S1 n2), (1, I6 a3), (10, I6 v82), (11, I6 v93), O1 v69]) (by kernel_rfl) ?_
      refine W.seq ?_
      refine W.region (by kernel_rfl) ?_
      obtain ⟨hc97, h⟩ := chk_some h
      refine WO.pureK 6 (if (0 : Int) ≤ v93 ∧ v93 < ((n2 : Nat) : Int) then some (.pe 2000000 1 (0 + Int.toNat v93) 0) else none) (v := .pe 2000000 1 (0 + Int.toNat v93) 0) (by kernel_rfl) (ite_some hc97) (e1 := [(0, S1 n2), (1, I6 a3), (10, I6 v82), (11, I6 v93), (135, S1 n2), (136, I6 v82), (137, S1 n2), (138, I6 v93), (139, S1 n2), (140, I6 v93), (141, .pe 2000000 1 (0 + Int.toNat v93) 0), O1 v69]) (by kernel_rfl) ?_
      obtain ⟨e98, he98, h⟩ := bind_some h
      refine WO.pureK 0 (match (M8 v69)[(0 + Int.toNat v93)]? with | some y => cut Try.prog 5 (y.cells.map AV.strip) 0 | none => none) (v := .int .u8 e98) (by kernel_rfl) ((pe_ld (f := (AV.int .u8)) (G := (fun y => cut Try.prog 5 (y.cells.map AV.strip) 0)) he98).trans (by kernel_rfl)) (e1 := [(0, S1 n2), (1, I6 a3), (10, I6 v82), (11, I6 v93), (135, S1 n2), (136, I6 v82), (137, S1 n2), (138, I6 v93), (139, S1 n2), (140, I6 v93), (141, .pe 2000000 1 (0 + Int.toNat v93) 0), (142, .int .u8 e98), O1 v69]) (by kernel_rfl) ?_
      obtain ⟨hc99, h⟩ := chk_some h
      refine WO.pureK 2 (if (0 : Int) ≤ v82 ∧ v82 < ((n2 : Nat) : Int) then some (.pe 2000000 1 (0 + Int.toNat v82) 0) else none) (v := .pe 2000000 1 (0 + Int.toNat v82) 0) (by kernel_rfl) (ite_some hc99) (e1 := [(0, S1 n2), (1, I6 a3), (10, I6 v82), (11, I6 v93), (135, S1 n2), (136, I6 v82), (137, S1 n2), (138, I6 v93), (139, S1 n2), (140, I6 v93), (141, .pe 2000000 1 (0 + Int.toNat v93) 0), (142, .int .u8 e98), (143, S1 n2), (144, I6 v82), (145, .pe 2000000 1 (0 + Int.toNat v82) 0), O1 v69]) (by kernel_rfl) ?_
      obtain ⟨e100, he100, h⟩ := bind_some h
      refine WO.pureK 0 (match (M8 v69)[(0 + Int.toNat v82)]? with | some y => cut Try.prog 5 (y.cells.map AV.strip) 0 | none => none) (v := .int .u8 e100) (by kernel_rfl) ((pe_ld (f := (AV.int .u8)) (G := (fun y => cut Try.prog 5 (y.cells.map AV.strip) 0)) he100).trans (by kernel_rfl)) (e1 := [(0, S1 n2), (1, I6 a3), (10, I6 v82), (11, I6 v93), (135, S1 n2), (136, I6 v82), (137, S1 n2), (138, I6 v93), (139, S1 n2), (140, I6 v93), (141, .pe 2000000 1 (0 + Int.toNat v93) 0), (142, .int .u8 e98), (143, S1 n2), (144, I6 v82), (145, .pe 2000000 1 (0 + Int.toNat v82) 0), (146, .int .u8 e100), O1 v69]) (by kernel_rfl) ?_
      obtain ⟨hc101, h⟩ := chk_some h
      refine WO.pureK 0 (if (0 : Int) ≤ v82 ∧ v82 < ((n2 : Nat) : Int) then some (.pe 2000000 1 (0 + Int.toNat v82) 0) else none) (v := .pe 2000000 1 (0 + Int.toNat v82) 0) (by kernel_rfl) (ite_some hc101) (e1 := [(0, S1 n2), (1, I6 a3), (10, I6 v82), (11, I6 v93), (135, S1 n2), (136, I6 v82), (137, S1 n2), (138, I6 v93), (139, S1 n2), (140, I6 v93), (141, .pe 2000000 1 (0 + Int.toNat v93) 0), (142, .int .u8 e98), (143, S1 n2), (144, I6 v82), (145, .pe 2000000 1 (0 + Int.toNat v82) 0), (146, .int .u8 e100), (147, .pe 2000000 1 (0 + Int.toNat v82) 0), O1 v69]) (by kernel_rfl) ?_
      obtain ⟨u102, hu102, h⟩ := bind_some h
      obtain ⟨y103, hyy103, hzy103⟩ := upd_some hu102
      refine WO.storeK 0 (id := 2000000) (e := 1000000005) (s := 1) (j := (0 + Int.toNat v82)) (off := 0) (vs := [.int .u8 e98]) (xs := (M8 v69)) (zs := (M8 u102)) (y := ((AV.int .u8)) y103) (y' := ((AV.int .u8)) e98) (by kernel_rfl) (upd_get hyy103) (by kernel_rfl) (upd_set hzy103) (e1 := [(0, S1 n2), (1, I6 a3), (10, I6 v82), (11, I6 v93), (135, S1 n2), (136, I6 v82), (137, S1 n2), (138, I6 v93), (139, S1 n2), (140, I6 v93), (141, .pe 2000000 1 (0 + Int.toNat v93) 0), (142, .int .u8 e98), (143, S1 n2), (144, I6 v82), (145, .pe 2000000 1 (0 + Int.toNat v82) 0), (146, .int .u8 e100), (147, .pe 2000000 1 (0 + Int.toNat v82) 0), O1 u102]) (by kernel_rfl) ?_
      obtain ⟨hc104, h⟩ := chk_some h
      refine WO.pureK 0 (if (0 : Int) ≤ v93 ∧ v93 < ((n2 : Nat) : Int) then some (.pe 2000000 1 (0 + Int.toNat v93) 0) else none) (v := .pe 2000000 1 (0 + Int.toNat v93) 0) (by kernel_rfl) (ite_some hc104) (e1 := [(0, S1 n2), (1, I6 a3), (10, I6 v82), (11, I6 v93), (135, S1 n2), (136, I6 v82), (137, S1 n2), (138, I6 v93), (139, S1 n2), (140, I6 v93), (141, .pe 2000000 1 (0 + Int.toNat v93) 0), (142, .int .u8 e98), (143, S1 n2), (144, I6 v82), (145, .pe 2000000 1 (0 + Int.toNat v82) 0), (146, .int .u8 e100), (147, .pe 2000000 1 (0 + Int.toNat v82) 0), (148, .pe 2000000 1 (0 + Int.toNat v93) 0), O1 u102]) (by kernel_rfl) ?_
      obtain ⟨u105, hu105, h⟩ := bind_some h
      obtain ⟨y106, hyy106, hzy106⟩ := upd_some hu105
      refine WO.storeK 0 (id := 2000000) (e := 1000000005) (s := 1) (j := (0 + Int.toNat v93)) (off := 0) (vs := [.int .u8 e100]) (xs := (M8 u102)) (zs := (M8 u105)) (y := ((AV.int .u8)) y106) (y' := ((AV.int .u8)) e100) (by kernel_rfl) (upd_get hyy106) (by kernel_rfl) (upd_set hzy106) (e1 := [(0, S1 n2), (1, I6 a3), (10, I6 v82), (11, I6 v93), (135, S1 n2), (136, I6 v82), (137, S1 n2), (138, I6 v93), (139, S1 n2), (140, I6 v93), (141, .pe 2000000 1 (0 + Int.toNat v93) 0), (142, .int .u8 e98), (143, S1 n2), (144, I6 v82), (145, .pe 2000000 1 (0 + Int.toNat v82) 0), (146, .int .u8 e100), (147, .pe 2000000 1 (0 + Int.toNat v82) 0), (148, .pe 2000000 1 (0 + Int.toNat v93) 0), O1 u105]) (by kernel_rfl) ?_
      refine WO.fin [0, 1, 10, 11, 2000000] [] [] [] (e2 := [(0, S1 n2), (1, I6 a3), (10, I6 v82), (11, I6 v93), O1 u105]) (by kernel_rfl) (fun _ h => h) ?_
      refine W.seq ?_
      refine W.regT [0, 1, 10, 11, 2000000] [] [] [] (e2 := [(0, S1 n2), (1, I6 a3), (10, I6 (W6 (v82 + 1))), (11, I6 v93), O1 u105]) (by kernel_rfl) (by kernel_rfl) (fun _ h => h) ?_
      refine W.regT [0, 1, 10, 11, 2000000] [] [] [] (e2 := [(0, S1 n2), (1, I6 a3), (10, I6 (W6 (v82 + 1))), (11, I6 (W6 (v93 - 1))), O1 u105]) (by kernel_rfl) (by kernel_rfl) (fun _ h => h) ?_
      exact hN3 (u105, (W6 (v82 + 1)), (W6 (v93 - 1))) h
     refine W.block ?_
     refine W.weak [0, 1, 10, 11, 2000000] [] [] [] (env' := [(0, S1 n2), (1, I6 a3), (10, I6 v82), (11, I6 v71), O1 v69]) (by kernel_rfl) ?_
     refine W.fuel (σ := (Int)) (fun s => [(0, S1 n2), (1, I6 a3), (10, I6 v82), (11, I6 s), O1 v69]) (fun m0 s => sl_partitionOrdered_byte_l5 n2 a3 v69 v82 (sl_partitionOrdered_byte_j83 n2 v69 v82 (sl_partitionOrdered_byte_l3 fuel n2 a3 (sl_partitionOrdered_byte_j68 n2 a3) m3) (sl_partitionOrdered_byte_j68 n2 a3)) m0 s = some r) (fun s h => ?_) (fun m5 s h hN5 => ?_) fuel v71 h
     ·obtain ⟨v84, rfl⟩ : ∃ x, x = s := ⟨s, rfl⟩
      have h : sl_partitionOrdered_byte_l5 n2 a3 v69 v82 (sl_partitionOrdered_byte_j83 n2 v69 v82 (sl_partitionOrdered_byte_l3 fuel n2 a3 (sl_partitionOrdered_byte_j68 n2 a3) m3) (sl_partitionOrdered_byte_j68 n2 a3)) 0 v84 = some r := h
      rw [sl_partitionOrdered_byte_l5.eq_1] at h
      cases h
     ·obtain ⟨v84, rfl⟩ : ∃ x, x = s := ⟨s, rfl⟩
      have h : sl_partitionOrdered_byte_l5 n2 a3 v69 v82 (sl_partitionOrdered_byte_j83 n2 v69 v82 (sl_partitionOrdered_byte_l3 fuel n2 a3 (sl_partitionOrdered_byte_j68 n2 a3) m3) (sl_partitionOrdered_byte_j68 n2 a3)) (m5 + 1) v84 = some r := h
      rw [sl_partitionOrdered_byte_l5.eq_2] at h
      refine W.seq ?_
      refine W.seq ?_
      refine W.join (σ := (Bool)) (fun s => [(0, S1 n2), (1, I6 a3), (10, I6 v82), (11, I6 v84), (129, .bool s), O1 v69]) (fun s => (sl_partitionOrdered_byte_j86 v84 (sl_partitionOrdered_byte_l5 n2 a3 v69 v82 (sl_partitionOrdered_byte_j83 n2 v69 v82 (sl_partitionOrdered_byte_l3 fuel n2 a3 (sl_partitionOrdered_byte_j68 n2 a3) m3) (sl_partitionOrdered_byte_j68 n2 a3)) m5) (sl_partitionOrdered_byte_j83 n2 v69 v82 (sl_partitionOrdered_byte_l3 fuel n2 a3 (sl_partitionOrdered_byte_j68 n2 a3) m3) (sl_partitionOrdered_byte_j68 n2 a3))) s = some r) (fun s h => ?_) (fun hK86 => ?_)
      ·obtain ⟨v92, rfl⟩ : ∃ x, x = s := ⟨s, rfl⟩
       have h : (sl_partitionOrdered_byte_j86 v84 (sl_partitionOrdered_byte_l5 n2 a3 v69 v82 (sl_partitionOrdered_byte_j83 n2 v69 v82 (sl_partitionOrdered_byte_l3 fuel n2 a3 (sl_partitionOrdered_byte_j68 n2 a3) m3) (sl_partitionOrdered_byte_j68 n2 a3)) m5) (sl_partitionOrdered_byte_j83 n2 v69 v82 (sl_partitionOrdered_byte_l3 fuel n2 a3 (sl_partitionOrdered_byte_j68 n2 a3) m3) (sl_partitionOrdered_byte_j68 n2 a3))) v92 = some r := h
       unfold sl_partitionOrdered_byte_j86 at h
       refine W.condB v92 (by kernel_rfl) (fun hb => ?_) (fun hb => ?_)
       ·replace h := cond_t hb h
        refine W.skip ?_
        refine W.weak [0, 1, 10, 11, 2000000] [] [] [] (env' := [(0, S1 n2), (1, I6 a3), (10, I6 v82), (11, I6 v84), O1 v69]) (by kernel_rfl) ?_
        refine W.block ?_
        refine W.regT [0, 1, 10, 11, 2000000] [] [] [] (e2 := [(0, S1 n2), (1, I6 a3), (10, I6 v82), (11, I6 (W6 (v84 - 1))), O1 v69]) (by kernel_rfl) (by kernel_rfl) (fun _ h => h) ?_
        exact hN5 (W6 (v84 - 1)) h
       replace h := cond_f hb h
       refine W.exit ?_
       refine W.weak [0, 1, 10, 11, 2000000] [] [] [] (env' := [(0, S1 n2), (1, I6 a3), (10, I6 v82), (11, I6 v84), O1 v69]) (by kernel_rfl) ?_
       exact hK83 v84 h
      refine W.region (by kernel_rfl) ?_
      refine WO.boolK 4 (fun b => [(0, S1 n2), (1, I6 a3), (10, I6 v82), (11, I6 v84), (115, I6 v82), (116, I6 v84), (117, .bool b), (118, .bool b), O1 v69]) (decide (v82 ≤ v84)) (by kernel_rfl) (fun hb => ?_) (fun hb => ?_)
      ·replace h := cond_t hb h
       obtain ⟨hc87, h⟩ := chk_some h
       refine WO.pureK 2 (if (0 : Int) ≤ v84 ∧ v84 < ((n2 : Nat) : Int) then some (.pe 2000000 1 (0 + Int.toNat v84) 0) else none) (v := .pe 2000000 1 (0 + Int.toNat v84) 0) (by kernel_rfl) (ite_some hc87) (e1 := [(0, S1 n2), (1, I6 a3), (10, I6 v82), (11, I6 v84), (115, I6 v82), (116, I6 v84), (117, .bool true), (118, .bool true), (119, S1 n2), (120, I6 v84), (121, .pe 2000000 1 (0 + Int.toNat v84) 0), O1 v69]) (by kernel_rfl) ?_
       obtain ⟨e88, he88, h⟩ := bind_some h
       refine WO.pureK 0 (match (M8 v69)[(0 + Int.toNat v84)]? with | some y => cut Try.prog 5 (y.cells.map AV.strip) 0 | none => none) (v := .int .u8 e88) (by kernel_rfl) ((pe_ld (f := (AV.int .u8)) (G := (fun y => cut Try.prog 5 (y.cells.map AV.strip) 0)) he88).trans (by kernel_rfl)) (e1 := [(0, S1 n2), (1, I6 a3), (10, I6 v82), (11, I6 v84), (115, I6 v82), (116, I6 v84), (117, .bool true), (118, .bool true), (119, S1 n2), (120, I6 v84), (121, .pe 2000000 1 (0 + Int.toNat v84) 0), (122, .int .u8 e88), O1 v69]) (by kernel_rfl) ?_
       obtain ⟨hc89, h⟩ := chk_some h
       refine WO.pureK 2 (if (0 : Int) ≤ a3 ∧ a3 < ((n2 : Nat) : Int) then some (.pe 2000000 1 (0 + Int.toNat a3) 0) else none) (v := .pe 2000000 1 (0 + Int.toNat a3) 0) (by kernel_rfl) (ite_some hc89) (e1 := [(0, S1 n2), (1, I6 a3), (10, I6 v82), (11, I6 v84), (115, I6 v82), (116, I6 v84), (117, .bool true), (118, .bool true), (119, S1 n2), (120, I6 v84), (121, .pe 2000000 1 (0 + Int.toNat v84) 0), (122, .int .u8 e88), (123, S1 n2), (124, I6 a3), (125, .pe 2000000 1 (0 + Int.toNat a3) 0), O1 v69]) (by kernel_rfl) ?_
       obtain ⟨e90, he90, h⟩ := bind_some h
       refine WO.pureK 0 (match (M8 v69)[(0 + Int.toNat a3)]? with | some y => cut Try.prog 5 (y.cells.map AV.strip) 0 | none => none) (v := .int .u8 e90) (by kernel_rfl) ((pe_ld (f := (AV.int .u8)) (G := (fun y => cut Try.prog 5 (y.cells.map AV.strip) 0)) he90).trans (by kernel_rfl)) (e1 := [(0, S1 n2), (1, I6 a3), (10, I6 v82), (11, I6 v84), (115, I6 v82), (116, I6 v84), (117, .bool true), (118, .bool true), (119, S1 n2), (120, I6 v84), (121, .pe 2000000 1 (0 + Int.toNat v84) 0), (122, .int .u8 e88), (123, S1 n2), (124, I6 a3), (125, .pe 2000000 1 (0 + Int.toNat a3) 0), (126, .int .u8 e90), O1 v69]) (by kernel_rfl) ?_
       obtain ⟨w91, hw91, h⟩ := bind_some h
       refine WO.callK 0 (F := 116) (l := [.int .u8 e88, .int .u8 e90]) (C := []) (r := .bool w91) (by kernel_rfl) (by kernel_rfl) (run_cm_Less_byte e88 e90 w91 hw91) (e1 := [(0, S1 n2), (1, I6 a3), (10, I6 v82), (11, I6 v84), (115, I6 v82), (116, I6 v84), (117, .bool true), (118, .bool true), (119, S1 n2), (120, I6 v84), (121, .pe 2000000 1 (0 + Int.toNat v84) 0), (122, .int .u8 e88), (123, S1 n2), (124, I6 a3), (125, .pe 2000000 1 (0 + Int.toNat a3) 0), (126, .int .u8 e90), (127, .bool w91), O1 v69]) (by kernel_rfl) ?_
       refine WO.fin [0, 1, 10, 11, 129, 2000000] [] [] [] (e2 := [(0, S1 n2), (1, I6 a3), (10, I6 v82), (11, I6 v84), (129, .bool (!w91)), O1 v69]) (by kernel_rfl) (fun _ h => h) ?_
       exact hK86 (!w91) h
      replace h := cond_f hb h
      refine WO.fin [0, 1, 10, 11, 129, 2000000] [] [] [] (e2 := [(0, S1 n2), (1, I6 a3), (10, I6 v82), (11, I6 v84), (129, .bool false), O1 v69]) (by kernel_rfl) (fun _ h => h) ?_
      exact hK86 false h
    refine W.block ?_
    refine W.weak [0, 1, 10, 11, 2000000] [] [] [] (env' := [(0, S1 n2), (1, I6 a3), (10, I6 v70), (11, I6 v71), O1 v69]) (by kernel_rfl) ?_
    refine W.fuel (σ := (Int)) (fun s => [(0, S1 n2), (1, I6 a3), (10, I6 s), (11, I6 v71), O1 v69]) (fun m0 s => sl_partitionOrdered_byte_l4 n2 a3 v69 v71 (sl_partitionOrdered_byte_j72 fuel n2 a3 v69 v71 (sl_partitionOrdered_byte_l3 fuel n2 a3 (sl_partitionOrdered_byte_j68 n2 a3) m3) (sl_partitionOrdered_byte_j68 n2 a3)) m0 s = some r) (fun s h => ?_) (fun m4 s h hN4 => ?_) fuel v70 h
    ·obtain ⟨v73, rfl⟩ : ∃ x, x = s := ⟨s, rfl⟩
     have h : sl_partitionOrdered_byte_l4 n2 a3 v69 v71 (sl_partitionOrdered_byte_j72 fuel n2 a3 v69 v71 (sl_partitionOrdered_byte_l3 fuel n2 a3 (sl_partitionOrdered_byte_j68 n2 a3) m3) (sl_partitionOrdered_byte_j68 n2 a3)) 0 v73 = some r := h
     rw [sl_partitionOrdered_byte_l4.eq_1] at h
     cases h
    ·obtain ⟨v73, rfl⟩ : ∃ x, x = s := ⟨s, rfl⟩
     have h : sl_partitionOrdered_byte_l4 n2 a3 v69 v71 (sl_partitionOrdered_byte_j72 fuel n2 a3 v69 v71 (sl_partitionOrdered_byte_l3 fuel n2 a3 (sl_partitionOrdered_byte_j68 n2 a3) m3) (sl_partitionOrdered_byte_j68 n2 a3)) (m4 + 1) v73 = some r := h
     rw [sl_partitionOrdered_byte_l4.eq_2] at h
     refine W.seq ?_
     refine W.seq ?_
     refine W.join (σ := (Bool)) (fun s => [(0, S1 n2), (1, I6 a3), (10, I6 v73), (11, I6 v71), (112, .bool s), O1 v69]) (fun s => (sl_partitionOrdered_byte_j75 v73 (sl_partitionOrdered_byte_l4 n2 a3 v69 v71 (sl_partitionOrdered_byte_j72 fuel n2 a3 v69 v71 (sl_partitionOrdered_byte_l3 fuel n2 a3 (sl_partitionOrdered_byte_j68 n2 a3) m3) (sl_partitionOrdered_byte_j68 n2 a3)) m4) (sl_partitionOrdered_byte_j72 fuel n2 a3 v69 v71 (sl_partitionOrdered_byte_l3 fuel n2 a3 (sl_partitionOrdered_byte_j68 n2 a3) m3) (sl_partitionOrdered_byte_j68 n2 a3))) s = some r) (fun s h => ?_) (fun hK75 => ?_)
     ·obtain ⟨v81, rfl⟩ : ∃ x, x = s := ⟨s, rfl⟩
      have h : (sl_partitionOrdered_byte_j75 v73 (sl_partitionOrdered_byte_l4 n2 a3 v69 v71 (sl_partitionOrdered_byte_j72 fuel n2 a3 v69 v71 (sl_partitionOrdered_byte_l3 fuel n2 a3 (sl_partitionOrdered_byte_j68 n2 a3) m3) (sl_partitionOrdered_byte_j68 n2 a3)) m4) (sl_partitionOrdered_byte_j72 fuel n2 a3 v69 v71 (sl_partitionOrdered_byte_l3 fuel n2 a3 (sl_partitionOrdered_byte_j68 n2 a3) m3) (sl_partitionOrdered_byte_j68 n2 a3))) v81 = some r := h
      unfold sl_partitionOrdered_byte_j75 at h
      refine W.condB v81 (by kernel_rfl) (fun hb => ?_) (fun hb => ?_)
      ·replace h := cond_t hb h
       refine W.skip ?_
       refine W.weak [0, 1, 10, 11, 2000000] [] [] [] (env' := [(0, S1 n2), (1, I6 a3), (10, I6 v73), (11, I6 v71), O1 v69]) (by kernel_rfl) ?_
       refine W.block ?_
       refine W.regT [0, 1, 10, 11, 2000000] [] [] [] (e2 := [(0, S1 n2), (1, I6 a3), (10, I6 (W6 (v73 + 1))), (11, I6 v71), O1 v69]) (by kernel_rfl) (by kernel_rfl) (fun _ h => h) ?_
       exact hN4 (W6 (v73 + 1)) h
      replace h := cond_f hb h
      refine W.exit ?_
      refine W.weak [0, 1, 10, 11, 2000000] [] [] [] (env' := [(0, S1 n2), (1, I6 a3), (10, I6 v73), (11, I6 v71), O1 v69]) (by kernel_rfl) ?_
      exact hK72 v73 h
     refine W.region (by kernel_rfl) ?_
     refine WO.boolK 4 (fun b => [(0, S1 n2), (1, I6 a3), (10, I6 v73), (11, I6 v71), (99, I6 v73), (100, I6 v71), (101, .bool b), (102, .bool b), O1 v69]) (decide (v73 ≤ v71)) (by kernel_rfl) (fun hb => ?_) (fun hb => ?_)
     ·replace h := cond_t hb h
      obtain ⟨hc76, h⟩ := chk_some h
      refine WO.pureK 2 (if (0 : Int) ≤ v73 ∧ v73 < ((n2 : Nat) : Int) then some (.pe 2000000 1 (0 + Int.toNat v73) 0) else none) (v := .pe 2000000 1 (0 + Int.toNat v73) 0) (by kernel_rfl) (ite_some hc76) (e1 := [(0, S1 n2), (1, I6 a3), (10, I6 v73), (11, I6 v71), (99, I6 v73), (100, I6 v71), (101, .bool true), (102, .bool true), (103, S1 n2), (104, I6 v73), (105, .pe 2000000 1 (0 + Int.toNat v73) 0), O1 v69]) (by kernel_rfl) ?_
      obtain ⟨e77, he77, h⟩ := bind_some h
      refine WO.pureK 0 (match (M8 v69)[(0 + Int.toNat v73)]? with | some y => cut Try.prog 5 (y.cells.map AV.strip) 0 | none => none) (v := .int .u8 e77) (by kernel_rfl) ((pe_ld (f := (AV.int .u8)) (G := (fun y => cut Try.prog 5 (y.cells.map AV.strip) 0)) he77).trans (by kernel_rfl)) (e1 := [(0, S1 n2), (1, I6 a3), (10, I6 v73), (11, I6 v71), (99, I6 v73), (100, I6 v71), (101, .bool true), (102, .bool true), (103, S1 n2), (104, I6 v73), (105, .pe 2000000 1 (0 + Int.toNat v73) 0), (106, .int .u8 e77), O1 v69]) (by kernel_rfl) ?_
      obtain ⟨hc78, h⟩ := chk_some h
      refine WO.pureK 2 (if (0 : Int) ≤ a3 ∧ a3 < ((n2 : Nat) : Int) then some (.pe 2000000 1 (0 + Int.toNat a3) 0) else none) (v := .pe 2000000 1 (0 + Int.toNat a3) 0) (by kernel_rfl) (ite_some hc78) (e1 := [(0, S1 n2), (1, I6 a3), (10, I6 v73), (11, I6 v71), (99, I6 v73), (100, I6 v71), (101, .bool true), (102, .bool true), (103, S1 n2), (104, I6 v73), (105, .pe 2000000 1 (0 + Int.toNat v73) 0), (106, .int .u8 e77), (107, S1 n2), (108, I6 a3), (109, .pe 2000000 1 (0 + Int.toNat a3) 0), O1 v69]) (by kernel_rfl) ?_
      obtain ⟨e79, he79, h⟩ := bind_some h
      refine WO.pureK 0 (match (M8 v69)[(0 + Int.toNat a3)]? with | some y => cut Try.prog 5 (y.cells.map AV.strip) 0 | none => none) (v := .int .u8 e79) (by kernel_rfl) ((pe_ld (f := (AV.int .u8)) (G := (fun y => cut Try.prog 5 (y.cells.map AV.strip) 0)) he79).trans (by kernel_rfl)) (e1 := [(0, S1 n2), (1, I6 a3), (10, I6 v73), (11, I6 v71), (99, I6 v73), (100, I6 v71), (101, .bool true), (102, .bool true), (103, S1 n2), (104, I6 v73), (105, .pe 2000000 1 (0 + Int.toNat v73) 0), (106, .int .u8 e77), (107, S1 n2), (108, I6 a3), (109, .pe 2000000 1 (0 + Int.toNat a3) 0), (110, .int .u8 e79), O1 v69]) (by kernel_rfl) ?_
      obtain ⟨w80, hw80, h⟩ := bind_some h
      refine WO.callK 0 (F := 116) (l := [.int .u8 e77, .int .u8 e79]) (C := []) (r := .bool w80) (by kernel_rfl) (by kernel_rfl) (run_cm_Less_byte e77 e79 w80 hw80) (e1 := [(0, S1 n2), (1, I6 a3), (10, I6 v73), (11, I6 v71), (99, I6 v73), (100, I6 v71), (101, .bool true), (102, .bool true), (103, S1 n2), (104, I6 v73), (105, .pe 2000000 1 (0 + Int.toNat v73) 0), (106, .int .u8 e77), (107, S1 n2), (108, I6 a3), (109, .pe 2000000 1 (0 + Int.toNat a3) 0), (110, .int .u8 e79), (111, .bool w80), O1 v69]) (by kernel_rfl) ?_
      refine WO.fin [0, 1, 10, 11, 112, 2000000] [] [] [] (e2 := [(0, S1 n2), (1, I6 a3), (10, I6 v73), (11, I6 v71), (112, .bool w80), O1 v69]) (by kernel_rfl) (fun _ h => h) ?_
      exact hK75 w80 h
     replace h := cond_f hb h
     refine WO.fin [0, 1, 10, 11, 112, 2000000] [] [] [] (e2 := [(0, S1 n2), (1, I6 a3), (10, I6 v73), (11, I6 v71), (112, .bool false), O1 v69]) (by kernel_rfl) (fun _ h => h) ?_
     exact hK75 false h
  refine W.block ?_
  refine W.weak [0, 1, 10, 11, 2000000] [] [] [] (env' := [(0, S1 n2), (1, I6 a3), (10, I6 v29), (11, I6 (W6 (a4 - 1))), O1 u16]) (by kernel_rfl) ?_
  refine W.fuel (σ := (Int)) (fun s => [(0, S1 n2), (1, I6 a3), (10, I6 v29), (11, I6 s), O1 u16]) (fun m0 s => sl_partitionOrdered_byte_l2 n2 a3 u16 v29 (sl_partitionOrdered_byte_j30 fuel n2 a3 u16 v29) m0 s = some r) (fun s h => ?_) (fun m2 s h hN2 => ?_) fuel (W6 (a4 - 1)) h
  ·obtain ⟨v31, rfl⟩ : ∃ x, x = s := ⟨s, rfl⟩
   have h : sl_partitionOrdered_byte_l2 n2 a3 u16 v29 (sl_partitionOrdered_byte_j30 fuel n2 a3 u16 v29) 0 v31 = some r := h
   rw [sl_partitionOrdered_byte_l2.eq_1] at h
   cases h
  ·obtain ⟨v31, rfl⟩ : ∃ x, x = s := ⟨s, rfl⟩
   have h : sl_partitionOrdered_byte_l2 n2 a3 u16 v29 (sl_partitionOrdered_byte_j30 fuel n2 a3 u16 v29) (m2 + 1) v31 = some r := h
   rw [sl_partitionOrdered_byte_l2.eq_2] at h
   refine W.seq ?_
   refine W.seq ?_
   refine W.join (σ := (Bool)) (fun s => [(0, S1 n2), (1, I6 a3), (10, I6 v29), (11, I6 v31), (60, .bool s), O1 u16]) (fun s => (sl_partitionOrdered_byte_j33 v31 (sl_partitionOrdered_byte_l2 n2 a3 u16 v29 (sl_partitionOrdered_byte_j30 fuel n2 a3 u16 v29) m2) (sl_partitionOrdered_byte_j30 fuel n2 a3 u16 v29)) s = some r) (fun s h => ?_) (fun hK33 => ?_)
   ·obtain ⟨v39, rfl⟩ : ∃ x, x = s := ⟨s, rfl⟩
    have h : (sl_partitionOrdered_byte_j33 v31 (sl_partitionOrdered_byte_l2 n2 a3 u16 v29 (sl_partitionOrdered_byte_j30 fuel n2 a3 u16 v29) m2) (sl_partitionOrdered_byte_j30 fuel n2 a3 u16 v29)) v39 = some r := h
    unfold sl_partitionOrdered_byte_j33 at h
    refine W.condB v39 (by kernel_rfl) (fun hb => ?_) (fun hb => ?_)
    ·replace h := cond_t hb h
     refine W.skip ?_
     refine W.weak [0, 1, 10, 11, 2000000] [] [] [] (env' := [(0, S1 n2), (1, I6 a3), (10, I6 v29), (11, I6 v31), O1 u16]) (by kernel_rfl) ?_
     refine W.block ?_
     refine W.regT [0, 1, 10, 11, 2000000] [] [] [] (e2 := [(0, S1 n2), (1, I6 a3), (10, I6 v29), (11, I6 (W6 (v31 - 1))), O1 u16]) (by kernel_rfl) (by kernel_rfl) (fun _ h => h) ?_
     exact hN2 (W6 (v31 - 1)) h
    replace h := cond_f hb h
    refine W.exit ?_
    refine W.weak [0, 1, 10, 11, 2000000] [] [] [] (env' := [(0, S1 n2), (1, I6 a3), (10, I6 v29), (11, I6 v31), O1 u16]) (by kernel_rfl) ?_
    exact hK30 v31 h
   refine W.region (by kernel_rfl) ?_
   refine WO.boolK 4 (fun b => [(0, S1 n2), (1, I6 a3), (10, I6 v29), (11, I6 v31), (46, I6 v29), (47, I6 v31), (48, .bool b), (49, .bool b), O1 u16]) (decide (v29 ≤ v31)) (by kernel_rfl) (fun hb => ?_) (fun hb => ?_)
   ·replace h := cond_t hb h
    obtain ⟨hc34, h⟩ := chk_some h
    refine WO.pureK 2 (if (0 : Int) ≤ v31 ∧ v31 < ((n2 : Nat) : Int) then some (.pe 2000000 1 (0 + Int.toNat v31) 0) else none) (v := .pe 2000000 1 (0 + Int.toNat v31) 0) (by kernel_rfl) (ite_some hc34) (e1 := [(0, S1 n2), (1, I6 a3), (10, I6 v29), (11, I6 v31), (46, I6 v29), (47, I6 v31), (48, .bool true), (49, .bool true), (50, S1 n2), (51, I6 v31), (52, .pe 2000000 1 (0 + Int.toNat v31) 0), O1 u16]) (by kernel_rfl) ?_
    obtain ⟨e35, he35, h⟩ := bind_some h
    refine WO.pureK 0 (match (M8 u16)[(0 + Int.toNat v31)]? with | some y => cut Try.prog 5 (y.cells.map AV.strip) 0 | none => none) (v := .int .u8 e35) (by kernel_rfl) ((pe_ld (f := (AV.int .u8)) (G := (fun y => cut Try.prog 5 (y.cells.map AV.strip) 0)) he35).trans (by kernel_rfl)) (e1 := [(0, S1 n2), (1, I6 a3), (10, I6 v29), (11, I6 v31), (46, I6 v29), (47, I6 v31), (48, .bool true), (49, .bool true), (50, S1 n2), (51, I6 v31), (52, .pe 2000000 1 (0 + Int.toNat v31) 0), (53, .int .u8 e35), O1 u16]) (by kernel_rfl) ?_
    obtain ⟨hc36, h⟩ := chk_some h
    refine WO.pureK 2 (if (0 : Int) ≤ a3 ∧ a3 < ((n2 : Nat) : Int) then some (.pe 2000000 1 (0 + Int.toNat a3) 0) else none) (v := .pe 2000000 1 (0 + Int.toNat a3) 0) (by kernel_rfl) (ite_some hc36) (e1 := [(0, S1 n2), (1, I6 a3), (10, I6 v29), (11, I6 v31), (46, I6 v29), (47, I6 v31), (48, .bool true), (49, .bool true), (50, S1 n2), (51, I6 v31), (52, .pe 2000000 1 (0 + Int.toNat v31) 0), (53, .int .u8 e35), (54, S1 n2), (55, I6 a3), (56, .pe 2000000 1 (0 + Int.toNat a3) 0), O1 u16]) (by kernel_rfl) ?_
    obtain ⟨e37, he37, h⟩ := bind_some h
    refine WO.pureK 0 (match (M8 u16)[(0 + Int.toNat a3)]? with | some y => cut Try.prog 5 (y.cells.map AV.strip) 0 | none => none) (v := .int .u8 e37) (by kernel_rfl) ((pe_ld (f := (AV.int .u8)) (G := (fun y => cut Try.prog 5 (y.cells.map AV.strip) 0)) he37).trans (by kernel_rfl)) (e1 := [(0, S1 n2), (1, I6 a3), (10, I6 v29), (11, I6 v31), (46, I6 v29), (47, I6 v31), (48, .bool true), (49, .bool true), (50, S1 n2), (51, I6 v31), (52, .pe 2000000 1 (0 + Int.toNat v31) 0), (53, .int .u8 e35), (54, S1 n2), (55, I6 a3), (56, .pe 2000000 1 (0 + Int.toNat a3) 0), (57, .int .u8 e37), O1 u16]) (by kernel_rfl) ?_
    obtain ⟨w38, hw38, h⟩ := bind_some h
    refine WO.callK 0 (F := 116) (l := [.int .u8 e35, .int .u8 e37]) (C := []) (r := .bool w38) (by kernel_rfl) (by kernel_rfl) (run_cm_Less_byte e35 e37 w38 hw38) (e1 := [(0, S1 n2), (1, I6 a3), (10, I6 v29), (11, I6 v31), (46, I6 v29), (47, I6 v31), (48, .bool true), (49, .bool true), (50, S1 n2), (51, I6 v31), (52, .pe 2000000 1 (0 + Int.toNat v31) 0), (53, .int .u8 e35), (54, S1 n2), (55, I6 a3), (56, .pe 2000000 1 (0 + Int.toNat a3) 0), (57, .int .u8 e37), (58, .bool w38), O1 u16]) (by kernel_rfl) ?_
    refine WO.fin [0, 1, 10, 11, 60, 2000000] [] [] [] (e2 := [(0, S1 n2), (1, I6 a3), (10, I6 v29), (11, I6 v31), (60, .bool (!w38)), O1 u16]) (by kernel_rfl) (fun _ h => h) ?_
    exact hK33 (!w38) h
   replace h := cond_f hb h
   refine WO.fin [0, 1, 10, 11, 60, 2000000] [] [] [] (e2 := [(0, S1 n2), (1, I6 a3), (10, I6 v29), (11, I6 v31), (60, .bool false), O1 u16]) (by kernel_rfl) (fun _ h => h) ?_
   exact hK33 false h
 refine W.block ?_
 refine W.weak [0, 1, 10, 11, 2000000] [] [] [] (env' := [(0, S1 n2), (1, I6 a3), (10, I6 (W6 (a3 + 1))), (11, I6 (W6 (a4 - 1))), O1 u16]) (by kernel_rfl) ?_
 refine W.fuel (σ := (Int)) (fun s => [(0, S1 n2), (1, I6 a3), (10, I6 s), (11, I6 (W6 (a4 - 1))), O1 u16]) (fun m0 s => sl_partitionOrdered_byte_l1 n2 a3 a4 u16 (sl_partitionOrdered_byte_j19 fuel n2 a3 a4 u16) m0 s = some r) (fun s h => ?_) (fun m1 s h hN1 => ?_) fuel (W6 (a3 + 1)) h
 ·obtain ⟨v20, rfl⟩ : ∃ x, x = s := ⟨s, rfl⟩
  have h : sl_partitionOrdered_byte_l1 n2 a3 a4 u16 (sl_partitionOrdered_byte_j19 fuel n2 a3 a4 u16) 0 v20 = some r := h
  rw [sl_partitionOrdered_byte_l1.eq_1] at h
  cases h
 ·obtain ⟨v20, rfl⟩ : ∃ x, x = s := ⟨s, rfl⟩
  have h : sl_partitionOrdered_byte_l1 n2 a3 a4 u16 (sl_partitionOrdered_byte_j19 fuel n2 a3 a4 u16) (m1 + 1) v20 = some r := h
  rw [sl_partitionOrdered_byte_l1.eq_2] at h
  refine W.seq ?_
  refine W.seq ?_
  refine W.join (σ := (Bool)) (fun s => [(0, S1 n2), (1, I6 a3), (10, I6 v20), (11, I6 (W6 (a4 - 1))), (43, .bool s), O1 u16]) (fun s => (sl_partitionOrdered_byte_j22 v20 (sl_partitionOrdered_byte_l1 n2 a3 a4 u16 (sl_partitionOrdered_byte_j19 fuel n2 a3 a4 u16) m1) (sl_partitionOrdered_byte_j19 fuel n2 a3 a4 u16)) s = some r) (fun s h => ?_) (fun hK22 => ?_)
  ·obtain ⟨v28, rfl⟩ : ∃ x, x = s := ⟨s, rfl⟩
   have h : (sl_partitionOrdered_byte_j22 v20 (sl_partitionOrdered_byte_l1 n2 a3 a4 u16 (sl_partitionOrdered_byte_j19 fuel n2 a3 a4 u16) m1) (sl_partitionOrdered_byte_j19 fuel n2 a3 a4 u16)) v28 = some r := h
   unfold sl_partitionOrdered_byte_j22 at h
   refine W.condB v28 (by kernel_rfl) (fun hb => ?_) (fun hb => ?_)
   ·replace h := cond_t hb h
    refine W.skip ?_
    refine W.weak [0, 1, 10, 11, 2000000] [] [] [] (env' := [(0, S1 n2), (1, I6 a3), (10, I6 v20), (11, I6 (W6 (a4 - 1))), O1 u16]) (by kernel_rfl) ?_
    refine W.block ?_
    refine W.regT [0, 1, 10, 11, 2000000] [] [] [] (e2 := [(0, S1 n2), (1, I6 a3), (10, I6 (W6 (v20 + 1))), (11, I6 (W6 (a4 - 1))), O1 u16]) (by kernel_rfl) (by kernel_rfl) (fun _ h => h) ?_
    exact hN1 (W6 (v20 + 1)) h
   replace h := cond_f hb h
   refine W.exit ?_
   refine W.weak [0, 1, 10, 11, 2000000] [] [] [] (env' := [(0, S1 n2), (1, I6 a3), (10, I6 v20), (11, I6 (W6 (a4 - 1))), O1 u16]) (by kernel_rfl) ?_
   exact hK19 v20 h
  refine W.region (by kernel_rfl) ?_
  refine WO.boolK 4 (fun b => [(0, S1 n2), (1, I6 a3), (10, I6 v20), (11, I6 (W6 (a4 - 1))), (30, I6 v20), (31, I6 (W6 (a4 - 1))), (32, .bool b), (33, .bool b), O1 u16]) (decide (v20 ≤ (W6 (a4 - 1)))) (by kernel_rfl) (fun hb => ?_) (fun hb => ?_)
  ·replace h := cond_t hb h
   obtain ⟨hc23, h⟩ := chk_some h
   refine WO.pureK 2 (if (0 : Int) ≤ v20 ∧ v20 < ((n2 : Nat) : Int) then some (.pe 2000000 1 (0 + Int.toNat v20) 0) else none) (v := .pe 2000000 1 (0 + Int.toNat v20) 0) (by kernel_rfl) (ite_some hc23) (e1 := [(0, S1 n2), (1, I6 a3), (10, I6 v20), (11, I6 (W6 (a4 - 1))), (30, I6 v20), (31, I6 (W6 (a4 - 1))), (32, .bool true), (33, .bool true), (34, S1 n2), (35, I6 v20), (36, .pe 2000000 1 (0 + Int.toNat v20) 0), O1 u16]) (by kernel_rfl) ?_
   obtain ⟨e24, he24, h⟩ := bind_some h
   refine WO.pureK 0 (match (M8 u16)[(0 + Int.toNat v20)]? with | some y => cut Try.prog 5 (y.cells.map AV.strip) 0 | none => none) (v := .int .u8 e24) (by kernel_rfl) ((pe_ld (f := (AV.int .u8)) (G := (fun y => cut Try.prog 5 (y.cells.map AV.strip) 0)) he24).trans (by kernel_rfl)) (e1 := [(0, S1 n2), (1, I6 a3), (10, I6 v20), (11, I6 (W6 (a4 - 1))), (30, I6 v20), (31, I6 (W6 (a4 - 1))), (32, .bool true), (33, .bool true), (34, S1 n2), (35, I6 v20), (36, .pe 2000000 1 (0 + Int.toNat v20) 0), (37, .int .u8 e24), O1 u16]) (by kernel_rfl) ?_
   obtain ⟨hc25, h⟩ := chk_some h
   refine WO.pureK 2 (if (0 : Int) ≤ a3 ∧ a3 < ((n2 : Nat) : Int) then some (.pe 2000000 1 (0 + Int.toNat a3) 0) else none) (v := .pe 2000000 1 (0 + Int.toNat a3) 0) (by kernel_rfl) (ite_some hc25) (e1 := [(0, S1 n2), (1, I6 a3), (10, I6 v20), (11, I6 (W6 (a4 - 1))), (30, I6 v20), (31, I6 (W6 (a4 - 1))), (32, .bool true), (33, .bool true), (34, S1 n2), (35, I6 v20), (36, .pe 2000000 1 (0 + Int.toNat v20) 0), (37, .int .u8 e24), (38, S1 n2), (39, I6 a3), (40, .pe 2000000 1 (0 + Int.toNat a3) 0), O1 u16]) (by kernel_rfl) ?_
   obtain ⟨e26, he26, h⟩ := bind_some h
   refine WO.pureK 0 (match (M8 u16)[(0 + Int.toNat a3)]? with | some y => cut Try.prog 5 (y.cells.map AV.strip) 0 | none => none) (v := .int .u8 e26) (by kernel_rfl) ((pe_ld (f := (AV.int .u8)) (G := (fun y => cut Try.prog 5 (y.cells.map AV.strip) 0)) he26).trans (by kernel_rfl)) (e1 := [(0, S1 n2), (1, I6 a3), (10, I6 v20), (11, I6 (W6 (a4 - 1))), (30, I6 v20), (31, I6 (W6 (a4 - 1))), (32, .bool true), (33, .bool true), (34, S1 n2), (35, I6 v20), (36, .pe 2000000 1 (0 + Int.toNat v20) 0), (37, .int .u8 e24), (38, S1 n2), (39, I6 a3), (40, .pe 2000000 1 (0 + Int.toNat a3) 0), (41, .int .u8 e26), O1 u16]) (by kernel_rfl) ?_
   obtain ⟨w27, hw27, h⟩ := bind_some h
   refine WO.callK 0 (F := 116) (l := [.int .u8 e24, .int .u8 e26]) (C := []) (r := .bool w27) (by kernel_rfl) (by kernel_rfl) (run_cm_Less_byte e24 e26 w27 hw27) (e1 := [(0, S1 n2), (1, I6 a3), (10, I6 v20), (11, I6 (W6 (a4 - 1))), (30, I6 v20), (31, I6 (W6 (a4 - 1))), (32, .bool true), (33, .bool true), (34, S1 n2), (35, I6 v20), (36, .pe 2000000 1 (0 + Int.toNat v20) 0), (37, .int .u8 e24), (38, S1 n2), (39, I6 a3), (40, .pe 2000000 1 (0 + Int.toNat a3) 0), (41, .int .u8 e26), (42, .bool w27), O1 u16]) (by kernel_rfl) ?_
   refine WO.fin [0, 1, 10, 11, 43, 2000000] [] [] [] (e2 := [(0, S1 n2), (1, I6 a3), (10, I6 v20), (11, I6 (W6 (a4 - 1))), (43, .bool w27), O1 u16]) (by kernel_rfl) (fun _ h => h) ?_
   exact hK22 w27 h
  replace h := cond_f hb h
  refine WO.fin [0, 1, 10, 11, 43, 2000000] [] [] [] (e2 := [(0, S1 n2), (1, I6 a3), (10, I6 v20), (11, I6 (W6 (a4 - 1))), (43, .bool false), O1 u16]) (by kernel_rfl) (fun _ h => h) ?_
  exact hK22 false h
end Go.AM
