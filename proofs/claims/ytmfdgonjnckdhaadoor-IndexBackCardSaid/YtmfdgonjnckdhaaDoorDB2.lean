/- s -/
import Derived.Test.YtmfdgonjnckdhaaDoorDB1
set_option maxRecDepth 100000
set_option linter.unusedVariables false
set_option linter.unusedSimpArgs false
namespace Go.AM
open Go.Proofs
def sl_partitionOrdered_byte_j68 (n2 : Nat) (a3 : Int) (v108 : (List Int)) (v109 : Int) : Option ((Int × Bool) × (List Int)) :=
 (chk (decide ((0 : Int) ≤ a3 ∧ a3 < ((n2 : Nat) : Int))) ((v108[(0 + Int.toNat a3)]?).bind fun e112 => (chk (decide ((0 : Int) ≤ v109 ∧ v109 < ((n2 : Nat) : Int))) ((v108[(0 + Int.toNat v109)]?).bind fun e114 => (chk (decide ((0 : Int) ≤ v109 ∧ v109 < ((n2 : Nat) : Int))) ((upd v108 (0 + Int.toNat v109) e112).bind fun u116 => (chk (decide ((0 : Int) ≤ a3 ∧ a3 < ((n2 : Nat) : Int))) ((upd u116 (0 + Int.toNat a3) e114).bind fun u119 => (some ((v109, false), u119))))))))))
def sl_partitionOrdered_byte_j83 (n2 : Nat) (v69 : (List Int)) (v82 : Int) (N3 : ((List Int) → Int → Int → Option ((Int × Bool) × (List Int)))) (K68 : ((List Int) → Int → Option ((Int × Bool) × (List Int)))) (v93 : Int) : Option ((Int × Bool) × (List Int)) :=
 (bif (decide (v82 > v93)) then (K68 v69 v93) else (chk (decide ((0 : Int) ≤ v93 ∧ v93 < ((n2 : Nat) : Int))) ((v69[(0 + Int.toNat v93)]?).bind fun e98 => (chk (decide ((0 : Int) ≤ v82 ∧ v82 < ((n2 : Nat) : Int))) ((v69[(0 + Int.toNat v82)]?).bind fun e100 => (chk (decide ((0 : Int) ≤ v82 ∧ v82 < ((n2 : Nat) : Int))) ((upd v69 (0 + Int.toNat v82) e98).bind fun u102 => (chk (decide ((0 : Int) ≤ v93 ∧ v93 < ((n2 : Nat) : Int))) ((upd u102 (0 + Int.toNat v93) e100).bind fun u105 => (N3 u105 (IntKind.wrap .i64 (v82 + 1)) (IntKind.wrap .i64 (v93 - 1))))))))))))
def sl_partitionOrdered_byte_j86 (v84 : Int) (N5 : (Int → Option ((Int × Bool) × (List Int)))) (K83 : (Int → Option ((Int × Bool) × (List Int)))) (v92 : Bool) : Option ((Int × Bool) × (List Int)) :=
 (bif v92 then (N5 (IntKind.wrap .i64 (v84 - 1))) else (K83 v84))
def sl_partitionOrdered_byte_l5 (n2 : Nat) (a3 : Int) (v69 : (List Int)) (v82 : Int) (K83 : (Int → Option ((Int × Bool) × (List Int)))) : Nat → Int → Option ((Int × Bool) × (List Int))
 | 0, _ => none
 | m5 + 1, v84 => (bif (decide (v82 ≤ v84)) then (chk (decide ((0 : Int) ≤ v84 ∧ v84 < ((n2 : Nat) : Int))) ((v69[(0 + Int.toNat v84)]?).bind fun e88 => (chk (decide ((0 : Int) ≤ a3 ∧ a3 < ((n2 : Nat) : Int))) ((v69[(0 + Int.toNat a3)]?).bind fun e90 => ((cm_Less_byte e88 e90).bind fun w91 => ((sl_partitionOrdered_byte_j86 v84 (sl_partitionOrdered_byte_l5 n2 a3 v69 v82 K83 m5) K83) (!w91))))))) else ((sl_partitionOrdered_byte_j86 v84 (sl_partitionOrdered_byte_l5 n2 a3 v69 v82 K83 m5) K83) false))
def sl_partitionOrdered_byte_j72 (fuel : Nat) (n2 : Nat) (a3 : Int) (v69 : (List Int)) (v71 : Int) (N3 : ((List Int) → Int → Int → Option ((Int × Bool) × (List Int)))) (K68 : ((List Int) → Int → Option ((Int × Bool) × (List Int)))) (v82 : Int) : Option ((Int × Bool) × (List Int)) :=
 (sl_partitionOrdered_byte_l5 n2 a3 v69 v82 (sl_partitionOrdered_byte_j83 n2 v69 v82 N3 K68) fuel v71)
def sl_partitionOrdered_byte_j75 (v73 : Int) (N4 : (Int → Option ((Int × Bool) × (List Int)))) (K72 : (Int → Option ((Int × Bool) × (List Int)))) (v81 : Bool) : Option ((Int × Bool) × (List Int)) :=
 (bif v81 then (N4 (IntKind.wrap .i64 (v73 + 1))) else (K72 v73))
def sl_partitionOrdered_byte_l4 (n2 : Nat) (a3 : Int) (v69 : (List Int)) (v71 : Int) (K72 : (Int → Option ((Int × Bool) × (List Int)))) : Nat → Int → Option ((Int × Bool) × (List Int))
 | 0, _ => none
 | m4 + 1, v73 => (bif (decide (v73 ≤ v71)) then (chk (decide ((0 : Int) ≤ v73 ∧ v73 < ((n2 : Nat) : Int))) ((v69[(0 + Int.toNat v73)]?).bind fun e77 => (chk (decide ((0 : Int) ≤ a3 ∧ a3 < ((n2 : Nat) : Int))) ((v69[(0 + Int.toNat a3)]?).bind fun e79 => ((cm_Less_byte e77 e79).bind fun w80 => ((sl_partitionOrdered_byte_j75 v73 (sl_partitionOrdered_byte_l4 n2 a3 v69 v71 K72 m4) K72) w80)))))) else ((sl_partitionOrdered_byte_j75 v73 (sl_partitionOrdered_byte_l4 n2 a3 v69 v71 K72 m4) K72) false))
def sl_partitionOrdered_byte_l3 (fuel : Nat) (n2 : Nat) (a3 : Int) (K68 : ((List Int) → Int → Option ((Int × Bool) × (List Int)))) : Nat → (List Int) → Int → Int → Option ((Int × Bool) × (List Int))
 | 0, _, _, _ => none
 | m3 + 1, v69, v70, v71 => (sl_partitionOrdered_byte_l4 n2 a3 v69 v71 (sl_partitionOrdered_byte_j72 fuel n2 a3 v69 v71 (sl_partitionOrdered_byte_l3 fuel n2 a3 K68 m3) K68) fuel v70)
def sl_partitionOrdered_byte_j30 (fuel : Nat) (n2 : Nat) (a3 : Int) (u16 : (List Int)) (v29 : Int) (v40 : Int) : Option ((Int × Bool) × (List Int)) :=
 (bif (decide (v29 > v40)) then (chk (decide ((0 : Int) ≤ a3 ∧ a3 < ((n2 : Nat) : Int))) ((u16[(0 + Int.toNat a3)]?).bind fun e45 => (chk (decide ((0 : Int) ≤ v40 ∧ v40 < ((n2 : Nat) : Int))) ((u16[(0 + Int.toNat v40)]?).bind fun e47 => (chk (decide ((0 : Int) ≤ v40 ∧ v40 < ((n2 : Nat) : Int))) ((upd u16 (0 + Int.toNat v40) e45).bind fun u49 => (chk (decide ((0 : Int) ≤ a3 ∧ a3 < ((n2 : Nat) : Int))) ((upd u49 (0 + Int.toNat a3) e47).bind fun u52 => (some ((v40, true), u52)))))))))) else (chk (decide ((0 : Int) ≤ v40 ∧ v40 < ((n2 : Nat) : Int))) ((u16[(0 + Int.toNat v40)]?).bind fun e57 => (chk (decide ((0 : Int) ≤ v29 ∧ v29 < ((n2 : Nat) : Int))) ((u16[(0 + Int.toNat v29)]?).bind fun e59 => (chk (decide ((0 : Int) ≤ v29 ∧ v29 < ((n2 : Nat) : Int))) ((upd u16 (0 + Int.toNat v29) e57).bind fun u61 => (chk (decide ((0 : Int) ≤ v40 ∧ v40 < ((n2 : Nat) : Int))) ((upd u61 (0 + Int.toNat v40) e59).bind fun u64 => (sl_partitionOrdered_byte_l3 fuel n2 a3 (sl_partitionOrdered_byte_j68 n2 a3) fuel u64 (IntKind.wrap .i64 (v29 + 1)) (IntKind.wrap .i64 (v40 - 1))))))))))))
def sl_partitionOrdered_byte_j33 (v31 : Int) (N2 : (Int → Option ((Int × Bool) × (List Int)))) (K30 : (Int → Option ((Int × Bool) × (List Int)))) (v39 : Bool) : Option ((Int × Bool) × (List Int)) :=
 (bif v39 then (N2 (IntKind.wrap .i64 (v31 - 1))) else (K30 v31))
def sl_partitionOrdered_byte_l2 (n2 : Nat) (a3 : Int) (u16 : (List Int)) (v29 : Int) (K30 : (Int → Option ((Int × Bool) × (List Int)))) : Nat → Int → Option ((Int × Bool) × (List Int))
 | 0, _ => none
 | m2 + 1, v31 => (bif (decide (v29 ≤ v31)) then (chk (decide ((0 : Int) ≤ v31 ∧ v31 < ((n2 : Nat) : Int))) ((u16[(0 + Int.toNat v31)]?).bind fun e35 => (chk (decide ((0 : Int) ≤ a3 ∧ a3 < ((n2 : Nat) : Int))) ((u16[(0 + Int.toNat a3)]?).bind fun e37 => ((cm_Less_byte e35 e37).bind fun w38 => ((sl_partitionOrdered_byte_j33 v31 (sl_partitionOrdered_byte_l2 n2 a3 u16 v29 K30 m2) K30) (!w38))))))) else ((sl_partitionOrdered_byte_j33 v31 (sl_partitionOrdered_byte_l2 n2 a3 u16 v29 K30 m2) K30) false))
def sl_partitionOrdered_byte_j19 (fuel : Nat) (n2 : Nat) (a3 : Int) (a4 : Int) (u16 : (List Int)) (v29 : Int) : Option ((Int × Bool) × (List Int)) :=
 (sl_partitionOrdered_byte_l2 n2 a3 u16 v29 (sl_partitionOrdered_byte_j30 fuel n2 a3 u16 v29) fuel (IntKind.wrap .i64 (a4 - 1)))
def sl_partitionOrdered_byte_j22 (v20 : Int) (N1 : (Int → Option ((Int × Bool) × (List Int)))) (K19 : (Int → Option ((Int × Bool) × (List Int)))) (v28 : Bool) : Option ((Int × Bool) × (List Int)) :=
 (bif v28 then (N1 (IntKind.wrap .i64 (v20 + 1))) else (K19 v20))
def sl_partitionOrdered_byte_l1 (n2 : Nat) (a3 : Int) (a4 : Int) (u16 : (List Int)) (K19 : (Int → Option ((Int × Bool) × (List Int)))) : Nat → Int → Option ((Int × Bool) × (List Int))
 | 0, _ => none
 | m1 + 1, v20 => (bif (decide (v20 ≤ (IntKind.wrap .i64 (a4 - 1)))) then (chk (decide ((0 : Int) ≤ v20 ∧ v20 < ((n2 : Nat) : Int))) ((u16[(0 + Int.toNat v20)]?).bind fun e24 => (chk (decide ((0 : Int) ≤ a3 ∧ a3 < ((n2 : Nat) : Int))) ((u16[(0 + Int.toNat a3)]?).bind fun e26 => ((cm_Less_byte e24 e26).bind fun w27 => ((sl_partitionOrdered_byte_j22 v20 (sl_partitionOrdered_byte_l1 n2 a3 a4 u16 K19 m1) K19) w27)))))) else ((sl_partitionOrdered_byte_j22 v20 (sl_partitionOrdered_byte_l1 n2 a3 a4 u16 K19 m1) K19) false))
def sl_partitionOrdered_byte (fuel : Nat) (a1 : (List Int)) (n2 : Nat) (a3 : Int) (a4 : Int) (a5 : Int) : Option ((Int × Bool) × (List Int)) :=
 (chk (decide ((0 : Int) ≤ a5 ∧ a5 < ((n2 : Nat) : Int))) ((a1[(0 + Int.toNat a5)]?).bind fun e9 => (chk (decide ((0 : Int) ≤ a3 ∧ a3 < ((n2 : Nat) : Int))) ((a1[(0 + Int.toNat a3)]?).bind fun e11 => (chk (decide ((0 : Int) ≤ a3 ∧ a3 < ((n2 : Nat) : Int))) ((upd a1 (0 + Int.toNat a3) e9).bind fun u13 => (chk (decide ((0 : Int) ≤ a5 ∧ a5 < ((n2 : Nat) : Int))) ((upd u13 (0 + Int.toNat a5) e11).bind fun u16 => (sl_partitionOrdered_byte_l1 n2 a3 a4 u16 (sl_partitionOrdered_byte_j19 fuel n2 a3 a4 u16) fuel (IntKind.wrap .i64 (a3 + 1)))))))))))
theorem run_sl_partitionOrdered_byte (fuel : Nat) (a1 : (List Int)) (n2 : Nat) (a3 : Int) (a4 : Int) (a5 : Int) (r : ((Int × Bool) × (List Int))) (h : sl_partitionOrdered_byte fuel a1 n2 a3 a4 a5 = some r) : Run Tryd.prog (.callM 56 [S1 n2, I6 a3, I6 a4, I6 a5] [O1 a1] (.tup [I6 r.1.1, .bool r.1.2]) [(2000000, .obj 1000000005 1 (M8 r.2))]) := by
 refine cM Tryd.func56 rfl (env0 := [(0, S1 n2), (1, I6 a3), (2, I6 a4), (3, I6 a5), O1 a1]) ?_
 unfold sl_partitionOrdered_byte at h
 refine W.seq ?_
 let z0 := fun t => EN ((0, S1 n2) :: (1, I6 a3) :: t)
 let z1 := fun t => z0 ((2, I6 a4) :: (3, I6 a5) :: t)
 refine W.rt (e2 := z1 [O1 a1]) ?_
 refine W.seq ?_
 refine W.rg ?_
 obtain ⟨hc8, h⟩ := chk_some h
 let z2 := fun t => z1 ((12, S1 n2) :: (13, I6 a3) :: (14, S1 n2) :: (15, I6 a5) :: (16, S1 n2) :: (17, I6 a5) :: (18, .pe 2000000 1 (0 + Int.toNat a5) 0) :: t)
 refine WO.pi 6 (v := .pe 2000000 1 (0 + Int.toNat a5) 0) hc8 (e1 := z2 [O1 a1]) ?_
 obtain ⟨e9, he9, h⟩ := bind_some h
 let z3 := fun t => z2 ((19, .int .u8 e9) :: t)
 refine WO.pk 0 (match (M8 a1)[(0 + Int.toNat a5)]? with | some y => cut Tryd.prog 5 (y.cells.map AV.strip) 0 | none => none) (v := .int .u8 e9) ((pe_ld (f := (AV.int .u8)) (G := (fun y => cut Tryd.prog 5 (y.cells.map AV.strip) 0)) he9).trans (by kernel_rfl)) (e1 := z3 [O1 a1]) ?_
 obtain ⟨hc10, h⟩ := chk_some h
 let z4 := fun t => z3 ((20, S1 n2) :: (21, I6 a3) :: (22, .pe 2000000 1 (0 + Int.toNat a3) 0) :: t)
 refine WO.pi 2 (v := .pe 2000000 1 (0 + Int.toNat a3) 0) hc10 (e1 := z4 [O1 a1]) ?_
 obtain ⟨e11, he11, h⟩ := bind_some h
 let z5 := fun t => z4 ((23, .int .u8 e11) :: t)
 refine WO.pk 0 (match (M8 a1)[(0 + Int.toNat a3)]? with | some y => cut Tryd.prog 5 (y.cells.map AV.strip) 0 | none => none) (v := .int .u8 e11) ((pe_ld (f := (AV.int .u8)) (G := (fun y => cut Tryd.prog 5 (y.cells.map AV.strip) 0)) he11).trans (by kernel_rfl)) (e1 := z5 [O1 a1]) ?_
 obtain ⟨hc12, h⟩ := chk_some h
 let z6 := fun t => z5 ((24, .pe 2000000 1 (0 + Int.toNat a3) 0) :: t)
 refine WO.pi 0 (v := .pe 2000000 1 (0 + Int.toNat a3) 0) hc12 (e1 := z6 [O1 a1]) ?_
 obtain ⟨u13, hu13, h⟩ := bind_some h
 obtain ⟨y14, hyy14, hzy14⟩ := upd_some hu13
 refine WO.sk 0 (id := 2000000) (e := 1000000005) (s := 1) (off := 0) (vs := [.int .u8 e9]) (AV.int .u8) hyy14 hzy14 (e1 := z6 [O1 u13]) ?_
 obtain ⟨hc15, h⟩ := chk_some h
 let z7 := fun t => z6 ((25, .pe 2000000 1 (0 + Int.toNat a5) 0) :: t)
 refine WO.pi 0 (v := .pe 2000000 1 (0 + Int.toNat a5) 0) hc15 (e1 := z7 [O1 u13]) ?_
 obtain ⟨u16, hu16, h⟩ := bind_some h
 obtain ⟨y17, hyy17, hzy17⟩ := upd_some hu16
 refine WO.sk 0 (id := 2000000) (e := 1000000005) (s := 1) (off := 0) (vs := [.int .u8 e11]) (AV.int .u8) hyy17 hzy17 (e1 := z7 [O1 u16]) ?_
 refine WO.fn (e2 := z0 [(2, I6 a4), O1 u16]) ?_
 refine W.seq ?_
 let z8 := fun t => z0 ((10, I6 (W6 (a3 + 1))) :: (11, I6 (W6 (a4 - 1))) :: O1 u16 :: t)
 refine W.rt (e2 := z8 []) ?_
 refine W.seq ?_
 refine W.join (σ := (Int)) (fun s => z0 [(10, I6 s), (11, I6 (W6 (a4 - 1))), O1 u16]) (fun s => (sl_partitionOrdered_byte_j19 fuel n2 a3 a4 u16) s = some r) (fun s h => ?_) (fun hK19 => ?_)
 ·obtain ⟨v29, rfl⟩ : ∃ x, x = s := ⟨s, rfl⟩
  have h : (sl_partitionOrdered_byte_j19 fuel n2 a3 a4 u16) v29 = some r := h
  unfold sl_partitionOrdered_byte_j19 at h
  refine W.seq ?_
  let z9 := fun t => z0 ((10, I6 v29) :: t)
  refine W.join (σ := (Int)) (fun s => z9 [(11, I6 s), O1 u16]) (fun s => (sl_partitionOrdered_byte_j30 fuel n2 a3 u16 v29) s = some r) (fun s h => ?_) (fun hK30 => ?_)
  ·obtain ⟨v40, rfl⟩ : ∃ x, x = s := ⟨s, rfl⟩
   have h : (sl_partitionOrdered_byte_j30 fuel n2 a3 u16 v29) v40 = some r := h
   unfold sl_partitionOrdered_byte_j30 at h
   refine W.seq ?_
   refine W.seq ?_
   let z10 := fun t => z9 ((11, I6 v40) :: (65, .bool (decide (v29 > v40))) :: t)
   refine W.rt (e2 := z10 [O1 u16]) ?_
   refine W.cb (decide (v29 > v40)) (fun hb => ?_) (fun hb => ?_)
   ·replace h := cond_t hb h
    refine W.seq ?_
    refine W.rg ?_
    obtain ⟨hc44, h⟩ := chk_some h
    let z11 := fun t => z10 ((66, S1 n2) :: (67, I6 v40) :: (68, S1 n2) :: (69, I6 a3) :: (70, S1 n2) :: (71, I6 a3) :: (72, .pe 2000000 1 (0 + Int.toNat a3) 0) :: t)
    refine WO.pi 6 (v := .pe 2000000 1 (0 + Int.toNat a3) 0) hc44 (e1 := z11 [O1 u16]) ?_
    obtain ⟨e45, he45, h⟩ := bind_some h
    let z12 := fun t => z11 ((73, .int .u8 e45) :: t)
    refine WO.pk 0 (match (M8 u16)[(0 + Int.toNat a3)]? with | some y => cut Tryd.prog 5 (y.cells.map AV.strip) 0 | none => none) (v := .int .u8 e45) ((pe_ld (f := (AV.int .u8)) (G := (fun y => cut Tryd.prog 5 (y.cells.map AV.strip) 0)) he45).trans (by kernel_rfl)) (e1 := z12 [O1 u16]) ?_
    obtain ⟨hc46, h⟩ := chk_some h
    let z13 := fun t => z12 ((74, S1 n2) :: (75, I6 v40) :: (76, .pe 2000000 1 (0 + Int.toNat v40) 0) :: t)
    refine WO.pi 2 (v := .pe 2000000 1 (0 + Int.toNat v40) 0) hc46 (e1 := z13 [O1 u16]) ?_
    obtain ⟨e47, he47, h⟩ := bind_some h
    let z14 := fun t => z13 ((77, .int .u8 e47) :: t)
    refine WO.pk 0 (match (M8 u16)[(0 + Int.toNat v40)]? with | some y => cut Tryd.prog 5 (y.cells.map AV.strip) 0 | none => none) (v := .int .u8 e47) ((pe_ld (f := (AV.int .u8)) (G := (fun y => cut Tryd.prog 5 (y.cells.map AV.strip) 0)) he47).trans (by kernel_rfl)) (e1 := z14 [O1 u16]) ?_
    obtain ⟨hc48, h⟩ := chk_some h
    let z15 := fun t => z14 ((78, .pe 2000000 1 (0 + Int.toNat v40) 0) :: t)
    refine WO.pi 0 (v := .pe 2000000 1 (0 + Int.toNat v40) 0) hc48 (e1 := z15 [O1 u16]) ?_
    obtain ⟨u49, hu49, h⟩ := bind_some h
    obtain ⟨y50, hyy50, hzy50⟩ := upd_some hu49
    refine WO.sk 0 (id := 2000000) (e := 1000000005) (s := 1) (off := 0) (vs := [.int .u8 e45]) (AV.int .u8) hyy50 hzy50 (e1 := z15 [O1 u49]) ?_
    obtain ⟨hc51, h⟩ := chk_some h
    let z16 := fun t => z15 ((79, .pe 2000000 1 (0 + Int.toNat a3) 0) :: t)
    refine WO.pi 0 (v := .pe 2000000 1 (0 + Int.toNat a3) 0) hc51 (e1 := z16 [O1 u49]) ?_
    obtain ⟨u52, hu52, h⟩ := bind_some h
    obtain ⟨y53, hyy53, hzy53⟩ := upd_some hu52
    refine WO.sk 0 (id := 2000000) (e := 1000000005) (s := 1) (off := 0) (vs := [.int .u8 e47]) (AV.int .u8) hyy53 hzy53 (e1 := z16 [O1 u52]) ?_
    refine WO.fn (e2 := [(11, I6 v40), O1 u52]) ?_
    refine W.seq ?_
    refine W.rt (e2 := [(8, I6 v40), (9, .bool true), O1 u52]) ?_
    refine W.wk (env' := [(8, I6 v40), (9, .bool true), O1 u52]) ?_
    have hr : PostM Tryd.prog Tryd.f56 (.tup [I6 v40, .bool true]) [O1 u52] .ret [(8, I6 v40), (9, .bool true), O1 u52] := ⟨by kernel_rfl, by kernel_rfl⟩
    cases h
    exact W.ret hr
   replace h := cond_f hb h
   refine W.skip ?_
   let z17 := fun t => z9 ((11, I6 v40) :: t)
   refine W.wk (env' := z17 [O1 u16]) ?_
   refine W.seq ?_
   refine W.rg ?_
   obtain ⟨hc56, h⟩ := chk_some h
   let z18 := fun t => z17 ((81, S1 n2) :: (82, I6 v29) :: (83, S1 n2) :: (84, I6 v40) :: (85, S1 n2) :: (86, I6 v40) :: (87, .pe 2000000 1 (0 + Int.toNat v40) 0) :: t)
   refine WO.pi 6 (v := .pe 2000000 1 (0 + Int.toNat v40) 0) hc56 (e1 := z18 [O1 u16]) ?_
   obtain ⟨e57, he57, h⟩ := bind_some h
   let z19 := fun t => z18 ((88, .int .u8 e57) :: t)
   refine WO.pk 0 (match (M8 u16)[(0 + Int.toNat v40)]? with | some y => cut Tryd.prog 5 (y.cells.map AV.strip) 0 | none => none) (v := .int .u8 e57) ((pe_ld (f := (AV.int .u8)) (G := (fun y => cut Tryd.prog 5 (y.cells.map AV.strip) 0)) he57).trans (by kernel_rfl)) (e1 := z19 [O1 u16]) ?_
   obtain ⟨hc58, h⟩ := chk_some h
   let z20 := fun t => z19 ((89, S1 n2) :: (90, I6 v29) :: (91, .pe 2000000 1 (0 + Int.toNat v29) 0) :: t)
   refine WO.pi 2 (v := .pe 2000000 1 (0 + Int.toNat v29) 0) hc58 (e1 := z20 [O1 u16]) ?_
   obtain ⟨e59, he59, h⟩ := bind_some h
   let z21 := fun t => z20 ((92, .int .u8 e59) :: t)
   refine WO.pk 0 (match (M8 u16)[(0 + Int.toNat v29)]? with | some y => cut Tryd.prog 5 (y.cells.map AV.strip) 0 | none => none) (v := .int .u8 e59) ((pe_ld (f := (AV.int .u8)) (G := (fun y => cut Tryd.prog 5 (y.cells.map AV.strip) 0)) he59).trans (by kernel_rfl)) (e1 := z21 [O1 u16]) ?_
   obtain ⟨hc60, h⟩ := chk_some h
   let z22 := fun t => z21 ((93, .pe 2000000 1 (0 + Int.toNat v29) 0) :: t)
   refine WO.pi 0 (v := .pe 2000000 1 (0 + Int.toNat v29) 0) hc60 (e1 := z22 [O1 u16]) ?_
   obtain ⟨u61, hu61, h⟩ := bind_some h
   obtain ⟨y62, hyy62, hzy62⟩ := upd_some hu61
   refine WO.sk 0 (id := 2000000) (e := 1000000005) (s := 1) (off := 0) (vs := [.int .u8 e57]) (AV.int .u8) hyy62 hzy62 (e1 := z22 [O1 u61]) ?_
   obtain ⟨hc63, h⟩ := chk_some h
   let z23 := fun t => z22 ((94, .pe 2000000 1 (0 + Int.toNat v40) 0) :: t)
   refine WO.pi 0 (v := .pe 2000000 1 (0 + Int.toNat v40) 0) hc63 (e1 := z23 [O1 u61]) ?_
   obtain ⟨u64, hu64, h⟩ := bind_some h
   obtain ⟨y65, hyy65, hzy65⟩ := upd_some hu64
   refine WO.sk 0 (id := 2000000) (e := 1000000005) (s := 1) (off := 0) (vs := [.int .u8 e59]) (AV.int .u8) hyy65 hzy65 (e1 := z23 [O1 u64]) ?_
   refine WO.fn (e2 := z17 [O1 u64]) ?_
   refine W.seq ?_
   let z24 := fun t => z0 ((10, I6 (W6 (v29 + 1))) :: t)
   refine W.rt (e2 := z24 [(11, I6 v40), O1 u64]) ?_
   refine W.seq ?_
   refine W.rt (e2 := z24 [(11, I6 (W6 (v40 - 1))), O1 u64]) ?_
   refine W.seq ?_
   refine W.join (σ := ((List Int) × Int)) (fun s => z0 [(11, I6 s.2), (2000000, .obj 1000000005 1 (M8 s.1))]) (fun s => (sl_partitionOrdered_byte_j68 n2 a3) s.1 s.2 = some r) (fun s h => ?_) (fun hK68 => ?_)
   ·obtain ⟨v108, v109⟩ := s
    have h : (sl_partitionOrdered_byte_j68 n2 a3) v108 v109 = some r := h
    unfold sl_partitionOrdered_byte_j68 at h
    refine W.seq ?_
    refine W.rg ?_
    obtain ⟨hc111, h⟩ := chk_some h
    let z25 := fun t => z0 ((11, I6 v109) :: (153, S1 n2) :: (154, I6 v109) :: (155, S1 n2) :: (156, I6 a3) :: (157, S1 n2) :: (158, I6 a3) :: (159, .pe 2000000 1 (0 + Int.toNat a3) 0) :: t)
    refine WO.pi 6 (v := .pe 2000000 1 (0 + Int.toNat a3) 0) hc111 (e1 := z25 [O1 v108]) ?_
    obtain ⟨e112, he112, h⟩ := bind_some h
    let z26 := fun t => z25 ((160, .int .u8 e112) :: t)
    refine WO.pk 0 (match (M8 v108)[(0 + Int.toNat a3)]? with | some y => cut Tryd.prog 5 (y.cells.map AV.strip) 0 | none => none) (v := .int .u8 e112) ((pe_ld (f := (AV.int .u8)) (G := (fun y => cut Tryd.prog 5 (y.cells.map AV.strip) 0)) he112).trans (by kernel_rfl)) (e1 := z26 [O1 v108]) ?_
    obtain ⟨hc113, h⟩ := chk_some h
    let z27 := fun t => z26 ((161, S1 n2) :: (162, I6 v109) :: (163, .pe 2000000 1 (0 + Int.toNat v109) 0) :: t)
    refine WO.pi 2 (v := .pe 2000000 1 (0 + Int.toNat v109) 0) hc113 (e1 := z27 [O1 v108]) ?_
    obtain ⟨e114, he114, h⟩ := bind_some h
    let z28 := fun t => z27 ((164, .int .u8 e114) :: t)
    refine WO.pk 0 (match (M8 v108)[(0 + Int.toNat v109)]? with | some y => cut Tryd.prog 5 (y.cells.map AV.strip) 0 | none => none) (v := .int .u8 e114) ((pe_ld (f := (AV.int .u8)) (G := (fun y => cut Tryd.prog 5 (y.cells.map AV.strip) 0)) he114).trans (by kernel_rfl)) (e1 := z28 [O1 v108]) ?_
    obtain ⟨hc115, h⟩ := chk_some h
    let z29 := fun t => z28 ((165, .pe 2000000 1 (0 + Int.toNat v109) 0) :: t)
    refine WO.pi 0 (v := .pe 2000000 1 (0 + Int.toNat v109) 0) hc115 (e1 := z29 [O1 v108]) ?_
    obtain ⟨u116, hu116, h⟩ := bind_some h
    obtain ⟨y117, hyy117, hzy117⟩ := upd_some hu116
    refine WO.sk 0 (id := 2000000) (e := 1000000005) (s := 1) (off := 0) (vs := [.int .u8 e112]) (AV.int .u8) hyy117 hzy117 (e1 := z29 [O1 u116]) ?_
    obtain ⟨hc118, h⟩ := chk_some h
    let z30 := fun t => z29 ((166, .pe 2000000 1 (0 + Int.toNat a3) 0) :: t)
    refine WO.pi 0 (v := .pe 2000000 1 (0 + Int.toNat a3) 0) hc118 (e1 := z30 [O1 u116]) ?_
    obtain ⟨u119, hu119, h⟩ := bind_some h
    obtain ⟨y120, hyy120, hzy120⟩ := upd_some hu119
    refine WO.sk 0 (id := 2000000) (e := 1000000005) (s := 1) (off := 0) (vs := [.int .u8 e114]) (AV.int .u8) hyy120 hzy120 (e1 := z30 [O1 u119]) ?_
    refine WO.fn (e2 := [(11, I6 v109), O1 u119]) ?_
    refine W.seq ?_
    refine W.rt (e2 := [(8, I6 v109), (9, .bool false), O1 u119]) ?_
    refine W.wk (env' := [(8, I6 v109), (9, .bool false), O1 u119]) ?_
    have hr : PostM Tryd.prog Tryd.f56 (.tup [I6 v109, .bool false]) [O1 u119] .ret [(8, I6 v109), (9, .bool false), O1 u119] := ⟨by kernel_rfl, by kernel_rfl⟩
    cases h
    exact W.ret hr
   refine W.block ?_
   refine W.wk (env' := z24 [(11, I6 (W6 (v40 - 1))), O1 u64]) ?_
   refine W.fuel (σ := ((List Int) × Int × Int)) (fun s => z0 [(10, I6 s.2.1), (11, I6 s.2.2), (2000000, .obj 1000000005 1 (M8 s.1))]) (fun m0 s => sl_partitionOrdered_byte_l3 fuel n2 a3 (sl_partitionOrdered_byte_j68 n2 a3) m0 s.1 s.2.1 s.2.2 = some r) (fun s h => ?_) (fun m3 s h hN3 => ?_) fuel (u64, (W6 (v29 + 1)), (W6 (v40 - 1))) h
   ·obtain ⟨v69, v70, v71⟩ := s
    have h : sl_partitionOrdered_byte_l3 fuel n2 a3 (sl_partitionOrdered_byte_j68 n2 a3) 0 v69 v70 v71 = some r := h
    rw [sl_partitionOrdered_byte_l3.eq_1] at h
    cases h
   ·obtain ⟨v69, v70, v71⟩ := s
    have h : sl_partitionOrdered_byte_l3 fuel n2 a3 (sl_partitionOrdered_byte_j68 n2 a3) (m3 + 1) v69 v70 v71 = some r := h
    rw [sl_partitionOrdered_byte_l3.eq_2] at h
    refine W.block ?_
    refine W.seq ?_
    refine W.join (σ := (Int)) (fun s => z0 [(10, I6 s), (11, I6 v71), O1 v69]) (fun s => (sl_partitionOrdered_byte_j72 fuel n2 a3 v69 v71 (sl_partitionOrdered_byte_l3 fuel n2 a3 (sl_partitionOrdered_byte_j68 n2 a3) m3) (sl_partitionOrdered_byte_j68 n2 a3)) s = some r) (fun s h => ?_) (fun hK72 => ?_)
    ·obtain ⟨v82, rfl⟩ : ∃ x, x = s := ⟨s, rfl⟩
     have h : (sl_partitionOrdered_byte_j72 fuel n2 a3 v69 v71 (sl_partitionOrdered_byte_l3 fuel n2 a3 (sl_partitionOrdered_byte_j68 n2 a3) m3) (sl_partitionOrdered_byte_j68 n2 a3)) v82 = some r := h
     unfold sl_partitionOrdered_byte_j72 at h
     refine W.seq ?_
     let z31 := fun t => z0 ((10, I6 v82) :: t)
     refine W.join (σ := (Int)) (fun s => z31 [(11, I6 s), O1 v69]) (fun s => (sl_partitionOrdered_byte_j83 n2 v69 v82 (sl_partitionOrdered_byte_l3 fuel n2 a3 (sl_partitionOrdered_byte_j68 n2 a3) m3) (sl_partitionOrdered_byte_j68 n2 a3)) s = some r) (fun s h => ?_) (fun hK83 => ?_)
     ·obtain ⟨v93, rfl⟩ : ∃ x, x = s := ⟨s, rfl⟩
      have h : (sl_partitionOrdered_byte_j83 n2 v69 v82 (sl_partitionOrdered_byte_l3 fuel n2 a3 (sl_partitionOrdered_byte_j68 n2 a3) m3) (sl_partitionOrdered_byte_j68 n2 a3)) v93 = some r := h
      unfold sl_partitionOrdered_byte_j83 at h
      refine W.seq ?_
      refine W.seq ?_
      let z32 := fun t => z31 ((11, I6 v93) :: t)
      refine W.rt (e2 := z32 [(134, .bool (decide (v82 > v93))), O1 v69]) ?_
      refine W.cb (decide (v82 > v93)) (fun hb => ?_) (fun hb => ?_)
      ·replace h := cond_t hb h
       refine W.exit ?_
       refine W.wk (env' := z0 [(11, I6 v93), O1 v69]) ?_
       exact hK68 (v69, v93) h
      replace h := cond_f hb h
      refine W.skip ?_
      refine W.wk (env' := z32 [O1 v69]) ?_
      refine W.seq ?_
      refine W.rg ?_
      obtain ⟨hc97, h⟩ := chk_some h
      let z33 := fun t => z32 ((135, S1 n2) :: (136, I6 v82) :: (137, S1 n2) :: (138, I6 v93) :: (139, S1 n2) :: (140, I6 v93) :: (141, .pe 2000000 1 (0 + Int.toNat v93) 0) :: t)
      refine WO.pi 6 (v := .pe 2000000 1 (0 + Int.toNat v93) 0) hc97 (e1 := z33 [O1 v69]) ?_
      obtain ⟨e98, he98, h⟩ := bind_some h
      let z34 := fun t => z33 ((142, .int .u8 e98) :: t)
      refine WO.pk 0 (match (M8 v69)[(0 + Int.toNat v93)]? with | some y => cut Tryd.prog 5 (y.cells.map AV.strip) 0 | none => none) (v := .int .u8 e98) ((pe_ld (f := (AV.int .u8)) (G := (fun y => cut Tryd.prog 5 (y.cells.map AV.strip) 0)) he98).trans (by kernel_rfl)) (e1 := z34 [O1 v69]) ?_
      obtain ⟨hc99, h⟩ := chk_some h
      let z35 := fun t => z34 ((143, S1 n2) :: (144, I6 v82) :: (145, .pe 2000000 1 (0 + Int.toNat v82) 0) :: t)
      refine WO.pi 2 (v := .pe 2000000 1 (0 + Int.toNat v82) 0) hc99 (e1 := z35 [O1 v69]) ?_
      obtain ⟨e100, he100, h⟩ := bind_some h
      let z36 := fun t => z35 ((146, .int .u8 e100) :: t)
      refine WO.pk 0 (match (M8 v69)[(0 + Int.toNat v82)]? with | some y => cut Tryd.prog 5 (y.cells.map AV.strip) 0 | none => none) (v := .int .u8 e100) ((pe_ld (f := (AV.int .u8)) (G := (fun y => cut Tryd.prog 5 (y.cells.map AV.strip) 0)) he100).trans (by kernel_rfl)) (e1 := z36 [O1 v69]) ?_
      obtain ⟨hc101, h⟩ := chk_some h
      let z37 := fun t => z36 ((147, .pe 2000000 1 (0 + Int.toNat v82) 0) :: t)
      refine WO.pi 0 (v := .pe 2000000 1 (0 + Int.toNat v82) 0) hc101 (e1 := z37 [O1 v69]) ?_
      obtain ⟨u102, hu102, h⟩ := bind_some h
      obtain ⟨y103, hyy103, hzy103⟩ := upd_some hu102
      refine WO.sk 0 (id := 2000000) (e := 1000000005) (s := 1) (off := 0) (vs := [.int .u8 e98]) (AV.int .u8) hyy103 hzy103 (e1 := z37 [O1 u102]) ?_
      obtain ⟨hc104, h⟩ := chk_some h
      let z38 := fun t => z37 ((148, .pe 2000000 1 (0 + Int.toNat v93) 0) :: t)
      refine WO.pi 0 (v := .pe 2000000 1 (0 + Int.toNat v93) 0) hc104 (e1 := z38 [O1 u102]) ?_
      obtain ⟨u105, hu105, h⟩ := bind_some h
      obtain ⟨y106, hyy106, hzy106⟩ := upd_some hu105
      refine WO.sk 0 (id := 2000000) (e := 1000000005) (s := 1) (off := 0) (vs := [.int .u8 e100]) (AV.int .u8) hyy106 hzy106 (e1 := z38 [O1 u105]) ?_
      refine WO.fn (e2 := z32 [O1 u105]) ?_
      refine W.seq ?_
      refine W.rt (e2 := z0 [(10, I6 (W6 (v82 + 1))), (11, I6 v93), O1 u105]) ?_
      refine W.rt (e2 := z0 [(10, I6 (W6 (v82 + 1))), (11, I6 (W6 (v93 - 1))), O1 u105]) ?_
      exact hN3 (u105, (W6 (v82 + 1)), (W6 (v93 - 1))) h
     refine W.block ?_
     refine W.wk (env' := z31 [(11, I6 v71), O1 v69]) ?_
     refine W.fuel (σ := (Int)) (fun s => z31 [(11, I6 s), O1 v69]) (fun m0 s => sl_partitionOrdered_byte_l5 n2 a3 v69 v82 (sl_partitionOrdered_byte_j83 n2 v69 v82 (sl_partitionOrdered_byte_l3 fuel n2 a3 (sl_partitionOrdered_byte_j68 n2 a3) m3) (sl_partitionOrdered_byte_j68 n2 a3)) m0 s = some r) (fun s h => ?_) (fun m5 s h hN5 => ?_) fuel v71 h
     ·obtain ⟨v84, rfl⟩ : ∃ x, x = s := ⟨s, rfl⟩
      have h : sl_partitionOrdered_byte_l5 n2 a3 v69 v82 (sl_partitionOrdered_byte_j83 n2 v69 v82 (sl_partitionOrdered_byte_l3 fuel n2 a3 (sl_partitionOrdered_byte_j68 n2 a3) m3) (sl_partitionOrdered_byte_j68 n2 a3)) 0 v84 = some r := h
      rw [sl_partitionOrdered_byte_l5.eq_1] at h
      cases h
     ·obtain ⟨v84, rfl⟩ : ∃ x, x = s := ⟨s, rfl⟩
      have h : sl_partitionOrdered_byte_l5 n2 a3 v69 v82 (sl_partitionOrdered_byte_j83 n2 v69 v82 (sl_partitionOrdered_byte_l3 fuel n2 a3 (sl_partitionOrdered_byte_j68 n2 a3) m3) (sl_partitionOrdered_byte_j68 n2 a3)) (m5 + 1) v84 = some r := h
      rw [sl_partitionOrdered_byte_l5.eq_2] at h
      refine W.seq ?_
      refine W.seq ?_
      let z39 := fun t => z31 ((11, I6 v84) :: t)
      refine W.join (σ := (Bool)) (fun s => z39 [(129, .bool s), O1 v69]) (fun s => (sl_partitionOrdered_byte_j86 v84 (sl_partitionOrdered_byte_l5 n2 a3 v69 v82 (sl_partitionOrdered_byte_j83 n2 v69 v82 (sl_partitionOrdered_byte_l3 fuel n2 a3 (sl_partitionOrdered_byte_j68 n2 a3) m3) (sl_partitionOrdered_byte_j68 n2 a3)) m5) (sl_partitionOrdered_byte_j83 n2 v69 v82 (sl_partitionOrdered_byte_l3 fuel n2 a3 (sl_partitionOrdered_byte_j68 n2 a3) m3) (sl_partitionOrdered_byte_j68 n2 a3))) s = some r) (fun s h => ?_) (fun hK86 => ?_)
      ·obtain ⟨v92, rfl⟩ : ∃ x, x = s := ⟨s, rfl⟩
       have h : (sl_partitionOrdered_byte_j86 v84 (sl_partitionOrdered_byte_l5 n2 a3 v69 v82 (sl_partitionOrdered_byte_j83 n2 v69 v82 (sl_partitionOrdered_byte_l3 fuel n2 a3 (sl_partitionOrdered_byte_j68 n2 a3) m3) (sl_partitionOrdered_byte_j68 n2 a3)) m5) (sl_partitionOrdered_byte_j83 n2 v69 v82 (sl_partitionOrdered_byte_l3 fuel n2 a3 (sl_partitionOrdered_byte_j68 n2 a3) m3) (sl_partitionOrdered_byte_j68 n2 a3))) v92 = some r := h
       unfold sl_partitionOrdered_byte_j86 at h
       refine W.cb v92 (fun hb => ?_) (fun hb => ?_)
       ·replace h := cond_t hb h
        refine W.skip ?_
        refine W.wk (env' := z39 [O1 v69]) ?_
        refine W.block ?_
        refine W.rt (e2 := z31 [(11, I6 (W6 (v84 - 1))), O1 v69]) ?_
        exact hN5 (W6 (v84 - 1)) h
       replace h := cond_f hb h
       refine W.exit ?_
       refine W.wk (env' := z39 [O1 v69]) ?_
       exact hK83 v84 h
      refine W.rg ?_
      let z40 := fun t => z39 ((115, I6 v82) :: (116, I6 v84) :: t)
      refine WO.bk 4 (fun b => z40 [(117, .bool b), (118, .bool b), O1 v69]) (decide (v82 ≤ v84)) (fun hb => ?_) (fun hb => ?_)
      ·replace h := cond_t hb h
       obtain ⟨hc87, h⟩ := chk_some h
       let z41 := fun t => z40 ((117, .bool true) :: (118, .bool true) :: (119, S1 n2) :: (120, I6 v84) :: (121, .pe 2000000 1 (0 + Int.toNat v84) 0) :: t)
       refine WO.pi 2 (v := .pe 2000000 1 (0 + Int.toNat v84) 0) hc87 (e1 := z41 [O1 v69]) ?_
       obtain ⟨e88, he88, h⟩ := bind_some h
       let z42 := fun t => z41 ((122, .int .u8 e88) :: t)
       refine WO.pk 0 (match (M8 v69)[(0 + Int.toNat v84)]? with | some y => cut Tryd.prog 5 (y.cells.map AV.strip) 0 | none => none) (v := .int .u8 e88) ((pe_ld (f := (AV.int .u8)) (G := (fun y => cut Tryd.prog 5 (y.cells.map AV.strip) 0)) he88).trans (by kernel_rfl)) (e1 := z42 [O1 v69]) ?_
       obtain ⟨hc89, h⟩ := chk_some h
       let z43 := fun t => z42 ((123, S1 n2) :: (124, I6 a3) :: (125, .pe 2000000 1 (0 + Int.toNat a3) 0) :: t)
       refine WO.pi 2 (v := .pe 2000000 1 (0 + Int.toNat a3) 0) hc89 (e1 := z43 [O1 v69]) ?_
       obtain ⟨e90, he90, h⟩ := bind_some h
       refine WO.pk 0 (match (M8 v69)[(0 + Int.toNat a3)]? with | some y => cut Tryd.prog 5 (y.cells.map AV.strip) 0 | none => none) (v := .int .u8 e90) ((pe_ld (f := (AV.int .u8)) (G := (fun y => cut Tryd.prog 5 (y.cells.map AV.strip) 0)) he90).trans (by kernel_rfl)) (e1 := z43 [(126, .int .u8 e90), O1 v69]) ?_
       obtain ⟨w91, hw91, h⟩ := bind_some h
       refine WO.ck 0 (F := 54) (l := [.int .u8 e88, .int .u8 e90]) (C := []) (r := .bool w91) (run_cm_Less_byte e88 e90 w91 hw91) (e1 := z43 [(126, .int .u8 e90), (127, .bool w91), O1 v69]) ?_
       refine WO.fn (e2 := z39 [(129, .bool (!w91)), O1 v69]) ?_
       exact hK86 (!w91) h
      replace h := cond_f hb h
      refine WO.fn (e2 := z39 [(129, .bool false), O1 v69]) ?_
      exact hK86 false h
    refine W.block ?_
    refine W.wk (env' := z0 [(10, I6 v70), (11, I6 v71), O1 v69]) ?_
    refine W.fuel (σ := (Int)) (fun s => z0 [(10, I6 s), (11, I6 v71), O1 v69]) (fun m0 s => sl_partitionOrdered_byte_l4 n2 a3 v69 v71 (sl_partitionOrdered_byte_j72 fuel n2 a3 v69 v71 (sl_partitionOrdered_byte_l3 fuel n2 a3 (sl_partitionOrdered_byte_j68 n2 a3) m3) (sl_partitionOrdered_byte_j68 n2 a3)) m0 s = some r) (fun s h => ?_) (fun m4 s h hN4 => ?_) fuel v70 h
    ·obtain ⟨v73, rfl⟩ : ∃ x, x = s := ⟨s, rfl⟩
     have h : sl_partitionOrdered_byte_l4 n2 a3 v69 v71 (sl_partitionOrdered_byte_j72 fuel n2 a3 v69 v71 (sl_partitionOrdered_byte_l3 fuel n2 a3 (sl_partitionOrdered_byte_j68 n2 a3) m3) (sl_partitionOrdered_byte_j68 n2 a3)) 0 v73 = some r := h
     rw [sl_partitionOrdered_byte_l4.eq_1] at h
     cases h
    ·obtain ⟨v73, rfl⟩ : ∃ x, x = s := ⟨s, rfl⟩
     have h : sl_partitionOrdered_byte_l4 n2 a3 v69 v71 (sl_partitionOrdered_byte_j72 fuel n2 a3 v69 v71 (sl_partitionOrdered_byte_l3 fuel n2 a3 (sl_partitionOrdered_byte_j68 n2 a3) m3) (sl_partitionOrdered_byte_j68 n2 a3)) (m4 + 1) v73 = some r := h
     rw [sl_partitionOrdered_byte_l4.eq_2] at h
     refine W.seq ?_
     refine W.seq ?_
     let z44 := fun t => z0 ((10, I6 v73) :: (11, I6 v71) :: t)
     refine W.join (σ := (Bool)) (fun s => z44 [(112, .bool s), O1 v69]) (fun s => (sl_partitionOrdered_byte_j75 v73 (sl_partitionOrdered_byte_l4 n2 a3 v69 v71 (sl_partitionOrdered_byte_j72 fuel n2 a3 v69 v71 (sl_partitionOrdered_byte_l3 fuel n2 a3 (sl_partitionOrdered_byte_j68 n2 a3) m3) (sl_partitionOrdered_byte_j68 n2 a3)) m4) (sl_partitionOrdered_byte_j72 fuel n2 a3 v69 v71 (sl_partitionOrdered_byte_l3 fuel n2 a3 (sl_partitionOrdered_byte_j68 n2 a3) m3) (sl_partitionOrdered_byte_j68 n2 a3))) s = some r) (fun s h => ?_) (fun hK75 => ?_)
     ·obtain ⟨v81, rfl⟩ : ∃ x, x = s := ⟨s, rfl⟩
      have h : (sl_partitionOrdered_byte_j75 v73 (sl_partitionOrdered_byte_l4 n2 a3 v69 v71 (sl_partitionOrdered_byte_j72 fuel n2 a3 v69 v71 (sl_partitionOrdered_byte_l3 fuel n2 a3 (sl_partitionOrdered_byte_j68 n2 a3) m3) (sl_partitionOrdered_byte_j68 n2 a3)) m4) (sl_partitionOrdered_byte_j72 fuel n2 a3 v69 v71 (sl_partitionOrdered_byte_l3 fuel n2 a3 (sl_partitionOrdered_byte_j68 n2 a3) m3) (sl_partitionOrdered_byte_j68 n2 a3))) v81 = some r := h
      unfold sl_partitionOrdered_byte_j75 at h
      refine W.cb v81 (fun hb => ?_) (fun hb => ?_)
      ·replace h := cond_t hb h
       refine W.skip ?_
       refine W.wk (env' := z44 [O1 v69]) ?_
       refine W.block ?_
       refine W.rt (e2 := z0 [(10, I6 (W6 (v73 + 1))), (11, I6 v71), O1 v69]) ?_
       exact hN4 (W6 (v73 + 1)) h
      replace h := cond_f hb h
      refine W.exit ?_
      refine W.wk (env' := z44 [O1 v69]) ?_
      exact hK72 v73 h
     refine W.rg ?_
     let z45 := fun t => z44 ((99, I6 v73) :: (100, I6 v71) :: t)
     refine WO.bk 4 (fun b => z45 [(101, .bool b), (102, .bool b), O1 v69]) (decide (v73 ≤ v71)) (fun hb => ?_) (fun hb => ?_)
     ·replace h := cond_t hb h
      obtain ⟨hc76, h⟩ := chk_some h
      let z46 := fun t => z45 ((101, .bool true) :: (102, .bool true) :: (103, S1 n2) :: (104, I6 v73) :: (105, .pe 2000000 1 (0 + Int.toNat v73) 0) :: t)
      refine WO.pi 2 (v := .pe 2000000 1 (0 + Int.toNat v73) 0) hc76 (e1 := z46 [O1 v69]) ?_
      obtain ⟨e77, he77, h⟩ := bind_some h
      let z47 := fun t => z46 ((106, .int .u8 e77) :: t)
      refine WO.pk 0 (match (M8 v69)[(0 + Int.toNat v73)]? with | some y => cut Tryd.prog 5 (y.cells.map AV.strip) 0 | none => none) (v := .int .u8 e77) ((pe_ld (f := (AV.int .u8)) (G := (fun y => cut Tryd.prog 5 (y.cells.map AV.strip) 0)) he77).trans (by kernel_rfl)) (e1 := z47 [O1 v69]) ?_
      obtain ⟨hc78, h⟩ := chk_some h
      let z48 := fun t => z47 ((107, S1 n2) :: (108, I6 a3) :: (109, .pe 2000000 1 (0 + Int.toNat a3) 0) :: t)
      refine WO.pi 2 (v := .pe 2000000 1 (0 + Int.toNat a3) 0) hc78 (e1 := z48 [O1 v69]) ?_
      obtain ⟨e79, he79, h⟩ := bind_some h
      refine WO.pk 0 (match (M8 v69)[(0 + Int.toNat a3)]? with | some y => cut Tryd.prog 5 (y.cells.map AV.strip) 0 | none => none) (v := .int .u8 e79) ((pe_ld (f := (AV.int .u8)) (G := (fun y => cut Tryd.prog 5 (y.cells.map AV.strip) 0)) he79).trans (by kernel_rfl)) (e1 := z48 [(110, .int .u8 e79), O1 v69]) ?_
      obtain ⟨w80, hw80, h⟩ := bind_some h
      refine WO.ck 0 (F := 54) (l := [.int .u8 e77, .int .u8 e79]) (C := []) (r := .bool w80) (run_cm_Less_byte e77 e79 w80 hw80) (e1 := z48 [(110, .int .u8 e79), (111, .bool w80), O1 v69]) ?_
      refine WO.fn (e2 := z44 [(112, .bool w80), O1 v69]) ?_
      exact hK75 w80 h
     replace h := cond_f hb h
     refine WO.fn (e2 := z44 [(112, .bool false), O1 v69]) ?_
     exact hK75 false h
  refine W.block ?_
  refine W.wk (env' := z9 [(11, I6 (W6 (a4 - 1))), O1 u16]) ?_
  refine W.fuel (σ := (Int)) (fun s => z9 [(11, I6 s), O1 u16]) (fun m0 s => sl_partitionOrdered_byte_l2 n2 a3 u16 v29 (sl_partitionOrdered_byte_j30 fuel n2 a3 u16 v29) m0 s = some r) (fun s h => ?_) (fun m2 s h hN2 => ?_) fuel (W6 (a4 - 1)) h
  ·obtain ⟨v31, rfl⟩ : ∃ x, x = s := ⟨s, rfl⟩
   have h : sl_partitionOrdered_byte_l2 n2 a3 u16 v29 (sl_partitionOrdered_byte_j30 fuel n2 a3 u16 v29) 0 v31 = some r := h
   rw [sl_partitionOrdered_byte_l2.eq_1] at h
   cases h
  ·obtain ⟨v31, rfl⟩ : ∃ x, x = s := ⟨s, rfl⟩
   have h : sl_partitionOrdered_byte_l2 n2 a3 u16 v29 (sl_partitionOrdered_byte_j30 fuel n2 a3 u16 v29) (m2 + 1) v31 = some r := h
   rw [sl_partitionOrdered_byte_l2.eq_2] at h
   refine W.seq ?_
   refine W.seq ?_
   let z49 := fun t => z9 ((11, I6 v31) :: t)
   refine W.join (σ := (Bool)) (fun s => z49 [(60, .bool s), O1 u16]) (fun s => (sl_partitionOrdered_byte_j33 v31 (sl_partitionOrdered_byte_l2 n2 a3 u16 v29 (sl_partitionOrdered_byte_j30 fuel n2 a3 u16 v29) m2) (sl_partitionOrdered_byte_j30 fuel n2 a3 u16 v29)) s = some r) (fun s h => ?_) (fun hK33 => ?_)
   ·obtain ⟨v39, rfl⟩ : ∃ x, x = s := ⟨s, rfl⟩
    have h : (sl_partitionOrdered_byte_j33 v31 (sl_partitionOrdered_byte_l2 n2 a3 u16 v29 (sl_partitionOrdered_byte_j30 fuel n2 a3 u16 v29) m2) (sl_partitionOrdered_byte_j30 fuel n2 a3 u16 v29)) v39 = some r := h
    unfold sl_partitionOrdered_byte_j33 at h
    refine W.cb v39 (fun hb => ?_) (fun hb => ?_)
    ·replace h := cond_t hb h
     refine W.skip ?_
     refine W.wk (env' := z49 [O1 u16]) ?_
     refine W.block ?_
     refine W.rt (e2 := z9 [(11, I6 (W6 (v31 - 1))), O1 u16]) ?_
     exact hN2 (W6 (v31 - 1)) h
    replace h := cond_f hb h
    refine W.exit ?_
    refine W.wk (env' := z49 [O1 u16]) ?_
    exact hK30 v31 h
   refine W.rg ?_
   let z50 := fun t => z49 ((46, I6 v29) :: (47, I6 v31) :: t)
   refine WO.bk 4 (fun b => z50 [(48, .bool b), (49, .bool b), O1 u16]) (decide (v29 ≤ v31)) (fun hb => ?_) (fun hb => ?_)
   ·replace h := cond_t hb h
    obtain ⟨hc34, h⟩ := chk_some h
    let z51 := fun t => z50 ((48, .bool true) :: (49, .bool true) :: (50, S1 n2) :: (51, I6 v31) :: (52, .pe 2000000 1 (0 + Int.toNat v31) 0) :: t)
    refine WO.pi 2 (v := .pe 2000000 1 (0 + Int.toNat v31) 0) hc34 (e1 := z51 [O1 u16]) ?_
    obtain ⟨e35, he35, h⟩ := bind_some h
    let z52 := fun t => z51 ((53, .int .u8 e35) :: t)
    refine WO.pk 0 (match (M8 u16)[(0 + Int.toNat v31)]? with | some y => cut Tryd.prog 5 (y.cells.map AV.strip) 0 | none => none) (v := .int .u8 e35) ((pe_ld (f := (AV.int .u8)) (G := (fun y => cut Tryd.prog 5 (y.cells.map AV.strip) 0)) he35).trans (by kernel_rfl)) (e1 := z52 [O1 u16]) ?_
    obtain ⟨hc36, h⟩ := chk_some h
    let z53 := fun t => z52 ((54, S1 n2) :: (55, I6 a3) :: (56, .pe 2000000 1 (0 + Int.toNat a3) 0) :: t)
    refine WO.pi 2 (v := .pe 2000000 1 (0 + Int.toNat a3) 0) hc36 (e1 := z53 [O1 u16]) ?_
    obtain ⟨e37, he37, h⟩ := bind_some h
    refine WO.pk 0 (match (M8 u16)[(0 + Int.toNat a3)]? with | some y => cut Tryd.prog 5 (y.cells.map AV.strip) 0 | none => none) (v := .int .u8 e37) ((pe_ld (f := (AV.int .u8)) (G := (fun y => cut Tryd.prog 5 (y.cells.map AV.strip) 0)) he37).trans (by kernel_rfl)) (e1 := z53 [(57, .int .u8 e37), O1 u16]) ?_
    obtain ⟨w38, hw38, h⟩ := bind_some h
    refine WO.ck 0 (F := 54) (l := [.int .u8 e35, .int .u8 e37]) (C := []) (r := .bool w38) (run_cm_Less_byte e35 e37 w38 hw38) (e1 := z53 [(57, .int .u8 e37), (58, .bool w38), O1 u16]) ?_
    refine WO.fn (e2 := z49 [(60, .bool (!w38)), O1 u16]) ?_
    exact hK33 (!w38) h
   replace h := cond_f hb h
   refine WO.fn (e2 := z49 [(60, .bool false), O1 u16]) ?_
   exact hK33 false h
 refine W.block ?_
 refine W.wk (env' := z8 []) ?_
 refine W.fuel (σ := (Int)) (fun s => z0 [(10, I6 s), (11, I6 (W6 (a4 - 1))), O1 u16]) (fun m0 s => sl_partitionOrdered_byte_l1 n2 a3 a4 u16 (sl_partitionOrdered_byte_j19 fuel n2 a3 a4 u16) m0 s = some r) (fun s h => ?_) (fun m1 s h hN1 => ?_) fuel (W6 (a3 + 1)) h
 ·obtain ⟨v20, rfl⟩ : ∃ x, x = s := ⟨s, rfl⟩
  have h : sl_partitionOrdered_byte_l1 n2 a3 a4 u16 (sl_partitionOrdered_byte_j19 fuel n2 a3 a4 u16) 0 v20 = some r := h
  rw [sl_partitionOrdered_byte_l1.eq_1] at h
  cases h
 ·obtain ⟨v20, rfl⟩ : ∃ x, x = s := ⟨s, rfl⟩
  have h : sl_partitionOrdered_byte_l1 n2 a3 a4 u16 (sl_partitionOrdered_byte_j19 fuel n2 a3 a4 u16) (m1 + 1) v20 = some r := h
  rw [sl_partitionOrdered_byte_l1.eq_2] at h
  refine W.seq ?_
  refine W.seq ?_
  let z54 := fun t => z0 ((10, I6 v20) :: (11, I6 (W6 (a4 - 1))) :: t)
  refine W.join (σ := (Bool)) (fun s => z54 [(43, .bool s), O1 u16]) (fun s => (sl_partitionOrdered_byte_j22 v20 (sl_partitionOrdered_byte_l1 n2 a3 a4 u16 (sl_partitionOrdered_byte_j19 fuel n2 a3 a4 u16) m1) (sl_partitionOrdered_byte_j19 fuel n2 a3 a4 u16)) s = some r) (fun s h => ?_) (fun hK22 => ?_)
  ·obtain ⟨v28, rfl⟩ : ∃ x, x = s := ⟨s, rfl⟩
   have h : (sl_partitionOrdered_byte_j22 v20 (sl_partitionOrdered_byte_l1 n2 a3 a4 u16 (sl_partitionOrdered_byte_j19 fuel n2 a3 a4 u16) m1) (sl_partitionOrdered_byte_j19 fuel n2 a3 a4 u16)) v28 = some r := h
   unfold sl_partitionOrdered_byte_j22 at h
   refine W.cb v28 (fun hb => ?_) (fun hb => ?_)
   ·replace h := cond_t hb h
    refine W.skip ?_
    refine W.wk (env' := z54 [O1 u16]) ?_
    refine W.block ?_
    refine W.rt (e2 := z0 [(10, I6 (W6 (v20 + 1))), (11, I6 (W6 (a4 - 1))), O1 u16]) ?_
    exact hN1 (W6 (v20 + 1)) h
   replace h := cond_f hb h
   refine W.exit ?_
   refine W.wk (env' := z54 [O1 u16]) ?_
   exact hK19 v20 h
  refine W.rg ?_
  let z55 := fun t => z54 ((30, I6 v20) :: (31, I6 (W6 (a4 - 1))) :: t)
  refine WO.bk 4 (fun b => z55 [(32, .bool b), (33, .bool b), O1 u16]) (decide (v20 ≤ (W6 (a4 - 1)))) (fun hb => ?_) (fun hb => ?_)
  ·replace h := cond_t hb h
   obtain ⟨hc23, h⟩ := chk_some h
   let z56 := fun t => z55 ((32, .bool true) :: (33, .bool true) :: (34, S1 n2) :: (35, I6 v20) :: (36, .pe 2000000 1 (0 + Int.toNat v20) 0) :: t)
   refine WO.pi 2 (v := .pe 2000000 1 (0 + Int.toNat v20) 0) hc23 (e1 := z56 [O1 u16]) ?_
   obtain ⟨e24, he24, h⟩ := bind_some h
   let z57 := fun t => z56 ((37, .int .u8 e24) :: t)
   refine WO.pk 0 (match (M8 u16)[(0 + Int.toNat v20)]? with | some y => cut Tryd.prog 5 (y.cells.map AV.strip) 0 | none => none) (v := .int .u8 e24) ((pe_ld (f := (AV.int .u8)) (G := (fun y => cut Tryd.prog 5 (y.cells.map AV.strip) 0)) he24).trans (by kernel_rfl)) (e1 := z57 [O1 u16]) ?_
   obtain ⟨hc25, h⟩ := chk_some h
   let z58 := fun t => z57 ((38, S1 n2) :: (39, I6 a3) :: (40, .pe 2000000 1 (0 + Int.toNat a3) 0) :: t)
   refine WO.pi 2 (v := .pe 2000000 1 (0 + Int.toNat a3) 0) hc25 (e1 := z58 [O1 u16]) ?_
   obtain ⟨e26, he26, h⟩ := bind_some h
   refine WO.pk 0 (match (M8 u16)[(0 + Int.toNat a3)]? with | some y => cut Tryd.prog 5 (y.cells.map AV.strip) 0 | none => none) (v := .int .u8 e26) ((pe_ld (f := (AV.int .u8)) (G := (fun y => cut Tryd.prog 5 (y.cells.map AV.strip) 0)) he26).trans (by kernel_rfl)) (e1 := z58 [(41, .int .u8 e26), O1 u16]) ?_
   obtain ⟨w27, hw27, h⟩ := bind_some h
   refine WO.ck 0 (F := 54) (l := [.int .u8 e24, .int .u8 e26]) (C := []) (r := .bool w27) (run_cm_Less_byte e24 e26 w27 hw27) (e1 := z58 [(41, .int .u8 e26), (42, .bool w27), O1 u16]) ?_
   refine WO.fn (e2 := z54 [(43, .bool w27), O1 u16]) ?_
   exact hK22 w27 h
  replace h := cond_f hb h
  refine WO.fn (e2 := z54 [(43, .bool false), O1 u16]) ?_
  exact hK22 false h
def sl_pdqsortOrdered_byte_j50 (fuel : Nat) (n2 : Nat) (v9 : Int) (v10 : Int) (v28 : Int) (v37 : Int) (v46 : (List Int)) (v47 : Bool) (v48 : Bool) (K0 : ((List Int) → Nat → Int → Int → Int → Option (List Int))) (N1 : ((List Int) → Int → Int → Int → Bool → Bool → Option (List Int))) (v56 : Bool) : Option (List Int) :=
 (bif v56 then ((sl_partitionEqualOrdered_byte fuel v46 n2 v9 v10 v37).bind fun w58 => (N1 w58.2 w58.1 v10 v28 v47 v48)) else ((sl_partitionOrdered_byte fuel v46 n2 v9 v10 v37).bind fun w61 => (bif (decide ((IntKind.wrap .i64 (w61.1.1 - v9)) < (IntKind.wrap .i64 (v10 - w61.1.1)))) then ((K0 w61.2 n2 v9 w61.1.1 v28).bind fun w68 => (N1 w68 (IntKind.wrap .i64 (w61.1.1 + 1)) v10 v28 (decide ((IntKind.wrap .i64 (w61.1.1 - v9)) ≥ (IntKind.wrap .i64 (((IntKind.wrap .i64 (v10 - v9))).tdiv 8)))) w61.1.2)) else ((K0 w61.2 n2 (IntKind.wrap .i64 (w61.1.1 + 1)) v10 v28).bind fun w71 => (N1 w71 v9 w61.1.1 v28 (decide ((IntKind.wrap .i64 (v10 - w61.1.1)) ≥ (IntKind.wrap .i64 (((IntKind.wrap .i64 (v10 - v9))).tdiv 8)))) w61.1.2)))))
def sl_pdqsortOrdered_byte_j39 (fuel : Nat) (n2 : Nat) (v9 : Int) (v10 : Int) (v28 : Int) (v37 : Int) (K0 : ((List Int) → Nat → Int → Int → Int → Option (List Int))) (N1 : ((List Int) → Int → Int → Int → Bool → Bool → Option (List Int))) (v46 : (List Int)) (v47 : Bool) (v48 : Bool) : Option (List Int) :=
 (bif (decide (v9 > 0)) then (chk (decide ((0 : Int) ≤ (IntKind.wrap .i64 (v9 - 1)) ∧ (IntKind.wrap .i64 (v9 - 1)) < ((n2 : Nat) : Int))) ((v46[(0 + Int.toNat (IntKind.wrap .i64 (v9 - 1)))]?).bind fun e52 => (chk (decide ((0 : Int) ≤ v37 ∧ v37 < ((n2 : Nat) : Int))) ((v46[(0 + Int.toNat v37)]?).bind fun e54 => ((cm_Less_byte e52 e54).bind fun w55 => ((sl_pdqsortOrdered_byte_j50 fuel n2 v9 v10 v28 v37 v46 v47 v48 K0 N1) (!w55))))))) else ((sl_pdqsortOrdered_byte_j50 fuel n2 v9 v10 v28 v37 v46 v47 v48 K0 N1) false))
def sl_pdqsortOrdered_byte_j40 (fuel : Nat) (n2 : Nat) (v9 : Int) (v10 : Int) (v36 : (List Int)) (K39 : ((List Int) → Bool → Bool → Option (List Int))) (v41 : Bool) (v42 : Bool) (v43 : Bool) : Option (List Int) :=
 (bif v43 then ((sl_partialInsertionSortOrdered_byte fuel v36 n2 v9 v10).bind fun w45 => (bif w45.1 then (some w45.2) else (K39 w45.2 v41 v42))) else (K39 v36 v41 v42))
def sl_pdqsortOrdered_byte_j31 (fuel : Nat) (n2 : Nat) (v9 : Int) (v10 : Int) (v12 : Bool) (v13 : Bool) (v28 : Int) (K0 : ((List Int) → Nat → Int → Int → Int → Option (List Int))) (N1 : ((List Int) → Int → Int → Int → Bool → Bool → Option (List Int))) (v36 : (List Int)) (v37 : Int) (v38 : Int) : Option (List Int) :=
 (bif v12 then (bif v13 then ((sl_pdqsortOrdered_byte_j40 fuel n2 v9 v10 v36 (sl_pdqsortOrdered_byte_j39 fuel n2 v9 v10 v28 v37 K0 N1)) true true (v38 == 1)) else ((sl_pdqsortOrdered_byte_j40 fuel n2 v9 v10 v36 (sl_pdqsortOrdered_byte_j39 fuel n2 v9 v10 v28 v37 K0 N1)) true false false)) else ((sl_pdqsortOrdered_byte_j40 fuel n2 v9 v10 v36 (sl_pdqsortOrdered_byte_j39 fuel n2 v9 v10 v28 v37 K0 N1)) false v13 false))
def sl_pdqsortOrdered_byte_j23 (fuel : Nat) (n2 : Nat) (v9 : Int) (v10 : Int) (v12 : Bool) (v13 : Bool) (K0 : ((List Int) → Nat → Int → Int → Int → Option (List Int))) (N1 : ((List Int) → Int → Int → Int → Bool → Bool → Option (List Int))) (v27 : (List Int)) (v28 : Int) : Option (List Int) :=
 ((sl_choosePivotOrdered_byte (snap 0 n2 v27) v9 v10).bind fun w30 => (bif (w30.2 == 2) then ((sl_reverseRangeOrdered_byte fuel v27 n2 v9 v10).bind fun w34 => ((sl_pdqsortOrdered_byte_j31 fuel n2 v9 v10 v12 v13 v28 K0 N1) w34 (IntKind.wrap .i64 ((IntKind.wrap .i64 (v10 - 1)) - (IntKind.wrap .i64 (w30.1 - v9)))) 1)) else ((sl_pdqsortOrdered_byte_j31 fuel n2 v9 v10 v12 v13 v28 K0 N1) v27 w30.1 w30.2)))
def sl_pdqsortOrdered_byte_l1 (fuel : Nat) (n2 : Nat) (K0 : ((List Int) → Nat → Int → Int → Int → Option (List Int))) : Nat → (List Int) → Int → Int → Int → Bool → Bool → Option (List Int)
 | 0, _, _, _, _, _, _ => none
 | m1 + 1, v8, v9, v10, v11, v12, v13 => (bif (decide ((IntKind.wrap .i64 (v10 - v9)) ≤ 12)) then ((sl_insertionSortOrdered_byte fuel v8 n2 v9 v10).bind fun w18 => (some w18)) else (bif (v11 == 0) then ((sl_heapSortOrdered_byte fuel v8 n2 v9 v10).bind fun w22 => (some w22)) else (bif (!v12) then ((sl_breakPatternsOrdered_byte fuel v8 n2 v9 v10).bind fun w26 => ((sl_pdqsortOrdered_byte_j23 fuel n2 v9 v10 v12 v13 K0 (sl_pdqsortOrdered_byte_l1 fuel n2 K0 m1)) w26 (IntKind.wrap .i64 (v11 - 1)))) else ((sl_pdqsortOrdered_byte_j23 fuel n2 v9 v10 v12 v13 K0 (sl_pdqsortOrdered_byte_l1 fuel n2 K0 m1)) v8 v11))))
def sl_pdqsortOrdered_byte : Nat → (List Int) → Nat → Int → Int → Int → Option (List Int)
 | 0, _, _, _, _, _ => none
 | fuel + 1, a1, n2, a3, a4, a5 => (sl_pdqsortOrdered_byte_l1 fuel n2 (sl_pdqsortOrdered_byte fuel) fuel a1 a3 a4 a5 true true)
theorem run_sl_pdqsortOrdered_byte : ∀ (fuel : Nat) (a1 : (List Int)) (n2 : Nat) (a3 : Int) (a4 : Int) (a5 : Int) (r : (List Int)) (h : sl_pdqsortOrdered_byte fuel a1 n2 a3 a4 a5 = some r), Run Tryd.prog (.callM 33 [S1 n2, I6 a3, I6 a4, I6 a5] [O1 a1] (.tup []) [O1 r]) := by
 intro fuel
 induction fuel with
 | zero => intro a1 n2 a3 a4 a5 r h; cases h
 | succ fuel ih =>
  intro a1 n2 a3 a4 a5 r h
  refine cM Tryd.func33 rfl (env0 := [(0, S1 n2), (1, I6 a3), (2, I6 a4), (3, I6 a5), O1 a1]) ?_
  rw [sl_pdqsortOrdered_byte.eq_2] at h
  refine W.seq ?_
  let z0 := fun t => EN ((0, S1 n2) :: t)
  let z1 := fun t => z0 ((1, I6 a3) :: (2, I6 a4) :: (3, I6 a5) :: (8, .bool true) :: t)
  refine W.rt (e2 := z1 [O1 a1]) ?_
  refine W.seq ?_
  refine W.rt (e2 := z1 [(9, .bool true), O1 a1]) ?_
  refine W.block ?_
  refine W.wk (env' := z1 [(9, .bool true), O1 a1]) ?_
  refine W.fuel (σ := ((List Int) × Int × Int × Int × Bool × Bool)) (fun s => z0 [(1, I6 s.2.1), (2, I6 s.2.2.1), (3, I6 s.2.2.2.1), (8, .bool s.2.2.2.2.1), (9, .bool s.2.2.2.2.2), (2000000, .obj 1000000005 1 (M8 s.1))]) (fun m0 s => sl_pdqsortOrdered_byte_l1 fuel n2 (sl_pdqsortOrdered_byte fuel) m0 s.1 s.2.1 s.2.2.1 s.2.2.2.1 s.2.2.2.2.1 s.2.2.2.2.2 = some r) (fun s h => ?_) (fun m1 s h hN1 => ?_) fuel (a1, a3, a4, a5, true, true) h
  ·obtain ⟨v8, v9, v10, v11, v12, v13⟩ := s
   have h : sl_pdqsortOrdered_byte_l1 fuel n2 (sl_pdqsortOrdered_byte fuel) 0 v8 v9 v10 v11 v12 v13 = some r := h
   rw [sl_pdqsortOrdered_byte_l1.eq_1] at h
   cases h
  ·obtain ⟨v8, v9, v10, v11, v12, v13⟩ := s
   have h : sl_pdqsortOrdered_byte_l1 fuel n2 (sl_pdqsortOrdered_byte fuel) (m1 + 1) v8 v9 v10 v11 v12 v13 = some r := h
   rw [sl_pdqsortOrdered_byte_l1.eq_2] at h
   refine W.block ?_
   refine W.seq ?_
   let z2 := fun t => z0 ((1, I6 v9) :: (2, I6 v10) :: t)
   let z3 := fun t => z2 ((3, I6 v11) :: (8, .bool v12) :: (9, .bool v13) :: (10, I6 (W6 (v10 - v9))) :: t)
   refine W.rt (e2 := z3 [O1 v8]) ?_
   refine W.seq ?_
   refine W.seq ?_
   let z4 := fun t => z3 ((23, .bool (decide ((W6 (v10 - v9)) ≤ 12))) :: t)
   refine W.rt (e2 := z4 [O1 v8]) ?_
   refine W.cb (decide ((W6 (v10 - v9)) ≤ 12)) (fun hb => ?_) (fun hb => ?_)
   ·replace h := cond_t hb h
    refine W.seq ?_
    refine W.rg ?_
    obtain ⟨w18, hw18, h⟩ := bind_some h
    refine WO.cm 3 [(2000000, 2000000)] [] (F := 48) (args := [S1 n2, I6 v9, I6 v10]) (hp := [O1 v8]) (hp2 := [O1 w18]) (r := .tup []) (run_sl_insertionSortOrdered_byte fuel v8 n2 v9 v10 w18 hw18) (e1 := z4 [(24, S1 n2), (25, I6 v9), (26, I6 v10), (27, .tup []), O1 w18]) ?_
    refine WO.fn (e2 := [O1 w18]) ?_
    refine W.wk (env' := [O1 w18]) ?_
    have hr : PostM Tryd.prog Tryd.f33 (.tup []) [O1 w18] .ret [O1 w18] := ⟨by kernel_rfl, by kernel_rfl⟩
    cases h
    exact W.ret hr
   replace h := cond_f hb h
   refine W.skip ?_
   refine W.wk (env' := z3 [O1 v8]) ?_
   refine W.seq ?_
   refine W.seq ?_
   refine W.rt (e2 := z3 [(29, .bool (v11 == 0)), O1 v8]) ?_
   refine W.cb (v11 == 0) (fun hb => ?_) (fun hb => ?_)
   ·replace h := cond_t hb h
    refine W.seq ?_
    refine W.rg ?_
    obtain ⟨w22, hw22, h⟩ := bind_some h
    refine WO.cm 3 [(2000000, 2000000)] [] (F := 49) (args := [S1 n2, I6 v9, I6 v10]) (hp := [O1 v8]) (hp2 := [O1 w22]) (r := .tup []) (run_sl_heapSortOrdered_byte fuel v8 n2 v9 v10 w22 hw22) (e1 := z3 [(29, .bool (v11 == 0)), (30, S1 n2), (31, I6 v9), (32, I6 v10), (33, .tup []), O1 w22]) ?_
    refine WO.fn (e2 := [O1 w22]) ?_
    refine W.wk (env' := [O1 w22]) ?_
    have hr : PostM Tryd.prog Tryd.f33 (.tup []) [O1 w22] .ret [O1 w22] := ⟨by kernel_rfl, by kernel_rfl⟩
    cases h
    exact W.ret hr
   replace h := cond_f hb h
   refine W.skip ?_
   refine W.wk (env' := z3 [O1 v8]) ?_
   refine W.seq ?_
   refine W.join (σ := ((List Int) × Int)) (fun s => z2 [(3, I6 s.2), (8, .bool v12), (9, .bool v13), (10, I6 (W6 (v10 - v9))), (2000000, .obj 1000000005 1 (M8 s.1))]) (fun s => (sl_pdqsortOrdered_byte_j23 fuel n2 v9 v10 v12 v13 (sl_pdqsortOrdered_byte fuel) (sl_pdqsortOrdered_byte_l1 fuel n2 (sl_pdqsortOrdered_byte fuel) m1)) s.1 s.2 = some r) (fun s h => ?_) (fun hK23 => ?_)
   ·obtain ⟨v27, v28⟩ := s
    have h : (sl_pdqsortOrdered_byte_j23 fuel n2 v9 v10 v12 v13 (sl_pdqsortOrdered_byte fuel) (sl_pdqsortOrdered_byte_l1 fuel n2 (sl_pdqsortOrdered_byte fuel) m1)) v27 v28 = some r := h
    unfold sl_pdqsortOrdered_byte_j23 at h
    refine W.seq ?_
    refine W.rg ?_
    obtain ⟨w30, hw30, h⟩ := bind_some h
    let z5 := fun t => z2 ((3, I6 v28) :: (8, .bool v12) :: (9, .bool v13) :: (10, I6 (W6 (v10 - v9))) :: t)
    refine WO.callRK 3 (F := 51) (l := [.lst 5 1 none (snapA 0 n2 (M8 v27)), I6 v9, I6 v10]) (C := []) (args := [l5 none (snap 0 n2 v27), I6 v9, I6 v10]) (r := .tup [I6 w30.1, I6 w30.2]) (by kernel_rfl) (by first | (simp only [snap_map, snap_full, snap_rep, List.cons_append, List.nil_append]; done) | (simp only [snap_map, snap_full, snap_rep, List.cons_append, List.nil_append]; kernel_rfl)) (by kernel_rfl) (by kernel_rfl) (run_sl_choosePivotOrdered_byte (snap 0 n2 v27) v9 v10 w30 hw30) (e1 := z5 [(43, S1 n2), (44, I6 v9), (45, I6 v10), (46, .tup [I6 w30.1, I6 w30.2]), O1 v27]) (by kernel_rfl) ?_
    let z6 := fun t => z5 ((11, I6 w30.1) :: (12, I6 w30.2) :: t)
    refine WO.fn (e2 := z6 [O1 v27]) ?_
    refine W.seq ?_
    refine W.join (σ := ((List Int) × Int × Int)) (fun s => z5 [(11, I6 s.2.1), (12, I6 s.2.2), (2000000, .obj 1000000005 1 (M8 s.1))]) (fun s => (sl_pdqsortOrdered_byte_j31 fuel n2 v9 v10 v12 v13 v28 (sl_pdqsortOrdered_byte fuel) (sl_pdqsortOrdered_byte_l1 fuel n2 (sl_pdqsortOrdered_byte fuel) m1)) s.1 s.2.1 s.2.2 = some r) (fun s h => ?_) (fun hK31 => ?_)
    ·obtain ⟨v36, v37, v38⟩ := s
     have h : (sl_pdqsortOrdered_byte_j31 fuel n2 v9 v10 v12 v13 v28 (sl_pdqsortOrdered_byte fuel) (sl_pdqsortOrdered_byte_l1 fuel n2 (sl_pdqsortOrdered_byte fuel) m1)) v36 v37 v38 = some r := h
     unfold sl_pdqsortOrdered_byte_j31 at h
     refine W.seq ?_
     let z7 := fun t => z2 ((3, I6 v28) :: t)
     refine W.join (σ := ((List Int) × Bool × Bool)) (fun s => z7 [(8, .bool s.2.1), (9, .bool s.2.2), (10, I6 (W6 (v10 - v9))), (11, I6 v37), (2000000, .obj 1000000005 1 (M8 s.1))]) (fun s => (sl_pdqsortOrdered_byte_j39 fuel n2 v9 v10 v28 v37 (sl_pdqsortOrdered_byte fuel) (sl_pdqsortOrdered_byte_l1 fuel n2 (sl_pdqsortOrdered_byte fuel) m1)) s.1 s.2.1 s.2.2 = some r) (fun s h => ?_) (fun hK39 => ?_)
     ·obtain ⟨v46, v47, v48⟩ := s
      have h : (sl_pdqsortOrdered_byte_j39 fuel n2 v9 v10 v28 v37 (sl_pdqsortOrdered_byte fuel) (sl_pdqsortOrdered_byte_l1 fuel n2 (sl_pdqsortOrdered_byte fuel) m1)) v46 v47 v48 = some r := h
      unfold sl_pdqsortOrdered_byte_j39 at h
      refine W.seq ?_
      refine W.seq ?_
      let z8 := fun t => z7 ((8, .bool v47) :: (9, .bool v48) :: (10, I6 (W6 (v10 - v9))) :: (11, I6 v37) :: t)
      refine W.join (σ := (Bool)) (fun s => z8 [(87, .bool s), O1 v46]) (fun s => (sl_pdqsortOrdered_byte_j50 fuel n2 v9 v10 v28 v37 v46 v47 v48 (sl_pdqsortOrdered_byte fuel) (sl_pdqsortOrdered_byte_l1 fuel n2 (sl_pdqsortOrdered_byte fuel) m1)) s = some r) (fun s h => ?_) (fun hK50 => ?_)
      ·obtain ⟨v56, rfl⟩ : ∃ x, x = s := ⟨s, rfl⟩
       have h : (sl_pdqsortOrdered_byte_j50 fuel n2 v9 v10 v28 v37 v46 v47 v48 (sl_pdqsortOrdered_byte fuel) (sl_pdqsortOrdered_byte_l1 fuel n2 (sl_pdqsortOrdered_byte fuel) m1)) v56 = some r := h
       unfold sl_pdqsortOrdered_byte_j50 at h
       refine W.cb v56 (fun hb => ?_) (fun hb => ?_)
       ·replace h := cond_t hb h
        refine W.seq ?_
        refine W.rg ?_
        obtain ⟨w58, hw58, h⟩ := bind_some h
        refine WO.cm 4 [(2000000, 2000000)] [] (F := 55) (args := [S1 n2, I6 v9, I6 v10, I6 v37]) (hp := [O1 v46]) (hp2 := [(2000000, .obj 1000000005 1 (M8 w58.2))]) (r := I6 w58.1) (run_sl_partitionEqualOrdered_byte fuel v46 n2 v9 v10 v37 w58 hw58) (e1 := z8 [(87, .bool v56), (88, S1 n2), (89, I6 v9), (90, I6 v10), (91, I6 v37), (92, I6 w58.1), (2000000, .obj 1000000005 1 (M8 w58.2))]) ?_
        refine WO.fn (e2 := z0 [(2, I6 v10), (3, I6 v28), (8, .bool v47), (9, .bool v48), (13, I6 w58.1), (2000000, .obj 1000000005 1 (M8 w58.2))]) ?_
        refine W.seq ?_
        let z9 := fun t => z0 ((1, I6 w58.1) :: (2, I6 v10) :: (3, I6 v28) :: (8, .bool v47) :: (9, .bool v48) :: (2000000, .obj 1000000005 1 (M8 w58.2)) :: t)
        refine W.rt (e2 := z9 []) ?_
        refine W.exit ?_
        refine W.wk (env' := z9 []) ?_
        exact hN1 (w58.2, w58.1, v10, v28, v47, v48) h
       replace h := cond_f hb h
       refine W.skip ?_
       let z10 := fun t => z7 ((10, I6 (W6 (v10 - v9))) :: t)
       refine W.wk (env' := z10 [(11, I6 v37), O1 v46]) ?_
       refine W.seq ?_
       refine W.rg ?_
       obtain ⟨w61, hw61, h⟩ := bind_some h
       refine WO.cm 4 [(2000000, 2000000)] [] (F := 56) (args := [S1 n2, I6 v9, I6 v10, I6 v37]) (hp := [O1 v46]) (hp2 := [(2000000, .obj 1000000005 1 (M8 w61.2))]) (r := .tup [I6 w61.1.1, .bool w61.1.2]) (run_sl_partitionOrdered_byte fuel v46 n2 v9 v10 v37 w61 hw61) (e1 := z10 [(11, I6 v37), (95, S1 n2), (96, I6 v9), (97, I6 v10), (98, I6 v37), (99, .tup [I6 w61.1.1, .bool w61.1.2]), (2000000, .obj 1000000005 1 (M8 w61.2))]) ?_
       refine WO.fn (e2 := z10 [(14, I6 w61.1.1), (15, .bool w61.1.2), (2000000, .obj 1000000005 1 (M8 w61.2))]) ?_
       refine W.seq ?_
       let z11 := fun t => z7 ((9, .bool w61.1.2) :: (10, I6 (W6 (v10 - v9))) :: (14, I6 w61.1.1) :: t)
       refine W.rt (e2 := z11 [(2000000, .obj 1000000005 1 (M8 w61.2))]) ?_
       refine W.seq ?_
       refine W.rt (e2 := z11 [(16, I6 (W6 (w61.1.1 - v9))), (17, I6 (W6 (v10 - w61.1.1))), (2000000, .obj 1000000005 1 (M8 w61.2))]) ?_
       refine W.seq ?_
       let z12 := fun t => z7 ((9, .bool w61.1.2) :: (14, I6 w61.1.1) :: (16, I6 (W6 (w61.1.1 - v9))) :: (17, I6 (W6 (v10 - w61.1.1))) :: (18, I6 (W6 (((W6 (v10 - v9))).tdiv 8))) :: t)
       refine W.rt (e2 := z12 [(2000000, .obj 1000000005 1 (M8 w61.2))]) ?_
       refine W.seq ?_
       refine W.rt (e2 := z12 [(113, .bool (decide ((W6 (w61.1.1 - v9)) < (W6 (v10 - w61.1.1))))), (2000000, .obj 1000000005 1 (M8 w61.2))]) ?_
       refine W.cb (decide ((W6 (w61.1.1 - v9)) < (W6 (v10 - w61.1.1)))) (fun hb => ?_) (fun hb => ?_)
       ·replace h := cond_t hb h
        refine W.seq ?_
        let z13 := fun t => z7 ((8, .bool (decide ((W6 (w61.1.1 - v9)) ≥ (W6 (((W6 (v10 - v9))).tdiv 8))))) :: (9, .bool w61.1.2) :: (14, I6 w61.1.1) :: t)
        refine W.rt (e2 := z13 [(2000000, .obj 1000000005 1 (M8 w61.2))]) ?_
        refine W.seq ?_
        refine W.rg ?_
        obtain ⟨w68, hw68, h⟩ := bind_some h
        refine WO.cm 4 [(2000000, 2000000)] [] (F := 33) (args := [S1 n2, I6 v9, I6 w61.1.1, I6 v28]) (hp := [(2000000, .obj 1000000005 1 (M8 w61.2))]) (hp2 := [O1 w68]) (r := .tup []) (ih w61.2 n2 v9 w61.1.1 v28 w68 hw68) (e1 := z13 [(117, S1 n2), (118, I6 v9), (119, I6 w61.1.1), (120, I6 v28), (121, .tup []), O1 w68]) ?_
        refine WO.fn (e2 := z0 [(2, I6 v10), (3, I6 v28), (8, .bool (decide ((W6 (w61.1.1 - v9)) ≥ (W6 (((W6 (v10 - v9))).tdiv 8))))), (9, .bool w61.1.2), (14, I6 w61.1.1), O1 w68]) ?_
        refine W.rt (e2 := z0 [(1, I6 (W6 (w61.1.1 + 1))), (2, I6 v10), (3, I6 v28), (8, .bool (decide ((W6 (w61.1.1 - v9)) ≥ (W6 (((W6 (v10 - v9))).tdiv 8))))), (9, .bool w61.1.2), O1 w68]) ?_
        exact hN1 (w68, (W6 (w61.1.1 + 1)), v10, v28, (decide ((W6 (w61.1.1 - v9)) ≥ (W6 (((W6 (v10 - v9))).tdiv 8)))), w61.1.2) h
       replace h := cond_f hb h
       refine W.seq ?_
       let z14 := fun t => z7 ((8, .bool (decide ((W6 (v10 - w61.1.1)) ≥ (W6 (((W6 (v10 - v9))).tdiv 8))))) :: (9, .bool w61.1.2) :: (14, I6 w61.1.1) :: t)
       refine W.rt (e2 := z14 [(2000000, .obj 1000000005 1 (M8 w61.2))]) ?_
       refine W.seq ?_
       refine W.rg ?_
       obtain ⟨w71, hw71, h⟩ := bind_some h
       refine WO.cm 5 [(2000000, 2000000)] [] (F := 33) (args := [S1 n2, I6 (W6 (w61.1.1 + 1)), I6 v10, I6 v28]) (hp := [(2000000, .obj 1000000005 1 (M8 w61.2))]) (hp2 := [O1 w71]) (r := .tup []) (ih w61.2 n2 (W6 (w61.1.1 + 1)) v10 v28 w71 hw71) (e1 := z14 [(127, S1 n2), (128, I6 w61.1.1), (129, I6 (W6 (w61.1.1 + 1))), (130, I6 v10), (131, I6 v28), (132, .tup []), O1 w71]) ?_
       refine WO.fn (e2 := z0 [(1, I6 v9), (3, I6 v28), (8, .bool (decide ((W6 (v10 - w61.1.1)) ≥ (W6 (((W6 (v10 - v9))).tdiv 8))))), (9, .bool w61.1.2), (14, I6 w61.1.1), O1 w71]) ?_
       refine W.rt (e2 := z0 [(1, I6 v9), (2, I6 w61.1.1), (3, I6 v28), (8, .bool (decide ((W6 (v10 - w61.1.1)) ≥ (W6 (((W6 (v10 - v9))).tdiv 8))))), (9, .bool w61.1.2), O1 w71]) ?_
       exact hN1 (w71, v9, w61.1.1, v28, (decide ((W6 (v10 - w61.1.1)) ≥ (W6 (((W6 (v10 - v9))).tdiv 8)))), w61.1.2) h
      refine W.rg ?_
      let z15 := fun t => z8 ((73, I6 v9) :: t)
      refine WO.bk 3 (fun b => z15 [(74, .bool b), (75, .bool b), O1 v46]) (decide (v9 > 0)) (fun hb => ?_) (fun hb => ?_)
      ·replace h := cond_t hb h
       obtain ⟨hc51, h⟩ := chk_some h
       let z16 := fun t => z15 ((74, .bool true) :: (75, .bool true) :: (76, S1 n2) :: (77, I6 v9) :: (78, I6 (W6 (v9 - 1))) :: (79, .pe 2000000 1 (0 + Int.toNat (W6 (v9 - 1))) 0) :: t)
       refine WO.pi 3 (v := .pe 2000000 1 (0 + Int.toNat (W6 (v9 - 1))) 0) hc51 (e1 := z16 [O1 v46]) ?_
       obtain ⟨e52, he52, h⟩ := bind_some h
       let z17 := fun t => z16 ((80, .int .u8 e52) :: t)
       refine WO.pk 0 (match (M8 v46)[(0 + Int.toNat (W6 (v9 - 1)))]? with | some y => cut Tryd.prog 5 (y.cells.map AV.strip) 0 | none => none) (v := .int .u8 e52) ((pe_ld (f := (AV.int .u8)) (G := (fun y => cut Tryd.prog 5 (y.cells.map AV.strip) 0)) he52).trans (by kernel_rfl)) (e1 := z17 [O1 v46]) ?_
       obtain ⟨hc53, h⟩ := chk_some h
       let z18 := fun t => z17 ((81, S1 n2) :: (82, I6 v37) :: (83, .pe 2000000 1 (0 + Int.toNat v37) 0) :: t)
       refine WO.pi 2 (v := .pe 2000000 1 (0 + Int.toNat v37) 0) hc53 (e1 := z18 [O1 v46]) ?_
       obtain ⟨e54, he54, h⟩ := bind_some h
       refine WO.pk 0 (match (M8 v46)[(0 + Int.toNat v37)]? with | some y => cut Tryd.prog 5 (y.cells.map AV.strip) 0 | none => none) (v := .int .u8 e54) ((pe_ld (f := (AV.int .u8)) (G := (fun y => cut Tryd.prog 5 (y.cells.map AV.strip) 0)) he54).trans (by kernel_rfl)) (e1 := z18 [(84, .int .u8 e54), O1 v46]) ?_
       obtain ⟨w55, hw55, h⟩ := bind_some h
       refine WO.ck 0 (F := 54) (l := [.int .u8 e52, .int .u8 e54]) (C := []) (r := .bool w55) (run_cm_Less_byte e52 e54 w55 hw55) (e1 := z18 [(84, .int .u8 e54), (85, .bool w55), O1 v46]) ?_
       refine WO.fn (e2 := z8 [(87, .bool (!w55)), O1 v46]) ?_
       exact hK50 (!w55) h
      replace h := cond_f hb h
      refine WO.fn (e2 := z8 [(87, .bool false), O1 v46]) ?_
      exact hK50 false h
     refine W.seq ?_
     refine W.join (σ := (Bool × Bool × Bool)) (fun s => z7 [(8, .bool s.1), (9, .bool s.2.1), (10, I6 (W6 (v10 - v9))), (11, I6 v37), (68, .bool s.2.2), O1 v36]) (fun s => (sl_pdqsortOrdered_byte_j40 fuel n2 v9 v10 v36 (sl_pdqsortOrdered_byte_j39 fuel n2 v9 v10 v28 v37 (sl_pdqsortOrdered_byte fuel) (sl_pdqsortOrdered_byte_l1 fuel n2 (sl_pdqsortOrdered_byte fuel) m1))) s.1 s.2.1 s.2.2 = some r) (fun s h => ?_) (fun hK40 => ?_)
     ·obtain ⟨v41, v42, v43⟩ := s
      have h : (sl_pdqsortOrdered_byte_j40 fuel n2 v9 v10 v36 (sl_pdqsortOrdered_byte_j39 fuel n2 v9 v10 v28 v37 (sl_pdqsortOrdered_byte fuel) (sl_pdqsortOrdered_byte_l1 fuel n2 (sl_pdqsortOrdered_byte fuel) m1))) v41 v42 v43 = some r := h
      unfold sl_pdqsortOrdered_byte_j40 at h
      refine W.cb v43 (fun hb => ?_) (fun hb => ?_)
      ·replace h := cond_t hb h
       refine W.seq ?_
       refine W.rg ?_
       obtain ⟨w45, hw45, h⟩ := bind_some h
       let z19 := fun t => z7 ((8, .bool v41) :: (9, .bool v42) :: (10, I6 (W6 (v10 - v9))) :: (11, I6 v37) :: t)
       refine WO.cm 3 [(2000000, 2000000)] [] (F := 53) (args := [S1 n2, I6 v9, I6 v10]) (hp := [O1 v36]) (hp2 := [(2000000, .obj 1000000005 1 (M8 w45.2))]) (r := .bool w45.1) (run_sl_partialInsertionSortOrdered_byte fuel v36 n2 v9 v10 w45 hw45) (e1 := z19 [(68, .bool v43), (69, S1 n2), (70, I6 v9), (71, I6 v10), (72, .bool w45.1), (2000000, .obj 1000000005 1 (M8 w45.2))]) ?_
       refine WO.fn (e2 := z19 [(72, .bool w45.1), (2000000, .obj 1000000005 1 (M8 w45.2))]) ?_
       refine W.cb w45.1 (fun hb => ?_) (fun hb => ?_)
       ·replace h := cond_t hb h
        refine W.wk (env' := [(2000000, .obj 1000000005 1 (M8 w45.2))]) ?_
        have hr : PostM Tryd.prog Tryd.f33 (.tup []) [(2000000, .obj 1000000005 1 (M8 w45.2))] .ret [(2000000, .obj 1000000005 1 (M8 w45.2))] := ⟨by kernel_rfl, by kernel_rfl⟩
        cases h
        exact W.ret hr
       replace h := cond_f hb h
       refine W.skip ?_
       refine W.wk (env' := z19 [(2000000, .obj 1000000005 1 (M8 w45.2))]) ?_
       exact hK39 (w45.2, v41, v42) h
      replace h := cond_f hb h
      refine W.skip ?_
      refine W.wk (env' := z7 [(8, .bool v41), (9, .bool v42), (10, I6 (W6 (v10 - v9))), (11, I6 v37), O1 v36]) ?_
      exact hK39 (v36, v41, v42) h
     refine W.rg ?_
     refine WO.bk 2 (fun b => z7 [(8, .bool b), (9, .bool v13), (10, I6 (W6 (v10 - v9))), (11, I6 v37), (12, I6 v38), (61, .bool b), (62, .bool b), O1 v36]) v12 (fun hb => ?_) (fun hb => ?_)
     ·replace h := cond_t hb h
      refine WO.bk 3 (fun b => z7 [(8, .bool true), (9, .bool b), (10, I6 (W6 (v10 - v9))), (11, I6 v37), (12, I6 v38), (61, .bool true), (62, .bool true), (63, .bool b), (64, .bool b), (65, .bool b), O1 v36]) v13 (fun hb => ?_) (fun hb => ?_)
      ·replace h := cond_t hb h
       refine WO.fn (e2 := z7 [(8, .bool true), (9, .bool true), (10, I6 (W6 (v10 - v9))), (11, I6 v37), (68, .bool (v38 == 1)), O1 v36]) ?_
       exact hK40 (true, true, (v38 == 1)) h
      replace h := cond_f hb h
      refine WO.fn (e2 := z7 [(8, .bool true), (9, .bool false), (10, I6 (W6 (v10 - v9))), (11, I6 v37), (68, .bool false), O1 v36]) ?_
      exact hK40 (true, false, false) h
     replace h := cond_f hb h
     refine WO.fn (e2 := z7 [(8, .bool false), (9, .bool v13), (10, I6 (W6 (v10 - v9))), (11, I6 v37), (68, .bool false), O1 v36]) ?_
     exact hK40 (false, v13, false) h
    refine W.seq ?_
    refine W.rt (e2 := z6 [(50, .bool (w30.2 == 2)), O1 v27]) ?_
    refine W.cb (w30.2 == 2) (fun hb => ?_) (fun hb => ?_)
    ·replace h := cond_t hb h
     refine W.seq ?_
     refine W.rg ?_
     obtain ⟨w34, hw34, h⟩ := bind_some h
     refine WO.cm 3 [(2000000, 2000000)] [] (F := 52) (args := [S1 n2, I6 v9, I6 v10]) (hp := [O1 v27]) (hp2 := [O1 w34]) (r := .tup []) (run_sl_reverseRangeOrdered_byte fuel v27 n2 v9 v10 w34 hw34) (e1 := z6 [(50, .bool (w30.2 == 2)), (51, S1 n2), (52, I6 v9), (53, I6 v10), (54, .tup []), O1 w34]) ?_
     refine WO.fn (e2 := z5 [(11, I6 w30.1), O1 w34]) ?_
     refine W.seq ?_
     let z20 := fun t => z5 ((11, I6 (W6 ((W6 (v10 - 1)) - (W6 (w30.1 - v9))))) :: t)
     refine W.rt (e2 := z20 [O1 w34]) ?_
     refine W.rt (e2 := z20 [(12, .int .i64 1), O1 w34]) ?_
     exact hK31 (w34, (W6 ((W6 (v10 - 1)) - (W6 (w30.1 - v9)))), 1) h
    replace h := cond_f hb h
    refine W.skip ?_
    refine W.wk (env' := z6 [O1 v27]) ?_
    exact hK31 (v27, w30.1, w30.2) h
   refine W.seq ?_
   refine W.rt (e2 := z3 [(35, .bool (!v12)), O1 v8]) ?_
   refine W.cb (!v12) (fun hb => ?_) (fun hb => ?_)
   ·replace h := cond_t hb h
    refine W.seq ?_
    refine W.rg ?_
    obtain ⟨w26, hw26, h⟩ := bind_some h
    refine WO.cm 3 [(2000000, 2000000)] [] (F := 50) (args := [S1 n2, I6 v9, I6 v10]) (hp := [O1 v8]) (hp2 := [O1 w26]) (r := .tup []) (run_sl_breakPatternsOrdered_byte fuel v8 n2 v9 v10 w26 hw26) (e1 := z3 [(35, .bool (!v12)), (36, S1 n2), (37, I6 v9), (38, I6 v10), (39, .tup []), O1 w26]) ?_
    refine WO.fn (e2 := z3 [O1 w26]) ?_
    refine W.rt (e2 := z2 [(3, I6 (W6 (v11 - 1))), (8, .bool v12), (9, .bool v13), (10, I6 (W6 (v10 - v9))), O1 w26]) ?_
    exact hK23 (w26, (W6 (v11 - 1))) h
   replace h := cond_f hb h
   refine W.skip ?_
   refine W.wk (env' := z3 [O1 v8]) ?_
   exact hK23 (v8, v11) h
def sl_Sort_byte (fuel : Nat) (a1 : (List Int)) (n2 : Nat) : Option (List Int) :=
 ((mb_Len (IntKind.wrap .u64 ((n2 : Nat) : Int))).bind fun w4 => ((sl_pdqsortOrdered_byte fuel a1 n2 0 ((n2 : Nat) : Int) w4).bind fun w5 => (some w5)))
theorem run_sl_Sort_byte (fuel : Nat) (a1 : (List Int)) (n2 : Nat) (r : (List Int)) (h : sl_Sort_byte fuel a1 n2 = some r) : Run Tryd.prog (.callM 17 [S1 n2] [O1 a1] (.tup []) [O1 r]) := by
 refine cM Tryd.func17 rfl (env0 := [(0, S1 n2), O1 a1]) ?_
 unfold sl_Sort_byte at h
 refine W.seq ?_
 let z0 := fun t => EN ((0, S1 n2) :: (2, I6 ((n2 : Nat) : Int)) :: t)
 refine W.rt (e2 := z0 [O1 a1]) ?_
 refine W.rg ?_
 obtain ⟨w4, hw4, h⟩ := bind_some h
 let z1 := fun t => z0 ((5, S1 n2) :: (6, I6 ((n2 : Nat) : Int)) :: (7, I6 ((n2 : Nat) : Int)) :: (8, .int .u64 (IntKind.wrap .u64 ((n2 : Nat) : Int))) :: (9, I6 w4) :: t)
 refine WO.ck 4 (F := 34) (l := [.int .u64 (IntKind.wrap .u64 ((n2 : Nat) : Int))]) (C := []) (r := I6 w4) (run_mb_Len (IntKind.wrap .u64 ((n2 : Nat) : Int)) w4 hw4) (e1 := z1 [O1 a1]) ?_
 obtain ⟨w5, hw5, h⟩ := bind_some h
 let z2 := fun t => z1 ((10, .tup []) :: O1 w5 :: t)
 refine WO.cm 0 [(2000000, 2000000)] [] (F := 33) (args := [S1 n2, .int .i64 0, I6 ((n2 : Nat) : Int), I6 w4]) (hp := [O1 a1]) (hp2 := [O1 w5]) (r := .tup []) (run_sl_pdqsortOrdered_byte fuel a1 n2 0 ((n2 : Nat) : Int) w4 w5 hw5) (e1 := z2 []) ?_
 refine WO.end0 (e2 := z2 []) (by kernel_rfl) ?_
 have hr : PostM Tryd.prog Tryd.f17 (.tup []) [O1 w5] .normal (z2 []) := ⟨by kernel_rfl, by kernel_rfl⟩
 cases h
 exact hr
end Go.AM
