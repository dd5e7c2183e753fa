/- s -/
import Derived.Test.YtmfdgonjnckdhaaDoorDB2
set_option maxRecDepth 100000
set_option linter.unusedVariables false
set_option linter.unusedSimpArgs false
namespace Go.AM
open Go.Proofs
def sl_partitionEqualOrdered_byte_j19 (v59 : (List Int)) (v60 : Int) : Option (Int × (List Int)) :=
 (some (v60, v59))
def sl_partitionEqualOrdered_byte_j34 (n2 : Nat) (v20 : (List Int)) (v33 : Int) (N1 : ((List Int) → Int → Int → Option (Int × (List Int)))) (K19 : ((List Int) → Int → Option (Int × (List Int)))) (v44 : Int) : Option (Int × (List Int)) :=
 (bif (decide (v33 > v44)) then (K19 v20 v33) else (chk (decide ((0 : Int) ≤ v44 ∧ v44 < ((n2 : Nat) : Int))) ((v20[(0 + Int.toNat v44)]?).bind fun e49 => (chk (decide ((0 : Int) ≤ v33 ∧ v33 < ((n2 : Nat) : Int))) ((v20[(0 + Int.toNat v33)]?).bind fun e51 => (chk (decide ((0 : Int) ≤ v33 ∧ v33 < ((n2 : Nat) : Int))) ((upd v20 (0 + Int.toNat v33) e49).bind fun u53 => (chk (decide ((0 : Int) ≤ v44 ∧ v44 < ((n2 : Nat) : Int))) ((upd u53 (0 + Int.toNat v44) e51).bind fun u56 => (N1 u56 (IntKind.wrap .i64 (v33 + 1)) (IntKind.wrap .i64 (v44 - 1))))))))))))
def sl_partitionEqualOrdered_byte_j37 (v35 : Int) (N3 : (Int → Option (Int × (List Int)))) (K34 : (Int → Option (Int × (List Int)))) (v43 : Bool) : Option (Int × (List Int)) :=
 (bif v43 then (N3 (IntKind.wrap .i64 (v35 - 1))) else (K34 v35))
def sl_partitionEqualOrdered_byte_l3 (n2 : Nat) (a3 : Int) (v20 : (List Int)) (v33 : Int) (K34 : (Int → Option (Int × (List Int)))) : Nat → Int → Option (Int × (List Int))
 | 0, _ => none
 | m3 + 1, v35 => (bif (decide (v33 ≤ v35)) then (chk (decide ((0 : Int) ≤ a3 ∧ a3 < ((n2 : Nat) : Int))) ((v20[(0 + Int.toNat a3)]?).bind fun e39 => (chk (decide ((0 : Int) ≤ v35 ∧ v35 < ((n2 : Nat) : Int))) ((v20[(0 + Int.toNat v35)]?).bind fun e41 => ((cm_Less_byte e39 e41).bind fun w42 => ((sl_partitionEqualOrdered_byte_j37 v35 (sl_partitionEqualOrdered_byte_l3 n2 a3 v20 v33 K34 m3) K34) w42)))))) else ((sl_partitionEqualOrdered_byte_j37 v35 (sl_partitionEqualOrdered_byte_l3 n2 a3 v20 v33 K34 m3) K34) false))
def sl_partitionEqualOrdered_byte_j23 (fuel : Nat) (n2 : Nat) (a3 : Int) (v20 : (List Int)) (v22 : Int) (N1 : ((List Int) → Int → Int → Option (Int × (List Int)))) (K19 : ((List Int) → Int → Option (Int × (List Int)))) (v33 : Int) : Option (Int × (List Int)) :=
 (sl_partitionEqualOrdered_byte_l3 n2 a3 v20 v33 (sl_partitionEqualOrdered_byte_j34 n2 v20 v33 N1 K19) fuel v22)
def sl_partitionEqualOrdered_byte_j26 (v24 : Int) (N2 : (Int → Option (Int × (List Int)))) (K23 : (Int → Option (Int × (List Int)))) (v32 : Bool) : Option (Int × (List Int)) :=
 (bif v32 then (N2 (IntKind.wrap .i64 (v24 + 1))) else (K23 v24))
def sl_partitionEqualOrdered_byte_l2 (n2 : Nat) (a3 : Int) (v20 : (List Int)) (v22 : Int) (K23 : (Int → Option (Int × (List Int)))) : Nat → Int → Option (Int × (List Int))
 | 0, _ => none
 | m2 + 1, v24 => (bif (decide (v24 ≤ v22)) then (chk (decide ((0 : Int) ≤ a3 ∧ a3 < ((n2 : Nat) : Int))) ((v20[(0 + Int.toNat a3)]?).bind fun e28 => (chk (decide ((0 : Int) ≤ v24 ∧ v24 < ((n2 : Nat) : Int))) ((v20[(0 + Int.toNat v24)]?).bind fun e30 => ((cm_Less_byte e28 e30).bind fun w31 => ((sl_partitionEqualOrdered_byte_j26 v24 (sl_partitionEqualOrdered_byte_l2 n2 a3 v20 v22 K23 m2) K23) (!w31))))))) else ((sl_partitionEqualOrdered_byte_j26 v24 (sl_partitionEqualOrdered_byte_l2 n2 a3 v20 v22 K23 m2) K23) false))
def sl_partitionEqualOrdered_byte_l1 (fuel : Nat) (n2 : Nat) (a3 : Int) (K19 : ((List Int) → Int → Option (Int × (List Int)))) : Nat → (List Int) → Int → Int → Option (Int × (List Int))
 | 0, _, _, _ => none
 | m1 + 1, v20, v21, v22 => (sl_partitionEqualOrdered_byte_l2 n2 a3 v20 v22 (sl_partitionEqualOrdered_byte_j23 fuel n2 a3 v20 v22 (sl_partitionEqualOrdered_byte_l1 fuel n2 a3 K19 m1) K19) fuel v21)
def sl_partitionEqualOrdered_byte (fuel : Nat) (a1 : (List Int)) (n2 : Nat) (a3 : Int) (a4 : Int) (a5 : Int) : Option (Int × (List Int)) :=
 (chk (decide ((0 : Int) ≤ a5 ∧ a5 < ((n2 : Nat) : Int))) ((a1[(0 + Int.toNat a5)]?).bind fun e9 => (chk (decide ((0 : Int) ≤ a3 ∧ a3 < ((n2 : Nat) : Int))) ((a1[(0 + Int.toNat a3)]?).bind fun e11 => (chk (decide ((0 : Int) ≤ a3 ∧ a3 < ((n2 : Nat) : Int))) ((upd a1 (0 + Int.toNat a3) e9).bind fun u13 => (chk (decide ((0 : Int) ≤ a5 ∧ a5 < ((n2 : Nat) : Int))) ((upd u13 (0 + Int.toNat a5) e11).bind fun u16 => (sl_partitionEqualOrdered_byte_l1 fuel n2 a3 (sl_partitionEqualOrdered_byte_j19) fuel u16 (IntKind.wrap .i64 (a3 + 1)) (IntKind.wrap .i64 (a4 - 1)))))))))))
theorem run_sl_partitionEqualOrdered_byte (fuel : Nat) (a1 : (List Int)) (n2 : Nat) (a3 : Int) (a4 : Int) (a5 : Int) (r : (Int × (List Int))) (h : sl_partitionEqualOrdered_byte fuel a1 n2 a3 a4 a5 = some r) : Run Tryd.prog (.callM 55 [S1 n2, I6 a3, I6 a4, I6 a5] [O1 a1] (I6 r.1) [(2000000, .obj 1000000005 1 (M8 r.2))]) := by
 refine cM Tryd.func55 rfl (env0 := [(0, S1 n2), (1, I6 a3), (2, I6 a4), (3, I6 a5), O1 a1]) ?_
 unfold sl_partitionEqualOrdered_byte at h
 refine W.seq ?_
 let z0 := fun t => EN ((0, S1 n2) :: (1, I6 a3) :: t)
 let z1 := fun t => z0 ((2, I6 a4) :: (3, I6 a5) :: t)
 refine W.rt (e2 := z1 [O1 a1]) ?_
 refine W.seq ?_
 refine W.rg ?_
 obtain ⟨hc8, h⟩ := chk_some h
 let z2 := fun t => z1 ((11, S1 n2) :: (12, I6 a3) :: (13, S1 n2) :: (14, I6 a5) :: (15, S1 n2) :: (16, I6 a5) :: (17, .pe 2000000 1 (0 + Int.toNat a5) 0) :: t)
 refine WO.pi 6 (v := .pe 2000000 1 (0 + Int.toNat a5) 0) hc8 (e1 := z2 [O1 a1]) ?_
 obtain ⟨e9, he9, h⟩ := bind_some h
 let z3 := fun t => z2 ((18, .int .u8 e9) :: t)
 refine WO.pk 0 (match (M8 a1)[(0 + Int.toNat a5)]? with | some y => cut Tryd.prog 5 (y.cells.map AV.strip) 0 | none => none) (v := .int .u8 e9) ((pe_ld (f := (AV.int .u8)) (G := (fun y => cut Tryd.prog 5 (y.cells.map AV.strip) 0)) he9).trans (by kernel_rfl)) (e1 := z3 [O1 a1]) ?_
 obtain ⟨hc10, h⟩ := chk_some h
 let z4 := fun t => z3 ((19, S1 n2) :: (20, I6 a3) :: (21, .pe 2000000 1 (0 + Int.toNat a3) 0) :: t)
 refine WO.pi 2 (v := .pe 2000000 1 (0 + Int.toNat a3) 0) hc10 (e1 := z4 [O1 a1]) ?_
 obtain ⟨e11, he11, h⟩ := bind_some h
 let z5 := fun t => z4 ((22, .int .u8 e11) :: t)
 refine WO.pk 0 (match (M8 a1)[(0 + Int.toNat a3)]? with | some y => cut Tryd.prog 5 (y.cells.map AV.strip) 0 | none => none) (v := .int .u8 e11) ((pe_ld (f := (AV.int .u8)) (G := (fun y => cut Tryd.prog 5 (y.cells.map AV.strip) 0)) he11).trans (by kernel_rfl)) (e1 := z5 [O1 a1]) ?_
 obtain ⟨hc12, h⟩ := chk_some h
 let z6 := fun t => z5 ((23, .pe 2000000 1 (0 + Int.toNat a3) 0) :: t)
 refine WO.pi 0 (v := .pe 2000000 1 (0 + Int.toNat a3) 0) hc12 (e1 := z6 [O1 a1]) ?_
 obtain ⟨u13, hu13, h⟩ := bind_some h
 obtain ⟨y14, hyy14, hzy14⟩ := upd_some hu13
 refine WO.sk 0 (id := 2000000) (e := 1000000005) (s := 1) (off := 0) (vs := [.int .u8 e9]) (AV.int .u8) hyy14 hzy14 (e1 := z6 [O1 u13]) ?_
 obtain ⟨hc15, h⟩ := chk_some h
 let z7 := fun t => z6 ((24, .pe 2000000 1 (0 + Int.toNat a5) 0) :: t)
 refine WO.pi 0 (v := .pe 2000000 1 (0 + Int.toNat a5) 0) hc15 (e1 := z7 [O1 u13]) ?_
 obtain ⟨u16, hu16, h⟩ := bind_some h
 obtain ⟨y17, hyy17, hzy17⟩ := upd_some hu16
 refine WO.sk 0 (id := 2000000) (e := 1000000005) (s := 1) (off := 0) (vs := [.int .u8 e11]) (AV.int .u8) hyy17 hzy17 (e1 := z7 [O1 u16]) ?_
 refine WO.fn (e2 := z0 [(2, I6 a4), O1 u16]) ?_
 refine W.seq ?_
 let z8 := fun t => z0 ((9, I6 (W6 (a3 + 1))) :: (10, I6 (W6 (a4 - 1))) :: O1 u16 :: t)
 refine W.rt (e2 := z8 []) ?_
 refine W.seq ?_
 refine W.join (σ := ((List Int) × Int)) (fun s => [(9, I6 s.2), (2000000, .obj 1000000005 1 (M8 s.1))]) (fun s => (sl_partitionEqualOrdered_byte_j19) s.1 s.2 = some r) (fun s h => ?_) (fun hK19 => ?_)
 ·obtain ⟨v59, v60⟩ := s
  have h : (sl_partitionEqualOrdered_byte_j19) v59 v60 = some r := h
  unfold sl_partitionEqualOrdered_byte_j19 at h
  refine W.seq ?_
  refine W.rt (e2 := [(8, I6 v60), O1 v59]) ?_
  refine W.wk (env' := [(8, I6 v60), O1 v59]) ?_
  have hr : PostM Tryd.prog Tryd.f55 (I6 v60) [O1 v59] .ret [(8, I6 v60), O1 v59] := ⟨by kernel_rfl, by kernel_rfl⟩
  cases h
  exact W.ret hr
 refine W.block ?_
 refine W.wk (env' := z8 []) ?_
 refine W.fuel (σ := ((List Int) × Int × Int)) (fun s => z0 [(9, I6 s.2.1), (10, I6 s.2.2), (2000000, .obj 1000000005 1 (M8 s.1))]) (fun m0 s => sl_partitionEqualOrdered_byte_l1 fuel n2 a3 (sl_partitionEqualOrdered_byte_j19) m0 s.1 s.2.1 s.2.2 = some r) (fun s h => ?_) (fun m1 s h hN1 => ?_) fuel (u16, (W6 (a3 + 1)), (W6 (a4 - 1))) h
 ·obtain ⟨v20, v21, v22⟩ := s
  have h : sl_partitionEqualOrdered_byte_l1 fuel n2 a3 (sl_partitionEqualOrdered_byte_j19) 0 v20 v21 v22 = some r := h
  rw [sl_partitionEqualOrdered_byte_l1.eq_1] at h
  cases h
 ·obtain ⟨v20, v21, v22⟩ := s
  have h : sl_partitionEqualOrdered_byte_l1 fuel n2 a3 (sl_partitionEqualOrdered_byte_j19) (m1 + 1) v20 v21 v22 = some r := h
  rw [sl_partitionEqualOrdered_byte_l1.eq_2] at h
  refine W.block ?_
  refine W.seq ?_
  refine W.join (σ := (Int)) (fun s => z0 [(9, I6 s), (10, I6 v22), O1 v20]) (fun s => (sl_partitionEqualOrdered_byte_j23 fuel n2 a3 v20 v22 (sl_partitionEqualOrdered_byte_l1 fuel n2 a3 (sl_partitionEqualOrdered_byte_j19) m1) (sl_partitionEqualOrdered_byte_j19)) s = some r) (fun s h => ?_) (fun hK23 => ?_)
  ·obtain ⟨v33, rfl⟩ : ∃ x, x = s := ⟨s, rfl⟩
   have h : (sl_partitionEqualOrdered_byte_j23 fuel n2 a3 v20 v22 (sl_partitionEqualOrdered_byte_l1 fuel n2 a3 (sl_partitionEqualOrdered_byte_j19) m1) (sl_partitionEqualOrdered_byte_j19)) v33 = some r := h
   unfold sl_partitionEqualOrdered_byte_j23 at h
   refine W.seq ?_
   let z9 := fun t => z0 ((9, I6 v33) :: t)
   refine W.join (σ := (Int)) (fun s => z9 [(10, I6 s), O1 v20]) (fun s => (sl_partitionEqualOrdered_byte_j34 n2 v20 v33 (sl_partitionEqualOrdered_byte_l1 fuel n2 a3 (sl_partitionEqualOrdered_byte_j19) m1) (sl_partitionEqualOrdered_byte_j19)) s = some r) (fun s h => ?_) (fun hK34 => ?_)
   ·obtain ⟨v44, rfl⟩ : ∃ x, x = s := ⟨s, rfl⟩
    have h : (sl_partitionEqualOrdered_byte_j34 n2 v20 v33 (sl_partitionEqualOrdered_byte_l1 fuel n2 a3 (sl_partitionEqualOrdered_byte_j19) m1) (sl_partitionEqualOrdered_byte_j19)) v44 = some r := h
    unfold sl_partitionEqualOrdered_byte_j34 at h
    refine W.seq ?_
    refine W.seq ?_
    let z10 := fun t => z9 ((10, I6 v44) :: t)
    refine W.rt (e2 := z10 [(64, .bool (decide (v33 > v44))), O1 v20]) ?_
    refine W.cb (decide (v33 > v44)) (fun hb => ?_) (fun hb => ?_)
    ·replace h := cond_t hb h
     refine W.exit ?_
     refine W.wk (env' := [(9, I6 v33), O1 v20]) ?_
     exact hK19 (v20, v33) h
    replace h := cond_f hb h
    refine W.skip ?_
    refine W.wk (env' := z10 [O1 v20]) ?_
    refine W.seq ?_
    refine W.rg ?_
    obtain ⟨hc48, h⟩ := chk_some h
    let z11 := fun t => z10 ((65, S1 n2) :: (66, I6 v33) :: (67, S1 n2) :: (68, I6 v44) :: (69, S1 n2) :: (70, I6 v44) :: (71, .pe 2000000 1 (0 + Int.toNat v44) 0) :: t)
    refine WO.pi 6 (v := .pe 2000000 1 (0 + Int.toNat v44) 0) hc48 (e1 := z11 [O1 v20]) ?_
    obtain ⟨e49, he49, h⟩ := bind_some h
    let z12 := fun t => z11 ((72, .int .u8 e49) :: t)
    refine WO.pk 0 (match (M8 v20)[(0 + Int.toNat v44)]? with | some y => cut Tryd.prog 5 (y.cells.map AV.strip) 0 | none => none) (v := .int .u8 e49) ((pe_ld (f := (AV.int .u8)) (G := (fun y => cut Tryd.prog 5 (y.cells.map AV.strip) 0)) he49).trans (by kernel_rfl)) (e1 := z12 [O1 v20]) ?_
    obtain ⟨hc50, h⟩ := chk_some h
    let z13 := fun t => z12 ((73, S1 n2) :: (74, I6 v33) :: (75, .pe 2000000 1 (0 + Int.toNat v33) 0) :: t)
    refine WO.pi 2 (v := .pe 2000000 1 (0 + Int.toNat v33) 0) hc50 (e1 := z13 [O1 v20]) ?_
    obtain ⟨e51, he51, h⟩ := bind_some h
    let z14 := fun t => z13 ((76, .int .u8 e51) :: t)
    refine WO.pk 0 (match (M8 v20)[(0 + Int.toNat v33)]? with | some y => cut Tryd.prog 5 (y.cells.map AV.strip) 0 | none => none) (v := .int .u8 e51) ((pe_ld (f := (AV.int .u8)) (G := (fun y => cut Tryd.prog 5 (y.cells.map AV.strip) 0)) he51).trans (by kernel_rfl)) (e1 := z14 [O1 v20]) ?_
    obtain ⟨hc52, h⟩ := chk_some h
    let z15 := fun t => z14 ((77, .pe 2000000 1 (0 + Int.toNat v33) 0) :: t)
    refine WO.pi 0 (v := .pe 2000000 1 (0 + Int.toNat v33) 0) hc52 (e1 := z15 [O1 v20]) ?_
    obtain ⟨u53, hu53, h⟩ := bind_some h
    obtain ⟨y54, hyy54, hzy54⟩ := upd_some hu53
    refine WO.sk 0 (id := 2000000) (e := 1000000005) (s := 1) (off := 0) (vs := [.int .u8 e49]) (AV.int .u8) hyy54 hzy54 (e1 := z15 [O1 u53]) ?_
    obtain ⟨hc55, h⟩ := chk_some h
    let z16 := fun t => z15 ((78, .pe 2000000 1 (0 + Int.toNat v44) 0) :: t)
    refine WO.pi 0 (v := .pe 2000000 1 (0 + Int.toNat v44) 0) hc55 (e1 := z16 [O1 u53]) ?_
    obtain ⟨u56, hu56, h⟩ := bind_some h
    obtain ⟨y57, hyy57, hzy57⟩ := upd_some hu56
    refine WO.sk 0 (id := 2000000) (e := 1000000005) (s := 1) (off := 0) (vs := [.int .u8 e51]) (AV.int .u8) hyy57 hzy57 (e1 := z16 [O1 u56]) ?_
    refine WO.fn (e2 := z10 [O1 u56]) ?_
    refine W.seq ?_
    refine W.rt (e2 := z0 [(9, I6 (W6 (v33 + 1))), (10, I6 v44), O1 u56]) ?_
    refine W.rt (e2 := z0 [(9, I6 (W6 (v33 + 1))), (10, I6 (W6 (v44 - 1))), O1 u56]) ?_
    exact hN1 (u56, (W6 (v33 + 1)), (W6 (v44 - 1))) h
   refine W.block ?_
   refine W.wk (env' := z9 [(10, I6 v22), O1 v20]) ?_
   refine W.fuel (σ := (Int)) (fun s => z9 [(10, I6 s), O1 v20]) (fun m0 s => sl_partitionEqualOrdered_byte_l3 n2 a3 v20 v33 (sl_partitionEqualOrdered_byte_j34 n2 v20 v33 (sl_partitionEqualOrdered_byte_l1 fuel n2 a3 (sl_partitionEqualOrdered_byte_j19) m1) (sl_partitionEqualOrdered_byte_j19)) m0 s = some r) (fun s h => ?_) (fun m3 s h hN3 => ?_) fuel v22 h
   ·obtain ⟨v35, rfl⟩ : ∃ x, x = s := ⟨s, rfl⟩
    have h : sl_partitionEqualOrdered_byte_l3 n2 a3 v20 v33 (sl_partitionEqualOrdered_byte_j34 n2 v20 v33 (sl_partitionEqualOrdered_byte_l1 fuel n2 a3 (sl_partitionEqualOrdered_byte_j19) m1) (sl_partitionEqualOrdered_byte_j19)) 0 v35 = some r := h
    rw [sl_partitionEqualOrdered_byte_l3.eq_1] at h
    cases h
   ·obtain ⟨v35, rfl⟩ : ∃ x, x = s := ⟨s, rfl⟩
    have h : sl_partitionEqualOrdered_byte_l3 n2 a3 v20 v33 (sl_partitionEqualOrdered_byte_j34 n2 v20 v33 (sl_partitionEqualOrdered_byte_l1 fuel n2 a3 (sl_partitionEqualOrdered_byte_j19) m1) (sl_partitionEqualOrdered_byte_j19)) (m3 + 1) v35 = some r := h
    rw [sl_partitionEqualOrdered_byte_l3.eq_2] at h
    refine W.seq ?_
    refine W.seq ?_
    let z17 := fun t => z9 ((10, I6 v35) :: t)
    refine W.join (σ := (Bool)) (fun s => z17 [(59, .bool s), O1 v20]) (fun s => (sl_partitionEqualOrdered_byte_j37 v35 (sl_partitionEqualOrdered_byte_l3 n2 a3 v20 v33 (sl_partitionEqualOrdered_byte_j34 n2 v20 v33 (sl_partitionEqualOrdered_byte_l1 fuel n2 a3 (sl_partitionEqualOrdered_byte_j19) m1) (sl_partitionEqualOrdered_byte_j19)) m3) (sl_partitionEqualOrdered_byte_j34 n2 v20 v33 (sl_partitionEqualOrdered_byte_l1 fuel n2 a3 (sl_partitionEqualOrdered_byte_j19) m1) (sl_partitionEqualOrdered_byte_j19))) s = some r) (fun s h => ?_) (fun hK37 => ?_)
    ·obtain ⟨v43, rfl⟩ : ∃ x, x = s := ⟨s, rfl⟩
     have h : (sl_partitionEqualOrdered_byte_j37 v35 (sl_partitionEqualOrdered_byte_l3 n2 a3 v20 v33 (sl_partitionEqualOrdered_byte_j34 n2 v20 v33 (sl_partitionEqualOrdered_byte_l1 fuel n2 a3 (sl_partitionEqualOrdered_byte_j19) m1) (sl_partitionEqualOrdered_byte_j19)) m3) (sl_partitionEqualOrdered_byte_j34 n2 v20 v33 (sl_partitionEqualOrdered_byte_l1 fuel n2 a3 (sl_partitionEqualOrdered_byte_j19) m1) (sl_partitionEqualOrdered_byte_j19))) v43 = some r := h
     unfold sl_partitionEqualOrdered_byte_j37 at h
     refine W.cb v43 (fun hb => ?_) (fun hb => ?_)
     ·replace h := cond_t hb h
      refine W.skip ?_
      refine W.wk (env' := z17 [O1 v20]) ?_
      refine W.block ?_
      refine W.rt (e2 := z9 [(10, I6 (W6 (v35 - 1))), O1 v20]) ?_
      exact hN3 (W6 (v35 - 1)) h
     replace h := cond_f hb h
     refine W.exit ?_
     refine W.wk (env' := z17 [O1 v20]) ?_
     exact hK34 v35 h
    refine W.rg ?_
    let z18 := fun t => z17 ((46, I6 v33) :: (47, I6 v35) :: t)
    refine WO.bk 4 (fun b => z18 [(48, .bool b), (49, .bool b), O1 v20]) (decide (v33 ≤ v35)) (fun hb => ?_) (fun hb => ?_)
    ·replace h := cond_t hb h
     obtain ⟨hc38, h⟩ := chk_some h
     let z19 := fun t => z18 ((48, .bool true) :: (49, .bool true) :: (50, S1 n2) :: (51, I6 a3) :: (52, .pe 2000000 1 (0 + Int.toNat a3) 0) :: t)
     refine WO.pi 2 (v := .pe 2000000 1 (0 + Int.toNat a3) 0) hc38 (e1 := z19 [O1 v20]) ?_
     obtain ⟨e39, he39, h⟩ := bind_some h
     let z20 := fun t => z19 ((53, .int .u8 e39) :: t)
     refine WO.pk 0 (match (M8 v20)[(0 + Int.toNat a3)]? with | some y => cut Tryd.prog 5 (y.cells.map AV.strip) 0 | none => none) (v := .int .u8 e39) ((pe_ld (f := (AV.int .u8)) (G := (fun y => cut Tryd.prog 5 (y.cells.map AV.strip) 0)) he39).trans (by kernel_rfl)) (e1 := z20 [O1 v20]) ?_
     obtain ⟨hc40, h⟩ := chk_some h
     let z21 := fun t => z20 ((54, S1 n2) :: (55, I6 v35) :: (56, .pe 2000000 1 (0 + Int.toNat v35) 0) :: t)
     refine WO.pi 2 (v := .pe 2000000 1 (0 + Int.toNat v35) 0) hc40 (e1 := z21 [O1 v20]) ?_
     obtain ⟨e41, he41, h⟩ := bind_some h
     refine WO.pk 0 (match (M8 v20)[(0 + Int.toNat v35)]? with | some y => cut Tryd.prog 5 (y.cells.map AV.strip) 0 | none => none) (v := .int .u8 e41) ((pe_ld (f := (AV.int .u8)) (G := (fun y => cut Tryd.prog 5 (y.cells.map AV.strip) 0)) he41).trans (by kernel_rfl)) (e1 := z21 [(57, .int .u8 e41), O1 v20]) ?_
     obtain ⟨w42, hw42, h⟩ := bind_some h
     refine WO.ck 0 (F := 54) (l := [.int .u8 e39, .int .u8 e41]) (C := []) (r := .bool w42) (run_cm_Less_byte e39 e41 w42 hw42) (e1 := z21 [(57, .int .u8 e41), (58, .bool w42), O1 v20]) ?_
     refine WO.fn (e2 := z17 [(59, .bool w42), O1 v20]) ?_
     exact hK37 w42 h
    replace h := cond_f hb h
    refine WO.fn (e2 := z17 [(59, .bool false), O1 v20]) ?_
    exact hK37 false h
  refine W.block ?_
  refine W.wk (env' := z0 [(9, I6 v21), (10, I6 v22), O1 v20]) ?_
  refine W.fuel (σ := (Int)) (fun s => z0 [(9, I6 s), (10, I6 v22), O1 v20]) (fun m0 s => sl_partitionEqualOrdered_byte_l2 n2 a3 v20 v22 (sl_partitionEqualOrdered_byte_j23 fuel n2 a3 v20 v22 (sl_partitionEqualOrdered_byte_l1 fuel n2 a3 (sl_partitionEqualOrdered_byte_j19) m1) (sl_partitionEqualOrdered_byte_j19)) m0 s = some r) (fun s h => ?_) (fun m2 s h hN2 => ?_) fuel v21 h
  ·obtain ⟨v24, rfl⟩ : ∃ x, x = s := ⟨s, rfl⟩
   have h : sl_partitionEqualOrdered_byte_l2 n2 a3 v20 v22 (sl_partitionEqualOrdered_byte_j23 fuel n2 a3 v20 v22 (sl_partitionEqualOrdered_byte_l1 fuel n2 a3 (sl_partitionEqualOrdered_byte_j19) m1) (sl_partitionEqualOrdered_byte_j19)) 0 v24 = some r := h
   rw [sl_partitionEqualOrdered_byte_l2.eq_1] at h
   cases h
  ·obtain ⟨v24, rfl⟩ : ∃ x, x = s := ⟨s, rfl⟩
   have h : sl_partitionEqualOrdered_byte_l2 n2 a3 v20 v22 (sl_partitionEqualOrdered_byte_j23 fuel n2 a3 v20 v22 (sl_partitionEqualOrdered_byte_l1 fuel n2 a3 (sl_partitionEqualOrdered_byte_j19) m1) (sl_partitionEqualOrdered_byte_j19)) (m2 + 1) v24 = some r := h
   rw [sl_partitionEqualOrdered_byte_l2.eq_2] at h
   refine W.seq ?_
   refine W.seq ?_
   let z22 := fun t => z0 ((9, I6 v24) :: (10, I6 v22) :: t)
   refine W.join (σ := (Bool)) (fun s => z22 [(43, .bool s), O1 v20]) (fun s => (sl_partitionEqualOrdered_byte_j26 v24 (sl_partitionEqualOrdered_byte_l2 n2 a3 v20 v22 (sl_partitionEqualOrdered_byte_j23 fuel n2 a3 v20 v22 (sl_partitionEqualOrdered_byte_l1 fuel n2 a3 (sl_partitionEqualOrdered_byte_j19) m1) (sl_partitionEqualOrdered_byte_j19)) m2) (sl_partitionEqualOrdered_byte_j23 fuel n2 a3 v20 v22 (sl_partitionEqualOrdered_byte_l1 fuel n2 a3 (sl_partitionEqualOrdered_byte_j19) m1) (sl_partitionEqualOrdered_byte_j19))) s = some r) (fun s h => ?_) (fun hK26 => ?_)
   ·obtain ⟨v32, rfl⟩ : ∃ x, x = s := ⟨s, rfl⟩
    have h : (sl_partitionEqualOrdered_byte_j26 v24 (sl_partitionEqualOrdered_byte_l2 n2 a3 v20 v22 (sl_partitionEqualOrdered_byte_j23 fuel n2 a3 v20 v22 (sl_partitionEqualOrdered_byte_l1 fuel n2 a3 (sl_partitionEqualOrdered_byte_j19) m1) (sl_partitionEqualOrdered_byte_j19)) m2) (sl_partitionEqualOrdered_byte_j23 fuel n2 a3 v20 v22 (sl_partitionEqualOrdered_byte_l1 fuel n2 a3 (sl_partitionEqualOrdered_byte_j19) m1) (sl_partitionEqualOrdered_byte_j19))) v32 = some r := h
    unfold sl_partitionEqualOrdered_byte_j26 at h
    refine W.cb v32 (fun hb => ?_) (fun hb => ?_)
    ·replace h := cond_t hb h
     refine W.skip ?_
     refine W.wk (env' := z22 [O1 v20]) ?_
     refine W.block ?_
     refine W.rt (e2 := z0 [(9, I6 (W6 (v24 + 1))), (10, I6 v22), O1 v20]) ?_
     exact hN2 (W6 (v24 + 1)) h
    replace h := cond_f hb h
    refine W.exit ?_
    refine W.wk (env' := z22 [O1 v20]) ?_
    exact hK23 v24 h
   refine W.rg ?_
   let z23 := fun t => z22 ((29, I6 v24) :: (30, I6 v22) :: t)
   refine WO.bk 4 (fun b => z23 [(31, .bool b), (32, .bool b), O1 v20]) (decide (v24 ≤ v22)) (fun hb => ?_) (fun hb => ?_)
   ·replace h := cond_t hb h
    obtain ⟨hc27, h⟩ := chk_some h
    let z24 := fun t => z23 ((31, .bool true) :: (32, .bool true) :: (33, S1 n2) :: (34, I6 a3) :: (35, .pe 2000000 1 (0 + Int.toNat a3) 0) :: t)
    refine WO.pi 2 (v := .pe 2000000 1 (0 + Int.toNat a3) 0) hc27 (e1 := z24 [O1 v20]) ?_
    obtain ⟨e28, he28, h⟩ := bind_some h
    let z25 := fun t => z24 ((36, .int .u8 e28) :: t)
    refine WO.pk 0 (match (M8 v20)[(0 + Int.toNat a3)]? with | some y => cut Tryd.prog 5 (y.cells.map AV.strip) 0 | none => none) (v := .int .u8 e28) ((pe_ld (f := (AV.int .u8)) (G := (fun y => cut Tryd.prog 5 (y.cells.map AV.strip) 0)) he28).trans (by kernel_rfl)) (e1 := z25 [O1 v20]) ?_
    obtain ⟨hc29, h⟩ := chk_some h
    let z26 := fun t => z25 ((37, S1 n2) :: (38, I6 v24) :: (39, .pe 2000000 1 (0 + Int.toNat v24) 0) :: t)
    refine WO.pi 2 (v := .pe 2000000 1 (0 + Int.toNat v24) 0) hc29 (e1 := z26 [O1 v20]) ?_
    obtain ⟨e30, he30, h⟩ := bind_some h
    refine WO.pk 0 (match (M8 v20)[(0 + Int.toNat v24)]? with | some y => cut Tryd.prog 5 (y.cells.map AV.strip) 0 | none => none) (v := .int .u8 e30) ((pe_ld (f := (AV.int .u8)) (G := (fun y => cut Tryd.prog 5 (y.cells.map AV.strip) 0)) he30).trans (by kernel_rfl)) (e1 := z26 [(40, .int .u8 e30), O1 v20]) ?_
    obtain ⟨w31, hw31, h⟩ := bind_some h
    refine WO.ck 0 (F := 54) (l := [.int .u8 e28, .int .u8 e30]) (C := []) (r := .bool w31) (run_cm_Less_byte e28 e30 w31 hw31) (e1 := z26 [(40, .int .u8 e30), (41, .bool w31), O1 v20]) ?_
    refine WO.fn (e2 := z22 [(43, .bool (!w31)), O1 v20]) ?_
    exact hK26 (!w31) h
   replace h := cond_f hb h
   refine WO.fn (e2 := z22 [(43, .bool false), O1 v20]) ?_
   exact hK26 false h
end Go.AM
