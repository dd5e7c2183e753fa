/- s -/
import Derived.Test.YtmfdgonjnckdhaaDoorDBT
set_option maxRecDepth 100000
set_option linter.unusedVariables false
set_option linter.unusedSimpArgs false
namespace Go.AM
open Go.Proofs
def mb_Len64_j13 (v16 : Int) (v17 : Int) : Option Int :=
 ((sidx str_14a5d850 (IntKind.wrap .u8 v16)).bind fun e19 => (some (IntKind.wrap .i64 (v17 + (IntKind.wrap .i64 e19)))))
def mb_Len64_j8 (v11 : Int) (v12 : Int) : Option Int :=
 (bif (decide (v11 ≥ 256)) then ((mb_Len64_j13) (iShr .u64 v11 8) (IntKind.wrap .i64 (v12 + 8))) else ((mb_Len64_j13) v11 v12))
def mb_Len64_j3 (v6 : Int) (v7 : Int) : Option Int :=
 (bif (decide (v6 ≥ 65536)) then ((mb_Len64_j8) (iShr .u64 v6 16) (IntKind.wrap .i64 (v7 + 16))) else ((mb_Len64_j8) v6 v7))
def mb_Len64 (a1 : Int) : Option Int :=
 (bif (decide (a1 ≥ 4294967296)) then ((mb_Len64_j3) (iShr .u64 a1 32) 32) else ((mb_Len64_j3) a1 0))
theorem run_mb_Len64 (a1 : Int) (r : Int) (h : mb_Len64 a1 = some r) : Run Tryd.prog (.call 58 [.int .u64 a1] (I6 r)) := by
 refine cW Tryd.func58 rfl (env0 := [(0, .int .u64 a1)]) ?_
 unfold mb_Len64 at h
 refine W.seq ?_
 let z0 := fun t => EN ((0, .int .u64 a1) :: (2, .int .i64 0) :: t)
 refine W.rt (e2 := z0 []) ?_
 refine W.seq ?_
 refine W.join (σ := (Int × Int)) (fun s => [(0, .int .u64 s.1), (2, I6 s.2)]) (fun s => (mb_Len64_j3) s.1 s.2 = some r) (fun s h => ?_) (fun hK3 => ?_)
 ·obtain ⟨v6, v7⟩ := s
  have h : (mb_Len64_j3) v6 v7 = some r := h
  unfold mb_Len64_j3 at h
  refine W.seq ?_
  refine W.join (σ := (Int × Int)) (fun s => [(0, .int .u64 s.1), (2, I6 s.2)]) (fun s => (mb_Len64_j8) s.1 s.2 = some r) (fun s h => ?_) (fun hK8 => ?_)
  ·obtain ⟨v11, v12⟩ := s
   have h : (mb_Len64_j8) v11 v12 = some r := h
   unfold mb_Len64_j8 at h
   refine W.seq ?_
   refine W.join (σ := (Int × Int)) (fun s => [(0, .int .u64 s.1), (2, I6 s.2)]) (fun s => (mb_Len64_j13) s.1 s.2 = some r) (fun s h => ?_) (fun hK13 => ?_)
   ·obtain ⟨v16, v17⟩ := s
    have h : (mb_Len64_j13) v16 v17 = some r := h
    unfold mb_Len64_j13 at h
    refine W.seq ?_
    refine W.rg ?_
    obtain ⟨e19, he19, h⟩ := bind_some h
    refine WO.pk 3 (if (0 : Int) ≤ (IntKind.wrap .u8 v16) then (str_14a5d850[Int.toNat (IntKind.wrap .u8 v16)]?).map fun b => AV.int .u8 b.toNat else none) (v := .int .u8 e19) (sidx_av he19) (e1 := [(0, .int .u64 v16), (2, I6 v17), (19, I6 v17), (20, .int .u64 v16), (21, .int .u8 (IntKind.wrap .u8 v16)), (22, .int .u8 e19)]) ?_
    refine WO.fn (e2 := [(2, I6 (W6 (v17 + (W6 e19))))]) ?_
    refine W.wk (env' := [(2, I6 (W6 (v17 + (W6 e19))))]) ?_
    have hr : aresults Tryd.prog Tryd.f58 [(2, I6 (W6 (v17 + (W6 e19))))] = some (I6 (W6 (v17 + (W6 e19)))) := by kernel_rfl
    cases h
    exact W.ret hr
   refine W.seq ?_
   refine W.rt (e2 := [(0, .int .u64 v11), (2, I6 v12), (14, .bool (decide (v11 ≥ 256)))]) ?_
   refine W.cb (decide (v11 ≥ 256)) (fun hb => ?_) (fun hb => ?_)
   ·replace h := cond_t hb h
    refine W.seq ?_
    refine W.rt (e2 := [(0, .int .u64 (iShr .u64 v11 8)), (2, I6 v12)]) ?_
    refine W.rt (e2 := [(0, .int .u64 (iShr .u64 v11 8)), (2, I6 (W6 (v12 + 8)))]) ?_
    exact hK13 ((iShr .u64 v11 8), (W6 (v12 + 8))) h
   replace h := cond_f hb h
   refine W.skip ?_
   refine W.wk (env' := [(0, .int .u64 v11), (2, I6 v12)]) ?_
   exact hK13 (v11, v12) h
  refine W.seq ?_
  refine W.rt (e2 := [(0, .int .u64 v6), (2, I6 v7), (8, .bool (decide (v6 ≥ 65536)))]) ?_
  refine W.cb (decide (v6 ≥ 65536)) (fun hb => ?_) (fun hb => ?_)
  ·replace h := cond_t hb h
   refine W.seq ?_
   refine W.rt (e2 := [(0, .int .u64 (iShr .u64 v6 16)), (2, I6 v7)]) ?_
   refine W.rt (e2 := [(0, .int .u64 (iShr .u64 v6 16)), (2, I6 (W6 (v7 + 16)))]) ?_
   exact hK8 ((iShr .u64 v6 16), (W6 (v7 + 16))) h
  replace h := cond_f hb h
  refine W.skip ?_
  refine W.wk (env' := [(0, .int .u64 v6), (2, I6 v7)]) ?_
  exact hK8 (v6, v7) h
 refine W.seq ?_
 refine W.rt (e2 := z0 [(4, .bool (decide (a1 ≥ 4294967296)))]) ?_
 refine W.cb (decide (a1 ≥ 4294967296)) (fun hb => ?_) (fun hb => ?_)
 ·replace h := cond_t hb h
  refine W.seq ?_
  refine W.rt (e2 := [(0, .int .u64 (iShr .u64 a1 32))]) ?_
  refine W.rt (e2 := [(0, .int .u64 (iShr .u64 a1 32)), (2, .int .i64 32)]) ?_
  exact hK3 ((iShr .u64 a1 32), 32) h
 replace h := cond_f hb h
 refine W.skip ?_
 refine W.wk (env' := z0 []) ?_
 exact hK3 (a1, 0) h
def mb_Len (a1 : Int) : Option Int :=
 ((mb_Len64 a1).bind fun w5 => (some w5))
theorem run_mb_Len (a1 : Int) (r : Int) (h : mb_Len a1 = some r) : Run Tryd.prog (.call 34 [.int .u64 a1] (I6 r)) := by
 refine cW Tryd.func34 rfl (env0 := [(0, .int .u64 a1)]) ?_
 unfold mb_Len at h
 refine W.seq ?_
 refine W.rt (e2 := [(0, .int .u64 a1)]) ?_
 refine W.seq ?_
 refine W.cb false (fun h => Bool.noConfusion h) (fun _ => ?_)
 refine W.skip ?_
 refine W.wk (env' := [(0, .int .u64 a1)]) ?_
 refine W.seq ?_
 refine W.rg ?_
 obtain ⟨w5, hw5, h⟩ := bind_some h
 refine WO.ck 1 (F := 58) (l := [.int .u64 a1]) (C := []) (r := I6 w5) (run_mb_Len64 a1 w5 hw5) (e1 := [(0, .int .u64 a1), (6, .int .u64 a1), (7, I6 w5)]) ?_
 refine WO.fn (e2 := [(2, I6 w5)]) ?_
 refine W.wk (env' := [(2, I6 w5)]) ?_
 have hr : aresults Tryd.prog Tryd.f34 [(2, I6 w5)] = some (I6 w5) := by kernel_rfl
 cases h
 exact W.ret hr
def cm_isNaN_byte (a1 : Int) : Option Bool :=
 (some (a1 != a1))
theorem run_cm_isNaN_byte (a1 : Int) (r : Bool) (h : cm_isNaN_byte a1 = some r) : Run Tryd.prog (.call 74 [.int .u8 a1] (.bool r)) := by
 refine cW Tryd.func74 rfl (env0 := [(0, .int .u8 a1)]) ?_
 unfold cm_isNaN_byte at h
 refine W.seq ?_
 refine W.rt (e2 := [(0, .int .u8 a1)]) ?_
 refine W.seq ?_
 refine W.rt (e2 := [(2, .bool (a1 != a1))]) ?_
 refine W.wk (env' := [(2, .bool (a1 != a1))]) ?_
 have hr : aresults Tryd.prog Tryd.f74 [(2, .bool (a1 != a1))] = some (.bool (a1 != a1)) := by kernel_rfl
 cases h
 exact W.ret hr
def cm_Less_byte_j4 (v7 : Bool) : Option Bool :=
 (some v7)
def cm_Less_byte (a1 : Int) (a2 : Int) : Option Bool :=
 ((cm_isNaN_byte a1).bind fun w5 => (bif w5 then ((cm_isNaN_byte a2).bind fun w6 => (bif (!w6) then ((cm_Less_byte_j4) true) else ((cm_Less_byte_j4) (decide (a1 < a2))))) else ((cm_Less_byte_j4) (decide (a1 < a2)))))
theorem run_cm_Less_byte (a1 : Int) (a2 : Int) (r : Bool) (h : cm_Less_byte a1 a2 = some r) : Run Tryd.prog (.call 54 [.int .u8 a1, .int .u8 a2] (.bool r)) := by
 refine cW Tryd.func54 rfl (env0 := [(0, .int .u8 a1), (1, .int .u8 a2)]) ?_
 unfold cm_Less_byte at h
 refine W.seq ?_
 let z0 := fun t => EN ((0, .int .u8 a1) :: (1, .int .u8 a2) :: t)
 refine W.rt (e2 := z0 []) ?_
 refine W.seq ?_
 refine W.join (σ := (Bool)) (fun s => [(4, .bool s)]) (fun s => (cm_Less_byte_j4) s = some r) (fun s h => ?_) (fun hK4 => ?_)
 ·obtain ⟨v7, rfl⟩ : ∃ x, x = s := ⟨s, rfl⟩
  have h : (cm_Less_byte_j4) v7 = some r := h
  unfold cm_Less_byte_j4 at h
  refine W.wk (env' := [(4, .bool v7)]) ?_
  have hr : aresults Tryd.prog Tryd.f54 [(4, .bool v7)] = some (.bool v7) := by kernel_rfl
  cases h
  exact W.ret hr
 refine W.rg ?_
 obtain ⟨w5, hw5, h⟩ := bind_some h
 let z1 := fun t => z0 ((5, .int .u8 a1) :: t)
 refine WO.ck 1 (F := 74) (l := [.int .u8 a1]) (C := []) (r := .bool w5) (run_cm_isNaN_byte a1 w5 hw5) (e1 := z1 [(6, .bool w5)]) ?_
 refine WO.bk 1 (fun b => z1 [(6, .bool b), (7, .bool b)]) w5 (fun hb => ?_) (fun hb => ?_)
 ·replace h := cond_t hb h
  obtain ⟨w6, hw6, h⟩ := bind_some h
  let z2 := fun t => z1 ((6, .bool true) :: (7, .bool true) :: (8, .int .u8 a2) :: (9, .bool w6) :: t)
  refine WO.ck 1 (F := 74) (l := [.int .u8 a2]) (C := []) (r := .bool w6) (run_cm_isNaN_byte a2 w6 hw6) (e1 := z2 []) ?_
  refine WO.bk 3 (fun b => z2 [(10, .bool b), (11, .bool b), (12, .bool b)]) (!w6) (fun hb => ?_) (fun hb => ?_)
  ·replace h := cond_t hb h
   refine WO.fn (e2 := [(4, .bool true)]) ?_
   exact hK4 true h
  replace h := cond_f hb h
  refine WO.fn (e2 := [(4, .bool (decide (a1 < a2)))]) ?_
  exact hK4 (decide (a1 < a2)) h
 replace h := cond_f hb h
 refine WO.fn (e2 := [(4, .bool (decide (a1 < a2)))]) ?_
 exact hK4 (decide (a1 < a2)) h
def sl_insertionSortOrdered_byte_j10 (v7 : Int) (N1 : ((List Int) → Int → Option (List Int))) (v33 : (List Int)) : Option (List Int) :=
 (N1 v33 (IntKind.wrap .i64 (v7 + 1)))
def sl_insertionSortOrdered_byte_j15 (n2 : Nat) (v12 : (List Int)) (v13 : Int) (N2 : ((List Int) → Int → Option (List Int))) (K10 : ((List Int) → Option (List Int))) (v21 : Bool) : Option (List Int) :=
 (bif v21 then (chk (decide ((0 : Int) ≤ (IntKind.wrap .i64 (v13 - 1)) ∧ (IntKind.wrap .i64 (v13 - 1)) < ((n2 : Nat) : Int))) ((v12[(0 + Int.toNat (IntKind.wrap .i64 (v13 - 1)))]?).bind fun e24 => (chk (decide ((0 : Int) ≤ v13 ∧ v13 < ((n2 : Nat) : Int))) ((v12[(0 + Int.toNat v13)]?).bind fun e26 => (chk (decide ((0 : Int) ≤ v13 ∧ v13 < ((n2 : Nat) : Int))) ((upd v12 (0 + Int.toNat v13) e24).bind fun u28 => (chk (decide ((0 : Int) ≤ (IntKind.wrap .i64 (v13 - 1)) ∧ (IntKind.wrap .i64 (v13 - 1)) < ((n2 : Nat) : Int))) ((upd u28 (0 + Int.toNat (IntKind.wrap .i64 (v13 - 1))) e26).bind fun u31 => (N2 u31 (IntKind.wrap .i64 (v13 - 1))))))))))) else (K10 v12))
def sl_insertionSortOrdered_byte_l2 (n2 : Nat) (a3 : Int) (K10 : ((List Int) → Option (List Int))) : Nat → (List Int) → Int → Option (List Int)
 | 0, _, _ => none
 | m2 + 1, v12, v13 => (bif (decide (v13 > a3)) then (chk (decide ((0 : Int) ≤ v13 ∧ v13 < ((n2 : Nat) : Int))) ((v12[(0 + Int.toNat v13)]?).bind fun e17 => (chk (decide ((0 : Int) ≤ (IntKind.wrap .i64 (v13 - 1)) ∧ (IntKind.wrap .i64 (v13 - 1)) < ((n2 : Nat) : Int))) ((v12[(0 + Int.toNat (IntKind.wrap .i64 (v13 - 1)))]?).bind fun e19 => ((cm_Less_byte e17 e19).bind fun w20 => ((sl_insertionSortOrdered_byte_j15 n2 v12 v13 (sl_insertionSortOrdered_byte_l2 n2 a3 K10 m2) K10) w20)))))) else ((sl_insertionSortOrdered_byte_j15 n2 v12 v13 (sl_insertionSortOrdered_byte_l2 n2 a3 K10 m2) K10) false))
def sl_insertionSortOrdered_byte_l1 (fuel : Nat) (n2 : Nat) (a3 : Int) (a4 : Int) : Nat → (List Int) → Int → Option (List Int)
 | 0, _, _ => none
 | m1 + 1, v6, v7 => (bif (decide (v7 < a4)) then (sl_insertionSortOrdered_byte_l2 n2 a3 (sl_insertionSortOrdered_byte_j10 v7 (sl_insertionSortOrdered_byte_l1 fuel n2 a3 a4 m1)) fuel v6 v7) else (some v6))
def sl_insertionSortOrdered_byte (fuel : Nat) (a1 : (List Int)) (n2 : Nat) (a3 : Int) (a4 : Int) : Option (List Int) :=
 (sl_insertionSortOrdered_byte_l1 fuel n2 a3 a4 fuel a1 (IntKind.wrap .i64 (a3 + 1)))
theorem run_sl_insertionSortOrdered_byte (fuel : Nat) (a1 : (List Int)) (n2 : Nat) (a3 : Int) (a4 : Int) (r : (List Int)) (h : sl_insertionSortOrdered_byte fuel a1 n2 a3 a4 = some r) : Run Tryd.prog (.callM 48 [S1 n2, I6 a3, I6 a4] [O1 a1] (.tup []) [O1 r]) := by
 refine cM Tryd.func48 rfl (env0 := [(0, S1 n2), (1, I6 a3), (2, I6 a4), O1 a1]) ?_
 unfold sl_insertionSortOrdered_byte at h
 refine W.seq ?_
 let z0 := fun t => EN ((0, S1 n2) :: (1, I6 a3) :: (2, I6 a4) :: t)
 refine W.rt (e2 := z0 [(6, I6 (W6 (a3 + 1))), O1 a1]) ?_
 refine W.block ?_
 refine W.wk (env' := z0 [(6, I6 (W6 (a3 + 1))), O1 a1]) ?_
 refine W.fuel (σ := ((List Int) × Int)) (fun s => z0 [(6, I6 s.2), (2000000, .obj 1000000005 1 (M8 s.1))]) (fun m0 s => sl_insertionSortOrdered_byte_l1 fuel n2 a3 a4 m0 s.1 s.2 = some r) (fun s h => ?_) (fun m1 s h hN1 => ?_) fuel (a1, (W6 (a3 + 1))) h
 ·obtain ⟨v6, v7⟩ := s
  have h : sl_insertionSortOrdered_byte_l1 fuel n2 a3 a4 0 v6 v7 = some r := h
  rw [sl_insertionSortOrdered_byte_l1.eq_1] at h
  cases h
 ·obtain ⟨v6, v7⟩ := s
  have h : sl_insertionSortOrdered_byte_l1 fuel n2 a3 a4 (m1 + 1) v6 v7 = some r := h
  rw [sl_insertionSortOrdered_byte_l1.eq_2] at h
  refine W.seq ?_
  refine W.seq ?_
  let z1 := fun t => z0 ((6, I6 v7) :: t)
  let z2 := fun t => z1 ((12, .bool (decide (v7 < a4))) :: O1 v6 :: t)
  refine W.rt (e2 := z2 []) ?_
  refine W.cb (decide (v7 < a4)) (fun hb => ?_) (fun hb => ?_)
  ·replace h := cond_t hb h
   refine W.skip ?_
   refine W.wk (env' := z1 [O1 v6]) ?_
   refine W.seq ?_
   refine W.join (σ := ((List Int))) (fun s => z1 [O1 s]) (fun s => (sl_insertionSortOrdered_byte_j10 v7 (sl_insertionSortOrdered_byte_l1 fuel n2 a3 a4 m1)) s = some r) (fun s h => ?_) (fun hK10 => ?_)
   ·obtain ⟨v33, rfl⟩ : ∃ x, x = s := ⟨s, rfl⟩
    have h : (sl_insertionSortOrdered_byte_j10 v7 (sl_insertionSortOrdered_byte_l1 fuel n2 a3 a4 m1)) v33 = some r := h
    unfold sl_insertionSortOrdered_byte_j10 at h
    refine W.rt (e2 := z0 [(6, I6 (W6 (v7 + 1))), O1 v33]) ?_
    exact hN1 (v33, (W6 (v7 + 1))) h
   refine W.block ?_
   refine W.seq ?_
   refine W.rt (e2 := z1 [(7, I6 v7), O1 v6]) ?_
   refine W.block ?_
   refine W.wk (env' := z1 [(7, I6 v7), O1 v6]) ?_
   refine W.fuel (σ := ((List Int) × Int)) (fun s => z1 [(7, I6 s.2), (2000000, .obj 1000000005 1 (M8 s.1))]) (fun m0 s => sl_insertionSortOrdered_byte_l2 n2 a3 (sl_insertionSortOrdered_byte_j10 v7 (sl_insertionSortOrdered_byte_l1 fuel n2 a3 a4 m1)) m0 s.1 s.2 = some r) (fun s h => ?_) (fun m2 s h hN2 => ?_) fuel (v6, v7) h
   ·obtain ⟨v12, v13⟩ := s
    have h : sl_insertionSortOrdered_byte_l2 n2 a3 (sl_insertionSortOrdered_byte_j10 v7 (sl_insertionSortOrdered_byte_l1 fuel n2 a3 a4 m1)) 0 v12 v13 = some r := h
    rw [sl_insertionSortOrdered_byte_l2.eq_1] at h
    cases h
   ·obtain ⟨v12, v13⟩ := s
    have h : sl_insertionSortOrdered_byte_l2 n2 a3 (sl_insertionSortOrdered_byte_j10 v7 (sl_insertionSortOrdered_byte_l1 fuel n2 a3 a4 m1)) (m2 + 1) v12 v13 = some r := h
    rw [sl_insertionSortOrdered_byte_l2.eq_2] at h
    refine W.seq ?_
    refine W.seq ?_
    let z3 := fun t => z1 ((7, I6 v13) :: t)
    refine W.join (σ := (Bool)) (fun s => z3 [(30, .bool s), O1 v12]) (fun s => (sl_insertionSortOrdered_byte_j15 n2 v12 v13 (sl_insertionSortOrdered_byte_l2 n2 a3 (sl_insertionSortOrdered_byte_j10 v7 (sl_insertionSortOrdered_byte_l1 fuel n2 a3 a4 m1)) m2) (sl_insertionSortOrdered_byte_j10 v7 (sl_insertionSortOrdered_byte_l1 fuel n2 a3 a4 m1))) s = some r) (fun s h => ?_) (fun hK15 => ?_)
    ·obtain ⟨v21, rfl⟩ : ∃ x, x = s := ⟨s, rfl⟩
     have h : (sl_insertionSortOrdered_byte_j15 n2 v12 v13 (sl_insertionSortOrdered_byte_l2 n2 a3 (sl_insertionSortOrdered_byte_j10 v7 (sl_insertionSortOrdered_byte_l1 fuel n2 a3 a4 m1)) m2) (sl_insertionSortOrdered_byte_j10 v7 (sl_insertionSortOrdered_byte_l1 fuel n2 a3 a4 m1))) v21 = some r := h
     unfold sl_insertionSortOrdered_byte_j15 at h
     refine W.cb v21 (fun hb => ?_) (fun hb => ?_)
     ·replace h := cond_t hb h
      refine W.skip ?_
      refine W.wk (env' := z3 [O1 v12]) ?_
      refine W.seq ?_
      refine W.block ?_
      refine W.rg ?_
      obtain ⟨hc23, h⟩ := chk_some h
      let z4 := fun t => z3 ((33, S1 n2) :: (34, I6 v13) :: (35, S1 n2) :: (36, I6 v13) :: (37, I6 (W6 (v13 - 1))) :: (38, S1 n2) :: (39, I6 v13) :: (40, I6 (W6 (v13 - 1))) :: (41, .pe 2000000 1 (0 + Int.toNat (W6 (v13 - 1))) 0) :: t)
      refine WO.pi 8 (v := .pe 2000000 1 (0 + Int.toNat (W6 (v13 - 1))) 0) hc23 (e1 := z4 [O1 v12]) ?_
      obtain ⟨e24, he24, h⟩ := bind_some h
      let z5 := fun t => z4 ((42, .int .u8 e24) :: t)
      refine WO.pk 0 (match (M8 v12)[(0 + Int.toNat (W6 (v13 - 1)))]? with | some y => cut Tryd.prog 5 (y.cells.map AV.strip) 0 | none => none) (v := .int .u8 e24) ((pe_ld (f := (AV.int .u8)) (G := (fun y => cut Tryd.prog 5 (y.cells.map AV.strip) 0)) he24).trans (by kernel_rfl)) (e1 := z5 [O1 v12]) ?_
      obtain ⟨hc25, h⟩ := chk_some h
      let z6 := fun t => z5 ((43, S1 n2) :: (44, I6 v13) :: (45, .pe 2000000 1 (0 + Int.toNat v13) 0) :: t)
      refine WO.pi 2 (v := .pe 2000000 1 (0 + Int.toNat v13) 0) hc25 (e1 := z6 [O1 v12]) ?_
      obtain ⟨e26, he26, h⟩ := bind_some h
      let z7 := fun t => z6 ((46, .int .u8 e26) :: t)
      refine WO.pk 0 (match (M8 v12)[(0 + Int.toNat v13)]? with | some y => cut Tryd.prog 5 (y.cells.map AV.strip) 0 | none => none) (v := .int .u8 e26) ((pe_ld (f := (AV.int .u8)) (G := (fun y => cut Tryd.prog 5 (y.cells.map AV.strip) 0)) he26).trans (by kernel_rfl)) (e1 := z7 [O1 v12]) ?_
      obtain ⟨hc27, h⟩ := chk_some h
      let z8 := fun t => z7 ((47, .pe 2000000 1 (0 + Int.toNat v13) 0) :: t)
      refine WO.pi 0 (v := .pe 2000000 1 (0 + Int.toNat v13) 0) hc27 (e1 := z8 [O1 v12]) ?_
      obtain ⟨u28, hu28, h⟩ := bind_some h
      obtain ⟨y29, hyy29, hzy29⟩ := upd_some hu28
      refine WO.sk 0 (id := 2000000) (e := 1000000005) (s := 1) (off := 0) (vs := [.int .u8 e24]) (AV.int .u8) hyy29 hzy29 (e1 := z8 [O1 u28]) ?_
      obtain ⟨hc30, h⟩ := chk_some h
      let z9 := fun t => z8 ((48, .pe 2000000 1 (0 + Int.toNat (W6 (v13 - 1))) 0) :: t)
      refine WO.pi 0 (v := .pe 2000000 1 (0 + Int.toNat (W6 (v13 - 1))) 0) hc30 (e1 := z9 [O1 u28]) ?_
      obtain ⟨u31, hu31, h⟩ := bind_some h
      obtain ⟨y32, hyy32, hzy32⟩ := upd_some hu31
      refine WO.sk 0 (id := 2000000) (e := 1000000005) (s := 1) (off := 0) (vs := [.int .u8 e26]) (AV.int .u8) hyy32 hzy32 (e1 := z9 [O1 u31]) ?_
      refine WO.fn (e2 := z3 [O1 u31]) ?_
      refine W.rt (e2 := z1 [(7, I6 (W6 (v13 - 1))), O1 u31]) ?_
      exact hN2 (u31, (W6 (v13 - 1))) h
     replace h := cond_f hb h
     refine W.exit ?_
     refine W.wk (env' := z1 [O1 v12]) ?_
     exact hK10 v12 h
    refine W.rg ?_
    let z10 := fun t => z3 ((16, I6 v13) :: (17, I6 a3) :: t)
    refine WO.bk 4 (fun b => z10 [(18, .bool b), (19, .bool b), O1 v12]) (decide (v13 > a3)) (fun hb => ?_) (fun hb => ?_)
    ·replace h := cond_t hb h
     obtain ⟨hc16, h⟩ := chk_some h
     let z11 := fun t => z10 ((18, .bool true) :: (19, .bool true) :: (20, S1 n2) :: (21, I6 v13) :: (22, .pe 2000000 1 (0 + Int.toNat v13) 0) :: t)
     refine WO.pi 2 (v := .pe 2000000 1 (0 + Int.toNat v13) 0) hc16 (e1 := z11 [O1 v12]) ?_
     obtain ⟨e17, he17, h⟩ := bind_some h
     let z12 := fun t => z11 ((23, .int .u8 e17) :: t)
     refine WO.pk 0 (match (M8 v12)[(0 + Int.toNat v13)]? with | some y => cut Tryd.prog 5 (y.cells.map AV.strip) 0 | none => none) (v := .int .u8 e17) ((pe_ld (f := (AV.int .u8)) (G := (fun y => cut Tryd.prog 5 (y.cells.map AV.strip) 0)) he17).trans (by kernel_rfl)) (e1 := z12 [O1 v12]) ?_
     obtain ⟨hc18, h⟩ := chk_some h
     let z13 := fun t => z12 ((24, S1 n2) :: (25, I6 v13) :: (26, I6 (W6 (v13 - 1))) :: (27, .pe 2000000 1 (0 + Int.toNat (W6 (v13 - 1))) 0) :: t)
     refine WO.pi 3 (v := .pe 2000000 1 (0 + Int.toNat (W6 (v13 - 1))) 0) hc18 (e1 := z13 [O1 v12]) ?_
     obtain ⟨e19, he19, h⟩ := bind_some h
     refine WO.pk 0 (match (M8 v12)[(0 + Int.toNat (W6 (v13 - 1)))]? with | some y => cut Tryd.prog 5 (y.cells.map AV.strip) 0 | none => none) (v := .int .u8 e19) ((pe_ld (f := (AV.int .u8)) (G := (fun y => cut Tryd.prog 5 (y.cells.map AV.strip) 0)) he19).trans (by kernel_rfl)) (e1 := z13 [(28, .int .u8 e19), O1 v12]) ?_
     obtain ⟨w20, hw20, h⟩ := bind_some h
     refine WO.ck 0 (F := 54) (l := [.int .u8 e17, .int .u8 e19]) (C := []) (r := .bool w20) (run_cm_Less_byte e17 e19 w20 hw20) (e1 := z13 [(28, .int .u8 e19), (29, .bool w20), O1 v12]) ?_
     refine WO.fn (e2 := z3 [(30, .bool w20), O1 v12]) ?_
     exact hK15 w20 h
    replace h := cond_f hb h
    refine WO.fn (e2 := z3 [(30, .bool false), O1 v12]) ?_
    exact hK15 false h
  replace h := cond_f hb h
  have hr : PostM Tryd.prog Tryd.f48 (.tup []) [O1 v6] .normal (z2 []) := ⟨by kernel_rfl, by kernel_rfl⟩
  cases h
  exact W.exit hr
def sl_siftDownOrdered_byte_j12 (n2 : Nat) (a5 : Int) (v7 : (List Int)) (v8 : Int) (N1 : ((List Int) → Int → Option (List Int))) (v20 : Int) : Option (List Int) :=
 (chk (decide ((0 : Int) ≤ (IntKind.wrap .i64 (a5 + v8)) ∧ (IntKind.wrap .i64 (a5 + v8)) < ((n2 : Nat) : Int))) ((v7[(0 + Int.toNat (IntKind.wrap .i64 (a5 + v8)))]?).bind fun e24 => (chk (decide ((0 : Int) ≤ (IntKind.wrap .i64 (a5 + v20)) ∧ (IntKind.wrap .i64 (a5 + v20)) < ((n2 : Nat) : Int))) ((v7[(0 + Int.toNat (IntKind.wrap .i64 (a5 + v20)))]?).bind fun e26 => ((cm_Less_byte e24 e26).bind fun w27 => (bif (!w27) then (some v7) else (chk (decide ((0 : Int) ≤ (IntKind.wrap .i64 (a5 + v20)) ∧ (IntKind.wrap .i64 (a5 + v20)) < ((n2 : Nat) : Int))) ((v7[(0 + Int.toNat (IntKind.wrap .i64 (a5 + v20)))]?).bind fun e30 => (chk (decide ((0 : Int) ≤ (IntKind.wrap .i64 (a5 + v8)) ∧ (IntKind.wrap .i64 (a5 + v8)) < ((n2 : Nat) : Int))) ((v7[(0 + Int.toNat (IntKind.wrap .i64 (a5 + v8)))]?).bind fun e32 => (chk (decide ((0 : Int) ≤ (IntKind.wrap .i64 (a5 + v8)) ∧ (IntKind.wrap .i64 (a5 + v8)) < ((n2 : Nat) : Int))) ((upd v7 (0 + Int.toNat (IntKind.wrap .i64 (a5 + v8))) e30).bind fun u34 => (chk (decide ((0 : Int) ≤ (IntKind.wrap .i64 (a5 + v20)) ∧ (IntKind.wrap .i64 (a5 + v20)) < ((n2 : Nat) : Int))) ((upd u34 (0 + Int.toNat (IntKind.wrap .i64 (a5 + v20))) e32).bind fun u37 => (N1 u37 v20)))))))))))))))
def sl_siftDownOrdered_byte_j13 (v8 : Int) (K12 : (Int → Option (List Int))) (v19 : Bool) : Option (List Int) :=
 (bif v19 then (K12 (IntKind.wrap .i64 ((IntKind.wrap .i64 ((IntKind.wrap .i64 (2 * v8)) + 1)) + 1))) else (K12 (IntKind.wrap .i64 ((IntKind.wrap .i64 (2 * v8)) + 1))))
def sl_siftDownOrdered_byte_l1 (n2 : Nat) (a4 : Int) (a5 : Int) : Nat → (List Int) → Int → Option (List Int)
 | 0, _, _ => none
 | m1 + 1, v7, v8 => (bif (decide ((IntKind.wrap .i64 ((IntKind.wrap .i64 (2 * v8)) + 1)) ≥ a4)) then (some v7) else (bif (decide ((IntKind.wrap .i64 ((IntKind.wrap .i64 ((IntKind.wrap .i64 (2 * v8)) + 1)) + 1)) < a4)) then (chk (decide ((0 : Int) ≤ (IntKind.wrap .i64 (a5 + (IntKind.wrap .i64 ((IntKind.wrap .i64 (2 * v8)) + 1)))) ∧ (IntKind.wrap .i64 (a5 + (IntKind.wrap .i64 ((IntKind.wrap .i64 (2 * v8)) + 1)))) < ((n2 : Nat) : Int))) ((v7[(0 + Int.toNat (IntKind.wrap .i64 (a5 + (IntKind.wrap .i64 ((IntKind.wrap .i64 (2 * v8)) + 1)))))]?).bind fun e15 => (chk (decide ((0 : Int) ≤ (IntKind.wrap .i64 ((IntKind.wrap .i64 (a5 + (IntKind.wrap .i64 ((IntKind.wrap .i64 (2 * v8)) + 1)))) + 1)) ∧ (IntKind.wrap .i64 ((IntKind.wrap .i64 (a5 + (IntKind.wrap .i64 ((IntKind.wrap .i64 (2 * v8)) + 1)))) + 1)) < ((n2 : Nat) : Int))) ((v7[(0 + Int.toNat (IntKind.wrap .i64 ((IntKind.wrap .i64 (a5 + (IntKind.wrap .i64 ((IntKind.wrap .i64 (2 * v8)) + 1)))) + 1)))]?).bind fun e17 => ((cm_Less_byte e15 e17).bind fun w18 => ((sl_siftDownOrdered_byte_j13 v8 (sl_siftDownOrdered_byte_j12 n2 a5 v7 v8 (sl_siftDownOrdered_byte_l1 n2 a4 a5 m1))) w18)))))) else ((sl_siftDownOrdered_byte_j13 v8 (sl_siftDownOrdered_byte_j12 n2 a5 v7 v8 (sl_siftDownOrdered_byte_l1 n2 a4 a5 m1))) false)))
def sl_siftDownOrdered_byte (fuel : Nat) (a1 : (List Int)) (n2 : Nat) (a3 : Int) (a4 : Int) (a5 : Int) : Option (List Int) :=
 (sl_siftDownOrdered_byte_l1 n2 a4 a5 fuel a1 a3)
theorem run_sl_siftDownOrdered_byte (fuel : Nat) (a1 : (List Int)) (n2 : Nat) (a3 : Int) (a4 : Int) (a5 : Int) (r : (List Int)) (h : sl_siftDownOrdered_byte fuel a1 n2 a3 a4 a5 = some r) : Run Tryd.prog (.callM 69 [S1 n2, I6 a3, I6 a4, I6 a5] [O1 a1] (.tup []) [O1 r]) := by
 refine cM Tryd.func69 rfl (env0 := [(0, S1 n2), (1, I6 a3), (2, I6 a4), (3, I6 a5), O1 a1]) ?_
 unfold sl_siftDownOrdered_byte at h
 refine W.seq ?_
 let z0 := fun t => EN ((0, S1 n2) :: (2, I6 a4) :: (3, I6 a5) :: t)
 refine W.rt (e2 := z0 [(8, I6 a3), O1 a1]) ?_
 refine W.block ?_
 refine W.wk (env' := z0 [(8, I6 a3), O1 a1]) ?_
 refine W.fuel (σ := ((List Int) × Int)) (fun s => z0 [(8, I6 s.2), (2000000, .obj 1000000005 1 (M8 s.1))]) (fun m0 s => sl_siftDownOrdered_byte_l1 n2 a4 a5 m0 s.1 s.2 = some r) (fun s h => ?_) (fun m1 s h hN1 => ?_) fuel (a1, a3) h
 ·obtain ⟨v7, v8⟩ := s
  have h : sl_siftDownOrdered_byte_l1 n2 a4 a5 0 v7 v8 = some r := h
  rw [sl_siftDownOrdered_byte_l1.eq_1] at h
  cases h
 ·obtain ⟨v7, v8⟩ := s
  have h : sl_siftDownOrdered_byte_l1 n2 a4 a5 (m1 + 1) v7 v8 = some r := h
  rw [sl_siftDownOrdered_byte_l1.eq_2] at h
  refine W.block ?_
  refine W.seq ?_
  let z1 := fun t => z0 ((8, I6 v8) :: (9, I6 (W6 ((W6 (2 * v8)) + 1))) :: t)
  refine W.rt (e2 := z1 [O1 v7]) ?_
  refine W.seq ?_
  refine W.seq ?_
  let z2 := fun t => z1 ((16, .bool (decide ((W6 ((W6 (2 * v8)) + 1)) ≥ a4))) :: O1 v7 :: t)
  refine W.rt (e2 := z2 []) ?_
  refine W.cb (decide ((W6 ((W6 (2 * v8)) + 1)) ≥ a4)) (fun hb => ?_) (fun hb => ?_)
  ·replace h := cond_t hb h
   have hr : PostM Tryd.prog Tryd.f69 (.tup []) [O1 v7] .normal (z2 []) := ⟨by kernel_rfl, by kernel_rfl⟩
   cases h
   exact W.exit hr
  replace h := cond_f hb h
  refine W.skip ?_
  refine W.wk (env' := z1 [O1 v7]) ?_
  refine W.seq ?_
  let z3 := fun t => z0 ((8, I6 v8) :: t)
  refine W.join (σ := (Int)) (fun s => z3 [(9, I6 s), O1 v7]) (fun s => (sl_siftDownOrdered_byte_j12 n2 a5 v7 v8 (sl_siftDownOrdered_byte_l1 n2 a4 a5 m1)) s = some r) (fun s h => ?_) (fun hK12 => ?_)
  ·obtain ⟨v20, rfl⟩ : ∃ x, x = s := ⟨s, rfl⟩
   have h : (sl_siftDownOrdered_byte_j12 n2 a5 v7 v8 (sl_siftDownOrdered_byte_l1 n2 a4 a5 m1)) v20 = some r := h
   unfold sl_siftDownOrdered_byte_j12 at h
   refine W.seq ?_
   refine W.seq ?_
   refine W.rg ?_
   obtain ⟨hc23, h⟩ := chk_some h
   let z4 := fun t => z3 ((9, I6 v20) :: (39, S1 n2) :: (40, I6 a5) :: (41, I6 v8) :: (42, I6 (W6 (a5 + v8))) :: (43, .pe 2000000 1 (0 + Int.toNat (W6 (a5 + v8))) 0) :: t)
   refine WO.pi 4 (v := .pe 2000000 1 (0 + Int.toNat (W6 (a5 + v8))) 0) hc23 (e1 := z4 [O1 v7]) ?_
   obtain ⟨e24, he24, h⟩ := bind_some h
   let z5 := fun t => z4 ((44, .int .u8 e24) :: t)
   refine WO.pk 0 (match (M8 v7)[(0 + Int.toNat (W6 (a5 + v8)))]? with | some y => cut Tryd.prog 5 (y.cells.map AV.strip) 0 | none => none) (v := .int .u8 e24) ((pe_ld (f := (AV.int .u8)) (G := (fun y => cut Tryd.prog 5 (y.cells.map AV.strip) 0)) he24).trans (by kernel_rfl)) (e1 := z5 [O1 v7]) ?_
   obtain ⟨hc25, h⟩ := chk_some h
   let z6 := fun t => z5 ((45, S1 n2) :: (46, I6 a5) :: (47, I6 v20) :: (48, I6 (W6 (a5 + v20))) :: (49, .pe 2000000 1 (0 + Int.toNat (W6 (a5 + v20))) 0) :: t)
   refine WO.pi 4 (v := .pe 2000000 1 (0 + Int.toNat (W6 (a5 + v20))) 0) hc25 (e1 := z6 [O1 v7]) ?_
   obtain ⟨e26, he26, h⟩ := bind_some h
   refine WO.pk 0 (match (M8 v7)[(0 + Int.toNat (W6 (a5 + v20)))]? with | some y => cut Tryd.prog 5 (y.cells.map AV.strip) 0 | none => none) (v := .int .u8 e26) ((pe_ld (f := (AV.int .u8)) (G := (fun y => cut Tryd.prog 5 (y.cells.map AV.strip) 0)) he26).trans (by kernel_rfl)) (e1 := z6 [(50, .int .u8 e26), O1 v7]) ?_
   obtain ⟨w27, hw27, h⟩ := bind_some h
   refine WO.ck 0 (F := 54) (l := [.int .u8 e24, .int .u8 e26]) (C := []) (r := .bool w27) (run_cm_Less_byte e24 e26 w27 hw27) (e1 := z6 [(50, .int .u8 e26), (51, .bool w27), O1 v7]) ?_
   let z7 := fun t => z3 ((9, I6 v20) :: t)
   refine WO.fn (e2 := z7 [(52, .bool (!w27)), O1 v7]) ?_
   refine W.cb (!w27) (fun hb => ?_) (fun hb => ?_)
   ·replace h := cond_t hb h
    refine W.wk (env' := [O1 v7]) ?_
    have hr : PostM Tryd.prog Tryd.f69 (.tup []) [O1 v7] .ret [O1 v7] := ⟨by kernel_rfl, by kernel_rfl⟩
    cases h
    exact W.ret hr
   replace h := cond_f hb h
   refine W.skip ?_
   refine W.wk (env' := z7 [O1 v7]) ?_
   refine W.seq ?_
   refine W.rg ?_
   obtain ⟨hc29, h⟩ := chk_some h
   let z8 := fun t => z7 ((53, S1 n2) :: (54, I6 a5) :: (55, I6 v8) :: (56, I6 (W6 (a5 + v8))) :: (57, S1 n2) :: (58, I6 a5) :: (59, I6 v20) :: (60, I6 (W6 (a5 + v20))) :: (61, S1 n2) :: (62, I6 a5) :: (63, I6 v20) :: (64, I6 (W6 (a5 + v20))) :: (65, .pe 2000000 1 (0 + Int.toNat (W6 (a5 + v20))) 0) :: t)
   refine WO.pi 12 (v := .pe 2000000 1 (0 + Int.toNat (W6 (a5 + v20))) 0) hc29 (e1 := z8 [O1 v7]) ?_
   obtain ⟨e30, he30, h⟩ := bind_some h
   let z9 := fun t => z8 ((66, .int .u8 e30) :: t)
   refine WO.pk 0 (match (M8 v7)[(0 + Int.toNat (W6 (a5 + v20)))]? with | some y => cut Tryd.prog 5 (y.cells.map AV.strip) 0 | none => none) (v := .int .u8 e30) ((pe_ld (f := (AV.int .u8)) (G := (fun y => cut Tryd.prog 5 (y.cells.map AV.strip) 0)) he30).trans (by kernel_rfl)) (e1 := z9 [O1 v7]) ?_
   obtain ⟨hc31, h⟩ := chk_some h
   let z10 := fun t => z9 ((67, S1 n2) :: (68, I6 a5) :: (69, I6 v8) :: (70, I6 (W6 (a5 + v8))) :: (71, .pe 2000000 1 (0 + Int.toNat (W6 (a5 + v8))) 0) :: t)
   refine WO.pi 4 (v := .pe 2000000 1 (0 + Int.toNat (W6 (a5 + v8))) 0) hc31 (e1 := z10 [O1 v7]) ?_
   obtain ⟨e32, he32, h⟩ := bind_some h
   let z11 := fun t => z10 ((72, .int .u8 e32) :: t)
   refine WO.pk 0 (match (M8 v7)[(0 + Int.toNat (W6 (a5 + v8)))]? with | some y => cut Tryd.prog 5 (y.cells.map AV.strip) 0 | none => none) (v := .int .u8 e32) ((pe_ld (f := (AV.int .u8)) (G := (fun y => cut Tryd.prog 5 (y.cells.map AV.strip) 0)) he32).trans (by kernel_rfl)) (e1 := z11 [O1 v7]) ?_
   obtain ⟨hc33, h⟩ := chk_some h
   let z12 := fun t => z11 ((73, .pe 2000000 1 (0 + Int.toNat (W6 (a5 + v8))) 0) :: t)
   refine WO.pi 0 (v := .pe 2000000 1 (0 + Int.toNat (W6 (a5 + v8))) 0) hc33 (e1 := z12 [O1 v7]) ?_
   obtain ⟨u34, hu34, h⟩ := bind_some h
   obtain ⟨y35, hyy35, hzy35⟩ := upd_some hu34
   refine WO.sk 0 (id := 2000000) (e := 1000000005) (s := 1) (off := 0) (vs := [.int .u8 e30]) (AV.int .u8) hyy35 hzy35 (e1 := z12 [O1 u34]) ?_
   obtain ⟨hc36, h⟩ := chk_some h
   let z13 := fun t => z12 ((74, .pe 2000000 1 (0 + Int.toNat (W6 (a5 + v20))) 0) :: t)
   refine WO.pi 0 (v := .pe 2000000 1 (0 + Int.toNat (W6 (a5 + v20))) 0) hc36 (e1 := z13 [O1 u34]) ?_
   obtain ⟨u37, hu37, h⟩ := bind_some h
   obtain ⟨y38, hyy38, hzy38⟩ := upd_some hu37
   refine WO.sk 0 (id := 2000000) (e := 1000000005) (s := 1) (off := 0) (vs := [.int .u8 e32]) (AV.int .u8) hyy38 hzy38 (e1 := z13 [O1 u37]) ?_
   refine WO.fn (e2 := z0 [(9, I6 v20), O1 u37]) ?_
   refine W.rt (e2 := z0 [(8, I6 v20), O1 u37]) ?_
   exact hN1 (u37, v20) h
  refine W.seq ?_
  refine W.join (σ := (Bool)) (fun s => z1 [(36, .bool s), O1 v7]) (fun s => (sl_siftDownOrdered_byte_j13 v8 (sl_siftDownOrdered_byte_j12 n2 a5 v7 v8 (sl_siftDownOrdered_byte_l1 n2 a4 a5 m1))) s = some r) (fun s h => ?_) (fun hK13 => ?_)
  ·obtain ⟨v19, rfl⟩ : ∃ x, x = s := ⟨s, rfl⟩
   have h : (sl_siftDownOrdered_byte_j13 v8 (sl_siftDownOrdered_byte_j12 n2 a5 v7 v8 (sl_siftDownOrdered_byte_l1 n2 a4 a5 m1))) v19 = some r := h
   unfold sl_siftDownOrdered_byte_j13 at h
   refine W.cb v19 (fun hb => ?_) (fun hb => ?_)
   ·replace h := cond_t hb h
    refine W.rt (e2 := z3 [(9, I6 (W6 ((W6 ((W6 (2 * v8)) + 1)) + 1))), O1 v7]) ?_
    exact hK12 (W6 ((W6 ((W6 (2 * v8)) + 1)) + 1)) h
   replace h := cond_f hb h
   refine W.skip ?_
   refine W.wk (env' := z1 [O1 v7]) ?_
   exact hK12 (W6 ((W6 (2 * v8)) + 1)) h
  refine W.rg ?_
  let z14 := fun t => z1 ((17, I6 (W6 ((W6 (2 * v8)) + 1))) :: (18, I6 (W6 ((W6 ((W6 (2 * v8)) + 1)) + 1))) :: (19, I6 a4) :: t)
  refine WO.bk 5 (fun b => z14 [(20, .bool b), (21, .bool b), O1 v7]) (decide ((W6 ((W6 ((W6 (2 * v8)) + 1)) + 1)) < a4)) (fun hb => ?_) (fun hb => ?_)
  ·replace h := cond_t hb h
   obtain ⟨hc14, h⟩ := chk_some h
   let z15 := fun t => z14 ((20, .bool true) :: (21, .bool true) :: (22, S1 n2) :: (23, I6 a5) :: (24, I6 (W6 ((W6 (2 * v8)) + 1))) :: (25, I6 (W6 (a5 + (W6 ((W6 (2 * v8)) + 1))))) :: (26, .pe 2000000 1 (0 + Int.toNat (W6 (a5 + (W6 ((W6 (2 * v8)) + 1))))) 0) :: t)
   refine WO.pi 4 (v := .pe 2000000 1 (0 + Int.toNat (W6 (a5 + (W6 ((W6 (2 * v8)) + 1))))) 0) hc14 (e1 := z15 [O1 v7]) ?_
   obtain ⟨e15, he15, h⟩ := bind_some h
   let z16 := fun t => z15 ((27, .int .u8 e15) :: t)
   refine WO.pk 0 (match (M8 v7)[(0 + Int.toNat (W6 (a5 + (W6 ((W6 (2 * v8)) + 1)))))]? with | some y => cut Tryd.prog 5 (y.cells.map AV.strip) 0 | none => none) (v := .int .u8 e15) ((pe_ld (f := (AV.int .u8)) (G := (fun y => cut Tryd.prog 5 (y.cells.map AV.strip) 0)) he15).trans (by kernel_rfl)) (e1 := z16 [O1 v7]) ?_
   obtain ⟨hc16, h⟩ := chk_some h
   let z17 := fun t => z16 ((28, S1 n2) :: (29, I6 a5) :: (30, I6 (W6 ((W6 (2 * v8)) + 1))) :: (31, I6 (W6 (a5 + (W6 ((W6 (2 * v8)) + 1))))) :: (32, I6 (W6 ((W6 (a5 + (W6 ((W6 (2 * v8)) + 1)))) + 1))) :: (33, .pe 2000000 1 (0 + Int.toNat (W6 ((W6 (a5 + (W6 ((W6 (2 * v8)) + 1)))) + 1))) 0) :: t)
   refine WO.pi 5 (v := .pe 2000000 1 (0 + Int.toNat (W6 ((W6 (a5 + (W6 ((W6 (2 * v8)) + 1)))) + 1))) 0) hc16 (e1 := z17 [O1 v7]) ?_
   obtain ⟨e17, he17, h⟩ := bind_some h
   refine WO.pk 0 (match (M8 v7)[(0 + Int.toNat (W6 ((W6 (a5 + (W6 ((W6 (2 * v8)) + 1)))) + 1)))]? with | some y => cut Tryd.prog 5 (y.cells.map AV.strip) 0 | none => none) (v := .int .u8 e17) ((pe_ld (f := (AV.int .u8)) (G := (fun y => cut Tryd.prog 5 (y.cells.map AV.strip) 0)) he17).trans (by kernel_rfl)) (e1 := z17 [(34, .int .u8 e17), O1 v7]) ?_
   obtain ⟨w18, hw18, h⟩ := bind_some h
   refine WO.ck 0 (F := 54) (l := [.int .u8 e15, .int .u8 e17]) (C := []) (r := .bool w18) (run_cm_Less_byte e15 e17 w18 hw18) (e1 := z17 [(34, .int .u8 e17), (35, .bool w18), O1 v7]) ?_
   refine WO.fn (e2 := z1 [(36, .bool w18), O1 v7]) ?_
   exact hK13 w18 h
  replace h := cond_f hb h
  refine WO.fn (e2 := z1 [(36, .bool false), O1 v7]) ?_
  exact hK13 false h
def sl_heapSortOrdered_byte_l2 (fuel : Nat) (n2 : Nat) (a3 : Int) : Nat → (List Int) → Int → Option (List Int)
 | 0, _, _ => none
 | m2 + 1, v18, v19 => (bif (decide (v19 ≥ 0)) then (chk (decide ((0 : Int) ≤ (IntKind.wrap .i64 (a3 + v19)) ∧ (IntKind.wrap .i64 (a3 + v19)) < ((n2 : Nat) : Int))) ((v18[(0 + Int.toNat (IntKind.wrap .i64 (a3 + v19)))]?).bind fun e25 => (chk (decide ((0 : Int) ≤ a3 ∧ a3 < ((n2 : Nat) : Int))) ((v18[(0 + Int.toNat a3)]?).bind fun e27 => (chk (decide ((0 : Int) ≤ a3 ∧ a3 < ((n2 : Nat) : Int))) ((upd v18 (0 + Int.toNat a3) e25).bind fun u29 => (chk (decide ((0 : Int) ≤ (IntKind.wrap .i64 (a3 + v19)) ∧ (IntKind.wrap .i64 (a3 + v19)) < ((n2 : Nat) : Int))) ((upd u29 (0 + Int.toNat (IntKind.wrap .i64 (a3 + v19))) e27).bind fun u32 => ((sl_siftDownOrdered_byte fuel u32 n2 0 v19 a3).bind fun w34 => ((sl_heapSortOrdered_byte_l2 fuel n2 a3 m2) w34 (IntKind.wrap .i64 (v19 - 1)))))))))))) else (some v18))
def sl_heapSortOrdered_byte_j8 (fuel : Nat) (n2 : Nat) (a3 : Int) (a4 : Int) (v16 : (List Int)) : Option (List Int) :=
 (sl_heapSortOrdered_byte_l2 fuel n2 a3 fuel v16 (IntKind.wrap .i64 ((IntKind.wrap .i64 (a4 - a3)) - 1)))
def sl_heapSortOrdered_byte_l1 (fuel : Nat) (n2 : Nat) (a3 : Int) (a4 : Int) (K8 : ((List Int) → Option (List Int))) : Nat → (List Int) → Int → Option (List Int)
 | 0, _, _ => none
 | m1 + 1, v10, v11 => (bif (decide (v11 ≥ 0)) then ((sl_siftDownOrdered_byte fuel v10 n2 v11 (IntKind.wrap .i64 (a4 - a3)) a3).bind fun w15 => ((sl_heapSortOrdered_byte_l1 fuel n2 a3 a4 K8 m1) w15 (IntKind.wrap .i64 (v11 - 1)))) else (K8 v10))
def sl_heapSortOrdered_byte (fuel : Nat) (a1 : (List Int)) (n2 : Nat) (a3 : Int) (a4 : Int) : Option (List Int) :=
 (sl_heapSortOrdered_byte_l1 fuel n2 a3 a4 (sl_heapSortOrdered_byte_j8 fuel n2 a3 a4) fuel a1 (IntKind.wrap .i64 (((IntKind.wrap .i64 ((IntKind.wrap .i64 (a4 - a3)) - 1))).tdiv 2)))
theorem run_sl_heapSortOrdered_byte (fuel : Nat) (a1 : (List Int)) (n2 : Nat) (a3 : Int) (a4 : Int) (r : (List Int)) (h : sl_heapSortOrdered_byte fuel a1 n2 a3 a4 = some r) : Run Tryd.prog (.callM 49 [S1 n2, I6 a3, I6 a4] [O1 a1] (.tup []) [O1 r]) := by
 refine cM Tryd.func49 rfl (env0 := [(0, S1 n2), (1, I6 a3), (2, I6 a4), O1 a1]) ?_
 unfold sl_heapSortOrdered_byte at h
 refine W.seq ?_
 let z0 := fun t => EN ((0, S1 n2) :: t)
 let z1 := fun t => z0 ((1, I6 a3) :: (2, I6 a4) :: (6, I6 a3) :: t)
 refine W.rt (e2 := z1 [O1 a1]) ?_
 refine W.seq ?_
 refine W.rt (e2 := z1 [(7, .int .i64 0), O1 a1]) ?_
 refine W.seq ?_
 let z2 := fun t => z0 ((6, I6 a3) :: (7, .int .i64 0) :: t)
 let z3 := fun t => z2 ((8, I6 (W6 (a4 - a3))) :: t)
 refine W.rt (e2 := z3 [O1 a1]) ?_
 refine W.seq ?_
 refine W.join (σ := ((List Int))) (fun s => z3 [O1 s]) (fun s => (sl_heapSortOrdered_byte_j8 fuel n2 a3 a4) s = some r) (fun s h => ?_) (fun hK8 => ?_)
 ·obtain ⟨v16, rfl⟩ : ∃ x, x = s := ⟨s, rfl⟩
  have h : (sl_heapSortOrdered_byte_j8 fuel n2 a3 a4) v16 = some r := h
  unfold sl_heapSortOrdered_byte_j8 at h
  refine W.seq ?_
  let z4 := fun t => z2 ((10, I6 (W6 ((W6 (a4 - a3)) - 1))) :: O1 v16 :: t)
  refine W.rt (e2 := z4 []) ?_
  refine W.block ?_
  refine W.wk (env' := z4 []) ?_
  refine W.fuel (σ := ((List Int) × Int)) (fun s => z2 [(10, I6 s.2), (2000000, .obj 1000000005 1 (M8 s.1))]) (fun m0 s => sl_heapSortOrdered_byte_l2 fuel n2 a3 m0 s.1 s.2 = some r) (fun s h => ?_) (fun m2 s h hN2 => ?_) fuel (v16, (W6 ((W6 (a4 - a3)) - 1))) h
  ·obtain ⟨v18, v19⟩ := s
   have h : sl_heapSortOrdered_byte_l2 fuel n2 a3 0 v18 v19 = some r := h
   rw [sl_heapSortOrdered_byte_l2.eq_1] at h
   cases h
  ·obtain ⟨v18, v19⟩ := s
   have h : sl_heapSortOrdered_byte_l2 fuel n2 a3 (m2 + 1) v18 v19 = some r := h
   rw [sl_heapSortOrdered_byte_l2.eq_2] at h
   refine W.seq ?_
   refine W.seq ?_
   let z5 := fun t => z2 ((10, I6 v19) :: t)
   let z6 := fun t => z5 ((30, .bool (decide (v19 ≥ 0))) :: O1 v18 :: t)
   refine W.rt (e2 := z6 []) ?_
   refine W.cb (decide (v19 ≥ 0)) (fun hb => ?_) (fun hb => ?_)
   ·replace h := cond_t hb h
    refine W.skip ?_
    refine W.wk (env' := z5 [O1 v18]) ?_
    refine W.seq ?_
    refine W.block ?_
    refine W.seq ?_
    refine W.rg ?_
    obtain ⟨hc24, h⟩ := chk_some h
    let z7 := fun t => z5 ((33, S1 n2) :: (34, I6 a3) :: (35, S1 n2) :: (36, I6 a3) :: (37, I6 v19) :: (38, I6 (W6 (a3 + v19))) :: (39, S1 n2) :: (40, I6 a3) :: (41, I6 v19) :: (42, I6 (W6 (a3 + v19))) :: (43, .pe 2000000 1 (0 + Int.toNat (W6 (a3 + v19))) 0) :: t)
    refine WO.pi 10 (v := .pe 2000000 1 (0 + Int.toNat (W6 (a3 + v19))) 0) hc24 (e1 := z7 [O1 v18]) ?_
    obtain ⟨e25, he25, h⟩ := bind_some h
    let z8 := fun t => z7 ((44, .int .u8 e25) :: t)
    refine WO.pk 0 (match (M8 v18)[(0 + Int.toNat (W6 (a3 + v19)))]? with | some y => cut Tryd.prog 5 (y.cells.map AV.strip) 0 | none => none) (v := .int .u8 e25) ((pe_ld (f := (AV.int .u8)) (G := (fun y => cut Tryd.prog 5 (y.cells.map AV.strip) 0)) he25).trans (by kernel_rfl)) (e1 := z8 [O1 v18]) ?_
    obtain ⟨hc26, h⟩ := chk_some h
    let z9 := fun t => z8 ((45, S1 n2) :: (46, I6 a3) :: (47, .pe 2000000 1 (0 + Int.toNat a3) 0) :: t)
    refine WO.pi 2 (v := .pe 2000000 1 (0 + Int.toNat a3) 0) hc26 (e1 := z9 [O1 v18]) ?_
    obtain ⟨e27, he27, h⟩ := bind_some h
    let z10 := fun t => z9 ((48, .int .u8 e27) :: t)
    refine WO.pk 0 (match (M8 v18)[(0 + Int.toNat a3)]? with | some y => cut Tryd.prog 5 (y.cells.map AV.strip) 0 | none => none) (v := .int .u8 e27) ((pe_ld (f := (AV.int .u8)) (G := (fun y => cut Tryd.prog 5 (y.cells.map AV.strip) 0)) he27).trans (by kernel_rfl)) (e1 := z10 [O1 v18]) ?_
    obtain ⟨hc28, h⟩ := chk_some h
    let z11 := fun t => z10 ((49, .pe 2000000 1 (0 + Int.toNat a3) 0) :: t)
    refine WO.pi 0 (v := .pe 2000000 1 (0 + Int.toNat a3) 0) hc28 (e1 := z11 [O1 v18]) ?_
    obtain ⟨u29, hu29, h⟩ := bind_some h
    obtain ⟨y30, hyy30, hzy30⟩ := upd_some hu29
    refine WO.sk 0 (id := 2000000) (e := 1000000005) (s := 1) (off := 0) (vs := [.int .u8 e25]) (AV.int .u8) hyy30 hzy30 (e1 := z11 [O1 u29]) ?_
    obtain ⟨hc31, h⟩ := chk_some h
    let z12 := fun t => z11 ((50, .pe 2000000 1 (0 + Int.toNat (W6 (a3 + v19))) 0) :: t)
    refine WO.pi 0 (v := .pe 2000000 1 (0 + Int.toNat (W6 (a3 + v19))) 0) hc31 (e1 := z12 [O1 u29]) ?_
    obtain ⟨u32, hu32, h⟩ := bind_some h
    obtain ⟨y33, hyy33, hzy33⟩ := upd_some hu32
    refine WO.sk 0 (id := 2000000) (e := 1000000005) (s := 1) (off := 0) (vs := [.int .u8 e27]) (AV.int .u8) hyy33 hzy33 (e1 := z12 [O1 u32]) ?_
    refine WO.fn (e2 := z5 [O1 u32]) ?_
    refine W.rg ?_
    obtain ⟨w34, hw34, h⟩ := bind_some h
    refine WO.cm 4 [(2000000, 2000000)] [] (F := 69) (args := [S1 n2, .int .i64 0, I6 v19, I6 a3]) (hp := [O1 u32]) (hp2 := [O1 w34]) (r := .tup []) (run_sl_siftDownOrdered_byte fuel u32 n2 0 v19 a3 w34 hw34) (e1 := z5 [(51, S1 n2), (52, .int .i64 0), (53, I6 v19), (54, I6 a3), (55, .tup []), O1 w34]) ?_
    refine WO.fn (e2 := z5 [O1 w34]) ?_
    refine W.rt (e2 := z2 [(10, I6 (W6 (v19 - 1))), O1 w34]) ?_
    exact hN2 (w34, (W6 (v19 - 1))) h
   replace h := cond_f hb h
   have hr : PostM Tryd.prog Tryd.f49 (.tup []) [O1 v18] .normal (z6 []) := ⟨by kernel_rfl, by kernel_rfl⟩
   cases h
   exact W.exit hr
 refine W.seq ?_
 let z13 := fun t => z3 ((9, I6 (W6 (((W6 ((W6 (a4 - a3)) - 1))).tdiv 2))) :: O1 a1 :: t)
 refine W.rt (e2 := z13 []) ?_
 refine W.block ?_
 refine W.wk (env' := z13 []) ?_
 refine W.fuel (σ := ((List Int) × Int)) (fun s => z3 [(9, I6 s.2), (2000000, .obj 1000000005 1 (M8 s.1))]) (fun m0 s => sl_heapSortOrdered_byte_l1 fuel n2 a3 a4 (sl_heapSortOrdered_byte_j8 fuel n2 a3 a4) m0 s.1 s.2 = some r) (fun s h => ?_) (fun m1 s h hN1 => ?_) fuel (a1, (W6 (((W6 ((W6 (a4 - a3)) - 1))).tdiv 2))) h
 ·obtain ⟨v10, v11⟩ := s
  have h : sl_heapSortOrdered_byte_l1 fuel n2 a3 a4 (sl_heapSortOrdered_byte_j8 fuel n2 a3 a4) 0 v10 v11 = some r := h
  rw [sl_heapSortOrdered_byte_l1.eq_1] at h
  cases h
 ·obtain ⟨v10, v11⟩ := s
  have h : sl_heapSortOrdered_byte_l1 fuel n2 a3 a4 (sl_heapSortOrdered_byte_j8 fuel n2 a3 a4) (m1 + 1) v10 v11 = some r := h
  rw [sl_heapSortOrdered_byte_l1.eq_2] at h
  refine W.seq ?_
  refine W.seq ?_
  let z14 := fun t => z3 ((9, I6 v11) :: t)
  refine W.rt (e2 := z14 [(19, .bool (decide (v11 ≥ 0))), O1 v10]) ?_
  refine W.cb (decide (v11 ≥ 0)) (fun hb => ?_) (fun hb => ?_)
  ·replace h := cond_t hb h
   refine W.skip ?_
   refine W.wk (env' := z14 [O1 v10]) ?_
   refine W.seq ?_
   refine W.block ?_
   refine W.rg ?_
   obtain ⟨w15, hw15, h⟩ := bind_some h
   refine WO.cm 4 [(2000000, 2000000)] [] (F := 69) (args := [S1 n2, I6 v11, I6 (W6 (a4 - a3)), I6 a3]) (hp := [O1 v10]) (hp2 := [O1 w15]) (r := .tup []) (run_sl_siftDownOrdered_byte fuel v10 n2 v11 (W6 (a4 - a3)) a3 w15 hw15) (e1 := z14 [(22, S1 n2), (23, I6 v11), (24, I6 (W6 (a4 - a3))), (25, I6 a3), (26, .tup []), O1 w15]) ?_
   refine WO.fn (e2 := z14 [O1 w15]) ?_
   refine W.rt (e2 := z3 [(9, I6 (W6 (v11 - 1))), O1 w15]) ?_
   exact hN1 (w15, (W6 (v11 - 1))) h
  replace h := cond_f hb h
  refine W.exit ?_
  refine W.wk (env' := z3 [O1 v10]) ?_
  exact hK8 v10 h
def sl_nextPowerOfTwo (a1 : Int) : Option Int :=
 ((mb_Len (IntKind.wrap .u64 a1)).bind fun w4 => (chk (decide (0 ≤ w4)) (some (iShl .u64 1 w4))))
theorem run_sl_nextPowerOfTwo (a1 : Int) (r : Int) (h : sl_nextPowerOfTwo a1 = some r) : Run Tryd.prog (.call 70 [I6 a1] (.int .u64 r)) := by
 refine cW Tryd.func70 rfl (env0 := [(0, I6 a1)]) ?_
 unfold sl_nextPowerOfTwo at h
 refine W.seq ?_
 refine W.rt (e2 := [(0, I6 a1)]) ?_
 refine W.seq ?_
 refine W.rg ?_
 obtain ⟨w4, hw4, h⟩ := bind_some h
 let z0 := fun t => EN ((0, I6 a1) :: (3, I6 a1) :: (4, .int .u64 (IntKind.wrap .u64 a1)) :: (5, I6 w4) :: t)
 refine WO.ck 2 (F := 34) (l := [.int .u64 (IntKind.wrap .u64 a1)]) (C := []) (r := I6 w4) (run_mb_Len (IntKind.wrap .u64 a1) w4 hw4) (e1 := z0 []) ?_
 obtain ⟨hc5, h⟩ := chk_some h
 refine WO.pk 0 (if w4 < 0 then none else some (.int .u64 (iShl .u64 1 w4))) (v := .int .u64 (iShl .u64 1 w4)) (if_neg (not_lt_of_chk hc5)) (e1 := z0 [(6, .int .u64 (iShl .u64 1 w4))]) ?_
 refine WO.fn (e2 := [(2, .int .u64 (iShl .u64 1 w4))]) ?_
 refine W.wk (env' := [(2, .int .u64 (iShl .u64 1 w4))]) ?_
 have hr : aresults Tryd.prog Tryd.f70 [(2, .int .u64 (iShl .u64 1 w4))] = some (.int .u64 (iShl .u64 1 w4)) := by kernel_rfl
 cases h
 exact W.ret hr
def sl_xorshift_Next (p1 : Int) : Option (Int × Int) :=
 (some ((iXor .u64 (iXor .u64 (iXor .u64 p1 (iShl .u64 p1 13)) (iShr .u64 (iXor .u64 p1 (iShl .u64 p1 13)) 7)) (iShl .u64 (iXor .u64 (iXor .u64 p1 (iShl .u64 p1 13)) (iShr .u64 (iXor .u64 p1 (iShl .u64 p1 13)) 7)) 17)), (iXor .u64 (iXor .u64 (iXor .u64 p1 (iShl .u64 p1 13)) (iShr .u64 (iXor .u64 p1 (iShl .u64 p1 13)) 7)) (iShl .u64 (iXor .u64 (iXor .u64 p1 (iShl .u64 p1 13)) (iShr .u64 (iXor .u64 p1 (iShl .u64 p1 13)) 7)) 17))))
theorem run_sl_xorshift_Next (p1 : Int) (r : (Int × Int)) (h : sl_xorshift_Next p1 = some r) : Run Tryd.prog (.callM 71 [.pb 2000000 0] [(2000000, .box [.int .u64 p1])] (.int .u64 r.1) [(2000000, .box [.int .u64 r.2])]) := by
 refine cM Tryd.func71 rfl (env0 := [(0, .pb 2000000 0), (2000000, .box [.int .u64 p1])]) ?_
 unfold sl_xorshift_Next at h
 refine W.seq ?_
 let z0 := fun t => EN ((0, .pb 2000000 0) :: t)
 refine W.rt (e2 := z0 [(2000000, .box [.int .u64 p1])]) ?_
 refine W.seq ?_
 refine W.rt (e2 := z0 [(2000000, .box [.int .u64 (iXor .u64 p1 (iShl .u64 p1 13))])]) ?_
 refine W.seq ?_
 refine W.rt (e2 := z0 [(2000000, .box [.int .u64 (iXor .u64 (iXor .u64 p1 (iShl .u64 p1 13)) (iShr .u64 (iXor .u64 p1 (iShl .u64 p1 13)) 7))])]) ?_
 refine W.seq ?_
 refine W.rt (e2 := z0 [(2000000, .box [.int .u64 (iXor .u64 (iXor .u64 (iXor .u64 p1 (iShl .u64 p1 13)) (iShr .u64 (iXor .u64 p1 (iShl .u64 p1 13)) 7)) (iShl .u64 (iXor .u64 (iXor .u64 p1 (iShl .u64 p1 13)) (iShr .u64 (iXor .u64 p1 (iShl .u64 p1 13)) 7)) 17))])]) ?_
 refine W.seq ?_
 let z1 := fun t => EN ((2, .int .u64 (iXor .u64 (iXor .u64 (iXor .u64 p1 (iShl .u64 p1 13)) (iShr .u64 (iXor .u64 p1 (iShl .u64 p1 13)) 7)) (iShl .u64 (iXor .u64 (iXor .u64 p1 (iShl .u64 p1 13)) (iShr .u64 (iXor .u64 p1 (iShl .u64 p1 13)) 7)) 17))) :: (2000000, .box [.int .u64 (iXor .u64 (iXor .u64 (iXor .u64 p1 (iShl .u64 p1 13)) (iShr .u64 (iXor .u64 p1 (iShl .u64 p1 13)) 7)) (iShl .u64 (iXor .u64 (iXor .u64 p1 (iShl .u64 p1 13)) (iShr .u64 (iXor .u64 p1 (iShl .u64 p1 13)) 7)) 17))]) :: t)
 refine W.rt (e2 := z1 []) ?_
 refine W.wk (env' := z1 []) ?_
 have hr : PostM Tryd.prog Tryd.f71 (.int .u64 (iXor .u64 (iXor .u64 (iXor .u64 p1 (iShl .u64 p1 13)) (iShr .u64 (iXor .u64 p1 (iShl .u64 p1 13)) 7)) (iShl .u64 (iXor .u64 (iXor .u64 p1 (iShl .u64 p1 13)) (iShr .u64 (iXor .u64 p1 (iShl .u64 p1 13)) 7)) 17))) [(2000000, .box [.int .u64 (iXor .u64 (iXor .u64 (iXor .u64 p1 (iShl .u64 p1 13)) (iShr .u64 (iXor .u64 p1 (iShl .u64 p1 13)) 7)) (iShl .u64 (iXor .u64 (iXor .u64 p1 (iShl .u64 p1 13)) (iShr .u64 (iXor .u64 p1 (iShl .u64 p1 13)) 7)) 17))])] .ret [(2, .int .u64 (iXor .u64 (iXor .u64 (iXor .u64 p1 (iShl .u64 p1 13)) (iShr .u64 (iXor .u64 p1 (iShl .u64 p1 13)) 7)) (iShl .u64 (iXor .u64 (iXor .u64 p1 (iShl .u64 p1 13)) (iShr .u64 (iXor .u64 p1 (iShl .u64 p1 13)) 7)) 17))), (2000000, .box [.int .u64 (iXor .u64 (iXor .u64 (iXor .u64 p1 (iShl .u64 p1 13)) (iShr .u64 (iXor .u64 p1 (iShl .u64 p1 13)) 7)) (iShl .u64 (iXor .u64 (iXor .u64 p1 (iShl .u64 p1 13)) (iShr .u64 (iXor .u64 p1 (iShl .u64 p1 13)) 7)) 17))])] := ⟨by kernel_rfl, by kernel_rfl⟩
 cases h
 exact W.ret hr
def sl_breakPatternsOrdered_byte_j19 (n2 : Nat) (a3 : Int) (v11 : (List Int)) (v13 : Int) (w18 : (Int × Int)) (N1 : ((List Int) → Int → Int → Option (List Int))) (v21 : Int) : Option (List Int) :=
 (chk (decide ((0 : Int) ≤ (IntKind.wrap .i64 (a3 + v21)) ∧ (IntKind.wrap .i64 (a3 + v21)) < ((n2 : Nat) : Int))) ((v11[(0 + Int.toNat (IntKind.wrap .i64 (a3 + v21)))]?).bind fun e23 => (chk (decide ((0 : Int) ≤ v13 ∧ v13 < ((n2 : Nat) : Int))) ((v11[(0 + Int.toNat v13)]?).bind fun e25 => (chk (decide ((0 : Int) ≤ v13 ∧ v13 < ((n2 : Nat) : Int))) ((upd v11 (0 + Int.toNat v13) e23).bind fun u27 => (chk (decide ((0 : Int) ≤ (IntKind.wrap .i64 (a3 + v21)) ∧ (IntKind.wrap .i64 (a3 + v21)) < ((n2 : Nat) : Int))) ((upd u27 (0 + Int.toNat (IntKind.wrap .i64 (a3 + v21))) e25).bind fun u30 => (N1 u30 w18.2 (IntKind.wrap .i64 (v13 + 1)))))))))))
def sl_breakPatternsOrdered_byte_l1 (n2 : Nat) (a3 : Int) (a4 : Int) (w9 : Int) : Nat → (List Int) → Int → Int → Option (List Int)
 | 0, _, _, _ => none
 | m1 + 1, v11, v12, v13 => (bif (decide (v13 ≤ (IntKind.wrap .i64 ((IntKind.wrap .i64 (a3 + (IntKind.wrap .i64 ((IntKind.wrap .i64 (((IntKind.wrap .i64 (a4 - a3))).tdiv 4)) * 2)))) + 1)))) then ((sl_xorshift_Next v12).bind fun w18 => (bif (decide ((IntKind.wrap .i64 (iAnd .u64 w18.1 (IntKind.wrap .u64 (w9 - 1)))) ≥ (IntKind.wrap .i64 (a4 - a3)))) then ((sl_breakPatternsOrdered_byte_j19 n2 a3 v11 v13 w18 (sl_breakPatternsOrdered_byte_l1 n2 a3 a4 w9 m1)) (IntKind.wrap .i64 ((IntKind.wrap .i64 (iAnd .u64 w18.1 (IntKind.wrap .u64 (w9 - 1)))) - (IntKind.wrap .i64 (a4 - a3))))) else ((sl_breakPatternsOrdered_byte_j19 n2 a3 v11 v13 w18 (sl_breakPatternsOrdered_byte_l1 n2 a3 a4 w9 m1)) (IntKind.wrap .i64 (iAnd .u64 w18.1 (IntKind.wrap .u64 (w9 - 1))))))) else (some v11))
def sl_breakPatternsOrdered_byte (fuel : Nat) (a1 : (List Int)) (n2 : Nat) (a3 : Int) (a4 : Int) : Option (List Int) :=
 (bif (decide ((IntKind.wrap .i64 (a4 - a3)) ≥ 8)) then ((sl_nextPowerOfTwo (IntKind.wrap .i64 (a4 - a3))).bind fun w9 => (sl_breakPatternsOrdered_byte_l1 n2 a3 a4 w9 fuel a1 (IntKind.wrap .u64 (IntKind.wrap .i64 (a4 - a3))) (IntKind.wrap .i64 ((IntKind.wrap .i64 (a3 + (IntKind.wrap .i64 ((IntKind.wrap .i64 (((IntKind.wrap .i64 (a4 - a3))).tdiv 4)) * 2)))) - 1)))) else (some a1))
theorem run_sl_breakPatternsOrdered_byte (fuel : Nat) (a1 : (List Int)) (n2 : Nat) (a3 : Int) (a4 : Int) (r : (List Int)) (h : sl_breakPatternsOrdered_byte fuel a1 n2 a3 a4 = some r) : Run Tryd.prog (.callM 50 [S1 n2, I6 a3, I6 a4] [O1 a1] (.tup []) [O1 r]) := by
 refine cM Tryd.func50 rfl (env0 := [(0, S1 n2), (1, I6 a3), (2, I6 a4), O1 a1]) ?_
 unfold sl_breakPatternsOrdered_byte at h
 refine W.seq ?_
 let z0 := fun t => EN ((0, S1 n2) :: (1, I6 a3) :: (6, I6 (W6 (a4 - a3))) :: t)
 refine W.rt (e2 := z0 [O1 a1]) ?_
 refine W.seq ?_
 let z1 := fun t => z0 ((15, .bool (decide ((W6 (a4 - a3)) ≥ 8))) :: O1 a1 :: t)
 refine W.rt (e2 := z1 []) ?_
 refine W.cb (decide ((W6 (a4 - a3)) ≥ 8)) (fun hb => ?_) (fun hb => ?_)
 ·replace h := cond_t hb h
  refine W.seq ?_
  let z2 := fun t => z0 ((7, .box [.int .u64 (IntKind.wrap .u64 (W6 (a4 - a3)))]) :: t)
  refine W.rt (e2 := z2 [O1 a1]) ?_
  refine W.seq ?_
  refine W.rg ?_
  obtain ⟨w9, hw9, h⟩ := bind_some h
  refine WO.ck 1 (F := 70) (l := [I6 (W6 (a4 - a3))]) (C := []) (r := .int .u64 w9) (run_sl_nextPowerOfTwo (W6 (a4 - a3)) w9 hw9) (e1 := z2 [(18, I6 (W6 (a4 - a3))), (19, .int .u64 w9), O1 a1]) ?_
  let z3 := fun t => z2 ((8, .int .u64 w9) :: t)
  refine WO.fn (e2 := z3 [O1 a1]) ?_
  refine W.seq ?_
  let z4 := fun t => z3 ((9, I6 (W6 ((W6 (a3 + (W6 ((W6 (((W6 (a4 - a3))).tdiv 4)) * 2)))) - 1))) :: O1 a1 :: t)
  refine W.rt (e2 := z4 []) ?_
  refine W.block ?_
  refine W.wk (env' := z4 []) ?_
  refine W.fuel (σ := ((List Int) × Int × Int)) (fun s => z0 [(7, .box [.int .u64 s.2.1]), (8, .int .u64 w9), (9, I6 s.2.2), (2000000, .obj 1000000005 1 (M8 s.1))]) (fun m0 s => sl_breakPatternsOrdered_byte_l1 n2 a3 a4 w9 m0 s.1 s.2.1 s.2.2 = some r) (fun s h => ?_) (fun m1 s h hN1 => ?_) fuel (a1, (IntKind.wrap .u64 (W6 (a4 - a3))), (W6 ((W6 (a3 + (W6 ((W6 (((W6 (a4 - a3))).tdiv 4)) * 2)))) - 1))) h
  ·obtain ⟨v11, v12, v13⟩ := s
   have h : sl_breakPatternsOrdered_byte_l1 n2 a3 a4 w9 0 v11 v12 v13 = some r := h
   rw [sl_breakPatternsOrdered_byte_l1.eq_1] at h
   cases h
  ·obtain ⟨v11, v12, v13⟩ := s
   have h : sl_breakPatternsOrdered_byte_l1 n2 a3 a4 w9 (m1 + 1) v11 v12 v13 = some r := h
   rw [sl_breakPatternsOrdered_byte_l1.eq_2] at h
   refine W.seq ?_
   refine W.seq ?_
   let z5 := fun t => z0 ((7, .box [.int .u64 v12]) :: (8, .int .u64 w9) :: (9, I6 v13) :: (33, .bool (decide (v13 ≤ (W6 ((W6 (a3 + (W6 ((W6 (((W6 (a4 - a3))).tdiv 4)) * 2)))) + 1))))) :: O1 v11 :: t)
   refine W.rt (e2 := z5 []) ?_
   refine W.cb (decide (v13 ≤ (W6 ((W6 (a3 + (W6 ((W6 (((W6 (a4 - a3))).tdiv 4)) * 2)))) + 1)))) (fun hb => ?_) (fun hb => ?_)
   ·replace h := cond_t hb h
    refine W.skip ?_
    refine W.wk (env' := z0 [(7, .box [.int .u64 v12]), (8, .int .u64 w9), (9, I6 v13), O1 v11]) ?_
    refine W.seq ?_
    refine W.block ?_
    refine W.seq ?_
    refine W.rg ?_
    obtain ⟨w18, hw18, h⟩ := bind_some h
    let z6 := fun t => z0 ((7, .box [.int .u64 w18.2]) :: (8, .int .u64 w9) :: (9, I6 v13) :: t)
    refine WO.cm 0 [(7, 2000000)] [] (F := 71) (args := [.pb 2000000 0]) (hp := [(2000000, .box [.int .u64 v12])]) (hp2 := [(2000000, .box [.int .u64 w18.2])]) (r := .int .u64 w18.1) (run_sl_xorshift_Next v12 w18 hw18) (e1 := z6 [(36, .int .u64 w18.1), O1 v11]) ?_
    let z7 := fun t => z6 ((10, I6 (W6 (iAnd .u64 w18.1 (IntKind.wrap .u64 (w9 - 1))))) :: t)
    refine WO.fn (e2 := z7 [O1 v11]) ?_
    refine W.seq ?_
    refine W.join (σ := (Int)) (fun s => z6 [(10, I6 s), O1 v11]) (fun s => (sl_breakPatternsOrdered_byte_j19 n2 a3 v11 v13 w18 (sl_breakPatternsOrdered_byte_l1 n2 a3 a4 w9 m1)) s = some r) (fun s h => ?_) (fun hK19 => ?_)
    ·obtain ⟨v21, rfl⟩ : ∃ x, x = s := ⟨s, rfl⟩
     have h : (sl_breakPatternsOrdered_byte_j19 n2 a3 v11 v13 w18 (sl_breakPatternsOrdered_byte_l1 n2 a3 a4 w9 m1)) v21 = some r := h
     unfold sl_breakPatternsOrdered_byte_j19 at h
     refine W.rg ?_
     obtain ⟨hc22, h⟩ := chk_some h
     let z8 := fun t => z6 ((10, I6 v21) :: (47, S1 n2) :: (48, I6 v13) :: (49, S1 n2) :: (50, I6 a3) :: (51, I6 v21) :: (52, I6 (W6 (a3 + v21))) :: (53, S1 n2) :: (54, I6 a3) :: (55, I6 v21) :: (56, I6 (W6 (a3 + v21))) :: (57, .pe 2000000 1 (0 + Int.toNat (W6 (a3 + v21))) 0) :: t)
     refine WO.pi 10 (v := .pe 2000000 1 (0 + Int.toNat (W6 (a3 + v21))) 0) hc22 (e1 := z8 [O1 v11]) ?_
     obtain ⟨e23, he23, h⟩ := bind_some h
     let z9 := fun t => z8 ((58, .int .u8 e23) :: t)
     refine WO.pk 0 (match (M8 v11)[(0 + Int.toNat (W6 (a3 + v21)))]? with | some y => cut Tryd.prog 5 (y.cells.map AV.strip) 0 | none => none) (v := .int .u8 e23) ((pe_ld (f := (AV.int .u8)) (G := (fun y => cut Tryd.prog 5 (y.cells.map AV.strip) 0)) he23).trans (by kernel_rfl)) (e1 := z9 [O1 v11]) ?_
     obtain ⟨hc24, h⟩ := chk_some h
     let z10 := fun t => z9 ((59, S1 n2) :: (60, I6 v13) :: (61, .pe 2000000 1 (0 + Int.toNat v13) 0) :: t)
     refine WO.pi 2 (v := .pe 2000000 1 (0 + Int.toNat v13) 0) hc24 (e1 := z10 [O1 v11]) ?_
     obtain ⟨e25, he25, h⟩ := bind_some h
     let z11 := fun t => z10 ((62, .int .u8 e25) :: t)
     refine WO.pk 0 (match (M8 v11)[(0 + Int.toNat v13)]? with | some y => cut Tryd.prog 5 (y.cells.map AV.strip) 0 | none => none) (v := .int .u8 e25) ((pe_ld (f := (AV.int .u8)) (G := (fun y => cut Tryd.prog 5 (y.cells.map AV.strip) 0)) he25).trans (by kernel_rfl)) (e1 := z11 [O1 v11]) ?_
     obtain ⟨hc26, h⟩ := chk_some h
     let z12 := fun t => z11 ((63, .pe 2000000 1 (0 + Int.toNat v13) 0) :: t)
     refine WO.pi 0 (v := .pe 2000000 1 (0 + Int.toNat v13) 0) hc26 (e1 := z12 [O1 v11]) ?_
     obtain ⟨u27, hu27, h⟩ := bind_some h
     obtain ⟨y28, hyy28, hzy28⟩ := upd_some hu27
     refine WO.sk 0 (id := 2000000) (e := 1000000005) (s := 1) (off := 0) (vs := [.int .u8 e23]) (AV.int .u8) hyy28 hzy28 (e1 := z12 [O1 u27]) ?_
     obtain ⟨hc29, h⟩ := chk_some h
     let z13 := fun t => z12 ((64, .pe 2000000 1 (0 + Int.toNat (W6 (a3 + v21))) 0) :: t)
     refine WO.pi 0 (v := .pe 2000000 1 (0 + Int.toNat (W6 (a3 + v21))) 0) hc29 (e1 := z13 [O1 u27]) ?_
     obtain ⟨u30, hu30, h⟩ := bind_some h
     obtain ⟨y31, hyy31, hzy31⟩ := upd_some hu30
     refine WO.sk 0 (id := 2000000) (e := 1000000005) (s := 1) (off := 0) (vs := [.int .u8 e25]) (AV.int .u8) hyy31 hzy31 (e1 := z13 [O1 u30]) ?_
     refine WO.fn (e2 := z6 [O1 u30]) ?_
     refine W.rt (e2 := z0 [(7, .box [.int .u64 w18.2]), (8, .int .u64 w9), (9, I6 (W6 (v13 + 1))), O1 u30]) ?_
     exact hN1 (u30, w18.2, (W6 (v13 + 1))) h
    refine W.seq ?_
    refine W.rt (e2 := z7 [(43, .bool (decide ((W6 (iAnd .u64 w18.1 (IntKind.wrap .u64 (w9 - 1)))) ≥ (W6 (a4 - a3))))), O1 v11]) ?_
    refine W.cb (decide ((W6 (iAnd .u64 w18.1 (IntKind.wrap .u64 (w9 - 1)))) ≥ (W6 (a4 - a3)))) (fun hb => ?_) (fun hb => ?_)
    ·replace h := cond_t hb h
     refine W.rt (e2 := z6 [(10, I6 (W6 ((W6 (iAnd .u64 w18.1 (IntKind.wrap .u64 (w9 - 1)))) - (W6 (a4 - a3))))), O1 v11]) ?_
     exact hK19 (W6 ((W6 (iAnd .u64 w18.1 (IntKind.wrap .u64 (w9 - 1)))) - (W6 (a4 - a3)))) h
    replace h := cond_f hb h
    refine W.skip ?_
    refine W.wk (env' := z7 [O1 v11]) ?_
    exact hK19 (W6 (iAnd .u64 w18.1 (IntKind.wrap .u64 (w9 - 1)))) h
   replace h := cond_f hb h
   have hr : PostM Tryd.prog Tryd.f50 (.tup []) [O1 v11] .normal (z5 []) := ⟨by kernel_rfl, by kernel_rfl⟩
   cases h
   exact W.exit hr
 replace h := cond_f hb h
 have hr : PostM Tryd.prog Tryd.f50 (.tup []) [O1 a1] .normal (z1 []) := ⟨by kernel_rfl, by kernel_rfl⟩
 cases h
 exact W.skip hr
def sl_order2Ordered_byte (a1 : (List Int)) (a2 : Int) (a3 : Int) (p4 : Int) : Option ((Int × Int) × Int) :=
 ((idx a1 a3).bind fun e8 => ((idx a1 a2).bind fun e9 => ((cm_Less_byte e8 e9).bind fun w10 => (bif w10 then (some ((a3, a2), (IntKind.wrap .i64 (p4 + 1)))) else (some ((a2, a3), p4))))))
theorem run_sl_order2Ordered_byte (a1 : (List Int)) (a2 : Int) (a3 : Int) (p4 : Int) (r : ((Int × Int) × Int)) (h : sl_order2Ordered_byte a1 a2 a3 p4 = some r) : Run Tryd.prog (.callM 92 [l5 none a1, I6 a2, I6 a3, .pb 2000003 0] [(2000003, .box [I6 p4])] (.tup [I6 r.1.1, I6 r.1.2]) [(2000003, .box [I6 r.2])]) := by
 refine cM Tryd.func92 rfl (env0 := [(0, l5 none a1), (1, I6 a2), (2, I6 a3), (3, .pb 2000003 0), (2000003, .box [I6 p4])]) ?_
 unfold sl_order2Ordered_byte at h
 refine W.seq ?_
 let z0 := fun t => EN ((0, l5 none a1) :: (1, I6 a2) :: (2, I6 a3) :: (3, .pb 2000003 0) :: t)
 refine W.rt (e2 := z0 [(2000003, .box [I6 p4])]) ?_
 refine W.seq ?_
 refine W.seq ?_
 refine W.rg ?_
 obtain ⟨e8, he8, h⟩ := bind_some h
 let z1 := fun t => z0 ((10, l5 none a1) :: (11, I6 a3) :: (12, .ptr (.int .u8 e8)) :: t)
 refine WO.pk 2 (if (0 : Int) ≤ a3 then ((M8 a1)[Int.toNat a3]?).map AV.ptr else none) (v := .ptr (.int .u8 e8)) (idx_av (f := (AV.int .u8)) he8) (e1 := z1 [(2000003, .box [I6 p4])]) ?_
 obtain ⟨e9, he9, h⟩ := bind_some h
 let z2 := fun t => z1 ((13, .int .u8 e8) :: (14, l5 none a1) :: (15, I6 a2) :: (16, .ptr (.int .u8 e9)) :: t)
 refine WO.pk 3 (if (0 : Int) ≤ a2 then ((M8 a1)[Int.toNat a2]?).map AV.ptr else none) (v := .ptr (.int .u8 e9)) (idx_av (f := (AV.int .u8)) he9) (e1 := z2 [(2000003, .box [I6 p4])]) ?_
 obtain ⟨w10, hw10, h⟩ := bind_some h
 refine WO.ck 1 (F := 54) (l := [.int .u8 e8, .int .u8 e9]) (C := []) (r := .bool w10) (run_cm_Less_byte e8 e9 w10 hw10) (e1 := z2 [(17, .int .u8 e9), (18, .bool w10), (2000003, .box [I6 p4])]) ?_
 refine WO.fn (e2 := [(1, I6 a2), (2, I6 a3), (3, .pb 2000003 0), (18, .bool w10), (2000003, .box [I6 p4])]) ?_
 refine W.cb w10 (fun hb => ?_) (fun hb => ?_)
 ·replace h := cond_t hb h
  refine W.seq ?_
  refine W.rt (e2 := [(1, I6 a2), (2, I6 a3), (2000003, .box [I6 (W6 (p4 + 1))])]) ?_
  refine W.seq ?_
  let z3 := fun t => EN ((8, I6 a3) :: (9, I6 a2) :: (2000003, .box [I6 (W6 (p4 + 1))]) :: t)
  refine W.rt (e2 := z3 []) ?_
  refine W.wk (env' := z3 []) ?_
  have hr : PostM Tryd.prog Tryd.f92 (.tup [I6 a3, I6 a2]) [(2000003, .box [I6 (W6 (p4 + 1))])] .ret [(8, I6 a3), (9, I6 a2), (2000003, .box [I6 (W6 (p4 + 1))])] := ⟨by kernel_rfl, by kernel_rfl⟩
  cases h
  exact W.ret hr
 replace h := cond_f hb h
 refine W.skip ?_
 refine W.wk (env' := [(1, I6 a2), (2, I6 a3), (2000003, .box [I6 p4])]) ?_
 refine W.seq ?_
 let z4 := fun t => EN ((8, I6 a2) :: (9, I6 a3) :: (2000003, .box [I6 p4]) :: t)
 refine W.rt (e2 := z4 []) ?_
 refine W.wk (env' := z4 []) ?_
 have hr : PostM Tryd.prog Tryd.f92 (.tup [I6 a2, I6 a3]) [(2000003, .box [I6 p4])] .ret [(8, I6 a2), (9, I6 a3), (2000003, .box [I6 p4])] := ⟨by kernel_rfl, by kernel_rfl⟩
 cases h
 exact W.ret hr
def sl_medianOrdered_byte (a1 : (List Int)) (a2 : Int) (a3 : Int) (a4 : Int) (p5 : Int) : Option (Int × Int) :=
 ((sl_order2Ordered_byte a1 a2 a3 p5).bind fun w8 => ((sl_order2Ordered_byte a1 w8.1.2 a4 w8.2).bind fun w10 => ((sl_order2Ordered_byte a1 w8.1.1 w10.1.1 w10.2).bind fun w12 => (some (w12.1.2, w12.2)))))
theorem run_sl_medianOrdered_byte (a1 : (List Int)) (a2 : Int) (a3 : Int) (a4 : Int) (p5 : Int) (r : (Int × Int)) (h : sl_medianOrdered_byte a1 a2 a3 a4 p5 = some r) : Run Tryd.prog (.callM 73 [l5 none a1, I6 a2, I6 a3, I6 a4, .pb 2000004 0] [(2000004, .box [I6 p5])] (I6 r.1) [(2000004, .box [I6 r.2])]) := by
 refine cM Tryd.func73 rfl (env0 := [(0, l5 none a1), (1, I6 a2), (2, I6 a3), (3, I6 a4), (4, .pb 2000004 0), (2000004, .box [I6 p5])]) ?_
 unfold sl_medianOrdered_byte at h
 refine W.seq ?_
 let z0 := fun t => EN ((0, l5 none a1) :: (1, I6 a2) :: (2, I6 a3) :: (3, I6 a4) :: (4, .pb 2000004 0) :: t)
 refine W.rt (e2 := z0 [(2000004, .box [I6 p5])]) ?_
 refine W.seq ?_
 refine W.rg ?_
 obtain ⟨w8, hw8, h⟩ := bind_some h
 refine WO.cm 4 [(2000004, 2000003)] [] (F := 92) (args := [l5 none a1, I6 a2, I6 a3, .pb 2000003 0]) (hp := [(2000003, .box [I6 p5])]) (hp2 := [(2000003, .box [I6 w8.2])]) (r := .tup [I6 w8.1.1, I6 w8.1.2]) (run_sl_order2Ordered_byte a1 a2 a3 p5 w8 hw8) (e1 := z0 [(12, l5 none a1), (13, I6 a2), (14, I6 a3), (15, .pb 2000004 0), (16, .tup [I6 w8.1.1, I6 w8.1.2]), (2000004, .box [I6 w8.2])]) ?_
 let z1 := fun t => EN ((0, l5 none a1) :: (1, I6 w8.1.1) :: t)
 let z2 := fun t => z1 ((2, I6 w8.1.2) :: (3, I6 a4) :: (4, .pb 2000004 0) :: t)
 refine WO.fn (e2 := z2 [(2000004, .box [I6 w8.2])]) ?_
 refine W.seq ?_
 refine W.rg ?_
 obtain ⟨w10, hw10, h⟩ := bind_some h
 refine WO.cm 4 [(2000004, 2000003)] [] (F := 92) (args := [l5 none a1, I6 w8.1.2, I6 a4, .pb 2000003 0]) (hp := [(2000003, .box [I6 w8.2])]) (hp2 := [(2000003, .box [I6 w10.2])]) (r := .tup [I6 w10.1.1, I6 w10.1.2]) (run_sl_order2Ordered_byte a1 w8.1.2 a4 w8.2 w10 hw10) (e1 := z2 [(20, l5 none a1), (21, I6 w8.1.2), (22, I6 a4), (23, .pb 2000004 0), (24, .tup [I6 w10.1.1, I6 w10.1.2]), (2000004, .box [I6 w10.2])]) ?_
 let z3 := fun t => z1 ((2, I6 w10.1.1) :: (4, .pb 2000004 0) :: t)
 refine WO.fn (e2 := z3 [(2000004, .box [I6 w10.2])]) ?_
 refine W.seq ?_
 refine W.rg ?_
 obtain ⟨w12, hw12, h⟩ := bind_some h
 refine WO.cm 4 [(2000004, 2000003)] [] (F := 92) (args := [l5 none a1, I6 w8.1.1, I6 w10.1.1, .pb 2000003 0]) (hp := [(2000003, .box [I6 w10.2])]) (hp2 := [(2000003, .box [I6 w12.2])]) (r := .tup [I6 w12.1.1, I6 w12.1.2]) (run_sl_order2Ordered_byte a1 w8.1.1 w10.1.1 w10.2 w12 hw12) (e1 := z3 [(28, l5 none a1), (29, I6 w8.1.1), (30, I6 w10.1.1), (31, .pb 2000004 0), (32, .tup [I6 w12.1.1, I6 w12.1.2]), (2000004, .box [I6 w12.2])]) ?_
 refine WO.fn (e2 := [(2, I6 w12.1.2), (2000004, .box [I6 w12.2])]) ?_
 refine W.seq ?_
 let z4 := fun t => EN ((10, I6 w12.1.2) :: (2000004, .box [I6 w12.2]) :: t)
 refine W.rt (e2 := z4 []) ?_
 refine W.wk (env' := z4 []) ?_
 have hr : PostM Tryd.prog Tryd.f73 (I6 w12.1.2) [(2000004, .box [I6 w12.2])] .ret [(10, I6 w12.1.2), (2000004, .box [I6 w12.2])] := ⟨by kernel_rfl, by kernel_rfl⟩
 cases h
 exact W.ret hr
def sl_medianAdjacentOrdered_byte (a1 : (List Int)) (a2 : Int) (p3 : Int) : Option (Int × Int) :=
 ((sl_medianOrdered_byte a1 (IntKind.wrap .i64 (a2 - 1)) a2 (IntKind.wrap .i64 (a2 + 1)) p3).bind fun w6 => (some (w6.1, w6.2)))
theorem run_sl_medianAdjacentOrdered_byte (a1 : (List Int)) (a2 : Int) (p3 : Int) (r : (Int × Int)) (h : sl_medianAdjacentOrdered_byte a1 a2 p3 = some r) : Run Tryd.prog (.callM 72 [l5 none a1, I6 a2, .pb 2000002 0] [(2000002, .box [I6 p3])] (I6 r.1) [(2000002, .box [I6 r.2])]) := by
 refine cM Tryd.func72 rfl (env0 := [(0, l5 none a1), (1, I6 a2), (2, .pb 2000002 0), (2000002, .box [I6 p3])]) ?_
 unfold sl_medianAdjacentOrdered_byte at h
 refine W.seq ?_
 let z0 := fun t => EN ((0, l5 none a1) :: (1, I6 a2) :: (2, .pb 2000002 0) :: t)
 refine W.rt (e2 := z0 [(2000002, .box [I6 p3])]) ?_
 refine W.seq ?_
 refine W.rg ?_
 obtain ⟨w6, hw6, h⟩ := bind_some h
 refine WO.cm 7 [(2000002, 2000004)] [] (F := 73) (args := [l5 none a1, I6 (W6 (a2 - 1)), I6 a2, I6 (W6 (a2 + 1)), .pb 2000004 0]) (hp := [(2000004, .box [I6 p3])]) (hp2 := [(2000004, .box [I6 w6.2])]) (r := I6 w6.1) (run_sl_medianOrdered_byte a1 (W6 (a2 - 1)) a2 (W6 (a2 + 1)) p3 w6 hw6) (e1 := z0 [(7, l5 none a1), (8, I6 a2), (9, I6 (W6 (a2 - 1))), (10, I6 a2), (11, I6 a2), (12, I6 (W6 (a2 + 1))), (13, .pb 2000002 0), (14, I6 w6.1), (2000002, .box [I6 w6.2])]) ?_
 refine WO.fn (e2 := [(6, I6 w6.1), (2000002, .box [I6 w6.2])]) ?_
 refine W.wk (env' := [(6, I6 w6.1), (2000002, .box [I6 w6.2])]) ?_
 have hr : PostM Tryd.prog Tryd.f72 (I6 w6.1) [(2000002, .box [I6 w6.2])] .ret [(6, I6 w6.1), (2000002, .box [I6 w6.2])] := ⟨by kernel_rfl, by kernel_rfl⟩
 cases h
 exact W.ret hr
def sl_choosePivotOrdered_byte_j10 (v24 : Int) (v25 : Int) : Option (Int × Int) :=
 (bif (v24 == 0) then (some (v25, 1)) else (bif (v24 == 12) then (some (v25, 2)) else (some (v25, 0))))
def sl_choosePivotOrdered_byte_j12 (a1 : (List Int)) (K10 : (Int → Int → Option (Int × Int))) (v19 : Int) (v20 : Int) (v21 : Int) (v22 : Int) : Option (Int × Int) :=
 ((sl_medianOrdered_byte a1 v20 v21 v22 v19).bind fun w23 => (K10 w23.2 w23.1))
def sl_choosePivotOrdered_byte (a1 : (List Int)) (a2 : Int) (a3 : Int) : Option (Int × Int) :=
 (bif (decide ((IntKind.wrap .i64 (a3 - a2)) ≥ 8)) then (bif (decide ((IntKind.wrap .i64 (a3 - a2)) ≥ 50)) then ((sl_medianAdjacentOrdered_byte a1 (IntKind.wrap .i64 (a2 + (IntKind.wrap .i64 ((IntKind.wrap .i64 (((IntKind.wrap .i64 (a3 - a2))).tdiv 4)) * 1)))) 0).bind fun w15 => ((sl_medianAdjacentOrdered_byte a1 (IntKind.wrap .i64 (a2 + (IntKind.wrap .i64 ((IntKind.wrap .i64 (((IntKind.wrap .i64 (a3 - a2))).tdiv 4)) * 2)))) w15.2).bind fun w17 => ((sl_medianAdjacentOrdered_byte a1 (IntKind.wrap .i64 (a2 + (IntKind.wrap .i64 ((IntKind.wrap .i64 (((IntKind.wrap .i64 (a3 - a2))).tdiv 4)) * 3)))) w17.2).bind fun w18 => ((sl_choosePivotOrdered_byte_j12 a1 (sl_choosePivotOrdered_byte_j10)) w18.2 w15.1 w17.1 w18.1)))) else ((sl_choosePivotOrdered_byte_j12 a1 (sl_choosePivotOrdered_byte_j10)) 0 (IntKind.wrap .i64 (a2 + (IntKind.wrap .i64 ((IntKind.wrap .i64 (((IntKind.wrap .i64 (a3 - a2))).tdiv 4)) * 1)))) (IntKind.wrap .i64 (a2 + (IntKind.wrap .i64 ((IntKind.wrap .i64 (((IntKind.wrap .i64 (a3 - a2))).tdiv 4)) * 2)))) (IntKind.wrap .i64 (a2 + (IntKind.wrap .i64 ((IntKind.wrap .i64 (((IntKind.wrap .i64 (a3 - a2))).tdiv 4)) * 3)))))) else ((sl_choosePivotOrdered_byte_j10) 0 (IntKind.wrap .i64 (a2 + (IntKind.wrap .i64 ((IntKind.wrap .i64 (((IntKind.wrap .i64 (a3 - a2))).tdiv 4)) * 2))))))
theorem run_sl_choosePivotOrdered_byte (a1 : (List Int)) (a2 : Int) (a3 : Int) (r : (Int × Int)) (h : sl_choosePivotOrdered_byte a1 a2 a3 = some r) : Run Tryd.prog (.call 51 [l5 none a1, I6 a2, I6 a3] (.tup [I6 r.1, I6 r.2])) := by
 refine cW Tryd.func51 rfl (env0 := [(0, l5 none a1), (1, I6 a2), (2, I6 a3)]) ?_
 unfold sl_choosePivotOrdered_byte at h
 refine W.seq ?_
 let z0 := fun t => EN ((0, l5 none a1) :: t)
 let z1 := fun t => z0 ((1, I6 a2) :: t)
 refine W.rt (e2 := z1 [(2, I6 a3)]) ?_
 refine W.seq ?_
 let z2 := fun t => z1 ((8, I6 (W6 (a3 - a2))) :: t)
 refine W.rt (e2 := z2 []) ?_
 refine W.seq ?_
 let z3 := fun t => z2 ((9, .box [.int .i64 0]) :: t)
 refine W.rt (e2 := z3 []) ?_
 refine W.seq ?_
 let z4 := fun t => z3 ((10, I6 (W6 (a2 + (W6 ((W6 (((W6 (a3 - a2))).tdiv 4)) * 1))))) :: t)
 refine W.rt (e2 := z4 []) ?_
 refine W.seq ?_
 refine W.rt (e2 := z4 [(11, I6 (W6 (a2 + (W6 ((W6 (((W6 (a3 - a2))).tdiv 4)) * 2)))))]) ?_
 refine W.seq ?_
 let z5 := fun t => z0 ((8, I6 (W6 (a3 - a2))) :: (9, .box [.int .i64 0]) :: (10, I6 (W6 (a2 + (W6 ((W6 (((W6 (a3 - a2))).tdiv 4)) * 1))))) :: (11, I6 (W6 (a2 + (W6 ((W6 (((W6 (a3 - a2))).tdiv 4)) * 2))))) :: (12, I6 (W6 (a2 + (W6 ((W6 (((W6 (a3 - a2))).tdiv 4)) * 3))))) :: t)
 refine W.rt (e2 := z5 []) ?_
 refine W.seq ?_
 refine W.join (σ := (Int × Int)) (fun s => [(9, .ptr (I6 s.1)), (11, I6 s.2)]) (fun s => (sl_choosePivotOrdered_byte_j10) s.1 s.2 = some r) (fun s h => ?_) (fun hK10 => ?_)
 ·obtain ⟨v24, v25⟩ := s
  have h : (sl_choosePivotOrdered_byte_j10) v24 v25 = some r := h
  unfold sl_choosePivotOrdered_byte_j10 at h
  refine W.seq ?_
  refine W.rt (e2 := [(11, I6 v25), (49, I6 v24)]) ?_
  refine W.block ?_
  refine W.seq ?_
  refine W.rt (e2 := [(11, I6 v25), (49, I6 v24), (51, .bool (v24 == 0))]) ?_
  refine W.cb (v24 == 0) (fun hb => ?_) (fun hb => ?_)
  ·replace h := cond_t hb h
   refine W.seq ?_
   refine W.rt (e2 := [(6, I6 v25), (7, .int .i64 1)]) ?_
   refine W.wk (env' := [(6, I6 v25), (7, .int .i64 1)]) ?_
   have hr : aresults Tryd.prog Tryd.f51 [(6, I6 v25), (7, .int .i64 1)] = some (.tup [I6 v25, .int .i64 1]) := by kernel_rfl
   cases h
   exact W.ret hr
  replace h := cond_f hb h
  refine W.seq ?_
  refine W.rt (e2 := [(11, I6 v25), (54, .bool (v24 == 12))]) ?_
  refine W.cb (v24 == 12) (fun hb => ?_) (fun hb => ?_)
  ·replace h := cond_t hb h
   refine W.seq ?_
   refine W.rt (e2 := [(6, I6 v25), (7, .int .i64 2)]) ?_
   refine W.wk (env' := [(6, I6 v25), (7, .int .i64 2)]) ?_
   have hr : aresults Tryd.prog Tryd.f51 [(6, I6 v25), (7, .int .i64 2)] = some (.tup [I6 v25, .int .i64 2]) := by kernel_rfl
   cases h
   exact W.ret hr
  replace h := cond_f hb h
  refine W.seq ?_
  refine W.rt (e2 := [(6, I6 v25), (7, .int .i64 0)]) ?_
  refine W.wk (env' := [(6, I6 v25), (7, .int .i64 0)]) ?_
  have hr : aresults Tryd.prog Tryd.f51 [(6, I6 v25), (7, .int .i64 0)] = some (.tup [I6 v25, .int .i64 0]) := by kernel_rfl
  cases h
  exact W.ret hr
 refine W.seq ?_
 refine W.rt (e2 := z5 [(32, .bool (decide ((W6 (a3 - a2)) ≥ 8)))]) ?_
 refine W.cb (decide ((W6 (a3 - a2)) ≥ 8)) (fun hb => ?_) (fun hb => ?_)
 ·replace h := cond_t hb h
  refine W.seq ?_
  refine W.join (σ := (Int × Int × Int × Int)) (fun s => z0 [(9, .box [I6 s.1]), (10, I6 s.2.1), (11, I6 s.2.2.1), (12, I6 s.2.2.2)]) (fun s => (sl_choosePivotOrdered_byte_j12 a1 (sl_choosePivotOrdered_byte_j10)) s.1 s.2.1 s.2.2.1 s.2.2.2 = some r) (fun s h => ?_) (fun hK12 => ?_)
  ·obtain ⟨v19, v20, v21, v22⟩ := s
   have h : (sl_choosePivotOrdered_byte_j12 a1 (sl_choosePivotOrdered_byte_j10)) v19 v20 v21 v22 = some r := h
   unfold sl_choosePivotOrdered_byte_j12 at h
   refine W.rg ?_
   obtain ⟨w23, hw23, h⟩ := bind_some h
   refine WO.cm 4 [(9, 2000004)] [] (F := 73) (args := [l5 none a1, I6 v20, I6 v21, I6 v22, .pb 2000004 0]) (hp := [(2000004, .box [I6 v19])]) (hp2 := [(2000004, .box [I6 w23.2])]) (r := I6 w23.1) (run_sl_medianOrdered_byte a1 v20 v21 v22 v19 w23 hw23) (e1 := z0 [(9, .box [I6 w23.2]), (10, I6 v20), (11, I6 v21), (12, I6 v22), (44, l5 none a1), (45, I6 v20), (46, I6 v21), (47, I6 v22), (48, I6 w23.1)]) ?_
   refine WO.fin [9, 11] [9] [] [] (e2 := [(9, .ptr (I6 w23.2)), (11, I6 w23.1)]) (by kernel_rfl) (fun _ h => h) ?_
   exact hK10 (w23.2, w23.1) h
  refine W.seq ?_
  let z6 := fun t => z0 ((9, .box [.int .i64 0]) :: (10, I6 (W6 (a2 + (W6 ((W6 (((W6 (a3 - a2))).tdiv 4)) * 1))))) :: (11, I6 (W6 (a2 + (W6 ((W6 (((W6 (a3 - a2))).tdiv 4)) * 2))))) :: (12, I6 (W6 (a2 + (W6 ((W6 (((W6 (a3 - a2))).tdiv 4)) * 3))))) :: t)
  refine W.rt (e2 := z6 [(34, .bool (decide ((W6 (a3 - a2)) ≥ 50)))]) ?_
  refine W.cb (decide ((W6 (a3 - a2)) ≥ 50)) (fun hb => ?_) (fun hb => ?_)
  ·replace h := cond_t hb h
   refine W.seq ?_
   refine W.rg ?_
   obtain ⟨w15, hw15, h⟩ := bind_some h
   refine WO.cm 2 [(9, 2000002)] [] (F := 72) (args := [l5 none a1, I6 (W6 (a2 + (W6 ((W6 (((W6 (a3 - a2))).tdiv 4)) * 1)))), .pb 2000002 0]) (hp := [(2000002, .box [.int .i64 0])]) (hp2 := [(2000002, .box [I6 w15.2])]) (r := I6 w15.1) (run_sl_medianAdjacentOrdered_byte a1 (W6 (a2 + (W6 ((W6 (((W6 (a3 - a2))).tdiv 4)) * 1)))) 0 w15 hw15) (e1 := z0 [(9, .box [I6 w15.2]), (10, I6 (W6 (a2 + (W6 ((W6 (((W6 (a3 - a2))).tdiv 4)) * 1))))), (11, I6 (W6 (a2 + (W6 ((W6 (((W6 (a3 - a2))).tdiv 4)) * 2))))), (12, I6 (W6 (a2 + (W6 ((W6 (((W6 (a3 - a2))).tdiv 4)) * 3))))), (34, .bool (decide ((W6 (a3 - a2)) ≥ 50))), (35, l5 none a1), (36, I6 (W6 (a2 + (W6 ((W6 (((W6 (a3 - a2))).tdiv 4)) * 1))))), (37, I6 w15.1)]) ?_
   refine WO.fn (e2 := z0 [(9, .box [I6 w15.2]), (10, I6 w15.1), (11, I6 (W6 (a2 + (W6 ((W6 (((W6 (a3 - a2))).tdiv 4)) * 2))))), (12, I6 (W6 (a2 + (W6 ((W6 (((W6 (a3 - a2))).tdiv 4)) * 3)))))]) ?_
   refine W.seq ?_
   refine W.rg ?_
   obtain ⟨w17, hw17, h⟩ := bind_some h
   let z7 := fun t => z0 ((9, .box [I6 w17.2]) :: (10, I6 w15.1) :: t)
   refine WO.cm 2 [(9, 2000002)] [] (F := 72) (args := [l5 none a1, I6 (W6 (a2 + (W6 ((W6 (((W6 (a3 - a2))).tdiv 4)) * 2)))), .pb 2000002 0]) (hp := [(2000002, .box [I6 w15.2])]) (hp2 := [(2000002, .box [I6 w17.2])]) (r := I6 w17.1) (run_sl_medianAdjacentOrdered_byte a1 (W6 (a2 + (W6 ((W6 (((W6 (a3 - a2))).tdiv 4)) * 2)))) w15.2 w17 hw17) (e1 := z7 [(11, I6 (W6 (a2 + (W6 ((W6 (((W6 (a3 - a2))).tdiv 4)) * 2))))), (12, I6 (W6 (a2 + (W6 ((W6 (((W6 (a3 - a2))).tdiv 4)) * 3))))), (38, l5 none a1), (39, I6 (W6 (a2 + (W6 ((W6 (((W6 (a3 - a2))).tdiv 4)) * 2))))), (40, I6 w17.1)]) ?_
   refine WO.fn (e2 := z7 [(11, I6 w17.1), (12, I6 (W6 (a2 + (W6 ((W6 (((W6 (a3 - a2))).tdiv 4)) * 3)))))]) ?_
   refine W.rg ?_
   obtain ⟨w18, hw18, h⟩ := bind_some h
   let z8 := fun t => z0 ((9, .box [I6 w18.2]) :: (10, I6 w15.1) :: (11, I6 w17.1) :: t)
   refine WO.cm 2 [(9, 2000002)] [] (F := 72) (args := [l5 none a1, I6 (W6 (a2 + (W6 ((W6 (((W6 (a3 - a2))).tdiv 4)) * 3)))), .pb 2000002 0]) (hp := [(2000002, .box [I6 w17.2])]) (hp2 := [(2000002, .box [I6 w18.2])]) (r := I6 w18.1) (run_sl_medianAdjacentOrdered_byte a1 (W6 (a2 + (W6 ((W6 (((W6 (a3 - a2))).tdiv 4)) * 3)))) w17.2 w18 hw18) (e1 := z8 [(12, I6 (W6 (a2 + (W6 ((W6 (((W6 (a3 - a2))).tdiv 4)) * 3))))), (41, l5 none a1), (42, I6 (W6 (a2 + (W6 ((W6 (((W6 (a3 - a2))).tdiv 4)) * 3))))), (43, I6 w18.1)]) ?_
   refine WO.fn (e2 := z8 [(12, I6 w18.1)]) ?_
   exact hK12 (w18.2, w15.1, w17.1, w18.1) h
  replace h := cond_f hb h
  refine W.skip ?_
  refine W.wk (env' := z6 []) ?_
  exact hK12 (0, (W6 (a2 + (W6 ((W6 (((W6 (a3 - a2))).tdiv 4)) * 1)))), (W6 (a2 + (W6 ((W6 (((W6 (a3 - a2))).tdiv 4)) * 2)))), (W6 (a2 + (W6 ((W6 (((W6 (a3 - a2))).tdiv 4)) * 3))))) h
 replace h := cond_f hb h
 refine W.skip ?_
 refine W.weak [9, 11] [9] [] [] (env' := [(9, .ptr (.int .i64 0)), (11, I6 (W6 (a2 + (W6 ((W6 (((W6 (a3 - a2))).tdiv 4)) * 2)))))]) (by kernel_rfl) ?_
 exact hK10 (0, (W6 (a2 + (W6 ((W6 (((W6 (a3 - a2))).tdiv 4)) * 2))))) h
def sl_reverseRangeOrdered_byte_l1 (n2 : Nat) : Nat → (List Int) → Int → Int → Option (List Int)
 | 0, _, _, _ => none
 | m1 + 1, v7, v8, v9 => (bif (decide (v8 < v9)) then (chk (decide ((0 : Int) ≤ v9 ∧ v9 < ((n2 : Nat) : Int))) ((v7[(0 + Int.toNat v9)]?).bind fun e14 => (chk (decide ((0 : Int) ≤ v8 ∧ v8 < ((n2 : Nat) : Int))) ((v7[(0 + Int.toNat v8)]?).bind fun e16 => (chk (decide ((0 : Int) ≤ v8 ∧ v8 < ((n2 : Nat) : Int))) ((upd v7 (0 + Int.toNat v8) e14).bind fun u18 => (chk (decide ((0 : Int) ≤ v9 ∧ v9 < ((n2 : Nat) : Int))) ((upd u18 (0 + Int.toNat v9) e16).bind fun u21 => ((sl_reverseRangeOrdered_byte_l1 n2 m1) u21 (IntKind.wrap .i64 (v8 + 1)) (IntKind.wrap .i64 (v9 - 1))))))))))) else (some v7))
def sl_reverseRangeOrdered_byte (fuel : Nat) (a1 : (List Int)) (n2 : Nat) (a3 : Int) (a4 : Int) : Option (List Int) :=
 (sl_reverseRangeOrdered_byte_l1 n2 fuel a1 a3 (IntKind.wrap .i64 (a4 - 1)))
theorem run_sl_reverseRangeOrdered_byte (fuel : Nat) (a1 : (List Int)) (n2 : Nat) (a3 : Int) (a4 : Int) (r : (List Int)) (h : sl_reverseRangeOrdered_byte fuel a1 n2 a3 a4 = some r) : Run Tryd.prog (.callM 52 [S1 n2, I6 a3, I6 a4] [O1 a1] (.tup []) [O1 r]) := by
 refine cM Tryd.func52 rfl (env0 := [(0, S1 n2), (1, I6 a3), (2, I6 a4), O1 a1]) ?_
 unfold sl_reverseRangeOrdered_byte at h
 refine W.seq ?_
 let z0 := fun t => EN ((0, S1 n2) :: t)
 refine W.rt (e2 := z0 [(2, I6 a4), (6, I6 a3), O1 a1]) ?_
 refine W.seq ?_
 let z1 := fun t => z0 ((6, I6 a3) :: (7, I6 (W6 (a4 - 1))) :: O1 a1 :: t)
 refine W.rt (e2 := z1 []) ?_
 refine W.block ?_
 refine W.wk (env' := z1 []) ?_
 refine W.fuel (σ := ((List Int) × Int × Int)) (fun s => z0 [(6, I6 s.2.1), (7, I6 s.2.2), (2000000, .obj 1000000005 1 (M8 s.1))]) (fun m0 s => sl_reverseRangeOrdered_byte_l1 n2 m0 s.1 s.2.1 s.2.2 = some r) (fun s h => ?_) (fun m1 s h hN1 => ?_) fuel (a1, a3, (W6 (a4 - 1))) h
 ·obtain ⟨v7, v8, v9⟩ := s
  have h : sl_reverseRangeOrdered_byte_l1 n2 0 v7 v8 v9 = some r := h
  rw [sl_reverseRangeOrdered_byte_l1.eq_1] at h
  cases h
 ·obtain ⟨v7, v8, v9⟩ := s
  have h : sl_reverseRangeOrdered_byte_l1 n2 (m1 + 1) v7 v8 v9 = some r := h
  rw [sl_reverseRangeOrdered_byte_l1.eq_2] at h
  refine W.seq ?_
  refine W.seq ?_
  let z2 := fun t => z0 ((6, I6 v8) :: (7, I6 v9) :: t)
  let z3 := fun t => z2 ((13, .bool (decide (v8 < v9))) :: O1 v7 :: t)
  refine W.rt (e2 := z3 []) ?_
  refine W.cb (decide (v8 < v9)) (fun hb => ?_) (fun hb => ?_)
  ·replace h := cond_t hb h
   refine W.skip ?_
   refine W.wk (env' := z2 [O1 v7]) ?_
   refine W.block ?_
   refine W.seq ?_
   refine W.rg ?_
   obtain ⟨hc13, h⟩ := chk_some h
   let z4 := fun t => z2 ((14, S1 n2) :: (15, I6 v8) :: (16, S1 n2) :: (17, I6 v9) :: (18, S1 n2) :: (19, I6 v9) :: (20, .pe 2000000 1 (0 + Int.toNat v9) 0) :: t)
   refine WO.pi 6 (v := .pe 2000000 1 (0 + Int.toNat v9) 0) hc13 (e1 := z4 [O1 v7]) ?_
   obtain ⟨e14, he14, h⟩ := bind_some h
   let z5 := fun t => z4 ((21, .int .u8 e14) :: t)
   refine WO.pk 0 (match (M8 v7)[(0 + Int.toNat v9)]? with | some y => cut Tryd.prog 5 (y.cells.map AV.strip) 0 | none => none) (v := .int .u8 e14) ((pe_ld (f := (AV.int .u8)) (G := (fun y => cut Tryd.prog 5 (y.cells.map AV.strip) 0)) he14).trans (by kernel_rfl)) (e1 := z5 [O1 v7]) ?_
   obtain ⟨hc15, h⟩ := chk_some h
   let z6 := fun t => z5 ((22, S1 n2) :: (23, I6 v8) :: (24, .pe 2000000 1 (0 + Int.toNat v8) 0) :: t)
   refine WO.pi 2 (v := .pe 2000000 1 (0 + Int.toNat v8) 0) hc15 (e1 := z6 [O1 v7]) ?_
   obtain ⟨e16, he16, h⟩ := bind_some h
   let z7 := fun t => z6 ((25, .int .u8 e16) :: t)
   refine WO.pk 0 (match (M8 v7)[(0 + Int.toNat v8)]? with | some y => cut Tryd.prog 5 (y.cells.map AV.strip) 0 | none => none) (v := .int .u8 e16) ((pe_ld (f := (AV.int .u8)) (G := (fun y => cut Tryd.prog 5 (y.cells.map AV.strip) 0)) he16).trans (by kernel_rfl)) (e1 := z7 [O1 v7]) ?_
   obtain ⟨hc17, h⟩ := chk_some h
   let z8 := fun t => z7 ((26, .pe 2000000 1 (0 + Int.toNat v8) 0) :: t)
   refine WO.pi 0 (v := .pe 2000000 1 (0 + Int.toNat v8) 0) hc17 (e1 := z8 [O1 v7]) ?_
   obtain ⟨u18, hu18, h⟩ := bind_some h
   obtain ⟨y19, hyy19, hzy19⟩ := upd_some hu18
   refine WO.sk 0 (id := 2000000) (e := 1000000005) (s := 1) (off := 0) (vs := [.int .u8 e14]) (AV.int .u8) hyy19 hzy19 (e1 := z8 [O1 u18]) ?_
   obtain ⟨hc20, h⟩ := chk_some h
   let z9 := fun t => z8 ((27, .pe 2000000 1 (0 + Int.toNat v9) 0) :: t)
   refine WO.pi 0 (v := .pe 2000000 1 (0 + Int.toNat v9) 0) hc20 (e1 := z9 [O1 u18]) ?_
   obtain ⟨u21, hu21, h⟩ := bind_some h
   obtain ⟨y22, hyy22, hzy22⟩ := upd_some hu21
   refine WO.sk 0 (id := 2000000) (e := 1000000005) (s := 1) (off := 0) (vs := [.int .u8 e16]) (AV.int .u8) hyy22 hzy22 (e1 := z9 [O1 u21]) ?_
   refine WO.fn (e2 := z2 [O1 u21]) ?_
   refine W.seq ?_
   refine W.rt (e2 := z0 [(6, I6 (W6 (v8 + 1))), (7, I6 v9), O1 u21]) ?_
   refine W.rt (e2 := z0 [(6, I6 (W6 (v8 + 1))), (7, I6 (W6 (v9 - 1))), O1 u21]) ?_
   exact hN1 (u21, (W6 (v8 + 1)), (W6 (v9 - 1))) h
  replace h := cond_f hb h
  have hr : PostM Tryd.prog Tryd.f52 (.tup []) [O1 v7] .normal (z3 []) := ⟨by kernel_rfl, by kernel_rfl⟩
  cases h
  exact W.exit hr
def sl_partialInsertionSortOrdered_byte_j7 (v95 : (List Int)) : Option (Bool × (List Int)) :=
 (some (false, v95))
def sl_partialInsertionSortOrdered_byte_j14 (v11 : Int) (N1 : ((List Int) → Int → Int → Option (Bool × (List Int)))) (v93 : (List Int)) (v94 : Int) : Option (Bool × (List Int)) :=
 (N1 v93 v94 (IntKind.wrap .i64 (v11 + 1)))
def sl_partialInsertionSortOrdered_byte_l4 (n2 : Nat) (a4 : Int) (v25 : Int) (K14 : ((List Int) → Int → Option (Bool × (List Int)))) : Nat → (List Int) → Int → Option (Bool × (List Int))
 | 0, _, _ => none
 | m4 + 1, v71, v72 => (bif (decide (v72 < a4)) then (chk (decide ((0 : Int) ≤ v72 ∧ v72 < ((n2 : Nat) : Int))) ((v71[(0 + Int.toNat v72)]?).bind fun e79 => (chk (decide ((0 : Int) ≤ (IntKind.wrap .i64 (v72 - 1)) ∧ (IntKind.wrap .i64 (v72 - 1)) < ((n2 : Nat) : Int))) ((v71[(0 + Int.toNat (IntKind.wrap .i64 (v72 - 1)))]?).bind fun e81 => ((cm_Less_byte e79 e81).bind fun w82 => (bif (!w82) then (K14 v71 v25) else (chk (decide ((0 : Int) ≤ (IntKind.wrap .i64 (v72 - 1)) ∧ (IntKind.wrap .i64 (v72 - 1)) < ((n2 : Nat) : Int))) ((v71[(0 + Int.toNat (IntKind.wrap .i64 (v72 - 1)))]?).bind fun e84 => (chk (decide ((0 : Int) ≤ v72 ∧ v72 < ((n2 : Nat) : Int))) ((v71[(0 + Int.toNat v72)]?).bind fun e86 => (chk (decide ((0 : Int) ≤ v72 ∧ v72 < ((n2 : Nat) : Int))) ((upd v71 (0 + Int.toNat v72) e84).bind fun u88 => (chk (decide ((0 : Int) ≤ (IntKind.wrap .i64 (v72 - 1)) ∧ (IntKind.wrap .i64 (v72 - 1)) < ((n2 : Nat) : Int))) ((upd u88 (0 + Int.toNat (IntKind.wrap .i64 (v72 - 1))) e86).bind fun u91 => ((sl_partialInsertionSortOrdered_byte_l4 n2 a4 v25 K14 m4) u91 (IntKind.wrap .i64 (v72 + 1))))))))))))))))) else (K14 v71 v25))
def sl_partialInsertionSortOrdered_byte_j43 (fuel : Nat) (n2 : Nat) (a4 : Int) (v25 : Int) (K14 : ((List Int) → Int → Option (Bool × (List Int)))) (v68 : (List Int)) : Option (Bool × (List Int)) :=
 (bif (decide ((IntKind.wrap .i64 (a4 - v25)) ≥ 2)) then (sl_partialInsertionSortOrdered_byte_l4 n2 a4 v25 K14 fuel v68 (IntKind.wrap .i64 (v25 + 1))) else (K14 v68 v25))
def sl_partialInsertionSortOrdered_byte_l3 (n2 : Nat) (K43 : ((List Int) → Option (Bool × (List Int)))) : Nat → (List Int) → Int → Option (Bool × (List Int))
 | 0, _, _ => none
 | m3 + 1, v46, v47 => (bif (decide (v47 ≥ 1)) then (chk (decide ((0 : Int) ≤ v47 ∧ v47 < ((n2 : Nat) : Int))) ((v46[(0 + Int.toNat v47)]?).bind fun e54 => (chk (decide ((0 : Int) ≤ (IntKind.wrap .i64 (v47 - 1)) ∧ (IntKind.wrap .i64 (v47 - 1)) < ((n2 : Nat) : Int))) ((v46[(0 + Int.toNat (IntKind.wrap .i64 (v47 - 1)))]?).bind fun e56 => ((cm_Less_byte e54 e56).bind fun w57 => (bif (!w57) then (K43 v46) else (chk (decide ((0 : Int) ≤ (IntKind.wrap .i64 (v47 - 1)) ∧ (IntKind.wrap .i64 (v47 - 1)) < ((n2 : Nat) : Int))) ((v46[(0 + Int.toNat (IntKind.wrap .i64 (v47 - 1)))]?).bind fun e59 => (chk (decide ((0 : Int) ≤ v47 ∧ v47 < ((n2 : Nat) : Int))) ((v46[(0 + Int.toNat v47)]?).bind fun e61 => (chk (decide ((0 : Int) ≤ v47 ∧ v47 < ((n2 : Nat) : Int))) ((upd v46 (0 + Int.toNat v47) e59).bind fun u63 => (chk (decide ((0 : Int) ≤ (IntKind.wrap .i64 (v47 - 1)) ∧ (IntKind.wrap .i64 (v47 - 1)) < ((n2 : Nat) : Int))) ((upd u63 (0 + Int.toNat (IntKind.wrap .i64 (v47 - 1))) e61).bind fun u66 => ((sl_partialInsertionSortOrdered_byte_l3 n2 K43 m3) u66 (IntKind.wrap .i64 (v47 - 1))))))))))))))))) else (K43 v46))
def sl_partialInsertionSortOrdered_byte_j15 (fuel : Nat) (n2 : Nat) (a3 : Int) (a4 : Int) (v9 : (List Int)) (K14 : ((List Int) → Int → Option (Bool × (List Int)))) (v25 : Int) : Option (Bool × (List Int)) :=
 (bif (v25 == a4) then (some (true, v9)) else (bif (decide ((IntKind.wrap .i64 (a4 - a3)) < 50)) then (some (false, v9)) else (chk (decide ((0 : Int) ≤ (IntKind.wrap .i64 (v25 - 1)) ∧ (IntKind.wrap .i64 (v25 - 1)) < ((n2 : Nat) : Int))) ((v9[(0 + Int.toNat (IntKind.wrap .i64 (v25 - 1)))]?).bind fun e34 => (chk (decide ((0 : Int) ≤ v25 ∧ v25 < ((n2 : Nat) : Int))) ((v9[(0 + Int.toNat v25)]?).bind fun e36 => (chk (decide ((0 : Int) ≤ v25 ∧ v25 < ((n2 : Nat) : Int))) ((upd v9 (0 + Int.toNat v25) e34).bind fun u38 => (chk (decide ((0 : Int) ≤ (IntKind.wrap .i64 (v25 - 1)) ∧ (IntKind.wrap .i64 (v25 - 1)) < ((n2 : Nat) : Int))) ((upd u38 (0 + Int.toNat (IntKind.wrap .i64 (v25 - 1))) e36).bind fun u41 => (bif (decide ((IntKind.wrap .i64 (v25 - a3)) ≥ 2)) then (sl_partialInsertionSortOrdered_byte_l3 n2 (sl_partialInsertionSortOrdered_byte_j43 fuel n2 a4 v25 K14) fuel u41 (IntKind.wrap .i64 (v25 - 1))) else ((sl_partialInsertionSortOrdered_byte_j43 fuel n2 a4 v25 K14) u41))))))))))))
def sl_partialInsertionSortOrdered_byte_j18 (v16 : Int) (N2 : (Int → Option (Bool × (List Int)))) (K15 : (Int → Option (Bool × (List Int)))) (v24 : Bool) : Option (Bool × (List Int)) :=
 (bif v24 then (N2 (IntKind.wrap .i64 (v16 + 1))) else (K15 v16))
def sl_partialInsertionSortOrdered_byte_l2 (n2 : Nat) (a4 : Int) (v9 : (List Int)) (K15 : (Int → Option (Bool × (List Int)))) : Nat → Int → Option (Bool × (List Int))
 | 0, _ => none
 | m2 + 1, v16 => (bif (decide (v16 < a4)) then (chk (decide ((0 : Int) ≤ v16 ∧ v16 < ((n2 : Nat) : Int))) ((v9[(0 + Int.toNat v16)]?).bind fun e20 => (chk (decide ((0 : Int) ≤ (IntKind.wrap .i64 (v16 - 1)) ∧ (IntKind.wrap .i64 (v16 - 1)) < ((n2 : Nat) : Int))) ((v9[(0 + Int.toNat (IntKind.wrap .i64 (v16 - 1)))]?).bind fun e22 => ((cm_Less_byte e20 e22).bind fun w23 => ((sl_partialInsertionSortOrdered_byte_j18 v16 (sl_partialInsertionSortOrdered_byte_l2 n2 a4 v9 K15 m2) K15) (!w23))))))) else ((sl_partialInsertionSortOrdered_byte_j18 v16 (sl_partialInsertionSortOrdered_byte_l2 n2 a4 v9 K15 m2) K15) false))
def sl_partialInsertionSortOrdered_byte_l1 (fuel : Nat) (n2 : Nat) (a3 : Int) (a4 : Int) (K7 : ((List Int) → Option (Bool × (List Int)))) : Nat → (List Int) → Int → Int → Option (Bool × (List Int))
 | 0, _, _, _ => none
 | m1 + 1, v9, v10, v11 => (bif (decide (v11 < 5)) then (sl_partialInsertionSortOrdered_byte_l2 n2 a4 v9 (sl_partialInsertionSortOrdered_byte_j15 fuel n2 a3 a4 v9 (sl_partialInsertionSortOrdered_byte_j14 v11 (sl_partialInsertionSortOrdered_byte_l1 fuel n2 a3 a4 K7 m1))) fuel v10) else (K7 v9))
def sl_partialInsertionSortOrdered_byte (fuel : Nat) (a1 : (List Int)) (n2 : Nat) (a3 : Int) (a4 : Int) : Option (Bool × (List Int)) :=
 (sl_partialInsertionSortOrdered_byte_l1 fuel n2 a3 a4 (sl_partialInsertionSortOrdered_byte_j7) fuel a1 (IntKind.wrap .i64 (a3 + 1)) 0)
theorem run_sl_partialInsertionSortOrdered_byte (fuel : Nat) (a1 : (List Int)) (n2 : Nat) (a3 : Int) (a4 : Int) (r : (Bool × (List Int))) (h : sl_partialInsertionSortOrdered_byte fuel a1 n2 a3 a4 = some r) : Run Tryd.prog (.callM 53 [S1 n2, I6 a3, I6 a4] [O1 a1] (.bool r.1) [(2000000, .obj 1000000005 1 (M8 r.2))]) := by
 refine cM Tryd.func53 rfl (env0 := [(0, S1 n2), (1, I6 a3), (2, I6 a4), O1 a1]) ?_
 unfold sl_partialInsertionSortOrdered_byte at h
 refine W.seq ?_
 let z0 := fun t => EN ((0, S1 n2) :: (1, I6 a3) :: (2, I6 a4) :: t)
 refine W.rt (e2 := z0 [O1 a1]) ?_
 refine W.seq ?_
 let z1 := fun t => z0 ((7, I6 (W6 (a3 + 1))) :: t)
 refine W.rt (e2 := z1 [O1 a1]) ?_
 refine W.seq ?_
 refine W.join (σ := ((List Int))) (fun s => [O1 s]) (fun s => (sl_partialInsertionSortOrdered_byte_j7) s = some r) (fun s h => ?_) (fun hK7 => ?_)
 ·obtain ⟨v95, rfl⟩ : ∃ x, x = s := ⟨s, rfl⟩
  have h : (sl_partialInsertionSortOrdered_byte_j7) v95 = some r := h
  unfold sl_partialInsertionSortOrdered_byte_j7 at h
  refine W.seq ?_
  refine W.rt (e2 := [(6, .bool false), O1 v95]) ?_
  refine W.wk (env' := [(6, .bool false), O1 v95]) ?_
  have hr : PostM Tryd.prog Tryd.f53 (.bool false) [O1 v95] .ret [(6, .bool false), O1 v95] := ⟨by kernel_rfl, by kernel_rfl⟩
  cases h
  exact W.ret hr
 refine W.seq ?_
 refine W.rt (e2 := z1 [(8, .int .i64 0), O1 a1]) ?_
 refine W.block ?_
 refine W.wk (env' := z1 [(8, .int .i64 0), O1 a1]) ?_
 refine W.fuel (σ := ((List Int) × Int × Int)) (fun s => z0 [(7, I6 s.2.1), (8, I6 s.2.2), (2000000, .obj 1000000005 1 (M8 s.1))]) (fun m0 s => sl_partialInsertionSortOrdered_byte_l1 fuel n2 a3 a4 (sl_partialInsertionSortOrdered_byte_j7) m0 s.1 s.2.1 s.2.2 = some r) (fun s h => ?_) (fun m1 s h hN1 => ?_) fuel (a1, (W6 (a3 + 1)), 0) h
 ·obtain ⟨v9, v10, v11⟩ := s
  have h : sl_partialInsertionSortOrdered_byte_l1 fuel n2 a3 a4 (sl_partialInsertionSortOrdered_byte_j7) 0 v9 v10 v11 = some r := h
  rw [sl_partialInsertionSortOrdered_byte_l1.eq_1] at h
  cases h
 ·obtain ⟨v9, v10, v11⟩ := s
  have h : sl_partialInsertionSortOrdered_byte_l1 fuel n2 a3 a4 (sl_partialInsertionSortOrdered_byte_j7) (m1 + 1) v9 v10 v11 = some r := h
  rw [sl_partialInsertionSortOrdered_byte_l1.eq_2] at h
  refine W.seq ?_
  refine W.seq ?_
  let z2 := fun t => z0 ((7, I6 v10) :: (8, I6 v11) :: t)
  refine W.rt (e2 := z2 [(14, .bool (decide (v11 < 5))), O1 v9]) ?_
  refine W.cb (decide (v11 < 5)) (fun hb => ?_) (fun hb => ?_)
  ·replace h := cond_t hb h
   refine W.skip ?_
   refine W.wk (env' := z2 [O1 v9]) ?_
   refine W.seq ?_
   refine W.join (σ := ((List Int) × Int)) (fun s => z0 [(7, I6 s.2), (8, I6 v11), (2000000, .obj 1000000005 1 (M8 s.1))]) (fun s => (sl_partialInsertionSortOrdered_byte_j14 v11 (sl_partialInsertionSortOrdered_byte_l1 fuel n2 a3 a4 (sl_partialInsertionSortOrdered_byte_j7) m1)) s.1 s.2 = some r) (fun s h => ?_) (fun hK14 => ?_)
   ·obtain ⟨v93, v94⟩ := s
    have h : (sl_partialInsertionSortOrdered_byte_j14 v11 (sl_partialInsertionSortOrdered_byte_l1 fuel n2 a3 a4 (sl_partialInsertionSortOrdered_byte_j7) m1)) v93 v94 = some r := h
    unfold sl_partialInsertionSortOrdered_byte_j14 at h
    refine W.rt (e2 := z0 [(7, I6 v94), (8, I6 (W6 (v11 + 1))), O1 v93]) ?_
    exact hN1 (v93, v94, (W6 (v11 + 1))) h
   refine W.block ?_
   refine W.seq ?_
   refine W.join (σ := (Int)) (fun s => z0 [(7, I6 s), (8, I6 v11), O1 v9]) (fun s => (sl_partialInsertionSortOrdered_byte_j15 fuel n2 a3 a4 v9 (sl_partialInsertionSortOrdered_byte_j14 v11 (sl_partialInsertionSortOrdered_byte_l1 fuel n2 a3 a4 (sl_partialInsertionSortOrdered_byte_j7) m1))) s = some r) (fun s h => ?_) (fun hK15 => ?_)
   ·obtain ⟨v25, rfl⟩ : ∃ x, x = s := ⟨s, rfl⟩
    have h : (sl_partialInsertionSortOrdered_byte_j15 fuel n2 a3 a4 v9 (sl_partialInsertionSortOrdered_byte_j14 v11 (sl_partialInsertionSortOrdered_byte_l1 fuel n2 a3 a4 (sl_partialInsertionSortOrdered_byte_j7) m1))) v25 = some r := h
    unfold sl_partialInsertionSortOrdered_byte_j15 at h
    refine W.seq ?_
    refine W.seq ?_
    let z3 := fun t => z0 ((7, I6 v25) :: (8, I6 v11) :: t)
    refine W.rt (e2 := z3 [(37, .bool (v25 == a4)), O1 v9]) ?_
    refine W.cb (v25 == a4) (fun hb => ?_) (fun hb => ?_)
    ·replace h := cond_t hb h
     refine W.seq ?_
     refine W.rt (e2 := [(6, .bool true), O1 v9]) ?_
     refine W.wk (env' := [(6, .bool true), O1 v9]) ?_
     have hr : PostM Tryd.prog Tryd.f53 (.bool true) [O1 v9] .ret [(6, .bool true), O1 v9] := ⟨by kernel_rfl, by kernel_rfl⟩
     cases h
     exact W.ret hr
    replace h := cond_f hb h
    refine W.skip ?_
    refine W.wk (env' := z3 [O1 v9]) ?_
    refine W.seq ?_
    refine W.seq ?_
    refine W.rt (e2 := z3 [(41, .bool (decide ((W6 (a4 - a3)) < 50))), O1 v9]) ?_
    refine W.cb (decide ((W6 (a4 - a3)) < 50)) (fun hb => ?_) (fun hb => ?_)
    ·replace h := cond_t hb h
     refine W.seq ?_
     refine W.rt (e2 := [(6, .bool false), O1 v9]) ?_
     refine W.wk (env' := [(6, .bool false), O1 v9]) ?_
     have hr : PostM Tryd.prog Tryd.f53 (.bool false) [O1 v9] .ret [(6, .bool false), O1 v9] := ⟨by kernel_rfl, by kernel_rfl⟩
     cases h
     exact W.ret hr
    replace h := cond_f hb h
    refine W.skip ?_
    refine W.wk (env' := z3 [O1 v9]) ?_
    refine W.seq ?_
    refine W.rg ?_
    obtain ⟨hc33, h⟩ := chk_some h
    let z4 := fun t => z3 ((42, S1 n2) :: (43, I6 v25) :: (44, S1 n2) :: (45, I6 v25) :: (46, I6 (W6 (v25 - 1))) :: (47, S1 n2) :: (48, I6 v25) :: (49, I6 (W6 (v25 - 1))) :: (50, .pe 2000000 1 (0 + Int.toNat (W6 (v25 - 1))) 0) :: t)
    refine WO.pi 8 (v := .pe 2000000 1 (0 + Int.toNat (W6 (v25 - 1))) 0) hc33 (e1 := z4 [O1 v9]) ?_
    obtain ⟨e34, he34, h⟩ := bind_some h
    let z5 := fun t => z4 ((51, .int .u8 e34) :: t)
    refine WO.pk 0 (match (M8 v9)[(0 + Int.toNat (W6 (v25 - 1)))]? with | some y => cut Tryd.prog 5 (y.cells.map AV.strip) 0 | none => none) (v := .int .u8 e34) ((pe_ld (f := (AV.int .u8)) (G := (fun y => cut Tryd.prog 5 (y.cells.map AV.strip) 0)) he34).trans (by kernel_rfl)) (e1 := z5 [O1 v9]) ?_
    obtain ⟨hc35, h⟩ := chk_some h
    let z6 := fun t => z5 ((52, S1 n2) :: (53, I6 v25) :: (54, .pe 2000000 1 (0 + Int.toNat v25) 0) :: t)
    refine WO.pi 2 (v := .pe 2000000 1 (0 + Int.toNat v25) 0) hc35 (e1 := z6 [O1 v9]) ?_
    obtain ⟨e36, he36, h⟩ := bind_some h
    let z7 := fun t => z6 ((55, .int .u8 e36) :: t)
    refine WO.pk 0 (match (M8 v9)[(0 + Int.toNat v25)]? with | some y => cut Tryd.prog 5 (y.cells.map AV.strip) 0 | none => none) (v := .int .u8 e36) ((pe_ld (f := (AV.int .u8)) (G := (fun y => cut Tryd.prog 5 (y.cells.map AV.strip) 0)) he36).trans (by kernel_rfl)) (e1 := z7 [O1 v9]) ?_
    obtain ⟨hc37, h⟩ := chk_some h
    let z8 := fun t => z7 ((56, .pe 2000000 1 (0 + Int.toNat v25) 0) :: t)
    refine WO.pi 0 (v := .pe 2000000 1 (0 + Int.toNat v25) 0) hc37 (e1 := z8 [O1 v9]) ?_
    obtain ⟨u38, hu38, h⟩ := bind_some h
    obtain ⟨y39, hyy39, hzy39⟩ := upd_some hu38
    refine WO.sk 0 (id := 2000000) (e := 1000000005) (s := 1) (off := 0) (vs := [.int .u8 e34]) (AV.int .u8) hyy39 hzy39 (e1 := z8 [O1 u38]) ?_
    obtain ⟨hc40, h⟩ := chk_some h
    let z9 := fun t => z8 ((57, .pe 2000000 1 (0 + Int.toNat (W6 (v25 - 1))) 0) :: t)
    refine WO.pi 0 (v := .pe 2000000 1 (0 + Int.toNat (W6 (v25 - 1))) 0) hc40 (e1 := z9 [O1 u38]) ?_
    obtain ⟨u41, hu41, h⟩ := bind_some h
    obtain ⟨y42, hyy42, hzy42⟩ := upd_some hu41
    refine WO.sk 0 (id := 2000000) (e := 1000000005) (s := 1) (off := 0) (vs := [.int .u8 e36]) (AV.int .u8) hyy42 hzy42 (e1 := z9 [O1 u41]) ?_
    refine WO.fn (e2 := z3 [O1 u41]) ?_
    refine W.seq ?_
    refine W.join (σ := ((List Int))) (fun s => z3 [O1 s]) (fun s => (sl_partialInsertionSortOrdered_byte_j43 fuel n2 a4 v25 (sl_partialInsertionSortOrdered_byte_j14 v11 (sl_partialInsertionSortOrdered_byte_l1 fuel n2 a3 a4 (sl_partialInsertionSortOrdered_byte_j7) m1))) s = some r) (fun s h => ?_) (fun hK43 => ?_)
    ·obtain ⟨v68, rfl⟩ : ∃ x, x = s := ⟨s, rfl⟩
     have h : (sl_partialInsertionSortOrdered_byte_j43 fuel n2 a4 v25 (sl_partialInsertionSortOrdered_byte_j14 v11 (sl_partialInsertionSortOrdered_byte_l1 fuel n2 a3 a4 (sl_partialInsertionSortOrdered_byte_j7) m1))) v68 = some r := h
     unfold sl_partialInsertionSortOrdered_byte_j43 at h
     refine W.seq ?_
     refine W.rt (e2 := z3 [(98, .bool (decide ((W6 (a4 - v25)) ≥ 2))), O1 v68]) ?_
     refine W.cb (decide ((W6 (a4 - v25)) ≥ 2)) (fun hb => ?_) (fun hb => ?_)
     ·replace h := cond_t hb h
      refine W.seq ?_
      refine W.rt (e2 := z3 [(10, I6 (W6 (v25 + 1))), O1 v68]) ?_
      refine W.block ?_
      refine W.wk (env' := z3 [(10, I6 (W6 (v25 + 1))), O1 v68]) ?_
      refine W.fuel (σ := ((List Int) × Int)) (fun s => z3 [(10, I6 s.2), (2000000, .obj 1000000005 1 (M8 s.1))]) (fun m0 s => sl_partialInsertionSortOrdered_byte_l4 n2 a4 v25 (sl_partialInsertionSortOrdered_byte_j14 v11 (sl_partialInsertionSortOrdered_byte_l1 fuel n2 a3 a4 (sl_partialInsertionSortOrdered_byte_j7) m1)) m0 s.1 s.2 = some r) (fun s h => ?_) (fun m4 s h hN4 => ?_) fuel (v68, (W6 (v25 + 1))) h
      ·obtain ⟨v71, v72⟩ := s
       have h : sl_partialInsertionSortOrdered_byte_l4 n2 a4 v25 (sl_partialInsertionSortOrdered_byte_j14 v11 (sl_partialInsertionSortOrdered_byte_l1 fuel n2 a3 a4 (sl_partialInsertionSortOrdered_byte_j7) m1)) 0 v71 v72 = some r := h
       rw [sl_partialInsertionSortOrdered_byte_l4.eq_1] at h
       cases h
      ·obtain ⟨v71, v72⟩ := s
       have h : sl_partialInsertionSortOrdered_byte_l4 n2 a4 v25 (sl_partialInsertionSortOrdered_byte_j14 v11 (sl_partialInsertionSortOrdered_byte_l1 fuel n2 a3 a4 (sl_partialInsertionSortOrdered_byte_j7) m1)) (m4 + 1) v71 v72 = some r := h
       rw [sl_partialInsertionSortOrdered_byte_l4.eq_2] at h
       refine W.seq ?_
       refine W.seq ?_
       let z10 := fun t => z3 ((10, I6 v72) :: t)
       refine W.rt (e2 := z10 [(103, .bool (decide (v72 < a4))), O1 v71]) ?_
       refine W.cb (decide (v72 < a4)) (fun hb => ?_) (fun hb => ?_)
       ·replace h := cond_t hb h
        refine W.skip ?_
        refine W.wk (env' := z10 [O1 v71]) ?_
        refine W.seq ?_
        refine W.block ?_
        refine W.seq ?_
        refine W.seq ?_
        refine W.rg ?_
        obtain ⟨hc78, h⟩ := chk_some h
        let z11 := fun t => z10 ((106, S1 n2) :: (107, I6 v72) :: (108, .pe 2000000 1 (0 + Int.toNat v72) 0) :: t)
        refine WO.pi 2 (v := .pe 2000000 1 (0 + Int.toNat v72) 0) hc78 (e1 := z11 [O1 v71]) ?_
        obtain ⟨e79, he79, h⟩ := bind_some h
        let z12 := fun t => z11 ((109, .int .u8 e79) :: t)
        refine WO.pk 0 (match (M8 v71)[(0 + Int.toNat v72)]? with | some y => cut Tryd.prog 5 (y.cells.map AV.strip) 0 | none => none) (v := .int .u8 e79) ((pe_ld (f := (AV.int .u8)) (G := (fun y => cut Tryd.prog 5 (y.cells.map AV.strip) 0)) he79).trans (by kernel_rfl)) (e1 := z12 [O1 v71]) ?_
        obtain ⟨hc80, h⟩ := chk_some h
        let z13 := fun t => z12 ((110, S1 n2) :: (111, I6 v72) :: (112, I6 (W6 (v72 - 1))) :: (113, .pe 2000000 1 (0 + Int.toNat (W6 (v72 - 1))) 0) :: t)
        refine WO.pi 3 (v := .pe 2000000 1 (0 + Int.toNat (W6 (v72 - 1))) 0) hc80 (e1 := z13 [O1 v71]) ?_
        obtain ⟨e81, he81, h⟩ := bind_some h
        refine WO.pk 0 (match (M8 v71)[(0 + Int.toNat (W6 (v72 - 1)))]? with | some y => cut Tryd.prog 5 (y.cells.map AV.strip) 0 | none => none) (v := .int .u8 e81) ((pe_ld (f := (AV.int .u8)) (G := (fun y => cut Tryd.prog 5 (y.cells.map AV.strip) 0)) he81).trans (by kernel_rfl)) (e1 := z13 [(114, .int .u8 e81), O1 v71]) ?_
        obtain ⟨w82, hw82, h⟩ := bind_some h
        refine WO.ck 0 (F := 54) (l := [.int .u8 e79, .int .u8 e81]) (C := []) (r := .bool w82) (run_cm_Less_byte e79 e81 w82 hw82) (e1 := z13 [(114, .int .u8 e81), (115, .bool w82), O1 v71]) ?_
        refine WO.fn (e2 := z10 [(116, .bool (!w82)), O1 v71]) ?_
        refine W.cb (!w82) (fun hb => ?_) (fun hb => ?_)
        ·replace h := cond_t hb h
         refine W.exit ?_
         refine W.wk (env' := z3 [O1 v71]) ?_
         exact hK14 (v71, v25) h
        replace h := cond_f hb h
        refine W.skip ?_
        refine W.wk (env' := z10 [O1 v71]) ?_
        refine W.rg ?_
        obtain ⟨hc83, h⟩ := chk_some h
        let z14 := fun t => z10 ((117, S1 n2) :: (118, I6 v72) :: (119, S1 n2) :: (120, I6 v72) :: (121, I6 (W6 (v72 - 1))) :: (122, S1 n2) :: (123, I6 v72) :: (124, I6 (W6 (v72 - 1))) :: (125, .pe 2000000 1 (0 + Int.toNat (W6 (v72 - 1))) 0) :: t)
        refine WO.pi 8 (v := .pe 2000000 1 (0 + Int.toNat (W6 (v72 - 1))) 0) hc83 (e1 := z14 [O1 v71]) ?_
        obtain ⟨e84, he84, h⟩ := bind_some h
        let z15 := fun t => z14 ((126, .int .u8 e84) :: t)
        refine WO.pk 0 (match (M8 v71)[(0 + Int.toNat (W6 (v72 - 1)))]? with | some y => cut Tryd.prog 5 (y.cells.map AV.strip) 0 | none => none) (v := .int .u8 e84) ((pe_ld (f := (AV.int .u8)) (G := (fun y => cut Tryd.prog 5 (y.cells.map AV.strip) 0)) he84).trans (by kernel_rfl)) (e1 := z15 [O1 v71]) ?_
        obtain ⟨hc85, h⟩ := chk_some h
        let z16 := fun t => z15 ((127, S1 n2) :: (128, I6 v72) :: (129, .pe 2000000 1 (0 + Int.toNat v72) 0) :: t)
        refine WO.pi 2 (v := .pe 2000000 1 (0 + Int.toNat v72) 0) hc85 (e1 := z16 [O1 v71]) ?_
        obtain ⟨e86, he86, h⟩ := bind_some h
        let z17 := fun t => z16 ((130, .int .u8 e86) :: t)
        refine WO.pk 0 (match (M8 v71)[(0 + Int.toNat v72)]? with | some y => cut Tryd.prog 5 (y.cells.map AV.strip) 0 | none => none) (v := .int .u8 e86) ((pe_ld (f := (AV.int .u8)) (G := (fun y => cut Tryd.prog 5 (y.cells.map AV.strip) 0)) he86).trans (by kernel_rfl)) (e1 := z17 [O1 v71]) ?_
        obtain ⟨hc87, h⟩ := chk_some h
        let z18 := fun t => z17 ((131, .pe 2000000 1 (0 + Int.toNat v72) 0) :: t)
        refine WO.pi 0 (v := .pe 2000000 1 (0 + Int.toNat v72) 0) hc87 (e1 := z18 [O1 v71]) ?_
        obtain ⟨u88, hu88, h⟩ := bind_some h
        obtain ⟨y89, hyy89, hzy89⟩ := upd_some hu88
        refine WO.sk 0 (id := 2000000) (e := 1000000005) (s := 1) (off := 0) (vs := [.int .u8 e84]) (AV.int .u8) hyy89 hzy89 (e1 := z18 [O1 u88]) ?_
        obtain ⟨hc90, h⟩ := chk_some h
        let z19 := fun t => z18 ((132, .pe 2000000 1 (0 + Int.toNat (W6 (v72 - 1))) 0) :: t)
        refine WO.pi 0 (v := .pe 2000000 1 (0 + Int.toNat (W6 (v72 - 1))) 0) hc90 (e1 := z19 [O1 u88]) ?_
        obtain ⟨u91, hu91, h⟩ := bind_some h
        obtain ⟨y92, hyy92, hzy92⟩ := upd_some hu91
        refine WO.sk 0 (id := 2000000) (e := 1000000005) (s := 1) (off := 0) (vs := [.int .u8 e86]) (AV.int .u8) hyy92 hzy92 (e1 := z19 [O1 u91]) ?_
        refine WO.fn (e2 := z10 [O1 u91]) ?_
        refine W.rt (e2 := z3 [(10, I6 (W6 (v72 + 1))), O1 u91]) ?_
        exact hN4 (u91, (W6 (v72 + 1))) h
       replace h := cond_f hb h
       refine W.exit ?_
       refine W.wk (env' := z3 [O1 v71]) ?_
       exact hK14 (v71, v25) h
     replace h := cond_f hb h
     refine W.skip ?_
     refine W.wk (env' := z3 [O1 v68]) ?_
     exact hK14 (v68, v25) h
    refine W.seq ?_
    refine W.rt (e2 := z3 [(61, .bool (decide ((W6 (v25 - a3)) ≥ 2))), O1 u41]) ?_
    refine W.cb (decide ((W6 (v25 - a3)) ≥ 2)) (fun hb => ?_) (fun hb => ?_)
    ·replace h := cond_t hb h
     refine W.seq ?_
     refine W.rt (e2 := z3 [(9, I6 (W6 (v25 - 1))), O1 u41]) ?_
     refine W.block ?_
     refine W.wk (env' := z3 [(9, I6 (W6 (v25 - 1))), O1 u41]) ?_
     refine W.fuel (σ := ((List Int) × Int)) (fun s => z3 [(9, I6 s.2), (2000000, .obj 1000000005 1 (M8 s.1))]) (fun m0 s => sl_partialInsertionSortOrdered_byte_l3 n2 (sl_partialInsertionSortOrdered_byte_j43 fuel n2 a4 v25 (sl_partialInsertionSortOrdered_byte_j14 v11 (sl_partialInsertionSortOrdered_byte_l1 fuel n2 a3 a4 (sl_partialInsertionSortOrdered_byte_j7) m1))) m0 s.1 s.2 = some r) (fun s h => ?_) (fun m3 s h hN3 => ?_) fuel (u41, (W6 (v25 - 1))) h
     ·obtain ⟨v46, v47⟩ := s
      have h : sl_partialInsertionSortOrdered_byte_l3 n2 (sl_partialInsertionSortOrdered_byte_j43 fuel n2 a4 v25 (sl_partialInsertionSortOrdered_byte_j14 v11 (sl_partialInsertionSortOrdered_byte_l1 fuel n2 a3 a4 (sl_partialInsertionSortOrdered_byte_j7) m1))) 0 v46 v47 = some r := h
      rw [sl_partialInsertionSortOrdered_byte_l3.eq_1] at h
      cases h
     ·obtain ⟨v46, v47⟩ := s
      have h : sl_partialInsertionSortOrdered_byte_l3 n2 (sl_partialInsertionSortOrdered_byte_j43 fuel n2 a4 v25 (sl_partialInsertionSortOrdered_byte_j14 v11 (sl_partialInsertionSortOrdered_byte_l1 fuel n2 a3 a4 (sl_partialInsertionSortOrdered_byte_j7) m1))) (m3 + 1) v46 v47 = some r := h
      rw [sl_partialInsertionSortOrdered_byte_l3.eq_2] at h
      refine W.seq ?_
      refine W.seq ?_
      let z20 := fun t => z3 ((9, I6 v47) :: t)
      refine W.rt (e2 := z20 [(65, .bool (decide (v47 ≥ 1))), O1 v46]) ?_
      refine W.cb (decide (v47 ≥ 1)) (fun hb => ?_) (fun hb => ?_)
      ·replace h := cond_t hb h
       refine W.skip ?_
       refine W.wk (env' := z20 [O1 v46]) ?_
       refine W.seq ?_
       refine W.block ?_
       refine W.seq ?_
       refine W.seq ?_
       refine W.rg ?_
       obtain ⟨hc53, h⟩ := chk_some h
       let z21 := fun t => z20 ((68, S1 n2) :: (69, I6 v47) :: (70, .pe 2000000 1 (0 + Int.toNat v47) 0) :: t)
       refine WO.pi 2 (v := .pe 2000000 1 (0 + Int.toNat v47) 0) hc53 (e1 := z21 [O1 v46]) ?_
       obtain ⟨e54, he54, h⟩ := bind_some h
       let z22 := fun t => z21 ((71, .int .u8 e54) :: t)
       refine WO.pk 0 (match (M8 v46)[(0 + Int.toNat v47)]? with | some y => cut Tryd.prog 5 (y.cells.map AV.strip) 0 | none => none) (v := .int .u8 e54) ((pe_ld (f := (AV.int .u8)) (G := (fun y => cut Tryd.prog 5 (y.cells.map AV.strip) 0)) he54).trans (by kernel_rfl)) (e1 := z22 [O1 v46]) ?_
       obtain ⟨hc55, h⟩ := chk_some h
       let z23 := fun t => z22 ((72, S1 n2) :: (73, I6 v47) :: (74, I6 (W6 (v47 - 1))) :: (75, .pe 2000000 1 (0 + Int.toNat (W6 (v47 - 1))) 0) :: t)
       refine WO.pi 3 (v := .pe 2000000 1 (0 + Int.toNat (W6 (v47 - 1))) 0) hc55 (e1 := z23 [O1 v46]) ?_
       obtain ⟨e56, he56, h⟩ := bind_some h
       refine WO.pk 0 (match (M8 v46)[(0 + Int.toNat (W6 (v47 - 1)))]? with | some y => cut Tryd.prog 5 (y.cells.map AV.strip) 0 | none => none) (v := .int .u8 e56) ((pe_ld (f := (AV.int .u8)) (G := (fun y => cut Tryd.prog 5 (y.cells.map AV.strip) 0)) he56).trans (by kernel_rfl)) (e1 := z23 [(76, .int .u8 e56), O1 v46]) ?_
       obtain ⟨w57, hw57, h⟩ := bind_some h
       refine WO.ck 0 (F := 54) (l := [.int .u8 e54, .int .u8 e56]) (C := []) (r := .bool w57) (run_cm_Less_byte e54 e56 w57 hw57) (e1 := z23 [(76, .int .u8 e56), (77, .bool w57), O1 v46]) ?_
       refine WO.fn (e2 := z20 [(78, .bool (!w57)), O1 v46]) ?_
       refine W.cb (!w57) (fun hb => ?_) (fun hb => ?_)
       ·replace h := cond_t hb h
        refine W.exit ?_
        refine W.wk (env' := z3 [O1 v46]) ?_
        exact hK43 v46 h
       replace h := cond_f hb h
       refine W.skip ?_
       refine W.wk (env' := z20 [O1 v46]) ?_
       refine W.rg ?_
       obtain ⟨hc58, h⟩ := chk_some h
       let z24 := fun t => z20 ((79, S1 n2) :: (80, I6 v47) :: (81, S1 n2) :: (82, I6 v47) :: (83, I6 (W6 (v47 - 1))) :: (84, S1 n2) :: (85, I6 v47) :: (86, I6 (W6 (v47 - 1))) :: (87, .pe 2000000 1 (0 + Int.toNat (W6 (v47 - 1))) 0) :: t)
       refine WO.pi 8 (v := .pe 2000000 1 (0 + Int.toNat (W6 (v47 - 1))) 0) hc58 (e1 := z24 [O1 v46]) ?_
       obtain ⟨e59, he59, h⟩ := bind_some h
       let z25 := fun t => z24 ((88, .int .u8 e59) :: t)
       refine WO.pk 0 (match (M8 v46)[(0 + Int.toNat (W6 (v47 - 1)))]? with | some y => cut Tryd.prog 5 (y.cells.map AV.strip) 0 | none => none) (v := .int .u8 e59) ((pe_ld (f := (AV.int .u8)) (G := (fun y => cut Tryd.prog 5 (y.cells.map AV.strip) 0)) he59).trans (by kernel_rfl)) (e1 := z25 [O1 v46]) ?_
       obtain ⟨hc60, h⟩ := chk_some h
       let z26 := fun t => z25 ((89, S1 n2) :: (90, I6 v47) :: (91, .pe 2000000 1 (0 + Int.toNat v47) 0) :: t)
       refine WO.pi 2 (v := .pe 2000000 1 (0 + Int.toNat v47) 0) hc60 (e1 := z26 [O1 v46]) ?_
       obtain ⟨e61, he61, h⟩ := bind_some h
       let z27 := fun t => z26 ((92, .int .u8 e61) :: t)
       refine WO.pk 0 (match (M8 v46)[(0 + Int.toNat v47)]? with | some y => cut Tryd.prog 5 (y.cells.map AV.strip) 0 | none => none) (v := .int .u8 e61) ((pe_ld (f := (AV.int .u8)) (G := (fun y => cut Tryd.prog 5 (y.cells.map AV.strip) 0)) he61).trans (by kernel_rfl)) (e1 := z27 [O1 v46]) ?_
       obtain ⟨hc62, h⟩ := chk_some h
       let z28 := fun t => z27 ((93, .pe 2000000 1 (0 + Int.toNat v47) 0) :: t)
       refine WO.pi 0 (v := .pe 2000000 1 (0 + Int.toNat v47) 0) hc62 (e1 := z28 [O1 v46]) ?_
       obtain ⟨u63, hu63, h⟩ := bind_some h
       obtain ⟨y64, hyy64, hzy64⟩ := upd_some hu63
       refine WO.sk 0 (id := 2000000) (e := 1000000005) (s := 1) (off := 0) (vs := [.int .u8 e59]) (AV.int .u8) hyy64 hzy64 (e1 := z28 [O1 u63]) ?_
       obtain ⟨hc65, h⟩ := chk_some h
       let z29 := fun t => z28 ((94, .pe 2000000 1 (0 + Int.toNat (W6 (v47 - 1))) 0) :: t)
       refine WO.pi 0 (v := .pe 2000000 1 (0 + Int.toNat (W6 (v47 - 1))) 0) hc65 (e1 := z29 [O1 u63]) ?_
       obtain ⟨u66, hu66, h⟩ := bind_some h
       obtain ⟨y67, hyy67, hzy67⟩ := upd_some hu66
       refine WO.sk 0 (id := 2000000) (e := 1000000005) (s := 1) (off := 0) (vs := [.int .u8 e61]) (AV.int .u8) hyy67 hzy67 (e1 := z29 [O1 u66]) ?_
       refine WO.fn (e2 := z20 [O1 u66]) ?_
       refine W.rt (e2 := z3 [(9, I6 (W6 (v47 - 1))), O1 u66]) ?_
       exact hN3 (u66, (W6 (v47 - 1))) h
      replace h := cond_f hb h
      refine W.exit ?_
      refine W.wk (env' := z3 [O1 v46]) ?_
      exact hK43 v46 h
    replace h := cond_f hb h
    refine W.skip ?_
    refine W.wk (env' := z3 [O1 u41]) ?_
    exact hK43 u41 h
   refine W.block ?_
   refine W.wk (env' := z2 [O1 v9]) ?_
   refine W.fuel (σ := (Int)) (fun s => z0 [(7, I6 s), (8, I6 v11), O1 v9]) (fun m0 s => sl_partialInsertionSortOrdered_byte_l2 n2 a4 v9 (sl_partialInsertionSortOrdered_byte_j15 fuel n2 a3 a4 v9 (sl_partialInsertionSortOrdered_byte_j14 v11 (sl_partialInsertionSortOrdered_byte_l1 fuel n2 a3 a4 (sl_partialInsertionSortOrdered_byte_j7) m1))) m0 s = some r) (fun s h => ?_) (fun m2 s h hN2 => ?_) fuel v10 h
   ·obtain ⟨v16, rfl⟩ : ∃ x, x = s := ⟨s, rfl⟩
    have h : sl_partialInsertionSortOrdered_byte_l2 n2 a4 v9 (sl_partialInsertionSortOrdered_byte_j15 fuel n2 a3 a4 v9 (sl_partialInsertionSortOrdered_byte_j14 v11 (sl_partialInsertionSortOrdered_byte_l1 fuel n2 a3 a4 (sl_partialInsertionSortOrdered_byte_j7) m1))) 0 v16 = some r := h
    rw [sl_partialInsertionSortOrdered_byte_l2.eq_1] at h
    cases h
   ·obtain ⟨v16, rfl⟩ : ∃ x, x = s := ⟨s, rfl⟩
    have h : sl_partialInsertionSortOrdered_byte_l2 n2 a4 v9 (sl_partialInsertionSortOrdered_byte_j15 fuel n2 a3 a4 v9 (sl_partialInsertionSortOrdered_byte_j14 v11 (sl_partialInsertionSortOrdered_byte_l1 fuel n2 a3 a4 (sl_partialInsertionSortOrdered_byte_j7) m1))) (m2 + 1) v16 = some r := h
    rw [sl_partialInsertionSortOrdered_byte_l2.eq_2] at h
    refine W.seq ?_
    refine W.seq ?_
    let z30 := fun t => z0 ((7, I6 v16) :: (8, I6 v11) :: t)
    refine W.join (σ := (Bool)) (fun s => z30 [(32, .bool s), O1 v9]) (fun s => (sl_partialInsertionSortOrdered_byte_j18 v16 (sl_partialInsertionSortOrdered_byte_l2 n2 a4 v9 (sl_partialInsertionSortOrdered_byte_j15 fuel n2 a3 a4 v9 (sl_partialInsertionSortOrdered_byte_j14 v11 (sl_partialInsertionSortOrdered_byte_l1 fuel n2 a3 a4 (sl_partialInsertionSortOrdered_byte_j7) m1))) m2) (sl_partialInsertionSortOrdered_byte_j15 fuel n2 a3 a4 v9 (sl_partialInsertionSortOrdered_byte_j14 v11 (sl_partialInsertionSortOrdered_byte_l1 fuel n2 a3 a4 (sl_partialInsertionSortOrdered_byte_j7) m1)))) s = some r) (fun s h => ?_) (fun hK18 => ?_)
    ·obtain ⟨v24, rfl⟩ : ∃ x, x = s := ⟨s, rfl⟩
     have h : (sl_partialInsertionSortOrdered_byte_j18 v16 (sl_partialInsertionSortOrdered_byte_l2 n2 a4 v9 (sl_partialInsertionSortOrdered_byte_j15 fuel n2 a3 a4 v9 (sl_partialInsertionSortOrdered_byte_j14 v11 (sl_partialInsertionSortOrdered_byte_l1 fuel n2 a3 a4 (sl_partialInsertionSortOrdered_byte_j7) m1))) m2) (sl_partialInsertionSortOrdered_byte_j15 fuel n2 a3 a4 v9 (sl_partialInsertionSortOrdered_byte_j14 v11 (sl_partialInsertionSortOrdered_byte_l1 fuel n2 a3 a4 (sl_partialInsertionSortOrdered_byte_j7) m1)))) v24 = some r := h
     unfold sl_partialInsertionSortOrdered_byte_j18 at h
     refine W.cb v24 (fun hb => ?_) (fun hb => ?_)
     ·replace h := cond_t hb h
      refine W.skip ?_
      refine W.wk (env' := z30 [O1 v9]) ?_
      refine W.block ?_
      refine W.rt (e2 := z0 [(7, I6 (W6 (v16 + 1))), (8, I6 v11), O1 v9]) ?_
      exact hN2 (W6 (v16 + 1)) h
     replace h := cond_f hb h
     refine W.exit ?_
     refine W.wk (env' := z30 [O1 v9]) ?_
     exact hK15 v16 h
    refine W.rg ?_
    let z31 := fun t => z30 ((17, I6 v16) :: (18, I6 a4) :: t)
    refine WO.bk 4 (fun b => z31 [(19, .bool b), (20, .bool b), O1 v9]) (decide (v16 < a4)) (fun hb => ?_) (fun hb => ?_)
    ·replace h := cond_t hb h
     obtain ⟨hc19, h⟩ := chk_some h
     let z32 := fun t => z31 ((19, .bool true) :: (20, .bool true) :: (21, S1 n2) :: (22, I6 v16) :: (23, .pe 2000000 1 (0 + Int.toNat v16) 0) :: t)
     refine WO.pi 2 (v := .pe 2000000 1 (0 + Int.toNat v16) 0) hc19 (e1 := z32 [O1 v9]) ?_
     obtain ⟨e20, he20, h⟩ := bind_some h
     let z33 := fun t => z32 ((24, .int .u8 e20) :: t)
     refine WO.pk 0 (match (M8 v9)[(0 + Int.toNat v16)]? with | some y => cut Tryd.prog 5 (y.cells.map AV.strip) 0 | none => none) (v := .int .u8 e20) ((pe_ld (f := (AV.int .u8)) (G := (fun y => cut Tryd.prog 5 (y.cells.map AV.strip) 0)) he20).trans (by kernel_rfl)) (e1 := z33 [O1 v9]) ?_
     obtain ⟨hc21, h⟩ := chk_some h
     let z34 := fun t => z33 ((25, S1 n2) :: (26, I6 v16) :: (27, I6 (W6 (v16 - 1))) :: (28, .pe 2000000 1 (0 + Int.toNat (W6 (v16 - 1))) 0) :: t)
     refine WO.pi 3 (v := .pe 2000000 1 (0 + Int.toNat (W6 (v16 - 1))) 0) hc21 (e1 := z34 [O1 v9]) ?_
     obtain ⟨e22, he22, h⟩ := bind_some h
     refine WO.pk 0 (match (M8 v9)[(0 + Int.toNat (W6 (v16 - 1)))]? with | some y => cut Tryd.prog 5 (y.cells.map AV.strip) 0 | none => none) (v := .int .u8 e22) ((pe_ld (f := (AV.int .u8)) (G := (fun y => cut Tryd.prog 5 (y.cells.map AV.strip) 0)) he22).trans (by kernel_rfl)) (e1 := z34 [(29, .int .u8 e22), O1 v9]) ?_
     obtain ⟨w23, hw23, h⟩ := bind_some h
     refine WO.ck 0 (F := 54) (l := [.int .u8 e20, .int .u8 e22]) (C := []) (r := .bool w23) (run_cm_Less_byte e20 e22 w23 hw23) (e1 := z34 [(29, .int .u8 e22), (30, .bool w23), O1 v9]) ?_
     refine WO.fn (e2 := z30 [(32, .bool (!w23)), O1 v9]) ?_
     exact hK18 (!w23) h
    replace h := cond_f hb h
    refine WO.fn (e2 := z30 [(32, .bool false), O1 v9]) ?_
    exact hK18 false h
  replace h := cond_f hb h
  refine W.exit ?_
  refine W.wk (env' := [O1 v9]) ?_
  exact hK7 v9 h
def sl_partitionEqualOrdered_byte_j19 (v59 : (List Int)) (v60 : Int) : Option (Int × (List Int)) :=
 (some (v60, v59))
def sl_partitionEqualOrdered_byte_j34 (n2 : Nat) (v20 : (List Int)) (v33 : Int) (N1 : ((List Int) → Int → Int → Option (Int × (List Int)))) (K19 : ((List Int) → Int → Option (Int × (List Int)))) (v44 : Int) : Option (Int × (List Int)) :=
 (bif (decide (v33 > v44)) then (K19 v20 v33) else (chk (decide ((0 : Int) ≤ v44 ∧ v44 < ((n2 : Nat) : Int))) ((v20[(0 + Int.toNat v44)]?).bind fun e49 => (chk (decide ((0 : Int) ≤ v33 ∧ v33 < ((n2 : Nat) : Int))) ((v20[(0 + Int.toNat v33)]?).bind fun e51 => (chk (decide ((0 : Int) ≤ v33 ∧ v33 < ((n2 : Nat) : Int))) ((upd v20 (0 + Int.toNat v33) e49).bind fun u53 => (chk (decide ((0 : Int) ≤ v44 ∧ v44 < ((n2 : Nat) : Int))) ((upd u53 (0 + Int.toNat v44) e51).bind fun u56 => (N1 u56 (IntKind.wrap .i64 (v33 + 1)) (IntKind.wrap .i64 (v44 - 1))))))))))))
def sl_partitionEqualOrdered_byte_j37 (v35 : Int) (N3 : (Int → Option (Int × (List Int)))) (K34 : (Int → Option (Int × (List Int)))) (v43 : Bool) : Option (Int × (List Int)) :=
 (bif v43 then (N3 (IntKind.wrap .i64 (v35 - 1))) else (K34 v35))
def sl_partitionEqualOrdered_byte_l3 (n2 : Nat) (a3 : Int) (v20 : (List Int)) (v33 : Int) (K34 : (Int → Option (Int × (List Int)))) : Nat → Int → Option (Int × (List Int))
 | 0, _ => none
 | m3 + 1, v35 => (bif (decide (v33 ≤ v35)) then (chk (decide ((0 : Int) ≤ a3 ∧ a3 < ((n2 : Nat) : Int))) ((v20[(0 + Int.toNat a3)]?).bind fun e39 => (chk (decide ((0 : Int) ≤ v35 ∧ v35 < ((n2 : Nat) : Int))) ((v20[(0 + Int.toNat v35)]?).bind fun e41 => ((cm_Less_byte e39 e41).bind fun w42 => ((sl_partitionEqualOrdered_byte_j37 v35 (sl_partitionEqualOrdered_byte_l3 n2 a3 v20 v33 K34 m3) K34) w42)))))) else ((sl_partitionEqualOrdered_byte_j37 v35 (sl_partitionEqualOrdered_byte_l3 n2 a3 v20 v33 K34 m3) K34) false))
def sl_partitionEqualOrdered_byte_j23 (fuel : Nat) (n2 : Nat) (a3 : Int) (v20 : (List Int)) (v22 : Int) (N1 : ((List Int) → Int → Int → Option (Int × (List Int)))) (K19 : ((List Int) → Int → Option (Int × (List Int)))) (v33 : Int) : Option (Int × (List Int)) :=
 (sl_partitionEqualOrdered_byte_l3 n2 a3 v20 v33 (sl_partitionEqualOrdered_byte_j34 n2 v20 v33 N1 K19) fuel v22)
def sl_partitionEqualOrdered_byte_j26 (v24 : Int) (N2 : (Int → Option (Int × (List Int)))) (K23 : (Int → Option (Int × (List Int)))) (v32 : Bool) : Option (Int × (List Int)) :=
 (bif v32 then (N2 (IntKind.wrap .i64 (v24 + 1))) else (K23 v24))
def sl_partitionEqualOrdered_byte_l2 (n2 : Nat) (a3 : Int) (v20 : (List Int)) (v22 : Int) (K23 : (Int → Option (Int × (List Int)))) : Nat → Int → Option (Int × (List Int))
 | 0, _ => none
 | m2 + 1, v24 => (bif (decide (v24 ≤ v22)) then (chk (decide ((0 : Int) ≤ a3 ∧ a3 < ((n2 : Nat) : Int))) ((v20[(0 + Int.toNat a3)]?).bind fun e28 => (chk (decide ((0 : Int) ≤ v24 ∧ v24 < ((n2 : Nat) : Int))) ((v20[(0 + Int.toNat v24)]?).bind fun e30 => ((cm_Less_byte e28 e30).bind fun w31 => ((sl_partitionEqualOrdered_byte_j26 v24 (sl_partitionEqualOrdered_byte_l2 n2 a3 v20 v22 K23 m2) K23) (!w31))))))) else ((sl_partitionEqualOrdered_byte_j26 v24 (sl_partitionEqualOrdered_byte_l2 n2 a3 v20 v22 K23 m2) K23) false))
def sl_partitionEqualOrdered_byte_l1 (fuel : Nat) (n2 : Nat) (a3 : Int) (K19 : ((List Int) → Int → Option (Int × (List Int)))) : Nat → (List Int) → Int → Int → Option (Int × (List Int))
 | 0, _, _, _ => none
 | m1 + 1, v20, v21, v22 => (sl_partitionEqualOrdered_byte_l2 n2 a3 v20 v22 (sl_partitionEqualOrdered_byte_j23 fuel n2 a3 v20 v22 (sl_partitionEqualOrdered_byte_l1 fuel n2 a3 K19 m1) K19) fuel v21)
def sl_partitionEqualOrdered_byte (fuel : Nat) (a1 : (List Int)) (n2 : Nat) (a3 : Int) (a4 : Int) (a5 : Int) : Option (Int × (List Int)) :=
 (chk (decide ((0 : Int) ≤ a5 ∧ a5 < ((n2 : Nat) : Int))) ((a1[(0 + Int.toNat a5)]?).bind fun e9 => (chk (decide ((0 : Int) ≤ a3 ∧ a3 < ((n2 : Nat) : Int))) ((a1[(0 + Int.toNat a3)]?).bind fun e11 => (chk (decide ((0 : Int) ≤ a3 ∧ a3 < ((n2 : Nat) : Int))) ((upd a1 (0 + Int.toNat a3) e9).bind fun u13 => (chk (decide ((0 : Int) ≤ a5 ∧ a5 < ((n2 : Nat) : Int))) ((upd u13 (0 + Int.toNat a5) e11).bind fun u16 => (sl_partitionEqualOrdered_byte_l1 fuel n2 a3 (sl_partitionEqualOrdered_byte_j19) fuel u16 (IntKind.wrap .i64 (a3 + 1)) (IntKind.wrap .i64 (a4 - 1)))))))))))
theorem run_sl_partitionEqualOrdered_byte (fuel : Nat) (a1 : (List Int)) (n2 : Nat) (a3 : Int) (a4 : Int) (a5 : Int) (r : (Int × (List Int))) (h : sl_partitionEqualOrdered_byte fuel a1 n2 a3 a4 a5 = some r) : Run Tryd.prog (.callM 55 [S1 n2, I6 a3, I6 a4, I6 a5] [O1 a1] (I6 r.1) [(2000000, .obj 1000000005 1 (M8 r.2))]) := by
 refine cM Tryd.func55 rfl (env0 := [(0, S1 n2), (1, I6 a3), (2, I6 a4), (3, I6 a5), O1 a1]) ?_
 unfold sl_partitionEqualOrdered_byte at h
 refine W.seq ?_
 let z0 := fun t => EN ((0, S1 n2) :: (1, I6 a3) :: t)
 let z1 := fun t => z0 ((2, I6 a4) :: (3, I6 a5) :: t)
 refine W.rt (e2 := z1 [O1 a1]) ?_
 refine W.seq ?_
 refine W.rg ?_
 obtain ⟨hc8, h⟩ := chk_some h
 let z2 := fun t => z1 ((11, S1 n2) :: (12, I6 a3) :: (13, S1 n2) :: (14, I6 a5) :: (15, S1 n2) :: (16, I6 a5) :: (17, .pe 2000000 1 (0 + Int.toNat a5) 0) :: t)
 refine WO.pi 6 (v := .pe 2000000 1 (0 + Int.toNat a5) 0) hc8 (e1 := z2 [O1 a1]) ?_
 obtain ⟨e9, he9, h⟩ := bind_some h
 let z3 := fun t => z2 ((18, .int .u8 e9) :: t)
 refine WO.pk 0 (match (M8 a1)[(0 + Int.toNat a5)]? with | some y => cut Tryd.prog 5 (y.cells.map AV.strip) 0 | none => none) (v := .int .u8 e9) ((pe_ld (f := (AV.int .u8)) (G := (fun y => cut Tryd.prog 5 (y.cells.map AV.strip) 0)) he9).trans (by kernel_rfl)) (e1 := z3 [O1 a1]) ?_
 obtain ⟨hc10, h⟩ := chk_some h
 let z4 := fun t => z3 ((19, S1 n2) :: (20, I6 a3) :: (21, .pe 2000000 1 (0 + Int.toNat a3) 0) :: t)
 refine WO.pi 2 (v := .pe 2000000 1 (0 + Int.toNat a3) 0) hc10 (e1 := z4 [O1 a1]) ?_
 obtain ⟨e11, he11, h⟩ := bind_some h
 let z5 := fun t => z4 ((22, .int .u8 e11) :: t)
 refine WO.pk 0 (match (M8 a1)[(0 + Int.toNat a3)]? with | some y => cut Tryd.prog 5 (y.cells.map AV.strip) 0 | none => none) (v := .int .u8 e11) ((pe_ld (f := (AV.int .u8)) (G := (fun y => cut Tryd.prog 5 (y.cells.map AV.strip) 0)) he11).trans (by kernel_rfl)) (e1 := z5 [O1 a1]) ?_
 obtain ⟨hc12, h⟩ := chk_some h
 let z6 := fun t => z5 ((23, .pe 2000000 1 (0 + Int.toNat a3) 0) :: t)
 refine WO.pi 0 (v := .pe 2000000 1 (0 + Int.toNat a3) 0) hc12 (e1 := z6 [O1 a1]) ?_
 obtain ⟨u13, hu13, h⟩ := bind_some h
 obtain ⟨y14, hyy14, hzy14⟩ := upd_some hu13
 refine WO.sk 0 (id := 2000000) (e := 1000000005) (s := 1) (off := 0) (vs := [.int .u8 e9]) (AV.int .u8) hyy14 hzy14 (e1 := z6 [O1 u13]) ?_
 obtain ⟨hc15, h⟩ := chk_some h
 let z7 := fun t => z6 ((24, .pe 2000000 1 (0 + Int.toNat a5) 0) :: t)
 refine WO.pi 0 (v := .pe 2000000 1 (0 + Int.toNat a5) 0) hc15 (e1 := z7 [O1 u13]) ?_
 obtain ⟨u16, hu16, h⟩ := bind_some h
 obtain ⟨y17, hyy17, hzy17⟩ := upd_some hu16
 refine WO.sk 0 (id := 2000000) (e := 1000000005) (s := 1) (off := 0) (vs := [.int .u8 e11]) (AV.int .u8) hyy17 hzy17 (e1 := z7 [O1 u16]) ?_
 refine WO.fn (e2 := z0 [(2, I6 a4), O1 u16]) ?_
 refine W.seq ?_
 let z8 := fun t => z0 ((9, I6 (W6 (a3 + 1))) :: (10, I6 (W6 (a4 - 1))) :: O1 u16 :: t)
 refine W.rt (e2 := z8 []) ?_
 refine W.seq ?_
 refine W.join (σ := ((List Int) × Int)) (fun s => [(9, I6 s.2), (2000000, .obj 1000000005 1 (M8 s.1))]) (fun s => (sl_partitionEqualOrdered_byte_j19) s.1 s.2 = some r) (fun s h => ?_) (fun hK19 => ?_)
 ·obtain ⟨v59, v60⟩ := s
  have h : (sl_partitionEqualOrdered_byte_j19) v59 v60 = some r := h
  unfold sl_partitionEqualOrdered_byte_j19 at h
  refine W.seq ?_
  refine W.rt (e2 := [(8, I6 v60), O1 v59]) ?_
  refine W.wk (env' := [(8, I6 v60), O1 v59]) ?_
  have hr : PostM Tryd.prog Tryd.f55 (I6 v60) [O1 v59] .ret [(8, I6 v60), O1 v59] := ⟨by kernel_rfl, by kernel_rfl⟩
  cases h
  exact W.ret hr
 refine W.block ?_
 refine W.wk (env' := z8 []) ?_
 refine W.fuel (σ := ((List Int) × Int × Int)) (fun s => z0 [(9, I6 s.2.1), (10, I6 s.2.2), (2000000, .obj 1000000005 1 (M8 s.1))]) (fun m0 s => sl_partitionEqualOrdered_byte_l1 fuel n2 a3 (sl_partitionEqualOrdered_byte_j19) m0 s.1 s.2.1 s.2.2 = some r) (fun s h => ?_) (fun m1 s h hN1 => ?_) fuel (u16, (W6 (a3 + 1)), (W6 (a4 - 1))) h
 ·obtain ⟨v20, v21, v22⟩ := s
  have h : sl_partitionEqualOrdered_byte_l1 fuel n2 a3 (sl_partitionEqualOrdered_byte_j19) 0 v20 v21 v22 = some r := h
  rw [sl_partitionEqualOrdered_byte_l1.eq_1] at h
  cases h
 ·obtain ⟨v20, v21, v22⟩ := s
  have h : sl_partitionEqualOrdered_byte_l1 fuel n2 a3 (sl_partitionEqualOrdered_byte_j19) (m1 + 1) v20 v21 v22 = some r := h
  rw [sl_partitionEqualOrdered_byte_l1.eq_2] at h
  refine W.block ?_
  refine W.seq ?_
  refine W.join (σ := (Int)) (fun s => z0 [(9, I6 s), (10, I6 v22), O1 v20]) (fun s => (sl_partitionEqualOrdered_byte_j23 fuel n2 a3 v20 v22 (sl_partitionEqualOrdered_byte_l1 fuel n2 a3 (sl_partitionEqualOrdered_byte_j19) m1) (sl_partitionEqualOrdered_byte_j19)) s = some r) (fun s h => ?_) (fun hK23 => ?_)
  ·obtain ⟨v33, rfl⟩ : ∃ x, x = s := ⟨s, rfl⟩
   have h : (sl_partitionEqualOrdered_byte_j23 fuel n2 a3 v20 v22 (sl_partitionEqualOrdered_byte_l1 fuel n2 a3 (sl_partitionEqualOrdered_byte_j19) m1) (sl_partitionEqualOrdered_byte_j19)) v33 = some r := h
   unfold sl_partitionEqualOrdered_byte_j23 at h
   refine W.seq ?_
   let z9 := fun t => z0 ((9, I6 v33) :: t)
   refine W.join (σ := (Int)) (fun s => z9 [(10, I6 s), O1 v20]) (fun s => (sl_partitionEqualOrdered_byte_j34 n2 v20 v33 (sl_partitionEqualOrdered_byte_l1 fuel n2 a3 (sl_partitionEqualOrdered_byte_j19) m1) (sl_partitionEqualOrdered_byte_j19)) s = some r) (fun s h => ?_) (fun hK34 => ?_)
   ·obtain ⟨v44, rfl⟩ : ∃ x, x = s := ⟨s, rfl⟩
    have h : (sl_partitionEqualOrdered_byte_j34 n2 v20 v33 (sl_partitionEqualOrdered_byte_l1 fuel n2 a3 (sl_partitionEqualOrdered_byte_j19) m1) (sl_partitionEqualOrdered_byte_j19)) v44 = some r := h
    unfold sl_partitionEqualOrdered_byte_j34 at h
    refine W.seq ?_
    refine W.seq ?_
    let z10 := fun t => z9 ((10, I6 v44) :: t)
    refine W.rt (e2 := z10 [(64, .bool (decide (v33 > v44))), O1 v20]) ?_
    refine W.cb (decide (v33 > v44)) (fun hb => ?_) (fun hb => ?_)
    ·replace h := cond_t hb h
     refine W.exit ?_
     refine W.wk (env' := [(9, I6 v33), O1 v20]) ?_
     exact hK19 (v20, v33) h
    replace h := cond_f hb h
    refine W.skip ?_
    refine W.wk (env' := z10 [O1 v20]) ?_
    refine W.seq ?_
    refine W.rg ?_
    obtain ⟨hc48, h⟩ := chk_some h
    let z11 := fun t => z10 ((65, S1 n2) :: (66, I6 v33) :: (67, S1 n2) :: (68, I6 v44) :: (69, S1 n2) :: (70, I6 v44) :: (71, .pe 2000000 1 (0 + Int.toNat v44) 0) :: t)
    refine WO.pi 6 (v := .pe 2000000 1 (0 + Int.toNat v44) 0) hc48 (e1 := z11 [O1 v20]) ?_
    obtain ⟨e49, he49, h⟩ := bind_some h
    let z12 := fun t => z11 ((72, .int .u8 e49) :: t)
    refine WO.pk 0 (match (M8 v20)[(0 + Int.toNat v44)]? with | some y => cut Tryd.prog 5 (y.cells.map AV.strip) 0 | none => none) (v := .int .u8 e49) ((pe_ld (f := (AV.int .u8)) (G := (fun y => cut Tryd.prog 5 (y.cells.map AV.strip) 0)) he49).trans (by kernel_rfl)) (e1 := z12 [O1 v20]) ?_
    obtain ⟨hc50, h⟩ := chk_some h
    let z13 := fun t => z12 ((73, S1 n2) :: (74, I6 v33) :: (75, .pe 2000000 1 (0 + Int.toNat v33) 0) :: t)
    refine WO.pi 2 (v := .pe 2000000 1 (0 + Int.toNat v33) 0) hc50 (e1 := z13 [O1 v20]) ?_
    obtain ⟨e51, he51, h⟩ := bind_some h
    let z14 := fun t => z13 ((76, .int .u8 e51) :: t)
    refine WO.pk 0 (match (M8 v20)[(0 + Int.toNat v33)]? with | some y => cut Tryd.prog 5 (y.cells.map AV.strip) 0 | none => none) (v := .int .u8 e51) ((pe_ld (f := (AV.int .u8)) (G := (fun y => cut Tryd.prog 5 (y.cells.map AV.strip) 0)) he51).trans (by kernel_rfl)) (e1 := z14 [O1 v20]) ?_
    obtain ⟨hc52, h⟩ := chk_some h
    let z15 := fun t => z14 ((77, .pe 2000000 1 (0 + Int.toNat v33) 0) :: t)
    refine WO.pi 0 (v := .pe 2000000 1 (0 + Int.toNat v33) 0) hc52 (e1 := z15 [O1 v20]) ?_
    obtain ⟨u53, hu53, h⟩ := bind_some h
    obtain ⟨y54, hyy54, hzy54⟩ := upd_some hu53
    refine WO.sk 0 (id := 2000000) (e := 1000000005) (s := 1) (off := 0) (vs := [.int .u8 e49]) (AV.int .u8) hyy54 hzy54 (e1 := z15 [O1 u53]) ?_
    obtain ⟨hc55, h⟩ := chk_some h
    let z16 := fun t => z15 ((78, .pe 2000000 1 (0 + Int.toNat v44) 0) :: t)
    refine WO.pi 0 (v := .pe 2000000 1 (0 + Int.toNat v44) 0) hc55 (e1 := z16 [O1 u53]) ?_
    obtain ⟨u56, hu56, h⟩ := bind_some h
    obtain ⟨y57, hyy57, hzy57⟩ := upd_some hu56
    refine WO.sk 0 (id := 2000000) (e := 1000000005) (s := 1) (off := 0) (vs := [.int .u8 e51]) (AV.int .u8) hyy57 hzy57 (e1 := z16 [O1 u56]) ?_
    refine WO.fn (e2 := z10 [O1 u56]) ?_
    refine W.seq ?_
    refine W.rt (e2 := z0 [(9, I6 (W6 (v33 + 1))), (10, I6 v44), O1 u56]) ?_
    refine W.rt (e2 := z0 [(9, I6 (W6 (v33 + 1))), (10, I6 (W6 (v44 - 1))), O1 u56]) ?_
    exact hN1 (u56, (W6 (v33 + 1)), (W6 (v44 - 1))) h
   refine W.block ?_
   refine W.wk (env' := z9 [(10, I6 v22), O1 v20]) ?_
   refine W.fuel (σ := (Int)) (fun s => z9 [(10, I6 s), O1 v20]) (fun m0 s => sl_partitionEqualOrdered_byte_l3 n2 a3 v20 v33 (sl_partitionEqualOrdered_byte_j34 n2 v20 v33 (sl_partitionEqualOrdered_byte_l1 fuel n2 a3 (sl_partitionEqualOrdered_byte_j19) m1) (sl_partitionEqualOrdered_byte_j19)) m0 s = some r) (fun s h => ?_) (fun m3 s h hN3 => ?_) fuel v22 h
   ·obtain ⟨v35, rfl⟩ : ∃ x, x = s := ⟨s, rfl⟩
    have h : sl_partitionEqualOrdered_byte_l3 n2 a3 v20 v33 (sl_partitionEqualOrdered_byte_j34 n2 v20 v33 (sl_partitionEqualOrdered_byte_l1 fuel n2 a3 (sl_partitionEqualOrdered_byte_j19) m1) (sl_partitionEqualOrdered_byte_j19)) 0 v35 = some r := h
    rw [sl_partitionEqualOrdered_byte_l3.eq_1] at h
    cases h
   ·obtain ⟨v35, rfl⟩ : ∃ x, x = s := ⟨s, rfl⟩
    have h : sl_partitionEqualOrdered_byte_l3 n2 a3 v20 v33 (sl_partitionEqualOrdered_byte_j34 n2 v20 v33 (sl_partitionEqualOrdered_byte_l1 fuel n2 a3 (sl_partitionEqualOrdered_byte_j19) m1) (sl_partitionEqualOrdered_byte_j19)) (m3 + 1) v35 = some r := h
    rw [sl_partitionEqualOrdered_byte_l3.eq_2] at h
    refine W.seq ?_
    refine W.seq ?_
    let z17 := fun t => z9 ((10, I6 v35) :: t)
    refine W.join (σ := (Bool)) (fun s => z17 [(59, .bool s), O1 v20]) (fun s => (sl_partitionEqualOrdered_byte_j37 v35 (sl_partitionEqualOrdered_byte_l3 n2 a3 v20 v33 (sl_partitionEqualOrdered_byte_j34 n2 v20 v33 (sl_partitionEqualOrdered_byte_l1 fuel n2 a3 (sl_partitionEqualOrdered_byte_j19) m1) (sl_partitionEqualOrdered_byte_j19)) m3) (sl_partitionEqualOrdered_byte_j34 n2 v20 v33 (sl_partitionEqualOrdered_byte_l1 fuel n2 a3 (sl_partitionEqualOrdered_byte_j19) m1) (sl_partitionEqualOrdered_byte_j19))) s = some r) (fun s h => ?_) (fun hK37 => ?_)
    ·obtain ⟨v43, rfl⟩ : ∃ x, x = s := ⟨s, rfl⟩
     have h : (sl_partitionEqualOrdered_byte_j37 v35 (sl_partitionEqualOrdered_byte_l3 n2 a3 v20 v33 (sl_partitionEqualOrdered_byte_j34 n2 v20 v33 (sl_partitionEqualOrdered_byte_l1 fuel n2 a3 (sl_partitionEqualOrdered_byte_j19) m1) (sl_partitionEqualOrdered_byte_j19)) m3) (sl_partitionEqualOrdered_byte_j34 n2 v20 v33 (sl_partitionEqualOrdered_byte_l1 fuel n2 a3 (sl_partitionEqualOrdered_byte_j19) m1) (sl_partitionEqualOrdered_byte_j19))) v43 = some r := h
     unfold sl_partitionEqualOrdered_byte_j37 at h
     refine W.cb v43 (fun hb => ?_) (fun hb => ?_)
     ·replace h := cond_t hb h
      refine W.skip ?_
      refine W.wk (env' := z17 [O1 v20]) ?_
      refine W.block ?_
      refine W.rt (e2 := z9 [(10, I6 (W6 (v35 - 1))), O1 v20]) ?_
      exact hN3 (W6 (v35 - 1)) h
     replace h := cond_f hb h
     refine W.exit ?_
     refine W.wk (env' := z17 [O1 v20]) ?_
     exact hK34 v35 h
    refine W.rg ?_
    let z18 := fun t => z17 ((46, I6 v33) :: (47, I6 v35) :: t)
    refine WO.bk 4 (fun b => z18 [(48, .bool b), (49, .bool b), O1 v20]) (decide (v33 ≤ v35)) (fun hb => ?_) (fun hb => ?_)
    ·replace h := cond_t hb h
     obtain ⟨hc38, h⟩ := chk_some h
     let z19 := fun t => z18 ((48, .bool true) :: (49, .bool true) :: (50, S1 n2) :: (51, I6 a3) :: (52, .pe 2000000 1 (0 + Int.toNat a3) 0) :: t)
     refine WO.pi 2 (v := .pe 2000000 1 (0 + Int.toNat a3) 0) hc38 (e1 := z19 [O1 v20]) ?_
     obtain ⟨e39, he39, h⟩ := bind_some h
     let z20 := fun t => z19 ((53, .int .u8 e39) :: t)
     refine WO.pk 0 (match (M8 v20)[(0 + Int.toNat a3)]? with | some y => cut Tryd.prog 5 (y.cells.map AV.strip) 0 | none => none) (v := .int .u8 e39) ((pe_ld (f := (AV.int .u8)) (G := (fun y => cut Tryd.prog 5 (y.cells.map AV.strip) 0)) he39).trans (by kernel_rfl)) (e1 := z20 [O1 v20]) ?_
     obtain ⟨hc40, h⟩ := chk_some h
     let z21 := fun t => z20 ((54, S1 n2) :: (55, I6 v35) :: (56, .pe 2000000 1 (0 + Int.toNat v35) 0) :: t)
     refine WO.pi 2 (v := .pe 2000000 1 (0 + Int.toNat v35) 0) hc40 (e1 := z21 [O1 v20]) ?_
     obtain ⟨e41, he41, h⟩ := bind_some h
     refine WO.pk 0 (match (M8 v20)[(0 + Int.toNat v35)]? with | some y => cut Tryd.prog 5 (y.cells.map AV.strip) 0 | none => none) (v := .int .u8 e41) ((pe_ld (f := (AV.int .u8)) (G := (fun y => cut Tryd.prog 5 (y.cells.map AV.strip) 0)) he41).trans (by kernel_rfl)) (e1 := z21 [(57, .int .u8 e41), O1 v20]) ?_
     obtain ⟨w42, hw42, h⟩ := bind_some h
     refine WO.ck 0 (F := 54) (l := [.int .u8 e39, .int .u8 e41]) (C := []) (r := .bool w42) (run_cm_Less_byte e39 e41 w42 hw42) (e1 := z21 [(57, .int .u8 e41), (58, .bool w42), O1 v20]) ?_
     refine WO.fn (e2 := z17 [(59, .bool w42), O1 v20]) ?_
     exact hK37 w42 h
    replace h := cond_f hb h
    refine WO.fn (e2 := z17 [(59, .bool false), O1 v20]) ?_
    exact hK37 false h
  refine W.block ?_
  refine W.wk (env' := z0 [(9, I6 v21), (10, I6 v22), O1 v20]) ?_
  refine W.fuel (σ := (Int)) (fun s => z0 [(9, I6 s), (10, I6 v22), O1 v20]) (fun m0 s => sl_partitionEqualOrdered_byte_l2 n2 a3 v20 v22 (sl_partitionEqualOrdered_byte_j23 fuel n2 a3 v20 v22 (sl_partitionEqualOrdered_byte_l1 fuel n2 a3 (sl_partitionEqualOrdered_byte_j19) m1) (sl_partitionEqualOrdered_byte_j19)) m0 s = some r) (fun s h => ?_) (fun m2 s h hN2 => ?_) fuel v21 h
  ·obtain ⟨v24, rfl⟩ : ∃ x, x = s := ⟨s, rfl⟩
   have h : sl_partitionEqualOrdered_byte_l2 n2 a3 v20 v22 (sl_partitionEqualOrdered_byte_j23 fuel n2 a3 v20 v22 (sl_partitionEqualOrdered_byte_l1 fuel n2 a3 (sl_partitionEqualOrdered_byte_j19) m1) (sl_partitionEqualOrdered_byte_j19)) 0 v24 = some r := h
   rw [sl_partitionEqualOrdered_byte_l2.eq_1] at h
   cases h
  ·obtain ⟨v24, rfl⟩ : ∃ x, x = s := ⟨s, rfl⟩
   have h : sl_partitionEqualOrdered_byte_l2 n2 a3 v20 v22 (sl_partitionEqualOrdered_byte_j23 fuel n2 a3 v20 v22 (sl_partitionEqualOrdered_byte_l1 fuel n2 a3 (sl_partitionEqualOrdered_byte_j19) m1) (sl_partitionEqualOrdered_byte_j19)) (m2 + 1) v24 = some r := h
   rw [sl_partitionEqualOrdered_byte_l2.eq_2] at h
   refine W.seq ?_
   refine W.seq ?_
   let z22 := fun t => z0 ((9, I6 v24) :: (10, I6 v22) :: t)
   refine W.join (σ := (Bool)) (fun s => z22 [(43, .bool s), O1 v20]) (fun s => (sl_partitionEqualOrdered_byte_j26 v24 (sl_partitionEqualOrdered_byte_l2 n2 a3 v20 v22 (sl_partitionEqualOrdered_byte_j23 fuel n2 a3 v20 v22 (sl_partitionEqualOrdered_byte_l1 fuel n2 a3 (sl_partitionEqualOrdered_byte_j19) m1) (sl_partitionEqualOrdered_byte_j19)) m2) (sl_partitionEqualOrdered_byte_j23 fuel n2 a3 v20 v22 (sl_partitionEqualOrdered_byte_l1 fuel n2 a3 (sl_partitionEqualOrdered_byte_j19) m1) (sl_partitionEqualOrdered_byte_j19))) s = some r) (fun s h => ?_) (fun hK26 => ?_)
   ·obtain ⟨v32, rfl⟩ : ∃ x, x = s := ⟨s, rfl⟩
    have h : (sl_partitionEqualOrdered_byte_j26 v24 (sl_partitionEqualOrdered_byte_l2 n2 a3 v20 v22 (sl_partitionEqualOrdered_byte_j23 fuel n2 a3 v20 v22 (sl_partitionEqualOrdered_byte_l1 fuel n2 a3 (sl_partitionEqualOrdered_byte_j19) m1) (sl_partitionEqualOrdered_byte_j19)) m2) (sl_partitionEqualOrdered_byte_j23 fuel n2 a3 v20 v22 (sl_partitionEqualOrdered_byte_l1 fuel n2 a3 (sl_partitionEqualOrdered_byte_j19) m1) (sl_partitionEqualOrdered_byte_j19))) v32 = some r := h
    unfold sl_partitionEqualOrdered_byte_j26 at h
    refine W.cb v32 (fun hb => ?_) (fun hb => ?_)
    ·replace h := cond_t hb h
     refine W.skip ?_
     refine W.wk (env' := z22 [O1 v20]) ?_
     refine W.block ?_
     refine W.rt (e2 := z0 [(9, I6 (W6 (v24 + 1))), (10, I6 v22), O1 v20]) ?_
     exact hN2 (W6 (v24 + 1)) h
    replace h := cond_f hb h
    refine W.exit ?_
    refine W.wk (env' := z22 [O1 v20]) ?_
    exact hK23 v24 h
   refine W.rg ?_
   let z23 := fun t => z22 ((29, I6 v24) :: (30, I6 v22) :: t)
   refine WO.bk 4 (fun b => z23 [(31, .bool b), (32, .bool b), O1 v20]) (decide (v24 ≤ v22)) (fun hb => ?_) (fun hb => ?_)
   ·replace h := cond_t hb h
    obtain ⟨hc27, h⟩ := chk_some h
    let z24 := fun t => z23 ((31, .bool true) :: (32, .bool true) :: (33, S1 n2) :: (34, I6 a3) :: (35, .pe 2000000 1 (0 + Int.toNat a3) 0) :: t)
    refine WO.pi 2 (v := .pe 2000000 1 (0 + Int.toNat a3) 0) hc27 (e1 := z24 [O1 v20]) ?_
    obtain ⟨e28, he28, h⟩ := bind_some h
    let z25 := fun t => z24 ((36, .int .u8 e28) :: t)
    refine WO.pk 0 (match (M8 v20)[(0 + Int.toNat a3)]? with | some y => cut Tryd.prog 5 (y.cells.map AV.strip) 0 | none => none) (v := .int .u8 e28) ((pe_ld (f := (AV.int .u8)) (G := (fun y => cut Tryd.prog 5 (y.cells.map AV.strip) 0)) he28).trans (by kernel_rfl)) (e1 := z25 [O1 v20]) ?_
    obtain ⟨hc29, h⟩ := chk_some h
    let z26 := fun t => z25 ((37, S1 n2) :: (38, I6 v24) :: (39, .pe 2000000 1 (0 + Int.toNat v24) 0) :: t)
    refine WO.pi 2 (v := .pe 2000000 1 (0 + Int.toNat v24) 0) hc29 (e1 := z26 [O1 v20]) ?_
    obtain ⟨e30, he30, h⟩ := bind_some h
    refine WO.pk 0 (match (M8 v20)[(0 + Int.toNat v24)]? with | some y => cut Tryd.prog 5 (y.cells.map AV.strip) 0 | none => none) (v := .int .u8 e30) ((pe_ld (f := (AV.int .u8)) (G := (fun y => cut Tryd.prog 5 (y.cells.map AV.strip) 0)) he30).trans (by kernel_rfl)) (e1 := z26 [(40, .int .u8 e30), O1 v20]) ?_
    obtain ⟨w31, hw31, h⟩ := bind_some h
    refine WO.ck 0 (F := 54) (l := [.int .u8 e28, .int .u8 e30]) (C := []) (r := .bool w31) (run_cm_Less_byte e28 e30 w31 hw31) (e1 := z26 [(40, .int .u8 e30), (41, .bool w31), O1 v20]) ?_
    refine WO.fn (e2 := z22 [(43, .bool (!w31)), O1 v20]) ?_
    exact hK26 (!w31) h
   replace h := cond_f hb h
   refine WO.fn (e2 := z22 [(43, .bool false), O1 v20]) ?_
   exact hK26 false h
end Go.AM
