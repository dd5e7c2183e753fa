/- s -/
import Derived.Test.YtmfdgonjnckdhaaDoorDBT
set_option maxRecDepth 100000
set_option linter.unusedVariables false
set_option linter.unusedSimpArgs false
namespace Go.AM
open Go.Proofs
def mb_Len64_j13 (v16 : Int) (v17 : Int) : Option Int :=
 ((sidx str_14a5d850 (IntKind.wrap .u8 v16)).bind fun e19 => (some (IntKind.wrap .i64 (v17 + (IntKind.wrap .i64 e19)))))
def mb_Len64_j8 (v11 : Int) (v12 : Int) : Option Int :=
 (bif (decide (v11 ≥ 256)) then ((mb_Len64_j13) (iShr .u64 v11 8) (IntKind.wrap .i64 (v12 + 8))) else ((mb_Len64_j13) v11 v12))
def mb_Len64_j3 (v6 : Int) (v7 : Int) : Option Int :=
 (bif (decide (v6 ≥ 65536)) then ((mb_Len64_j8) (iShr .u64 v6 16) (IntKind.wrap .i64 (v7 + 16))) else ((mb_Len64_j8) v6 v7))
def mb_Len64 (a1 : Int) : Option Int :=
 (bif (decide (a1 ≥ 4294967296)) then ((mb_Len64_j3) (iShr .u64 a1 32) 32) else ((mb_Len64_j3) a1 0))
theorem run_mb_Len64 (a1 : Int) (r : Int) (h : mb_Len64 a1 = some r) : Run Tryd.prog (.call 58 [.int .u64 a1] (I6 r)) := by
 refine cW Tryd.func58 rfl (env0 := [(0, .int .u64 a1)]) ?_
 unfold mb_Len64 at h
 refine W.seq ?_
 let z0 := fun t => EN ((0, .int .u64 a1) :: (2, .int .i64 0) :: t)
 refine W.rt (e2 := z0 []) ?_
 refine W.seq ?_
 refine W.join (σ := (Int × Int)) (fun s => [(0, .int .u64 s.1), (2, I6 s.2)]) (fun s => (mb_Len64_j3) s.1 s.2 = some r) (fun s h => ?_) (fun hK3 => ?_)
 ·obtain ⟨v6, v7⟩ := s
  have h : (mb_Len64_j3) v6 v7 = some r := h
  unfold mb_Len64_j3 at h
  refine W.seq ?_
  refine W.join (σ := (Int × Int)) (fun s => [(0, .int .u64 s.1), (2, I6 s.2)]) (fun s => (mb_Len64_j8) s.1 s.2 = some r) (fun s h => ?_) (fun hK8 => ?_)
  ·obtain ⟨v11, v12⟩ := s
   have h : (mb_Len64_j8) v11 v12 = some r := h
   unfold mb_Len64_j8 at h
   refine W.seq ?_
   refine W.join (σ := (Int × Int)) (fun s => [(0, .int .u64 s.1), (2, I6 s.2)]) (fun s => (mb_Len64_j13) s.1 s.2 = some r) (fun s h => ?_) (fun hK13 => ?_)
   ·obtain ⟨v16, v17⟩ := s
    have h : (mb_Len64_j13) v16 v17 = some r := h
    unfold mb_Len64_j13 at h
    refine W.seq ?_
    refine W.rg ?_
    obtain ⟨e19, he19, h⟩ := bind_some h
    refine WO.pk 3 (if (0 : Int) ≤ (IntKind.wrap .u8 v16) then (str_14a5d850[Int.toNat (IntKind.wrap .u8 v16)]?).map fun b => AV.int .u8 b.toNat else none) (v := .int .u8 e19) (sidx_av he19) (e1 := [(0, .int .u64 v16), (2, I6 v17), (19, I6 v17), (20, .int .u64 v16), (21, .int .u8 (IntKind.wrap .u8 v16)), (22, .int .u8 e19)]) ?_
    refine WO.fn (e2 := [(2, I6 (W6 (v17 + (W6 e19))))]) ?_
    refine W.wk (env' := [(2, I6 (W6 (v17 + (W6 e19))))]) ?_
    have hr : aresults Tryd.prog Tryd.f58 [(2, I6 (W6 (v17 + (W6 e19))))] = some (I6 (W6 (v17 + (W6 e19)))) := by kernel_rfl
    cases h
    exact W.ret hr
   refine W.seq ?_
   refine W.rt (e2 := [(0, .int .u64 v11), (2, I6 v12), (14, .bool (decide (v11 ≥ 256)))]) ?_
   refine W.cb (decide (v11 ≥ 256)) (fun hb => ?_) (fun hb => ?_)
   ·replace h := cond_t hb h
    refine W.seq ?_
    refine W.rt (e2 := [(0, .int .u64 (iShr .u64 v11 8)), (2, I6 v12)]) ?_
    refine W.rt (e2 := [(0, .int .u64 (iShr .u64 v11 8)), (2, I6 (W6 (v12 + 8)))]) ?_
    exact hK13 ((iShr .u64 v11 8), (W6 (v12 + 8))) h
   replace h := cond_f hb h
   refine W.skip ?_
   refine W.wk (env' := [(0, .int .u64 v11), (2, I6 v12)]) ?_
   exact hK13 (v11, v12) h
  refine W.seq ?_
  refine W.rt (e2 := [(0, .int .u64 v6), (2, I6 v7), (8, .bool (decide (v6 ≥ 65536)))]) ?_
  refine W.cb (decide (v6 ≥ 65536)) (fun hb => ?_) (fun hb => ?_)
  ·replace h := cond_t hb h
   refine W.seq ?_
   refine W.rt (e2 := [(0, .int .u64 (iShr .u64 v6 16)), (2, I6 v7)]) ?_
   refine W.rt (e2 := [(0, .int .u64 (iShr .u64 v6 16)), (2, I6 (W6 (v7 + 16)))]) ?_
   exact hK8 ((iShr .u64 v6 16), (W6 (v7 + 16))) h
  replace h := cond_f hb h
  refine W.skip ?_
  refine W.wk (env' := [(0, .int .u64 v6), (2, I6 v7)]) ?_
  exact hK8 (v6, v7) h
 refine W.seq ?_
 refine W.rt (e2 := z0 [(4, .bool (decide (a1 ≥ 4294967296)))]) ?_
 refine W.cb (decide (a1 ≥ 4294967296)) (fun hb => ?_) (fun hb => ?_)
 ·replace h := cond_t hb h
  refine W.seq ?_
  refine W.rt (e2 := [(0, .int .u64 (iShr .u64 a1 32))]) ?_
  refine W.rt (e2 := [(0, .int .u64 (iShr .u64 a1 32)), (2, .int .i64 32)]) ?_
  exact hK3 ((iShr .u64 a1 32), 32) h
 replace h := cond_f hb h
 refine W.skip ?_
 refine W.wk (env' := z0 []) ?_
 exact hK3 (a1, 0) h
def mb_Len (a1 : Int) : Option Int :=
 ((mb_Len64 a1).bind fun w5 => (some w5))
theorem run_mb_Len (a1 : Int) (r : Int) (h : mb_Len a1 = some r) : Run Tryd.prog (.call 34 [.int .u64 a1] (I6 r)) := by
 refine cW Tryd.func34 rfl (env0 := [(0, .int .u64 a1)]) ?_
 unfold mb_Len at h
 refine W.seq ?_
 refine W.rt (e2 := [(0, .int .u64 a1)]) ?_
 refine W.seq ?_
 refine W.cb false (fun h => Bool.noConfusion h) (fun _ => ?_)
 refine W.skip ?_
 refine W.wk (env' := [(0, .int .u64 a1)]) ?_
 refine W.seq ?_
 refine W.rg ?_
 obtain ⟨w5, hw5, h⟩ := bind_some h
 refine WO.ck 1 (F := 58) (l := [.int .u64 a1]) (C := []) (r := I6 w5) (run_mb_Len64 a1 w5 hw5) (e1 := [(0, .int .u64 a1), (6, .int .u64 a1), (7, I6 w5)]) ?_
 refine WO.fn (e2 := [(2, I6 w5)]) ?_
 refine W.wk (env' := [(2, I6 w5)]) ?_
 have hr : aresults Tryd.prog Tryd.f34 [(2, I6 w5)] = some (I6 w5) := by kernel_rfl
 cases h
 exact W.ret hr
def cm_isNaN_byte (a1 : Int) : Option Bool :=
 (some (a1 != a1))
theorem run_cm_isNaN_byte (a1 : Int) (r : Bool) (h : cm_isNaN_byte a1 = some r) : Run Tryd.prog (.call 74 [.int .u8 a1] (.bool r)) := by
 refine cW Tryd.func74 rfl (env0 := [(0, .int .u8 a1)]) ?_
 unfold cm_isNaN_byte at h
 refine W.seq ?_
 refine W.rt (e2 := [(0, .int .u8 a1)]) ?_
 refine W.seq ?_
 refine W.rt (e2 := [(2, .bool (a1 != a1))]) ?_
 refine W.wk (env' := [(2, .bool (a1 != a1))]) ?_
 have hr : aresults Tryd.prog Tryd.f74 [(2, .bool (a1 != a1))] = some (.bool (a1 != a1)) := by kernel_rfl
 cases h
 exact W.ret hr
def cm_Less_byte_j4 (v7 : Bool) : Option Bool :=
 (some v7)
def cm_Less_byte (a1 : Int) (a2 : Int) : Option Bool :=
 ((cm_isNaN_byte a1).bind fun w5 => (bif w5 then ((cm_isNaN_byte a2).bind fun w6 => (bif (!w6) then ((cm_Less_byte_j4) true) else ((cm_Less_byte_j4) (decide (a1 < a2))))) else ((cm_Less_byte_j4) (decide (a1 < a2)))))
theorem run_cm_Less_byte (a1 : Int) (a2 : Int) (r : Bool) (h : cm_Less_byte a1 a2 = some r) : Run Tryd.prog (.call 54 [.int .u8 a1, .int .u8 a2] (.bool r)) := by
 refine cW Tryd.func54 rfl (env0 := [(0, .int .u8 a1), (1, .int .u8 a2)]) ?_
 unfold cm_Less_byte at h
 refine W.seq ?_
 let z0 := fun t => EN ((0, .int .u8 a1) :: (1, .int .u8 a2) :: t)
 refine W.rt (e2 := z0 []) ?_
 refine W.seq ?_
 refine W.join (σ := (Bool)) (fun s => [(4, .bool s)]) (fun s => (cm_Less_byte_j4) s = some r) (fun s h => ?_) (fun hK4 => ?_)
 ·obtain ⟨v7, rfl⟩ : ∃ x, x = s := ⟨s, rfl⟩
  have h : (cm_Less_byte_j4) v7 = some r := h
  unfold cm_Less_byte_j4 at h
  refine W.wk (env' := [(4, .bool v7)]) ?_
  have hr : aresults Tryd.prog Tryd.f54 [(4, .bool v7)] = some (.bool v7) := by kernel_rfl
  cases h
  exact W.ret hr
 refine W.rg ?_
 obtain ⟨w5, hw5, h⟩ := bind_some h
 let z1 := fun t => z0 ((5, .int .u8 a1) :: t)
 refine WO.ck 1 (F := 74) (l := [.int .u8 a1]) (C := []) (r := .bool w5) (run_cm_isNaN_byte a1 w5 hw5) (e1 := z1 [(6, .bool w5)]) ?_
 refine WO.bk 1 (fun b => z1 [(6, .bool b), (7, .bool b)]) w5 (fun hb => ?_) (fun hb => ?_)
 ·replace h := cond_t hb h
  obtain ⟨w6, hw6, h⟩ := bind_some h
  let z2 := fun t => z1 ((6, .bool true) :: (7, .bool true) :: (8, .int .u8 a2) :: (9, .bool w6) :: t)
  refine WO.ck 1 (F := 74) (l := [.int .u8 a2]) (C := []) (r := .bool w6) (run_cm_isNaN_byte a2 w6 hw6) (e1 := z2 []) ?_
  refine WO.bk 3 (fun b => z2 [(10, .bool b), (11, .bool b), (12, .bool b)]) (!w6) (fun hb => ?_) (fun hb => ?_)
  ·replace h := cond_t hb h
   refine WO.fn (e2 := [(4, .bool true)]) ?_
   exact hK4 true h
  replace h := cond_f hb h
  refine WO.fn (e2 := [(4, .bool (decide (a1 < a2)))]) ?_
  exact hK4 (decide (a1 < a2)) h
 replace h := cond_f hb h
 refine WO.fn (e2 := [(4, .bool (decide (a1 < a2)))]) ?_
 exact hK4 (decide (a1 < a2)) h
def sl_insertionSortOrdered_byte_j10 (v7 : Int) (N1 : ((List Int) → Int → Option (List Int))) (v33 : (List Int)) : Option (List Int) :=
 (N1 v33 (IntKind.wrap .i64 (v7 + 1)))
def sl_insertionSortOrdered_byte_j15 (n2 : Nat) (v12 : (List Int)) (v13 : Int) (N2 : ((List Int) → Int → Option (List Int))) (K10 : ((List Int) → Option (List Int))) (v21 : Bool) : Option (List Int) :=
 (bif v21 then (chk (decide ((0 : Int) ≤ (IntKind.wrap .i64 (v13 - 1)) ∧ (IntKind.wrap .i64 (v13 - 1)) < ((n2 : Nat) : Int))) ((v12[(0 + Int.toNat (IntKind.wrap .i64 (v13 - 1)))]?).bind fun e24 => (chk (decide ((0 : Int) ≤ v13 ∧ v13 < ((n2 : Nat) : Int))) ((v12[(0 + Int.toNat v13)]?).bind fun e26 => (chk (decide ((0 : Int) ≤ v13 ∧ v13 < ((n2 : Nat) : Int))) ((upd v12 (0 + Int.toNat v13) e24).bind fun u28 => (chk (decide ((0 : Int) ≤ (IntKind.wrap .i64 (v13 - 1)) ∧ (IntKind.wrap .i64 (v13 - 1)) < ((n2 : Nat) : Int))) ((upd u28 (0 + Int.toNat (IntKind.wrap .i64 (v13 - 1))) e26).bind fun u31 => (N2 u31 (IntKind.wrap .i64 (v13 - 1))))))))))) else (K10 v12))
def sl_insertionSortOrdered_byte_l2 (n2 : Nat) (a3 : Int) (K10 : ((List Int) → Option (List Int))) : Nat → (List Int) → Int → Option (List Int)
 | 0, _, _ => none
 | m2 + 1, v12, v13 => (bif (decide (v13 > a3)) then (chk (decide ((0 : Int) ≤ v13 ∧ v13 < ((n2 : Nat) : Int))) ((v12[(0 + Int.toNat v13)]?).bind fun e17 => (chk (decide ((0 : Int) ≤ (IntKind.wrap .i64 (v13 - 1)) ∧ (IntKind.wrap .i64 (v13 - 1)) < ((n2 : Nat) : Int))) ((v12[(0 + Int.toNat (IntKind.wrap .i64 (v13 - 1)))]?).bind fun e19 => ((cm_Less_byte e17 e19).bind fun w20 => ((sl_insertionSortOrdered_byte_j15 n2 v12 v13 (sl_insertionSortOrdered_byte_l2 n2 a3 K10 m2) K10) w20)))))) else ((sl_insertionSortOrdered_byte_j15 n2 v12 v13 (sl_insertionSortOrdered_byte_l2 n2 a3 K10 m2) K10) false))
def sl_insertionSortOrdered_byte_l1 (fuel : Nat) (n2 : Nat) (a3 : Int) (a4 : Int) : Nat → (List Int) → Int → Option (List Int)
 | 0, _, _ => none
 | m1 + 1, v6, v7 => (bif (decide (v7 < a4)) then (sl_insertionSortOrdered_byte_l2 n2 a3 (sl_insertionSortOrdered_byte_j10 v7 (sl_insertionSortOrdered_byte_l1 fuel n2 a3 a4 m1)) fuel v6 v7) else (some v6))
def sl_insertionSortOrdered_byte (fuel : Nat) (a1 : (List Int)) (n2 : Nat) (a3 : Int) (a4 : Int) : Option (List Int) :=
 (sl_insertionSortOrdered_byte_l1 fuel n2 a3 a4 fuel a1 (IntKind.wrap .i64 (a3 + 1)))
theorem run_sl_insertionSortOrdered_byte (fuel : Nat) (a1 : (List Int)) (n2 : Nat) (a3 : Int) (a4 : Int) (r : (List Int)) (h : sl_insertionSortOrdered_byte fuel a1 n2 a3 a4 = some r) : Run Tryd.prog (.callM 48 [S1 n2, I6 a3, I6 a4] [O1 a1] (.tup []) [O1 r]) := by
 refine cM Tryd.func48 rfl (env0 := [(0, S1 n2), (1, I6 a3), (2, I6 a4), O1 a1]) ?_
 unfold sl_insertionSortOrdered_byte at h
 refine W.seq ?_
 let z0 := fun t => EN ((0, S1 n2) :: (1, I6 a3) :: (2, I6 a4) :: t)
 refine W.rt (e2 := z0 [(6, I6 (W6 (a3 + 1))), O1 a1]) ?_
 refine W.block ?_
 refine W.wk (env' := z0 [(6, I6 (W6 (a3 + 1))), O1 a1]) ?_
 refine W.fuel (σ := ((List Int) × Int)) (fun s => z0 [(6, I6 s.2), (2000000, .obj 1000000005 1 (M8 s.1))]) (fun m0 s => sl_insertionSortOrdered_byte_l1 fuel n2 a3 a4 m0 s.1 s.2 = some r) (fun s h => ?_) (fun m1 s h hN1 => ?_) fuel (a1, (W6 (a3 + 1))) h
 ·obtain ⟨v6, v7⟩ := s
  have h : sl_insertionSortOrdered_byte_l1 fuel n2 a3 a4 0 v6 v7 = some r := h
  rw [sl_insertionSortOrdered_byte_l1.eq_1] at h
  cases h
 ·obtain ⟨v6, v7⟩ := s
  have h : sl_insertionSortOrdered_byte_l1 fuel n2 a3 a4 (m1 + 1) v6 v7 = some r := h
  rw [sl_insertionSortOrdered_byte_l1.eq_2] at h
  refine W.seq ?_
  refine W.seq ?_
  let z1 := fun t => z0 ((6, I6 v7) :: t)
  let z2 := fun t => z1 ((12, .bool (decide (v7 < a4))) :: O1 v6 :: t)
  refine W.rt (e2 := z2 []) ?_
  refine W.cb (decide (v7 < a4)) (fun hb => ?_) (fun hb => ?_)
  ·replace h := cond_t hb h
   refine W.skip ?_
   refine W.wk (env' := z1 [O1 v6]) ?_
   refine W.seq ?_
   refine W.join (σ := ((List Int))) (fun s => z1 [O1 s]) (fun s => (sl_insertionSortOrdered_byte_j10 v7 (sl_insertionSortOrdered_byte_l1 fuel n2 a3 a4 m1)) s = some r) (fun s h => ?_) (fun hK10 => ?_)
   ·obtain ⟨v33, rfl⟩ : ∃ x, x = s := ⟨s, rfl⟩
    have h : (sl_insertionSortOrdered_byte_j10 v7 (sl_insertionSortOrdered_byte_l1 fuel n2 a3 a4 m1)) v33 = some r := h
    unfold sl_insertionSortOrdered_byte_j10 at h
    refine W.rt (e2 := z0 [(6, I6 (W6 (v7 + 1))), O1 v33]) ?_
    exact hN1 (v33, (W6 (v7 + 1))) h
   refine W.block ?_
   refine W.seq ?_
   refine W.rt (e2 := z1 [(7, I6 v7), O1 v6]) ?_
   refine W.block ?_
   refine W.wk (env' := z1 [(7, I6 v7), O1 v6]) ?_
   refine W.fuel (σ := ((List Int) × Int)) (fun s => z1 [(7, I6 s.2), (2000000, .obj 1000000005 1 (M8 s.1))]) (fun m0 s => sl_insertionSortOrdered_byte_l2 n2 a3 (sl_insertionSortOrdered_byte_j10 v7 (sl_insertionSortOrdered_byte_l1 fuel n2 a3 a4 m1)) m0 s.1 s.2 = some r) (fun s h => ?_) (fun m2 s h hN2 => ?_) fuel (v6, v7) h
   ·obtain ⟨v12, v13⟩ := s
    have h : sl_insertionSortOrdered_byte_l2 n2 a3 (sl_insertionSortOrdered_byte_j10 v7 (sl_insertionSortOrdered_byte_l1 fuel n2 a3 a4 m1)) 0 v12 v13 = some r := h
    rw [sl_insertionSortOrdered_byte_l2.eq_1] at h
    cases h
   ·obtain ⟨v12, v13⟩ := s
    have h : sl_insertionSortOrdered_byte_l2 n2 a3 (sl_insertionSortOrdered_byte_j10 v7 (sl_insertionSortOrdered_byte_l1 fuel n2 a3 a4 m1)) (m2 + 1) v12 v13 = some r := h
    rw [sl_insertionSortOrdered_byte_l2.eq_2] at h
    refine W.seq ?_
    refine W.seq ?_
    let z3 := fun t => z1 ((7, I6 v13) :: t)
    refine W.join (σ := (Bool)) (fun s => z3 [(30, .bool s), O1 v12]) (fun s => (sl_insertionSortOrdered_byte_j15 n2 v12 v13 (sl_insertionSortOrdered_byte_l2 n2 a3 (sl_insertionSortOrdered_byte_j10 v7 (sl_insertionSortOrdered_byte_l1 fuel n2 a3 a4 m1)) m2) (sl_insertionSortOrdered_byte_j10 v7 (sl_insertionSortOrdered_byte_l1 fuel n2 a3 a4 m1))) s = some r) (fun s h => ?_) (fun hK15 => ?_)
    ·obtain ⟨v21, rfl⟩ : ∃ x, x = s := ⟨s, rfl⟩
     have h : (sl_insertionSortOrdered_byte_j15 n2 v12 v13 (sl_insertionSortOrdered_byte_l2 n2 a3 (sl_insertionSortOrdered_byte_j10 v7 (sl_insertionSortOrdered_byte_l1 fuel n2 a3 a4 m1)) m2) (sl_insertionSortOrdered_byte_j10 v7 (sl_insertionSortOrdered_byte_l1 fuel n2 a3 a4 m1))) v21 = some r := h
     unfold sl_insertionSortOrdered_byte_j15 at h
     refine W.cb v21 (fun hb => ?_) (fun hb => ?_)
     ·replace h := cond_t hb h
      refine W.skip ?_
      refine W.wk (env' := z3 [O1 v12]) ?_
      refine W.seq ?_
      refine W.block ?_
      refine W.rg ?_
      obtain ⟨hc23, h⟩ := chk_some h
      let z4 := fun t => z3 ((33, S1 n2) :: (34, I6 v13) :: (35, S1 n2) :: (36, I6 v13) :: (37, I6 (W6 (v13 - 1))) :: (38, S1 n2) :: (39, I6 v13) :: (40, I6 (W6 (v13 - 1))) :: (41, .pe 2000000 1 (0 + Int.toNat (W6 (v13 - 1))) 0) :: t)
      refine WO.pi 8 (v := .pe 2000000 1 (0 + Int.toNat (W6 (v13 - 1))) 0) hc23 (e1 := z4 [O1 v12]) ?_
      obtain ⟨e24, he24, h⟩ := bind_some h
      let z5 := fun t => z4 ((42, .int .u8 e24) :: t)
      refine WO.pk 0 (match (M8 v12)[(0 + Int.toNat (W6 (v13 - 1)))]? with | some y => cut Tryd.prog 5 (y.cells.map AV.strip) 0 | none => none) (v := .int .u8 e24) ((pe_ld (f := (AV.int .u8)) (G := (fun y => cut Tryd.prog 5 (y.cells.map AV.strip) 0)) he24).trans (by kernel_rfl)) (e1 := z5 [O1 v12]) ?_
      obtain ⟨hc25, h⟩ := chk_some h
      let z6 := fun t => z5 ((43, S1 n2) :: (44, I6 v13) :: (45, .pe 2000000 1 (0 + Int.toNat v13) 0) :: t)
      refine WO.pi 2 (v := .pe 2000000 1 (0 + Int.toNat v13) 0) hc25 (e1 := z6 [O1 v12]) ?_
      obtain ⟨e26, he26, h⟩ := bind_some h
      let z7 := fun t => z6 ((46, .int .u8 e26) :: t)
      refine WO.pk 0 (match (M8 v12)[(0 + Int.toNat v13)]? with | some y => cut Tryd.prog 5 (y.cells.map AV.strip) 0 | none => none) (v := .int .u8 e26) ((pe_ld (f := (AV.int .u8)) (G := (fun y => cut Tryd.prog 5 (y.cells.map AV.strip) 0)) he26).trans (by kernel_rfl)) (e1 := z7 [O1 v12]) ?_
      obtain ⟨hc27, h⟩ := chk_some h
      let z8 := fun t => z7 ((47, .pe 2000000 1 (0 + Int.toNat v13) 0) :: t)
      refine WO.pi 0 (v := .pe 2000000 1 (0 + Int.toNat v13) 0) hc27 (e1 := z8 [O1 v12]) ?_
      obtain ⟨u28, hu28, h⟩ := bind_some h
      obtain ⟨y29, hyy29, hzy29⟩ := upd_some hu28
      refine WO.sk 0 (id := 2000000) (e := 1000000005) (s := 1) (off := 0) (vs := [.int .u8 e24]) (AV.int .u8) hyy29 hzy29 (e1 := z8 [O1 u28]) ?_
      obtain ⟨hc30, h⟩ := chk_some h
      let z9 := fun t => z8 ((48, .pe 2000000 1 (0 + Int.toNat (W6 (v13 - 1))) 0) :: t)
      refine WO.pi 0 (v := .pe 2000000 1 (0 + Int.toNat (W6 (v13 - 1))) 0) hc30 (e1 := z9 [O1 u28]) ?_
      obtain ⟨u31, hu31, h⟩ := bind_some h
      obtain ⟨y32, hyy32, hzy32⟩ := upd_some hu31
      refine WO.sk 0 (id := 2000000) (e := 1000000005) (s := 1) (off := 0) (vs := [.int .u8 e26]) (AV.int .u8) hyy32 hzy32 (e1 := z9 [O1 u31]) ?_
      refine WO.fn (e2 := z3 [O1 u31]) ?_
      refine W.rt (e2 := z1 [(7, I6 (W6 (v13 - 1))), O1 u31]) ?_
      exact hN2 (u31, (W6 (v13 - 1))) h
     replace h := cond_f hb h
     refine W.exit ?_
     refine W.wk (env' := z1 [O1 v12]) ?_
     exact hK10 v12 h
    refine W.rg ?_
    let z10 := fun t => z3 ((16, I6 v13) :: (17, I6 a3) :: t)
    refine WO.bk 4 (fun b => z10 [(18, .bool b), (19, .bool b), O1 v12]) (decide (v13 > a3)) (fun hb => ?_) (fun hb => ?_)
    ·replace h := cond_t hb h
     obtain ⟨hc16, h⟩ := chk_some h
     let z11 := fun t => z10 ((18, .bool true) :: (19, .bool true) :: (20, S1 n2) :: (21, I6 v13) :: (22, .pe 2000000 1 (0 + Int.toNat v13) 0) :: t)
     refine WO.pi 2 (v := .pe 2000000 1 (0 + Int.toNat v13) 0) hc16 (e1 := z11 [O1 v12]) ?_
     obtain ⟨e17, he17, h⟩ := bind_some h
     let z12 := fun t => z11 ((23, .int .u8 e17) :: t)
     refine WO.pk 0 (match (M8 v12)[(0 + Int.toNat v13)]? with | some y => cut Tryd.prog 5 (y.cells.map AV.strip) 0 | none => none) (v := .int .u8 e17) ((pe_ld (f := (AV.int .u8)) (G := (fun y => cut Tryd.prog 5 (y.cells.map AV.strip) 0)) he17).trans (by kernel_rfl)) (e1 := z12 [O1 v12]) ?_
     obtain ⟨hc18, h⟩ := chk_some h
     let z13 := fun t => z12 ((24, S1 n2) :: (25, I6 v13) :: (26, I6 (W6 (v13 - 1))) :: (27, .pe 2000000 1 (0 + Int.toNat (W6 (v13 - 1))) 0) :: t)
     refine WO.pi 3 (v := .pe 2000000 1 (0 + Int.toNat (W6 (v13 - 1))) 0) hc18 (e1 := z13 [O1 v12]) ?_
     obtain ⟨e19, he19, h⟩ := bind_some h
     refine WO.pk 0 (match (M8 v12)[(0 + Int.toNat (W6 (v13 - 1)))]? with | some y => cut Tryd.prog 5 (y.cells.map AV.strip) 0 | none => none) (v := .int .u8 e19) ((pe_ld (f := (AV.int .u8)) (G := (fun y => cut Tryd.prog 5 (y.cells.map AV.strip) 0)) he19).trans (by kernel_rfl)) (e1 := z13 [(28, .int .u8 e19), O1 v12]) ?_
     obtain ⟨w20, hw20, h⟩ := bind_some h
     refine WO.ck 0 (F := 54) (l := [.int .u8 e17, .int .u8 e19]) (C := []) (r := .bool w20) (run_cm_Less_byte e17 e19 w20 hw20) (e1 := z13 [(28, .int .u8 e19), (29, .bool w20), O1 v12]) ?_
     refine WO.fn (e2 := z3 [(30, .bool w20), O1 v12]) ?_
     exact hK15 w20 h
    replace h := cond_f hb h
    refine WO.fn (e2 := z3 [(30, .bool false), O1 v12]) ?_
    exact hK15 false h
  replace h := cond_f hb h
  have hr : PostM Tryd.prog Tryd.f48 (.tup []) [O1 v6] .normal (z2 []) := ⟨by kernel_rfl, by kernel_rfl⟩
  cases h
  exact W.exit hr
def sl_siftDownOrdered_byte_j12 (n2 : Nat) (a5 : Int) (v7 : (List Int)) (v8 : Int) (N1 : ((List Int) → Int → Option (List Int))) (v20 : Int) : Option (List Int) :=
 (chk (decide ((0 : Int) ≤ (IntKind.wrap .i64 (a5 + v8)) ∧ (IntKind.wrap .i64 (a5 + v8)) < ((n2 : Nat) : Int))) ((v7[(0 + Int.toNat (IntKind.wrap .i64 (a5 + v8)))]?).bind fun e24 => (chk (decide ((0 : Int) ≤ (IntKind.wrap .i64 (a5 + v20)) ∧ (IntKind.wrap .i64 (a5 + v20)) < ((n2 : Nat) : Int))) ((v7[(0 + Int.toNat (IntKind.wrap .i64 (a5 + v20)))]?).bind fun e26 => ((cm_Less_byte e24 e26).bind fun w27 => (bif (!w27) then (some v7) else (chk (decide ((0 : Int) ≤ (IntKind.wrap .i64 (a5 + v20)) ∧ (IntKind.wrap .i64 (a5 + v20)) < ((n2 : Nat) : Int))) ((v7[(0 + Int.toNat (IntKind.wrap .i64 (a5 + v20)))]?).bind fun e30 => (chk (decide ((0 : Int) ≤ (IntKind.wrap .i64 (a5 + v8)) ∧ (IntKind.wrap .i64 (a5 + v8)) < ((n2 : Nat) : Int))) ((v7[(0 + Int.toNat (IntKind.wrap .i64 (a5 + v8)))]?).bind fun e32 => (chk (decide ((0 : Int) ≤ (IntKind.wrap .i64 (a5 + v8)) ∧ (IntKind.wrap .i64 (a5 + v8)) < ((n2 : Nat) : Int))) ((upd v7 (0 + Int.toNat (IntKind.wrap .i64 (a5 + v8))) e30).bind fun u34 => (chk (decide ((0 : Int) ≤ (IntKind.wrap .i64 (a5 + v20)) ∧ (IntKind.wrap .i64 (a5 + v20)) < ((n2 : Nat) : Int))) ((upd u34 (0 + Int.toNat (IntKind.wrap .i64 (a5 + v20))) e32).bind fun u37 => (N1 u37 v20)))))))))))))))
def sl_siftDownOrdered_byte_j13 (v8 : Int) (K12 : (Int → Option (List Int))) (v19 : Bool) : Option (List Int) :=
 (bif v19 then (K12 (IntKind.wrap .i64 ((IntKind.wrap .i64 ((IntKind.wrap .i64 (2 * v8)) + 1)) + 1))) else (K12 (IntKind.wrap .i64 ((IntKind.wrap .i64 (2 * v8)) + 1))))
def sl_siftDownOrdered_byte_l1 (n2 : Nat) (a4 : Int) (a5 : Int) : Nat → (List Int) → Int → Option (List Int)
 | 0, _, _ => none
 | m1 + 1, v7, v8 => (bif (decide ((IntKind.wrap .i64 ((IntKind.wrap .i64 (2 * v8)) + 1)) ≥ a4)) then (some v7) else (bif (decide ((IntKind.wrap .i64 ((IntKind.wrap .i64 ((IntKind.wrap .i64 (2 * v8)) + 1)) + 1)) < a4)) then (chk (decide ((0 : Int) ≤ (IntKind.wrap .i64 (a5 + (IntKind.wrap .i64 ((IntKind.wrap .i64 (2 * v8)) + 1)))) ∧ (IntKind.wrap .i64 (a5 + (IntKind.wrap .i64 ((IntKind.wrap .i64 (2 * v8)) + 1)))) < ((n2 : Nat) : Int))) ((v7[(0 + Int.toNat (IntKind.wrap .i64 (a5 + (IntKind.wrap .i64 ((IntKind.wrap .i64 (2 * v8)) + 1)))))]?).bind fun e15 => (chk (decide ((0 : Int) ≤ (IntKind.wrap .i64 ((IntKind.wrap .i64 (a5 + (IntKind.wrap .i64 ((IntKind.wrap .i64 (2 * v8)) + 1)))) + 1)) ∧ (IntKind.wrap .i64 ((IntKind.wrap .i64 (a5 + (IntKind.wrap .i64 ((IntKind.wrap .i64 (2 * v8)) + 1)))) + 1)) < ((n2 : Nat) : Int))) ((v7[(0 + Int.toNat (IntKind.wrap .i64 ((IntKind.wrap .i64 (a5 + (IntKind.wrap .i64 ((IntKind.wrap .i64 (2 * v8)) + 1)))) + 1)))]?).bind fun e17 => ((cm_Less_byte e15 e17).bind fun w18 => ((sl_siftDownOrdered_byte_j13 v8 (sl_siftDownOrdered_byte_j12 n2 a5 v7 v8 (sl_siftDownOrdered_byte_l1 n2 a4 a5 m1))) w18)))))) else ((sl_siftDownOrdered_byte_j13 v8 (sl_siftDownOrdered_byte_j12 n2 a5 v7 v8 (sl_siftDownOrdered_byte_l1 n2 a4 a5 m1))) false)))
def sl_siftDownOrdered_byte (fuel : Nat) (a1 : (List Int)) (n2 : Nat) (a3 : Int) (a4 : Int) (a5 : Int) : Option (List Int) :=
 (sl_siftDownOrdered_byte_l1 n2 a4 a5 fuel a1 a3)
theorem run_sl_siftDownOrdered_byte (fuel : Nat) (a1 : (List Int)) (n2 : Nat) (a3 : Int) (a4 : Int) (a5 : Int) (r : (List Int)) (h : sl_siftDownOrdered_byte fuel a1 n2 a3 a4 a5 = some r) : Run Tryd.prog (.callM 69 [S1 n2, I6 a3, I6 a4, I6 a5] [O1 a1] (.tup []) [O1 r]) := by
 refine cM Tryd.func69 rfl (env0 := [(0, S1 n2), (1, I6 a3), (2, I6 a4), (3, I6 a5), O1 a1]) ?_
 unfold sl_siftDownOrdered_byte at h
 refine W.seq ?_
 let z0 := fun t => EN ((0, S1 n2) :: (2, I6 a4) :: (3, I6 a5) :: t)
 refine W.rt (e2 := z0 [(8, I6 a3), O1 a1]) ?_
 refine W.block ?_
 refine W.wk (env' := z0 [(8, I6 a3), O1 a1]) ?_
 refine W.fuel (σ := ((List Int) × Int)) (fun s => z0 [(8, I6 s.2), (2000000, .obj 1000000005 1 (M8 s.1))]) (fun m0 s => sl_siftDownOrdered_byte_l1 n2 a4 a5 m0 s.1 s.2 = some r) (fun s h => ?_) (fun m1 s h hN1 => ?_) fuel (a1, a3) h
 ·obtain ⟨v7, v8⟩ := s
  have h : sl_siftDownOrdered_byte_l1 n2 a4 a5 0 v7 v8 = some r := h
  rw [sl_siftDownOrdered_byte_l1.eq_1] at h
  cases h
 ·obtain ⟨v7, v8⟩ := s
  have h : sl_siftDownOrdered_byte_l1 n2 a4 a5 (m1 + 1) v7 v8 = some r := h
  rw [sl_siftDownOrdered_byte_l1.eq_2] at h
  refine W.block ?_
  refine W.seq ?_
  let z1 := fun t => z0 ((8, I6 v8) :: (9, I6 (W6 ((W6 (2 * v8)) + 1))) :: t)
  refine W.rt (e2 := z1 [O1 v7]) ?_
  refine W.seq ?_
  refine W.seq ?_
  let z2 := fun t => z1 ((16, .bool (decide ((W6 ((W6 (2 * v8)) + 1)) ≥ a4))) :: O1 v7 :: t)
  refine W.rt (e2 := z2 []) ?_
  refine W.cb (decide ((W6 ((W6 (2 * v8)) + 1)) ≥ a4)) (fun hb => ?_) (fun hb => ?_)
  ·replace h := cond_t hb h
   have hr : PostM Tryd.prog Tryd.f69 (.tup []) [O1 v7] .normal (z2 []) := ⟨by kernel_rfl, by kernel_rfl⟩
   cases h
   exact W.exit hr
  replace h := cond_f hb h
  refine W.skip ?_
  refine W.wk (env' := z1 [O1 v7]) ?_
  refine W.seq ?_
  let z3 := fun t => z0 ((8, I6 v8) :: t)
  refine W.join (σ := (Int)) (fun s => z3 [(9, I6 s), O1 v7]) (fun s => (sl_siftDownOrdered_byte_j12 n2 a5 v7 v8 (sl_siftDownOrdered_byte_l1 n2 a4 a5 m1)) s = some r) (fun s h => ?_) (fun hK12 => ?_)
  ·obtain ⟨v20, rfl⟩ : ∃ x, x = s := ⟨s, rfl⟩
   have h : (sl_siftDownOrdered_byte_j12 n2 a5 v7 v8 (sl_siftDownOrdered_byte_l1 n2 a4 a5 m1)) v20 = some r := h
   unfold sl_siftDownOrdered_byte_j12 at h
   refine W.seq ?_
   refine W.seq ?_
   refine W.rg ?_
   obtain ⟨hc23, h⟩ := chk_some h
   let z4 := fun t => z3 ((9, I6 v20) :: (39, S1 n2) :: (40, I6 a5) :: (41, I6 v8) :: (42, I6 (W6 (a5 + v8))) :: (43, .pe 2000000 1 (0 + Int.toNat (W6 (a5 + v8))) 0) :: t)
   refine WO.pi 4 (v := .pe 2000000 1 (0 + Int.toNat (W6 (a5 + v8))) 0) hc23 (e1 := z4 [O1 v7]) ?_
   obtain ⟨e24, he24, h⟩ := bind_some h
   let z5 := fun t => z4 ((44, .int .u8 e24) :: t)
   refine WO.pk 0 (match (M8 v7)[(0 + Int.toNat (W6 (a5 + v8)))]? with | some y => cut Tryd.prog 5 (y.cells.map AV.strip) 0 | none => none) (v := .int .u8 e24) ((pe_ld (f := (AV.int .u8)) (G := (fun y => cut Tryd.prog 5 (y.cells.map AV.strip) 0)) he24).trans (by kernel_rfl)) (e1 := z5 [O1 v7]) ?_
   obtain ⟨hc25, h⟩ := chk_some h
   let z6 := fun t => z5 ((45, S1 n2) :: (46, I6 a5) :: (47, I6 v20) :: (48, I6 (W6 (a5 + v20))) :: (49, .pe 2000000 1 (0 + Int.toNat (W6 (a5 + v20))) 0) :: t)
   refine WO.pi 4 (v := .pe 2000000 1 (0 + Int.toNat (W6 (a5 + v20))) 0) hc25 (e1 := z6 [O1 v7]) ?_
   obtain ⟨e26, he26, h⟩ := bind_some h
   refine WO.pk 0 (match (M8 v7)[(0 + Int.toNat (W6 (a5 + v20)))]? with | some y => cut Tryd.prog 5 (y.cells.map AV.strip) 0 | none => none) (v := .int .u8 e26) ((pe_ld (f := (AV.int .u8)) (G := (fun y => cut Tryd.prog 5 (y.cells.map AV.strip) 0)) he26).trans (by kernel_rfl)) (e1 := z6 [(50, .int .u8 e26), O1 v7]) ?_
   obtain ⟨w27, hw27, h⟩ := bind_some h
   refine WO.ck 0 (F := 54) (l := [.int .u8 e24, .int .u8 e26]) (C := []) (r := .bool w27) (run_cm_Less_byte e24 e26 w27 hw27) (e1 := z6 [(50, .int .u8 e26), (51, .bool w27), O1 v7]) ?_
   let z7 := fun t => z3 ((9, I6 v20) :: t)
   refine WO.fn (e2 := z7 [(52, .bool (!w27)), O1 v7]) ?_
   refine W.cb (!w27) (fun hb => ?_) (fun hb => ?_)
   ·replace h := cond_t hb h
    refine W.wk (env' := [O1 v7]) ?_
    have hr : PostM Tryd.prog Tryd.f69 (.tup []) [O1 v7] .ret [O1 v7] := ⟨by kernel_rfl, by kernel_rfl⟩
    cases h
    exact W.ret hr
   replace h := cond_f hb h
   refine W.skip ?_
   refine W.wk (env' := z7 [O1 v7]) ?_
   refine W.seq ?_
   refine W.rg ?_
   obtain ⟨hc29, h⟩ := chk_some h
   let z8 := fun t => z7 ((53, S1 n2) :: (54, I6 a5) :: (55, I6 v8) :: (56, I6 (W6 (a5 + v8))) :: (57, S1 n2) :: (58, I6 a5) :: (59, I6 v20) :: (60, I6 (W6 (a5 + v20))) :: (61, S1 n2) :: (62, I6 a5) :: (63, I6 v20) :: (64, I6 (W6 (a5 + v20))) :: (65, .pe 2000000 1 (0 + Int.toNat (W6 (a5 + v20))) 0) :: t)
   refine WO.pi 12 (v := .pe 2000000 1 (0 + Int.toNat (W6 (a5 + v20))) 0) hc29 (e1 := z8 [O1 v7]) ?_
   obtain ⟨e30, he30, h⟩ := bind_some h
   let z9 := fun t => z8 ((66, .int .u8 e30) :: t)
   refine WO.pk 0 (match (M8 v7)[(0 + Int.toNat (W6 (a5 + v20)))]? with | some y => cut Tryd.prog 5 (y.cells.map AV.strip) 0 | none => none) (v := .int .u8 e30) ((pe_ld (f := (AV.int .u8)) (G := (fun y => cut Tryd.prog 5 (y.cells.map AV.strip) 0)) he30).trans (by kernel_rfl)) (e1 := z9 [O1 v7]) ?_
   obtain ⟨hc31, h⟩ := chk_some h
   let z10 := fun t => z9 ((67, S1 n2) :: (68, I6 a5) :: (69, I6 v8) :: (70, I6 (W6 (a5 + v8))) :: (71, .pe 2000000 1 (0 + Int.toNat (W6 (a5 + v8))) 0) :: t)
   refine WO.pi 4 (v := .pe 2000000 1 (0 + Int.toNat (W6 (a5 + v8))) 0) hc31 (e1 := z10 [O1 v7]) ?_
   obtain ⟨e32, he32, h⟩ := bind_some h
   let z11 := fun t => z10 ((72, .int .u8 e32) :: t)
   refine WO.pk 0 (match (M8 v7)[(0 + Int.toNat (W6 (a5 + v8)))]? with | some y => cut Tryd.prog 5 (y.cells.map AV.strip) 0 | none => none) (v := .int .u8 e32) ((pe_ld (f := (AV.int .u8)) (G := (fun y => cut Tryd.prog 5 (y.cells.map AV.strip) 0)) he32).trans (by kernel_rfl)) (e1 := z11 [O1 v7]) ?_
   obtain ⟨hc33, h⟩ := chk_some h
   let z12 := fun t => z11 ((73, .pe 2000000 1 (0 + Int.toNat (W6 (a5 + v8))) 0) :: t)
   refine WO.pi 0 (v := .pe 2000000 1 (0 + Int.toNat (W6 (a5 + v8))) 0) hc33 (e1 := z12 [O1 v7]) ?_
   obtain ⟨u34, hu34, h⟩ := bind_some h
   obtain ⟨y35, hyy35, hzy35⟩ := upd_some hu34
   refine WO.sk 0 (id := 2000000) (e := 1000000005) (s := 1) (off := 0) (vs := [.int .u8 e30]) (AV.int .u8) hyy35 hzy35 (e1 := z12 [O1 u34]) ?_
   obtain ⟨hc36, h⟩ := chk_some h
   let z13 := fun t => z12 ((74, .pe 2000000 1 (0 + Int.toNat (W6 (a5 + v20))) 0) :: t)
   refine WO.pi 0 (v := .pe 2000000 1 (0 + Int.toNat (W6 (a5 + v20))) 0) hc36 (e1 := z13 [O1 u34]) ?_
   obtain ⟨u37, hu37, h⟩ := bind_some h
   obtain ⟨y38, hyy38, hzy38⟩ := upd_some hu37
   refine WO.sk 0 (id := 2000000) (e := 1000000005) (s := 1) (off := 0) (vs := [.int .u8 e32]) (AV.int .u8) hyy38 hzy38 (e1 := z13 [O1 u37]) ?_
   refine WO.fn (e2 := z0 [(9, I6 v20), O1 u37]) ?_
   refine W.rt (e2 := z0 [(8, I6 v20), O1 u37]) ?_
   exact hN1 (u37, v20) h
  refine W.seq ?_
  refine W.join (σ := (Bool)) (fun s => z1 [(36, .bool s), O1 v7]) (fun s => (sl_siftDownOrdered_byte_j13 v8 (sl_siftDownOrdered_byte_j12 n2 a5 v7 v8 (sl_siftDownOrdered_byte_l1 n2 a4 a5 m1))) s = some r) (fun s h => ?_) (fun hK13 => ?_)
  ·obtain ⟨v19, rfl⟩ : ∃ x, x = s := ⟨s, rfl⟩
   have h : (sl_siftDownOrdered_byte_j13 v8 (sl_siftDownOrdered_byte_j12 n2 a5 v7 v8 (sl_siftDownOrdered_byte_l1 n2 a4 a5 m1))) v19 = some r := h
   unfold sl_siftDownOrdered_byte_j13 at h
   refine W.cb v19 (fun hb => ?_) (fun hb => ?_)
   ·replace h := cond_t hb h
    refine W.rt (e2 := z3 [(9, I6 (W6 ((W6 ((W6 (2 * v8)) + 1)) + 1))), O1 v7]) ?_
    exact hK12 (W6 ((W6 ((W6 (2 * v8)) + 1)) + 1)) h
   replace h := cond_f hb h
   refine W.skip ?_
   refine W.wk (env' := z1 [O1 v7]) ?_
   exact hK12 (W6 ((W6 (2 * v8)) + 1)) h
  refine W.rg ?_
  let z14 := fun t => z1 ((17, I6 (W6 ((W6 (2 * v8)) + 1))) :: (18, I6 (W6 ((W6 ((W6 (2 * v8)) + 1)) + 1))) :: (19, I6 a4) :: t)
  refine WO.bk 5 (fun b => z14 [(20, .bool b), (21, .bool b), O1 v7]) (decide ((W6 ((W6 ((W6 (2 * v8)) + 1)) + 1)) < a4)) (fun hb => ?_) (fun hb => ?_)
  ·replace h := cond_t hb h
   obtain ⟨hc14, h⟩ := chk_some h
   let z15 := fun t => z14 ((20, .bool true) :: (21, .bool true) :: (22, S1 n2) :: (23, I6 a5) :: (24, I6 (W6 ((W6 (2 * v8)) + 1))) :: (25, I6 (W6 (a5 + (W6 ((W6 (2 * v8)) + 1))))) :: (26, .pe 2000000 1 (0 + Int.toNat (W6 (a5 + (W6 ((W6 (2 * v8)) + 1))))) 0) :: t)
   refine WO.pi 4 (v := .pe 2000000 1 (0 + Int.toNat (W6 (a5 + (W6 ((W6 (2 * v8)) + 1))))) 0) hc14 (e1 := z15 [O1 v7]) ?_
   obtain ⟨e15, he15, h⟩ := bind_some h
   let z16 := fun t => z15 ((27, .int .u8 e15) :: t)
   refine WO.pk 0 (match (M8 v7)[(0 + Int.toNat (W6 (a5 + (W6 ((W6 (2 * v8)) + 1)))))]? with | some y => cut Tryd.prog 5 (y.cells.map AV.strip) 0 | none => none) (v := .int .u8 e15) ((pe_ld (f := (AV.int .u8)) (G := (fun y => cut Tryd.prog 5 (y.cells.map AV.strip) 0)) he15).trans (by kernel_rfl)) (e1 := z16 [O1 v7]) ?_
   obtain ⟨hc16, h⟩ := chk_some h
   let z17 := fun t => z16 ((28, S1 n2) :: (29, I6 a5) :: (30, I6 (W6 ((W6 (2 * v8)) + 1))) :: (31, I6 (W6 (a5 + (W6 ((W6 (2 * v8)) + 1))))) :: (32, I6 (W6 ((W6 (a5 + (W6 ((W6 (2 * v8)) + 1)))) + 1))) :: (33, .pe 2000000 1 (0 + Int.toNat (W6 ((W6 (a5 + (W6 ((W6 (2 * v8)) + 1)))) + 1))) 0) :: t)
   refine WO.pi 5 (v := .pe 2000000 1 (0 + Int.toNat (W6 ((W6 (a5 + (W6 ((W6 (2 * v8)) + 1)))) + 1))) 0) hc16 (e1 := z17 [O1 v7]) ?_
   obtain ⟨e17, he17, h⟩ := bind_some h
   refine WO.pk 0 (match (M8 v7)[(0 + Int.toNat (W6 ((W6 (a5 + (W6 ((W6 (2 * v8)) + 1)))) + 1)))]? with | some y => cut Tryd.prog 5 (y.cells.map AV.strip) 0 | none => none) (v := .int .u8 e17) ((pe_ld (f := (AV.int .u8)) (G := (fun y => cut Tryd.prog 5 (y.cells.map AV.strip) 0)) he17).trans (by kernel_rfl)) (e1 := z17 [(34, .int .u8 e17), O1 v7]) ?_
   obtain ⟨w18, hw18, h⟩ := bind_some h
   refine WO.ck 0 (F := 54) (l := [.int .u8 e15, .int .u8 e17]) (C := []) (r := .bool w18) (run_cm_Less_byte e15 e17 w18 hw18) (e1 := z17 [(34, .int .u8 e17), (35, .bool w18), O1 v7]) ?_
   refine WO.fn (e2 := z1 [(36, .bool w18), O1 v7]) ?_
   exact hK13 w18 h
  replace h := cond_f hb h
  refine WO.fn (e2 := z1 [(36, .bool false), O1 v7]) ?_
  exact hK13 false h
def sl_heapSortOrdered_byte_l2 (fuel : Nat) (n2 : Nat) (a3 : Int) : Nat → (List Int) → Int → Option (List Int)
 | 0, _, _ => none
 | m2 + 1, v18, v19 => (bif (decide (v19 ≥ 0)) then (chk (decide ((0 : Int) ≤ (IntKind.wrap .i64 (a3 + v19)) ∧ (IntKind.wrap .i64 (a3 + v19)) < ((n2 : Nat) : Int))) ((v18[(0 + Int.toNat (IntKind.wrap .i64 (a3 + v19)))]?).bind fun e25 => (chk (decide ((0 : Int) ≤ a3 ∧ a3 < ((n2 : Nat) : Int))) ((v18[(0 + Int.toNat a3)]?).bind fun e27 => (chk (decide ((0 : Int) ≤ a3 ∧ a3 < ((n2 : Nat) : Int))) ((upd v18 (0 + Int.toNat a3) e25).bind fun u29 => (chk (decide ((0 : Int) ≤ (IntKind.wrap .i64 (a3 + v19)) ∧ (IntKind.wrap .i64 (a3 + v19)) < ((n2 : Nat) : Int))) ((upd u29 (0 + Int.toNat (IntKind.wrap .i64 (a3 + v19))) e27).bind fun u32 => ((sl_siftDownOrdered_byte fuel u32 n2 0 v19 a3).bind fun w34 => ((sl_heapSortOrdered_byte_l2 fuel n2 a3 m2) w34 (IntKind.wrap .i64 (v19 - 1)))))))))))) else (some v18))
def sl_heapSortOrdered_byte_j8 (fuel : Nat) (n2 : Nat) (a3 : Int) (a4 : Int) (v16 : (List Int)) : Option (List Int) :=
 (sl_heapSortOrdered_byte_l2 fuel n2 a3 fuel v16 (IntKind.wrap .i64 ((IntKind.wrap .i64 (a4 - a3)) - 1)))
def sl_heapSortOrdered_byte_l1 (fuel : Nat) (n2 : Nat) (a3 : Int) (a4 : Int) (K8 : ((List Int) → Option (List Int))) : Nat → (List Int) → Int → Option (List Int)
 | 0, _, _ => none
 | m1 + 1, v10, v11 => (bif (decide (v11 ≥ 0)) then ((sl_siftDownOrdered_byte fuel v10 n2 v11 (IntKind.wrap .i64 (a4 - a3)) a3).bind fun w15 => ((sl_heapSortOrdered_byte_l1 fuel n2 a3 a4 K8 m1) w15 (IntKind.wrap .i64 (v11 - 1)))) else (K8 v10))
def sl_heapSortOrdered_byte (fuel : Nat) (a1 : (List Int)) (n2 : Nat) (a3 : Int) (a4 : Int) : Option (List Int) :=
 (sl_heapSortOrdered_byte_l1 fuel n2 a3 a4 (sl_heapSortOrdered_byte_j8 fuel n2 a3 a4) fuel a1 (IntKind.wrap .i64 (((IntKind.wrap .i64 ((IntKind.wrap .i64 (a4 - a3)) - 1))).tdiv 2)))
theorem run_sl_heapSortOrdered_byte (fuel : Nat) (a1 : (List Int)) (n2 : Nat) (a3 : Int) (a4 : Int) (r : (List Int)) (h : sl_heapSortOrdered_byte fuel a1 n2 a3 a4 = some r) : Run Tryd.prog (.callM 49 [S1 n2, I6 a3, I6 a4] [O1 a1] (.tup []) [O1 r]) := by
 refine cM Tryd.func49 rfl (env0 := [(0, S1 n2), (1, I6 a3), (2, I6 a4), O1 a1]) ?_
 unfold sl_heapSortOrdered_byte at h
 refine W.seq ?_
 let z0 := fun t => EN ((0, S1 n2) :: t)
 let z1 := fun t => z0 ((1, I6 a3) :: (2, I6 a4) :: (6, I6 a3) :: t)
 refine W.rt (e2 := z1 [O1 a1]) ?_
 refine W.seq ?_
 refine W.rt (e2 := z1 [(7, .int .i64 0), O1 a1]) ?_
 refine W.seq ?_
 let z2 := fun t => z0 ((6, I6 a3) :: (7, .int .i64 0) :: t)
 let z3 := fun t => z2 ((8, I6 (W6 (a4 - a3))) :: t)
 refine W.rt (e2 := z3 [O1 a1]) ?_
 refine W.seq ?_
 refine W.join (σ := ((List Int))) (fun s => z3 [O1 s]) (fun s => (sl_heapSortOrdered_byte_j8 fuel n2 a3 a4) s = some r) (fun s h => ?_) (fun hK8 => ?_)
 ·obtain ⟨v16, rfl⟩ : ∃ x, x = s := ⟨s, rfl⟩
  have h : (sl_heapSortOrdered_byte_j8 fuel n2 a3 a4) v16 = some r := h
  unfold sl_heapSortOrdered_byte_j8 at h
  refine W.seq ?_
  let z4 := fun t => z2 ((10, I6 (W6 ((W6 (a4 - a3)) - 1))) :: O1 v16 :: t)
  refine W.rt (e2 := z4 []) ?_
  refine W.block ?_
  refine W.wk (env' := z4 []) ?_
  refine W.fuel (σ := ((List Int) × Int)) (fun s => z2 [(10, I6 s.2), (2000000, .obj 1000000005 1 (M8 s.1))]) (fun m0 s => sl_heapSortOrdered_byte_l2 fuel n2 a3 m0 s.1 s.2 = some r) (fun s h => ?_) (fun m2 s h hN2 => ?_) fuel (v16, (W6 ((W6 (a4 - a3)) - 1))) h
  ·obtain ⟨v18, v19⟩ := s
   have h : sl_heapSortOrdered_byte_l2 fuel n2 a3 0 v18 v19 = some r := h
   rw [sl_heapSortOrdered_byte_l2.eq_1] at h
   cases h
  ·obtain ⟨v18, v19⟩ := s
   have h : sl_heapSortOrdered_byte_l2 fuel n2 a3 (m2 + 1) v18 v19 = some r := h
   rw [sl_heapSortOrdered_byte_l2.eq_2] at h
   refine W.seq ?_
   refine W.seq ?_
   let z5 := fun t => z2 ((10, I6 v19) :: t)
   let z6 := fun t => z5 ((30, .bool (decide (v19 ≥ 0))) :: O1 v18 :: t)
   refine W.rt (e2 := z6 []) ?_
   refine W.cb (decide (v19 ≥ 0)) (fun hb => ?_) (fun hb => ?_)
   ·replace h := cond_t hb h
    refine W.skip ?_
    refine W.wk (env' := z5 [O1 v18]) ?_
    refine W.seq ?_
    refine W.block ?_
    refine W.seq ?_
    refine W.rg ?_
    obtain ⟨hc24, h⟩ := chk_some h
    let z7 := fun t => z5 ((33, S1 n2) :: (34, I6 a3) :: (35, S1 n2) :: (36, I6 a3) :: (37, I6 v19) :: (38, I6 (W6 (a3 + v19))) :: (39, S1 n2) :: (40, I6 a3) :: (41, I6 v19) :: (42, I6 (W6 (a3 + v19))) :: (43, .pe 2000000 1 (0 + Int.toNat (W6 (a3 + v19))) 0) :: t)
    refine WO.pi 10 (v := .pe 2000000 1 (0 + Int.toNat (W6 (a3 + v19))) 0) hc24 (e1 := z7 [O1 v18]) ?_
    obtain ⟨e25, he25, h⟩ := bind_some h
    let z8 := fun t => z7 ((44, .int .u8 e25) :: t)
    refine WO.pk 0 (match (M8 v18)[(0 + Int.toNat (W6 (a3 + v19)))]? with | some y => cut Tryd.prog 5 (y.cells.map AV.strip) 0 | none => none) (v := .int .u8 e25) ((pe_ld (f := (AV.int .u8)) (G := (fun y => cut Tryd.prog 5 (y.cells.map AV.strip) 0)) he25).trans (by kernel_rfl)) (e1 := z8 [O1 v18]) ?_
    obtain ⟨hc26, h⟩ := chk_some h
    let z9 := fun t => z8 ((45, S1 n2) :: (46, I6 a3) :: (47, .pe 2000000 1 (0 + Int.toNat a3) 0) :: t)
    refine WO.pi 2 (v := .pe 2000000 1 (0 + Int.toNat a3) 0) hc26 (e1 := z9 [O1 v18]) ?_
    obtain ⟨e27, he27, h⟩ := bind_some h
    let z10 := fun t => z9 ((48, .int .u8 e27) :: t)
    refine WO.pk 0 (match (M8 v18)[(0 + Int.toNat a3)]? with | some y => cut Tryd.prog 5 (y.cells.map AV.strip) 0 | none => none) (v := .int .u8 e27) ((pe_ld (f := (AV.int .u8)) (G := (fun y => cut Tryd.prog 5 (y.cells.map AV.strip) 0)) he27).trans (by kernel_rfl)) (e1 := z10 [O1 v18]) ?_
    obtain ⟨hc28, h⟩ := chk_some h
    let z11 := fun t => z10 ((49, .pe 2000000 1 (0 + Int.toNat a3) 0) :: t)
    refine WO.pi 0 (v := .pe 2000000 1 (0 + Int.toNat a3) 0) hc28 (e1 := z11 [O1 v18]) ?_
    obtain ⟨u29, hu29, h⟩ := bind_some h
    obtain ⟨y30, hyy30, hzy30⟩ := upd_some hu29
    refine WO.sk 0 (id := 2000000) (e := 1000000005) (s := 1) (off := 0) (vs := [.int .u8 e25]) (AV.int .u8) hyy30 hzy30 (e1 := z11 [O1 u29]) ?_
    obtain ⟨hc31, h⟩ := chk_some h
    let z12 := fun t => z11 ((50, .pe 2000000 1 (0 + Int.toNat (W6 (a3 + v19))) 0) :: t)
    refine WO.pi 0 (v := .pe 2000000 1 (0 + Int.toNat (W6 (a3 + v19))) 0) hc31 (e1 := z12 [O1 u29]) ?_
    obtain ⟨u32, hu32, h⟩ := bind_some h
    obtain ⟨y33, hyy33, hzy33⟩ := upd_some hu32
    refine WO.sk 0 (id := 2000000) (e := 1000000005) (s := 1) (off := 0) (vs := [.int .u8 e27]) (AV.int .u8) hyy33 hzy33 (e1 := z12 [O1 u32]) ?_
    refine WO.fn (e2 := z5 [O1 u32]) ?_
    refine W.rg ?_
    obtain ⟨w34, hw34, h⟩ := bind_some h
    refine WO.cm 4 [(2000000, 2000000)] [] (F := 69) (args := [S1 n2, .int .i64 0, I6 v19, I6 a3]) (hp := [O1 u32]) (hp2 := [O1 w34]) (r := .tup []) (run_sl_siftDownOrdered_byte fuel u32 n2 0 v19 a3 w34 hw34) (e1 := z5 [(51, S1 n2), (52, .int .i64 0), (53, I6 v19), (54, I6 a3), (55, .tup []), O1 w34]) ?_
    refine WO.fn (e2 := z5 [O1 w34]) ?_
    refine W.rt (e2 := z2 [(10, I6 (W6 (v19 - 1))), O1 w34]) ?_
    exact hN2 (w34, (W6 (v19 - 1))) h
   replace h := cond_f hb h
   have hr : PostM Tryd.prog Tryd.f49 (.tup []) [O1 v18] .normal (z6 []) := ⟨by kernel_rfl, by kernel_rfl⟩
   cases h
   exact W.exit hr
 refine W.seq ?_
 let z13 := fun t => z3 ((9, I6 (W6 (((W6 ((W6 (a4 - a3)) - 1))).tdiv 2))) :: O1 a1 :: t)
 refine W.rt (e2 := z13 []) ?_
 refine W.block ?_
 refine W.wk (env' := z13 []) ?_
 refine W.fuel (σ := ((List Int) × Int)) (fun s => z3 [(9, I6 s.2), (2000000, .obj 1000000005 1 (M8 s.1))]) (fun m0 s => sl_heapSortOrdered_byte_l1 fuel n2 a3 a4 (sl_heapSortOrdered_byte_j8 fuel n2 a3 a4) m0 s.1 s.2 = some r) (fun s h => ?_) (fun m1 s h hN1 => ?_) fuel (a1, (W6 (((W6 ((W6 (a4 - a3)) - 1))).tdiv 2))) h
 ·obtain ⟨v10, v11⟩ := s
  have h : sl_heapSortOrdered_byte_l1 fuel n2 a3 a4 (sl_heapSortOrdered_byte_j8 fuel n2 a3 a4) 0 v10 v11 = some r := h
  rw [sl_heapSortOrdered_byte_l1.eq_1] at h
  cases h
 ·obtain ⟨v10, v11⟩ := s
  have h : sl_heapSortOrdered_byte_l1 fuel n2 a3 a4 (sl_heapSortOrdered_byte_j8 fuel n2 a3 a4) (m1 + 1) v10 v11 = some r := h
  rw [sl_heapSortOrdered_byte_l1.eq_2] at h
  refine W.seq ?_
  refine W.seq ?_
  let z14 := fun t => z3 ((9, I6 v11) :: t)
  refine W.rt (e2 := z14 [(19, .bool (decide (v11 ≥ 0))), O1 v10]) ?_
  refine W.cb (decide (v11 ≥ 0)) (fun hb => ?_) (fun hb => ?_)
  ·replace h := cond_t hb h
   refine W.skip ?_
   refine W.wk (env' := z14 [O1 v10]) ?_
   refine W.seq ?_
   refine W.block ?_
   refine W.rg ?_
   obtain ⟨w15, hw15, h⟩ := bind_some h
   refine WO.cm 4 [(2000000, 2000000)] [] (F := 69) (args := [S1 n2, I6 v11, I6 (W6 (a4 - a3)), I6 a3]) (hp := [O1 v10]) (hp2 := [O1 w15]) (r := .tup []) (run_sl_siftDownOrdered_byte fuel v10 n2 v11 (W6 (a4 - a3)) a3 w15 hw15) (e1 := z14 [(22, S1 n2), (23, I6 v11), (24, I6 (W6 (a4 - a3))), (25, I6 a3), (26, .tup []), O1 w15]) ?_
   refine WO.fn (e2 := z14 [O1 w15]) ?_
   refine W.rt (e2 := z3 [(9, I6 (W6 (v11 - 1))), O1 w15]) ?_
   exact hN1 (w15, (W6 (v11 - 1))) h
  replace h := cond_f hb h
  refine W.exit ?_
  refine W.wk (env' := z3 [O1 v10]) ?_
  exact hK8 v10 h
def sl_nextPowerOfTwo (a1 : Int) : Option Int :=
 ((mb_Len (IntKind.wrap .u64 a1)).bind fun w4 => (chk (decide (0 ≤ w4)) (some (iShl .u64 1 w4))))
theorem run_sl_nextPowerOfTwo (a1 : Int) (r : Int) (h : sl_nextPowerOfTwo a1 = some r) : Run Tryd.prog (.call 70 [I6 a1] (.int .u64 r)) := by
 refine cW Tryd.func70 rfl (env0 := [(0, I6 a1)]) ?_
 unfold sl_nextPowerOfTwo at h
 refine W.seq ?_
 refine W.rt (e2 := [(0, I6 a1)]) ?_
 refine W.seq ?_
 refine W.rg ?_
 obtain ⟨w4, hw4, h⟩ := bind_some h
 let z0 := fun t => EN ((0, I6 a1) :: (3, I6 a1) :: (4, .int .u64 (IntKind.wrap .u64 a1)) :: (5, I6 w4) :: t)
 refine WO.ck 2 (F := 34) (l := [.int .u64 (IntKind.wrap .u64 a1)]) (C := []) (r := I6 w4) (run_mb_Len (IntKind.wrap .u64 a1) w4 hw4) (e1 := z0 []) ?_
 obtain ⟨hc5, h⟩ := chk_some h
 refine WO.pk 0 (if w4 < 0 then none else some (.int .u64 (iShl .u64 1 w4))) (v := .int .u64 (iShl .u64 1 w4)) (if_neg (not_lt_of_chk hc5)) (e1 := z0 [(6, .int .u64 (iShl .u64 1 w4))]) ?_
 refine WO.fn (e2 := [(2, .int .u64 (iShl .u64 1 w4))]) ?_
 refine W.wk (env' := [(2, .int .u64 (iShl .u64 1 w4))]) ?_
 have hr : aresults Tryd.prog Tryd.f70 [(2, .int .u64 (iShl .u64 1 w4))] = some (.int .u64 (iShl .u64 1 w4)) := by kernel_rfl
 cases h
 exact W.ret hr
def sl_xorshift_Next (p1 : Int) : Option (Int × Int) :=
 (some ((iXor .u64 (iXor .u64 (iXor .u64 p1 (iShl .u64 p1 13)) (iShr .u64 (iXor .u64 p1 (iShl .u64 p1 13)) 7)) (iShl .u64 (iXor .u64 (iXor .u64 p1 (iShl .u64 p1 13)) (iShr .u64 (iXor .u64 p1 (iShl .u64 p1 13)) 7)) 17)), (iXor .u64 (iXor .u64 (iXor .u64 p1 (iShl .u64 p1 13)) (iShr .u64 (iXor .u64 p1 (iShl .u64 p1 13)) 7)) (iShl .u64 (iXor .u64 (iXor .u64 p1 (iShl .u64 p1 13)) (iShr .u64 (iXor .u64 p1 (iShl .u64 p1 13)) 7)) 17))))
theorem run_sl_xorshift_Next (p1 : Int) (r : (Int × Int)) (h : sl_xorshift_Next p1 = some r) : Run Tryd.prog (.callM 71 [.pb 2000000 0] [(2000000, .box [.int .u64 p1])] (.int .u64 r.1) [(2000000, .box [.int .u64 r.2])]) := by
 refine cM Tryd.func71 rfl (env0 := [(0, .pb 2000000 0), (2000000, .box [.int .u64 p1])]) ?_
 unfold sl_xorshift_Next at h
 refine W.seq ?_
 let z0 := fun t => EN ((0, .pb 2000000 0) :: t)
 refine W.rt (e2 := z0 [(2000000, .box [.int .u64 p1])]) ?_
 refine W.seq ?_
 refine W.rt (e2 := z0 [(2000000, .box [.int .u64 (iXor .u64 p1 (iShl .u64 p1 13))])]) ?_
 refine W.seq ?_
 refine W.rt (e2 := z0 [(2000000, .box [.int .u64 (iXor .u64 (iXor .u64 p1 (iShl .u64 p1 13)) (iShr .u64 (iXor .u64 p1 (iShl .u64 p1 13)) 7))])]) ?_
 refine W.seq ?_
 refine W.rt (e2 := z0 [(2000000, .box [.int .u64 (iXor .u64 (iXor .u64 (iXor .u64 p1 (iShl .u64 p1 13)) (iShr .u64 (iXor .u64 p1 (iShl .u64 p1 13)) 7)) (iShl .u64 (iXor .u64 (iXor .u64 p1 (iShl .u64 p1 13)) (iShr .u64 (iXor .u64 p1 (iShl .u64 p1 13)) 7)) 17))])]) ?_
 refine W.seq ?_
 let z1 := fun t => EN ((2, .int .u64 (iXor .u64 (iXor .u64 (iXor .u64 p1 (iShl .u64 p1 13)) (iShr .u64 (iXor .u64 p1 (iShl .u64 p1 13)) 7)) (iShl .u64 (iXor .u64 (iXor .u64 p1 (iShl .u64 p1 13)) (iShr .u64 (iXor .u64 p1 (iShl .u64 p1 13)) 7)) 17))) :: (2000000, .box [.int .u64 (iXor .u64 (iXor .u64 (iXor .u64 p1 (iShl .u64 p1 13)) (iShr .u64 (iXor .u64 p1 (iShl .u64 p1 13)) 7)) (iShl .u64 (iXor .u64 (iXor .u64 p1 (iShl .u64 p1 13)) (iShr .u64 (iXor .u64 p1 (iShl .u64 p1 13)) 7)) 17))]) :: t)
 refine W.rt (e2 := z1 []) ?_
 refine W.wk (env' := z1 []) ?_
 have hr : PostM Tryd.prog Tryd.f71 (.int .u64 (iXor .u64 (iXor .u64 (iXor .u64 p1 (iShl .u64 p1 13)) (iShr .u64 (iXor .u64 p1 (iShl .u64 p1 13)) 7)) (iShl .u64 (iXor .u64 (iXor .u64 p1 (iShl .u64 p1 13)) (iShr .u64 (iXor .u64 p1 (iShl .u64 p1 13)) 7)) 17))) [(2000000, .box [.int .u64 (iXor .u64 (iXor .u64 (iXor .u64 p1 (iShl .u64 p1 13)) (iShr .u64 (iXor .u64 p1 (iShl .u64 p1 13)) 7)) (iShl .u64 (iXor .u64 (iXor .u64 p1 (iShl .u64 p1 13)) (iShr .u64 (iXor .u64 p1 (iShl .u64 p1 13)) 7)) 17))])] .ret [(2, .int .u64 (iXor .u64 (iXor .u64 (iXor .u64 p1 (iShl .u64 p1 13)) (iShr .u64 (iXor .u64 p1 (iShl .u64 p1 13)) 7)) (iShl .u64 (iXor .u64 (iXor .u64 p1 (iShl .u64 p1 13)) (iShr .u64 (iXor .u64 p1 (iShl .u64 p1 13)) 7)) 17))), (2000000, .box [.int .u64 (iXor .u64 (iXor .u64 (iXor .u64 p1 (iShl .u64 p1 13)) (iShr .u64 (iXor .u64 p1 (iShl .u64 p1 13)) 7)) (iShl .u64 (iXor .u64 (iXor .u64 p1 (iShl .u64 p1 13)) (iShr .u64 (iXor .u64 p1 (iShl .u64 p1 13)) 7)) 17))])] := ⟨by kernel_rfl, by kernel_rfl⟩
 cases h
 exact W.ret hr
def sl_breakPatternsOrdered_byte_j19 (n2 : Nat) (a3 : Int) (v11 : (List Int)) (v13 : Int) (w18 : (Int × Int)) (N1 : ((List Int) → Int → Int → Option (List Int))) (v21 : Int) : Option (List Int) :=
 (chk (decide ((0 : Int) ≤ (IntKind.wrap .i64 (a3 + v21)) ∧ (IntKind.wrap .i64 (a3 + v21)) < ((n2 : Nat) : Int))) ((v11[(0 + Int.toNat (IntKind.wrap .i64 (a3 + v21)))]?).bind fun e23 => (chk (decide ((0 : Int) ≤ v13 ∧ v13 < ((n2 : Nat) : Int))) ((v11[(0 + Int.toNat v13)]?).bind fun e25 => (chk (decide ((0 : Int) ≤ v13 ∧ v13 < ((n2 : Nat) : Int))) ((upd v11 (0 + Int.toNat v13) e23).bind fun u27 => (chk (decide ((0 : Int) ≤ (IntKind.wrap .i64 (a3 + v21)) ∧ (IntKind.wrap .i64 (a3 + v21)) < ((n2 : Nat) : Int))) ((upd u27 (0 + Int.toNat (IntKind.wrap .i64 (a3 + v21))) e25).bind fun u30 => (N1 u30 w18.2 (IntKind.wrap .i64 (v13 + 1)))))))))))
def sl_breakPatternsOrdered_byte_l1 (n2 : Nat) (a3 : Int) (a4 : Int) (w9 : Int) : Nat → (List Int) → Int → Int → Option (List Int)
 | 0, _, _, _ => none
 | m1 + 1, v11, v12, v13 => (bif (decide (v13 ≤ (IntKind.wrap .i64 ((IntKind.wrap .i64 (a3 + (IntKind.wrap .i64 ((IntKind.wrap .i64 (((IntKind.wrap .i64 (a4 - a3))).tdiv 4)) * 2)))) + 1)))) then ((sl_xorshift_Next v12).bind fun w18 => (bif (decide ((IntKind.wrap .i64 (iAnd .u64 w18.1 (IntKind.wrap .u64 (w9 - 1)))) ≥ (IntKind.wrap .i64 (a4 - a3)))) then ((sl_breakPatternsOrdered_byte_j19 n2 a3 v11 v13 w18 (sl_breakPatternsOrdered_byte_l1 n2 a3 a4 w9 m1)) (IntKind.wrap .i64 ((IntKind.wrap .i64 (iAnd .u64 w18.1 (IntKind.wrap .u64 (w9 - 1)))) - (IntKind.wrap .i64 (a4 - a3))))) else ((sl_breakPatternsOrdered_byte_j19 n2 a3 v11 v13 w18 (sl_breakPatternsOrdered_byte_l1 n2 a3 a4 w9 m1)) (IntKind.wrap .i64 (iAnd .u64 w18.1 (IntKind.wrap .u64 (w9 - 1))))))) else (some v11))
def sl_breakPatternsOrdered_byte (fuel : Nat) (a1 : (List Int)) (n2 : Nat) (a3 : Int) (a4 : Int) : Option (List Int) :=
 (bif (decide ((IntKind.wrap .i64 (a4 - a3)) ≥ 8)) then ((sl_nextPowerOfTwo (IntKind.wrap .i64 (a4 - a3))).bind fun w9 => (sl_breakPatternsOrdered_byte_l1 n2 a3 a4 w9 fuel a1 (IntKind.wrap .u64 (IntKind.wrap .i64 (a4 - a3))) (IntKind.wrap .i64 ((IntKind.wrap .i64 (a3 + (IntKind.wrap .i64 ((IntKind.wrap .i64 (((IntKind.wrap .i64 (a4 - a3))).tdiv 4)) * 2)))) - 1)))) else (some a1))
theorem run_sl_breakPatternsOrdered_byte (fuel : Nat) (a1 : (List Int)) (n2 : Nat) (a3 : Int) (a4 : Int) (r : (List Int)) (h : sl_breakPatternsOrdered_byte fuel a1 n2 a3 a4 = some r) : Run Tryd.prog (.callM 50 [S1 n2, I6 a3, I6 a4] [O1 a1] (.tup []) [O1 r]) := by
 refine cM Tryd.func50 rfl (env0 := [(0, S1 n2), (1, I6 a3), (2, I6 a4), O1 a1]) ?_
 unfold sl_breakPatternsOrdered_byte at h
 refine W.seq ?_
 let z0 := fun t => EN ((0, S1 n2) :: (1, I6 a3) :: (6, I6 (W6 (a4 - a3))) :: t)
 refine W.rt (e2 := z0 [O1 a1]) ?_
 refine W.seq ?_
 let z1 := fun t => z0 ((15, .bool (decide ((W6 (a4 - a3)) ≥ 8))) :: O1 a1 :: t)
 refine W.rt (e2 := z1 []) ?_
 refine W.cb (decide ((W6 (a4 - a3)) ≥ 8)) (fun hb => ?_) (fun hb => ?_)
 ·replace h := cond_t hb h
  refine W.seq ?_
  let z2 := fun t => z0 ((7, .box [.int .u64 (IntKind.wrap .u64 (W6 (a4 - a3)))]) :: t)
  refine W.rt (e2 := z2 [O1 a1]) ?_
  refine W.seq ?_
  refine W.rg ?_
  obtain ⟨w9, hw9, h⟩ := bind_some h
  refine WO.ck 1 (F := 70) (l := [I6 (W6 (a4 - a3))]) (C := []) (r := .int .u64 w9) (run_sl_nextPowerOfTwo (W6 (a4 - a3)) w9 hw9) (e1 := z2 [(18, I6 (W6 (a4 - a3))), (19, .int .u64 w9), O1 a1]) ?_
  let z3 := fun t => z2 ((8, .int .u64 w9) :: t)
  refine WO.fn (e2 := z3 [O1 a1]) ?_
  refine W.seq ?_
  let z4 := fun t => z3 ((9, I6 (W6 ((W6 (a3 + (W6 ((W6 (((W6 (a4 - a3))).tdiv 4)) * 2)))) - 1))) :: O1 a1 :: t)
  refine W.rt (e2 := z4 []) ?_
  refine W.block ?_
  refine W.wk (env' := z4 []) ?_
  refine W.fuel (σ := ((List Int) × Int × Int)) (fun s => z0 [(7, .box [.int .u64 s.2.1]), (8, .int .u64 w9), (9, I6 s.2.2), (2000000, .obj 1000000005 1 (M8 s.1))]) (fun m0 s => sl_breakPatternsOrdered_byte_l1 n2 a3 a4 w9 m0 s.1 s.2.1 s.2.2 = some r) (fun s h => ?_) (fun m1 s h hN1 => ?_) fuel (a1, (IntKind.wrap .u64 (W6 (a4 - a3))), (W6 ((W6 (a3 + (W6 ((W6 (((W6 (a4 - a3))).tdiv 4)) * 2)))) - 1))) h
  ·obtain ⟨v11, v12, v13⟩ := s
   have h : sl_breakPatternsOrdered_byte_l1 n2 a3 a4 w9 0 v11 v12 v13 = some r := h
   rw [sl_breakPatternsOrdered_byte_l1.eq_1] at h
   cases h
  ·obtain ⟨v11, v12, v13⟩ := s
   have h : sl_breakPatternsOrdered_byte_l1 n2 a3 a4 w9 (m1 + 1) v11 v12 v13 = some r := h
   rw [sl_breakPatternsOrdered_byte_l1.eq_2] at h
   refine W.seq ?_
   refine W.seq ?_
   let z5 := fun t => z0 ((7, .box [.int .u64 v12]) :: (8, .int .u64 w9) :: (9, I6 v13) :: (33, .bool (decide (v13 ≤ (W6 ((W6 (a3 + (W6 ((W6 (((W6 (a4 - a3))).tdiv 4)) * 2)))) + 1))))) :: O1 v11 :: t)
   refine W.rt (e2 := z5 []) ?_
   refine W.cb (decide (v13 ≤ (W6 ((W6 (a3 + (W6 ((W6 (((W6 (a4 - a3))).tdiv 4)) * 2)))) + 1)))) (fun hb => ?_) (fun hb => ?_)
   ·replace h := cond_t hb h
    refine W.skip ?_
    refine W.wk (env' := z0 [(7, .box [.int .u64 v12]), (8, .int .u64 w9), (9, I6 v13), O1 v11]) ?_
    refine W.seq ?_
    refine W.block ?_
    refine W.seq ?_
    refine W.rg ?_
    obtain ⟨w18, hw18, h⟩ := bind_some h
    let z6 := fun t => z0 ((7, .box [.int .u64 w18.2]) :: (8, .int .u64 w9) :: (9, I6 v13) :: t)
    refine WO.cm 0 [(7, 2000000)] [] (F := 71) (args := [.pb 2000000 0]) (hp := [(2000000, .box [.int .u64 v12])]) (hp2 := [(2000000, .box [.int .u64 w18.2])]) (r := .int .u64 w18.1) (run_sl_xorshift_Next v12 w18 hw18) (e1 := z6 [(36, .int .u64 w18.1), O1 v11]) ?_
    let z7 := fun t => z6 ((10, I6 (W6 (iAnd .u64 w18.1 (IntKind.wrap .u64 (w9 - 1))))) :: t)
    refine WO.fn (e2 := z7 [O1 v11]) ?_
    refine W.seq ?_
    refine W.join (σ := (Int)) (fun s => z6 [(10, I6 s), O1 v11]) (fun s => (sl_breakPatternsOrdered_byte_j19 n2 a3 v11 v13 w18 (sl_breakPatternsOrdered_byte_l1 n2 a3 a4 w9 m1)) s = some r) (fun s h => ?_) (fun hK19 => ?_)
    ·obtain ⟨v21, rfl⟩ : ∃ x, x = s := ⟨s, rfl⟩
     have h : (sl_breakPatternsOrdered_byte_j19 n2 a3 v11 v13 w18 (sl_breakPatternsOrdered_byte_l1 n2 a3 a4 w9 m1)) v21 = some r := h
     unfold sl_breakPatternsOrdered_byte_j19 at h
     refine W.rg ?_
     obtain ⟨hc22, h⟩ := chk_some h
     let z8 := fun t => z6 ((10, I6 v21) :: (47, S1 n2) :: (48, I6 v13) :: (49, S1 n2) :: (50, I6 a3) :: (51, I6 v21) :: (52, I6 (W6 (a3 + v21))) :: (53, S1 n2) :: (54, I6 a3) :: (55, I6 v21) :: (56, I6 (W6 (a3 + v21))) :: (57, .pe 2000000 1 (0 + Int.toNat (W6 (a3 + v21))) 0) :: t)
     refine WO.pi 10 (v := .pe 2000000 1 (0 + Int.toNat (W6 (a3 + v21))) 0) hc22 (e1 := z8 [O1 v11]) ?_
     obtain ⟨e23, he23, h⟩ := bind_some h
     let z9 := fun t => z8 ((58, .int .u8 e23) :: t)
     refine WO.pk 0 (match (M8 v11)[(0 + Int.toNat (W6 (a3 + v21)))]? with | some y => cut Tryd.prog 5 (y.cells.map AV.strip) 0 | none => none) (v := .int .u8 e23) ((pe_ld (f := (AV.int .u8)) (G := (fun y => cut Tryd.prog 5 (y.cells.map AV.strip) 0)) he23).trans (by kernel_rfl)) (e1 := z9 [O1 v11]) ?_
     obtain ⟨hc24, h⟩ := chk_some h
     let z10 := fun t => z9 ((59, S1 n2) :: (60, I6 v13) :: (61, .pe 2000000 1 (0 + Int.toNat v13) 0) :: t)
     refine WO.pi 2 (v := .pe 2000000 1 (0 + Int.toNat v13) 0) hc24 (e1 := z10 [O1 v11]) ?_
     obtain ⟨e25, he25, h⟩ := bind_some h
     let z11 := fun t => z10 ((62, .int .u8 e25) :: t)
     refine WO.pk 0 (match (M8 v11)[(0 + Int.toNat v13)]? with | some y => cut Tryd.prog 5 (y.cells.map AV.strip) 0 | none => none) (v := .int .u8 e25) ((pe_ld (f := (AV.int .u8)) (G := (fun y => cut Tryd.prog 5 (y.cells.map AV.strip) 0)) he25).trans (by kernel_rfl)) (e1 := z11 [O1 v11]) ?_
     obtain ⟨hc26, h⟩ := chk_some h
     let z12 := fun t => z11 ((63, .pe 2000000 1 (0 + Int.toNat v13) 0) :: t)
     refine WO.pi 0 (v := .pe 2000000 1 (0 + Int.toNat v13) 0) hc26 (e1 := z12 [O1 v11]) ?_
     obtain ⟨u27, hu27, h⟩ := bind_some h
     obtain ⟨y28, hyy28, hzy28⟩ := upd_some hu27
     refine WO.sk 0 (id := 2000000) (e := 1000000005) (s := 1) (off := 0) (vs := [.int .u8 e23]) (AV.int .u8) hyy28 hzy28 (e1 := z12 [O1 u27]) ?_
     obtain ⟨hc29, h⟩ := chk_some h
     let z13 := fun t => z12 ((64, .pe 2000000 1 (0 + Int.toNat (W6 (a3 + v21))) 0) :: t)
     refine WO.pi 0 (v := .pe 2000000 1 (0 + Int.toNat (W6 (a3 + v21))) 0) hc29 (e1 := z13 [O1 u27]) ?_
     obtain ⟨u30, hu30, h⟩ := bind_some h
     obtain ⟨y31, hyy31, hzy31⟩ := upd_some hu30
     refine WO.sk 0 (id := 2000000) (e := 1000000005) (s := 1) (off := 0) (vs := [.int .u8 e25]) (AV.int .u8) hyy31 hzy31 (e1 := z13 [O1 u30]) ?_
     refine WO.fn (e2 := z6 [O1 u30]) ?_
     refine W.rt (e2 := z0 [(7, .box [.int .u64 w18.2]), (8, .int .u64 w9), (9, I6 (W6 (v13 + 1))), O1 u30]) ?_
     exact hN1 (u30, w18.2, (W6 (v13 + 1))) h
    refine W.seq ?_
    refine W.rt (e2 := z7 [(43, .bool (decide ((W6 (iAnd .u64 w18.1 (IntKind.wrap .u64 (w9 - 1)))) ≥ (W6 (a4 - a3))))), O1 v11]) ?_
    refine W.cb (decide ((W6 (iAnd .u64 w18.1 (IntKind.wrap .u64 (w9 - 1)))) ≥ (W6 (a4 - a3)))) (fun hb => ?_) (fun hb => ?_)
    ·replace h := cond_t hb h
     refine W.rt (e2 := z6 [(10, I6 (W6 ((W6 (iAnd .u64 w18.1 (IntKind.wrap .u64 (w9 - 1)))) - (W6 (a4 - a3))))), O1 v11]) ?_
     exact hK19 (W6 ((W6 (iAnd .u64 w18.1 (IntKind.wrap .u64 (w9 - 1)))) - (W6 (a4 - a3)))) h
    replace h := cond_f hb h
    refine W.skip ?_
    refine W.wk (env' := z7 [O1 v11]) ?_
    exact hK19 (W6 (iAnd .u64 w18.1 (IntKind.wrap .u64 (w9 - 1)))) h
   replace h := cond_f hb h
   have hr : PostM Tryd.prog Tryd.f50 (.tup []) [O1 v11] .normal (z5 []) := ⟨by kernel_rfl, by kernel_rfl⟩
   cases h
   exact W.exit hr
 replace h := cond_f hb h
 have hr : PostM Tryd.prog Tryd.f50 (.tup []) [O1 a1] .normal (z1 []) := ⟨by kernel_rfl, by kernel_rfl⟩
 cases h
 exact W.skip hr
end Go.AM
