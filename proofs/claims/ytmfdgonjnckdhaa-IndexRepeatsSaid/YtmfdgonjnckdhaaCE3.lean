/- s -/
import Derived.Test.YtmfdgonjnckdhaaCE2
set_option maxRecDepth 100000
set_option linter.unusedVariables false
set_option linter.unusedSimpArgs false
namespace Go.AM
open Go.Proofs
def lw4_IndexRepeats_j11 (v13 : Bool) : Option Bool :=
 (some v13)
def lw4_IndexRepeats_j40 (v42 : Bool) : Option Bool :=
 (some v42)
def lw4_IndexRepeats_j50 : Option Bool :=
 ((lw4_awake).bind fun w79 => (some w79))
def lw4_IndexRepeats_j55 (N2 : ((List ByteArray) → Option Bool)) (K50 : (Option Bool)) (v75 : (List ByteArray)) : Option Bool :=
 (bif (decide ((v75.length : Int) > 2000)) then K50 else (N2 v75))
def lw4_IndexRepeats_j58 (N3 : ((List ByteArray) → Option Bool)) (v74 : (List ByteArray)) : Option Bool :=
 (N3 v74)
def lw4_IndexRepeats_j70 (x3 : ByteArray) (v61 : (List ByteArray)) (e65 : ByteArray) (N4 : ((List ByteArray) → Option Bool)) (v71 : Bool) : Option Bool :=
 (bif v71 then (some false) else (chk (capOk 16 ((v61 ++ [(x3 ++ e65)])).length) (N4 (v61 ++ [(x3 ++ e65)]))))
def lw4_IndexRepeats_l4 (fuel : Nat) (x3 : ByteArray) (w6 : ByteArray) (w8 : ((Option ixIndex) × Int)) (K58 : ((List ByteArray) → Option Bool)) : List Nat → Nat → (List ByteArray) → Option Bool
 | [], k4, v61 => (K58 v61)
 | x4 :: r4, k4, v61 => ((ssub w6 (k4 : Int) ((k4 + 1 : Nat) : Int)).bind fun e65 => (chk (catOk x3 e65) ((ix_Index_Count fuel w8.1 (x3 ++ e65)).bind fun w69 => (bif (w69.2 != 0) then ((lw4_IndexRepeats_j70 x3 v61 e65 (lw4_IndexRepeats_l4 fuel x3 w6 w8 K58 r4 (k4 + 1))) true) else ((lw4_IndexRepeats_j70 x3 v61 e65 (lw4_IndexRepeats_l4 fuel x3 w6 w8 K58 r4 (k4 + 1))) (w69.1 == 0))))))
def lw4_IndexRepeats_l3 (fuel : Nat) (w6 : ByteArray) (w8 : ((Option ixIndex) × Int)) (K55 : ((List ByteArray) → Option Bool)) : List ByteArray → Nat → (List ByteArray) → Option Bool
 | [], k3, v57 => (K55 v57)
 | x3 :: r3, k3, v57 => (chk (lenOk (List.range (Int.toNat (w6.size : Int)))) (lw4_IndexRepeats_l4 fuel x3 w6 w8 (lw4_IndexRepeats_j58 (lw4_IndexRepeats_l3 fuel w6 w8 K55 r3 (k3 + 1))) (List.range (Int.toNat (w6.size : Int))) 0 v57))
def lw4_IndexRepeats_l2 (fuel : Nat) (w6 : ByteArray) (w8 : ((Option ixIndex) × Int)) (K50 : (Option Bool)) : List Nat → Nat → (List ByteArray) → Option Bool
 | [], k2, v52 => K50
 | x2 :: r2, k2, v52 => (chk (lenOk v52) (lw4_IndexRepeats_l3 fuel w6 w8 (lw4_IndexRepeats_j55 (lw4_IndexRepeats_l2 fuel w6 w8 K50 r2 (k2 + 1)) K50) v52 0 ([] : (List ByteArray))))
def lw4_IndexRepeats_j46 (fuel : Nat) (w6 : ByteArray) (w8 : ((Option ixIndex) × Int)) (w37 : (ByteArray × Int)) (v47 : Bool) : Option Bool :=
 (bif v47 then (some false) else (chk (lenOk (List.range (Int.toNat (IntKind.wrap .i64 ((w37.1.size : Int) - 1))))) (lw4_IndexRepeats_l2 fuel w6 w8 (lw4_IndexRepeats_j50) (List.range (Int.toNat (IntKind.wrap .i64 ((w37.1.size : Int) - 1)))) 0 [(ByteArray.mk #[])])))
def lw4_IndexRepeats_j26 (fuel : Nat) (w5 : ByteArray) (w6 : ByteArray) (w8 : ((Option ixIndex) × Int)) : Option Bool :=
 ((ix_Absent fuel w5 w6).bind fun w37 => (bif (w37.2 != 0) then (bif (w37.2 == 2) then ((lw4_awake).bind fun w41 => ((lw4_IndexRepeats_j40) w41)) else ((lw4_IndexRepeats_j40) false)) else ((ix_Index_Count fuel w8.1 w37.1).bind fun w45 => (bif (decide ((w37.1.size : Int) ≤ 200)) then (bif (w45.2 != 0) then ((lw4_IndexRepeats_j46 fuel w6 w8 w37) true) else (bif (w45.1 != 0) then ((lw4_IndexRepeats_j46 fuel w6 w8 w37) true) else (bif (w37.1.toList == (ByteArray.mk #[]).toList) then ((lw4_IndexRepeats_j46 fuel w6 w8 w37) true) else ((lw4_IndexRepeats_j46 fuel w6 w8 w37) (decide ((w37.1.size : Int) > 201)))))) else (bif (w37.1.toList == (ByteArray.mk #[]).toList) then ((lw4_IndexRepeats_j46 fuel w6 w8 w37) true) else ((lw4_IndexRepeats_j46 fuel w6 w8 w37) (decide ((w37.1.size : Int) > 201))))))))
def lw4_IndexRepeats_j33 (N1 : (Option Bool)) (v34 : Bool) : Option Bool :=
 (bif v34 then (some false) else N1)
def lw4_IndexRepeats_l1 (fuel : Nat) (w5 : ByteArray) (w8 : ((Option ixIndex) × Int)) (w15 : (ByteArray × Int)) (K26 : (Option Bool)) : List Nat → Nat → Option Bool
 | [], k1 => K26
 | x1 :: r1, k1 => ((ssub w5 (k1 : Int) (IntKind.wrap .i64 ((IntKind.wrap .i64 ((k1 : Int) + (w15.1.size : Int))) + 1))).bind fun e31 => ((ix_Index_Count fuel w8.1 e31).bind fun w32 => (bif (w32.2 != 0) then ((lw4_IndexRepeats_j33 (lw4_IndexRepeats_l1 fuel w5 w8 w15 K26 r1 (k1 + 1))) true) else ((lw4_IndexRepeats_j33 (lw4_IndexRepeats_l1 fuel w5 w8 w15 K26 r1 (k1 + 1))) (w32.1 != 1)))))
def lw4_IndexRepeats_j23 (fuel : Nat) (w5 : ByteArray) (w6 : ByteArray) (w8 : ((Option ixIndex) × Int)) (w15 : (ByteArray × Int)) (v24 : Bool) : Option Bool :=
 (bif v24 then (some false) else (chk (lenOk (List.range (Int.toNat (IntKind.wrap .i64 ((w5.size : Int) - (w15.1.size : Int)))))) (lw4_IndexRepeats_l1 fuel w5 w8 w15 (lw4_IndexRepeats_j26 fuel w5 w6 w8) (List.range (Int.toNat (IntKind.wrap .i64 ((w5.size : Int) - (w15.1.size : Int))))) 0)))
def lw4_IndexRepeats_j17 (fuel : Nat) (w5 : ByteArray) (w6 : ByteArray) (w8 : ((Option ixIndex) × Int)) (w15 : (ByteArray × Int)) (v18 : Bool) : Option Bool :=
 (bif v18 then (some false) else ((ix_Index_Count fuel w8.1 w15.1).bind fun w22 => (bif (w22.2 != 0) then ((lw4_IndexRepeats_j23 fuel w5 w6 w8 w15) true) else (bif (w15.2 == 0) then (bif (decide (w22.1 < 2)) then ((lw4_IndexRepeats_j23 fuel w5 w6 w8 w15) true) else ((lw4_IndexRepeats_j23 fuel w5 w6 w8 w15) (w15.1.toList == (ByteArray.mk #[]).toList))) else ((lw4_IndexRepeats_j23 fuel w5 w6 w8 w15) false)))))
def lw4_IndexRepeats (fuel : Nat) (a1 : ByteArray) (a2 : ByteArray) : Option Bool :=
 ((lw4_few a1).bind fun w5 => ((lw4_few a2).bind fun w6 => ((ix_New fuel w5).bind fun w8 => (bif (w8.2 != 0) then (bif (w8.2 == 2) then ((lw4_awake).bind fun w12 => ((lw4_IndexRepeats_j11) w12)) else ((lw4_IndexRepeats_j11) false)) else ((ix_Longest fuel w5).bind fun w15 => (bif (w15.2 != 0) then ((lw4_IndexRepeats_j17 fuel w5 w6 w8 w15) (w15.2 != 5)) else ((lw4_IndexRepeats_j17 fuel w5 w6 w8 w15) false)))))))
theorem run_lw4_IndexRepeats (fuel : Nat) (a1 : ByteArray) (a2 : ByteArray) (r : Bool) (h : lw4_IndexRepeats fuel a1 a2 = some r) : Run Try.prog (.call 13 [.str a1, .str a2] (.bool r)) := by
 refine cW Try.func13 rfl (env0 := [(0, .str a1), (1, .str a2)]) ?_
 unfold lw4_IndexRepeats at h
 refine W.seq ?_
 let z0 := fun t => EN ((0, .str a1) :: (1, .str a2) :: t)
 refine W.rt (e2 := z0 []) ?_
 refine W.seq ?_
 refine W.rg ?_
 obtain ⟨w5, hw5, h⟩ := bind_some h
 refine WO.ck 1 (F := 14) (l := [.str a1]) (C := []) (r := .str w5) (run_lw4_few a1 w5 hw5) (e1 := z0 [(25, .str a1), (26, .str w5)]) ?_
 obtain ⟨w6, hw6, h⟩ := bind_some h
 refine WO.ck 1 (F := 14) (l := [.str a2]) (C := []) (r := .str w6) (run_lw4_few a2 w6 hw6) (e1 := z0 [(25, .str a1), (26, .str w5), (27, .str a2), (28, .str w6)]) ?_
 let z1 := fun t => EN ((0, .str w5) :: (1, .str w6) :: t)
 refine WO.fn (e2 := z1 []) ?_
 refine W.seq ?_
 refine W.rg ?_
 obtain ⟨w8, hw8, h⟩ := bind_some h
 refine WO.ck 1 (F := 36) (l := [.str w5]) (C := []) (r := .tup [ep e_ixIndex w8.1, I6 w8.2]) (run_ix_New fuel w5 w8 hw8) (e1 := z1 [(30, .str w5), (31, .tup [ep e_ixIndex w8.1, I6 w8.2])]) ?_
 let z2 := fun t => z1 ((5, ep e_ixIndex w8.1) :: t)
 let z3 := fun t => z2 ((6, I6 w8.2) :: t)
 refine WO.fn (e2 := z3 []) ?_
 refine W.seq ?_
 refine W.seq ?_
 let z4 := fun t => z3 ((35, .bool (w8.2 != 0)) :: t)
 refine W.rt (e2 := z4 []) ?_
 refine W.cb (w8.2 != 0) (fun hb => ?_) (fun hb => ?_)
 ·replace h := cond_t hb h
  refine W.seq ?_
  refine W.join (σ := (Bool)) (fun s => [(4, .bool s)]) (fun s => (lw4_IndexRepeats_j11) s = some r) (fun s h => ?_) (fun hK11 => ?_)
  ·obtain ⟨v13, rfl⟩ : ∃ x, x = s := ⟨s, rfl⟩
   have h : (lw4_IndexRepeats_j11) v13 = some r := h
   unfold lw4_IndexRepeats_j11 at h
   refine W.wk (env' := [(4, .bool v13)]) ?_
   have hr : aresults Try.prog Try.f13 [(4, .bool v13)] = some (.bool v13) := by kernel_rfl
   cases h
   exact W.ret hr
  refine W.rg ?_
  refine WO.bk 3 (fun b => z4 [(36, I6 w8.2), (37, .bool b), (38, .bool b)]) (w8.2 == 2) (fun hb => ?_) (fun hb => ?_)
  ·replace h := cond_t hb h
   obtain ⟨w12, hw12, h⟩ := bind_some h
   refine WO.ck 0 (F := 18) (l := []) (C := []) (r := .bool w12) (run_lw4_awake w12 hw12) (e1 := z4 [(36, I6 w8.2), (37, .bool true), (38, .bool true), (39, .bool w12)]) ?_
   refine WO.fn (e2 := [(4, .bool w12)]) ?_
   exact hK11 w12 h
  replace h := cond_f hb h
  refine WO.fn (e2 := [(4, .bool false)]) ?_
  exact hK11 false h
 replace h := cond_f hb h
 refine W.skip ?_
 refine W.wk (env' := z2 []) ?_
 refine W.seq ?_
 refine W.rg ?_
 obtain ⟨w15, hw15, h⟩ := bind_some h
 refine WO.ck 1 (F := 24) (l := [.str w5]) (C := []) (r := .tup [.str w15.1, I6 w15.2]) (run_ix_Longest fuel w5 w15 hw15) (e1 := z2 [(42, .str w5), (43, .tup [.str w15.1, I6 w15.2])]) ?_
 let z5 := fun t => z2 ((7, .str w15.1) :: t)
 let z6 := fun t => z5 ((8, I6 w15.2) :: t)
 refine WO.fn (e2 := z6 []) ?_
 refine W.seq ?_
 refine W.seq ?_
 refine W.join (σ := (Bool)) (fun s => z6 [(51, .bool s)]) (fun s => (lw4_IndexRepeats_j17 fuel w5 w6 w8 w15) s = some r) (fun s h => ?_) (fun hK17 => ?_)
 ·obtain ⟨v18, rfl⟩ : ∃ x, x = s := ⟨s, rfl⟩
  have h : (lw4_IndexRepeats_j17 fuel w5 w6 w8 w15) v18 = some r := h
  unfold lw4_IndexRepeats_j17 at h
  refine W.cb v18 (fun hb => ?_) (fun hb => ?_)
  ·replace h := cond_t hb h
   refine W.seq ?_
   refine W.rt (e2 := [(4, .bool false)]) ?_
   refine W.wk (env' := [(4, .bool false)]) ?_
   have hr : aresults Try.prog Try.f13 [(4, .bool false)] = some (.bool false) := by kernel_rfl
   cases h
   exact W.ret hr
  replace h := cond_f hb h
  refine W.skip ?_
  refine W.wk (env' := z6 []) ?_
  refine W.seq ?_
  refine W.seq ?_
  refine W.rg ?_
  obtain ⟨w22, hw22, h⟩ := bind_some h
  refine WO.ck 2 (F := 32) (l := [ep e_ixIndex w8.1, .str w15.1]) (C := []) (r := .tup [I6 w22.1, I6 w22.2]) (run_ix_Index_Count fuel w8.1 w15.1 w22 hw22) (e1 := z6 [(53, ep e_ixIndex w8.1), (54, .str w15.1), (55, .tup [I6 w22.1, I6 w22.2])]) ?_
  let z7 := fun t => z6 ((9, I6 w22.1) :: (10, I6 w22.2) :: t)
  refine WO.fn (e2 := z7 []) ?_
  refine W.seq ?_
  refine W.join (σ := (Bool)) (fun s => z5 [(71, .bool s)]) (fun s => (lw4_IndexRepeats_j23 fuel w5 w6 w8 w15) s = some r) (fun s h => ?_) (fun hK23 => ?_)
  ·obtain ⟨v24, rfl⟩ : ∃ x, x = s := ⟨s, rfl⟩
   have h : (lw4_IndexRepeats_j23 fuel w5 w6 w8 w15) v24 = some r := h
   unfold lw4_IndexRepeats_j23 at h
   refine W.cb v24 (fun hb => ?_) (fun hb => ?_)
   ·replace h := cond_t hb h
    refine W.seq ?_
    refine W.rt (e2 := [(4, .bool false)]) ?_
    refine W.wk (env' := [(4, .bool false)]) ?_
    have hr : aresults Try.prog Try.f13 [(4, .bool false)] = some (.bool false) := by kernel_rfl
    cases h
    exact W.ret hr
   replace h := cond_f hb h
   refine W.skip ?_
   refine W.wk (env' := z5 []) ?_
   refine W.seq ?_
   refine W.join (σ := Unit) (fun s => z2 []) (fun s => (lw4_IndexRepeats_j26 fuel w5 w6 w8) = some r) (fun s h => ?_) (fun hK26 => ?_)
   ·have h : (lw4_IndexRepeats_j26 fuel w5 w6 w8) = some r := h
    unfold lw4_IndexRepeats_j26 at h
    refine W.seq ?_
    refine W.rg ?_
    obtain ⟨w37, hw37, h⟩ := bind_some h
    refine WO.ck 2 (F := 27) (l := [.str w5, .str w6]) (C := []) (r := .tup [.str w37.1, I6 w37.2]) (run_ix_Absent fuel w5 w6 w37 hw37) (e1 := z2 [(101, .str w5), (102, .str w6), (103, .tup [.str w37.1, I6 w37.2])]) ?_
    let z8 := fun t => EN ((1, .str w6) :: (5, ep e_ixIndex w8.1) :: t)
    let z9 := fun t => z8 ((8, I6 w37.2) :: (14, .str w37.1) :: t)
    refine WO.fn (e2 := z9 []) ?_
    refine W.seq ?_
    refine W.seq ?_
    let z10 := fun t => z9 ((107, .bool (w37.2 != 0)) :: t)
    refine W.rt (e2 := z10 []) ?_
    refine W.cb (w37.2 != 0) (fun hb => ?_) (fun hb => ?_)
    ·replace h := cond_t hb h
     refine W.seq ?_
     refine W.join (σ := (Bool)) (fun s => [(4, .bool s)]) (fun s => (lw4_IndexRepeats_j40) s = some r) (fun s h => ?_) (fun hK40 => ?_)
     ·obtain ⟨v42, rfl⟩ : ∃ x, x = s := ⟨s, rfl⟩
      have h : (lw4_IndexRepeats_j40) v42 = some r := h
      unfold lw4_IndexRepeats_j40 at h
      refine W.wk (env' := [(4, .bool v42)]) ?_
      have hr : aresults Try.prog Try.f13 [(4, .bool v42)] = some (.bool v42) := by kernel_rfl
      cases h
      exact W.ret hr
     refine W.rg ?_
     refine WO.bk 3 (fun b => z10 [(108, I6 w37.2), (109, .bool b), (110, .bool b)]) (w37.2 == 2) (fun hb => ?_) (fun hb => ?_)
     ·replace h := cond_t hb h
      obtain ⟨w41, hw41, h⟩ := bind_some h
      refine WO.ck 0 (F := 18) (l := []) (C := []) (r := .bool w41) (run_lw4_awake w41 hw41) (e1 := z10 [(108, I6 w37.2), (109, .bool true), (110, .bool true), (111, .bool w41)]) ?_
      refine WO.fn (e2 := [(4, .bool w41)]) ?_
      exact hK40 w41 h
     replace h := cond_f hb h
     refine WO.fn (e2 := [(4, .bool false)]) ?_
     exact hK40 false h
    replace h := cond_f hb h
    refine W.skip ?_
    let z11 := fun t => z8 ((14, .str w37.1) :: t)
    refine W.wk (env' := z11 []) ?_
    refine W.seq ?_
    refine W.seq ?_
    refine W.rg ?_
    obtain ⟨w45, hw45, h⟩ := bind_some h
    refine WO.ck 2 (F := 32) (l := [ep e_ixIndex w8.1, .str w37.1]) (C := []) (r := .tup [I6 w45.1, I6 w45.2]) (run_ix_Index_Count fuel w8.1 w37.1 w45 hw45) (e1 := z11 [(114, ep e_ixIndex w8.1), (115, .str w37.1), (116, .tup [I6 w45.1, I6 w45.2])]) ?_
    let z12 := fun t => z11 ((15, I6 w45.1) :: (16, I6 w45.2) :: t)
    refine WO.fn (e2 := z12 []) ?_
    refine W.seq ?_
    refine W.join (σ := (Bool)) (fun s => z11 [(138, .bool s)]) (fun s => (lw4_IndexRepeats_j46 fuel w6 w8 w37) s = some r) (fun s h => ?_) (fun hK46 => ?_)
    ·obtain ⟨v47, rfl⟩ : ∃ x, x = s := ⟨s, rfl⟩
     have h : (lw4_IndexRepeats_j46 fuel w6 w8 w37) v47 = some r := h
     unfold lw4_IndexRepeats_j46 at h
     refine W.cb v47 (fun hb => ?_) (fun hb => ?_)
     ·replace h := cond_t hb h
      refine W.seq ?_
      refine W.rt (e2 := [(4, .bool false)]) ?_
      refine W.wk (env' := [(4, .bool false)]) ?_
      have hr : aresults Try.prog Try.f13 [(4, .bool false)] = some (.bool false) := by kernel_rfl
      cases h
      exact W.ret hr
     replace h := cond_f hb h
     refine W.skip ?_
     refine W.wk (env' := z11 []) ?_
     refine W.seq ?_
     refine W.rt (e2 := z11 [(17, l9 (some 139) [(ByteArray.mk #[])])]) ?_
     refine W.seq ?_
     refine W.join (σ := Unit) (fun s => []) (fun s => (lw4_IndexRepeats_j50) = some r) (fun s h => ?_) (fun hK50 => ?_)
     ·have h : (lw4_IndexRepeats_j50) = some r := h
      unfold lw4_IndexRepeats_j50 at h
      refine W.seq ?_
      refine W.rg ?_
      obtain ⟨w79, hw79, h⟩ := bind_some h
      refine WO.ck 0 (F := 18) (l := []) (C := []) (r := .bool w79) (run_lw4_awake w79 hw79) (e1 := [(186, .bool w79)]) ?_
      refine WO.fn (e2 := [(4, .bool w79)]) ?_
      refine W.wk (env' := [(4, .bool w79)]) ?_
      have hr : aresults Try.prog Try.f13 [(4, .bool w79)] = some (.bool w79) := by kernel_rfl
      cases h
      exact W.ret hr
     refine W.seq ?_
     refine W.rt (e2 := z8 [(17, l9 (some 139) [(ByteArray.mk #[])]), (142, I6 (W6 ((w37.1.size : Int) - 1))), (143, .int .i64 0)]) ?_
     refine W.block ?_
     obtain ⟨hl2, h⟩ := chk_some h
     refine W.weak [1, 5, 17, 142, 143] [] [] [(139, some 11700)] (env' := z8 [(17, l9 (some 11700) [(ByteArray.mk #[])]), (142, I6 (W6 ((w37.1.size : Int) - 1))), (143, I6 ((0 : Nat) : Int))]) (by kernel_rfl) ?_
     refine W.range (σ := ((List ByteArray))) (List.range (Int.toNat (W6 ((w37.1.size : Int) - 1)))) (fun k2 s => z8 [(17, l9 (some 11700) s), (142, I6 (W6 ((w37.1.size : Int) - 1))), (143, I6 (k2 : Int))]) (fun r0 k0 s => lw4_IndexRepeats_l2 fuel w6 w8 (lw4_IndexRepeats_j50) r0 k0 s = some r) (fun s h => ?_) (fun x2 r2 k2 s hx2 hk2 h hN2 => ?_) [(ByteArray.mk #[])] h
     ·obtain ⟨v52, rfl⟩ : ∃ x, x = s := ⟨s, rfl⟩
      have h : lw4_IndexRepeats_l2 fuel w6 w8 (lw4_IndexRepeats_j50) [] ((List.range (Int.toNat (W6 ((w37.1.size : Int) - 1))))).length v52 = some r := h
      rw [lw4_IndexRepeats_l2.eq_1] at h
      refine W.seq ?_
      refine W.rg ?_
      let z13 := fun t => z8 ((17, l9 (some 11700) v52) :: (142, I6 (W6 ((w37.1.size : Int) - 1))) :: (143, I6 (((List.range (Int.toNat (W6 ((w37.1.size : Int) - 1))))).length : Int)) :: (144, .bool false) :: t)
      refine WO.pk 0 (some (.bool (decide ((((List.range (Int.toNat (W6 ((w37.1.size : Int) - 1))))).length : Int) < (W6 ((w37.1.size : Int) - 1)))))) (v := .bool false) (by rw [ltr_false (n := (W6 ((w37.1.size : Int) - 1)))]) (e1 := z13 []) ?_
      refine WO.fn (e2 := z13 []) ?_
      refine W.seq ?_
      refine W.cb false (fun h => Bool.noConfusion h) (fun _ => ?_)
      refine W.exit ?_
      refine W.wk (env' := []) ?_
      exact hK50 () h
     ·obtain ⟨v52, rfl⟩ : ∃ x, x = s := ⟨s, rfl⟩
      have h : lw4_IndexRepeats_l2 fuel w6 w8 (lw4_IndexRepeats_j50) (x2 :: r2) k2 v52 = some r := h
      rw [lw4_IndexRepeats_l2.eq_2] at h
      refine W.seq ?_
      refine W.rg ?_
      let z14 := fun t => z8 ((17, l9 (some 11700) v52) :: (142, I6 (W6 ((w37.1.size : Int) - 1))) :: (143, I6 (k2 : Int)) :: t)
      refine WO.pk 0 (some (.bool (decide ((k2 : Int) < (W6 ((w37.1.size : Int) - 1)))))) (v := .bool true) (by rw [ltr_true hk2]) (e1 := z14 [(144, .bool true)]) ?_
      refine WO.fn (e2 := z14 [(144, .bool true)]) ?_
      refine W.seq ?_
      refine W.cb true (fun _ => ?_) (fun h => Bool.noConfusion h)
      refine W.skip ?_
      refine W.wk (env' := z14 []) ?_
      refine W.seq ?_
      refine W.block ?_
      refine W.seq ?_
      let z15 := fun t => z8 ((17, l9 (some 11700) v52) :: (18, .nils) :: (142, I6 (W6 ((w37.1.size : Int) - 1))) :: (143, I6 (k2 : Int)) :: t)
      refine W.rt (e2 := z15 []) ?_
      refine W.seq ?_
      refine W.join (σ := ((List ByteArray))) (fun s => z8 [(18, l9 (some 11800) s), (142, I6 (W6 ((w37.1.size : Int) - 1))), (143, I6 (k2 : Int))]) (fun s => (lw4_IndexRepeats_j55 (lw4_IndexRepeats_l2 fuel w6 w8 (lw4_IndexRepeats_j50) r2 (k2 + 1)) (lw4_IndexRepeats_j50)) s = some r) (fun s h => ?_) (fun hK55 => ?_)
      ·obtain ⟨v75, rfl⟩ : ∃ x, x = s := ⟨s, rfl⟩
       have h : (lw4_IndexRepeats_j55 (lw4_IndexRepeats_l2 fuel w6 w8 (lw4_IndexRepeats_j50) r2 (k2 + 1)) (lw4_IndexRepeats_j50)) v75 = some r := h
       unfold lw4_IndexRepeats_j55 at h
       refine W.seq ?_
       let z16 := fun t => z8 ((17, l9 (some 11800) v75) :: (142, I6 (W6 ((w37.1.size : Int) - 1))) :: (143, I6 (k2 : Int)) :: t)
       refine W.rt (e2 := z16 []) ?_
       refine W.seq ?_
       refine W.rg ?_
       refine WO.pk 1 (some (I6 ((List.map AV.str v75).length : Int))) (v := I6 (v75.length : Int)) (by rw [List.length_map]) (e1 := z16 [(182, l9 (some 11800) v75), (183, I6 (v75.length : Int))]) ?_
       refine WO.fn (e2 := z16 [(184, .bool (decide ((v75.length : Int) > 2000)))]) ?_
       refine W.cb (decide ((v75.length : Int) > 2000)) (fun hb => ?_) (fun hb => ?_)
       ·replace h := cond_t hb h
        refine W.exit ?_
        refine W.wk (env' := []) ?_
        exact hK50 () h
       replace h := cond_f hb h
       refine W.skip ?_
       refine W.wk (env' := z16 []) ?_
       refine W.rg ?_
       refine WO.pk 0 (some (I6 (IntKind.wrap .i64 ((k2 : Int) + 1)))) (v := I6 ((k2 + 1 : Nat) : Int)) (by rw [wrap_succ hl2 hk2]) (e1 := z8 [(17, l9 (some 11800) v75), (142, I6 (IntKind.wrap .i64 ((w37.1.size : Int) - 1))), (143, I6 (k2 : Int)), (185, I6 ((k2 + 1 : Nat) : Int))]) ?_
       refine WO.fin [1, 5, 17, 142, 143] [] [] [(11800, some 11700)] (e2 := z8 [(17, l9 (some 11700) v75), (142, I6 (W6 ((w37.1.size : Int) - 1))), (143, I6 ((k2 + 1 : Nat) : Int))]) (by kernel_rfl) (fun _ h => h) ?_
       exact hN2 v75 h
      refine W.seq ?_
      refine W.rg ?_
      refine WO.pk 1 (some (I6 ((List.map AV.str v52).length : Int))) (v := I6 (v52.length : Int)) (by rw [List.length_map]) (e1 := z15 [(145, l9 (some 11700) v52), (146, I6 (v52.length : Int))]) ?_
      refine WO.fn (e2 := z8 [(18, .nils), (142, I6 (W6 ((w37.1.size : Int) - 1))), (143, I6 (k2 : Int)), (145, l9 (some 11700) v52), (146, I6 (v52.length : Int)), (147, .int .i64 0)]) ?_
      refine W.block ?_
      obtain ⟨hl3, h⟩ := chk_some h
      refine W.weak [1, 5, 18, 142, 143, 145, 146, 147] [] [(18, 0, 9, 1, 11800)] [] (env' := z8 [(18, l9 (some 11800) ([] : (List ByteArray))), (142, I6 (W6 ((w37.1.size : Int) - 1))), (143, I6 (k2 : Int)), (145, l9 (some 11700) v52), (146, I6 (v52.length : Int)), (147, I6 ((0 : Nat) : Int))]) (by kernel_rfl) ?_
      refine W.range (σ := ((List ByteArray))) v52 (fun k3 s => z8 [(18, l9 (some 11800) s), (142, I6 (W6 ((w37.1.size : Int) - 1))), (143, I6 (k2 : Int)), (145, l9 (some 11700) v52), (146, I6 (v52.length : Int)), (147, I6 (k3 : Int))]) (fun r0 k0 s => lw4_IndexRepeats_l3 fuel w6 w8 (lw4_IndexRepeats_j55 (lw4_IndexRepeats_l2 fuel w6 w8 (lw4_IndexRepeats_j50) r2 (k2 + 1)) (lw4_IndexRepeats_j50)) r0 k0 s = some r) (fun s h => ?_) (fun x3 r3 k3 s hx3 hk3 h hN3 => ?_) ([] : (List ByteArray)) h
      ·obtain ⟨v57, rfl⟩ : ∃ x, x = s := ⟨s, rfl⟩
       have h : lw4_IndexRepeats_l3 fuel w6 w8 (lw4_IndexRepeats_j55 (lw4_IndexRepeats_l2 fuel w6 w8 (lw4_IndexRepeats_j50) r2 (k2 + 1)) (lw4_IndexRepeats_j50)) [] (v52).length v57 = some r := h
       rw [lw4_IndexRepeats_l3.eq_1] at h
       refine W.seq ?_
       refine W.rg ?_
       let z17 := fun t => z8 ((18, l9 (some 11800) v57) :: (142, I6 (W6 ((w37.1.size : Int) - 1))) :: (143, I6 (k2 : Int)) :: (145, l9 (some 11700) v52) :: (146, I6 (v52.length : Int)) :: (147, I6 ((v52).length : Int)) :: (148, .bool false) :: t)
       refine WO.pk 0 (some (.bool (decide (((v52).length : Int) < (v52.length : Int))))) (v := .bool false) (by rw [lt_false (l := v52)]) (e1 := z17 []) ?_
       refine WO.fn (e2 := z17 []) ?_
       refine W.seq ?_
       refine W.cb false (fun h => Bool.noConfusion h) (fun _ => ?_)
       refine W.exit ?_
       refine W.wk (env' := z8 [(18, l9 (some 11800) v57), (142, I6 (W6 ((w37.1.size : Int) - 1))), (143, I6 (k2 : Int))]) ?_
       exact hK55 v57 h
      ·obtain ⟨v57, rfl⟩ : ∃ x, x = s := ⟨s, rfl⟩
       have h : lw4_IndexRepeats_l3 fuel w6 w8 (lw4_IndexRepeats_j55 (lw4_IndexRepeats_l2 fuel w6 w8 (lw4_IndexRepeats_j50) r2 (k2 + 1)) (lw4_IndexRepeats_j50)) (x3 :: r3) k3 v57 = some r := h
       rw [lw4_IndexRepeats_l3.eq_2] at h
       refine W.seq ?_
       refine W.rg ?_
       let z18 := fun t => z8 ((18, l9 (some 11800) v57) :: (142, I6 (W6 ((w37.1.size : Int) - 1))) :: (143, I6 (k2 : Int)) :: (145, l9 (some 11700) v52) :: (146, I6 (v52.length : Int)) :: (147, I6 (k3 : Int)) :: t)
       refine WO.pk 0 (some (.bool (decide ((k3 : Int) < (v52.length : Int))))) (v := .bool true) (by rw [lt_true hk3]) (e1 := z18 [(148, .bool true)]) ?_
       refine WO.fn (e2 := z18 [(148, .bool true)]) ?_
       refine W.seq ?_
       refine W.cb true (fun _ => ?_) (fun h => Bool.noConfusion h)
       refine W.skip ?_
       refine W.wk (env' := z18 []) ?_
       refine W.seq ?_
       refine W.join (σ := ((List ByteArray))) (fun s => z8 [(18, l9 (some 11800) s), (142, I6 (W6 ((w37.1.size : Int) - 1))), (143, I6 (k2 : Int)), (145, l9 (some 11700) v52), (146, I6 (v52.length : Int)), (147, I6 (k3 : Int))]) (fun s => (lw4_IndexRepeats_j58 (lw4_IndexRepeats_l3 fuel w6 w8 (lw4_IndexRepeats_j55 (lw4_IndexRepeats_l2 fuel w6 w8 (lw4_IndexRepeats_j50) r2 (k2 + 1)) (lw4_IndexRepeats_j50)) r3 (k3 + 1))) s = some r) (fun s h => ?_) (fun hK58 => ?_)
       ·obtain ⟨v74, rfl⟩ : ∃ x, x = s := ⟨s, rfl⟩
        have h : (lw4_IndexRepeats_j58 (lw4_IndexRepeats_l3 fuel w6 w8 (lw4_IndexRepeats_j55 (lw4_IndexRepeats_l2 fuel w6 w8 (lw4_IndexRepeats_j50) r2 (k2 + 1)) (lw4_IndexRepeats_j50)) r3 (k3 + 1))) v74 = some r := h
        unfold lw4_IndexRepeats_j58 at h
        refine W.rg ?_
        refine WO.pk 0 (some (I6 (IntKind.wrap .i64 ((k3 : Int) + 1)))) (v := I6 ((k3 + 1 : Nat) : Int)) (by rw [wrap_succ hl3 hk3]) (e1 := z8 [(18, l9 (some 11800) v74), (142, I6 (IntKind.wrap .i64 ((w37.1.size : Int) - 1))), (143, I6 (k2 : Int)), (145, l9 (some 11700) v52), (146, I6 (v52.length : Int)), (147, I6 (k3 : Int)), (180, I6 ((k3 + 1 : Nat) : Int))]) ?_
        refine WO.fn (e2 := z8 [(18, l9 (some 11800) v74), (142, I6 (W6 ((w37.1.size : Int) - 1))), (143, I6 (k2 : Int)), (145, l9 (some 11700) v52), (146, I6 (v52.length : Int)), (147, I6 ((k3 + 1 : Nat) : Int))]) ?_
        exact hN3 v74 h
       refine W.block ?_
       refine W.seq ?_
       refine W.rg ?_
       refine WO.pk 0 (if (0 : Int) ≤ (k3 : Int) then ((List.map AV.str v52)[Int.toNat (k3 : Int)]?).map AV.ptr else none) (v := .ptr (.str x3)) (idx_nat (f := AV.str) hx3) (e1 := z18 [(149, .ptr (.str x3))]) ?_
       let z19 := fun t => z8 ((18, l9 (some 11800) v57) :: (20, .str x3) :: (142, I6 (W6 ((w37.1.size : Int) - 1))) :: (143, I6 (k2 : Int)) :: (145, l9 (some 11700) v52) :: (146, I6 (v52.length : Int)) :: (147, I6 (k3 : Int)) :: t)
       refine WO.fn (e2 := z19 []) ?_
       refine W.seq ?_
       refine W.rt (e2 := z19 [(152, I6 (w6.size : Int)), (153, .int .i64 0)]) ?_
       refine W.block ?_
       obtain ⟨hl4, h⟩ := chk_some h
       refine W.wk (env' := z19 [(152, I6 (w6.size : Int)), (153, I6 ((0 : Nat) : Int))]) ?_
       refine W.range (σ := ((List ByteArray))) (List.range (Int.toNat (w6.size : Int))) (fun k4 s => z8 [(18, l9 (some 11800) s), (20, .str x3), (142, I6 (W6 ((w37.1.size : Int) - 1))), (143, I6 (k2 : Int)), (145, l9 (some 11700) v52), (146, I6 (v52.length : Int)), (147, I6 (k3 : Int)), (152, I6 (w6.size : Int)), (153, I6 (k4 : Int))]) (fun r0 k0 s => lw4_IndexRepeats_l4 fuel x3 w6 w8 (lw4_IndexRepeats_j58 (lw4_IndexRepeats_l3 fuel w6 w8 (lw4_IndexRepeats_j55 (lw4_IndexRepeats_l2 fuel w6 w8 (lw4_IndexRepeats_j50) r2 (k2 + 1)) (lw4_IndexRepeats_j50)) r3 (k3 + 1))) r0 k0 s = some r) (fun s h => ?_) (fun x4 r4 k4 s hx4 hk4 h hN4 => ?_) v57 h
       ·obtain ⟨v61, rfl⟩ : ∃ x, x = s := ⟨s, rfl⟩
        have h : lw4_IndexRepeats_l4 fuel x3 w6 w8 (lw4_IndexRepeats_j58 (lw4_IndexRepeats_l3 fuel w6 w8 (lw4_IndexRepeats_j55 (lw4_IndexRepeats_l2 fuel w6 w8 (lw4_IndexRepeats_j50) r2 (k2 + 1)) (lw4_IndexRepeats_j50)) r3 (k3 + 1))) [] ((List.range (Int.toNat (w6.size : Int)))).length v61 = some r := h
        rw [lw4_IndexRepeats_l4.eq_1] at h
        refine W.seq ?_
        refine W.rg ?_
        let z20 := fun t => z8 ((18, l9 (some 11800) v61) :: (20, .str x3) :: (142, I6 (W6 ((w37.1.size : Int) - 1))) :: (143, I6 (k2 : Int)) :: (145, l9 (some 11700) v52) :: (146, I6 (v52.length : Int)) :: (147, I6 (k3 : Int)) :: (152, I6 (w6.size : Int)) :: (153, I6 (((List.range (Int.toNat (w6.size : Int)))).length : Int)) :: (154, .bool false) :: t)
        refine WO.pk 0 (some (.bool (decide ((((List.range (Int.toNat (w6.size : Int)))).length : Int) < (w6.size : Int))))) (v := .bool false) (by rw [ltr_false (n := (w6.size : Int))]) (e1 := z20 []) ?_
        refine WO.fn (e2 := z20 []) ?_
        refine W.seq ?_
        refine W.cb false (fun h => Bool.noConfusion h) (fun _ => ?_)
        refine W.exit ?_
        refine W.wk (env' := z8 [(18, l9 (some 11800) v61), (142, I6 (W6 ((w37.1.size : Int) - 1))), (143, I6 (k2 : Int)), (145, l9 (some 11700) v52), (146, I6 (v52.length : Int)), (147, I6 (k3 : Int))]) ?_
        exact hK58 v61 h
       ·obtain ⟨v61, rfl⟩ : ∃ x, x = s := ⟨s, rfl⟩
        have h : lw4_IndexRepeats_l4 fuel x3 w6 w8 (lw4_IndexRepeats_j58 (lw4_IndexRepeats_l3 fuel w6 w8 (lw4_IndexRepeats_j55 (lw4_IndexRepeats_l2 fuel w6 w8 (lw4_IndexRepeats_j50) r2 (k2 + 1)) (lw4_IndexRepeats_j50)) r3 (k3 + 1))) (x4 :: r4) k4 v61 = some r := h
        rw [lw4_IndexRepeats_l4.eq_2] at h
        refine W.seq ?_
        refine W.rg ?_
        let z21 := fun t => z8 ((18, l9 (some 11800) v61) :: (20, .str x3) :: t)
        let z22 := fun t => z21 ((142, I6 (W6 ((w37.1.size : Int) - 1))) :: (143, I6 (k2 : Int)) :: (145, l9 (some 11700) v52) :: (146, I6 (v52.length : Int)) :: (147, I6 (k3 : Int)) :: (152, I6 (w6.size : Int)) :: (153, I6 (k4 : Int)) :: t)
        refine WO.pk 0 (some (.bool (decide ((k4 : Int) < (w6.size : Int))))) (v := .bool true) (by rw [ltr_true hk4]) (e1 := z22 [(154, .bool true)]) ?_
        refine WO.fn (e2 := z22 [(154, .bool true)]) ?_
        refine W.seq ?_
        refine W.cb true (fun _ => ?_) (fun h => Bool.noConfusion h)
        refine W.skip ?_
        refine W.wk (env' := z22 []) ?_
        refine W.seq ?_
        refine W.block ?_
        refine W.seq ?_
        let z23 := fun t => z21 ((21, I6 (k4 : Int)) :: (142, I6 (W6 ((w37.1.size : Int) - 1))) :: (143, I6 (k2 : Int)) :: (145, l9 (some 11700) v52) :: (146, I6 (v52.length : Int)) :: (147, I6 (k3 : Int)) :: (152, I6 (w6.size : Int)) :: (153, I6 (k4 : Int)) :: t)
        refine W.rt (e2 := z23 []) ?_
        refine W.seq ?_
        refine W.rg ?_
        refine WO.pk 4 (some (I6 (IntKind.wrap .i64 ((k4 : Int) + 1)))) (v := I6 ((k4 + 1 : Nat) : Int)) (by rw [wrap_succ hl4 hk4]) (e1 := z21 [(21, I6 (k4 : Int)), (142, I6 (IntKind.wrap .i64 ((w37.1.size : Int) - 1))), (143, I6 (k2 : Int)), (145, l9 (some 11700) v52), (146, I6 (v52.length : Int)), (147, I6 (k3 : Int)), (152, I6 (w6.size : Int)), (153, I6 (k4 : Int)), (156, .str x3), (157, .str w6), (158, I6 (k4 : Int)), (159, I6 (k4 : Int)), (160, I6 ((k4 + 1 : Nat) : Int))]) ?_
        obtain ⟨e65, he65, h⟩ := bind_some h
        let z24 := fun t => z23 ((156, .str x3) :: (157, .str w6) :: (158, I6 (k4 : Int)) :: (159, I6 (k4 : Int)) :: (160, I6 ((k4 + 1 : Nat) : Int)) :: (161, .str e65) :: t)
        refine WO.pk 0 (if (0 : Int) ≤ (k4 : Int) ∧ (k4 : Int) ≤ ((k4 + 1 : Nat) : Int) ∧ ((k4 + 1 : Nat) : Int) ≤ (w6.size : Int) then some (AV.str (w6.extract (Int.toNat (k4 : Int)) (Int.toNat ((k4 + 1 : Nat) : Int)))) else none) (v := .str e65) (ssub_av he65) (e1 := z24 []) ?_
        obtain ⟨hc66, h⟩ := chk_some h
        refine WO.pk 0 (if ((x3.size + e65.size : Nat) : Int) > IntKind.i64.max then none else some (.str (x3 ++ e65))) (v := .str (x3 ++ e65)) (if_neg (not_gt_of_chk hc66)) (e1 := z24 [(162, .str (x3 ++ e65))]) ?_
        let z25 := fun t => z21 ((22, .str (x3 ++ e65)) :: (142, I6 (W6 ((w37.1.size : Int) - 1))) :: (143, I6 (k2 : Int)) :: (145, l9 (some 11700) v52) :: (146, I6 (v52.length : Int)) :: (147, I6 (k3 : Int)) :: (152, I6 (w6.size : Int)) :: (153, I6 (k4 : Int)) :: t)
        refine WO.fn (e2 := z25 []) ?_
        refine W.seq ?_
        refine W.seq ?_
        refine W.rg ?_
        obtain ⟨w69, hw69, h⟩ := bind_some h
        refine WO.ck 2 (F := 32) (l := [ep e_ixIndex w8.1, .str (x3 ++ e65)]) (C := []) (r := .tup [I6 w69.1, I6 w69.2]) (run_ix_Index_Count fuel w8.1 (x3 ++ e65) w69 hw69) (e1 := z25 [(164, ep e_ixIndex w8.1), (165, .str (x3 ++ e65)), (166, .tup [I6 w69.1, I6 w69.2])]) ?_
        let z26 := fun t => z21 ((22, .str (x3 ++ e65)) :: (23, I6 w69.1) :: (24, I6 w69.2) :: (142, I6 (W6 ((w37.1.size : Int) - 1))) :: (143, I6 (k2 : Int)) :: (145, l9 (some 11700) v52) :: (146, I6 (v52.length : Int)) :: (147, I6 (k3 : Int)) :: (152, I6 (w6.size : Int)) :: (153, I6 (k4 : Int)) :: t)
        refine WO.fn (e2 := z26 []) ?_
        refine W.seq ?_
        refine W.join (σ := (Bool)) (fun s => z25 [(174, .bool s)]) (fun s => (lw4_IndexRepeats_j70 x3 v61 e65 (lw4_IndexRepeats_l4 fuel x3 w6 w8 (lw4_IndexRepeats_j58 (lw4_IndexRepeats_l3 fuel w6 w8 (lw4_IndexRepeats_j55 (lw4_IndexRepeats_l2 fuel w6 w8 (lw4_IndexRepeats_j50) r2 (k2 + 1)) (lw4_IndexRepeats_j50)) r3 (k3 + 1))) r4 (k4 + 1))) s = some r) (fun s h => ?_) (fun hK70 => ?_)
        ·obtain ⟨v71, rfl⟩ : ∃ x, x = s := ⟨s, rfl⟩
         have h : (lw4_IndexRepeats_j70 x3 v61 e65 (lw4_IndexRepeats_l4 fuel x3 w6 w8 (lw4_IndexRepeats_j58 (lw4_IndexRepeats_l3 fuel w6 w8 (lw4_IndexRepeats_j55 (lw4_IndexRepeats_l2 fuel w6 w8 (lw4_IndexRepeats_j50) r2 (k2 + 1)) (lw4_IndexRepeats_j50)) r3 (k3 + 1))) r4 (k4 + 1))) v71 = some r := h
         unfold lw4_IndexRepeats_j70 at h
         refine W.cb v71 (fun hb => ?_) (fun hb => ?_)
         ·replace h := cond_t hb h
          refine W.seq ?_
          refine W.rt (e2 := [(4, .bool false)]) ?_
          refine W.wk (env' := [(4, .bool false)]) ?_
          have hr : aresults Try.prog Try.f13 [(4, .bool false)] = some (.bool false) := by kernel_rfl
          cases h
          exact W.ret hr
         replace h := cond_f hb h
         refine W.skip ?_
         refine W.wk (env' := z25 []) ?_
         refine W.rg ?_
         obtain ⟨hc73, h⟩ := chk_some h
         refine WO.appendK 3 (d := 178) (e := 9) (s := 1) (bytes := 16) (xs := (List.map AV.str v61)) (ys := (List.map AV.str [(x3 ++ e65)])) (zs := (List.map AV.str (v61 ++ [(x3 ++ e65)]))) (env1 := [(1, .str w6), (5, ep e_ixIndex w8.1), (18, l9 none v61), (20, .str x3), (22, .str (x3 ++ e65)), (142, I6 (W6 ((w37.1.size : Int) - 1))), (143, I6 (k2 : Int)), (145, l9 (some 11700) v52), (146, I6 (v52.length : Int)), (147, I6 (k3 : Int)), (152, I6 (w6.size : Int)), (153, I6 (k4 : Int)), (175, l9 none v61), (176, .str (x3 ++ e65)), (177, l9 (some 177) [(x3 ++ e65)])]) (by kernel_rfl) (List.map_append.symm) (by rw [List.length_map]; exact hc73) (e1 := z8 [(18, l9 none v61), (20, .str x3), (22, .str (x3 ++ e65)), (142, I6 (W6 ((w37.1.size : Int) - 1))), (143, I6 (k2 : Int)), (145, l9 (some 11700) v52), (146, I6 (v52.length : Int)), (147, I6 (k3 : Int)), (152, I6 (w6.size : Int)), (153, I6 (k4 : Int)), (175, l9 none v61), (176, .str (x3 ++ e65)), (177, l9 (some 177) [(x3 ++ e65)]), (178, l9 (some 178) (v61 ++ [(x3 ++ e65)]))]) (by kernel_rfl) ?_
         let z27 := fun t => z8 ((18, l9 (some 178) (v61 ++ [(x3 ++ e65)])) :: (20, .str x3) :: t)
         refine WO.fn (e2 := z27 [(142, I6 (W6 ((w37.1.size : Int) - 1))), (143, I6 (k2 : Int)), (145, l9 (some 11700) v52), (146, I6 (v52.length : Int)), (147, I6 (k3 : Int)), (152, I6 (w6.size : Int)), (153, I6 (k4 : Int))]) ?_
         refine W.rg ?_
         refine WO.pk 0 (some (I6 (IntKind.wrap .i64 ((k4 : Int) + 1)))) (v := I6 ((k4 + 1 : Nat) : Int)) (by rw [wrap_succ hl4 hk4]) (e1 := z27 [(142, I6 (IntKind.wrap .i64 ((w37.1.size : Int) - 1))), (143, I6 (k2 : Int)), (145, l9 (some 11700) v52), (146, I6 (v52.length : Int)), (147, I6 (k3 : Int)), (152, I6 (w6.size : Int)), (153, I6 (k4 : Int)), (179, I6 ((k4 + 1 : Nat) : Int))]) ?_
         refine WO.fin [1, 5, 18, 20, 142, 143, 145, 146, 147, 152, 153] [] [] [(178, some 11800)] (e2 := z8 [(18, l9 (some 11800) (v61 ++ [(x3 ++ e65)])), (20, .str x3), (142, I6 (W6 ((w37.1.size : Int) - 1))), (143, I6 (k2 : Int)), (145, l9 (some 11700) v52), (146, I6 (v52.length : Int)), (147, I6 (k3 : Int)), (152, I6 (w6.size : Int)), (153, I6 ((k4 + 1 : Nat) : Int))]) (by kernel_rfl) (fun _ h => h) ?_
         exact hN4 (v61 ++ [(x3 ++ e65)]) h
        refine W.rg ?_
        refine WO.bk 3 (fun b => z26 [(169, I6 w69.2), (170, .bool b), (171, .bool b)]) (w69.2 != 0) (fun hb => ?_) (fun hb => ?_)
        ·replace h := cond_t hb h
         refine WO.fn (e2 := z25 [(174, .bool true)]) ?_
         exact hK70 true h
        replace h := cond_f hb h
        refine WO.fn (e2 := z25 [(174, .bool (w69.1 == 0))]) ?_
        exact hK70 (w69.1 == 0) h
    refine W.rg ?_
    let z28 := fun t => z12 ((119, .str w37.1) :: (120, I6 (w37.1.size : Int)) :: t)
    refine WO.bk 4 (fun b => z28 [(121, .bool b), (122, .bool b)]) (decide ((w37.1.size : Int) ≤ 200)) (fun hb => ?_) (fun hb => ?_)
    ·replace h := cond_t hb h
     let z29 := fun t => z28 ((121, .bool true) :: (122, .bool true) :: (123, I6 w45.2) :: t)
     refine WO.bk 3 (fun b => z29 [(124, .bool b), (125, .bool b)]) (w45.2 != 0) (fun hb => ?_) (fun hb => ?_)
     ·replace h := cond_t hb h
      refine WO.fn (e2 := z11 [(138, .bool true)]) ?_
      exact hK46 true h
     replace h := cond_f hb h
     let z30 := fun t => z29 ((124, .bool false) :: (125, .bool false) :: (126, I6 w45.1) :: t)
     refine WO.bk 5 (fun b => z30 [(127, .bool b), (128, .bool b), (129, .bool b), (130, .bool b)]) (w45.1 != 0) (fun hb => ?_) (fun hb => ?_)
     ·replace h := cond_t hb h
      refine WO.fn (e2 := z11 [(138, .bool true)]) ?_
      exact hK46 true h
     replace h := cond_f hb h
     refine WO.bk 4 (fun b => z30 [(127, .bool false), (128, .bool false), (129, .bool false), (130, .bool false), (131, .str w37.1), (132, .bool b), (133, .bool b), (134, .bool b)]) (w37.1.toList == (ByteArray.mk #[]).toList) (fun hb => ?_) (fun hb => ?_)
     ·replace h := cond_t hb h
      refine WO.fn (e2 := z11 [(138, .bool true)]) ?_
      exact hK46 true h
     replace h := cond_f hb h
     refine WO.fn (e2 := z11 [(138, .bool (decide ((w37.1.size : Int) > 201)))]) ?_
     exact hK46 (decide ((w37.1.size : Int) > 201)) h
    replace h := cond_f hb h
    refine WO.bk 12 (fun b => z28 [(121, .bool false), (122, .bool false), (123, .und), (124, .und), (125, .und), (126, .und), (127, .und), (128, .und), (129, .bool false), (130, .bool false), (131, .str w37.1), (132, .bool b), (133, .bool b), (134, .bool b)]) (w37.1.toList == (ByteArray.mk #[]).toList) (fun hb => ?_) (fun hb => ?_)
    ·replace h := cond_t hb h
     refine WO.fn (e2 := z11 [(138, .bool true)]) ?_
     exact hK46 true h
    replace h := cond_f hb h
    refine WO.fn (e2 := z11 [(138, .bool (decide ((w37.1.size : Int) > 201)))]) ?_
    exact hK46 (decide ((w37.1.size : Int) > 201)) h
   refine W.seq ?_
   let z31 := fun t => z5 ((76, I6 (W6 ((w5.size : Int) - (w15.1.size : Int)))) :: t)
   refine W.rt (e2 := z31 [(77, .int .i64 0)]) ?_
   refine W.block ?_
   obtain ⟨hl1, h⟩ := chk_some h
   refine W.wk (env' := z31 [(77, I6 ((0 : Nat) : Int))]) ?_
   refine W.range (σ := Unit) (List.range (Int.toNat (W6 ((w5.size : Int) - (w15.1.size : Int))))) (fun k1 s => z31 [(77, I6 (k1 : Int))]) (fun r0 k0 s => lw4_IndexRepeats_l1 fuel w5 w8 w15 (lw4_IndexRepeats_j26 fuel w5 w6 w8) r0 k0 = some r) (fun s h => ?_) (fun x1 r1 k1 s hx1 hk1 h hN1 => ?_) () h
   ·have h : lw4_IndexRepeats_l1 fuel w5 w8 w15 (lw4_IndexRepeats_j26 fuel w5 w6 w8) [] ((List.range (Int.toNat (W6 ((w5.size : Int) - (w15.1.size : Int)))))).length = some r := h
    rw [lw4_IndexRepeats_l1.eq_1] at h
    refine W.seq ?_
    refine W.rg ?_
    let z32 := fun t => z31 ((77, I6 (((List.range (Int.toNat (W6 ((w5.size : Int) - (w15.1.size : Int)))))).length : Int)) :: (78, .bool false) :: t)
    refine WO.pk 0 (some (.bool (decide ((((List.range (Int.toNat (W6 ((w5.size : Int) - (w15.1.size : Int)))))).length : Int) < (W6 ((w5.size : Int) - (w15.1.size : Int))))))) (v := .bool false) (by rw [ltr_false (n := (W6 ((w5.size : Int) - (w15.1.size : Int))))]) (e1 := z32 []) ?_
    refine WO.fn (e2 := z32 []) ?_
    refine W.seq ?_
    refine W.cb false (fun h => Bool.noConfusion h) (fun _ => ?_)
    refine W.exit ?_
    refine W.wk (env' := z2 []) ?_
    exact hK26 () h
   ·have h : lw4_IndexRepeats_l1 fuel w5 w8 w15 (lw4_IndexRepeats_j26 fuel w5 w6 w8) (x1 :: r1) k1 = some r := h
    rw [lw4_IndexRepeats_l1.eq_2] at h
    refine W.seq ?_
    refine W.rg ?_
    let z33 := fun t => z31 ((77, I6 (k1 : Int)) :: t)
    refine WO.pk 0 (some (.bool (decide ((k1 : Int) < (W6 ((w5.size : Int) - (w15.1.size : Int))))))) (v := .bool true) (by rw [ltr_true hk1]) (e1 := z33 [(78, .bool true)]) ?_
    refine WO.fn (e2 := z33 [(78, .bool true)]) ?_
    refine W.seq ?_
    refine W.cb true (fun _ => ?_) (fun h => Bool.noConfusion h)
    refine W.skip ?_
    refine W.wk (env' := z33 []) ?_
    refine W.seq ?_
    refine W.block ?_
    refine W.seq ?_
    let z34 := fun t => z5 ((11, I6 (k1 : Int)) :: (76, I6 (W6 ((w5.size : Int) - (w15.1.size : Int)))) :: (77, I6 (k1 : Int)) :: t)
    refine W.rt (e2 := z34 []) ?_
    refine W.seq ?_
    refine W.rg ?_
    obtain ⟨e31, he31, h⟩ := bind_some h
    let z35 := fun t => z34 ((81, ep e_ixIndex w8.1) :: (82, .str w5) :: (83, I6 (k1 : Int)) :: (84, I6 (k1 : Int)) :: (85, .str w15.1) :: (86, I6 (w15.1.size : Int)) :: (87, I6 (W6 ((k1 : Int) + (w15.1.size : Int)))) :: (88, I6 (W6 ((W6 ((k1 : Int) + (w15.1.size : Int))) + 1))) :: (89, .str e31) :: t)
    refine WO.pk 8 (if (0 : Int) ≤ (k1 : Int) ∧ (k1 : Int) ≤ (W6 ((W6 ((k1 : Int) + (w15.1.size : Int))) + 1)) ∧ (W6 ((W6 ((k1 : Int) + (w15.1.size : Int))) + 1)) ≤ (w5.size : Int) then some (AV.str (w5.extract (Int.toNat (k1 : Int)) (Int.toNat (W6 ((W6 ((k1 : Int) + (w15.1.size : Int))) + 1))))) else none) (v := .str e31) (ssub_av he31) (e1 := z35 []) ?_
    obtain ⟨w32, hw32, h⟩ := bind_some h
    refine WO.ck 0 (F := 32) (l := [ep e_ixIndex w8.1, .str e31]) (C := []) (r := .tup [I6 w32.1, I6 w32.2]) (run_ix_Index_Count fuel w8.1 e31 w32 hw32) (e1 := z35 [(90, .tup [I6 w32.1, I6 w32.2])]) ?_
    let z36 := fun t => z5 ((12, I6 w32.1) :: (13, I6 w32.2) :: (76, I6 (W6 ((w5.size : Int) - (w15.1.size : Int)))) :: (77, I6 (k1 : Int)) :: t)
    refine WO.fn (e2 := z36 []) ?_
    refine W.seq ?_
    refine W.join (σ := (Bool)) (fun s => z33 [(98, .bool s)]) (fun s => (lw4_IndexRepeats_j33 (lw4_IndexRepeats_l1 fuel w5 w8 w15 (lw4_IndexRepeats_j26 fuel w5 w6 w8) r1 (k1 + 1))) s = some r) (fun s h => ?_) (fun hK33 => ?_)
    ·obtain ⟨v34, rfl⟩ : ∃ x, x = s := ⟨s, rfl⟩
     have h : (lw4_IndexRepeats_j33 (lw4_IndexRepeats_l1 fuel w5 w8 w15 (lw4_IndexRepeats_j26 fuel w5 w6 w8) r1 (k1 + 1))) v34 = some r := h
     unfold lw4_IndexRepeats_j33 at h
     refine W.cb v34 (fun hb => ?_) (fun hb => ?_)
     ·replace h := cond_t hb h
      refine W.seq ?_
      refine W.rt (e2 := [(4, .bool false)]) ?_
      refine W.wk (env' := [(4, .bool false)]) ?_
      have hr : aresults Try.prog Try.f13 [(4, .bool false)] = some (.bool false) := by kernel_rfl
      cases h
      exact W.ret hr
     replace h := cond_f hb h
     refine W.skip ?_
     refine W.wk (env' := z33 []) ?_
     refine W.rg ?_
     refine WO.pk 0 (some (I6 (IntKind.wrap .i64 ((k1 : Int) + 1)))) (v := I6 ((k1 + 1 : Nat) : Int)) (by rw [wrap_succ hl1 hk1]) (e1 := z5 [(76, I6 (IntKind.wrap .i64 ((w5.size : Int) - (w15.1.size : Int)))), (77, I6 (k1 : Int)), (99, I6 ((k1 + 1 : Nat) : Int))]) ?_
     refine WO.fn (e2 := z31 [(77, I6 ((k1 + 1 : Nat) : Int))]) ?_
     exact hN1 () h
    refine W.rg ?_
    refine WO.bk 3 (fun b => z36 [(93, I6 w32.2), (94, .bool b), (95, .bool b)]) (w32.2 != 0) (fun hb => ?_) (fun hb => ?_)
    ·replace h := cond_t hb h
     refine WO.fn (e2 := z33 [(98, .bool true)]) ?_
     exact hK33 true h
    replace h := cond_f hb h
    refine WO.fn (e2 := z33 [(98, .bool (w32.1 != 1))]) ?_
    exact hK33 (w32.1 != 1) h
  refine W.rg ?_
  refine WO.bk 3 (fun b => z7 [(58, I6 w22.2), (59, .bool b), (60, .bool b)]) (w22.2 != 0) (fun hb => ?_) (fun hb => ?_)
  ·replace h := cond_t hb h
   refine WO.fn (e2 := z5 [(71, .bool true)]) ?_
   exact hK23 true h
  replace h := cond_f hb h
  let z37 := fun t => z7 ((58, I6 w22.2) :: (59, .bool false) :: (60, .bool false) :: (61, I6 w15.2) :: t)
  refine WO.bk 3 (fun b => z37 [(62, .bool b), (63, .bool b)]) (w15.2 == 0) (fun hb => ?_) (fun hb => ?_)
  ·replace h := cond_t hb h
   refine WO.bk 3 (fun b => z37 [(62, .bool true), (63, .bool true), (64, I6 w22.1), (65, .bool b), (66, .bool b)]) (decide (w22.1 < 2)) (fun hb => ?_) (fun hb => ?_)
   ·replace h := cond_t hb h
    refine WO.fn (e2 := z5 [(71, .bool true)]) ?_
    exact hK23 true h
   replace h := cond_f hb h
   refine WO.fn (e2 := z5 [(71, .bool (w15.1.toList == (ByteArray.mk #[]).toList))]) ?_
   exact hK23 (w15.1.toList == (ByteArray.mk #[]).toList) h
  replace h := cond_f hb h
  refine WO.fn (e2 := z5 [(71, .bool false)]) ?_
  exact hK23 false h
 refine W.rg ?_
 refine WO.bk 3 (fun b => z6 [(46, I6 w15.2), (47, .bool b), (48, .bool b)]) (w15.2 != 0) (fun hb => ?_) (fun hb => ?_)
 ·replace h := cond_t hb h
  refine WO.fn (e2 := z6 [(51, .bool (w15.2 != 5))]) ?_
  exact hK17 (w15.2 != 5) h
 replace h := cond_f hb h
 refine WO.fn (e2 := z6 [(51, .bool false)]) ?_
 exact hK17 false h
end Go.AM
