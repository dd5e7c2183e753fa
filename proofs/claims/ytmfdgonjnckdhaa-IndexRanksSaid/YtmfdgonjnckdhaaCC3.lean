/- s -/
import Derived.Test.YtmfdgonjnckdhaaCC2
set_option maxRecDepth 100000
set_option linter.unusedVariables false
set_option linter.unusedSimpArgs false
namespace Go.AM
open Go.Proofs
def rf4_Transform_j4 (v15 : (List Int)) : Option ByteArray :=
 (some (strOfI v15))
def rf4_Transform_j8 (N1 : ((List Int) → Option ByteArray)) (v14 : (List Int)) : Option ByteArray :=
 (N1 v14)
def rf4_Transform_l1 (a1 : ByteArray) (K4 : ((List Int) → Option ByteArray)) : List Int → Nat → (List Int) → Option ByteArray
 | [], k1, v7 => (K4 v7)
 | x1 :: r1, k1, v7 => (bif (x1 == 0) then (chk (capOk 1 ((v7 ++ [10])).length) ((rf4_Transform_j8 (rf4_Transform_l1 a1 K4 r1 (k1 + 1))) (v7 ++ [10]))) else ((sidx a1 (IntKind.wrap .i64 (x1 - 1))).bind fun e12 => (chk (capOk 1 ((v7 ++ [e12])).length) ((rf4_Transform_j8 (rf4_Transform_l1 a1 K4 r1 (k1 + 1))) (v7 ++ [e12])))))
def rf4_Transform (fuel : Nat) (a1 : ByteArray) : Option ByteArray :=
 ((rf4_Sort fuel a1).bind fun w6 => (chk (lenOk w6) (rf4_Transform_l1 a1 (rf4_Transform_j4) w6 0 ([] : (List Int)))))
theorem run_rf4_Transform (fuel : Nat) (a1 : ByteArray) (r : ByteArray) (h : rf4_Transform fuel a1 = some r) : Run Try.prog (.call 58 [.str a1] (.str r)) := by
 refine cW Try.func58 rfl (env0 := [(0, .str a1)]) ?_
 unfold rf4_Transform at h
 refine W.seq ?_
 let z0 := fun t => EN ((0, .str a1) :: t)
 refine W.rt (e2 := z0 []) ?_
 refine W.seq ?_
 let z1 := fun t => z0 ((3, .nils) :: t)
 refine W.rt (e2 := z1 []) ?_
 refine W.seq ?_
 refine W.join (σ := ((List Int))) (fun s => [(3, l5 (some 10300) s)]) (fun s => (rf4_Transform_j4) s = some r) (fun s h => ?_) (fun hK4 => ?_)
 ·obtain ⟨v15, rfl⟩ : ∃ x, x = s := ⟨s, rfl⟩
  have h : (rf4_Transform_j4) v15 = some r := h
  unfold rf4_Transform_j4 at h
  refine W.seq ?_
  refine W.rg ?_
  refine WO.pk 1 (match true, optAll ((M8 v15).map byteOf) with | true, some ns => some (AV.str ⟨(ns.map fun n => UInt8.ofNat n.toNat).toArray⟩) | _, _ => none) (v := .str (strOfI v15)) (strOf_av (f := strOfI) v15) (e1 := [(3, l5 (some 10300) v15), (26, l5 (some 10300) v15), (27, .str (strOfI v15))]) ?_
  refine WO.fn (e2 := [(2, .str (strOfI v15))]) ?_
  refine W.wk (env' := [(2, .str (strOfI v15))]) ?_
  have hr : aresults Try.prog Try.f58 [(2, .str (strOfI v15))] = some (.str (strOfI v15)) := by kernel_rfl
  cases h
  exact W.ret hr
 refine W.seq ?_
 refine W.rg ?_
 obtain ⟨w6, hw6, h⟩ := bind_some h
 refine WO.ck 1 (F := 20) (l := [.str a1]) (C := []) (r := l3 none w6) (run_rf4_Sort fuel a1 w6 hw6) (e1 := z1 [(6, .str a1), (7, l3 none w6)]) ?_
 refine WO.pk 0 (some (I6 ((M6 w6).length : Int))) (v := I6 (w6.length : Int)) (by rw [List.length_map]) (e1 := z1 [(6, .str a1), (7, l3 none w6), (8, I6 (w6.length : Int))]) ?_
 refine WO.fn (e2 := z1 [(7, l3 none w6), (8, I6 (w6.length : Int)), (9, .int .i64 0)]) ?_
 refine W.block ?_
 obtain ⟨hl1, h⟩ := chk_some h
 refine W.weak [0, 3, 7, 8, 9] [] [(3, 0, 5, 1, 10300)] [] (env' := z0 [(3, l5 (some 10300) ([] : (List Int))), (7, l3 none w6), (8, I6 (w6.length : Int)), (9, I6 ((0 : Nat) : Int))]) (by kernel_rfl) ?_
 refine W.range (σ := ((List Int))) w6 (fun k1 s => z0 [(3, l5 (some 10300) s), (7, l3 none w6), (8, I6 (w6.length : Int)), (9, I6 (k1 : Int))]) (fun r0 k0 s => rf4_Transform_l1 a1 (rf4_Transform_j4) r0 k0 s = some r) (fun s h => ?_) (fun x1 r1 k1 s hx1 hk1 h hN1 => ?_) ([] : (List Int)) h
 ·obtain ⟨v7, rfl⟩ : ∃ x, x = s := ⟨s, rfl⟩
  have h : rf4_Transform_l1 a1 (rf4_Transform_j4) [] (w6).length v7 = some r := h
  rw [rf4_Transform_l1.eq_1] at h
  refine W.seq ?_
  refine W.rg ?_
  let z2 := fun t => z0 ((3, l5 (some 10300) v7) :: (7, l3 none w6) :: (8, I6 (w6.length : Int)) :: (9, I6 ((w6).length : Int)) :: (10, .bool false) :: t)
  refine WO.pk 0 (some (.bool (decide (((w6).length : Int) < (w6.length : Int))))) (v := .bool false) (by rw [lt_false (l := w6)]) (e1 := z2 []) ?_
  refine WO.fn (e2 := z2 []) ?_
  refine W.seq ?_
  refine W.cb false (fun h => Bool.noConfusion h) (fun _ => ?_)
  refine W.exit ?_
  refine W.wk (env' := [(3, l5 (some 10300) v7)]) ?_
  exact hK4 v7 h
 ·obtain ⟨v7, rfl⟩ : ∃ x, x = s := ⟨s, rfl⟩
  have h : rf4_Transform_l1 a1 (rf4_Transform_j4) (x1 :: r1) k1 v7 = some r := h
  rw [rf4_Transform_l1.eq_2] at h
  refine W.seq ?_
  refine W.rg ?_
  let z3 := fun t => z0 ((3, l5 (some 10300) v7) :: (7, l3 none w6) :: (8, I6 (w6.length : Int)) :: (9, I6 (k1 : Int)) :: t)
  refine WO.pk 0 (some (.bool (decide ((k1 : Int) < (w6.length : Int))))) (v := .bool true) (by rw [lt_true hk1]) (e1 := z3 [(10, .bool true)]) ?_
  refine WO.fn (e2 := z3 [(10, .bool true)]) ?_
  refine W.seq ?_
  refine W.cb true (fun _ => ?_) (fun h => Bool.noConfusion h)
  refine W.skip ?_
  refine W.wk (env' := z3 []) ?_
  refine W.seq ?_
  refine W.join (σ := ((List Int))) (fun s => z0 [(3, l5 (some 10300) s), (7, l3 none w6), (8, I6 (w6.length : Int)), (9, I6 (k1 : Int))]) (fun s => (rf4_Transform_j8 (rf4_Transform_l1 a1 (rf4_Transform_j4) r1 (k1 + 1))) s = some r) (fun s h => ?_) (fun hK8 => ?_)
  ·obtain ⟨v14, rfl⟩ : ∃ x, x = s := ⟨s, rfl⟩
   have h : (rf4_Transform_j8 (rf4_Transform_l1 a1 (rf4_Transform_j4) r1 (k1 + 1))) v14 = some r := h
   unfold rf4_Transform_j8 at h
   refine W.rg ?_
   let z4 := fun t => z0 ((3, l5 (some 10300) v14) :: (7, l3 none w6) :: (8, I6 (w6.length : Int)) :: t)
   refine WO.pk 0 (some (I6 (IntKind.wrap .i64 ((k1 : Int) + 1)))) (v := I6 ((k1 + 1 : Nat) : Int)) (by rw [wrap_succ hl1 hk1]) (e1 := z4 [(9, I6 (k1 : Int)), (25, I6 ((k1 + 1 : Nat) : Int))]) ?_
   refine WO.fn (e2 := z4 [(9, I6 ((k1 + 1 : Nat) : Int))]) ?_
   exact hN1 v14 h
  refine W.block ?_
  refine W.seq ?_
  refine W.rg ?_
  refine WO.pk 0 (if (0 : Int) ≤ (k1 : Int) then ((M6 w6)[Int.toNat (k1 : Int)]?).map AV.ptr else none) (v := .ptr (I6 x1)) (idx_nat (f := (AV.int .i64)) hx1) (e1 := z3 [(11, .ptr (I6 x1))]) ?_
  let z5 := fun t => z0 ((3, l5 (some 10300) v7) :: (5, I6 x1) :: (7, l3 none w6) :: (8, I6 (w6.length : Int)) :: (9, I6 (k1 : Int)) :: t)
  refine WO.fn (e2 := z5 []) ?_
  refine W.seq ?_
  refine W.rt (e2 := z5 [(14, .bool (x1 == 0))]) ?_
  refine W.cb (x1 == 0) (fun hb => ?_) (fun hb => ?_)
  ·replace h := cond_t hb h
   refine W.rg ?_
   obtain ⟨hc11, h⟩ := chk_some h
   refine WO.appendK 2 (d := 17) (e := 5) (s := 1) (bytes := 1) (xs := (M8 v7)) (ys := (M8 [10])) (zs := (M8 (v7 ++ [10]))) (env1 := [(0, .str a1), (3, l5 none v7), (5, I6 x1), (7, l3 none w6), (8, I6 (w6.length : Int)), (9, I6 (k1 : Int)), (14, .bool (x1 == 0)), (15, l5 none v7), (16, l5 (some 16) [10])]) (by kernel_rfl) (List.map_append.symm) (by rw [List.length_map]; exact hc11) (e1 := z0 [(3, l5 none v7), (5, I6 x1), (7, l3 none w6), (8, I6 (w6.length : Int)), (9, I6 (k1 : Int)), (14, .bool (x1 == 0)), (15, l5 none v7), (16, l5 (some 16) [10]), (17, l5 (some 17) (v7 ++ [10]))]) (by kernel_rfl) ?_
   refine WO.fin [0, 3, 7, 8, 9] [] [] [(17, some 10300)] (e2 := z0 [(3, l5 (some 10300) (v7 ++ [10])), (7, l3 none w6), (8, I6 (w6.length : Int)), (9, I6 (k1 : Int))]) (by kernel_rfl) (fun _ h => h) ?_
   exact hK8 (v7 ++ [10]) h
  replace h := cond_f hb h
  refine W.rg ?_
  obtain ⟨e12, he12, h⟩ := bind_some h
  refine WO.pk 4 (if (0 : Int) ≤ (W6 (x1 - 1)) then (a1[Int.toNat (W6 (x1 - 1))]?).map fun b => AV.int .u8 b.toNat else none) (v := .int .u8 e12) (sidx_av he12) (e1 := z5 [(14, .bool (x1 == 0)), (18, l5 (some 10300) v7), (19, .str a1), (20, I6 x1), (21, I6 (W6 (x1 - 1))), (22, .int .u8 e12)]) ?_
  obtain ⟨hc13, h⟩ := chk_some h
  refine WO.appendK 1 (d := 24) (e := 5) (s := 1) (bytes := 1) (xs := (M8 v7)) (ys := (M8 [e12])) (zs := (M8 (v7 ++ [e12]))) (env1 := [(0, .str a1), (3, l5 none v7), (5, I6 x1), (7, l3 none w6), (8, I6 (w6.length : Int)), (9, I6 (k1 : Int)), (14, .bool (x1 == 0)), (18, l5 none v7), (19, .str a1), (20, I6 x1), (21, I6 (W6 (x1 - 1))), (22, .int .u8 e12), (23, l5 (some 23) [e12])]) (by kernel_rfl) (List.map_append.symm) (by rw [List.length_map]; exact hc13) (e1 := z0 [(3, l5 none v7), (5, I6 x1), (7, l3 none w6), (8, I6 (w6.length : Int)), (9, I6 (k1 : Int)), (14, .bool (x1 == 0)), (18, l5 none v7), (19, .str a1), (20, I6 x1), (21, I6 (W6 (x1 - 1))), (22, .int .u8 e12), (23, l5 (some 23) [e12]), (24, l5 (some 24) (v7 ++ [e12]))]) (by kernel_rfl) ?_
  refine WO.fin [0, 3, 7, 8, 9] [] [] [(24, some 10300)] (e2 := z0 [(3, l5 (some 10300) (v7 ++ [e12])), (7, l3 none w6), (8, I6 (w6.length : Int)), (9, I6 (k1 : Int))]) (by kernel_rfl) (fun _ h => h) ?_
  exact hK8 (v7 ++ [e12]) h
def rf4_Rank_j6 (v15 : Int) : Option Int :=
 (some v15)
def rf4_Rank_j11 (N1 : (Int → Option Int)) (v14 : Int) : Option Int :=
 (N1 v14)
def rf4_Rank_l1 (a2 : Int) (K6 : (Int → Option Int)) : List Int → Nat → Int → Option Int
 | [], k1, v10 => (K6 v10)
 | x1 :: r1, k1, v10 => (bif (x1 == a2) then ((rf4_Rank_j11 (rf4_Rank_l1 a2 K6 r1 (k1 + 1))) (IntKind.wrap .i64 (v10 + 1))) else ((rf4_Rank_j11 (rf4_Rank_l1 a2 K6 r1 (k1 + 1))) v10))
def rf4_Rank (fuel : Nat) (a1 : ByteArray) (a2 : Int) (a3 : Int) : Option Int :=
 ((rf4_Transform fuel a1).bind fun w8 => ((ssub w8 0 a3).bind fun e9 => (chk (lenOk (bytesI e9)) (rf4_Rank_l1 a2 (rf4_Rank_j6) (bytesI e9) 0 0))))
theorem run_rf4_Rank (fuel : Nat) (a1 : ByteArray) (a2 : Int) (a3 : Int) (r : Int) (h : rf4_Rank fuel a1 a2 a3 = some r) : Run Try.prog (.call 38 [.str a1, .int .u8 a2, I6 a3] (I6 r)) := by
 refine cW Try.func38 rfl (env0 := [(0, .str a1), (1, .int .u8 a2), (2, I6 a3)]) ?_
 unfold rf4_Rank at h
 refine W.seq ?_
 let z0 := fun t => EN ((0, .str a1) :: (1, .int .u8 a2) :: (2, I6 a3) :: t)
 refine W.rt (e2 := z0 []) ?_
 refine W.seq ?_
 let z1 := fun t => z0 ((7, .int .i64 0) :: t)
 refine W.rt (e2 := z1 []) ?_
 refine W.seq ?_
 refine W.join (σ := (Int)) (fun s => [(7, I6 s)]) (fun s => (rf4_Rank_j6) s = some r) (fun s h => ?_) (fun hK6 => ?_)
 ·obtain ⟨v15, rfl⟩ : ∃ x, x = s := ⟨s, rfl⟩
  have h : (rf4_Rank_j6) v15 = some r := h
  unfold rf4_Rank_j6 at h
  refine W.seq ?_
  refine W.rt (e2 := [(6, I6 v15)]) ?_
  refine W.wk (env' := [(6, I6 v15)]) ?_
  have hr : aresults Try.prog Try.f38 [(6, I6 v15)] = some (I6 v15) := by kernel_rfl
  cases h
  exact W.ret hr
 refine W.seq ?_
 refine W.rg ?_
 obtain ⟨w8, hw8, h⟩ := bind_some h
 let z2 := fun t => z1 ((10, .str a1) :: (11, .str w8) :: t)
 refine WO.ck 1 (F := 58) (l := [.str a1]) (C := []) (r := .str w8) (run_rf4_Transform fuel a1 w8 hw8) (e1 := z2 []) ?_
 obtain ⟨e9, he9, h⟩ := bind_some h
 let z3 := fun t => z2 ((12, I6 a3) :: (13, .str e9) :: t)
 refine WO.pk 1 (if (0 : Int) ≤ 0 ∧ 0 ≤ a3 ∧ a3 ≤ (w8.size : Int) then some (AV.str (w8.extract (Int.toNat 0) (Int.toNat a3))) else none) (v := .str e9) (ssub_av he9) (e1 := z3 []) ?_
 refine WO.pk 0 (some (AV.lst 5 1 none (bytesA e9))) (v := l5 none (bytesI e9)) (congrArg (fun l => some (AV.lst 5 1 none l)) (bytesA_map e9)) (e1 := z3 [(14, l5 none (bytesI e9))]) ?_
 refine WO.pk 0 (some (I6 ((M8 (bytesI e9)).length : Int))) (v := I6 ((bytesI e9).length : Int)) (by rw [List.length_map]) (e1 := z3 [(14, l5 none (bytesI e9)), (15, I6 ((bytesI e9).length : Int))]) ?_
 let z4 := fun t => EN ((1, .int .u8 a2) :: t)
 let z5 := fun t => z4 ((7, .int .i64 0) :: (14, l5 none (bytesI e9)) :: (15, I6 ((bytesI e9).length : Int)) :: t)
 refine WO.fn (e2 := z5 [(16, .int .i64 0)]) ?_
 refine W.block ?_
 obtain ⟨hl1, h⟩ := chk_some h
 refine W.wk (env' := z5 [(16, I6 ((0 : Nat) : Int))]) ?_
 refine W.range (σ := (Int)) (bytesI e9) (fun k1 s => z4 [(7, I6 s), (14, l5 none (bytesI e9)), (15, I6 ((bytesI e9).length : Int)), (16, I6 (k1 : Int))]) (fun r0 k0 s => rf4_Rank_l1 a2 (rf4_Rank_j6) r0 k0 s = some r) (fun s h => ?_) (fun x1 r1 k1 s hx1 hk1 h hN1 => ?_) 0 h
 ·obtain ⟨v10, rfl⟩ : ∃ x, x = s := ⟨s, rfl⟩
  have h : rf4_Rank_l1 a2 (rf4_Rank_j6) [] ((bytesI e9)).length v10 = some r := h
  rw [rf4_Rank_l1.eq_1] at h
  refine W.seq ?_
  refine W.rg ?_
  let z6 := fun t => z4 ((7, I6 v10) :: (14, l5 none (bytesI e9)) :: (15, I6 ((bytesI e9).length : Int)) :: (16, I6 (((bytesI e9)).length : Int)) :: (17, .bool false) :: t)
  refine WO.pk 0 (some (.bool (decide ((((bytesI e9)).length : Int) < ((bytesI e9).length : Int))))) (v := .bool false) (by rw [lt_false (l := (bytesI e9))]) (e1 := z6 []) ?_
  refine WO.fn (e2 := z6 []) ?_
  refine W.seq ?_
  refine W.cb false (fun h => Bool.noConfusion h) (fun _ => ?_)
  refine W.exit ?_
  refine W.wk (env' := [(7, I6 v10)]) ?_
  exact hK6 v10 h
 ·obtain ⟨v10, rfl⟩ : ∃ x, x = s := ⟨s, rfl⟩
  have h : rf4_Rank_l1 a2 (rf4_Rank_j6) (x1 :: r1) k1 v10 = some r := h
  rw [rf4_Rank_l1.eq_2] at h
  refine W.seq ?_
  refine W.rg ?_
  let z7 := fun t => z4 ((7, I6 v10) :: (14, l5 none (bytesI e9)) :: (15, I6 ((bytesI e9).length : Int)) :: (16, I6 (k1 : Int)) :: t)
  refine WO.pk 0 (some (.bool (decide ((k1 : Int) < ((bytesI e9).length : Int))))) (v := .bool true) (by rw [lt_true hk1]) (e1 := z7 [(17, .bool true)]) ?_
  refine WO.fn (e2 := z7 [(17, .bool true)]) ?_
  refine W.seq ?_
  refine W.cb true (fun _ => ?_) (fun h => Bool.noConfusion h)
  refine W.skip ?_
  refine W.wk (env' := z7 []) ?_
  refine W.seq ?_
  refine W.join (σ := (Int)) (fun s => z4 [(7, I6 s), (14, l5 none (bytesI e9)), (15, I6 ((bytesI e9).length : Int)), (16, I6 (k1 : Int))]) (fun s => (rf4_Rank_j11 (rf4_Rank_l1 a2 (rf4_Rank_j6) r1 (k1 + 1))) s = some r) (fun s h => ?_) (fun hK11 => ?_)
  ·obtain ⟨v14, rfl⟩ : ∃ x, x = s := ⟨s, rfl⟩
   have h : (rf4_Rank_j11 (rf4_Rank_l1 a2 (rf4_Rank_j6) r1 (k1 + 1))) v14 = some r := h
   unfold rf4_Rank_j11 at h
   refine W.rg ?_
   let z8 := fun t => z4 ((7, I6 v14) :: (14, l5 none (bytesI e9)) :: (15, I6 ((bytesI e9).length : Int)) :: t)
   refine WO.pk 0 (some (I6 (IntKind.wrap .i64 ((k1 : Int) + 1)))) (v := I6 ((k1 + 1 : Nat) : Int)) (by rw [wrap_succ hl1 hk1]) (e1 := z8 [(16, I6 (k1 : Int)), (25, I6 ((k1 + 1 : Nat) : Int))]) ?_
   refine WO.fn (e2 := z8 [(16, I6 ((k1 + 1 : Nat) : Int))]) ?_
   exact hN1 v14 h
  refine W.block ?_
  refine W.seq ?_
  refine W.rg ?_
  refine WO.pk 0 (if (0 : Int) ≤ (k1 : Int) then ((M8 (bytesI e9))[Int.toNat (k1 : Int)]?).map AV.ptr else none) (v := .ptr (.int .u8 x1)) (idx_nat (f := (AV.int .u8)) hx1) (e1 := z7 [(18, .ptr (.int .u8 x1))]) ?_
  refine WO.fn (e2 := z4 [(7, I6 v10), (9, .int .u8 x1), (14, l5 none (bytesI e9)), (15, I6 ((bytesI e9).length : Int)), (16, I6 (k1 : Int))]) ?_
  refine W.seq ?_
  refine W.rt (e2 := z7 [(22, .bool (x1 == a2))]) ?_
  refine W.cb (x1 == a2) (fun hb => ?_) (fun hb => ?_)
  ·replace h := cond_t hb h
   refine W.rt (e2 := z4 [(7, I6 (W6 (v10 + 1))), (14, l5 none (bytesI e9)), (15, I6 ((bytesI e9).length : Int)), (16, I6 (k1 : Int))]) ?_
   exact hK11 (W6 (v10 + 1)) h
  replace h := cond_f hb h
  refine W.skip ?_
  refine W.wk (env' := z7 []) ?_
  exact hK11 v10 h
def lw4_IndexRanks_j13 (v15 : Bool) : Option Bool :=
 (some v15)
def lw4_IndexRanks_j28 (v29 : Bool) : Option Bool :=
 (some v29)
def lw4_IndexRanks_j38 (v39 : Bool) : Option Bool :=
 (some v39)
def lw4_IndexRanks_j40 (v42 : Bool) : Option Bool :=
 (some v42)
def lw4_IndexRanks_j36 (a3 : Int) (a4 : Int) (w7 : ByteArray) (w19 : (ByteArray × Int)) (v37 : Bool) : Option Bool :=
 (bif v37 then (bif (w19.1.toList == (ByteArray.mk #[]).toList) then ((lw4_IndexRanks_j38) (w19.2 == 2)) else ((lw4_IndexRanks_j38) false)) else ((ssub w7 a3 a4).bind fun e41 => (bif (w19.1.toList == e41.toList) then ((lw4_IndexRanks_j40) (w19.2 == 0)) else ((lw4_IndexRanks_j40) false))))
def lw4_IndexRanks_j31 (a3 : Int) (a4 : Int) (w7 : ByteArray) (w19 : (ByteArray × Int)) (v33 : Bool) : Option Bool :=
 (bif v33 then (some false) else (bif (decide (a3 > a4)) then ((lw4_IndexRanks_j36 a3 a4 w7 w19) true) else ((lw4_IndexRanks_j36 a3 a4 w7 w19) (decide (a4 > (w7.size : Int))))))
def lw4_IndexRanks_j26 (fuel : Nat) (a2 : Int) (a3 : Int) (a4 : Int) (w7 : ByteArray) (w17 : (Int × Int)) (w19 : (ByteArray × Int)) (v27 : Bool) : Option Bool :=
 (bif v27 then (bif (w17.1 == 0) then (bif (w17.2 == 2) then (bif (w19.1.toList == (ByteArray.mk #[]).toList) then ((lw4_IndexRanks_j28) (w19.2 == 2)) else ((lw4_IndexRanks_j28) false)) else ((lw4_IndexRanks_j28) false)) else ((lw4_IndexRanks_j28) false)) else ((rf4_Rank fuel w7 a2 a3).bind fun w32 => (bif (w17.1 != w32) then ((lw4_IndexRanks_j31 a3 a4 w7 w19) true) else ((lw4_IndexRanks_j31 a3 a4 w7 w19) (w17.2 != 0)))))
def lw4_IndexRanks_j21 (fuel : Nat) (a2 : Int) (a3 : Int) (a4 : Int) (w7 : ByteArray) (w17 : (Int × Int)) (w19 : (ByteArray × Int)) (v23 : Bool) : Option Bool :=
 (bif v23 then (some false) else (bif (decide (a3 < 0)) then ((lw4_IndexRanks_j26 fuel a2 a3 a4 w7 w17 w19) true) else ((lw4_IndexRanks_j26 fuel a2 a3 a4 w7 w17 w19) (decide (a3 > (IntKind.wrap .i64 ((w7.size : Int) + 1)))))))
def lw4_IndexRanks (fuel : Nat) (a1 : ByteArray) (a2 : Int) (a3 : Int) (a4 : Int) : Option Bool :=
 ((lw4_few a1).bind fun w7 => ((ix_New fuel w7).bind fun w9 => ((rf4_Label w7).bind fun w12 => (bif (!w12) then (bif w9.1.isNone then (bif (w9.2 == 2) then ((lw4_awake).bind fun w14 => ((lw4_IndexRanks_j13) w14)) else ((lw4_IndexRanks_j13) false)) else ((lw4_IndexRanks_j13) false)) else ((ix_Index_Rank fuel w9.1 a2 a3).bind fun w17 => ((ix_Index_Extract fuel w9.1 a3 a4).bind fun w19 => (bif (w9.2 != 0) then ((lw4_IndexRanks_j21 fuel a2 a3 a4 w7 w17 w19) true) else ((lw4_awake).bind fun w22 => ((lw4_IndexRanks_j21 fuel a2 a3 a4 w7 w17 w19) (!w22))))))))))
theorem run_lw4_IndexRanks (fuel : Nat) (a1 : ByteArray) (a2 : Int) (a3 : Int) (a4 : Int) (r : Bool) (h : lw4_IndexRanks fuel a1 a2 a3 a4 = some r) : Run Try.prog (.call 10 [.str a1, .int .u8 a2, I6 a3, I6 a4] (.bool r)) := by
 refine cW Try.func10 rfl (env0 := [(0, .str a1), (1, .int .u8 a2), (2, I6 a3), (3, I6 a4)]) ?_
 unfold lw4_IndexRanks at h
 refine W.seq ?_
 let z0 := fun t => EN ((0, .str a1) :: (1, .int .u8 a2) :: (2, I6 a3) :: (3, I6 a4) :: t)
 refine W.rt (e2 := z0 []) ?_
 refine W.seq ?_
 refine W.rg ?_
 obtain ⟨w7, hw7, h⟩ := bind_some h
 refine WO.ck 1 (F := 14) (l := [.str a1]) (C := []) (r := .str w7) (run_lw4_few a1 w7 hw7) (e1 := z0 [(15, .str a1), (16, .str w7)]) ?_
 let z1 := fun t => EN ((0, .str w7) :: (1, .int .u8 a2) :: (2, I6 a3) :: (3, I6 a4) :: t)
 refine WO.fn (e2 := z1 []) ?_
 refine W.seq ?_
 refine W.rg ?_
 obtain ⟨w9, hw9, h⟩ := bind_some h
 refine WO.ck 1 (F := 36) (l := [.str w7]) (C := []) (r := .tup [ep e_ixIndex w9.1, I6 w9.2]) (run_ix_New fuel w7 w9 hw9) (e1 := z1 [(18, .str w7), (19, .tup [ep e_ixIndex w9.1, I6 w9.2])]) ?_
 let z2 := fun t => z1 ((9, ep e_ixIndex w9.1) :: (10, I6 w9.2) :: t)
 refine WO.fn (e2 := z2 []) ?_
 refine W.seq ?_
 refine W.seq ?_
 refine W.rg ?_
 obtain ⟨w12, hw12, h⟩ := bind_some h
 refine WO.ck 1 (F := 17) (l := [.str w7]) (C := []) (r := .bool w12) (run_rf4_Label w7 w12 hw12) (e1 := z2 [(22, .str w7), (23, .bool w12)]) ?_
 let z3 := fun t => z2 ((24, .bool (!w12)) :: t)
 refine WO.fn (e2 := z3 []) ?_
 refine W.cb (!w12) (fun hb => ?_) (fun hb => ?_)
 ·replace h := cond_t hb h
  refine W.seq ?_
  refine W.join (σ := (Bool)) (fun s => [(8, .bool s)]) (fun s => (lw4_IndexRanks_j13) s = some r) (fun s h => ?_) (fun hK13 => ?_)
  ·obtain ⟨v15, rfl⟩ : ∃ x, x = s := ⟨s, rfl⟩
   have h : (lw4_IndexRanks_j13) v15 = some r := h
   unfold lw4_IndexRanks_j13 at h
   refine W.wk (env' := [(8, .bool v15)]) ?_
   have hr : aresults Try.prog Try.f10 [(8, .bool v15)] = some (.bool v15) := by kernel_rfl
   cases h
   exact W.ret hr
  refine W.rg ?_
  let z4 := fun t => z3 ((25, ep e_ixIndex w9.1) :: t)
  refine WO.bk 3 (fun b => z4 [(26, .bool b), (27, .bool b)]) w9.1.isNone (fun hb => ?_) (fun hb => ?_)
  ·replace h := cond_t hb h
   let z5 := fun t => z4 ((26, .bool true) :: (27, .bool true) :: (28, I6 w9.2) :: t)
   refine WO.bk 4 (fun b => z5 [(29, .bool b), (30, .bool b), (31, .bool b)]) (w9.2 == 2) (fun hb => ?_) (fun hb => ?_)
   ·replace h := cond_t hb h
    obtain ⟨w14, hw14, h⟩ := bind_some h
    refine WO.ck 0 (F := 18) (l := []) (C := []) (r := .bool w14) (run_lw4_awake w14 hw14) (e1 := z5 [(29, .bool true), (30, .bool true), (31, .bool true), (32, .bool w14)]) ?_
    refine WO.fn (e2 := [(8, .bool w14)]) ?_
    exact hK13 w14 h
   replace h := cond_f hb h
   refine WO.fn (e2 := [(8, .bool false)]) ?_
   exact hK13 false h
  replace h := cond_f hb h
  refine WO.fn (e2 := [(8, .bool false)]) ?_
  exact hK13 false h
 replace h := cond_f hb h
 refine W.skip ?_
 refine W.wk (env' := z2 []) ?_
 refine W.seq ?_
 refine W.rg ?_
 obtain ⟨w17, hw17, h⟩ := bind_some h
 refine WO.ck 3 (F := 34) (l := [ep e_ixIndex w9.1, .int .u8 a2, I6 a3]) (C := []) (r := .tup [I6 w17.1, I6 w17.2]) (run_ix_Index_Rank fuel w9.1 a2 a3 w17 hw17) (e1 := z2 [(35, ep e_ixIndex w9.1), (36, .int .u8 a2), (37, I6 a3), (38, .tup [I6 w17.1, I6 w17.2])]) ?_
 refine WO.fn (e2 := z2 [(11, I6 w17.1), (12, I6 w17.2)]) ?_
 refine W.seq ?_
 refine W.rg ?_
 obtain ⟨w19, hw19, h⟩ := bind_some h
 refine WO.ck 3 (F := 35) (l := [ep e_ixIndex w9.1, I6 a3, I6 a4]) (C := []) (r := .tup [.str w19.1, I6 w19.2]) (run_ix_Index_Extract fuel w9.1 a3 a4 w19 hw19) (e1 := z2 [(11, I6 w17.1), (12, I6 w17.2), (42, ep e_ixIndex w9.1), (43, I6 a3), (44, I6 a4), (45, .tup [.str w19.1, I6 w19.2])]) ?_
 let z6 := fun t => z1 ((10, I6 w9.2) :: (11, I6 w17.1) :: (12, I6 w17.2) :: (13, .str w19.1) :: (14, I6 w19.2) :: t)
 refine WO.fn (e2 := z6 []) ?_
 refine W.seq ?_
 refine W.seq ?_
 let z7 := fun t => z1 ((11, I6 w17.1) :: (12, I6 w17.2) :: (13, .str w19.1) :: (14, I6 w19.2) :: t)
 refine W.join (σ := (Bool)) (fun s => z7 [(53, .bool s)]) (fun s => (lw4_IndexRanks_j21 fuel a2 a3 a4 w7 w17 w19) s = some r) (fun s h => ?_) (fun hK21 => ?_)
 ·obtain ⟨v23, rfl⟩ : ∃ x, x = s := ⟨s, rfl⟩
  have h : (lw4_IndexRanks_j21 fuel a2 a3 a4 w7 w17 w19) v23 = some r := h
  unfold lw4_IndexRanks_j21 at h
  refine W.cb v23 (fun hb => ?_) (fun hb => ?_)
  ·replace h := cond_t hb h
   refine W.seq ?_
   refine W.rt (e2 := [(8, .bool false)]) ?_
   refine W.wk (env' := [(8, .bool false)]) ?_
   have hr : aresults Try.prog Try.f10 [(8, .bool false)] = some (.bool false) := by kernel_rfl
   cases h
   exact W.ret hr
  replace h := cond_f hb h
  refine W.skip ?_
  refine W.wk (env' := z7 []) ?_
  refine W.seq ?_
  refine W.seq ?_
  refine W.join (σ := (Bool)) (fun s => z7 [(62, .bool s)]) (fun s => (lw4_IndexRanks_j26 fuel a2 a3 a4 w7 w17 w19) s = some r) (fun s h => ?_) (fun hK26 => ?_)
  ·obtain ⟨v27, rfl⟩ : ∃ x, x = s := ⟨s, rfl⟩
   have h : (lw4_IndexRanks_j26 fuel a2 a3 a4 w7 w17 w19) v27 = some r := h
   unfold lw4_IndexRanks_j26 at h
   refine W.cb v27 (fun hb => ?_) (fun hb => ?_)
   ·replace h := cond_t hb h
    refine W.seq ?_
    refine W.join (σ := (Bool)) (fun s => [(8, .bool s)]) (fun s => (lw4_IndexRanks_j28) s = some r) (fun s h => ?_) (fun hK28 => ?_)
    ·obtain ⟨v29, rfl⟩ : ∃ x, x = s := ⟨s, rfl⟩
     have h : (lw4_IndexRanks_j28) v29 = some r := h
     unfold lw4_IndexRanks_j28 at h
     refine W.wk (env' := [(8, .bool v29)]) ?_
     have hr : aresults Try.prog Try.f10 [(8, .bool v29)] = some (.bool v29) := by kernel_rfl
     cases h
     exact W.ret hr
    refine W.rg ?_
    let z8 := fun t => z7 ((62, .bool v27) :: (63, I6 w17.1) :: t)
    refine WO.bk 3 (fun b => z8 [(64, .bool b), (65, .bool b)]) (w17.1 == 0) (fun hb => ?_) (fun hb => ?_)
    ·replace h := cond_t hb h
     let z9 := fun t => z8 ((64, .bool true) :: (65, .bool true) :: (66, I6 w17.2) :: t)
     refine WO.bk 4 (fun b => z9 [(67, .bool b), (68, .bool b), (69, .bool b)]) (w17.2 == 2) (fun hb => ?_) (fun hb => ?_)
     ·replace h := cond_t hb h
      refine WO.bk 4 (fun b => z9 [(67, .bool true), (68, .bool true), (69, .bool true), (70, .str w19.1), (71, .bool b), (72, .bool b), (73, .bool b)]) (w19.1.toList == (ByteArray.mk #[]).toList) (fun hb => ?_) (fun hb => ?_)
      ·replace h := cond_t hb h
       refine WO.fn (e2 := [(8, .bool (w19.2 == 2))]) ?_
       exact hK28 (w19.2 == 2) h
      replace h := cond_f hb h
      refine WO.fn (e2 := [(8, .bool false)]) ?_
      exact hK28 false h
     replace h := cond_f hb h
     refine WO.fn (e2 := [(8, .bool false)]) ?_
     exact hK28 false h
    replace h := cond_f hb h
    refine WO.fn (e2 := [(8, .bool false)]) ?_
    exact hK28 false h
   replace h := cond_f hb h
   refine W.skip ?_
   refine W.wk (env' := z7 []) ?_
   refine W.seq ?_
   refine W.seq ?_
   let z10 := fun t => EN ((0, .str w7) :: (2, I6 a3) :: (3, I6 a4) :: (13, .str w19.1) :: (14, I6 w19.2) :: t)
   refine W.join (σ := (Bool)) (fun s => z10 [(86, .bool s)]) (fun s => (lw4_IndexRanks_j31 a3 a4 w7 w19) s = some r) (fun s h => ?_) (fun hK31 => ?_)
   ·obtain ⟨v33, rfl⟩ : ∃ x, x = s := ⟨s, rfl⟩
    have h : (lw4_IndexRanks_j31 a3 a4 w7 w19) v33 = some r := h
    unfold lw4_IndexRanks_j31 at h
    refine W.cb v33 (fun hb => ?_) (fun hb => ?_)
    ·replace h := cond_t hb h
     refine W.seq ?_
     refine W.rt (e2 := [(8, .bool false)]) ?_
     refine W.wk (env' := [(8, .bool false)]) ?_
     have hr : aresults Try.prog Try.f10 [(8, .bool false)] = some (.bool false) := by kernel_rfl
     cases h
     exact W.ret hr
    replace h := cond_f hb h
    refine W.skip ?_
    refine W.wk (env' := z10 []) ?_
    refine W.seq ?_
    refine W.seq ?_
    refine W.join (σ := (Bool)) (fun s => z10 [(95, .bool s)]) (fun s => (lw4_IndexRanks_j36 a3 a4 w7 w19) s = some r) (fun s h => ?_) (fun hK36 => ?_)
    ·obtain ⟨v37, rfl⟩ : ∃ x, x = s := ⟨s, rfl⟩
     have h : (lw4_IndexRanks_j36 a3 a4 w7 w19) v37 = some r := h
     unfold lw4_IndexRanks_j36 at h
     refine W.cb v37 (fun hb => ?_) (fun hb => ?_)
     ·replace h := cond_t hb h
      refine W.seq ?_
      refine W.join (σ := (Bool)) (fun s => [(8, .bool s)]) (fun s => (lw4_IndexRanks_j38) s = some r) (fun s h => ?_) (fun hK38 => ?_)
      ·obtain ⟨v39, rfl⟩ : ∃ x, x = s := ⟨s, rfl⟩
       have h : (lw4_IndexRanks_j38) v39 = some r := h
       unfold lw4_IndexRanks_j38 at h
       refine W.wk (env' := [(8, .bool v39)]) ?_
       have hr : aresults Try.prog Try.f10 [(8, .bool v39)] = some (.bool v39) := by kernel_rfl
       cases h
       exact W.ret hr
      refine W.rg ?_
      refine WO.bk 3 (fun b => z10 [(95, .bool v37), (96, .str w19.1), (97, .bool b), (98, .bool b)]) (w19.1.toList == (ByteArray.mk #[]).toList) (fun hb => ?_) (fun hb => ?_)
      ·replace h := cond_t hb h
       refine WO.fn (e2 := [(8, .bool (w19.2 == 2))]) ?_
       exact hK38 (w19.2 == 2) h
      replace h := cond_f hb h
      refine WO.fn (e2 := [(8, .bool false)]) ?_
      exact hK38 false h
     replace h := cond_f hb h
     refine W.skip ?_
     refine W.wk (env' := z10 []) ?_
     refine W.seq ?_
     refine W.join (σ := (Bool)) (fun s => [(8, .bool s)]) (fun s => (lw4_IndexRanks_j40) s = some r) (fun s h => ?_) (fun hK40 => ?_)
     ·obtain ⟨v42, rfl⟩ : ∃ x, x = s := ⟨s, rfl⟩
      have h : (lw4_IndexRanks_j40) v42 = some r := h
      unfold lw4_IndexRanks_j40 at h
      refine W.wk (env' := [(8, .bool v42)]) ?_
      have hr : aresults Try.prog Try.f10 [(8, .bool v42)] = some (.bool v42) := by kernel_rfl
      cases h
      exact W.ret hr
     refine W.rg ?_
     obtain ⟨e41, he41, h⟩ := bind_some h
     let z11 := fun t => z10 ((102, .str w19.1) :: (103, .str w7) :: (104, I6 a3) :: (105, I6 a4) :: (106, .str e41) :: t)
     refine WO.pk 4 (if (0 : Int) ≤ a3 ∧ a3 ≤ a4 ∧ a4 ≤ (w7.size : Int) then some (AV.str (w7.extract (Int.toNat a3) (Int.toNat a4))) else none) (v := .str e41) (ssub_av he41) (e1 := z11 []) ?_
     refine WO.bk 2 (fun b => z11 [(107, .bool b), (108, .bool b)]) (w19.1.toList == e41.toList) (fun hb => ?_) (fun hb => ?_)
     ·replace h := cond_t hb h
      refine WO.fn (e2 := [(8, .bool (w19.2 == 0))]) ?_
      exact hK40 (w19.2 == 0) h
     replace h := cond_f hb h
     refine WO.fn (e2 := [(8, .bool false)]) ?_
     exact hK40 false h
    refine W.rg ?_
    refine WO.bk 4 (fun b => z10 [(87, I6 a3), (88, I6 a4), (89, .bool b), (90, .bool b)]) (decide (a3 > a4)) (fun hb => ?_) (fun hb => ?_)
    ·replace h := cond_t hb h
     refine WO.fn (e2 := z10 [(95, .bool true)]) ?_
     exact hK36 true h
    replace h := cond_f hb h
    refine WO.fn (e2 := z10 [(95, .bool (decide (a4 > (w7.size : Int))))]) ?_
    exact hK36 (decide (a4 > (w7.size : Int))) h
   refine W.rg ?_
   obtain ⟨w32, hw32, h⟩ := bind_some h
   let z12 := fun t => z7 ((77, I6 w17.1) :: (78, .str w7) :: (79, .int .u8 a2) :: (80, I6 a3) :: (81, I6 w32) :: t)
   refine WO.ck 4 (F := 38) (l := [.str w7, .int .u8 a2, I6 a3]) (C := []) (r := I6 w32) (run_rf4_Rank fuel w7 a2 a3 w32 hw32) (e1 := z12 []) ?_
   refine WO.bk 2 (fun b => z12 [(82, .bool b), (83, .bool b)]) (w17.1 != w32) (fun hb => ?_) (fun hb => ?_)
   ·replace h := cond_t hb h
    refine WO.fn (e2 := z10 [(86, .bool true)]) ?_
    exact hK31 true h
   replace h := cond_f hb h
   refine WO.fn (e2 := z10 [(86, .bool (w17.2 != 0))]) ?_
   exact hK31 (w17.2 != 0) h
  refine W.rg ?_
  refine WO.bk 3 (fun b => z7 [(54, I6 a3), (55, .bool b), (56, .bool b)]) (decide (a3 < 0)) (fun hb => ?_) (fun hb => ?_)
  ·replace h := cond_t hb h
   refine WO.fn (e2 := z7 [(62, .bool true)]) ?_
   exact hK26 true h
  replace h := cond_f hb h
  refine WO.fn (e2 := z7 [(62, .bool (decide (a3 > (W6 ((w7.size : Int) + 1)))))]) ?_
  exact hK26 (decide (a3 > (W6 ((w7.size : Int) + 1)))) h
 refine W.rg ?_
 refine WO.bk 3 (fun b => z6 [(48, I6 w9.2), (49, .bool b), (50, .bool b)]) (w9.2 != 0) (fun hb => ?_) (fun hb => ?_)
 ·replace h := cond_t hb h
  refine WO.fn (e2 := z7 [(53, .bool true)]) ?_
  exact hK21 true h
 replace h := cond_f hb h
 obtain ⟨w22, hw22, h⟩ := bind_some h
 refine WO.ck 0 (F := 18) (l := []) (C := []) (r := .bool w22) (run_lw4_awake w22 hw22) (e1 := z6 [(48, I6 w9.2), (49, .bool false), (50, .bool false), (51, .bool w22)]) ?_
 refine WO.fn (e2 := z7 [(53, .bool (!w22))]) ?_
 exact hK21 (!w22) h
end Go.AM
