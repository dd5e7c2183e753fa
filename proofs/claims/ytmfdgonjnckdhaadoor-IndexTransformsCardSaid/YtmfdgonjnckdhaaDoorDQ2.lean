/- s -/
import Derived.Test.YtmfdgonjnckdhaaDoorDQ1
set_option maxRecDepth 100000
set_option linter.unusedVariables false
set_option linter.unusedSimpArgs false
namespace Go.AM
open Go.Proofs
def rf4_Sort_j4 (v24 : (List Int)) : Option (List Int) :=
 (some v24)
def rf4_Sort_j10 (k1 : Nat) (v6 : (List Int)) (N1 : ((List Int) → Option (List Int))) (v18 : Int) : Option (List Int) :=
 ((sub v6 0 v18).bind fun e19 => (chk (capOk 8 ((([] : (List Int)) ++ e19)).length) (chk (capOk 8 (((([] : (List Int)) ++ e19) ++ [(k1 : Int)])).length) ((sub v6 v18 (v6.length : Int)).bind fun e22 => (chk (capOk 8 ((((([] : (List Int)) ++ e19) ++ [(k1 : Int)]) ++ e22)).length) (N1 (((([] : (List Int)) ++ e19) ++ [(k1 : Int)]) ++ e22)))))))
def rf4_Sort_j13 (v11 : Int) (N2 : (Int → Option (List Int))) (K10 : (Int → Option (List Int))) (v17 : Bool) : Option (List Int) :=
 (bif v17 then (N2 (IntKind.wrap .i64 (v11 + 1))) else (K10 v11))
def rf4_Sort_l2 (a1 : ByteArray) (k1 : Nat) (v6 : (List Int)) (K10 : (Int → Option (List Int))) : Nat → Int → Option (List Int)
 | 0, _ => none
 | m2 + 1, v11 => (bif (decide (v11 < (v6.length : Int))) then ((idx v6 v11).bind fun e14 => ((ssub a1 e14 (a1.size : Int)).bind fun e15 => ((ssub a1 (k1 : Int) (a1.size : Int)).bind fun e16 => ((rf4_Sort_j13 v11 (rf4_Sort_l2 a1 k1 v6 K10 m2) K10) (Op.bytesLess e15.toList e16.toList))))) else ((rf4_Sort_j13 v11 (rf4_Sort_l2 a1 k1 v6 K10 m2) K10) false))
def rf4_Sort_l1 (fuel : Nat) (a1 : ByteArray) (K4 : ((List Int) → Option (List Int))) : List Nat → Nat → (List Int) → Option (List Int)
 | [], k1, v6 => (K4 v6)
 | x1 :: r1, k1, v6 => (rf4_Sort_l2 a1 k1 v6 (rf4_Sort_j10 k1 v6 (rf4_Sort_l1 fuel a1 K4 r1 (k1 + 1))) fuel 0)
def rf4_Sort (fuel : Nat) (a1 : ByteArray) : Option (List Int) :=
 (chk (lenOk (List.range (Int.toNat (IntKind.wrap .i64 ((a1.size : Int) + 1))))) (rf4_Sort_l1 fuel a1 (rf4_Sort_j4) (List.range (Int.toNat (IntKind.wrap .i64 ((a1.size : Int) + 1)))) 0 ([] : (List Int))))
theorem run_rf4_Sort (fuel : Nat) (a1 : ByteArray) (r : (List Int)) (h : rf4_Sort fuel a1 = some r) : Run Tryd.prog (.call 29 [.str a1] (l3 none r)) := by
 refine cW Tryd.func29 rfl (env0 := [(0, .str a1)]) ?_
 unfold rf4_Sort at h
 refine W.seq ?_
 let z0 := fun t => EN ((0, .str a1) :: t)
 refine W.rt (e2 := z0 []) ?_
 refine W.seq ?_
 refine W.rt (e2 := z0 [(3, .nils)]) ?_
 refine W.seq ?_
 refine W.join (σ := ((List Int))) (fun s => [(3, l3 none s)]) (fun s => (rf4_Sort_j4) s = some r) (fun s h => ?_) (fun hK4 => ?_)
 ·obtain ⟨v24, rfl⟩ : ∃ x, x = s := ⟨s, rfl⟩
  have h : (rf4_Sort_j4) v24 = some r := h
  unfold rf4_Sort_j4 at h
  refine W.seq ?_
  refine W.rt (e2 := [(2, l3 none v24)]) ?_
  refine W.wk (env' := [(2, l3 none v24)]) ?_
  have hr : aresults Tryd.prog Tryd.f29 [(2, l3 none v24)] = some (l3 none v24) := by kernel_rfl
  cases h
  exact W.ret hr
 refine W.seq ?_
 refine W.rt (e2 := z0 [(3, .nils), (8, I6 (W6 ((a1.size : Int) + 1))), (9, .int .i64 0)]) ?_
 refine W.block ?_
 obtain ⟨hl1, h⟩ := chk_some h
 refine W.weak [0, 3, 8, 9] [] [(3, 0, 3, 1, 60000)] [(60000, none)] (env' := z0 [(3, l3 none ([] : (List Int))), (8, I6 (W6 ((a1.size : Int) + 1))), (9, I6 ((0 : Nat) : Int))]) (by kernel_rfl) ?_
 refine W.range (σ := ((List Int))) (List.range (Int.toNat (W6 ((a1.size : Int) + 1)))) (fun k1 s => z0 [(3, l3 none s), (8, I6 (W6 ((a1.size : Int) + 1))), (9, I6 (k1 : Int))]) (fun r0 k0 s => rf4_Sort_l1 fuel a1 (rf4_Sort_j4) r0 k0 s = some r) (fun s h => ?_) (fun x1 r1 k1 s hx1 hk1 h hN1 => ?_) ([] : (List Int)) h
 ·obtain ⟨v6, rfl⟩ : ∃ x, x = s := ⟨s, rfl⟩
  have h : rf4_Sort_l1 fuel a1 (rf4_Sort_j4) [] ((List.range (Int.toNat (W6 ((a1.size : Int) + 1))))).length v6 = some r := h
  rw [rf4_Sort_l1.eq_1] at h
  refine W.seq ?_
  refine W.rg ?_
  let z1 := fun t => z0 ((3, l3 none v6) :: (8, I6 (W6 ((a1.size : Int) + 1))) :: (9, I6 (((List.range (Int.toNat (W6 ((a1.size : Int) + 1))))).length : Int)) :: (10, .bool false) :: t)
  refine WO.pk 0 (some (.bool (decide ((((List.range (Int.toNat (W6 ((a1.size : Int) + 1))))).length : Int) < (W6 ((a1.size : Int) + 1)))))) (v := .bool false) (by rw [ltr_false (n := (W6 ((a1.size : Int) + 1)))]) (e1 := z1 []) ?_
  refine WO.fn (e2 := z1 []) ?_
  refine W.seq ?_
  refine W.cb false (fun h => Bool.noConfusion h) (fun _ => ?_)
  refine W.exit ?_
  refine W.wk (env' := [(3, l3 none v6)]) ?_
  exact hK4 v6 h
 ·obtain ⟨v6, rfl⟩ : ∃ x, x = s := ⟨s, rfl⟩
  have h : rf4_Sort_l1 fuel a1 (rf4_Sort_j4) (x1 :: r1) k1 v6 = some r := h
  rw [rf4_Sort_l1.eq_2] at h
  refine W.seq ?_
  refine W.rg ?_
  let z2 := fun t => z0 ((3, l3 none v6) :: t)
  let z3 := fun t => z2 ((8, I6 (W6 ((a1.size : Int) + 1))) :: (9, I6 (k1 : Int)) :: t)
  refine WO.pk 0 (some (.bool (decide ((k1 : Int) < (W6 ((a1.size : Int) + 1)))))) (v := .bool true) (by rw [ltr_true hk1]) (e1 := z3 [(10, .bool true)]) ?_
  refine WO.fn (e2 := z3 [(10, .bool true)]) ?_
  refine W.seq ?_
  refine W.cb true (fun _ => ?_) (fun h => Bool.noConfusion h)
  refine W.skip ?_
  refine W.wk (env' := z3 []) ?_
  refine W.seq ?_
  refine W.block ?_
  refine W.seq ?_
  let z4 := fun t => z2 ((4, I6 (k1 : Int)) :: t)
  refine W.rt (e2 := z4 [(8, I6 (W6 ((a1.size : Int) + 1))), (9, I6 (k1 : Int))]) ?_
  refine W.seq ?_
  let z5 := fun t => z4 ((5, .int .i64 0) :: (8, I6 (W6 ((a1.size : Int) + 1))) :: (9, I6 (k1 : Int)) :: t)
  refine W.rt (e2 := z5 []) ?_
  refine W.seq ?_
  refine W.join (σ := (Int)) (fun s => z4 [(5, I6 s), (8, I6 (W6 ((a1.size : Int) + 1))), (9, I6 (k1 : Int))]) (fun s => (rf4_Sort_j10 k1 v6 (rf4_Sort_l1 fuel a1 (rf4_Sort_j4) r1 (k1 + 1))) s = some r) (fun s h => ?_) (fun hK10 => ?_)
  ·obtain ⟨v18, rfl⟩ : ∃ x, x = s := ⟨s, rfl⟩
   have h : (rf4_Sort_j10 k1 v6 (rf4_Sort_l1 fuel a1 (rf4_Sort_j4) r1 (k1 + 1))) v18 = some r := h
   unfold rf4_Sort_j10 at h
   refine W.regionB (by kernel_rfl) ?_
   obtain ⟨e19, he19, h⟩ := bind_some h
   let z6 := fun t => z4 ((5, I6 v18) :: (8, I6 (W6 ((a1.size : Int) + 1))) :: (9, I6 (k1 : Int)) :: t)
   refine WB.pureK 3 (if (0 : Int) ≤ 0 ∧ 0 ≤ v18 ∧ v18 ≤ ((M6 v6).length : Int) then some (.lst 3 1 none (((M6 v6).take (Int.toNat v18)).drop (Int.toNat 0))) else none) (v := l3 none e19) (by kernel_rfl) (sub_av he19) (e1 := z6 [(30, l3 (some 30) ([] : (List Int))), (31, l3 none v6), (32, I6 v18), (33, l3 none e19)]) (by kernel_rfl) ?_
   obtain ⟨hc20, h⟩ := chk_some h
   let z7 := fun t => z6 ((30, l3 none ([] : (List Int))) :: (31, l3 none v6) :: (32, I6 v18) :: (33, l3 none e19) :: t)
   refine WB.appendK 0 (by kernel_rfl) (d := 34) (e := 3) (s := 1) (bytes := 8) (xs := (M6 ([] : (List Int)))) (ys := (M6 e19)) (zs := (M6 (([] : (List Int)) ++ e19))) (env1 := [(0, .str a1), (3, l3 none v6), (4, I6 (k1 : Int)), (5, I6 v18), (8, I6 (W6 ((a1.size : Int) + 1))), (9, I6 (k1 : Int)), (30, l3 none ([] : (List Int))), (31, l3 none v6), (32, I6 v18), (33, l3 none e19)]) (by kernel_rfl) (List.map_append.symm) (by rw [List.length_map]; exact hc20) (e1 := z7 [(34, l3 (some 34) (([] : (List Int)) ++ e19))]) (by kernel_rfl) ?_
   obtain ⟨hc21, h⟩ := chk_some h
   let z8 := fun t => z7 ((34, l3 none (([] : (List Int)) ++ e19)) :: (35, I6 (k1 : Int)) :: (36, l3 (some 36) [(k1 : Int)]) :: t)
   let z9 := fun t => z8 ((37, l3 (some 37) ((([] : (List Int)) ++ e19) ++ [(k1 : Int)])) :: t)
   refine WB.appendK 2 (by kernel_rfl) (d := 37) (e := 3) (s := 1) (bytes := 8) (xs := (M6 (([] : (List Int)) ++ e19))) (ys := (M6 [(k1 : Int)])) (zs := (M6 ((([] : (List Int)) ++ e19) ++ [(k1 : Int)]))) (env1 := [(0, .str a1), (3, l3 none v6), (4, I6 (k1 : Int)), (5, I6 v18), (8, I6 (W6 ((a1.size : Int) + 1))), (9, I6 (k1 : Int)), (30, l3 none ([] : (List Int))), (31, l3 none v6), (32, I6 v18), (33, l3 none e19), (34, l3 none (([] : (List Int)) ++ e19)), (35, I6 (k1 : Int)), (36, l3 (some 36) [(k1 : Int)])]) (by kernel_rfl) (List.map_append.symm) (by rw [List.length_map]; exact hc21) (e1 := z9 []) (by kernel_rfl) ?_
   obtain ⟨e22, he22, h⟩ := bind_some h
   refine WB.pureK 2 (if (0 : Int) ≤ v18 ∧ v18 ≤ ((M6 v6).length : Int) ∧ ((M6 v6).length : Int) ≤ ((M6 v6).length : Int) then some (.lst 3 1 none (((M6 v6).take (Int.toNat ((M6 v6).length : Int))).drop (Int.toNat v18))) else none) (v := l3 none e22) (by kernel_rfl) (sub_av_len he22) (e1 := z9 [(38, l3 none v6), (39, I6 v18), (40, l3 none e22)]) (by kernel_rfl) ?_
   obtain ⟨hc23, h⟩ := chk_some h
   refine WB.appendK 0 (by kernel_rfl) (d := 41) (e := 3) (s := 1) (bytes := 8) (xs := (M6 ((([] : (List Int)) ++ e19) ++ [(k1 : Int)]))) (ys := (M6 e22)) (zs := (M6 (((([] : (List Int)) ++ e19) ++ [(k1 : Int)]) ++ e22))) (env1 := [(0, .str a1), (3, l3 none v6), (4, I6 (k1 : Int)), (5, I6 v18), (8, I6 (W6 ((a1.size : Int) + 1))), (9, I6 (k1 : Int)), (30, l3 none ([] : (List Int))), (31, l3 none v6), (32, I6 v18), (33, l3 none e19), (34, l3 none (([] : (List Int)) ++ e19)), (35, I6 (k1 : Int)), (36, l3 (some 36) [(k1 : Int)]), (37, l3 none ((([] : (List Int)) ++ e19) ++ [(k1 : Int)])), (38, l3 none v6), (39, I6 v18), (40, l3 none e22)]) (by kernel_rfl) (List.map_append.symm) (by rw [List.length_map]; exact hc23) (e1 := z8 [(37, l3 none ((([] : (List Int)) ++ e19) ++ [(k1 : Int)])), (38, l3 none v6), (39, I6 v18), (40, l3 none e22), (41, l3 (some 41) (((([] : (List Int)) ++ e19) ++ [(k1 : Int)]) ++ e22))]) (by kernel_rfl) ?_
   let z10 := fun t => z0 ((3, l3 none (((([] : (List Int)) ++ e19) ++ [(k1 : Int)]) ++ e22)) :: t)
   refine WB.fin [0, 3, 8, 9] [] [] [] (e2 := z10 [(8, I6 (W6 ((a1.size : Int) + 1))), (9, I6 (k1 : Int))]) (by kernel_rfl) (fun _ h => h) ?_
   refine W.rg ?_
   refine WO.pk 0 (some (I6 (IntKind.wrap .i64 ((k1 : Int) + 1)))) (v := I6 ((k1 + 1 : Nat) : Int)) (by rw [wrap_succ hl1 hk1]) (e1 := z10 [(8, I6 (IntKind.wrap .i64 ((a1.size : Int) + 1))), (9, I6 (k1 : Int)), (42, I6 ((k1 + 1 : Nat) : Int))]) ?_
   refine WO.fn (e2 := z10 [(8, I6 (W6 ((a1.size : Int) + 1))), (9, I6 ((k1 + 1 : Nat) : Int))]) ?_
   exact hN1 (((([] : (List Int)) ++ e19) ++ [(k1 : Int)]) ++ e22) h
  refine W.block ?_
  refine W.wk (env' := z5 []) ?_
  refine W.fuel (σ := (Int)) (fun s => z4 [(5, I6 s), (8, I6 (W6 ((a1.size : Int) + 1))), (9, I6 (k1 : Int))]) (fun m0 s => rf4_Sort_l2 a1 k1 v6 (rf4_Sort_j10 k1 v6 (rf4_Sort_l1 fuel a1 (rf4_Sort_j4) r1 (k1 + 1))) m0 s = some r) (fun s h => ?_) (fun m2 s h hN2 => ?_) fuel 0 h
  ·obtain ⟨v11, rfl⟩ : ∃ x, x = s := ⟨s, rfl⟩
   have h : rf4_Sort_l2 a1 k1 v6 (rf4_Sort_j10 k1 v6 (rf4_Sort_l1 fuel a1 (rf4_Sort_j4) r1 (k1 + 1))) 0 v11 = some r := h
   rw [rf4_Sort_l2.eq_1] at h
   cases h
  ·obtain ⟨v11, rfl⟩ : ∃ x, x = s := ⟨s, rfl⟩
   have h : rf4_Sort_l2 a1 k1 v6 (rf4_Sort_j10 k1 v6 (rf4_Sort_l1 fuel a1 (rf4_Sort_j4) r1 (k1 + 1))) (m2 + 1) v11 = some r := h
   rw [rf4_Sort_l2.eq_2] at h
   refine W.seq ?_
   refine W.seq ?_
   let z11 := fun t => z4 ((5, I6 v11) :: (8, I6 (W6 ((a1.size : Int) + 1))) :: (9, I6 (k1 : Int)) :: t)
   refine W.join (σ := (Bool)) (fun s => z11 [(27, .bool s)]) (fun s => (rf4_Sort_j13 v11 (rf4_Sort_l2 a1 k1 v6 (rf4_Sort_j10 k1 v6 (rf4_Sort_l1 fuel a1 (rf4_Sort_j4) r1 (k1 + 1))) m2) (rf4_Sort_j10 k1 v6 (rf4_Sort_l1 fuel a1 (rf4_Sort_j4) r1 (k1 + 1)))) s = some r) (fun s h => ?_) (fun hK13 => ?_)
   ·obtain ⟨v17, rfl⟩ : ∃ x, x = s := ⟨s, rfl⟩
    have h : (rf4_Sort_j13 v11 (rf4_Sort_l2 a1 k1 v6 (rf4_Sort_j10 k1 v6 (rf4_Sort_l1 fuel a1 (rf4_Sort_j4) r1 (k1 + 1))) m2) (rf4_Sort_j10 k1 v6 (rf4_Sort_l1 fuel a1 (rf4_Sort_j4) r1 (k1 + 1)))) v17 = some r := h
    unfold rf4_Sort_j13 at h
    refine W.cb v17 (fun hb => ?_) (fun hb => ?_)
    ·replace h := cond_t hb h
     refine W.skip ?_
     refine W.wk (env' := z11 []) ?_
     refine W.block ?_
     refine W.rt (e2 := z4 [(5, I6 (W6 (v11 + 1))), (8, I6 (W6 ((a1.size : Int) + 1))), (9, I6 (k1 : Int))]) ?_
     exact hN2 (W6 (v11 + 1)) h
    replace h := cond_f hb h
    refine W.exit ?_
    refine W.wk (env' := z11 []) ?_
    exact hK10 v11 h
   refine W.rg ?_
   let z12 := fun t => z11 ((12, I6 v11) :: (13, l3 none v6) :: (14, I6 (v6.length : Int)) :: t)
   refine WO.pk 2 (some (I6 ((M6 v6).length : Int))) (v := I6 (v6.length : Int)) (by rw [List.length_map]) (e1 := z12 []) ?_
   refine WO.bk 2 (fun b => z12 [(15, .bool b), (16, .bool b)]) (decide (v11 < (v6.length : Int))) (fun hb => ?_) (fun hb => ?_)
   ·replace h := cond_t hb h
    obtain ⟨e14, he14, h⟩ := bind_some h
    let z13 := fun t => z12 ((15, .bool true) :: (16, .bool true) :: (17, .str a1) :: (18, l3 none v6) :: (19, I6 v11) :: (20, .ptr (I6 e14)) :: t)
    refine WO.pk 3 (if (0 : Int) ≤ v11 then ((M6 v6)[Int.toNat v11]?).map AV.ptr else none) (v := .ptr (I6 e14)) (idx_av (f := (AV.int .i64)) he14) (e1 := z13 []) ?_
    obtain ⟨e15, he15, h⟩ := bind_some h
    refine WO.pk 1 (if (0 : Int) ≤ e14 ∧ e14 ≤ (a1.size : Int) ∧ (a1.size : Int) ≤ (a1.size : Int) then some (AV.str (a1.extract (Int.toNat e14) (Int.toNat (a1.size : Int)))) else none) (v := .str e15) (ssub_av he15) (e1 := z13 [(21, I6 e14), (22, .str e15)]) ?_
    obtain ⟨e16, he16, h⟩ := bind_some h
    refine WO.pk 2 (if (0 : Int) ≤ (k1 : Int) ∧ (k1 : Int) ≤ (a1.size : Int) ∧ (a1.size : Int) ≤ (a1.size : Int) then some (AV.str (a1.extract (Int.toNat (k1 : Int)) (Int.toNat (a1.size : Int)))) else none) (v := .str e16) (ssub_av he16) (e1 := z13 [(21, I6 e14), (22, .str e15), (23, .str a1), (24, I6 (k1 : Int)), (25, .str e16)]) ?_
    refine WO.fn (e2 := z11 [(27, .bool (Op.bytesLess e15.toList e16.toList))]) ?_
    exact hK13 (Op.bytesLess e15.toList e16.toList) h
   replace h := cond_f hb h
   refine WO.fn (e2 := z11 [(27, .bool false)]) ?_
   exact hK13 false h
def rf4_Transform_j4 (v15 : (List Int)) : Option ByteArray :=
 (some (strOfI v15))
def rf4_Transform_j8 (N1 : ((List Int) → Option ByteArray)) (v14 : (List Int)) : Option ByteArray :=
 (N1 v14)
def rf4_Transform_l1 (a1 : ByteArray) (K4 : ((List Int) → Option ByteArray)) : List Int → Nat → (List Int) → Option ByteArray
 | [], k1, v7 => (K4 v7)
 | x1 :: r1, k1, v7 => (bif (x1 == 0) then (chk (capOk 1 ((v7 ++ [10])).length) ((rf4_Transform_j8 (rf4_Transform_l1 a1 K4 r1 (k1 + 1))) (v7 ++ [10]))) else ((sidx a1 (IntKind.wrap .i64 (x1 - 1))).bind fun e12 => (chk (capOk 1 ((v7 ++ [e12])).length) ((rf4_Transform_j8 (rf4_Transform_l1 a1 K4 r1 (k1 + 1))) (v7 ++ [e12])))))
def rf4_Transform (fuel : Nat) (a1 : ByteArray) : Option ByteArray :=
 ((rf4_Sort fuel a1).bind fun w6 => (chk (lenOk w6) (rf4_Transform_l1 a1 (rf4_Transform_j4) w6 0 ([] : (List Int)))))
theorem run_rf4_Transform (fuel : Nat) (a1 : ByteArray) (r : ByteArray) (h : rf4_Transform fuel a1 = some r) : Run Tryd.prog (.call 13 [.str a1] (.str r)) := by
 refine cW Tryd.func13 rfl (env0 := [(0, .str a1)]) ?_
 unfold rf4_Transform at h
 refine W.seq ?_
 let z0 := fun t => EN ((0, .str a1) :: t)
 refine W.rt (e2 := z0 []) ?_
 refine W.seq ?_
 let z1 := fun t => z0 ((3, .nils) :: t)
 refine W.rt (e2 := z1 []) ?_
 refine W.seq ?_
 refine W.join (σ := ((List Int))) (fun s => [(3, l5 (some 10300) s)]) (fun s => (rf4_Transform_j4) s = some r) (fun s h => ?_) (fun hK4 => ?_)
 ·obtain ⟨v15, rfl⟩ : ∃ x, x = s := ⟨s, rfl⟩
  have h : (rf4_Transform_j4) v15 = some r := h
  unfold rf4_Transform_j4 at h
  refine W.seq ?_
  refine W.rg ?_
  refine WO.pk 1 (match true, optAll ((M8 v15).map byteOf) with | true, some ns => some (AV.str ⟨(ns.map fun n => UInt8.ofNat n.toNat).toArray⟩) | _, _ => none) (v := .str (strOfI v15)) (strOf_av (f := strOfI) v15) (e1 := [(3, l5 (some 10300) v15), (26, l5 (some 10300) v15), (27, .str (strOfI v15))]) ?_
  refine WO.fn (e2 := [(2, .str (strOfI v15))]) ?_
  refine W.wk (env' := [(2, .str (strOfI v15))]) ?_
  have hr : aresults Tryd.prog Tryd.f13 [(2, .str (strOfI v15))] = some (.str (strOfI v15)) := by kernel_rfl
  cases h
  exact W.ret hr
 refine W.seq ?_
 refine W.rg ?_
 obtain ⟨w6, hw6, h⟩ := bind_some h
 refine WO.ck 1 (F := 29) (l := [.str a1]) (C := []) (r := l3 none w6) (run_rf4_Sort fuel a1 w6 hw6) (e1 := z1 [(6, .str a1), (7, l3 none w6)]) ?_
 refine WO.pk 0 (some (I6 ((M6 w6).length : Int))) (v := I6 (w6.length : Int)) (by rw [List.length_map]) (e1 := z1 [(6, .str a1), (7, l3 none w6), (8, I6 (w6.length : Int))]) ?_
 refine WO.fn (e2 := z1 [(7, l3 none w6), (8, I6 (w6.length : Int)), (9, .int .i64 0)]) ?_
 refine W.block ?_
 obtain ⟨hl1, h⟩ := chk_some h
 refine W.weak [0, 3, 7, 8, 9] [] [(3, 0, 5, 1, 10300)] [] (env' := z0 [(3, l5 (some 10300) ([] : (List Int))), (7, l3 none w6), (8, I6 (w6.length : Int)), (9, I6 ((0 : Nat) : Int))]) (by kernel_rfl) ?_
 refine W.range (σ := ((List Int))) w6 (fun k1 s => z0 [(3, l5 (some 10300) s), (7, l3 none w6), (8, I6 (w6.length : Int)), (9, I6 (k1 : Int))]) (fun r0 k0 s => rf4_Transform_l1 a1 (rf4_Transform_j4) r0 k0 s = some r) (fun s h => ?_) (fun x1 r1 k1 s hx1 hk1 h hN1 => ?_) ([] : (List Int)) h
 ·obtain ⟨v7, rfl⟩ : ∃ x, x = s := ⟨s, rfl⟩
  have h : rf4_Transform_l1 a1 (rf4_Transform_j4) [] (w6).length v7 = some r := h
  rw [rf4_Transform_l1.eq_1] at h
  refine W.seq ?_
  refine W.rg ?_
  let z2 := fun t => z0 ((3, l5 (some 10300) v7) :: (7, l3 none w6) :: (8, I6 (w6.length : Int)) :: (9, I6 ((w6).length : Int)) :: (10, .bool false) :: t)
  refine WO.pk 0 (some (.bool (decide (((w6).length : Int) < (w6.length : Int))))) (v := .bool false) (by rw [lt_false (l := w6)]) (e1 := z2 []) ?_
  refine WO.fn (e2 := z2 []) ?_
  refine W.seq ?_
  refine W.cb false (fun h => Bool.noConfusion h) (fun _ => ?_)
  refine W.exit ?_
  refine W.wk (env' := [(3, l5 (some 10300) v7)]) ?_
  exact hK4 v7 h
 ·obtain ⟨v7, rfl⟩ : ∃ x, x = s := ⟨s, rfl⟩
  have h : rf4_Transform_l1 a1 (rf4_Transform_j4) (x1 :: r1) k1 v7 = some r := h
  rw [rf4_Transform_l1.eq_2] at h
  refine W.seq ?_
  refine W.rg ?_
  let z3 := fun t => z0 ((3, l5 (some 10300) v7) :: (7, l3 none w6) :: (8, I6 (w6.length : Int)) :: (9, I6 (k1 : Int)) :: t)
  refine WO.pk 0 (some (.bool (decide ((k1 : Int) < (w6.length : Int))))) (v := .bool true) (by rw [lt_true hk1]) (e1 := z3 [(10, .bool true)]) ?_
  refine WO.fn (e2 := z3 [(10, .bool true)]) ?_
  refine W.seq ?_
  refine W.cb true (fun _ => ?_) (fun h => Bool.noConfusion h)
  refine W.skip ?_
  refine W.wk (env' := z3 []) ?_
  refine W.seq ?_
  refine W.join (σ := ((List Int))) (fun s => z0 [(3, l5 (some 10300) s), (7, l3 none w6), (8, I6 (w6.length : Int)), (9, I6 (k1 : Int))]) (fun s => (rf4_Transform_j8 (rf4_Transform_l1 a1 (rf4_Transform_j4) r1 (k1 + 1))) s = some r) (fun s h => ?_) (fun hK8 => ?_)
  ·obtain ⟨v14, rfl⟩ : ∃ x, x = s := ⟨s, rfl⟩
   have h : (rf4_Transform_j8 (rf4_Transform_l1 a1 (rf4_Transform_j4) r1 (k1 + 1))) v14 = some r := h
   unfold rf4_Transform_j8 at h
   refine W.rg ?_
   let z4 := fun t => z0 ((3, l5 (some 10300) v14) :: (7, l3 none w6) :: (8, I6 (w6.length : Int)) :: t)
   refine WO.pk 0 (some (I6 (IntKind.wrap .i64 ((k1 : Int) + 1)))) (v := I6 ((k1 + 1 : Nat) : Int)) (by rw [wrap_succ hl1 hk1]) (e1 := z4 [(9, I6 (k1 : Int)), (25, I6 ((k1 + 1 : Nat) : Int))]) ?_
   refine WO.fn (e2 := z4 [(9, I6 ((k1 + 1 : Nat) : Int))]) ?_
   exact hN1 v14 h
  refine W.block ?_
  refine W.seq ?_
  refine W.rg ?_
  refine WO.pk 0 (if (0 : Int) ≤ (k1 : Int) then ((M6 w6)[Int.toNat (k1 : Int)]?).map AV.ptr else none) (v := .ptr (I6 x1)) (idx_nat (f := (AV.int .i64)) hx1) (e1 := z3 [(11, .ptr (I6 x1))]) ?_
  let z5 := fun t => z0 ((3, l5 (some 10300) v7) :: (5, I6 x1) :: (7, l3 none w6) :: (8, I6 (w6.length : Int)) :: (9, I6 (k1 : Int)) :: t)
  refine WO.fn (e2 := z5 []) ?_
  refine W.seq ?_
  refine W.rt (e2 := z5 [(14, .bool (x1 == 0))]) ?_
  refine W.cb (x1 == 0) (fun hb => ?_) (fun hb => ?_)
  ·replace h := cond_t hb h
   refine W.rg ?_
   obtain ⟨hc11, h⟩ := chk_some h
   refine WO.appendK 2 (d := 17) (e := 5) (s := 1) (bytes := 1) (xs := (M8 v7)) (ys := (M8 [10])) (zs := (M8 (v7 ++ [10]))) (env1 := [(0, .str a1), (3, l5 none v7), (5, I6 x1), (7, l3 none w6), (8, I6 (w6.length : Int)), (9, I6 (k1 : Int)), (14, .bool (x1 == 0)), (15, l5 none v7), (16, l5 (some 16) [10])]) (by kernel_rfl) (List.map_append.symm) (by rw [List.length_map]; exact hc11) (e1 := z0 [(3, l5 none v7), (5, I6 x1), (7, l3 none w6), (8, I6 (w6.length : Int)), (9, I6 (k1 : Int)), (14, .bool (x1 == 0)), (15, l5 none v7), (16, l5 (some 16) [10]), (17, l5 (some 17) (v7 ++ [10]))]) (by kernel_rfl) ?_
   refine WO.fin [0, 3, 7, 8, 9] [] [] [(17, some 10300)] (e2 := z0 [(3, l5 (some 10300) (v7 ++ [10])), (7, l3 none w6), (8, I6 (w6.length : Int)), (9, I6 (k1 : Int))]) (by kernel_rfl) (fun _ h => h) ?_
   exact hK8 (v7 ++ [10]) h
  replace h := cond_f hb h
  refine W.rg ?_
  obtain ⟨e12, he12, h⟩ := bind_some h
  refine WO.pk 4 (if (0 : Int) ≤ (W6 (x1 - 1)) then (a1[Int.toNat (W6 (x1 - 1))]?).map fun b => AV.int .u8 b.toNat else none) (v := .int .u8 e12) (sidx_av he12) (e1 := z5 [(14, .bool (x1 == 0)), (18, l5 (some 10300) v7), (19, .str a1), (20, I6 x1), (21, I6 (W6 (x1 - 1))), (22, .int .u8 e12)]) ?_
  obtain ⟨hc13, h⟩ := chk_some h
  refine WO.appendK 1 (d := 24) (e := 5) (s := 1) (bytes := 1) (xs := (M8 v7)) (ys := (M8 [e12])) (zs := (M8 (v7 ++ [e12]))) (env1 := [(0, .str a1), (3, l5 none v7), (5, I6 x1), (7, l3 none w6), (8, I6 (w6.length : Int)), (9, I6 (k1 : Int)), (14, .bool (x1 == 0)), (18, l5 none v7), (19, .str a1), (20, I6 x1), (21, I6 (W6 (x1 - 1))), (22, .int .u8 e12), (23, l5 (some 23) [e12])]) (by kernel_rfl) (List.map_append.symm) (by rw [List.length_map]; exact hc13) (e1 := z0 [(3, l5 none v7), (5, I6 x1), (7, l3 none w6), (8, I6 (w6.length : Int)), (9, I6 (k1 : Int)), (14, .bool (x1 == 0)), (18, l5 none v7), (19, .str a1), (20, I6 x1), (21, I6 (W6 (x1 - 1))), (22, .int .u8 e12), (23, l5 (some 23) [e12]), (24, l5 (some 24) (v7 ++ [e12]))]) (by kernel_rfl) ?_
  refine WO.fin [0, 3, 7, 8, 9] [] [] [(24, some 10300)] (e2 := z0 [(3, l5 (some 10300) (v7 ++ [e12])), (7, l3 none w6), (8, I6 (w6.length : Int)), (9, I6 (k1 : Int))]) (by kernel_rfl) (fun _ h => h) ?_
  exact hK8 (v7 ++ [e12]) h
def rf4_Moved_j3 (a1 : ByteArray) : Option Bool :=
 (some (decide ((a1.size : Int) ≤ 201)))
def rf4_Moved_j7 (N1 : (Option Bool)) (v11 : Bool) : Option Bool :=
 (bif v11 then (some false) else N1)
def rf4_Moved_l1 (a1 : ByteArray) (K3 : (Option Bool)) : List Nat → Nat → Option Bool
 | [], k1 => K3
 | x1 :: r1, k1 => ((sidx a1 (k1 : Int)).bind fun e8 => (bif (e8 != 10) then ((sidx a1 (k1 : Int)).bind fun e9 => (bif (decide (e9 < 32)) then ((rf4_Moved_j7 (rf4_Moved_l1 a1 K3 r1 (k1 + 1))) true) else ((sidx a1 (k1 : Int)).bind fun e10 => ((rf4_Moved_j7 (rf4_Moved_l1 a1 K3 r1 (k1 + 1))) (decide (e10 > 126)))))) else ((rf4_Moved_j7 (rf4_Moved_l1 a1 K3 r1 (k1 + 1))) false)))
def rf4_Moved (a1 : ByteArray) : Option Bool :=
 (chk (lenOk (List.range (Int.toNat (a1.size : Int)))) (rf4_Moved_l1 a1 (rf4_Moved_j3 a1) (List.range (Int.toNat (a1.size : Int))) 0))
theorem run_rf4_Moved (a1 : ByteArray) (r : Bool) (h : rf4_Moved a1 = some r) : Run Tryd.prog (.call 15 [.str a1] (.bool r)) := by
 refine cW Tryd.func15 rfl (env0 := [(0, .str a1)]) ?_
 unfold rf4_Moved at h
 refine W.seq ?_
 let z0 := fun t => EN ((0, .str a1) :: t)
 refine W.rt (e2 := z0 []) ?_
 refine W.seq ?_
 refine W.join (σ := Unit) (fun s => z0 []) (fun s => (rf4_Moved_j3 a1) = some r) (fun s h => ?_) (fun hK3 => ?_)
 ·have h : (rf4_Moved_j3 a1) = some r := h
  unfold rf4_Moved_j3 at h
  refine W.seq ?_
  let z1 := fun t => EN ((2, .bool (decide ((a1.size : Int) ≤ 201))) :: t)
  refine W.rt (e2 := z1 []) ?_
  refine W.wk (env' := z1 []) ?_
  have hr : aresults Tryd.prog Tryd.f15 [(2, .bool (decide ((a1.size : Int) ≤ 201)))] = some (.bool (decide ((a1.size : Int) ≤ 201))) := by kernel_rfl
  cases h
  exact W.ret hr
 refine W.seq ?_
 let z2 := fun t => z0 ((5, I6 (a1.size : Int)) :: t)
 refine W.rt (e2 := z2 [(6, .int .i64 0)]) ?_
 refine W.block ?_
 obtain ⟨hl1, h⟩ := chk_some h
 refine W.wk (env' := z2 [(6, I6 ((0 : Nat) : Int))]) ?_
 refine W.range (σ := Unit) (List.range (Int.toNat (a1.size : Int))) (fun k1 s => z2 [(6, I6 (k1 : Int))]) (fun r0 k0 s => rf4_Moved_l1 a1 (rf4_Moved_j3 a1) r0 k0 = some r) (fun s h => ?_) (fun x1 r1 k1 s hx1 hk1 h hN1 => ?_) () h
 ·have h : rf4_Moved_l1 a1 (rf4_Moved_j3 a1) [] ((List.range (Int.toNat (a1.size : Int)))).length = some r := h
  rw [rf4_Moved_l1.eq_1] at h
  refine W.seq ?_
  refine W.rg ?_
  let z3 := fun t => z2 ((6, I6 (((List.range (Int.toNat (a1.size : Int)))).length : Int)) :: (7, .bool false) :: t)
  refine WO.pk 0 (some (.bool (decide ((((List.range (Int.toNat (a1.size : Int)))).length : Int) < (a1.size : Int))))) (v := .bool false) (by rw [ltr_false (n := (a1.size : Int))]) (e1 := z3 []) ?_
  refine WO.fn (e2 := z3 []) ?_
  refine W.seq ?_
  refine W.cb false (fun h => Bool.noConfusion h) (fun _ => ?_)
  refine W.exit ?_
  refine W.wk (env' := z0 []) ?_
  exact hK3 () h
 ·have h : rf4_Moved_l1 a1 (rf4_Moved_j3 a1) (x1 :: r1) k1 = some r := h
  rw [rf4_Moved_l1.eq_2] at h
  refine W.seq ?_
  refine W.rg ?_
  let z4 := fun t => z2 ((6, I6 (k1 : Int)) :: t)
  refine WO.pk 0 (some (.bool (decide ((k1 : Int) < (a1.size : Int))))) (v := .bool true) (by rw [ltr_true hk1]) (e1 := z4 [(7, .bool true)]) ?_
  refine WO.fn (e2 := z4 [(7, .bool true)]) ?_
  refine W.seq ?_
  refine W.cb true (fun _ => ?_) (fun h => Bool.noConfusion h)
  refine W.skip ?_
  refine W.wk (env' := z4 []) ?_
  refine W.seq ?_
  refine W.block ?_
  refine W.seq ?_
  let z5 := fun t => z0 ((3, I6 (k1 : Int)) :: (5, I6 (a1.size : Int)) :: (6, I6 (k1 : Int)) :: t)
  refine W.rt (e2 := z5 []) ?_
  refine W.seq ?_
  refine W.join (σ := (Bool)) (fun s => z4 [(24, .bool s)]) (fun s => (rf4_Moved_j7 (rf4_Moved_l1 a1 (rf4_Moved_j3 a1) r1 (k1 + 1))) s = some r) (fun s h => ?_) (fun hK7 => ?_)
  ·obtain ⟨v11, rfl⟩ : ∃ x, x = s := ⟨s, rfl⟩
   have h : (rf4_Moved_j7 (rf4_Moved_l1 a1 (rf4_Moved_j3 a1) r1 (k1 + 1))) v11 = some r := h
   unfold rf4_Moved_j7 at h
   refine W.cb v11 (fun hb => ?_) (fun hb => ?_)
   ·replace h := cond_t hb h
    refine W.seq ?_
    refine W.rt (e2 := [(2, .bool false)]) ?_
    refine W.wk (env' := [(2, .bool false)]) ?_
    have hr : aresults Tryd.prog Tryd.f15 [(2, .bool false)] = some (.bool false) := by kernel_rfl
    cases h
    exact W.ret hr
   replace h := cond_f hb h
   refine W.skip ?_
   refine W.wk (env' := z4 []) ?_
   refine W.rg ?_
   refine WO.pk 0 (some (I6 (IntKind.wrap .i64 ((k1 : Int) + 1)))) (v := I6 ((k1 + 1 : Nat) : Int)) (by rw [wrap_succ hl1 hk1]) (e1 := z4 [(25, I6 ((k1 + 1 : Nat) : Int))]) ?_
   refine WO.fn (e2 := z2 [(6, I6 ((k1 + 1 : Nat) : Int))]) ?_
   exact hN1 () h
  refine W.rg ?_
  obtain ⟨e8, he8, h⟩ := bind_some h
  let z6 := fun t => z5 ((9, .str a1) :: (10, I6 (k1 : Int)) :: (11, .int .u8 e8) :: t)
  refine WO.pk 2 (if (0 : Int) ≤ (k1 : Int) then (a1[Int.toNat (k1 : Int)]?).map fun b => AV.int .u8 b.toNat else none) (v := .int .u8 e8) (sidx_av he8) (e1 := z6 []) ?_
  refine WO.bk 2 (fun b => z6 [(12, .bool b), (13, .bool b)]) (e8 != 10) (fun hb => ?_) (fun hb => ?_)
  ·replace h := cond_t hb h
   obtain ⟨e9, he9, h⟩ := bind_some h
   let z7 := fun t => z6 ((12, .bool true) :: (13, .bool true) :: (14, .str a1) :: (15, I6 (k1 : Int)) :: (16, .int .u8 e9) :: t)
   refine WO.pk 2 (if (0 : Int) ≤ (k1 : Int) then (a1[Int.toNat (k1 : Int)]?).map fun b => AV.int .u8 b.toNat else none) (v := .int .u8 e9) (sidx_av he9) (e1 := z7 []) ?_
   refine WO.bk 2 (fun b => z7 [(17, .bool b), (18, .bool b)]) (decide (e9 < 32)) (fun hb => ?_) (fun hb => ?_)
   ·replace h := cond_t hb h
    refine WO.fn (e2 := z4 [(24, .bool true)]) ?_
    exact hK7 true h
   replace h := cond_f hb h
   obtain ⟨e10, he10, h⟩ := bind_some h
   refine WO.pk 2 (if (0 : Int) ≤ (k1 : Int) then (a1[Int.toNat (k1 : Int)]?).map fun b => AV.int .u8 b.toNat else none) (v := .int .u8 e10) (sidx_av he10) (e1 := z7 [(17, .bool false), (18, .bool false), (19, .str a1), (20, I6 (k1 : Int)), (21, .int .u8 e10)]) ?_
   refine WO.fn (e2 := z4 [(24, .bool (decide (e10 > 126)))]) ?_
   exact hK7 (decide (e10 > 126)) h
  replace h := cond_f hb h
  refine WO.fn (e2 := z4 [(24, .bool false)]) ?_
  exact hK7 false h
end Go.AM
