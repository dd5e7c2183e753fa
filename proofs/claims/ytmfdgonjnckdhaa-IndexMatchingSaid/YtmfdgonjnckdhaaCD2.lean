/- s -/
import Derived.Test.YtmfdgonjnckdhaaCD1
set_option maxRecDepth 100000
set_option linter.unusedVariables false
set_option linter.unusedSimpArgs false
namespace Go.AM
open Go.Proofs
def ix_New_j28 (a1 : ByteArray) (w8 : (List Int)) (w11 : (Option ixwavelet)) (v40 : (List Int)) : Option ((Option ixIndex) × Int) :=
 (some ((some (ixIndex.mk w11 (a1.size : Int) (snap 0 (Int.toNat 257) v40) w8)), 0))
def ix_New_l2 (K28 : ((List Int) → Option ((Option ixIndex) × Int))) : List Nat → Nat → (List Int) → Option ((Option ixIndex) × Int)
 | [], k2, v30 => (K28 v30)
 | x2 :: r2, k2, v30 => (chk (decide ((0 : Int) ≤ ((k2 + 1 : Nat) : Int) ∧ ((k2 + 1 : Nat) : Int) < (((Int.toNat 257) : Nat) : Int))) ((v30[(0 + Int.toNat ((k2 + 1 : Nat) : Int))]?).bind fun e34 => (chk (decide ((0 : Int) ≤ (k2 : Int) ∧ (k2 : Int) < (((Int.toNat 257) : Nat) : Int))) ((v30[(0 + Int.toNat (k2 : Int))]?).bind fun e36 => (chk (decide ((0 : Int) ≤ ((k2 + 1 : Nat) : Int) ∧ ((k2 + 1 : Nat) : Int) < (((Int.toNat 257) : Nat) : Int))) ((upd v30 (0 + Int.toNat ((k2 + 1 : Nat) : Int)) (IntKind.wrap .i64 (e34 + e36))).bind fun u38 => ((ix_New_l2 K28 r2 (k2 + 1)) u38)))))))
def ix_New_j13 (a1 : ByteArray) (w8 : (List Int)) (w11 : (Option ixwavelet)) (v23 : (List Int)) : Option ((Option ixIndex) × Int) :=
 (chk (decide ((0 : Int) ≤ 0 ∧ 0 < (((Int.toNat 257) : Nat) : Int))) ((upd v23 (0 + Int.toNat 0) 1).bind fun u26 => (chk (lenOk (List.range (Int.toNat 256))) (ix_New_l2 (ix_New_j28 a1 w8 w11) (List.range (Int.toNat 256)) 0 u26))))
def ix_New_l1 (K13 : ((List Int) → Option ((Option ixIndex) × Int))) : List Int → Nat → (List Int) → Option ((Option ixIndex) × Int)
 | [], k1, v15 => (K13 v15)
 | x1 :: r1, k1, v15 => (chk (decide ((0 : Int) ≤ (IntKind.wrap .i64 ((IntKind.wrap .i64 x1) + 1)) ∧ (IntKind.wrap .i64 ((IntKind.wrap .i64 x1) + 1)) < (((Int.toNat 257) : Nat) : Int))) ((v15[(0 + Int.toNat (IntKind.wrap .i64 ((IntKind.wrap .i64 x1) + 1)))]?).bind fun e19 => (chk (decide ((0 : Int) ≤ (IntKind.wrap .i64 ((IntKind.wrap .i64 x1) + 1)) ∧ (IntKind.wrap .i64 ((IntKind.wrap .i64 x1) + 1)) < (((Int.toNat 257) : Nat) : Int))) ((upd v15 (0 + Int.toNat (IntKind.wrap .i64 ((IntKind.wrap .i64 x1) + 1))) (IntKind.wrap .i64 (e19 + 1))).bind fun u21 => ((ix_New_l1 K13 r1 (k1 + 1)) u21)))))
def ix_New (fuel : Nat) (a1 : ByteArray) : Option ((Option ixIndex) × Int) :=
 ((ix_valid a1).bind fun w5 => (bif (!w5) then (some (none, 2)) else ((ix_suffixes a1).bind fun w8 => ((ix_transform a1 w8).bind fun w10 => ((ix_tree fuel w10).bind fun w11 => (chk (mkOk 8 257) (chk (lenOk (bytesI a1)) (ix_New_l1 (ix_New_j13 a1 w8 w11) (bytesI a1) 0 (List.replicate (Int.toNat 257) 0)))))))))
theorem run_ix_New (fuel : Nat) (a1 : ByteArray) (r : ((Option ixIndex) × Int)) (h : ix_New fuel a1 = some r) : Run Try.prog (.call 36 [.str a1] (.tup [ep e_ixIndex r.1, I6 r.2])) := by
 refine cW Try.func36 rfl (env0 := [(0, .str a1)]) ?_
 unfold ix_New at h
 refine W.seq ?_
 let z0 := fun t => EN ((0, .str a1) :: t)
 refine W.rt (e2 := z0 []) ?_
 refine W.seq ?_
 refine W.seq ?_
 refine W.rg ?_
 obtain ⟨w5, hw5, h⟩ := bind_some h
 refine WO.ck 1 (F := 40) (l := [.str a1]) (C := []) (r := .bool w5) (run_ix_valid a1 w5 hw5) (e1 := z0 [(9, .str a1), (10, .bool w5)]) ?_
 refine WO.fn (e2 := z0 [(11, .bool (!w5))]) ?_
 refine W.cb (!w5) (fun hb => ?_) (fun hb => ?_)
 ·replace h := cond_t hb h
  refine W.seq ?_
  refine W.rt (e2 := [(2, .optr true .und), (3, .int .i64 2)]) ?_
  refine W.wk (env' := [(2, .optr true .und), (3, .int .i64 2)]) ?_
  have hr : aresults Try.prog Try.f36 [(2, .optr true .und), (3, .int .i64 2)] = some (.tup [.optr true .und, .int .i64 2]) := by kernel_rfl
  cases h
  exact W.ret hr
 replace h := cond_f hb h
 refine W.skip ?_
 refine W.wk (env' := z0 []) ?_
 refine W.seq ?_
 refine W.rg ?_
 obtain ⟨w8, hw8, h⟩ := bind_some h
 refine WO.ck 1 (F := 41) (l := [.str a1]) (C := []) (r := l3 none w8) (run_ix_suffixes a1 w8 hw8) (e1 := z0 [(12, .str a1), (13, l3 none w8)]) ?_
 let z1 := fun t => z0 ((4, l3 none w8) :: t)
 refine WO.fn (e2 := z1 []) ?_
 refine W.seq ?_
 refine W.regionP [0, 1, 2, 3, 4, 5, 7, 6, 8, 9, 10] (by kernel_rfl) ?_
 obtain ⟨w10, hw10, h⟩ := bind_some h
 let z2 := fun t => z1 ((14, .str a1) :: (15, l3 none w8) :: (16, .str w10) :: t)
 refine WO.ck 2 (F := 57) (l := [.str a1, l3 none w8]) (C := []) (r := .str w10) (run_ix_transform a1 w8 w10 hw10) (e1 := z2 []) ?_
 obtain ⟨w11, hw11, h⟩ := bind_some h
 refine WO.ck 0 (F := 56) (l := [.str w10]) (C := []) (r := ep_ixwavelet w11) (run_ix_tree fuel w10 w11 hw11) (e1 := z2 [(17, ep_ixwavelet w11)]) ?_
 obtain ⟨hc12, h⟩ := chk_some h
 refine WO.makeK 3 (d := 20) (e := 3) (s := 1) (bytes := 8) (m := 257) (z := (.int .i64 0)) (zs := (M6 (List.replicate (Int.toNat 257) 0))) (env1 := [(0, .str a1), (4, l3 none w8), (14, .str a1), (15, l3 none w8), (16, .str w10), (17, ep_ixwavelet w11), (18, .str a1), (19, I6 (a1.size : Int)), (20, .sb 1000020 3 1 0 (Int.toNat 257)), (21, l3 none w8)]) (by kernel_rfl) hc12 (by first | exact rep_map | exact (rep_map (f := (AV.int .i64)))) (e1 := z2 [(17, ep_ixwavelet w11), (18, .str a1), (19, I6 (a1.size : Int)), (20, .sb 1000020 3 1 0 (Int.toNat 257)), (21, l3 none w8), (1000020, .obj 3 1 (M6 (List.replicate (Int.toNat 257) 0)))]) (by kernel_rfl) ?_
 let z3 := fun t => z0 ((5, .pb 23 0) :: (23, .bxg [ep_ixwavelet w11, I6 (a1.size : Int), .sb 1000020 3 1 0 (Int.toNat 257), l3 none w8]) :: t)
 refine WO.fn (e2 := z3 [(1000020, .obj 3 1 (M6 (List.replicate (Int.toNat 257) 0)))]) ?_
 refine W.seq ?_
 let z4 := fun t => EN ((5, .pb 23 0) :: (23, .bxg [ep_ixwavelet w11, I6 (a1.size : Int), .sb 1000020 3 1 0 (Int.toNat 257), l3 none w8]) :: t)
 refine W.join (σ := ((List Int))) (fun s => z4 [(1000020, .obj 3 1 (M6 s))]) (fun s => (ix_New_j13 a1 w8 w11) s = some r) (fun s h => ?_) (fun hK13 => ?_)
 ·obtain ⟨v23, rfl⟩ : ∃ x, x = s := ⟨s, rfl⟩
  have h : (ix_New_j13 a1 w8 w11) v23 = some r := h
  unfold ix_New_j13 at h
  refine W.seq ?_
  refine W.rg ?_
  obtain ⟨hc25, h⟩ := chk_some h
  let z5 := fun t => z4 ((43, .pb 23 0) :: (44, .pb 23 0) :: (45, .pb 23 2) :: (46, .sb 1000020 3 1 0 (Int.toNat 257)) :: (47, .pe 1000020 1 (0 + Int.toNat 0) 0) :: t)
  refine WO.pi 4 (v := .pe 1000020 1 (0 + Int.toNat 0) 0) hc25 (e1 := z5 [(1000020, .obj 3 1 (M6 v23))]) ?_
  obtain ⟨u26, hu26, h⟩ := bind_some h
  obtain ⟨y27, hyy27, hzy27⟩ := upd_some hu26
  refine WO.sk 0 (id := 1000020) (e := 3) (s := 1) (off := 0) (vs := [.int .i64 1]) (AV.int .i64) hyy27 hzy27 (e1 := z5 [(1000020, .obj 3 1 (M6 u26))]) ?_
  refine WO.fn (e2 := z4 [(1000020, .obj 3 1 (M6 u26))]) ?_
  refine W.seq ?_
  refine W.join (σ := ((List Int))) (fun s => z4 [(1000020, .obj 3 1 (M6 s))]) (fun s => (ix_New_j28 a1 w8 w11) s = some r) (fun s h => ?_) (fun hK28 => ?_)
  ·obtain ⟨v40, rfl⟩ : ∃ x, x = s := ⟨s, rfl⟩
   have h : (ix_New_j28 a1 w8 w11) v40 = some r := h
   unfold ix_New_j28 at h
   refine W.seq ?_
   let z6 := fun t => EN ((2, .pb 23 0) :: (3, .int .i64 0) :: t)
   refine W.rt (e2 := z6 [(23, .bxg [ep_ixwavelet w11, I6 (a1.size : Int), .sb 1000020 3 1 0 (Int.toNat 257), l3 none w8]), (1000020, .obj 3 1 (M6 v40))]) ?_
   refine W.mv [.frz 1000020] (env' := z6 [(23, .bxg [ep_ixwavelet w11, I6 (a1.size : Int), l3 none (snap 0 (Int.toNat 257) v40), l3 none w8])]) ((by kernel_rfl : mvAll [(2, .pb 23 0), (3, .int .i64 0), (23, .bxg [ep_ixwavelet w11, I6 (a1.size : Int), .sb 1000020 3 1 0 (Int.toNat 257), l3 none w8]), (1000020, .obj 3 1 (M6 v40))] [.frz 1000020] = [(2, .pb 23 0), (3, .int .i64 0), (23, .bxg [ep_ixwavelet w11, I6 (a1.size : Int), .lst 3 1 none (snapA 0 (Int.toNat 257) (M6 v40)), l3 none w8])]).trans (by first | (simp only [snap_map, snap_full, snap_rep]; done) | (simp only [snap_map, snap_full, snap_rep]; kernel_rfl))) ?_
   refine W.mv [.pln 23] (env' := z6 [(23, .box [ep_ixwavelet w11, I6 (a1.size : Int), l3 none (snap 0 (Int.toNat 257) v40), l3 none w8])]) (by kernel_rfl) ?_
   refine W.mv [.frz 23] (env' := [(2, .ptr (.agg [ep_ixwavelet w11, I6 (a1.size : Int), l3 none (snap 0 (Int.toNat 257) v40), l3 none w8])), (3, .int .i64 0), (23, .ptr (.agg [ep_ixwavelet w11, I6 (a1.size : Int), l3 none (snap 0 (Int.toNat 257) v40), l3 none w8]))]) (by kernel_rfl) ?_
   let z7 := fun t => EN ((2, .optr false (.agg [ep_ixwavelet w11, I6 (a1.size : Int), l3 none (snap 0 (Int.toNat 257) v40), l3 none w8])) :: (3, .int .i64 0) :: t)
   refine W.mv [.cast 2] (env' := z7 [(23, .ptr (.agg [ep_ixwavelet w11, I6 (a1.size : Int), l3 none (snap 0 (Int.toNat 257) v40), l3 none w8]))]) (by kernel_rfl) ?_
   refine W.wk (env' := z7 []) ?_
   have hr : aresults Try.prog Try.f36 [(2, .optr false (.agg [ep_ixwavelet w11, I6 (a1.size : Int), l3 none (snap 0 (Int.toNat 257) v40), l3 none w8])), (3, .int .i64 0)] = some (.tup [.optr false (.agg [ep_ixwavelet w11, I6 (a1.size : Int), l3 none (snap 0 (Int.toNat 257) v40), l3 none w8]), .int .i64 0]) := by kernel_rfl
   cases h
   exact W.ret hr
  refine W.seq ?_
  refine W.rt (e2 := z4 [(48, .int .i64 0), (1000020, .obj 3 1 (M6 u26))]) ?_
  refine W.block ?_
  obtain ⟨hl2, h⟩ := chk_some h
  refine W.wk (env' := z4 [(48, I6 ((0 : Nat) : Int)), (1000020, .obj 3 1 (M6 u26))]) ?_
  refine W.range (σ := ((List Int))) (List.range (Int.toNat 256)) (fun k2 s => z4 [(48, I6 (k2 : Int)), (1000020, .obj 3 1 (M6 s))]) (fun r0 k0 s => ix_New_l2 (ix_New_j28 a1 w8 w11) r0 k0 s = some r) (fun s h => ?_) (fun x2 r2 k2 s hx2 hk2 h hN2 => ?_) u26 h
  ·obtain ⟨v30, rfl⟩ : ∃ x, x = s := ⟨s, rfl⟩
   have h : ix_New_l2 (ix_New_j28 a1 w8 w11) [] ((List.range (Int.toNat 256))).length v30 = some r := h
   rw [ix_New_l2.eq_1] at h
   refine W.seq ?_
   refine W.rg ?_
   let z8 := fun t => z4 ((48, I6 (((List.range (Int.toNat 256))).length : Int)) :: (49, .bool false) :: (1000020, .obj 3 1 (M6 v30)) :: t)
   refine WO.pk 0 (some (.bool (decide ((((List.range (Int.toNat 256))).length : Int) < 256)))) (v := .bool false) (by rw [ltr_false (n := 256)]) (e1 := z8 []) ?_
   refine WO.fn (e2 := z8 []) ?_
   refine W.seq ?_
   refine W.cb false (fun h => Bool.noConfusion h) (fun _ => ?_)
   refine W.exit ?_
   refine W.wk (env' := z4 [(1000020, .obj 3 1 (M6 v30))]) ?_
   exact hK28 v30 h
  ·obtain ⟨v30, rfl⟩ : ∃ x, x = s := ⟨s, rfl⟩
   have h : ix_New_l2 (ix_New_j28 a1 w8 w11) (x2 :: r2) k2 v30 = some r := h
   rw [ix_New_l2.eq_2] at h
   refine W.seq ?_
   refine W.rg ?_
   let z9 := fun t => z4 ((48, I6 (k2 : Int)) :: t)
   let z10 := fun t => z9 ((49, .bool true) :: (1000020, .obj 3 1 (M6 v30)) :: t)
   refine WO.pk 0 (some (.bool (decide ((k2 : Int) < 256)))) (v := .bool true) (by rw [ltr_true hk2]) (e1 := z10 []) ?_
   refine WO.fn (e2 := z10 []) ?_
   refine W.seq ?_
   refine W.cb true (fun _ => ?_) (fun h => Bool.noConfusion h)
   refine W.skip ?_
   refine W.wk (env' := z9 [(1000020, .obj 3 1 (M6 v30))]) ?_
   refine W.seq ?_
   refine W.block ?_
   refine W.seq ?_
   let z11 := fun t => EN ((5, .pb 23 0) :: (8, I6 (k2 : Int)) :: (23, .bxg [ep_ixwavelet w11, I6 (a1.size : Int), .sb 1000020 3 1 0 (Int.toNat 257), l3 none w8]) :: (48, I6 (k2 : Int)) :: t)
   refine W.rt (e2 := z11 [(1000020, .obj 3 1 (M6 v30))]) ?_
   refine W.rg ?_
   let z12 := fun t => z11 ((51, .pb 23 0) :: (52, .pb 23 0) :: (53, .pb 23 2) :: (54, .sb 1000020 3 1 0 (Int.toNat 257)) :: (55, I6 (k2 : Int)) :: (56, I6 ((k2 + 1 : Nat) : Int)) :: t)
   refine WO.pk 5 (some (I6 (IntKind.wrap .i64 ((k2 : Int) + 1)))) (v := I6 ((k2 + 1 : Nat) : Int)) (by rw [wrap_succ hl2 hk2]) (e1 := z12 [(1000020, .obj 3 1 (M6 v30))]) ?_
   obtain ⟨hc33, h⟩ := chk_some h
   let z13 := fun t => z12 ((57, .pe 1000020 1 (0 + Int.toNat ((k2 + 1 : Nat) : Int)) 0) :: t)
   refine WO.pi 0 (v := .pe 1000020 1 (0 + Int.toNat ((k2 + 1 : Nat) : Int)) 0) hc33 (e1 := z13 [(1000020, .obj 3 1 (M6 v30))]) ?_
   obtain ⟨e34, he34, h⟩ := bind_some h
   let z14 := fun t => z13 ((58, I6 e34) :: t)
   refine WO.pl 0 (v := I6 e34) (AV.int .i64) 3 0 he34 (e1 := z14 [(1000020, .obj 3 1 (M6 v30))]) ?_
   obtain ⟨hc35, h⟩ := chk_some h
   let z15 := fun t => z14 ((59, .pb 23 0) :: (60, .pb 23 0) :: (61, .pb 23 2) :: (62, .sb 1000020 3 1 0 (Int.toNat 257)) :: (63, I6 (k2 : Int)) :: (64, .pe 1000020 1 (0 + Int.toNat (k2 : Int)) 0) :: t)
   refine WO.pi 5 (v := .pe 1000020 1 (0 + Int.toNat (k2 : Int)) 0) hc35 (e1 := z15 [(1000020, .obj 3 1 (M6 v30))]) ?_
   obtain ⟨e36, he36, h⟩ := bind_some h
   refine WO.pl 0 (v := I6 e36) (AV.int .i64) 3 0 he36 (e1 := z15 [(65, I6 e36), (1000020, .obj 3 1 (M6 v30))]) ?_
   obtain ⟨hc37, h⟩ := chk_some h
   let z16 := fun t => z15 ((65, I6 e36) :: (66, I6 (W6 (e34 + e36))) :: (67, .pe 1000020 1 (0 + Int.toNat ((k2 + 1 : Nat) : Int)) 0) :: t)
   refine WO.pi 1 (v := .pe 1000020 1 (0 + Int.toNat ((k2 + 1 : Nat) : Int)) 0) hc37 (e1 := z16 [(1000020, .obj 3 1 (M6 v30))]) ?_
   obtain ⟨u38, hu38, h⟩ := bind_some h
   obtain ⟨y39, hyy39, hzy39⟩ := upd_some hu38
   refine WO.sk 0 (id := 1000020) (e := 3) (s := 1) (off := 0) (vs := [I6 (W6 (e34 + e36))]) (AV.int .i64) hyy39 hzy39 (e1 := z16 [(1000020, .obj 3 1 (M6 u38))]) ?_
   refine WO.fn (e2 := z9 [(1000020, .obj 3 1 (M6 u38))]) ?_
   refine W.rg ?_
   refine WO.pk 0 (some (I6 (IntKind.wrap .i64 ((k2 : Int) + 1)))) (v := I6 ((k2 + 1 : Nat) : Int)) (by rw [wrap_succ hl2 hk2]) (e1 := z9 [(68, I6 ((k2 + 1 : Nat) : Int)), (1000020, .obj 3 1 (M6 u38))]) ?_
   refine WO.fn (e2 := z4 [(48, I6 ((k2 + 1 : Nat) : Int)), (1000020, .obj 3 1 (M6 u38))]) ?_
   exact hN2 u38 h
 refine W.seq ?_
 refine W.rg ?_
 let z17 := fun t => z3 ((24, .str a1) :: (25, l5 none (bytesI a1)) :: t)
 refine WO.pk 1 (some (AV.lst 5 1 none (bytesA a1))) (v := l5 none (bytesI a1)) (congrArg (fun l => some (AV.lst 5 1 none l)) (bytesA_map a1)) (e1 := z17 [(1000020, .obj 3 1 (M6 (List.replicate (Int.toNat 257) 0)))]) ?_
 refine WO.pk 0 (some (I6 ((M8 (bytesI a1)).length : Int))) (v := I6 ((bytesI a1).length : Int)) (by rw [List.length_map]) (e1 := z17 [(26, I6 ((bytesI a1).length : Int)), (1000020, .obj 3 1 (M6 (List.replicate (Int.toNat 257) 0)))]) ?_
 let z18 := fun t => z4 ((25, l5 none (bytesI a1)) :: (26, I6 ((bytesI a1).length : Int)) :: t)
 refine WO.fn (e2 := z18 [(27, .int .i64 0), (1000020, .obj 3 1 (M6 (List.replicate (Int.toNat 257) 0)))]) ?_
 refine W.block ?_
 obtain ⟨hl1, h⟩ := chk_some h
 refine W.wk (env' := z18 [(27, I6 ((0 : Nat) : Int)), (1000020, .obj 3 1 (M6 (List.replicate (Int.toNat 257) 0)))]) ?_
 refine W.range (σ := ((List Int))) (bytesI a1) (fun k1 s => z18 [(27, I6 (k1 : Int)), (1000020, .obj 3 1 (M6 s))]) (fun r0 k0 s => ix_New_l1 (ix_New_j13 a1 w8 w11) r0 k0 s = some r) (fun s h => ?_) (fun x1 r1 k1 s hx1 hk1 h hN1 => ?_) (List.replicate (Int.toNat 257) 0) h
 ·obtain ⟨v15, rfl⟩ : ∃ x, x = s := ⟨s, rfl⟩
  have h : ix_New_l1 (ix_New_j13 a1 w8 w11) [] ((bytesI a1)).length v15 = some r := h
  rw [ix_New_l1.eq_1] at h
  refine W.seq ?_
  refine W.rg ?_
  let z19 := fun t => z18 ((27, I6 (((bytesI a1)).length : Int)) :: (28, .bool false) :: (1000020, .obj 3 1 (M6 v15)) :: t)
  refine WO.pk 0 (some (.bool (decide ((((bytesI a1)).length : Int) < ((bytesI a1).length : Int))))) (v := .bool false) (by rw [lt_false (l := (bytesI a1))]) (e1 := z19 []) ?_
  refine WO.fn (e2 := z19 []) ?_
  refine W.seq ?_
  refine W.cb false (fun h => Bool.noConfusion h) (fun _ => ?_)
  refine W.exit ?_
  refine W.wk (env' := z4 [(1000020, .obj 3 1 (M6 v15))]) ?_
  exact hK13 v15 h
 ·obtain ⟨v15, rfl⟩ : ∃ x, x = s := ⟨s, rfl⟩
  have h : ix_New_l1 (ix_New_j13 a1 w8 w11) (x1 :: r1) k1 v15 = some r := h
  rw [ix_New_l1.eq_2] at h
  refine W.seq ?_
  refine W.rg ?_
  let z20 := fun t => z18 ((27, I6 (k1 : Int)) :: t)
  let z21 := fun t => z20 ((28, .bool true) :: (1000020, .obj 3 1 (M6 v15)) :: t)
  refine WO.pk 0 (some (.bool (decide ((k1 : Int) < ((bytesI a1).length : Int))))) (v := .bool true) (by rw [lt_true hk1]) (e1 := z21 []) ?_
  refine WO.fn (e2 := z21 []) ?_
  refine W.seq ?_
  refine W.cb true (fun _ => ?_) (fun h => Bool.noConfusion h)
  refine W.skip ?_
  refine W.wk (env' := z20 [(1000020, .obj 3 1 (M6 v15))]) ?_
  refine W.seq ?_
  refine W.block ?_
  refine W.seq ?_
  refine W.rg ?_
  refine WO.pk 0 (if (0 : Int) ≤ (k1 : Int) then ((M8 (bytesI a1))[Int.toNat (k1 : Int)]?).map AV.ptr else none) (v := .ptr (.int .u8 x1)) (idx_nat (f := (AV.int .u8)) hx1) (e1 := z20 [(29, .ptr (.int .u8 x1)), (1000020, .obj 3 1 (M6 v15))]) ?_
  let z22 := fun t => EN ((5, .pb 23 0) :: (7, .int .u8 x1) :: (23, .bxg [ep_ixwavelet w11, I6 (a1.size : Int), .sb 1000020 3 1 0 (Int.toNat 257), l3 none w8]) :: (25, l5 none (bytesI a1)) :: (26, I6 ((bytesI a1).length : Int)) :: (27, I6 (k1 : Int)) :: t)
  refine WO.fn (e2 := z22 [(1000020, .obj 3 1 (M6 v15))]) ?_
  refine W.rg ?_
  obtain ⟨hc18, h⟩ := chk_some h
  let z23 := fun t => z22 ((31, .pb 23 0) :: (32, .pb 23 0) :: (33, .pb 23 2) :: (34, .sb 1000020 3 1 0 (Int.toNat 257)) :: (35, .int .u8 x1) :: (36, I6 (W6 x1)) :: (37, I6 (W6 ((W6 x1) + 1))) :: (38, .pe 1000020 1 (0 + Int.toNat (W6 ((W6 x1) + 1))) 0) :: t)
  refine WO.pi 7 (v := .pe 1000020 1 (0 + Int.toNat (W6 ((W6 x1) + 1))) 0) hc18 (e1 := z23 [(1000020, .obj 3 1 (M6 v15))]) ?_
  obtain ⟨e19, he19, h⟩ := bind_some h
  refine WO.pl 0 (v := I6 e19) (AV.int .i64) 3 0 he19 (e1 := z23 [(39, I6 e19), (1000020, .obj 3 1 (M6 v15))]) ?_
  obtain ⟨hc20, h⟩ := chk_some h
  let z24 := fun t => z23 ((39, I6 e19) :: (40, I6 (W6 (e19 + 1))) :: (41, .pe 1000020 1 (0 + Int.toNat (W6 ((W6 x1) + 1))) 0) :: t)
  refine WO.pi 1 (v := .pe 1000020 1 (0 + Int.toNat (W6 ((W6 x1) + 1))) 0) hc20 (e1 := z24 [(1000020, .obj 3 1 (M6 v15))]) ?_
  obtain ⟨u21, hu21, h⟩ := bind_some h
  obtain ⟨y22, hyy22, hzy22⟩ := upd_some hu21
  refine WO.sk 0 (id := 1000020) (e := 3) (s := 1) (off := 0) (vs := [I6 (W6 (e19 + 1))]) (AV.int .i64) hyy22 hzy22 (e1 := z24 [(1000020, .obj 3 1 (M6 u21))]) ?_
  refine WO.fn (e2 := z20 [(1000020, .obj 3 1 (M6 u21))]) ?_
  refine W.rg ?_
  refine WO.pk 0 (some (I6 (IntKind.wrap .i64 ((k1 : Int) + 1)))) (v := I6 ((k1 + 1 : Nat) : Int)) (by rw [wrap_succ hl1 hk1]) (e1 := z20 [(42, I6 ((k1 + 1 : Nat) : Int)), (1000020, .obj 3 1 (M6 u21))]) ?_
  refine WO.fn (e2 := z18 [(27, I6 ((k1 + 1 : Nat) : Int)), (1000020, .obj 3 1 (M6 u21))]) ?_
  exact hN1 u21 h
def ix_Index_none_j3 (v5 : Bool) : Option Bool :=
 (some v5)
def ix_Index_none (a1 : (Option ixIndex)) : Option Bool :=
 (bif a1.isNone then ((ix_Index_none_j3) true) else (a1.bind fun q4 => ((ix_Index_none_j3) q4.f_w.isNone)))
theorem run_ix_Index_none (a1 : (Option ixIndex)) (r : Bool) (h : ix_Index_none a1 = some r) : Run Try.prog (.call 48 [ep e_ixIndex a1] (.bool r)) := by
 refine cW Try.func48 rfl (env0 := [(0, ep e_ixIndex a1)]) ?_
 unfold ix_Index_none at h
 refine W.seq ?_
 refine W.rt (e2 := [(0, ep e_ixIndex a1)]) ?_
 refine W.seq ?_
 refine W.join (σ := (Bool)) (fun s => [(2, .bool s)]) (fun s => (ix_Index_none_j3) s = some r) (fun s h => ?_) (fun hK3 => ?_)
 ·obtain ⟨v5, rfl⟩ : ∃ x, x = s := ⟨s, rfl⟩
  have h : (ix_Index_none_j3) v5 = some r := h
  unfold ix_Index_none_j3 at h
  refine W.wk (env' := [(2, .bool v5)]) ?_
  have hr : aresults Try.prog Try.f48 [(2, .bool v5)] = some (.bool v5) := by kernel_rfl
  cases h
  exact W.ret hr
 refine W.rg ?_
 refine WO.bk 3 (fun b => [(0, ep e_ixIndex a1), (3, ep e_ixIndex a1), (4, .bool b), (5, .bool b)]) a1.isNone (fun hb => ?_) (fun hb => ?_)
 ·replace h := cond_t hb h
  refine WO.fn (e2 := [(2, .bool true)]) ?_
  exact hK3 true h
 replace h := cond_f hb h
 obtain ⟨q4, hq4, h⟩ := bind_some h
 refine WO.pk 1 (match a1.isNone with | false => some (AV.ptr ((epx e_ixIndex) a1)) | true => none) (v := .ptr (.agg [ep_ixwavelet q4.f_w, I6 q4.f_length, l3 none q4.f_starts, l3 none q4.f_places])) (nc_av (F := (epx e_ixIndex)) hq4) (e1 := [(0, ep e_ixIndex a1), (3, ep e_ixIndex a1), (4, .bool false), (5, .bool false), (6, ep e_ixIndex a1), (7, .ptr (.agg [ep_ixwavelet q4.f_w, I6 q4.f_length, l3 none q4.f_starts, l3 none q4.f_places]))]) ?_
 refine WO.fn (e2 := [(2, .bool q4.f_w.isNone)]) ?_
 exact hK3 q4.f_w.isNone h
def sl_Index_byte_j4 : Option Int :=
 (some (-1))
def sl_Index_byte_l1 (a2 : Int) (K4 : (Option Int)) : List Int → Nat → Option Int
 | [], k1 => K4
 | x1 :: r1, k1 => (bif (a2 == x1) then (some (k1 : Int)) else (sl_Index_byte_l1 a2 K4 r1 (k1 + 1)))
def sl_Index_byte (a1 : (List Int)) (a2 : Int) : Option Int :=
 (chk (lenOk a1) (sl_Index_byte_l1 a2 (sl_Index_byte_j4) a1 0))
theorem run_sl_Index_byte (a1 : (List Int)) (a2 : Int) (r : Int) (h : sl_Index_byte a1 a2 = some r) : Run Try.prog (.call 93 [l5 none a1, .int .u8 a2] (I6 r)) := by
 refine cW Try.func93 rfl (env0 := [(0, l5 none a1), (1, .int .u8 a2)]) ?_
 unfold sl_Index_byte at h
 refine W.seq ?_
 let z0 := fun t => EN ((0, l5 none a1) :: (1, .int .u8 a2) :: t)
 refine W.rt (e2 := z0 []) ?_
 refine W.seq ?_
 refine W.join (σ := Unit) (fun s => []) (fun s => (sl_Index_byte_j4) = some r) (fun s h => ?_) (fun hK4 => ?_)
 ·have h : (sl_Index_byte_j4) = some r := h
  unfold sl_Index_byte_j4 at h
  refine W.seq ?_
  refine W.rt (e2 := [(4, I6 (-1))]) ?_
  refine W.wk (env' := [(4, I6 (-1))]) ?_
  have hr : aresults Try.prog Try.f93 [(4, I6 (-1))] = some (I6 (-1)) := by kernel_rfl
  cases h
  exact W.ret hr
 refine W.seq ?_
 refine W.rg ?_
 refine WO.pk 1 (some (I6 ((M8 a1).length : Int))) (v := I6 (a1.length : Int)) (by rw [List.length_map]) (e1 := z0 [(6, l5 none a1), (7, I6 (a1.length : Int))]) ?_
 let z1 := fun t => z0 ((7, I6 (a1.length : Int)) :: t)
 refine WO.fn (e2 := z1 [(8, .int .i64 0)]) ?_
 refine W.block ?_
 obtain ⟨hl1, h⟩ := chk_some h
 refine W.wk (env' := z1 [(8, I6 ((0 : Nat) : Int))]) ?_
 refine W.range (σ := Unit) a1 (fun k1 s => z1 [(8, I6 (k1 : Int))]) (fun r0 k0 s => sl_Index_byte_l1 a2 (sl_Index_byte_j4) r0 k0 = some r) (fun s h => ?_) (fun x1 r1 k1 s hx1 hk1 h hN1 => ?_) () h
 ·have h : sl_Index_byte_l1 a2 (sl_Index_byte_j4) [] (a1).length = some r := h
  rw [sl_Index_byte_l1.eq_1] at h
  refine W.seq ?_
  refine W.rg ?_
  let z2 := fun t => z1 ((8, I6 ((a1).length : Int)) :: (9, .bool false) :: t)
  refine WO.pk 0 (some (.bool (decide (((a1).length : Int) < (a1.length : Int))))) (v := .bool false) (by rw [lt_false (l := a1)]) (e1 := z2 []) ?_
  refine WO.fn (e2 := z2 []) ?_
  refine W.seq ?_
  refine W.cb false (fun h => Bool.noConfusion h) (fun _ => ?_)
  refine W.exit ?_
  refine W.wk (env' := []) ?_
  exact hK4 () h
 ·have h : sl_Index_byte_l1 a2 (sl_Index_byte_j4) (x1 :: r1) k1 = some r := h
  rw [sl_Index_byte_l1.eq_2] at h
  refine W.seq ?_
  refine W.rg ?_
  let z3 := fun t => z1 ((8, I6 (k1 : Int)) :: t)
  refine WO.pk 0 (some (.bool (decide ((k1 : Int) < (a1.length : Int))))) (v := .bool true) (by rw [lt_true hk1]) (e1 := z3 [(9, .bool true)]) ?_
  refine WO.fn (e2 := z3 [(9, .bool true)]) ?_
  refine W.seq ?_
  refine W.cb true (fun _ => ?_) (fun h => Bool.noConfusion h)
  refine W.skip ?_
  refine W.wk (env' := z3 []) ?_
  refine W.seq ?_
  refine W.block ?_
  refine W.seq ?_
  let z4 := fun t => z0 ((5, I6 (k1 : Int)) :: (7, I6 (a1.length : Int)) :: (8, I6 (k1 : Int)) :: t)
  refine W.rt (e2 := z4 []) ?_
  refine W.seq ?_
  refine W.rg ?_
  refine WO.pk 3 (if (0 : Int) ≤ (k1 : Int) then ((M8 a1)[Int.toNat (k1 : Int)]?).map AV.ptr else none) (v := .ptr (.int .u8 x1)) (idx_nat (f := (AV.int .u8)) hx1) (e1 := z4 [(11, .int .u8 a2), (12, l5 none a1), (13, I6 (k1 : Int)), (14, .ptr (.int .u8 x1))]) ?_
  refine WO.fn (e2 := z4 [(16, .bool (a2 == x1))]) ?_
  refine W.cb (a2 == x1) (fun hb => ?_) (fun hb => ?_)
  ·replace h := cond_t hb h
   refine W.seq ?_
   refine W.rt (e2 := [(4, I6 (k1 : Int))]) ?_
   refine W.wk (env' := [(4, I6 (k1 : Int))]) ?_
   have hr : aresults Try.prog Try.f93 [(4, I6 (k1 : Int))] = some (I6 (k1 : Int)) := by kernel_rfl
   cases h
   exact W.ret hr
  replace h := cond_f hb h
  refine W.skip ?_
  refine W.wk (env' := z3 []) ?_
  refine W.rg ?_
  refine WO.pk 0 (some (I6 (IntKind.wrap .i64 ((k1 : Int) + 1)))) (v := I6 ((k1 + 1 : Nat) : Int)) (by rw [wrap_succ hl1 hk1]) (e1 := z3 [(18, I6 ((k1 + 1 : Nat) : Int))]) ?_
  refine WO.fn (e2 := z1 [(8, I6 ((k1 + 1 : Nat) : Int))]) ?_
  exact hN1 () h
def sl_Contains_byte (a1 : (List Int)) (a2 : Int) : Option Bool :=
 ((sl_Index_byte a1 a2).bind fun w5 => (some (decide (w5 ≥ 0))))
theorem run_sl_Contains_byte (a1 : (List Int)) (a2 : Int) (r : Bool) (h : sl_Contains_byte a1 a2 = some r) : Run Try.prog (.call 77 [l5 none a1, .int .u8 a2] (.bool r)) := by
 refine cW Try.func77 rfl (env0 := [(0, l5 none a1), (1, .int .u8 a2)]) ?_
 unfold sl_Contains_byte at h
 refine W.seq ?_
 refine W.rt (e2 := [(0, l5 none a1), (1, .int .u8 a2)]) ?_
 refine W.seq ?_
 refine W.rg ?_
 obtain ⟨w5, hw5, h⟩ := bind_some h
 refine WO.ck 2 (F := 93) (l := [l5 none a1, .int .u8 a2]) (C := []) (r := I6 w5) (run_sl_Index_byte a1 a2 w5 hw5) (e1 := [(0, l5 none a1), (1, .int .u8 a2), (5, l5 none a1), (6, .int .u8 a2), (7, I6 w5)]) ?_
 refine WO.fn (e2 := [(4, .bool (decide (w5 ≥ 0)))]) ?_
 refine W.wk (env' := [(4, .bool (decide (w5 ≥ 0)))]) ?_
 have hr : aresults Try.prog Try.f77 [(4, .bool (decide (w5 ≥ 0)))] = some (.bool (decide (w5 ≥ 0))) := by kernel_rfl
 cases h
 exact W.ret hr
def ix_wavelet_rank_j14 (v60 : Int) : Option Int :=
 (some v60)
def ix_wavelet_rank_l1 (a2 : Int) (K14 : (Int → Option Int)) : Nat → (Option ixwavelet) → Int → Option Int
 | 0, _, _ => none
 | m1 + 1, v15, v16 => (v15.bind fun q19 => (ixwavelet.cs q19 (fun f20 f21 f22 f23 => (bif (!f22.isNone) then (v15.bind fun q25 => (ixwavelet.cs q25 (fun f26 f27 f28 f29 => (f29.bind fun q30 => (ixwavelet.cs q30 (fun f31 f32 f33 f34 => ((sl_Contains_byte f31 a2).bind fun w35 => (bif w35 then (v15.bind fun q37 => (ixwavelet.cs q37 (fun f38 f39 f40 f41 => ((idx f39 v16).bind fun e42 => (v15.bind fun q43 => (ixwavelet.cs q43 (fun f44 f45 f46 f47 => ((ix_wavelet_rank_l1 a2 K14 m1) f47 e42)))))))) else (v15.bind fun q49 => (ixwavelet.cs q49 (fun f50 f51 f52 f53 => ((idx f51 v16).bind fun e54 => (v15.bind fun q55 => (ixwavelet.cs q55 (fun f56 f57 f58 f59 => ((ix_wavelet_rank_l1 a2 K14 m1) f58 (IntKind.wrap .i64 (v16 - e54)))))))))))))))))) else (K14 v16)))))
def ix_wavelet_rank (fuel : Nat) (a1 : (Option ixwavelet)) (a2 : Int) (a3 : Int) : Option Int :=
 (a1.bind fun q7 => (ixwavelet.cs q7 (fun f8 f9 f10 f11 => ((sl_Contains_byte f8 a2).bind fun w12 => (bif (!w12) then (some 0) else (ix_wavelet_rank_l1 a2 (ix_wavelet_rank_j14) fuel a1 a3))))))
theorem run_ix_wavelet_rank (fuel : Nat) (a1 : (Option ixwavelet)) (a2 : Int) (a3 : Int) (r : Int) (h : ix_wavelet_rank fuel a1 a2 a3 = some r) : Run Try.prog (.call 51 [ep_ixwavelet a1, .int .u8 a2, I6 a3] (I6 r)) := by
 refine cW Try.func51 rfl (env0 := [(0, ep_ixwavelet a1), (1, .int .u8 a2), (2, I6 a3)]) ?_
 unfold ix_wavelet_rank at h
 refine W.seq ?_
 let z0 := fun t => EN ((0, ep_ixwavelet a1) :: (1, .int .u8 a2) :: (2, I6 a3) :: t)
 refine W.rt (e2 := z0 []) ?_
 refine W.seq ?_
 refine W.seq ?_
 refine W.rg ?_
 obtain ⟨q7, hq7, h⟩ := bind_some h
 obtain ⟨f8, f9, f10, f11⟩ := q7
 dsimp only [ixwavelet.cs] at h
 let z1 := fun t => z0 ((7, ep_ixwavelet a1) :: (8, .ptr (.agg [l5 none f8, l3 none f9, ep_ixwavelet f10, ep_ixwavelet f11])) :: t)
 refine WO.pk 1 (match a1.isNone with | false => some (AV.ptr (e_ixwaveletx a1)) | true => none) (v := .ptr (.agg [l5 none f8, l3 none f9, ep_ixwavelet f10, ep_ixwavelet f11])) (nc_av (F := e_ixwaveletx) hq7) (e1 := z1 []) ?_
 obtain ⟨w12, hw12, h⟩ := bind_some h
 refine WO.ck 3 (F := 77) (l := [l5 none f8, .int .u8 a2]) (C := []) (r := .bool w12) (run_sl_Contains_byte f8 a2 w12 hw12) (e1 := z1 [(9, .ptr (l5 none f8)), (10, l5 none f8), (11, .int .u8 a2), (12, .bool w12)]) ?_
 refine WO.fn (e2 := z0 [(13, .bool (!w12))]) ?_
 refine W.cb (!w12) (fun hb => ?_) (fun hb => ?_)
 ·replace h := cond_t hb h
  refine W.seq ?_
  refine W.rt (e2 := [(6, .int .i64 0)]) ?_
  refine W.wk (env' := [(6, .int .i64 0)]) ?_
  have hr : aresults Try.prog Try.f51 [(6, .int .i64 0)] = some (.int .i64 0) := by kernel_rfl
  cases h
  exact W.ret hr
 replace h := cond_f hb h
 refine W.skip ?_
 refine W.wk (env' := z0 []) ?_
 refine W.seq ?_
 refine W.join (σ := (Int)) (fun s => [(2, I6 s)]) (fun s => (ix_wavelet_rank_j14) s = some r) (fun s h => ?_) (fun hK14 => ?_)
 ·obtain ⟨v60, rfl⟩ : ∃ x, x = s := ⟨s, rfl⟩
  have h : (ix_wavelet_rank_j14) v60 = some r := h
  unfold ix_wavelet_rank_j14 at h
  refine W.seq ?_
  refine W.rt (e2 := [(6, I6 v60)]) ?_
  refine W.wk (env' := [(6, I6 v60)]) ?_
  have hr : aresults Try.prog Try.f51 [(6, I6 v60)] = some (I6 v60) := by kernel_rfl
  cases h
  exact W.ret hr
 refine W.block ?_
 refine W.wk (env' := z0 []) ?_
 refine W.fuel (σ := ((Option ixwavelet) × Int)) (fun s => [(0, ep_ixwavelet s.1), (1, .int .u8 a2), (2, I6 s.2)]) (fun m0 s => ix_wavelet_rank_l1 a2 (ix_wavelet_rank_j14) m0 s.1 s.2 = some r) (fun s h => ?_) (fun m1 s h hN1 => ?_) fuel (a1, a3) h
 ·obtain ⟨v15, v16⟩ := s
  have h : ix_wavelet_rank_l1 a2 (ix_wavelet_rank_j14) 0 v15 v16 = some r := h
  rw [ix_wavelet_rank_l1.eq_1] at h
  cases h
 ·obtain ⟨v15, v16⟩ := s
  have h : ix_wavelet_rank_l1 a2 (ix_wavelet_rank_j14) (m1 + 1) v15 v16 = some r := h
  rw [ix_wavelet_rank_l1.eq_2] at h
  refine W.seq ?_
  refine W.seq ?_
  refine W.rg ?_
  obtain ⟨q19, hq19, h⟩ := bind_some h
  obtain ⟨f20, f21, f22, f23⟩ := q19
  dsimp only [ixwavelet.cs] at h
  let z2 := fun t => EN ((0, ep_ixwavelet v15) :: (1, .int .u8 a2) :: t)
  let z3 := fun t => z2 ((2, I6 v16) :: t)
  refine WO.pk 1 (match v15.isNone with | false => some (AV.ptr (e_ixwaveletx v15)) | true => none) (v := .ptr (.agg [l5 none f20, l3 none f21, ep_ixwavelet f22, ep_ixwavelet f23])) (nc_av (F := e_ixwaveletx) hq19) (e1 := z3 [(14, ep_ixwavelet v15), (15, .ptr (.agg [l5 none f20, l3 none f21, ep_ixwavelet f22, ep_ixwavelet f23]))]) ?_
  refine WO.fn (e2 := z3 [(18, .bool (!f22.isNone))]) ?_
  refine W.cb (!f22.isNone) (fun hb => ?_) (fun hb => ?_)
  ·replace h := cond_t hb h
   refine W.skip ?_
   refine W.wk (env' := z3 []) ?_
   refine W.block ?_
   refine W.seq ?_
   refine W.rg ?_
   obtain ⟨q25, hq25, h⟩ := bind_some h
   obtain ⟨f26, f27, f28, f29⟩ := q25
   dsimp only [ixwavelet.cs] at h
   let z4 := fun t => z3 ((19, ep_ixwavelet v15) :: (20, .ptr (.agg [l5 none f26, l3 none f27, ep_ixwavelet f28, ep_ixwavelet f29])) :: t)
   refine WO.pk 1 (match v15.isNone with | false => some (AV.ptr (e_ixwaveletx v15)) | true => none) (v := .ptr (.agg [l5 none f26, l3 none f27, ep_ixwavelet f28, ep_ixwavelet f29])) (nc_av (F := e_ixwaveletx) hq25) (e1 := z4 []) ?_
   obtain ⟨q30, hq30, h⟩ := bind_some h
   obtain ⟨f31, f32, f33, f34⟩ := q30
   dsimp only [ixwavelet.cs] at h
   let z5 := fun t => z4 ((21, .ptr (ep_ixwavelet f29)) :: (22, ep_ixwavelet f29) :: (23, .ptr (.agg [l5 none f31, l3 none f32, ep_ixwavelet f33, ep_ixwavelet f34])) :: t)
   refine WO.pk 2 (match f29.isNone with | false => some (AV.ptr (e_ixwaveletx f29)) | true => none) (v := .ptr (.agg [l5 none f31, l3 none f32, ep_ixwavelet f33, ep_ixwavelet f34])) (nc_av (F := e_ixwaveletx) hq30) (e1 := z5 []) ?_
   obtain ⟨w35, hw35, h⟩ := bind_some h
   refine WO.ck 3 (F := 77) (l := [l5 none f31, .int .u8 a2]) (C := []) (r := .bool w35) (run_sl_Contains_byte f31 a2 w35 hw35) (e1 := z5 [(24, .ptr (l5 none f31)), (25, l5 none f31), (26, .int .u8 a2), (27, .bool w35)]) ?_
   let z6 := fun t => z3 ((27, .bool w35) :: t)
   refine WO.fn (e2 := z6 []) ?_
   refine W.cb w35 (fun hb => ?_) (fun hb => ?_)
   ·replace h := cond_t hb h
    refine W.seq ?_
    refine W.rg ?_
    obtain ⟨q37, hq37, h⟩ := bind_some h
    obtain ⟨f38, f39, f40, f41⟩ := q37
    dsimp only [ixwavelet.cs] at h
    let z7 := fun t => z6 ((28, ep_ixwavelet v15) :: (29, .ptr (.agg [l5 none f38, l3 none f39, ep_ixwavelet f40, ep_ixwavelet f41])) :: t)
    refine WO.pk 1 (match v15.isNone with | false => some (AV.ptr (e_ixwaveletx v15)) | true => none) (v := .ptr (.agg [l5 none f38, l3 none f39, ep_ixwavelet f40, ep_ixwavelet f41])) (nc_av (F := e_ixwaveletx) hq37) (e1 := z7 []) ?_
    obtain ⟨e42, he42, h⟩ := bind_some h
    refine WO.pk 3 (if (0 : Int) ≤ v16 then ((M6 f39)[Int.toNat v16]?).map AV.ptr else none) (v := .ptr (I6 e42)) (idx_av (f := (AV.int .i64)) he42) (e1 := z7 [(30, .ptr (l3 none f39)), (31, l3 none f39), (32, I6 v16), (33, .ptr (I6 e42))]) ?_
    refine WO.fn (e2 := z2 [(2, I6 e42)]) ?_
    refine W.rg ?_
    obtain ⟨q43, hq43, h⟩ := bind_some h
    obtain ⟨f44, f45, f46, f47⟩ := q43
    dsimp only [ixwavelet.cs] at h
    refine WO.pk 1 (match v15.isNone with | false => some (AV.ptr (e_ixwaveletx v15)) | true => none) (v := .ptr (.agg [l5 none f44, l3 none f45, ep_ixwavelet f46, ep_ixwavelet f47])) (nc_av (F := e_ixwaveletx) hq43) (e1 := z2 [(2, I6 e42), (35, ep_ixwavelet v15), (36, .ptr (.agg [l5 none f44, l3 none f45, ep_ixwavelet f46, ep_ixwavelet f47]))]) ?_
    refine WO.fn (e2 := [(0, ep_ixwavelet f47), (1, .int .u8 a2), (2, I6 e42)]) ?_
    exact hN1 (f47, e42) h
   replace h := cond_f hb h
   refine W.seq ?_
   refine W.rg ?_
   obtain ⟨q49, hq49, h⟩ := bind_some h
   obtain ⟨f50, f51, f52, f53⟩ := q49
   dsimp only [ixwavelet.cs] at h
   let z8 := fun t => z6 ((39, I6 v16) :: (40, ep_ixwavelet v15) :: (41, .ptr (.agg [l5 none f50, l3 none f51, ep_ixwavelet f52, ep_ixwavelet f53])) :: t)
   refine WO.pk 2 (match v15.isNone with | false => some (AV.ptr (e_ixwaveletx v15)) | true => none) (v := .ptr (.agg [l5 none f50, l3 none f51, ep_ixwavelet f52, ep_ixwavelet f53])) (nc_av (F := e_ixwaveletx) hq49) (e1 := z8 []) ?_
   obtain ⟨e54, he54, h⟩ := bind_some h
   refine WO.pk 3 (if (0 : Int) ≤ v16 then ((M6 f51)[Int.toNat v16]?).map AV.ptr else none) (v := .ptr (I6 e54)) (idx_av (f := (AV.int .i64)) he54) (e1 := z8 [(42, .ptr (l3 none f51)), (43, l3 none f51), (44, I6 v16), (45, .ptr (I6 e54))]) ?_
   refine WO.fn (e2 := z2 [(2, I6 (W6 (v16 - e54)))]) ?_
   refine W.rg ?_
   obtain ⟨q55, hq55, h⟩ := bind_some h
   obtain ⟨f56, f57, f58, f59⟩ := q55
   dsimp only [ixwavelet.cs] at h
   refine WO.pk 1 (match v15.isNone with | false => some (AV.ptr (e_ixwaveletx v15)) | true => none) (v := .ptr (.agg [l5 none f56, l3 none f57, ep_ixwavelet f58, ep_ixwavelet f59])) (nc_av (F := e_ixwaveletx) hq55) (e1 := z2 [(2, I6 (W6 (v16 - e54))), (48, ep_ixwavelet v15), (49, .ptr (.agg [l5 none f56, l3 none f57, ep_ixwavelet f58, ep_ixwavelet f59]))]) ?_
   refine WO.fn (e2 := [(0, ep_ixwavelet f58), (1, .int .u8 a2), (2, I6 (W6 (v16 - e54)))]) ?_
   exact hN1 (f58, (W6 (v16 - e54))) h
  replace h := cond_f hb h
  refine W.exit ?_
  refine W.wk (env' := [(2, I6 v16)]) ?_
  exact hK14 v16 h
def ix_Index_before (fuel : Nat) (a1 : (Option ixIndex)) (a2 : Int) (a3 : Int) : Option Int :=
 (a1.bind fun q6 => ((idx q6.f_starts a2).bind fun e7 => (a1.bind fun q8 => ((ix_wavelet_rank fuel q8.f_w a2 a3).bind fun w9 => (some (IntKind.wrap .i64 (e7 + w9)))))))
theorem run_ix_Index_before (fuel : Nat) (a1 : (Option ixIndex)) (a2 : Int) (a3 : Int) (r : Int) (h : ix_Index_before fuel a1 a2 a3 = some r) : Run Try.prog (.call 54 [ep e_ixIndex a1, .int .u8 a2, I6 a3] (I6 r)) := by
 refine cW Try.func54 rfl (env0 := [(0, ep e_ixIndex a1), (1, .int .u8 a2), (2, I6 a3)]) ?_
 unfold ix_Index_before at h
 refine W.seq ?_
 let z0 := fun t => EN ((0, ep e_ixIndex a1) :: (1, .int .u8 a2) :: (2, I6 a3) :: t)
 refine W.rt (e2 := z0 []) ?_
 refine W.seq ?_
 refine W.rg ?_
 obtain ⟨q6, hq6, h⟩ := bind_some h
 let z1 := fun t => z0 ((7, ep e_ixIndex a1) :: (8, .ptr (.agg [ep_ixwavelet q6.f_w, I6 q6.f_length, l3 none q6.f_starts, l3 none q6.f_places])) :: t)
 refine WO.pk 1 (match a1.isNone with | false => some (AV.ptr ((epx e_ixIndex) a1)) | true => none) (v := .ptr (.agg [ep_ixwavelet q6.f_w, I6 q6.f_length, l3 none q6.f_starts, l3 none q6.f_places])) (nc_av (F := (epx e_ixIndex)) hq6) (e1 := z1 []) ?_
 obtain ⟨e7, he7, h⟩ := bind_some h
 let z2 := fun t => z1 ((9, .ptr (l3 none q6.f_starts)) :: (10, l3 none q6.f_starts) :: (11, .int .u8 a2) :: (12, .ptr (I6 e7)) :: t)
 refine WO.pk 3 (if (0 : Int) ≤ a2 then ((M6 q6.f_starts)[Int.toNat a2]?).map AV.ptr else none) (v := .ptr (I6 e7)) (idx_av (f := (AV.int .i64)) he7) (e1 := z2 []) ?_
 obtain ⟨q8, hq8, h⟩ := bind_some h
 let z3 := fun t => z2 ((13, I6 e7) :: (14, ep e_ixIndex a1) :: (15, .ptr (.agg [ep_ixwavelet q8.f_w, I6 q8.f_length, l3 none q8.f_starts, l3 none q8.f_places])) :: t)
 refine WO.pk 2 (match a1.isNone with | false => some (AV.ptr ((epx e_ixIndex) a1)) | true => none) (v := .ptr (.agg [ep_ixwavelet q8.f_w, I6 q8.f_length, l3 none q8.f_starts, l3 none q8.f_places])) (nc_av (F := (epx e_ixIndex)) hq8) (e1 := z3 []) ?_
 obtain ⟨w9, hw9, h⟩ := bind_some h
 refine WO.ck 4 (F := 51) (l := [ep_ixwavelet q8.f_w, .int .u8 a2, I6 a3]) (C := []) (r := I6 w9) (run_ix_wavelet_rank fuel q8.f_w a2 a3 w9 hw9) (e1 := z3 [(16, .ptr (ep_ixwavelet q8.f_w)), (17, ep_ixwavelet q8.f_w), (18, .int .u8 a2), (19, I6 a3), (20, I6 w9)]) ?_
 refine WO.fn (e2 := [(6, I6 (W6 (e7 + w9)))]) ?_
 refine W.wk (env' := [(6, I6 (W6 (e7 + w9)))]) ?_
 have hr : aresults Try.prog Try.f54 [(6, I6 (W6 (e7 + w9)))] = some (I6 (W6 (e7 + w9))) := by kernel_rfl
 cases h
 exact W.ret hr
def ix_Index_find_j6 (v18 : Int) (v19 : Int) : Option (Int × Int) :=
 (some (v18, (if v19 > v18 then v19 else v18)))
def ix_Index_find_l1 (fuel : Nat) (a1 : (Option ixIndex)) (a2 : ByteArray) (K6 : (Int → Int → Option (Int × Int))) : Nat → Int → Int → Int → Option (Int × Int)
 | 0, _, _, _ => none
 | m1 + 1, v8, v9, v10 => (bif (decide (v10 ≥ 0)) then ((sidx a2 v10).bind fun e14 => ((ix_Index_before fuel a1 e14 v8).bind fun w15 => ((sidx a2 v10).bind fun e16 => ((ix_Index_before fuel a1 e16 v9).bind fun w17 => ((ix_Index_find_l1 fuel a1 a2 K6 m1) w15 w17 (IntKind.wrap .i64 (v10 - 1))))))) else (K6 v8 v9))
def ix_Index_find (fuel : Nat) (a1 : (Option ixIndex)) (a2 : ByteArray) : Option (Int × Int) :=
 (a1.bind fun q5 => (ix_Index_find_l1 fuel a1 a2 (ix_Index_find_j6) fuel 0 (IntKind.wrap .i64 (q5.f_length + 1)) (IntKind.wrap .i64 ((a2.size : Int) - 1))))
theorem run_ix_Index_find (fuel : Nat) (a1 : (Option ixIndex)) (a2 : ByteArray) (r : (Int × Int)) (h : ix_Index_find fuel a1 a2 = some r) : Run Try.prog (.call 49 [ep e_ixIndex a1, .str a2] (.tup [I6 r.1, I6 r.2])) := by
 refine cW Try.func49 rfl (env0 := [(0, ep e_ixIndex a1), (1, .str a2)]) ?_
 unfold ix_Index_find at h
 refine W.seq ?_
 let z0 := fun t => EN ((0, ep e_ixIndex a1) :: (1, .str a2) :: t)
 refine W.rt (e2 := z0 []) ?_
 refine W.seq ?_
 refine W.rg ?_
 obtain ⟨q5, hq5, h⟩ := bind_some h
 refine WO.pk 1 (match a1.isNone with | false => some (AV.ptr ((epx e_ixIndex) a1)) | true => none) (v := .ptr (.agg [ep_ixwavelet q5.f_w, I6 q5.f_length, l3 none q5.f_starts, l3 none q5.f_places])) (nc_av (F := (epx e_ixIndex)) hq5) (e1 := z0 [(7, ep e_ixIndex a1), (8, .ptr (.agg [ep_ixwavelet q5.f_w, I6 q5.f_length, l3 none q5.f_starts, l3 none q5.f_places]))]) ?_
 let z1 := fun t => z0 ((4, .int .i64 0) :: (5, I6 (W6 (q5.f_length + 1))) :: t)
 refine WO.fn (e2 := z1 []) ?_
 refine W.seq ?_
 refine W.join (σ := (Int × Int)) (fun s => [(4, I6 s.1), (5, I6 s.2)]) (fun s => (ix_Index_find_j6) s.1 s.2 = some r) (fun s h => ?_) (fun hK6 => ?_)
 ·obtain ⟨v18, v19⟩ := s
  have h : (ix_Index_find_j6) v18 v19 = some r := h
  unfold ix_Index_find_j6 at h
  refine W.seq ?_
  let z2 := fun t => EN ((4, I6 v18) :: (5, I6 (if v19 > v18 then v19 else v18)) :: t)
  refine W.rt (e2 := z2 []) ?_
  refine W.wk (env' := z2 []) ?_
  have hr : aresults Try.prog Try.f49 [(4, I6 v18), (5, I6 (if v19 > v18 then v19 else v18))] = some (.tup [I6 v18, I6 (if v19 > v18 then v19 else v18)]) := by kernel_rfl
  cases h
  exact W.ret hr
 refine W.seq ?_
 let z3 := fun t => z1 ((6, I6 (W6 ((a2.size : Int) - 1))) :: t)
 refine W.rt (e2 := z3 []) ?_
 refine W.block ?_
 refine W.wk (env' := z3 []) ?_
 refine W.fuel (σ := (Int × Int × Int)) (fun s => z0 [(4, I6 s.1), (5, I6 s.2.1), (6, I6 s.2.2)]) (fun m0 s => ix_Index_find_l1 fuel a1 a2 (ix_Index_find_j6) m0 s.1 s.2.1 s.2.2 = some r) (fun s h => ?_) (fun m1 s h hN1 => ?_) fuel (0, (W6 (q5.f_length + 1)), (W6 ((a2.size : Int) - 1))) h
 ·obtain ⟨v8, v9, v10⟩ := s
  have h : ix_Index_find_l1 fuel a1 a2 (ix_Index_find_j6) 0 v8 v9 v10 = some r := h
  rw [ix_Index_find_l1.eq_1] at h
  cases h
 ·obtain ⟨v8, v9, v10⟩ := s
  have h : ix_Index_find_l1 fuel a1 a2 (ix_Index_find_j6) (m1 + 1) v8 v9 v10 = some r := h
  rw [ix_Index_find_l1.eq_2] at h
  refine W.seq ?_
  refine W.seq ?_
  let z4 := fun t => z0 ((4, I6 v8) :: (5, I6 v9) :: (6, I6 v10) :: t)
  refine W.rt (e2 := z4 [(16, .bool (decide (v10 ≥ 0)))]) ?_
  refine W.cb (decide (v10 ≥ 0)) (fun hb => ?_) (fun hb => ?_)
  ·replace h := cond_t hb h
   refine W.skip ?_
   refine W.wk (env' := z4 []) ?_
   refine W.seq ?_
   refine W.block ?_
   refine W.rg ?_
   obtain ⟨e14, he14, h⟩ := bind_some h
   let z5 := fun t => z4 ((19, ep e_ixIndex a1) :: (20, .str a2) :: (21, I6 v10) :: (22, .int .u8 e14) :: t)
   refine WO.pk 3 (if (0 : Int) ≤ v10 then (a2[Int.toNat v10]?).map fun b => AV.int .u8 b.toNat else none) (v := .int .u8 e14) (sidx_av he14) (e1 := z5 []) ?_
   obtain ⟨w15, hw15, h⟩ := bind_some h
   let z6 := fun t => z5 ((23, I6 v8) :: (24, I6 w15) :: t)
   refine WO.ck 1 (F := 54) (l := [ep e_ixIndex a1, .int .u8 e14, I6 v8]) (C := []) (r := I6 w15) (run_ix_Index_before fuel a1 e14 v8 w15 hw15) (e1 := z6 []) ?_
   obtain ⟨e16, he16, h⟩ := bind_some h
   let z7 := fun t => z6 ((25, ep e_ixIndex a1) :: (26, .str a2) :: (27, I6 v10) :: (28, .int .u8 e16) :: t)
   refine WO.pk 3 (if (0 : Int) ≤ v10 then (a2[Int.toNat v10]?).map fun b => AV.int .u8 b.toNat else none) (v := .int .u8 e16) (sidx_av he16) (e1 := z7 []) ?_
   obtain ⟨w17, hw17, h⟩ := bind_some h
   refine WO.ck 1 (F := 54) (l := [ep e_ixIndex a1, .int .u8 e16, I6 v9]) (C := []) (r := I6 w17) (run_ix_Index_before fuel a1 e16 v9 w17 hw17) (e1 := z7 [(29, I6 v9), (30, I6 w17)]) ?_
   refine WO.fn (e2 := z0 [(4, I6 w15), (5, I6 w17), (6, I6 v10)]) ?_
   refine W.rt (e2 := z0 [(4, I6 w15), (5, I6 w17), (6, I6 (W6 (v10 - 1)))]) ?_
   exact hN1 (w15, w17, (W6 (v10 - 1))) h
  replace h := cond_f hb h
  refine W.exit ?_
  refine W.wk (env' := [(4, I6 v8), (5, I6 v9)]) ?_
  exact hK6 (v8, v9) h
def ix_Index_Count (fuel : Nat) (a1 : (Option ixIndex)) (a2 : ByteArray) : Option (Int × Int) :=
 ((ix_Index_none a1).bind fun w6 => (bif w6 then (some (0, 1)) else ((ix_valid a2).bind fun w10 => (bif (!w10) then (some (0, 2)) else ((ix_Index_find fuel a1 a2).bind fun w13 => (some ((IntKind.wrap .i64 (w13.2 - w13.1)), 0)))))))
theorem run_ix_Index_Count (fuel : Nat) (a1 : (Option ixIndex)) (a2 : ByteArray) (r : (Int × Int)) (h : ix_Index_Count fuel a1 a2 = some r) : Run Try.prog (.call 32 [ep e_ixIndex a1, .str a2] (.tup [I6 r.1, I6 r.2])) := by
 refine cW Try.func32 rfl (env0 := [(0, ep e_ixIndex a1), (1, .str a2)]) ?_
 unfold ix_Index_Count at h
 refine W.seq ?_
 let z0 := fun t => EN ((0, ep e_ixIndex a1) :: (1, .str a2) :: t)
 refine W.rt (e2 := z0 []) ?_
 refine W.seq ?_
 refine W.seq ?_
 refine W.rg ?_
 obtain ⟨w6, hw6, h⟩ := bind_some h
 refine WO.ck 1 (F := 48) (l := [ep e_ixIndex a1]) (C := []) (r := .bool w6) (run_ix_Index_none a1 w6 hw6) (e1 := z0 [(8, ep e_ixIndex a1), (9, .bool w6)]) ?_
 refine WO.fn (e2 := z0 [(9, .bool w6)]) ?_
 refine W.cb w6 (fun hb => ?_) (fun hb => ?_)
 ·replace h := cond_t hb h
  refine W.seq ?_
  refine W.rt (e2 := [(4, .int .i64 0), (5, .int .i64 1)]) ?_
  refine W.wk (env' := [(4, .int .i64 0), (5, .int .i64 1)]) ?_
  have hr : aresults Try.prog Try.f32 [(4, .int .i64 0), (5, .int .i64 1)] = some (.tup [.int .i64 0, .int .i64 1]) := by kernel_rfl
  cases h
  exact W.ret hr
 replace h := cond_f hb h
 refine W.skip ?_
 refine W.wk (env' := z0 []) ?_
 refine W.seq ?_
 refine W.seq ?_
 refine W.rg ?_
 obtain ⟨w10, hw10, h⟩ := bind_some h
 refine WO.ck 1 (F := 40) (l := [.str a2]) (C := []) (r := .bool w10) (run_ix_valid a2 w10 hw10) (e1 := z0 [(10, .str a2), (11, .bool w10)]) ?_
 refine WO.fn (e2 := z0 [(12, .bool (!w10))]) ?_
 refine W.cb (!w10) (fun hb => ?_) (fun hb => ?_)
 ·replace h := cond_t hb h
  refine W.seq ?_
  refine W.rt (e2 := [(4, .int .i64 0), (5, .int .i64 2)]) ?_
  refine W.wk (env' := [(4, .int .i64 0), (5, .int .i64 2)]) ?_
  have hr : aresults Try.prog Try.f32 [(4, .int .i64 0), (5, .int .i64 2)] = some (.tup [.int .i64 0, .int .i64 2]) := by kernel_rfl
  cases h
  exact W.ret hr
 replace h := cond_f hb h
 refine W.skip ?_
 refine W.wk (env' := z0 []) ?_
 refine W.seq ?_
 refine W.rg ?_
 obtain ⟨w13, hw13, h⟩ := bind_some h
 refine WO.ck 2 (F := 49) (l := [ep e_ixIndex a1, .str a2]) (C := []) (r := .tup [I6 w13.1, I6 w13.2]) (run_ix_Index_find fuel a1 a2 w13 hw13) (e1 := z0 [(14, ep e_ixIndex a1), (15, .str a2), (16, .tup [I6 w13.1, I6 w13.2])]) ?_
 refine WO.fn (e2 := [(6, I6 w13.1), (7, I6 w13.2)]) ?_
 refine W.seq ?_
 let z1 := fun t => EN ((4, I6 (W6 (w13.2 - w13.1))) :: (5, .int .i64 0) :: t)
 refine W.rt (e2 := z1 []) ?_
 refine W.wk (env' := z1 []) ?_
 have hr : aresults Try.prog Try.f32 [(4, I6 (W6 (w13.2 - w13.1))), (5, .int .i64 0)] = some (.tup [I6 (W6 (w13.2 - w13.1)), .int .i64 0]) := by kernel_rfl
 cases h
 exact W.ret hr
def lw4_IndexMatching_j14 (v16 : Bool) : Option Bool :=
 (some v16)
def lw4_IndexMatching_j46 : Option Bool :=
 ((lw4_awake).bind fun w53 => (some w53))
def lw4_IndexMatching_l2 (w5 : ByteArray) (K46 : (Option Bool)) : List Int → Nat → Option Bool
 | [], k2 => K46
 | x2 :: r2, k2 => (bif (x2 != (IntKind.wrap .i64 ((w5.size : Int) - (k2 : Int)))) then (some false) else (lw4_IndexMatching_l2 w5 K46 r2 (k2 + 1)))
def lw4_IndexMatching_j23 (w5 : ByteArray) (w10 : ((List Int) × Int)) : Option Bool :=
 (chk (lenOk w10.1) (lw4_IndexMatching_l2 w5 (lw4_IndexMatching_j46) w10.1 0))
def lw4_IndexMatching_j25 (N1 : (Option Bool)) : Option Bool :=
 N1
def lw4_IndexMatching_j43 (K25 : (Option Bool)) (v44 : Bool) : Option Bool :=
 (bif v44 then (some false) else K25)
def lw4_IndexMatching_j36 (fuel : Nat) (k1 : Nat) (x1 : Int) (w6 : ByteArray) (w18 : ((Option ixIndex) × Int)) (K25 : (Option Bool)) (v37 : Bool) : Option Bool :=
 (bif v37 then (some false) else (bif (decide ((IntKind.wrap .i64 ((k1 : Int) + x1)) < (w6.size : Int))) then ((ssub w6 (k1 : Int) (IntKind.wrap .i64 ((IntKind.wrap .i64 ((k1 : Int) + x1)) + 1))).bind fun e41 => ((ix_Index_Count fuel w18.1 e41).bind fun w42 => (bif (w42.1 != 0) then ((lw4_IndexMatching_j43 K25) true) else ((lw4_IndexMatching_j43 K25) (w42.2 != 0))))) else K25))
def lw4_IndexMatching_j28 (fuel : Nat) (k1 : Nat) (x1 : Int) (w6 : ByteArray) (w18 : ((Option ixIndex) × Int)) (K25 : (Option Bool)) (v30 : Bool) : Option Bool :=
 (bif v30 then (some false) else ((ssub w6 (k1 : Int) (IntKind.wrap .i64 ((k1 : Int) + x1))).bind fun e33 => ((ix_Index_Count fuel w18.1 e33).bind fun w34 => (bif (w34.1 == 0) then ((lw4_IndexMatching_j36 fuel k1 x1 w6 w18 K25) true) else ((lw4_IndexMatching_j36 fuel k1 x1 w6 w18 K25) (w34.2 != 0))))))
def lw4_IndexMatching_l1 (fuel : Nat) (w6 : ByteArray) (w8 : ((List Int) × Int)) (w18 : ((Option ixIndex) × Int)) (K23 : (Option Bool)) : List Int → Nat → Option Bool
 | [], k1 => K23
 | x1 :: r1, k1 => (bif (decide (x1 < 0)) then ((lw4_IndexMatching_j28 fuel k1 x1 w6 w18 (lw4_IndexMatching_j25 (lw4_IndexMatching_l1 fuel w6 w8 w18 K23 r1 (k1 + 1)))) true) else (bif (decide (x1 > (IntKind.wrap .i64 ((w6.size : Int) - (k1 : Int))))) then ((lw4_IndexMatching_j28 fuel k1 x1 w6 w18 (lw4_IndexMatching_j25 (lw4_IndexMatching_l1 fuel w6 w8 w18 K23 r1 (k1 + 1)))) true) else (bif (decide ((k1 : Int) > 0)) then ((idx w8.1 (IntKind.wrap .i64 ((k1 : Int) - 1))).bind fun e29 => ((lw4_IndexMatching_j28 fuel k1 x1 w6 w18 (lw4_IndexMatching_j25 (lw4_IndexMatching_l1 fuel w6 w8 w18 K23 r1 (k1 + 1)))) (decide (x1 < (IntKind.wrap .i64 (e29 - 1)))))) else ((lw4_IndexMatching_j28 fuel k1 x1 w6 w18 (lw4_IndexMatching_j25 (lw4_IndexMatching_l1 fuel w6 w8 w18 K23 r1 (k1 + 1)))) false))))
def lw4_IndexMatching_j20 (fuel : Nat) (w5 : ByteArray) (w6 : ByteArray) (w8 : ((List Int) × Int)) (w10 : ((List Int) × Int)) (w18 : ((Option ixIndex) × Int)) (v21 : Bool) : Option Bool :=
 (bif v21 then (some false) else (chk (lenOk w8.1) (lw4_IndexMatching_l1 fuel w6 w8 w18 (lw4_IndexMatching_j23 w5 w10) w8.1 0)))
def lw4_IndexMatching_j12 (fuel : Nat) (w5 : ByteArray) (w6 : ByteArray) (w8 : ((List Int) × Int)) (w10 : ((List Int) × Int)) (v13 : Bool) : Option Bool :=
 (bif v13 then (bif (w8.2 == 2) then ((lw4_awake).bind fun w15 => ((lw4_IndexMatching_j14) w15)) else ((lw4_IndexMatching_j14) false)) else ((ix_New fuel w5).bind fun w18 => (bif (w18.2 != 0) then ((lw4_IndexMatching_j20 fuel w5 w6 w8 w10 w18) true) else (bif ((w8.1.length : Int) != (w6.size : Int)) then ((lw4_IndexMatching_j20 fuel w5 w6 w8 w10 w18) true) else ((lw4_IndexMatching_j20 fuel w5 w6 w8 w10 w18) ((w10.1.length : Int) != (w5.size : Int)))))))
def lw4_IndexMatching (fuel : Nat) (a1 : ByteArray) (a2 : ByteArray) : Option Bool :=
 ((lw4_few a1).bind fun w5 => ((lw4_few a2).bind fun w6 => ((ix_Match fuel w5 w6).bind fun w8 => ((ix_Match fuel w5 w5).bind fun w10 => (bif (w8.2 != 0) then ((lw4_IndexMatching_j12 fuel w5 w6 w8 w10) true) else ((lw4_IndexMatching_j12 fuel w5 w6 w8 w10) (w10.2 != 0)))))))
theorem run_lw4_IndexMatching (fuel : Nat) (a1 : ByteArray) (a2 : ByteArray) (r : Bool) (h : lw4_IndexMatching fuel a1 a2 = some r) : Run Try.prog (.call 12 [.str a1, .str a2] (.bool r)) := by
 refine cW Try.func12 rfl (env0 := [(0, .str a1), (1, .str a2)]) ?_
 unfold lw4_IndexMatching at h
 refine W.seq ?_
 let z0 := fun t => EN ((0, .str a1) :: (1, .str a2) :: t)
 refine W.rt (e2 := z0 []) ?_
 refine W.seq ?_
 refine W.rg ?_
 obtain ⟨w5, hw5, h⟩ := bind_some h
 refine WO.ck 1 (F := 14) (l := [.str a1]) (C := []) (r := .str w5) (run_lw4_few a1 w5 hw5) (e1 := z0 [(19, .str a1), (20, .str w5)]) ?_
 obtain ⟨w6, hw6, h⟩ := bind_some h
 refine WO.ck 1 (F := 14) (l := [.str a2]) (C := []) (r := .str w6) (run_lw4_few a2 w6 hw6) (e1 := z0 [(19, .str a1), (20, .str w5), (21, .str a2), (22, .str w6)]) ?_
 let z1 := fun t => EN ((0, .str w5) :: (1, .str w6) :: t)
 refine WO.fn (e2 := z1 []) ?_
 refine W.seq ?_
 refine W.rg ?_
 obtain ⟨w8, hw8, h⟩ := bind_some h
 refine WO.ck 2 (F := 22) (l := [.str w5, .str w6]) (C := []) (r := .tup [l3 none w8.1, I6 w8.2]) (run_ix_Match fuel w5 w6 w8 hw8) (e1 := z1 [(24, .str w5), (25, .str w6), (26, .tup [l3 none w8.1, I6 w8.2])]) ?_
 let z2 := fun t => z1 ((5, l3 none w8.1) :: t)
 let z3 := fun t => z2 ((6, I6 w8.2) :: t)
 refine WO.fn (e2 := z3 []) ?_
 refine W.seq ?_
 refine W.rg ?_
 obtain ⟨w10, hw10, h⟩ := bind_some h
 refine WO.ck 2 (F := 22) (l := [.str w5, .str w5]) (C := []) (r := .tup [l3 none w10.1, I6 w10.2]) (run_ix_Match fuel w5 w5 w10 hw10) (e1 := z3 [(30, .str w5), (31, .str w5), (32, .tup [l3 none w10.1, I6 w10.2])]) ?_
 let z4 := fun t => z3 ((7, l3 none w10.1) :: t)
 refine WO.fn (e2 := z4 [(8, I6 w10.2)]) ?_
 refine W.seq ?_
 refine W.seq ?_
 refine W.join (σ := (Bool)) (fun s => z4 [(40, .bool s)]) (fun s => (lw4_IndexMatching_j12 fuel w5 w6 w8 w10) s = some r) (fun s h => ?_) (fun hK12 => ?_)
 ·obtain ⟨v13, rfl⟩ : ∃ x, x = s := ⟨s, rfl⟩
  have h : (lw4_IndexMatching_j12 fuel w5 w6 w8 w10) v13 = some r := h
  unfold lw4_IndexMatching_j12 at h
  refine W.cb v13 (fun hb => ?_) (fun hb => ?_)
  ·replace h := cond_t hb h
   refine W.seq ?_
   refine W.join (σ := (Bool)) (fun s => [(4, .bool s)]) (fun s => (lw4_IndexMatching_j14) s = some r) (fun s h => ?_) (fun hK14 => ?_)
   ·obtain ⟨v16, rfl⟩ : ∃ x, x = s := ⟨s, rfl⟩
    have h : (lw4_IndexMatching_j14) v16 = some r := h
    unfold lw4_IndexMatching_j14 at h
    refine W.wk (env' := [(4, .bool v16)]) ?_
    have hr : aresults Try.prog Try.f12 [(4, .bool v16)] = some (.bool v16) := by kernel_rfl
    cases h
    exact W.ret hr
   refine W.rg ?_
   refine WO.bk 3 (fun b => z4 [(40, .bool v13), (41, I6 w8.2), (42, .bool b), (43, .bool b)]) (w8.2 == 2) (fun hb => ?_) (fun hb => ?_)
   ·replace h := cond_t hb h
    obtain ⟨w15, hw15, h⟩ := bind_some h
    refine WO.ck 0 (F := 18) (l := []) (C := []) (r := .bool w15) (run_lw4_awake w15 hw15) (e1 := z4 [(40, .bool v13), (41, I6 w8.2), (42, .bool true), (43, .bool true), (44, .bool w15)]) ?_
    refine WO.fn (e2 := [(4, .bool w15)]) ?_
    exact hK14 w15 h
   replace h := cond_f hb h
   refine WO.fn (e2 := [(4, .bool false)]) ?_
   exact hK14 false h
  replace h := cond_f hb h
  refine W.skip ?_
  let z5 := fun t => z2 ((7, l3 none w10.1) :: t)
  refine W.wk (env' := z5 []) ?_
  refine W.seq ?_
  refine W.rg ?_
  obtain ⟨w18, hw18, h⟩ := bind_some h
  refine WO.ck 1 (F := 36) (l := [.str w5]) (C := []) (r := .tup [ep e_ixIndex w18.1, I6 w18.2]) (run_ix_New fuel w5 w18 hw18) (e1 := z5 [(47, .str w5), (48, .tup [ep e_ixIndex w18.1, I6 w18.2])]) ?_
  let z6 := fun t => z5 ((9, ep e_ixIndex w18.1) :: t)
  let z7 := fun t => z6 ((10, I6 w18.2) :: t)
  refine WO.fn (e2 := z7 []) ?_
  refine W.seq ?_
  refine W.seq ?_
  refine W.join (σ := (Bool)) (fun s => z6 [(66, .bool s)]) (fun s => (lw4_IndexMatching_j20 fuel w5 w6 w8 w10 w18) s = some r) (fun s h => ?_) (fun hK20 => ?_)
  ·obtain ⟨v21, rfl⟩ : ∃ x, x = s := ⟨s, rfl⟩
   have h : (lw4_IndexMatching_j20 fuel w5 w6 w8 w10 w18) v21 = some r := h
   unfold lw4_IndexMatching_j20 at h
   refine W.cb v21 (fun hb => ?_) (fun hb => ?_)
   ·replace h := cond_t hb h
    refine W.seq ?_
    refine W.rt (e2 := [(4, .bool false)]) ?_
    refine W.wk (env' := [(4, .bool false)]) ?_
    have hr : aresults Try.prog Try.f12 [(4, .bool false)] = some (.bool false) := by kernel_rfl
    cases h
    exact W.ret hr
   replace h := cond_f hb h
   refine W.skip ?_
   refine W.wk (env' := z6 []) ?_
   refine W.seq ?_
   let z8 := fun t => EN ((0, .str w5) :: t)
   let z9 := fun t => z8 ((7, l3 none w10.1) :: t)
   refine W.join (σ := Unit) (fun s => z9 []) (fun s => (lw4_IndexMatching_j23 w5 w10) = some r) (fun s h => ?_) (fun hK23 => ?_)
   ·have h : (lw4_IndexMatching_j23 w5 w10) = some r := h
    unfold lw4_IndexMatching_j23 at h
    refine W.seq ?_
    refine W.join (σ := Unit) (fun s => []) (fun s => (lw4_IndexMatching_j46) = some r) (fun s h => ?_) (fun hK46 => ?_)
    ·have h : (lw4_IndexMatching_j46) = some r := h
     unfold lw4_IndexMatching_j46 at h
     refine W.seq ?_
     refine W.rg ?_
     obtain ⟨w53, hw53, h⟩ := bind_some h
     refine WO.ck 0 (F := 18) (l := []) (C := []) (r := .bool w53) (run_lw4_awake w53 hw53) (e1 := [(154, .bool w53)]) ?_
     refine WO.fn (e2 := [(4, .bool w53)]) ?_
     refine W.wk (env' := [(4, .bool w53)]) ?_
     have hr : aresults Try.prog Try.f12 [(4, .bool w53)] = some (.bool w53) := by kernel_rfl
     cases h
     exact W.ret hr
    refine W.seq ?_
    refine W.rg ?_
    refine WO.pk 1 (some (I6 ((M6 w10.1).length : Int))) (v := I6 (w10.1.length : Int)) (by rw [List.length_map]) (e1 := z9 [(140, l3 none w10.1), (141, I6 (w10.1.length : Int))]) ?_
    let z10 := fun t => z8 ((140, l3 none w10.1) :: (141, I6 (w10.1.length : Int)) :: t)
    refine WO.fn (e2 := z10 [(142, .int .i64 0)]) ?_
    refine W.block ?_
    obtain ⟨hl2, h⟩ := chk_some h
    refine W.wk (env' := z10 [(142, I6 ((0 : Nat) : Int))]) ?_
    refine W.range (σ := Unit) w10.1 (fun k2 s => z10 [(142, I6 (k2 : Int))]) (fun r0 k0 s => lw4_IndexMatching_l2 w5 (lw4_IndexMatching_j46) r0 k0 = some r) (fun s h => ?_) (fun x2 r2 k2 s hx2 hk2 h hN2 => ?_) () h
    ·have h : lw4_IndexMatching_l2 w5 (lw4_IndexMatching_j46) [] (w10.1).length = some r := h
     rw [lw4_IndexMatching_l2.eq_1] at h
     refine W.seq ?_
     refine W.rg ?_
     let z11 := fun t => z10 ((142, I6 ((w10.1).length : Int)) :: (143, .bool false) :: t)
     refine WO.pk 0 (some (.bool (decide (((w10.1).length : Int) < (w10.1.length : Int))))) (v := .bool false) (by rw [lt_false (l := w10.1)]) (e1 := z11 []) ?_
     refine WO.fn (e2 := z11 []) ?_
     refine W.seq ?_
     refine W.cb false (fun h => Bool.noConfusion h) (fun _ => ?_)
     refine W.exit ?_
     refine W.wk (env' := []) ?_
     exact hK46 () h
    ·have h : lw4_IndexMatching_l2 w5 (lw4_IndexMatching_j46) (x2 :: r2) k2 = some r := h
     rw [lw4_IndexMatching_l2.eq_2] at h
     refine W.seq ?_
     refine W.rg ?_
     let z12 := fun t => z10 ((142, I6 (k2 : Int)) :: t)
     refine WO.pk 0 (some (.bool (decide ((k2 : Int) < (w10.1.length : Int))))) (v := .bool true) (by rw [lt_true hk2]) (e1 := z12 [(143, .bool true)]) ?_
     refine WO.fn (e2 := z12 [(143, .bool true)]) ?_
     refine W.seq ?_
     refine W.cb true (fun _ => ?_) (fun h => Bool.noConfusion h)
     refine W.skip ?_
     refine W.wk (env' := z12 []) ?_
     refine W.seq ?_
     refine W.block ?_
     refine W.seq ?_
     refine W.rg ?_
     refine WO.pk 1 (if (0 : Int) ≤ (k2 : Int) then ((M6 w10.1)[Int.toNat (k2 : Int)]?).map AV.ptr else none) (v := .ptr (I6 x2)) (idx_nat (f := (AV.int .i64)) hx2) (e1 := z12 [(144, I6 (k2 : Int)), (145, .ptr (I6 x2))]) ?_
     refine WO.fn (e2 := z8 [(17, I6 (k2 : Int)), (18, I6 x2), (140, l3 none w10.1), (141, I6 (w10.1.length : Int)), (142, I6 (k2 : Int))]) ?_
     refine W.seq ?_
     refine W.rt (e2 := z12 [(152, .bool (x2 != (W6 ((w5.size : Int) - (k2 : Int)))))]) ?_
     refine W.cb (x2 != (W6 ((w5.size : Int) - (k2 : Int)))) (fun hb => ?_) (fun hb => ?_)
     ·replace h := cond_t hb h
      refine W.seq ?_
      refine W.rt (e2 := [(4, .bool false)]) ?_
      refine W.wk (env' := [(4, .bool false)]) ?_
      have hr : aresults Try.prog Try.f12 [(4, .bool false)] = some (.bool false) := by kernel_rfl
      cases h
      exact W.ret hr
     replace h := cond_f hb h
     refine W.skip ?_
     refine W.wk (env' := z12 []) ?_
     refine W.rg ?_
     refine WO.pk 0 (some (I6 (IntKind.wrap .i64 ((k2 : Int) + 1)))) (v := I6 ((k2 + 1 : Nat) : Int)) (by rw [wrap_succ hl2 hk2]) (e1 := z12 [(153, I6 ((k2 + 1 : Nat) : Int))]) ?_
     refine WO.fn (e2 := z10 [(142, I6 ((k2 + 1 : Nat) : Int))]) ?_
     exact hN2 () h
   refine W.seq ?_
   refine W.rg ?_
   let z13 := fun t => z6 ((67, l3 none w8.1) :: (68, I6 (w8.1.length : Int)) :: t)
   refine WO.pk 1 (some (I6 ((M6 w8.1).length : Int))) (v := I6 (w8.1.length : Int)) (by rw [List.length_map]) (e1 := z13 []) ?_
   refine WO.fn (e2 := z13 [(69, .int .i64 0)]) ?_
   refine W.block ?_
   obtain ⟨hl1, h⟩ := chk_some h
   refine W.wk (env' := z13 [(69, I6 ((0 : Nat) : Int))]) ?_
   refine W.range (σ := Unit) w8.1 (fun k1 s => z13 [(69, I6 (k1 : Int))]) (fun r0 k0 s => lw4_IndexMatching_l1 fuel w6 w8 w18 (lw4_IndexMatching_j23 w5 w10) r0 k0 = some r) (fun s h => ?_) (fun x1 r1 k1 s hx1 hk1 h hN1 => ?_) () h
   ·have h : lw4_IndexMatching_l1 fuel w6 w8 w18 (lw4_IndexMatching_j23 w5 w10) [] (w8.1).length = some r := h
    rw [lw4_IndexMatching_l1.eq_1] at h
    refine W.seq ?_
    refine W.rg ?_
    let z14 := fun t => z13 ((69, I6 ((w8.1).length : Int)) :: (70, .bool false) :: t)
    refine WO.pk 0 (some (.bool (decide (((w8.1).length : Int) < (w8.1.length : Int))))) (v := .bool false) (by rw [lt_false (l := w8.1)]) (e1 := z14 []) ?_
    refine WO.fn (e2 := z14 []) ?_
    refine W.seq ?_
    refine W.cb false (fun h => Bool.noConfusion h) (fun _ => ?_)
    refine W.exit ?_
    refine W.wk (env' := z9 []) ?_
    exact hK23 () h
   ·have h : lw4_IndexMatching_l1 fuel w6 w8 w18 (lw4_IndexMatching_j23 w5 w10) (x1 :: r1) k1 = some r := h
    rw [lw4_IndexMatching_l1.eq_2] at h
    refine W.seq ?_
    refine W.rg ?_
    let z15 := fun t => z13 ((69, I6 (k1 : Int)) :: t)
    refine WO.pk 0 (some (.bool (decide ((k1 : Int) < (w8.1.length : Int))))) (v := .bool true) (by rw [lt_true hk1]) (e1 := z15 [(70, .bool true)]) ?_
    refine WO.fn (e2 := z15 [(70, .bool true)]) ?_
    refine W.seq ?_
    refine W.cb true (fun _ => ?_) (fun h => Bool.noConfusion h)
    refine W.skip ?_
    refine W.wk (env' := z15 []) ?_
    refine W.seq ?_
    refine W.join (σ := Unit) (fun s => z15 []) (fun s => (lw4_IndexMatching_j25 (lw4_IndexMatching_l1 fuel w6 w8 w18 (lw4_IndexMatching_j23 w5 w10) r1 (k1 + 1))) = some r) (fun s h => ?_) (fun hK25 => ?_)
    ·have h : (lw4_IndexMatching_j25 (lw4_IndexMatching_l1 fuel w6 w8 w18 (lw4_IndexMatching_j23 w5 w10) r1 (k1 + 1))) = some r := h
     unfold lw4_IndexMatching_j25 at h
     refine W.rg ?_
     refine WO.pk 0 (some (I6 (IntKind.wrap .i64 ((k1 : Int) + 1)))) (v := I6 ((k1 + 1 : Nat) : Int)) (by rw [wrap_succ hl1 hk1]) (e1 := z15 [(139, I6 ((k1 + 1 : Nat) : Int))]) ?_
     refine WO.fn (e2 := z13 [(69, I6 ((k1 + 1 : Nat) : Int))]) ?_
     exact hN1 () h
    refine W.block ?_
    refine W.seq ?_
    refine W.rg ?_
    refine WO.pk 1 (if (0 : Int) ≤ (k1 : Int) then ((M6 w8.1)[Int.toNat (k1 : Int)]?).map AV.ptr else none) (v := .ptr (I6 x1)) (idx_nat (f := (AV.int .i64)) hx1) (e1 := z15 [(71, I6 (k1 : Int)), (72, .ptr (I6 x1))]) ?_
    let z16 := fun t => z6 ((11, I6 (k1 : Int)) :: (12, I6 x1) :: (67, l3 none w8.1) :: (68, I6 (w8.1.length : Int)) :: (69, I6 (k1 : Int)) :: t)
    refine WO.fn (e2 := z16 []) ?_
    refine W.seq ?_
    refine W.seq ?_
    refine W.join (σ := (Bool)) (fun s => z16 [(97, .bool s)]) (fun s => (lw4_IndexMatching_j28 fuel k1 x1 w6 w18 (lw4_IndexMatching_j25 (lw4_IndexMatching_l1 fuel w6 w8 w18 (lw4_IndexMatching_j23 w5 w10) r1 (k1 + 1)))) s = some r) (fun s h => ?_) (fun hK28 => ?_)
    ·obtain ⟨v30, rfl⟩ : ∃ x, x = s := ⟨s, rfl⟩
     have h : (lw4_IndexMatching_j28 fuel k1 x1 w6 w18 (lw4_IndexMatching_j25 (lw4_IndexMatching_l1 fuel w6 w8 w18 (lw4_IndexMatching_j23 w5 w10) r1 (k1 + 1)))) v30 = some r := h
     unfold lw4_IndexMatching_j28 at h
     refine W.cb v30 (fun hb => ?_) (fun hb => ?_)
     ·replace h := cond_t hb h
      refine W.seq ?_
      refine W.rt (e2 := [(4, .bool false)]) ?_
      refine W.wk (env' := [(4, .bool false)]) ?_
      have hr : aresults Try.prog Try.f12 [(4, .bool false)] = some (.bool false) := by kernel_rfl
      cases h
      exact W.ret hr
     replace h := cond_f hb h
     refine W.skip ?_
     refine W.wk (env' := z16 []) ?_
     refine W.seq ?_
     refine W.rg ?_
     obtain ⟨e33, he33, h⟩ := bind_some h
     let z17 := fun t => z16 ((99, ep e_ixIndex w18.1) :: (100, .str w6) :: (101, I6 (k1 : Int)) :: (102, I6 (k1 : Int)) :: (103, I6 x1) :: (104, I6 (W6 ((k1 : Int) + x1))) :: (105, .str e33) :: t)
     refine WO.pk 6 (if (0 : Int) ≤ (k1 : Int) ∧ (k1 : Int) ≤ (W6 ((k1 : Int) + x1)) ∧ (W6 ((k1 : Int) + x1)) ≤ (w6.size : Int) then some (AV.str (w6.extract (Int.toNat (k1 : Int)) (Int.toNat (W6 ((k1 : Int) + x1))))) else none) (v := .str e33) (ssub_av he33) (e1 := z17 []) ?_
     obtain ⟨w34, hw34, h⟩ := bind_some h
     refine WO.ck 0 (F := 32) (l := [ep e_ixIndex w18.1, .str e33]) (C := []) (r := .tup [I6 w34.1, I6 w34.2]) (run_ix_Index_Count fuel w18.1 e33 w34 hw34) (e1 := z17 [(106, .tup [I6 w34.1, I6 w34.2])]) ?_
     let z18 := fun t => z6 ((11, I6 (k1 : Int)) :: (12, I6 x1) :: t)
     let z19 := fun t => z18 ((13, I6 w34.1) :: (14, I6 w34.2) :: (67, l3 none w8.1) :: (68, I6 (w8.1.length : Int)) :: (69, I6 (k1 : Int)) :: t)
     refine WO.fn (e2 := z19 []) ?_
     refine W.seq ?_
     refine W.seq ?_
     refine W.join (σ := (Bool)) (fun s => z16 [(114, .bool s)]) (fun s => (lw4_IndexMatching_j36 fuel k1 x1 w6 w18 (lw4_IndexMatching_j25 (lw4_IndexMatching_l1 fuel w6 w8 w18 (lw4_IndexMatching_j23 w5 w10) r1 (k1 + 1)))) s = some r) (fun s h => ?_) (fun hK36 => ?_)
     ·obtain ⟨v37, rfl⟩ : ∃ x, x = s := ⟨s, rfl⟩
      have h : (lw4_IndexMatching_j36 fuel k1 x1 w6 w18 (lw4_IndexMatching_j25 (lw4_IndexMatching_l1 fuel w6 w8 w18 (lw4_IndexMatching_j23 w5 w10) r1 (k1 + 1)))) v37 = some r := h
      unfold lw4_IndexMatching_j36 at h
      refine W.cb v37 (fun hb => ?_) (fun hb => ?_)
      ·replace h := cond_t hb h
       refine W.seq ?_
       refine W.rt (e2 := [(4, .bool false)]) ?_
       refine W.wk (env' := [(4, .bool false)]) ?_
       have hr : aresults Try.prog Try.f12 [(4, .bool false)] = some (.bool false) := by kernel_rfl
       cases h
       exact W.ret hr
      replace h := cond_f hb h
      refine W.skip ?_
      refine W.wk (env' := z16 []) ?_
      refine W.seq ?_
      let z20 := fun t => z16 ((120, .bool (decide ((W6 ((k1 : Int) + x1)) < (w6.size : Int)))) :: t)
      refine W.rt (e2 := z20 []) ?_
      refine W.cb (decide ((W6 ((k1 : Int) + x1)) < (w6.size : Int))) (fun hb => ?_) (fun hb => ?_)
      ·replace h := cond_t hb h
       refine W.seq ?_
       refine W.rg ?_
       obtain ⟨e41, he41, h⟩ := bind_some h
       let z21 := fun t => z20 ((122, ep e_ixIndex w18.1) :: (123, .str w6) :: (124, I6 (k1 : Int)) :: (125, I6 (k1 : Int)) :: (126, I6 x1) :: (127, I6 (W6 ((k1 : Int) + x1))) :: (128, I6 (W6 ((W6 ((k1 : Int) + x1)) + 1))) :: (129, .str e41) :: t)
       refine WO.pk 7 (if (0 : Int) ≤ (k1 : Int) ∧ (k1 : Int) ≤ (W6 ((W6 ((k1 : Int) + x1)) + 1)) ∧ (W6 ((W6 ((k1 : Int) + x1)) + 1)) ≤ (w6.size : Int) then some (AV.str (w6.extract (Int.toNat (k1 : Int)) (Int.toNat (W6 ((W6 ((k1 : Int) + x1)) + 1))))) else none) (v := .str e41) (ssub_av he41) (e1 := z21 []) ?_
       obtain ⟨w42, hw42, h⟩ := bind_some h
       refine WO.ck 0 (F := 32) (l := [ep e_ixIndex w18.1, .str e41]) (C := []) (r := .tup [I6 w42.1, I6 w42.2]) (run_ix_Index_Count fuel w18.1 e41 w42 hw42) (e1 := z21 [(130, .tup [I6 w42.1, I6 w42.2])]) ?_
       let z22 := fun t => z6 ((15, I6 w42.1) :: (16, I6 w42.2) :: (67, l3 none w8.1) :: (68, I6 (w8.1.length : Int)) :: (69, I6 (k1 : Int)) :: t)
       refine WO.fn (e2 := z22 []) ?_
       refine W.seq ?_
       refine W.join (σ := (Bool)) (fun s => z15 [(138, .bool s)]) (fun s => (lw4_IndexMatching_j43 (lw4_IndexMatching_j25 (lw4_IndexMatching_l1 fuel w6 w8 w18 (lw4_IndexMatching_j23 w5 w10) r1 (k1 + 1)))) s = some r) (fun s h => ?_) (fun hK43 => ?_)
       ·obtain ⟨v44, rfl⟩ : ∃ x, x = s := ⟨s, rfl⟩
        have h : (lw4_IndexMatching_j43 (lw4_IndexMatching_j25 (lw4_IndexMatching_l1 fuel w6 w8 w18 (lw4_IndexMatching_j23 w5 w10) r1 (k1 + 1)))) v44 = some r := h
        unfold lw4_IndexMatching_j43 at h
        refine W.cb v44 (fun hb => ?_) (fun hb => ?_)
        ·replace h := cond_t hb h
         refine W.seq ?_
         refine W.rt (e2 := [(4, .bool false)]) ?_
         refine W.wk (env' := [(4, .bool false)]) ?_
         have hr : aresults Try.prog Try.f12 [(4, .bool false)] = some (.bool false) := by kernel_rfl
         cases h
         exact W.ret hr
        replace h := cond_f hb h
        refine W.skip ?_
        refine W.wk (env' := z15 []) ?_
        exact hK25 () h
       refine W.rg ?_
       refine WO.bk 3 (fun b => z22 [(133, I6 w42.1), (134, .bool b), (135, .bool b)]) (w42.1 != 0) (fun hb => ?_) (fun hb => ?_)
       ·replace h := cond_t hb h
        refine WO.fn (e2 := z15 [(138, .bool true)]) ?_
        exact hK43 true h
       replace h := cond_f hb h
       refine WO.fn (e2 := z15 [(138, .bool (w42.2 != 0))]) ?_
       exact hK43 (w42.2 != 0) h
      replace h := cond_f hb h
      refine W.skip ?_
      refine W.wk (env' := z15 []) ?_
      exact hK25 () h
     refine W.rg ?_
     refine WO.bk 3 (fun b => z19 [(109, I6 w34.1), (110, .bool b), (111, .bool b)]) (w34.1 == 0) (fun hb => ?_) (fun hb => ?_)
     ·replace h := cond_t hb h
      refine WO.fn (e2 := z16 [(114, .bool true)]) ?_
      exact hK36 true h
     replace h := cond_f hb h
     refine WO.fn (e2 := z16 [(114, .bool (w34.2 != 0))]) ?_
     exact hK36 (w34.2 != 0) h
    refine W.rg ?_
    refine WO.bk 3 (fun b => z16 [(74, I6 x1), (75, .bool b), (76, .bool b)]) (decide (x1 < 0)) (fun hb => ?_) (fun hb => ?_)
    ·replace h := cond_t hb h
     refine WO.fn (e2 := z16 [(97, .bool true)]) ?_
     exact hK28 true h
    replace h := cond_f hb h
    let z23 := fun t => z16 ((74, I6 x1) :: (75, .bool false) :: (76, .bool false) :: (77, I6 x1) :: (78, .str w6) :: (79, I6 (w6.size : Int)) :: (80, I6 (k1 : Int)) :: (81, I6 (W6 ((w6.size : Int) - (k1 : Int)))) :: t)
    refine WO.bk 8 (fun b => z23 [(82, .bool b), (83, .bool b), (84, .bool b)]) (decide (x1 > (W6 ((w6.size : Int) - (k1 : Int))))) (fun hb => ?_) (fun hb => ?_)
    ·replace h := cond_t hb h
     refine WO.fn (e2 := z16 [(97, .bool true)]) ?_
     exact hK28 true h
    replace h := cond_f hb h
    let z24 := fun t => z23 ((82, .bool false) :: (83, .bool false) :: (84, .bool false) :: (85, I6 (k1 : Int)) :: t)
    refine WO.bk 3 (fun b => z24 [(86, .bool b), (87, .bool b)]) (decide ((k1 : Int) > 0)) (fun hb => ?_) (fun hb => ?_)
    ·replace h := cond_t hb h
     obtain ⟨e29, he29, h⟩ := bind_some h
     refine WO.pk 4 (if (0 : Int) ≤ (W6 ((k1 : Int) - 1)) then ((M6 w8.1)[Int.toNat (W6 ((k1 : Int) - 1))]?).map AV.ptr else none) (v := .ptr (I6 e29)) (idx_av (f := (AV.int .i64)) he29) (e1 := z24 [(86, .bool true), (87, .bool true), (88, I6 x1), (89, l3 none w8.1), (90, I6 (k1 : Int)), (91, I6 (W6 ((k1 : Int) - 1))), (92, .ptr (I6 e29))]) ?_
     refine WO.fn (e2 := z16 [(97, .bool (decide (x1 < (W6 (e29 - 1)))))]) ?_
     exact hK28 (decide (x1 < (W6 (e29 - 1)))) h
    replace h := cond_f hb h
    refine WO.fn (e2 := z16 [(97, .bool false)]) ?_
    exact hK28 false h
  refine W.rg ?_
  let z25 := fun t => z7 ((51, I6 w18.2) :: t)
  refine WO.bk 3 (fun b => z25 [(52, .bool b), (53, .bool b)]) (w18.2 != 0) (fun hb => ?_) (fun hb => ?_)
  ·replace h := cond_t hb h
   refine WO.fn (e2 := z6 [(66, .bool true)]) ?_
   exact hK20 true h
  replace h := cond_f hb h
  let z26 := fun t => z25 ((52, .bool false) :: (53, .bool false) :: (54, l3 none w8.1) :: (55, I6 (w8.1.length : Int)) :: t)
  refine WO.pk 1 (some (I6 ((M6 w8.1).length : Int))) (v := I6 (w8.1.length : Int)) (by rw [List.length_map]) (e1 := z26 []) ?_
  let z27 := fun t => z26 ((56, .str w6) :: (57, I6 (w6.size : Int)) :: t)
  refine WO.bk 5 (fun b => z27 [(58, .bool b), (59, .bool b), (60, .bool b)]) ((w8.1.length : Int) != (w6.size : Int)) (fun hb => ?_) (fun hb => ?_)
  ·replace h := cond_t hb h
   refine WO.fn (e2 := z6 [(66, .bool true)]) ?_
   exact hK20 true h
  replace h := cond_f hb h
  refine WO.pk 1 (some (I6 ((M6 w10.1).length : Int))) (v := I6 (w10.1.length : Int)) (by rw [List.length_map]) (e1 := z27 [(58, .bool false), (59, .bool false), (60, .bool false), (61, l3 none w10.1), (62, I6 (w10.1.length : Int))]) ?_
  refine WO.fn (e2 := z6 [(66, .bool ((w10.1.length : Int) != (w5.size : Int)))]) ?_
  exact hK20 ((w10.1.length : Int) != (w5.size : Int)) h
 refine W.rg ?_
 refine WO.bk 3 (fun b => z4 [(8, I6 w10.2), (35, I6 w8.2), (36, .bool b), (37, .bool b)]) (w8.2 != 0) (fun hb => ?_) (fun hb => ?_)
 ·replace h := cond_t hb h
  refine WO.fn (e2 := z4 [(40, .bool true)]) ?_
  exact hK12 true h
 replace h := cond_f hb h
 refine WO.fn (e2 := z4 [(40, .bool (w10.2 != 0))]) ?_
 exact hK12 (w10.2 != 0) h
end Go.AM
