/- s -/
import Derived.Test.YtmfdgonjnckdhaaDoorDB1
set_option maxRecDepth 100000
set_option linter.unusedVariables false
set_option linter.unusedSimpArgs false
namespace Go.AM
open Go.Proofs
def sl_order2Ordered_byte (a1 : (List Int)) (a2 : Int) (a3 : Int) (p4 : Int) : Option ((Int × Int) × Int) :=
 ((idx a1 a3).bind fun e8 => ((idx a1 a2).bind fun e9 => ((cm_Less_byte e8 e9).bind fun w10 => (bif w10 then (some ((a3, a2), (IntKind.wrap .i64 (p4 + 1)))) else (some ((a2, a3), p4))))))
theorem run_sl_order2Ordered_byte (a1 : (List Int)) (a2 : Int) (a3 : Int) (p4 : Int) (r : ((Int × Int) × Int)) (h : sl_order2Ordered_byte a1 a2 a3 p4 = some r) : Run Tryd.prog (.callM 92 [l5 none a1, I6 a2, I6 a3, .pb 2000003 0] [(2000003, .box [I6 p4])] (.tup [I6 r.1.1, I6 r.1.2]) [(2000003, .box [I6 r.2])]) := by
 refine cM Tryd.func92 rfl (env0 := [(0, l5 none a1), (1, I6 a2), (2, I6 a3), (3, .pb 2000003 0), (2000003, .box [I6 p4])]) ?_
 unfold sl_order2Ordered_byte at h
 refine W.seq ?_
 let z0 := fun t => EN ((0, l5 none a1) :: (1, I6 a2) :: (2, I6 a3) :: (3, .pb 2000003 0) :: t)
 refine W.rt (e2 := z0 [(2000003, .box [I6 p4])]) ?_
 refine W.seq ?_
 refine W.seq ?_
 refine W.rg ?_
 obtain ⟨e8, he8, h⟩ := bind_some h
 let z1 := fun t => z0 ((10, l5 none a1) :: (11, I6 a3) :: (12, .ptr (.int .u8 e8)) :: t)
 refine WO.pk 2 (if (0 : Int) ≤ a3 then ((M8 a1)[Int.toNat a3]?).map AV.ptr else none) (v := .ptr (.int .u8 e8)) (idx_av (f := (AV.int .u8)) he8) (e1 := z1 [(2000003, .box [I6 p4])]) ?_
 obtain ⟨e9, he9, h⟩ := bind_some h
 let z2 := fun t => z1 ((13, .int .u8 e8) :: (14, l5 none a1) :: (15, I6 a2) :: (16, .ptr (.int .u8 e9)) :: t)
 refine WO.pk 3 (if (0 : Int) ≤ a2 then ((M8 a1)[Int.toNat a2]?).map AV.ptr else none) (v := .ptr (.int .u8 e9)) (idx_av (f := (AV.int .u8)) he9) (e1 := z2 [(2000003, .box [I6 p4])]) ?_
 obtain ⟨w10, hw10, h⟩ := bind_some h
 refine WO.ck 1 (F := 54) (l := [.int .u8 e8, .int .u8 e9]) (C := []) (r := .bool w10) (run_cm_Less_byte e8 e9 w10 hw10) (e1 := z2 [(17, .int .u8 e9), (18, .bool w10), (2000003, .box [I6 p4])]) ?_
 refine WO.fn (e2 := [(1, I6 a2), (2, I6 a3), (3, .pb 2000003 0), (18, .bool w10), (2000003, .box [I6 p4])]) ?_
 refine W.cb w10 (fun hb => ?_) (fun hb => ?_)
 ·replace h := cond_t hb h
  refine W.seq ?_
  refine W.rt (e2 := [(1, I6 a2), (2, I6 a3), (2000003, .box [I6 (W6 (p4 + 1))])]) ?_
  refine W.seq ?_
  let z3 := fun t => EN ((8, I6 a3) :: (9, I6 a2) :: (2000003, .box [I6 (W6 (p4 + 1))]) :: t)
  refine W.rt (e2 := z3 []) ?_
  refine W.wk (env' := z3 []) ?_
  have hr : PostM Tryd.prog Tryd.f92 (.tup [I6 a3, I6 a2]) [(2000003, .box [I6 (W6 (p4 + 1))])] .ret [(8, I6 a3), (9, I6 a2), (2000003, .box [I6 (W6 (p4 + 1))])] := ⟨by kernel_rfl, by kernel_rfl⟩
  cases h
  exact W.ret hr
 replace h := cond_f hb h
 refine W.skip ?_
 refine W.wk (env' := [(1, I6 a2), (2, I6 a3), (2000003, .box [I6 p4])]) ?_
 refine W.seq ?_
 let z4 := fun t => EN ((8, I6 a2) :: (9, I6 a3) :: (2000003, .box [I6 p4]) :: t)
 refine W.rt (e2 := z4 []) ?_
 refine W.wk (env' := z4 []) ?_
 have hr : PostM Tryd.prog Tryd.f92 (.tup [I6 a2, I6 a3]) [(2000003, .box [I6 p4])] .ret [(8, I6 a2), (9, I6 a3), (2000003, .box [I6 p4])] := ⟨by kernel_rfl, by kernel_rfl⟩
 cases h
 exact W.ret hr
def sl_medianOrdered_byte (a1 : (List Int)) (a2 : Int) (a3 : Int) (a4 : Int) (p5 : Int) : Option (Int × Int) :=
 ((sl_order2Ordered_byte a1 a2 a3 p5).bind fun w8 => ((sl_order2Ordered_byte a1 w8.1.2 a4 w8.2).bind fun w10 => ((sl_order2Ordered_byte a1 w8.1.1 w10.1.1 w10.2).bind fun w12 => (some (w12.1.2, w12.2)))))
theorem run_sl_medianOrdered_byte (a1 : (List Int)) (a2 : Int) (a3 : Int) (a4 : Int) (p5 : Int) (r : (Int × Int)) (h : sl_medianOrdered_byte a1 a2 a3 a4 p5 = some r) : Run Tryd.prog (.callM 73 [l5 none a1, I6 a2, I6 a3, I6 a4, .pb 2000004 0] [(2000004, .box [I6 p5])] (I6 r.1) [(2000004, .box [I6 r.2])]) := by
 refine cM Tryd.func73 rfl (env0 := [(0, l5 none a1), (1, I6 a2), (2, I6 a3), (3, I6 a4), (4, .pb 2000004 0), (2000004, .box [I6 p5])]) ?_
 unfold sl_medianOrdered_byte at h
 refine W.seq ?_
 let z0 := fun t => EN ((0, l5 none a1) :: (1, I6 a2) :: (2, I6 a3) :: (3, I6 a4) :: (4, .pb 2000004 0) :: t)
 refine W.rt (e2 := z0 [(2000004, .box [I6 p5])]) ?_
 refine W.seq ?_
 refine W.rg ?_
 obtain ⟨w8, hw8, h⟩ := bind_some h
 refine WO.cm 4 [(2000004, 2000003)] [] (F := 92) (args := [l5 none a1, I6 a2, I6 a3, .pb 2000003 0]) (hp := [(2000003, .box [I6 p5])]) (hp2 := [(2000003, .box [I6 w8.2])]) (r := .tup [I6 w8.1.1, I6 w8.1.2]) (run_sl_order2Ordered_byte a1 a2 a3 p5 w8 hw8) (e1 := z0 [(12, l5 none a1), (13, I6 a2), (14, I6 a3), (15, .pb 2000004 0), (16, .tup [I6 w8.1.1, I6 w8.1.2]), (2000004, .box [I6 w8.2])]) ?_
 let z1 := fun t => EN ((0, l5 none a1) :: (1, I6 w8.1.1) :: t)
 let z2 := fun t => z1 ((2, I6 w8.1.2) :: (3, I6 a4) :: (4, .pb 2000004 0) :: t)
 refine WO.fn (e2 := z2 [(2000004, .box [I6 w8.2])]) ?_
 refine W.seq ?_
 refine W.rg ?_
 obtain ⟨w10, hw10, h⟩ := bind_some h
 refine WO.cm 4 [(2000004, 2000003)] [] (F := 92) (args := [l5 none a1, I6 w8.1.2, I6 a4, .pb 2000003 0]) (hp := [(2000003, .box [I6 w8.2])]) (hp2 := [(2000003, .box [I6 w10.2])]) (r := .tup [I6 w10.1.1, I6 w10.1.2]) (run_sl_order2Ordered_byte a1 w8.1.2 a4 w8.2 w10 hw10) (e1 := z2 [(20, l5 none a1), (21, I6 w8.1.2), (22, I6 a4), (23, .pb 2000004 0), (24, .tup [I6 w10.1.1, I6 w10.1.2]), (2000004, .box [I6 w10.2])]) ?_
 let z3 := fun t => z1 ((2, I6 w10.1.1) :: (4, .pb 2000004 0) :: t)
 refine WO.fn (e2 := z3 [(2000004, .box [I6 w10.2])]) ?_
 refine W.seq ?_
 refine W.rg ?_
 obtain ⟨w12, hw12, h⟩ := bind_some h
 refine WO.cm 4 [(2000004, 2000003)] [] (F := 92) (args := [l5 none a1, I6 w8.1.1, I6 w10.1.1, .pb 2000003 0]) (hp := [(2000003, .box [I6 w10.2])]) (hp2 := [(2000003, .box [I6 w12.2])]) (r := .tup [I6 w12.1.1, I6 w12.1.2]) (run_sl_order2Ordered_byte a1 w8.1.1 w10.1.1 w10.2 w12 hw12) (e1 := z3 [(28, l5 none a1), (29, I6 w8.1.1), (30, I6 w10.1.1), (31, .pb 2000004 0), (32, .tup [I6 w12.1.1, I6 w12.1.2]), (2000004, .box [I6 w12.2])]) ?_
 refine WO.fn (e2 := [(2, I6 w12.1.2), (2000004, .box [I6 w12.2])]) ?_
 refine W.seq ?_
 let z4 := fun t => EN ((10, I6 w12.1.2) :: (2000004, .box [I6 w12.2]) :: t)
 refine W.rt (e2 := z4 []) ?_
 refine W.wk (env' := z4 []) ?_
 have hr : PostM Tryd.prog Tryd.f73 (I6 w12.1.2) [(2000004, .box [I6 w12.2])] .ret [(10, I6 w12.1.2), (2000004, .box [I6 w12.2])] := ⟨by kernel_rfl, by kernel_rfl⟩
 cases h
 exact W.ret hr
def sl_medianAdjacentOrdered_byte (a1 : (List Int)) (a2 : Int) (p3 : Int) : Option (Int × Int) :=
 ((sl_medianOrdered_byte a1 (IntKind.wrap .i64 (a2 - 1)) a2 (IntKind.wrap .i64 (a2 + 1)) p3).bind fun w6 => (some (w6.1, w6.2)))
theorem run_sl_medianAdjacentOrdered_byte (a1 : (List Int)) (a2 : Int) (p3 : Int) (r : (Int × Int)) (h : sl_medianAdjacentOrdered_byte a1 a2 p3 = some r) : Run Tryd.prog (.callM 72 [l5 none a1, I6 a2, .pb 2000002 0] [(2000002, .box [I6 p3])] (I6 r.1) [(2000002, .box [I6 r.2])]) := by
 refine cM Tryd.func72 rfl (env0 := [(0, l5 none a1), (1, I6 a2), (2, .pb 2000002 0), (2000002, .box [I6 p3])]) ?_
 unfold sl_medianAdjacentOrdered_byte at h
 refine W.seq ?_
 let z0 := fun t => EN ((0, l5 none a1) :: (1, I6 a2) :: (2, .pb 2000002 0) :: t)
 refine W.rt (e2 := z0 [(2000002, .box [I6 p3])]) ?_
 refine W.seq ?_
 refine W.rg ?_
 obtain ⟨w6, hw6, h⟩ := bind_some h
 refine WO.cm 7 [(2000002, 2000004)] [] (F := 73) (args := [l5 none a1, I6 (W6 (a2 - 1)), I6 a2, I6 (W6 (a2 + 1)), .pb 2000004 0]) (hp := [(2000004, .box [I6 p3])]) (hp2 := [(2000004, .box [I6 w6.2])]) (r := I6 w6.1) (run_sl_medianOrdered_byte a1 (W6 (a2 - 1)) a2 (W6 (a2 + 1)) p3 w6 hw6) (e1 := z0 [(7, l5 none a1), (8, I6 a2), (9, I6 (W6 (a2 - 1))), (10, I6 a2), (11, I6 a2), (12, I6 (W6 (a2 + 1))), (13, .pb 2000002 0), (14, I6 w6.1), (2000002, .box [I6 w6.2])]) ?_
 refine WO.fn (e2 := [(6, I6 w6.1), (2000002, .box [I6 w6.2])]) ?_
 refine W.wk (env' := [(6, I6 w6.1), (2000002, .box [I6 w6.2])]) ?_
 have hr : PostM Tryd.prog Tryd.f72 (I6 w6.1) [(2000002, .box [I6 w6.2])] .ret [(6, I6 w6.1), (2000002, .box [I6 w6.2])] := ⟨by kernel_rfl, by kernel_rfl⟩
 cases h
 exact W.ret hr
def sl_choosePivotOrdered_byte_j10 (v24 : Int) (v25 : Int) : Option (Int × Int) :=
 (bif (v24 == 0) then (some (v25, 1)) else (bif (v24 == 12) then (some (v25, 2)) else (some (v25, 0))))
def sl_choosePivotOrdered_byte_j12 (a1 : (List Int)) (K10 : (Int → Int → Option (Int × Int))) (v19 : Int) (v20 : Int) (v21 : Int) (v22 : Int) : Option (Int × Int) :=
 ((sl_medianOrdered_byte a1 v20 v21 v22 v19).bind fun w23 => (K10 w23.2 w23.1))
def sl_choosePivotOrdered_byte (a1 : (List Int)) (a2 : Int) (a3 : Int) : Option (Int × Int) :=
 (bif (decide ((IntKind.wrap .i64 (a3 - a2)) ≥ 8)) then (bif (decide ((IntKind.wrap .i64 (a3 - a2)) ≥ 50)) then ((sl_medianAdjacentOrdered_byte a1 (IntKind.wrap .i64 (a2 + (IntKind.wrap .i64 ((IntKind.wrap .i64 (((IntKind.wrap .i64 (a3 - a2))).tdiv 4)) * 1)))) 0).bind fun w15 => ((sl_medianAdjacentOrdered_byte a1 (IntKind.wrap .i64 (a2 + (IntKind.wrap .i64 ((IntKind.wrap .i64 (((IntKind.wrap .i64 (a3 - a2))).tdiv 4)) * 2)))) w15.2).bind fun w17 => ((sl_medianAdjacentOrdered_byte a1 (IntKind.wrap .i64 (a2 + (IntKind.wrap .i64 ((IntKind.wrap .i64 (((IntKind.wrap .i64 (a3 - a2))).tdiv 4)) * 3)))) w17.2).bind fun w18 => ((sl_choosePivotOrdered_byte_j12 a1 (sl_choosePivotOrdered_byte_j10)) w18.2 w15.1 w17.1 w18.1)))) else ((sl_choosePivotOrdered_byte_j12 a1 (sl_choosePivotOrdered_byte_j10)) 0 (IntKind.wrap .i64 (a2 + (IntKind.wrap .i64 ((IntKind.wrap .i64 (((IntKind.wrap .i64 (a3 - a2))).tdiv 4)) * 1)))) (IntKind.wrap .i64 (a2 + (IntKind.wrap .i64 ((IntKind.wrap .i64 (((IntKind.wrap .i64 (a3 - a2))).tdiv 4)) * 2)))) (IntKind.wrap .i64 (a2 + (IntKind.wrap .i64 ((IntKind.wrap .i64 (((IntKind.wrap .i64 (a3 - a2))).tdiv 4)) * 3)))))) else ((sl_choosePivotOrdered_byte_j10) 0 (IntKind.wrap .i64 (a2 + (IntKind.wrap .i64 ((IntKind.wrap .i64 (((IntKind.wrap .i64 (a3 - a2))).tdiv 4)) * 2))))))
theorem run_sl_choosePivotOrdered_byte (a1 : (List Int)) (a2 : Int) (a3 : Int) (r : (Int × Int)) (h : sl_choosePivotOrdered_byte a1 a2 a3 = some r) : Run Tryd.prog (.call 51 [l5 none a1, I6 a2, I6 a3] (.tup [I6 r.1, I6 r.2])) := by
 refine cW Tryd.func51 rfl (env0 := [(0, l5 none a1), (1, I6 a2), (2, I6 a3)]) ?_
 unfold sl_choosePivotOrdered_byte at h
 refine W.seq ?_
 let z0 := fun t => EN ((0, l5 none a1) :: t)
 let z1 := fun t => z0 ((1, I6 a2) :: t)
 refine W.rt (e2 := z1 [(2, I6 a3)]) ?_
 refine W.seq ?_
 let z2 := fun t => z1 ((8, I6 (W6 (a3 - a2))) :: t)
 refine W.rt (e2 := z2 []) ?_
 refine W.seq ?_
 let z3 := fun t => z2 ((9, .box [.int .i64 0]) :: t)
 refine W.rt (e2 := z3 []) ?_
 refine W.seq ?_
 let z4 := fun t => z3 ((10, I6 (W6 (a2 + (W6 ((W6 (((W6 (a3 - a2))).tdiv 4)) * 1))))) :: t)
 refine W.rt (e2 := z4 []) ?_
 refine W.seq ?_
 refine W.rt (e2 := z4 [(11, I6 (W6 (a2 + (W6 ((W6 (((W6 (a3 - a2))).tdiv 4)) * 2)))))]) ?_
 refine W.seq ?_
 let z5 := fun t => z0 ((8, I6 (W6 (a3 - a2))) :: (9, .box [.int .i64 0]) :: (10, I6 (W6 (a2 + (W6 ((W6 (((W6 (a3 - a2))).tdiv 4)) * 1))))) :: (11, I6 (W6 (a2 + (W6 ((W6 (((W6 (a3 - a2))).tdiv 4)) * 2))))) :: (12, I6 (W6 (a2 + (W6 ((W6 (((W6 (a3 - a2))).tdiv 4)) * 3))))) :: t)
 refine W.rt (e2 := z5 []) ?_
 refine W.seq ?_
 refine W.join (σ := (Int × Int)) (fun s => [(9, .ptr (I6 s.1)), (11, I6 s.2)]) (fun s => (sl_choosePivotOrdered_byte_j10) s.1 s.2 = some r) (fun s h => ?_) (fun hK10 => ?_)
 ·obtain ⟨v24, v25⟩ := s
  have h : (sl_choosePivotOrdered_byte_j10) v24 v25 = some r := h
  unfold sl_choosePivotOrdered_byte_j10 at h
  refine W.seq ?_
  refine W.rt (e2 := [(11, I6 v25), (49, I6 v24)]) ?_
  refine W.block ?_
  refine W.seq ?_
  refine W.rt (e2 := [(11, I6 v25), (49, I6 v24), (51, .bool (v24 == 0))]) ?_
  refine W.cb (v24 == 0) (fun hb => ?_) (fun hb => ?_)
  ·replace h := cond_t hb h
   refine W.seq ?_
   refine W.rt (e2 := [(6, I6 v25), (7, .int .i64 1)]) ?_
   refine W.wk (env' := [(6, I6 v25), (7, .int .i64 1)]) ?_
   have hr : aresults Tryd.prog Tryd.f51 [(6, I6 v25), (7, .int .i64 1)] = some (.tup [I6 v25, .int .i64 1]) := by kernel_rfl
   cases h
   exact W.ret hr
  replace h := cond_f hb h
  refine W.seq ?_
  refine W.rt (e2 := [(11, I6 v25), (54, .bool (v24 == 12))]) ?_
  refine W.cb (v24 == 12) (fun hb => ?_) (fun hb => ?_)
  ·replace h := cond_t hb h
   refine W.seq ?_
   refine W.rt (e2 := [(6, I6 v25), (7, .int .i64 2)]) ?_
   refine W.wk (env' := [(6, I6 v25), (7, .int .i64 2)]) ?_
   have hr : aresults Tryd.prog Tryd.f51 [(6, I6 v25), (7, .int .i64 2)] = some (.tup [I6 v25, .int .i64 2]) := by kernel_rfl
   cases h
   exact W.ret hr
  replace h := cond_f hb h
  refine W.seq ?_
  refine W.rt (e2 := [(6, I6 v25), (7, .int .i64 0)]) ?_
  refine W.wk (env' := [(6, I6 v25), (7, .int .i64 0)]) ?_
  have hr : aresults Tryd.prog Tryd.f51 [(6, I6 v25), (7, .int .i64 0)] = some (.tup [I6 v25, .int .i64 0]) := by kernel_rfl
  cases h
  exact W.ret hr
 refine W.seq ?_
 refine W.rt (e2 := z5 [(32, .bool (decide ((W6 (a3 - a2)) ≥ 8)))]) ?_
 refine W.cb (decide ((W6 (a3 - a2)) ≥ 8)) (fun hb => ?_) (fun hb => ?_)
 ·replace h := cond_t hb h
  refine W.seq ?_
  refine W.join (σ := (Int × Int × Int × Int)) (fun s => z0 [(9, .box [I6 s.1]), (10, I6 s.2.1), (11, I6 s.2.2.1), (12, I6 s.2.2.2)]) (fun s => (sl_choosePivotOrdered_byte_j12 a1 (sl_choosePivotOrdered_byte_j10)) s.1 s.2.1 s.2.2.1 s.2.2.2 = some r) (fun s h => ?_) (fun hK12 => ?_)
  ·obtain ⟨v19, v20, v21, v22⟩ := s
   have h : (sl_choosePivotOrdered_byte_j12 a1 (sl_choosePivotOrdered_byte_j10)) v19 v20 v21 v22 = some r := h
   unfold sl_choosePivotOrdered_byte_j12 at h
   refine W.rg ?_
   obtain ⟨w23, hw23, h⟩ := bind_some h
   refine WO.cm 4 [(9, 2000004)] [] (F := 73) (args := [l5 none a1, I6 v20, I6 v21, I6 v22, .pb 2000004 0]) (hp := [(2000004, .box [I6 v19])]) (hp2 := [(2000004, .box [I6 w23.2])]) (r := I6 w23.1) (run_sl_medianOrdered_byte a1 v20 v21 v22 v19 w23 hw23) (e1 := z0 [(9, .box [I6 w23.2]), (10, I6 v20), (11, I6 v21), (12, I6 v22), (44, l5 none a1), (45, I6 v20), (46, I6 v21), (47, I6 v22), (48, I6 w23.1)]) ?_
   refine WO.fin [9, 11] [9] [] [] (e2 := [(9, .ptr (I6 w23.2)), (11, I6 w23.1)]) (by kernel_rfl) (fun _ h => h) ?_
   exact hK10 (w23.2, w23.1) h
  refine W.seq ?_
  let z6 := fun t => z0 ((9, .box [.int .i64 0]) :: (10, I6 (W6 (a2 + (W6 ((W6 (((W6 (a3 - a2))).tdiv 4)) * 1))))) :: (11, I6 (W6 (a2 + (W6 ((W6 (((W6 (a3 - a2))).tdiv 4)) * 2))))) :: (12, I6 (W6 (a2 + (W6 ((W6 (((W6 (a3 - a2))).tdiv 4)) * 3))))) :: t)
  refine W.rt (e2 := z6 [(34, .bool (decide ((W6 (a3 - a2)) ≥ 50)))]) ?_
  refine W.cb (decide ((W6 (a3 - a2)) ≥ 50)) (fun hb => ?_) (fun hb => ?_)
  ·replace h := cond_t hb h
   refine W.seq ?_
   refine W.rg ?_
   obtain ⟨w15, hw15, h⟩ := bind_some h
   refine WO.cm 2 [(9, 2000002)] [] (F := 72) (args := [l5 none a1, I6 (W6 (a2 + (W6 ((W6 (((W6 (a3 - a2))).tdiv 4)) * 1)))), .pb 2000002 0]) (hp := [(2000002, .box [.int .i64 0])]) (hp2 := [(2000002, .box [I6 w15.2])]) (r := I6 w15.1) (run_sl_medianAdjacentOrdered_byte a1 (W6 (a2 + (W6 ((W6 (((W6 (a3 - a2))).tdiv 4)) * 1)))) 0 w15 hw15) (e1 := z0 [(9, .box [I6 w15.2]), (10, I6 (W6 (a2 + (W6 ((W6 (((W6 (a3 - a2))).tdiv 4)) * 1))))), (11, I6 (W6 (a2 + (W6 ((W6 (((W6 (a3 - a2))).tdiv 4)) * 2))))), (12, I6 (W6 (a2 + (W6 ((W6 (((W6 (a3 - a2))).tdiv 4)) * 3))))), (34, .bool (decide ((W6 (a3 - a2)) ≥ 50))), (35, l5 none a1), (36, I6 (W6 (a2 + (W6 ((W6 (((W6 (a3 - a2))).tdiv 4)) * 1))))), (37, I6 w15.1)]) ?_
   refine WO.fn (e2 := z0 [(9, .box [I6 w15.2]), (10, I6 w15.1), (11, I6 (W6 (a2 + (W6 ((W6 (((W6 (a3 - a2))).tdiv 4)) * 2))))), (12, I6 (W6 (a2 + (W6 ((W6 (((W6 (a3 - a2))).tdiv 4)) * 3)))))]) ?_
   refine W.seq ?_
   refine W.rg ?_
   obtain ⟨w17, hw17, h⟩ := bind_some h
   let z7 := fun t => z0 ((9, .box [I6 w17.2]) :: (10, I6 w15.1) :: t)
   refine WO.cm 2 [(9, 2000002)] [] (F := 72) (args := [l5 none a1, I6 (W6 (a2 + (W6 ((W6 (((W6 (a3 - a2))).tdiv 4)) * 2)))), .pb 2000002 0]) (hp := [(2000002, .box [I6 w15.2])]) (hp2 := [(2000002, .box [I6 w17.2])]) (r := I6 w17.1) (run_sl_medianAdjacentOrdered_byte a1 (W6 (a2 + (W6 ((W6 (((W6 (a3 - a2))).tdiv 4)) * 2)))) w15.2 w17 hw17) (e1 := z7 [(11, I6 (W6 (a2 + (W6 ((W6 (((W6 (a3 - a2))).tdiv 4)) * 2))))), (12, I6 (W6 (a2 + (W6 ((W6 (((W6 (a3 - a2))).tdiv 4)) * 3))))), (38, l5 none a1), (39, I6 (W6 (a2 + (W6 ((W6 (((W6 (a3 - a2))).tdiv 4)) * 2))))), (40, I6 w17.1)]) ?_
   refine WO.fn (e2 := z7 [(11, I6 w17.1), (12, I6 (W6 (a2 + (W6 ((W6 (((W6 (a3 - a2))).tdiv 4)) * 3)))))]) ?_
   refine W.rg ?_
   obtain ⟨w18, hw18, h⟩ := bind_some h
   let z8 := fun t => z0 ((9, .box [I6 w18.2]) :: (10, I6 w15.1) :: (11, I6 w17.1) :: t)
   refine WO.cm 2 [(9, 2000002)] [] (F := 72) (args := [l5 none a1, I6 (W6 (a2 + (W6 ((W6 (((W6 (a3 - a2))).tdiv 4)) * 3)))), .pb 2000002 0]) (hp := [(2000002, .box [I6 w17.2])]) (hp2 := [(2000002, .box [I6 w18.2])]) (r := I6 w18.1) (run_sl_medianAdjacentOrdered_byte a1 (W6 (a2 + (W6 ((W6 (((W6 (a3 - a2))).tdiv 4)) * 3)))) w17.2 w18 hw18) (e1 := z8 [(12, I6 (W6 (a2 + (W6 ((W6 (((W6 (a3 - a2))).tdiv 4)) * 3))))), (41, l5 none a1), (42, I6 (W6 (a2 + (W6 ((W6 (((W6 (a3 - a2))).tdiv 4)) * 3))))), (43, I6 w18.1)]) ?_
   refine WO.fn (e2 := z8 [(12, I6 w18.1)]) ?_
   exact hK12 (w18.2, w15.1, w17.1, w18.1) h
  replace h := cond_f hb h
  refine W.skip ?_
  refine W.wk (env' := z6 []) ?_
  exact hK12 (0, (W6 (a2 + (W6 ((W6 (((W6 (a3 - a2))).tdiv 4)) * 1)))), (W6 (a2 + (W6 ((W6 (((W6 (a3 - a2))).tdiv 4)) * 2)))), (W6 (a2 + (W6 ((W6 (((W6 (a3 - a2))).tdiv 4)) * 3))))) h
 replace h := cond_f hb h
 refine W.skip ?_
 refine W.weak [9, 11] [9] [] [] (env' := [(9, .ptr (.int .i64 0)), (11, I6 (W6 (a2 + (W6 ((W6 (((W6 (a3 - a2))).tdiv 4)) * 2)))))]) (by kernel_rfl) ?_
 exact hK10 (0, (W6 (a2 + (W6 ((W6 (((W6 (a3 - a2))).tdiv 4)) * 2))))) h
def sl_reverseRangeOrdered_byte_l1 (n2 : Nat) : Nat → (List Int) → Int → Int → Option (List Int)
 | 0, _, _, _ => none
 | m1 + 1, v7, v8, v9 => (bif (decide (v8 < v9)) then (chk (decide ((0 : Int) ≤ v9 ∧ v9 < ((n2 : Nat) : Int))) ((v7[(0 + Int.toNat v9)]?).bind fun e14 => (chk (decide ((0 : Int) ≤ v8 ∧ v8 < ((n2 : Nat) : Int))) ((v7[(0 + Int.toNat v8)]?).bind fun e16 => (chk (decide ((0 : Int) ≤ v8 ∧ v8 < ((n2 : Nat) : Int))) ((upd v7 (0 + Int.toNat v8) e14).bind fun u18 => (chk (decide ((0 : Int) ≤ v9 ∧ v9 < ((n2 : Nat) : Int))) ((upd u18 (0 + Int.toNat v9) e16).bind fun u21 => ((sl_reverseRangeOrdered_byte_l1 n2 m1) u21 (IntKind.wrap .i64 (v8 + 1)) (IntKind.wrap .i64 (v9 - 1))))))))))) else (some v7))
def sl_reverseRangeOrdered_byte (fuel : Nat) (a1 : (List Int)) (n2 : Nat) (a3 : Int) (a4 : Int) : Option (List Int) :=
 (sl_reverseRangeOrdered_byte_l1 n2 fuel a1 a3 (IntKind.wrap .i64 (a4 - 1)))
theorem run_sl_reverseRangeOrdered_byte (fuel : Nat) (a1 : (List Int)) (n2 : Nat) (a3 : Int) (a4 : Int) (r : (List Int)) (h : sl_reverseRangeOrdered_byte fuel a1 n2 a3 a4 = some r) : Run Tryd.prog (.callM 52 [S1 n2, I6 a3, I6 a4] [O1 a1] (.tup []) [O1 r]) := by
 refine cM Tryd.func52 rfl (env0 := [(0, S1 n2), (1, I6 a3), (2, I6 a4), O1 a1]) ?_
 unfold sl_reverseRangeOrdered_byte at h
 refine W.seq ?_
 let z0 := fun t => EN ((0, S1 n2) :: t)
 refine W.rt (e2 := z0 [(2, I6 a4), (6, I6 a3), O1 a1]) ?_
 refine W.seq ?_
 let z1 := fun t => z0 ((6, I6 a3) :: (7, I6 (W6 (a4 - 1))) :: O1 a1 :: t)
 refine W.rt (e2 := z1 []) ?_
 refine W.block ?_
 refine W.wk (env' := z1 []) ?_
 refine W.fuel (σ := ((List Int) × Int × Int)) (fun s => z0 [(6, I6 s.2.1), (7, I6 s.2.2), (2000000, .obj 1000000005 1 (M8 s.1))]) (fun m0 s => sl_reverseRangeOrdered_byte_l1 n2 m0 s.1 s.2.1 s.2.2 = some r) (fun s h => ?_) (fun m1 s h hN1 => ?_) fuel (a1, a3, (W6 (a4 - 1))) h
 ·obtain ⟨v7, v8, v9⟩ := s
  have h : sl_reverseRangeOrdered_byte_l1 n2 0 v7 v8 v9 = some r := h
  rw [sl_reverseRangeOrdered_byte_l1.eq_1] at h
  cases h
 ·obtain ⟨v7, v8, v9⟩ := s
  have h : sl_reverseRangeOrdered_byte_l1 n2 (m1 + 1) v7 v8 v9 = some r := h
  rw [sl_reverseRangeOrdered_byte_l1.eq_2] at h
  refine W.seq ?_
  refine W.seq ?_
  let z2 := fun t => z0 ((6, I6 v8) :: (7, I6 v9) :: t)
  let z3 := fun t => z2 ((13, .bool (decide (v8 < v9))) :: O1 v7 :: t)
  refine W.rt (e2 := z3 []) ?_
  refine W.cb (decide (v8 < v9)) (fun hb => ?_) (fun hb => ?_)
  ·replace h := cond_t hb h
   refine W.skip ?_
   refine W.wk (env' := z2 [O1 v7]) ?_
   refine W.block ?_
   refine W.seq ?_
   refine W.rg ?_
   obtain ⟨hc13, h⟩ := chk_some h
   let z4 := fun t => z2 ((14, S1 n2) :: (15, I6 v8) :: (16, S1 n2) :: (17, I6 v9) :: (18, S1 n2) :: (19, I6 v9) :: (20, .pe 2000000 1 (0 + Int.toNat v9) 0) :: t)
   refine WO.pi 6 (v := .pe 2000000 1 (0 + Int.toNat v9) 0) hc13 (e1 := z4 [O1 v7]) ?_
   obtain ⟨e14, he14, h⟩ := bind_some h
   let z5 := fun t => z4 ((21, .int .u8 e14) :: t)
   refine WO.pk 0 (match (M8 v7)[(0 + Int.toNat v9)]? with | some y => cut Tryd.prog 5 (y.cells.map AV.strip) 0 | none => none) (v := .int .u8 e14) ((pe_ld (f := (AV.int .u8)) (G := (fun y => cut Tryd.prog 5 (y.cells.map AV.strip) 0)) he14).trans (by kernel_rfl)) (e1 := z5 [O1 v7]) ?_
   obtain ⟨hc15, h⟩ := chk_some h
   let z6 := fun t => z5 ((22, S1 n2) :: (23, I6 v8) :: (24, .pe 2000000 1 (0 + Int.toNat v8) 0) :: t)
   refine WO.pi 2 (v := .pe 2000000 1 (0 + Int.toNat v8) 0) hc15 (e1 := z6 [O1 v7]) ?_
   obtain ⟨e16, he16, h⟩ := bind_some h
   let z7 := fun t => z6 ((25, .int .u8 e16) :: t)
   refine WO.pk 0 (match (M8 v7)[(0 + Int.toNat v8)]? with | some y => cut Tryd.prog 5 (y.cells.map AV.strip) 0 | none => none) (v := .int .u8 e16) ((pe_ld (f := (AV.int .u8)) (G := (fun y => cut Tryd.prog 5 (y.cells.map AV.strip) 0)) he16).trans (by kernel_rfl)) (e1 := z7 [O1 v7]) ?_
   obtain ⟨hc17, h⟩ := chk_some h
   let z8 := fun t => z7 ((26, .pe 2000000 1 (0 + Int.toNat v8) 0) :: t)
   refine WO.pi 0 (v := .pe 2000000 1 (0 + Int.toNat v8) 0) hc17 (e1 := z8 [O1 v7]) ?_
   obtain ⟨u18, hu18, h⟩ := bind_some h
   obtain ⟨y19, hyy19, hzy19⟩ := upd_some hu18
   refine WO.sk 0 (id := 2000000) (e := 1000000005) (s := 1) (off := 0) (vs := [.int .u8 e14]) (AV.int .u8) hyy19 hzy19 (e1 := z8 [O1 u18]) ?_
   obtain ⟨hc20, h⟩ := chk_some h
   let z9 := fun t => z8 ((27, .pe 2000000 1 (0 + Int.toNat v9) 0) :: t)
   refine WO.pi 0 (v := .pe 2000000 1 (0 + Int.toNat v9) 0) hc20 (e1 := z9 [O1 u18]) ?_
   obtain ⟨u21, hu21, h⟩ := bind_some h
   obtain ⟨y22, hyy22, hzy22⟩ := upd_some hu21
   refine WO.sk 0 (id := 2000000) (e := 1000000005) (s := 1) (off := 0) (vs := [.int .u8 e16]) (AV.int .u8) hyy22 hzy22 (e1 := z9 [O1 u21]) ?_
   refine WO.fn (e2 := z2 [O1 u21]) ?_
   refine W.seq ?_
   refine W.rt (e2 := z0 [(6, I6 (W6 (v8 + 1))), (7, I6 v9), O1 u21]) ?_
   refine W.rt (e2 := z0 [(6, I6 (W6 (v8 + 1))), (7, I6 (W6 (v9 - 1))), O1 u21]) ?_
   exact hN1 (u21, (W6 (v8 + 1)), (W6 (v9 - 1))) h
  replace h := cond_f hb h
  have hr : PostM Tryd.prog Tryd.f52 (.tup []) [O1 v7] .normal (z3 []) := ⟨by kernel_rfl, by kernel_rfl⟩
  cases h
  exact W.exit hr
def sl_partialInsertionSortOrdered_byte_j7 (v95 : (List Int)) : Option (Bool × (List Int)) :=
 (some (false, v95))
def sl_partialInsertionSortOrdered_byte_j14 (v11 : Int) (N1 : ((List Int) → Int → Int → Option (Bool × (List Int)))) (v93 : (List Int)) (v94 : Int) : Option (Bool × (List Int)) :=
 (N1 v93 v94 (IntKind.wrap .i64 (v11 + 1)))
def sl_partialInsertionSortOrdered_byte_l4 (n2 : Nat) (a4 : Int) (v25 : Int) (K14 : ((List Int) → Int → Option (Bool × (List Int)))) : Nat → (List Int) → Int → Option (Bool × (List Int))
 | 0, _, _ => none
 | m4 + 1, v71, v72 => (bif (decide (v72 < a4)) then (chk (decide ((0 : Int) ≤ v72 ∧ v72 < ((n2 : Nat) : Int))) ((v71[(0 + Int.toNat v72)]?).bind fun e79 => (chk (decide ((0 : Int) ≤ (IntKind.wrap .i64 (v72 - 1)) ∧ (IntKind.wrap .i64 (v72 - 1)) < ((n2 : Nat) : Int))) ((v71[(0 + Int.toNat (IntKind.wrap .i64 (v72 - 1)))]?).bind fun e81 => ((cm_Less_byte e79 e81).bind fun w82 => (bif (!w82) then (K14 v71 v25) else (chk (decide ((0 : Int) ≤ (IntKind.wrap .i64 (v72 - 1)) ∧ (IntKind.wrap .i64 (v72 - 1)) < ((n2 : Nat) : Int))) ((v71[(0 + Int.toNat (IntKind.wrap .i64 (v72 - 1)))]?).bind fun e84 => (chk (decide ((0 : Int) ≤ v72 ∧ v72 < ((n2 : Nat) : Int))) ((v71[(0 + Int.toNat v72)]?).bind fun e86 => (chk (decide ((0 : Int) ≤ v72 ∧ v72 < ((n2 : Nat) : Int))) ((upd v71 (0 + Int.toNat v72) e84).bind fun u88 => (chk (decide ((0 : Int) ≤ (IntKind.wrap .i64 (v72 - 1)) ∧ (IntKind.wrap .i64 (v72 - 1)) < ((n2 : Nat) : Int))) ((upd u88 (0 + Int.toNat (IntKind.wrap .i64 (v72 - 1))) e86).bind fun u91 => ((sl_partialInsertionSortOrdered_byte_l4 n2 a4 v25 K14 m4) u91 (IntKind.wrap .i64 (v72 + 1))))))))))))))))) else (K14 v71 v25))
def sl_partialInsertionSortOrdered_byte_j43 (fuel : Nat) (n2 : Nat) (a4 : Int) (v25 : Int) (K14 : ((List Int) → Int → Option (Bool × (List Int)))) (v68 : (List Int)) : Option (Bool × (List Int)) :=
 (bif (decide ((IntKind.wrap .i64 (a4 - v25)) ≥ 2)) then (sl_partialInsertionSortOrdered_byte_l4 n2 a4 v25 K14 fuel v68 (IntKind.wrap .i64 (v25 + 1))) else (K14 v68 v25))
def sl_partialInsertionSortOrdered_byte_l3 (n2 : Nat) (K43 : ((List Int) → Option (Bool × (List Int)))) : Nat → (List Int) → Int → Option (Bool × (List Int))
 | 0, _, _ => none
 | m3 + 1, v46, v47 => (bif (decide (v47 ≥ 1)) then (chk (decide ((0 : Int) ≤ v47 ∧ v47 < ((n2 : Nat) : Int))) ((v46[(0 + Int.toNat v47)]?).bind fun e54 => (chk (decide ((0 : Int) ≤ (IntKind.wrap .i64 (v47 - 1)) ∧ (IntKind.wrap .i64 (v47 - 1)) < ((n2 : Nat) : Int))) ((v46[(0 + Int.toNat (IntKind.wrap .i64 (v47 - 1)))]?).bind fun e56 => ((cm_Less_byte e54 e56).bind fun w57 => (bif (!w57) then (K43 v46) else (chk (decide ((0 : Int) ≤ (IntKind.wrap .i64 (v47 - 1)) ∧ (IntKind.wrap .i64 (v47 - 1)) < ((n2 : Nat) : Int))) ((v46[(0 + Int.toNat (IntKind.wrap .i64 (v47 - 1)))]?).bind fun e59 => (chk (decide ((0 : Int) ≤ v47 ∧ v47 < ((n2 : Nat) : Int))) ((v46[(0 + Int.toNat v47)]?).bind fun e61 => (chk (decide ((0 : Int) ≤ v47 ∧ v47 < ((n2 : Nat) : Int))) ((upd v46 (0 + Int.toNat v47) e59).bind fun u63 => (chk (decide ((0 : Int) ≤ (IntKind.wrap .i64 (v47 - 1)) ∧ (IntKind.wrap .i64 (v47 - 1)) < ((n2 : Nat) : Int))) ((upd u63 (0 + Int.toNat (IntKind.wrap .i64 (v47 - 1))) e61).bind fun u66 => ((sl_partialInsertionSortOrdered_byte_l3 n2 K43 m3) u66 (IntKind.wrap .i64 (v47 - 1))))))))))))))))) else (K43 v46))
def sl_partialInsertionSortOrdered_byte_j15 (fuel : Nat) (n2 : Nat) (a3 : Int) (a4 : Int) (v9 : (List Int)) (K14 : ((List Int) → Int → Option (Bool × (List Int)))) (v25 : Int) : Option (Bool × (List Int)) :=
 (bif (v25 == a4) then (some (true, v9)) else (bif (decide ((IntKind.wrap .i64 (a4 - a3)) < 50)) then (some (false, v9)) else (chk (decide ((0 : Int) ≤ (IntKind.wrap .i64 (v25 - 1)) ∧ (IntKind.wrap .i64 (v25 - 1)) < ((n2 : Nat) : Int))) ((v9[(0 + Int.toNat (IntKind.wrap .i64 (v25 - 1)))]?).bind fun e34 => (chk (decide ((0 : Int) ≤ v25 ∧ v25 < ((n2 : Nat) : Int))) ((v9[(0 + Int.toNat v25)]?).bind fun e36 => (chk (decide ((0 : Int) ≤ v25 ∧ v25 < ((n2 : Nat) : Int))) ((upd v9 (0 + Int.toNat v25) e34).bind fun u38 => (chk (decide ((0 : Int) ≤ (IntKind.wrap .i64 (v25 - 1)) ∧ (IntKind.wrap .i64 (v25 - 1)) < ((n2 : Nat) : Int))) ((upd u38 (0 + Int.toNat (IntKind.wrap .i64 (v25 - 1))) e36).bind fun u41 => (bif (decide ((IntKind.wrap .i64 (v25 - a3)) ≥ 2)) then (sl_partialInsertionSortOrdered_byte_l3 n2 (sl_partialInsertionSortOrdered_byte_j43 fuel n2 a4 v25 K14) fuel u41 (IntKind.wrap .i64 (v25 - 1))) else ((sl_partialInsertionSortOrdered_byte_j43 fuel n2 a4 v25 K14) u41))))))))))))
def sl_partialInsertionSortOrdered_byte_j18 (v16 : Int) (N2 : (Int → Option (Bool × (List Int)))) (K15 : (Int → Option (Bool × (List Int)))) (v24 : Bool) : Option (Bool × (List Int)) :=
 (bif v24 then (N2 (IntKind.wrap .i64 (v16 + 1))) else (K15 v16))
def sl_partialInsertionSortOrdered_byte_l2 (n2 : Nat) (a4 : Int) (v9 : (List Int)) (K15 : (Int → Option (Bool × (List Int)))) : Nat → Int → Option (Bool × (List Int))
 | 0, _ => none
 | m2 + 1, v16 => (bif (decide (v16 < a4)) then (chk (decide ((0 : Int) ≤ v16 ∧ v16 < ((n2 : Nat) : Int))) ((v9[(0 + Int.toNat v16)]?).bind fun e20 => (chk (decide ((0 : Int) ≤ (IntKind.wrap .i64 (v16 - 1)) ∧ (IntKind.wrap .i64 (v16 - 1)) < ((n2 : Nat) : Int))) ((v9[(0 + Int.toNat (IntKind.wrap .i64 (v16 - 1)))]?).bind fun e22 => ((cm_Less_byte e20 e22).bind fun w23 => ((sl_partialInsertionSortOrdered_byte_j18 v16 (sl_partialInsertionSortOrdered_byte_l2 n2 a4 v9 K15 m2) K15) (!w23))))))) else ((sl_partialInsertionSortOrdered_byte_j18 v16 (sl_partialInsertionSortOrdered_byte_l2 n2 a4 v9 K15 m2) K15) false))
def sl_partialInsertionSortOrdered_byte_l1 (fuel : Nat) (n2 : Nat) (a3 : Int) (a4 : Int) (K7 : ((List Int) → Option (Bool × (List Int)))) : Nat → (List Int) → Int → Int → Option (Bool × (List Int))
 | 0, _, _, _ => none
 | m1 + 1, v9, v10, v11 => (bif (decide (v11 < 5)) then (sl_partialInsertionSortOrdered_byte_l2 n2 a4 v9 (sl_partialInsertionSortOrdered_byte_j15 fuel n2 a3 a4 v9 (sl_partialInsertionSortOrdered_byte_j14 v11 (sl_partialInsertionSortOrdered_byte_l1 fuel n2 a3 a4 K7 m1))) fuel v10) else (K7 v9))
def sl_partialInsertionSortOrdered_byte (fuel : Nat) (a1 : (List Int)) (n2 : Nat) (a3 : Int) (a4 : Int) : Option (Bool × (List Int)) :=
 (sl_partialInsertionSortOrdered_byte_l1 fuel n2 a3 a4 (sl_partialInsertionSortOrdered_byte_j7) fuel a1 (IntKind.wrap .i64 (a3 + 1)) 0)
theorem run_sl_partialInsertionSortOrdered_byte (fuel : Nat) (a1 : (List Int)) (n2 : Nat) (a3 : Int) (a4 : Int) (r : (Bool × (List Int))) (h : sl_partialInsertionSortOrdered_byte fuel a1 n2 a3 a4 = some r) : Run Tryd.prog (.callM 53 [S1 n2, I6 a3, I6 a4] [O1 a1] (.bool r.1) [(2000000, .obj 1000000005 1 (M8 r.2))]) := by
 refine cM Tryd.func53 rfl (env0 := [(0, S1 n2), (1, I6 a3), (2, I6 a4), O1 a1]) ?_
 unfold sl_partialInsertionSortOrdered_byte at h
 refine W.seq ?_
 let z0 := fun t => EN ((0, S1 n2) :: (1, I6 a3) :: (2, I6 a4) :: t)
 refine W.rt (e2 := z0 [O1 a1]) ?_
 refine W.seq ?_
 let z1 := fun t => z0 ((7, I6 (W6 (a3 + 1))) :: t)
 refine W.rt (e2 := z1 [O1 a1]) ?_
 refine W.seq ?_
 refine W.join (σ := ((List Int))) (fun s => [O1 s]) (fun s => (sl_partialInsertionSortOrdered_byte_j7) s = some r) (fun s h => ?_) (fun hK7 => ?_)
 ·obtain ⟨v95, rfl⟩ : ∃ x, x = s := ⟨s, rfl⟩
  have h : (sl_partialInsertionSortOrdered_byte_j7) v95 = some r := h
  unfold sl_partialInsertionSortOrdered_byte_j7 at h
  refine W.seq ?_
  refine W.rt (e2 := [(6, .bool false), O1 v95]) ?_
  refine W.wk (env' := [(6, .bool false), O1 v95]) ?_
  have hr : PostM Tryd.prog Tryd.f53 (.bool false) [O1 v95] .ret [(6, .bool false), O1 v95] := ⟨by kernel_rfl, by kernel_rfl⟩
  cases h
  exact W.ret hr
 refine W.seq ?_
 refine W.rt (e2 := z1 [(8, .int .i64 0), O1 a1]) ?_
 refine W.block ?_
 refine W.wk (env' := z1 [(8, .int .i64 0), O1 a1]) ?_
 refine W.fuel (σ := ((List Int) × Int × Int)) (fun s => z0 [(7, I6 s.2.1), (8, I6 s.2.2), (2000000, .obj 1000000005 1 (M8 s.1))]) (fun m0 s => sl_partialInsertionSortOrdered_byte_l1 fuel n2 a3 a4 (sl_partialInsertionSortOrdered_byte_j7) m0 s.1 s.2.1 s.2.2 = some r) (fun s h => ?_) (fun m1 s h hN1 => ?_) fuel (a1, (W6 (a3 + 1)), 0) h
 ·obtain ⟨v9, v10, v11⟩ := s
  have h : sl_partialInsertionSortOrdered_byte_l1 fuel n2 a3 a4 (sl_partialInsertionSortOrdered_byte_j7) 0 v9 v10 v11 = some r := h
  rw [sl_partialInsertionSortOrdered_byte_l1.eq_1] at h
  cases h
 ·obtain ⟨v9, v10, v11⟩ := s
  have h : sl_partialInsertionSortOrdered_byte_l1 fuel n2 a3 a4 (sl_partialInsertionSortOrdered_byte_j7) (m1 + 1) v9 v10 v11 = some r := h
  rw [sl_partialInsertionSortOrdered_byte_l1.eq_2] at h
  refine W.seq ?_
  refine W.seq ?_
  let z2 := fun t => z0 ((7, I6 v10) :: (8, I6 v11) :: t)
  refine W.rt (e2 := z2 [(14, .bool (decide (v11 < 5))), O1 v9]) ?_
  refine W.cb (decide (v11 < 5)) (fun hb => ?_) (fun hb => ?_)
  ·replace h := cond_t hb h
   refine W.skip ?_
   refine W.wk (env' := z2 [O1 v9]) ?_
   refine W.seq ?_
   refine W.join (σ := ((List Int) × Int)) (fun s => z0 [(7, I6 s.2), (8, I6 v11), (2000000, .obj 1000000005 1 (M8 s.1))]) (fun s => (sl_partialInsertionSortOrdered_byte_j14 v11 (sl_partialInsertionSortOrdered_byte_l1 fuel n2 a3 a4 (sl_partialInsertionSortOrdered_byte_j7) m1)) s.1 s.2 = some r) (fun s h => ?_) (fun hK14 => ?_)
   ·obtain ⟨v93, v94⟩ := s
    have h : (sl_partialInsertionSortOrdered_byte_j14 v11 (sl_partialInsertionSortOrdered_byte_l1 fuel n2 a3 a4 (sl_partialInsertionSortOrdered_byte_j7) m1)) v93 v94 = some r := h
    unfold sl_partialInsertionSortOrdered_byte_j14 at h
    refine W.rt (e2 := z0 [(7, I6 v94), (8, I6 (W6 (v11 + 1))), O1 v93]) ?_
    exact hN1 (v93, v94, (W6 (v11 + 1))) h
   refine W.block ?_
   refine W.seq ?_
   refine W.join (σ := (Int)) (fun s => z0 [(7, I6 s), (8, I6 v11), O1 v9]) (fun s => (sl_partialInsertionSortOrdered_byte_j15 fuel n2 a3 a4 v9 (sl_partialInsertionSortOrdered_byte_j14 v11 (sl_partialInsertionSortOrdered_byte_l1 fuel n2 a3 a4 (sl_partialInsertionSortOrdered_byte_j7) m1))) s = some r) (fun s h => ?_) (fun hK15 => ?_)
   ·obtain ⟨v25, rfl⟩ : ∃ x, x = s := ⟨s, rfl⟩
    have h : (sl_partialInsertionSortOrdered_byte_j15 fuel n2 a3 a4 v9 (sl_partialInsertionSortOrdered_byte_j14 v11 (sl_partialInsertionSortOrdered_byte_l1 fuel n2 a3 a4 (sl_partialInsertionSortOrdered_byte_j7) m1))) v25 = some r := h
    unfold sl_partialInsertionSortOrdered_byte_j15 at h
    refine W.seq ?_
    refine W.seq ?_
    let z3 := fun t => z0 ((7, I6 v25) :: (8, I6 v11) :: t)
    refine W.rt (e2 := z3 [(37, .bool (v25 == a4)), O1 v9]) ?_
    refine W.cb (v25 == a4) (fun hb => ?_) (fun hb => ?_)
    ·replace h := cond_t hb h
     refine W.seq ?_
     refine W.rt (e2 := [(6, .bool true), O1 v9]) ?_
     refine W.wk (env' := [(6, .bool true), O1 v9]) ?_
     have hr : PostM Tryd.prog Tryd.f53 (.bool true) [O1 v9] .ret [(6, .bool true), O1 v9] := ⟨by kernel_rfl, by kernel_rfl⟩
     cases h
     exact W.ret hr
    replace h := cond_f hb h
    refine W.skip ?_
    refine W.wk (env' := z3 [O1 v9]) ?_
    refine W.seq ?_
    refine W.seq ?_
    refine W.rt (e2 := z3 [(41, .bool (decide ((W6 (a4 - a3)) < 50))), O1 v9]) ?_
    refine W.cb (decide ((W6 (a4 - a3)) < 50)) (fun hb => ?_) (fun hb => ?_)
    ·replace h := cond_t hb h
     refine W.seq ?_
     refine W.rt (e2 := [(6, .bool false), O1 v9]) ?_
     refine W.wk (env' := [(6, .bool false), O1 v9]) ?_
     have hr : PostM Tryd.prog Tryd.f53 (.bool false) [O1 v9] .ret [(6, .bool false), O1 v9] := ⟨by kernel_rfl, by kernel_rfl⟩
     cases h
     exact W.ret hr
    replace h := cond_f hb h
    refine W.skip ?_
    refine W.wk (env' := z3 [O1 v9]) ?_
    refine W.seq ?_
    refine W.rg ?_
    obtain ⟨hc33, h⟩ := chk_some h
    let z4 := fun t => z3 ((42, S1 n2) :: (43, I6 v25) :: (44, S1 n2) :: (45, I6 v25) :: (46, I6 (W6 (v25 - 1))) :: (47, S1 n2) :: (48, I6 v25) :: (49, I6 (W6 (v25 - 1))) :: (50, .pe 2000000 1 (0 + Int.toNat (W6 (v25 - 1))) 0) :: t)
    refine WO.pi 8 (v := .pe 2000000 1 (0 + Int.toNat (W6 (v25 - 1))) 0) hc33 (e1 := z4 [O1 v9]) ?_
    obtain ⟨e34, he34, h⟩ := bind_some h
    let z5 := fun t => z4 ((51, .int .u8 e34) :: t)
    refine WO.pk 0 (match (M8 v9)[(0 + Int.toNat (W6 (v25 - 1)))]? with | some y => cut Tryd.prog 5 (y.cells.map AV.strip) 0 | none => none) (v := .int .u8 e34) ((pe_ld (f := (AV.int .u8)) (G := (fun y => cut Tryd.prog 5 (y.cells.map AV.strip) 0)) he34).trans (by kernel_rfl)) (e1 := z5 [O1 v9]) ?_
    obtain ⟨hc35, h⟩ := chk_some h
    let z6 := fun t => z5 ((52, S1 n2) :: (53, I6 v25) :: (54, .pe 2000000 1 (0 + Int.toNat v25) 0) :: t)
    refine WO.pi 2 (v := .pe 2000000 1 (0 + Int.toNat v25) 0) hc35 (e1 := z6 [O1 v9]) ?_
    obtain ⟨e36, he36, h⟩ := bind_some h
    let z7 := fun t => z6 ((55, .int .u8 e36) :: t)
    refine WO.pk 0 (match (M8 v9)[(0 + Int.toNat v25)]? with | some y => cut Tryd.prog 5 (y.cells.map AV.strip) 0 | none => none) (v := .int .u8 e36) ((pe_ld (f := (AV.int .u8)) (G := (fun y => cut Tryd.prog 5 (y.cells.map AV.strip) 0)) he36).trans (by kernel_rfl)) (e1 := z7 [O1 v9]) ?_
    obtain ⟨hc37, h⟩ := chk_some h
    let z8 := fun t => z7 ((56, .pe 2000000 1 (0 + Int.toNat v25) 0) :: t)
    refine WO.pi 0 (v := .pe 2000000 1 (0 + Int.toNat v25) 0) hc37 (e1 := z8 [O1 v9]) ?_
    obtain ⟨u38, hu38, h⟩ := bind_some h
    obtain ⟨y39, hyy39, hzy39⟩ := upd_some hu38
    refine WO.sk 0 (id := 2000000) (e := 1000000005) (s := 1) (off := 0) (vs := [.int .u8 e34]) (AV.int .u8) hyy39 hzy39 (e1 := z8 [O1 u38]) ?_
    obtain ⟨hc40, h⟩ := chk_some h
    let z9 := fun t => z8 ((57, .pe 2000000 1 (0 + Int.toNat (W6 (v25 - 1))) 0) :: t)
    refine WO.pi 0 (v := .pe 2000000 1 (0 + Int.toNat (W6 (v25 - 1))) 0) hc40 (e1 := z9 [O1 u38]) ?_
    obtain ⟨u41, hu41, h⟩ := bind_some h
    obtain ⟨y42, hyy42, hzy42⟩ := upd_some hu41
    refine WO.sk 0 (id := 2000000) (e := 1000000005) (s := 1) (off := 0) (vs := [.int .u8 e36]) (AV.int .u8) hyy42 hzy42 (e1 := z9 [O1 u41]) ?_
    refine WO.fn (e2 := z3 [O1 u41]) ?_
    refine W.seq ?_
    refine W.join (σ := ((List Int))) (fun s => z3 [O1 s]) (fun s => (sl_partialInsertionSortOrdered_byte_j43 fuel n2 a4 v25 (sl_partialInsertionSortOrdered_byte_j14 v11 (sl_partialInsertionSortOrdered_byte_l1 fuel n2 a3 a4 (sl_partialInsertionSortOrdered_byte_j7) m1))) s = some r) (fun s h => ?_) (fun hK43 => ?_)
    ·obtain ⟨v68, rfl⟩ : ∃ x, x = s := ⟨s, rfl⟩
     have h : (sl_partialInsertionSortOrdered_byte_j43 fuel n2 a4 v25 (sl_partialInsertionSortOrdered_byte_j14 v11 (sl_partialInsertionSortOrdered_byte_l1 fuel n2 a3 a4 (sl_partialInsertionSortOrdered_byte_j7) m1))) v68 = some r := h
     unfold sl_partialInsertionSortOrdered_byte_j43 at h
     refine W.seq ?_
     refine W.rt (e2 := z3 [(98, .bool (decide ((W6 (a4 - v25)) ≥ 2))), O1 v68]) ?_
     refine W.cb (decide ((W6 (a4 - v25)) ≥ 2)) (fun hb => ?_) (fun hb => ?_)
     ·replace h := cond_t hb h
      refine W.seq ?_
      refine W.rt (e2 := z3 [(10, I6 (W6 (v25 + 1))), O1 v68]) ?_
      refine W.block ?_
      refine W.wk (env' := z3 [(10, I6 (W6 (v25 + 1))), O1 v68]) ?_
      refine W.fuel (σ := ((List Int) × Int)) (fun s => z3 [(10, I6 s.2), (2000000, .obj 1000000005 1 (M8 s.1))]) (fun m0 s => sl_partialInsertionSortOrdered_byte_l4 n2 a4 v25 (sl_partialInsertionSortOrdered_byte_j14 v11 (sl_partialInsertionSortOrdered_byte_l1 fuel n2 a3 a4 (sl_partialInsertionSortOrdered_byte_j7) m1)) m0 s.1 s.2 = some r) (fun s h => ?_) (fun m4 s h hN4 => ?_) fuel (v68, (W6 (v25 + 1))) h
      ·obtain ⟨v71, v72⟩ := s
       have h : sl_partialInsertionSortOrdered_byte_l4 n2 a4 v25 (sl_partialInsertionSortOrdered_byte_j14 v11 (sl_partialInsertionSortOrdered_byte_l1 fuel n2 a3 a4 (sl_partialInsertionSortOrdered_byte_j7) m1)) 0 v71 v72 = some r := h
       rw [sl_partialInsertionSortOrdered_byte_l4.eq_1] at h
       cases h
      ·obtain ⟨v71, v72⟩ := s
       have h : sl_partialInsertionSortOrdered_byte_l4 n2 a4 v25 (sl_partialInsertionSortOrdered_byte_j14 v11 (sl_partialInsertionSortOrdered_byte_l1 fuel n2 a3 a4 (sl_partialInsertionSortOrdered_byte_j7) m1)) (m4 + 1) v71 v72 = some r := h
       rw [sl_partialInsertionSortOrdered_byte_l4.eq_2] at h
       refine W.seq ?_
       refine W.seq ?_
       let z10 := fun t => z3 ((10, I6 v72) :: t)
       refine W.rt (e2 := z10 [(103, .bool (decide (v72 < a4))), O1 v71]) ?_
       refine W.cb (decide (v72 < a4)) (fun hb => ?_) (fun hb => ?_)
       ·replace h := cond_t hb h
        refine W.skip ?_
        refine W.wk (env' := z10 [O1 v71]) ?_
        refine W.seq ?_
        refine W.block ?_
        refine W.seq ?_
        refine W.seq ?_
        refine W.rg ?_
        obtain ⟨hc78, h⟩ := chk_some h
        let z11 := fun t => z10 ((106, S1 n2) :: (107, I6 v72) :: (108, .pe 2000000 1 (0 + Int.toNat v72) 0) :: t)
        refine WO.pi 2 (v := .pe 2000000 1 (0 + Int.toNat v72) 0) hc78 (e1 := z11 [O1 v71]) ?_
        obtain ⟨e79, he79, h⟩ := bind_some h
        let z12 := fun t => z11 ((109, .int .u8 e79) :: t)
        refine WO.pk 0 (match (M8 v71)[(0 + Int.toNat v72)]? with | some y => cut Tryd.prog 5 (y.cells.map AV.strip) 0 | none => none) (v := .int .u8 e79) ((pe_ld (f := (AV.int .u8)) (G := (fun y => cut Tryd.prog 5 (y.cells.map AV.strip) 0)) he79).trans (by kernel_rfl)) (e1 := z12 [O1 v71]) ?_
        obtain ⟨hc80, h⟩ := chk_some h
        let z13 := fun t => z12 ((110, S1 n2) :: (111, I6 v72) :: (112, I6 (W6 (v72 - 1))) :: (113, .pe 2000000 1 (0 + Int.toNat (W6 (v72 - 1))) 0) :: t)
        refine WO.pi 3 (v := .pe 2000000 1 (0 + Int.toNat (W6 (v72 - 1))) 0) hc80 (e1 := z13 [O1 v71]) ?_
        obtain ⟨e81, he81, h⟩ := bind_some h
        refine WO.pk 0 (match (M8 v71)[(0 + Int.toNat (W6 (v72 - 1)))]? with | some y => cut Tryd.prog 5 (y.cells.map AV.strip) 0 | none => none) (v := .int .u8 e81) ((pe_ld (f := (AV.int .u8)) (G := (fun y => cut Tryd.prog 5 (y.cells.map AV.strip) 0)) he81).trans (by kernel_rfl)) (e1 := z13 [(114, .int .u8 e81), O1 v71]) ?_
        obtain ⟨w82, hw82, h⟩ := bind_some h
        refine WO.ck 0 (F := 54) (l := [.int .u8 e79, .int .u8 e81]) (C := []) (r := .bool w82) (run_cm_Less_byte e79 e81 w82 hw82) (e1 := z13 [(114, .int .u8 e81), (115, .bool w82), O1 v71]) ?_
        refine WO.fn (e2 := z10 [(116, .bool (!w82)), O1 v71]) ?_
        refine W.cb (!w82) (fun hb => ?_) (fun hb => ?_)
        ·replace h := cond_t hb h
         refine W.exit ?_
         refine W.wk (env' := z3 [O1 v71]) ?_
         exact hK14 (v71, v25) h
        replace h := cond_f hb h
        refine W.skip ?_
        refine W.wk (env' := z10 [O1 v71]) ?_
        refine W.rg ?_
        obtain ⟨hc83, h⟩ := chk_some h
        let z14 := fun t => z10 ((117, S1 n2) :: (118, I6 v72) :: (119, S1 n2) :: (120, I6 v72) :: (121, I6 (W6 (v72 - 1))) :: (122, S1 n2) :: (123, I6 v72) :: (124, I6 (W6 (v72 - 1))) :: (125, .pe 2000000 1 (0 + Int.toNat (W6 (v72 - 1))) 0) :: t)
        refine WO.pi 8 (v := .pe 2000000 1 (0 + Int.toNat (W6 (v72 - 1))) 0) hc83 (e1 := z14 [O1 v71]) ?_
        obtain ⟨e84, he84, h⟩ := bind_some h
        let z15 := fun t => z14 ((126, .int .u8 e84) :: t)
        refine WO.pk 0 (match (M8 v71)[(0 + Int.toNat (W6 (v72 - 1)))]? with | some y => cut Tryd.prog 5 (y.cells.map AV.strip) 0 | none => none) (v := .int .u8 e84) ((pe_ld (f := (AV.int .u8)) (G := (fun y => cut Tryd.prog 5 (y.cells.map AV.strip) 0)) he84).trans (by kernel_rfl)) (e1 := z15 [O1 v71]) ?_
        obtain ⟨hc85, h⟩ := chk_some h
        let z16 := fun t => z15 ((127, S1 n2) :: (128, I6 v72) :: (129, .pe 2000000 1 (0 + Int.toNat v72) 0) :: t)
        refine WO.pi 2 (v := .pe 2000000 1 (0 + Int.toNat v72) 0) hc85 (e1 := z16 [O1 v71]) ?_
        obtain ⟨e86, he86, h⟩ := bind_some h
        let z17 := fun t => z16 ((130, .int .u8 e86) :: t)
        refine WO.pk 0 (match (M8 v71)[(0 + Int.toNat v72)]? with | some y => cut Tryd.prog 5 (y.cells.map AV.strip) 0 | none => none) (v := .int .u8 e86) ((pe_ld (f := (AV.int .u8)) (G := (fun y => cut Tryd.prog 5 (y.cells.map AV.strip) 0)) he86).trans (by kernel_rfl)) (e1 := z17 [O1 v71]) ?_
        obtain ⟨hc87, h⟩ := chk_some h
        let z18 := fun t => z17 ((131, .pe 2000000 1 (0 + Int.toNat v72) 0) :: t)
        refine WO.pi 0 (v := .pe 2000000 1 (0 + Int.toNat v72) 0) hc87 (e1 := z18 [O1 v71]) ?_
        obtain ⟨u88, hu88, h⟩ := bind_some h
        obtain ⟨y89, hyy89, hzy89⟩ := upd_some hu88
        refine WO.sk 0 (id := 2000000) (e := 1000000005) (s := 1) (off := 0) (vs := [.int .u8 e84]) (AV.int .u8) hyy89 hzy89 (e1 := z18 [O1 u88]) ?_
        obtain ⟨hc90, h⟩ := chk_some h
        let z19 := fun t => z18 ((132, .pe 2000000 1 (0 + Int.toNat (W6 (v72 - 1))) 0) :: t)
        refine WO.pi 0 (v := .pe 2000000 1 (0 + Int.toNat (W6 (v72 - 1))) 0) hc90 (e1 := z19 [O1 u88]) ?_
        obtain ⟨u91, hu91, h⟩ := bind_some h
        obtain ⟨y92, hyy92, hzy92⟩ := upd_some hu91
        refine WO.sk 0 (id := 2000000) (e := 1000000005) (s := 1) (off := 0) (vs := [.int .u8 e86]) (AV.int .u8) hyy92 hzy92 (e1 := z19 [O1 u91]) ?_
        refine WO.fn (e2 := z10 [O1 u91]) ?_
        refine W.rt (e2 := z3 [(10, I6 (W6 (v72 + 1))), O1 u91]) ?_
        exact hN4 (u91, (W6 (v72 + 1))) h
       replace h := cond_f hb h
       refine W.exit ?_
       refine W.wk (env' := z3 [O1 v71]) ?_
       exact hK14 (v71, v25) h
     replace h := cond_f hb h
     refine W.skip ?_
     refine W.wk (env' := z3 [O1 v68]) ?_
     exact hK14 (v68, v25) h
    refine W.seq ?_
    refine W.rt (e2 := z3 [(61, .bool (decide ((W6 (v25 - a3)) ≥ 2))), O1 u41]) ?_
    refine W.cb (decide ((W6 (v25 - a3)) ≥ 2)) (fun hb => ?_) (fun hb => ?_)
    ·replace h := cond_t hb h
     refine W.seq ?_
     refine W.rt (e2 := z3 [(9, I6 (W6 (v25 - 1))), O1 u41]) ?_
     refine W.block ?_
     refine W.wk (env' := z3 [(9, I6 (W6 (v25 - 1))), O1 u41]) ?_
     refine W.fuel (σ := ((List Int) × Int)) (fun s => z3 [(9, I6 s.2), (2000000, .obj 1000000005 1 (M8 s.1))]) (fun m0 s => sl_partialInsertionSortOrdered_byte_l3 n2 (sl_partialInsertionSortOrdered_byte_j43 fuel n2 a4 v25 (sl_partialInsertionSortOrdered_byte_j14 v11 (sl_partialInsertionSortOrdered_byte_l1 fuel n2 a3 a4 (sl_partialInsertionSortOrdered_byte_j7) m1))) m0 s.1 s.2 = some r) (fun s h => ?_) (fun m3 s h hN3 => ?_) fuel (u41, (W6 (v25 - 1))) h
     ·obtain ⟨v46, v47⟩ := s
      have h : sl_partialInsertionSortOrdered_byte_l3 n2 (sl_partialInsertionSortOrdered_byte_j43 fuel n2 a4 v25 (sl_partialInsertionSortOrdered_byte_j14 v11 (sl_partialInsertionSortOrdered_byte_l1 fuel n2 a3 a4 (sl_partialInsertionSortOrdered_byte_j7) m1))) 0 v46 v47 = some r := h
      rw [sl_partialInsertionSortOrdered_byte_l3.eq_1] at h
      cases h
     ·obtain ⟨v46, v47⟩ := s
      have h : sl_partialInsertionSortOrdered_byte_l3 n2 (sl_partialInsertionSortOrdered_byte_j43 fuel n2 a4 v25 (sl_partialInsertionSortOrdered_byte_j14 v11 (sl_partialInsertionSortOrdered_byte_l1 fuel n2 a3 a4 (sl_partialInsertionSortOrdered_byte_j7) m1))) (m3 + 1) v46 v47 = some r := h
      rw [sl_partialInsertionSortOrdered_byte_l3.eq_2] at h
      refine W.seq ?_
      refine W.seq ?_
      let z20 := fun t => z3 ((9, I6 v47) :: t)
      refine W.rt (e2 := z20 [(65, .bool (decide (v47 ≥ 1))), O1 v46]) ?_
      refine W.cb (decide (v47 ≥ 1)) (fun hb => ?_) (fun hb => ?_)
      ·replace h := cond_t hb h
       refine W.skip ?_
       refine W.wk (env' := z20 [O1 v46]) ?_
       refine W.seq ?_
       refine W.block ?_
       refine W.seq ?_
       refine W.seq ?_
       refine W.rg ?_
       obtain ⟨hc53, h⟩ := chk_some h
       let z21 := fun t => z20 ((68, S1 n2) :: (69, I6 v47) :: (70, .pe 2000000 1 (0 + Int.toNat v47) 0) :: t)
       refine WO.pi 2 (v := .pe 2000000 1 (0 + Int.toNat v47) 0) hc53 (e1 := z21 [O1 v46]) ?_
       obtain ⟨e54, he54, h⟩ := bind_some h
       let z22 := fun t => z21 ((71, .int .u8 e54) :: t)
       refine WO.pk 0 (match (M8 v46)[(0 + Int.toNat v47)]? with | some y => cut Tryd.prog 5 (y.cells.map AV.strip) 0 | none => none) (v := .int .u8 e54) ((pe_ld (f := (AV.int .u8)) (G := (fun y => cut Tryd.prog 5 (y.cells.map AV.strip) 0)) he54).trans (by kernel_rfl)) (e1 := z22 [O1 v46]) ?_
       obtain ⟨hc55, h⟩ := chk_some h
       let z23 := fun t => z22 ((72, S1 n2) :: (73, I6 v47) :: (74, I6 (W6 (v47 - 1))) :: (75, .pe 2000000 1 (0 + Int.toNat (W6 (v47 - 1))) 0) :: t)
       refine WO.pi 3 (v := .pe 2000000 1 (0 + Int.toNat (W6 (v47 - 1))) 0) hc55 (e1 := z23 [O1 v46]) ?_
       obtain ⟨e56, he56, h⟩ := bind_some h
       refine WO.pk 0 (match (M8 v46)[(0 + Int.toNat (W6 (v47 - 1)))]? with | some y => cut Tryd.prog 5 (y.cells.map AV.strip) 0 | none => none) (v := .int .u8 e56) ((pe_ld (f := (AV.int .u8)) (G := (fun y => cut Tryd.prog 5 (y.cells.map AV.strip) 0)) he56).trans (by kernel_rfl)) (e1 := z23 [(76, .int .u8 e56), O1 v46]) ?_
       obtain ⟨w57, hw57, h⟩ := bind_some h
       refine WO.ck 0 (F := 54) (l := [.int .u8 e54, .int .u8 e56]) (C := []) (r := .bool w57) (run_cm_Less_byte e54 e56 w57 hw57) (e1 := z23 [(76, .int .u8 e56), (77, .bool w57), O1 v46]) ?_
       refine WO.fn (e2 := z20 [(78, .bool (!w57)), O1 v46]) ?_
       refine W.cb (!w57) (fun hb => ?_) (fun hb => ?_)
       ·replace h := cond_t hb h
        refine W.exit ?_
        refine W.wk (env' := z3 [O1 v46]) ?_
        exact hK43 v46 h
       replace h := cond_f hb h
       refine W.skip ?_
       refine W.wk (env' := z20 [O1 v46]) ?_
       refine W.rg ?_
       obtain ⟨hc58, h⟩ := chk_some h
       let z24 := fun t => z20 ((79, S1 n2) :: (80, I6 v47) :: (81, S1 n2) :: (82, I6 v47) :: (83, I6 (W6 (v47 - 1))) :: (84, S1 n2) :: (85, I6 v47) :: (86, I6 (W6 (v47 - 1))) :: (87, .pe 2000000 1 (0 + Int.toNat (W6 (v47 - 1))) 0) :: t)
       refine WO.pi 8 (v := .pe 2000000 1 (0 + Int.toNat (W6 (v47 - 1))) 0) hc58 (e1 := z24 [O1 v46]) ?_
       obtain ⟨e59, he59, h⟩ := bind_some h
       let z25 := fun t => z24 ((88, .int .u8 e59) :: t)
       refine WO.pk 0 (match (M8 v46)[(0 + Int.toNat (W6 (v47 - 1)))]? with | some y => cut Tryd.prog 5 (y.cells.map AV.strip) 0 | none => none) (v := .int .u8 e59) ((pe_ld (f := (AV.int .u8)) (G := (fun y => cut Tryd.prog 5 (y.cells.map AV.strip) 0)) he59).trans (by kernel_rfl)) (e1 := z25 [O1 v46]) ?_
       obtain ⟨hc60, h⟩ := chk_some h
       let z26 := fun t => z25 ((89, S1 n2) :: (90, I6 v47) :: (91, .pe 2000000 1 (0 + Int.toNat v47) 0) :: t)
       refine WO.pi 2 (v := .pe 2000000 1 (0 + Int.toNat v47) 0) hc60 (e1 := z26 [O1 v46]) ?_
       obtain ⟨e61, he61, h⟩ := bind_some h
       let z27 := fun t => z26 ((92, .int .u8 e61) :: t)
       refine WO.pk 0 (match (M8 v46)[(0 + Int.toNat v47)]? with | some y => cut Tryd.prog 5 (y.cells.map AV.strip) 0 | none => none) (v := .int .u8 e61) ((pe_ld (f := (AV.int .u8)) (G := (fun y => cut Tryd.prog 5 (y.cells.map AV.strip) 0)) he61).trans (by kernel_rfl)) (e1 := z27 [O1 v46]) ?_
       obtain ⟨hc62, h⟩ := chk_some h
       let z28 := fun t => z27 ((93, .pe 2000000 1 (0 + Int.toNat v47) 0) :: t)
       refine WO.pi 0 (v := .pe 2000000 1 (0 + Int.toNat v47) 0) hc62 (e1 := z28 [O1 v46]) ?_
       obtain ⟨u63, hu63, h⟩ := bind_some h
       obtain ⟨y64, hyy64, hzy64⟩ := upd_some hu63
       refine WO.sk 0 (id := 2000000) (e := 1000000005) (s := 1) (off := 0) (vs := [.int .u8 e59]) (AV.int .u8) hyy64 hzy64 (e1 := z28 [O1 u63]) ?_
       obtain ⟨hc65, h⟩ := chk_some h
       let z29 := fun t => z28 ((94, .pe 2000000 1 (0 + Int.toNat (W6 (v47 - 1))) 0) :: t)
       refine WO.pi 0 (v := .pe 2000000 1 (0 + Int.toNat (W6 (v47 - 1))) 0) hc65 (e1 := z29 [O1 u63]) ?_
       obtain ⟨u66, hu66, h⟩ := bind_some h
       obtain ⟨y67, hyy67, hzy67⟩ := upd_some hu66
       refine WO.sk 0 (id := 2000000) (e := 1000000005) (s := 1) (off := 0) (vs := [.int .u8 e61]) (AV.int .u8) hyy67 hzy67 (e1 := z29 [O1 u66]) ?_
       refine WO.fn (e2 := z20 [O1 u66]) ?_
       refine W.rt (e2 := z3 [(9, I6 (W6 (v47 - 1))), O1 u66]) ?_
       exact hN3 (u66, (W6 (v47 - 1))) h
      replace h := cond_f hb h
      refine W.exit ?_
      refine W.wk (env' := z3 [O1 v46]) ?_
      exact hK43 v46 h
    replace h := cond_f hb h
    refine W.skip ?_
    refine W.wk (env' := z3 [O1 u41]) ?_
    exact hK43 u41 h
   refine W.block ?_
   refine W.wk (env' := z2 [O1 v9]) ?_
   refine W.fuel (σ := (Int)) (fun s => z0 [(7, I6 s), (8, I6 v11), O1 v9]) (fun m0 s => sl_partialInsertionSortOrdered_byte_l2 n2 a4 v9 (sl_partialInsertionSortOrdered_byte_j15 fuel n2 a3 a4 v9 (sl_partialInsertionSortOrdered_byte_j14 v11 (sl_partialInsertionSortOrdered_byte_l1 fuel n2 a3 a4 (sl_partialInsertionSortOrdered_byte_j7) m1))) m0 s = some r) (fun s h => ?_) (fun m2 s h hN2 => ?_) fuel v10 h
   ·obtain ⟨v16, rfl⟩ : ∃ x, x = s := ⟨s, rfl⟩
    have h : sl_partialInsertionSortOrdered_byte_l2 n2 a4 v9 (sl_partialInsertionSortOrdered_byte_j15 fuel n2 a3 a4 v9 (sl_partialInsertionSortOrdered_byte_j14 v11 (sl_partialInsertionSortOrdered_byte_l1 fuel n2 a3 a4 (sl_partialInsertionSortOrdered_byte_j7) m1))) 0 v16 = some r := h
    rw [sl_partialInsertionSortOrdered_byte_l2.eq_1] at h
    cases h
   ·obtain ⟨v16, rfl⟩ : ∃ x, x = s := ⟨s, rfl⟩
    have h : sl_partialInsertionSortOrdered_byte_l2 n2 a4 v9 (sl_partialInsertionSortOrdered_byte_j15 fuel n2 a3 a4 v9 (sl_partialInsertionSortOrdered_byte_j14 v11 (sl_partialInsertionSortOrdered_byte_l1 fuel n2 a3 a4 (sl_partialInsertionSortOrdered_byte_j7) m1))) (m2 + 1) v16 = some r := h
    rw [sl_partialInsertionSortOrdered_byte_l2.eq_2] at h
    refine W.seq ?_
    refine W.seq ?_
    let z30 := fun t => z0 ((7, I6 v16) :: (8, I6 v11) :: t)
    refine W.join (σ := (Bool)) (fun s => z30 [(32, .bool s), O1 v9]) (fun s => (sl_partialInsertionSortOrdered_byte_j18 v16 (sl_partialInsertionSortOrdered_byte_l2 n2 a4 v9 (sl_partialInsertionSortOrdered_byte_j15 fuel n2 a3 a4 v9 (sl_partialInsertionSortOrdered_byte_j14 v11 (sl_partialInsertionSortOrdered_byte_l1 fuel n2 a3 a4 (sl_partialInsertionSortOrdered_byte_j7) m1))) m2) (sl_partialInsertionSortOrdered_byte_j15 fuel n2 a3 a4 v9 (sl_partialInsertionSortOrdered_byte_j14 v11 (sl_partialInsertionSortOrdered_byte_l1 fuel n2 a3 a4 (sl_partialInsertionSortOrdered_byte_j7) m1)))) s = some r) (fun s h => ?_) (fun hK18 => ?_)
    ·obtain ⟨v24, rfl⟩ : ∃ x, x = s := ⟨s, rfl⟩
     have h : (sl_partialInsertionSortOrdered_byte_j18 v16 (sl_partialInsertionSortOrdered_byte_l2 n2 a4 v9 (sl_partialInsertionSortOrdered_byte_j15 fuel n2 a3 a4 v9 (sl_partialInsertionSortOrdered_byte_j14 v11 (sl_partialInsertionSortOrdered_byte_l1 fuel n2 a3 a4 (sl_partialInsertionSortOrdered_byte_j7) m1))) m2) (sl_partialInsertionSortOrdered_byte_j15 fuel n2 a3 a4 v9 (sl_partialInsertionSortOrdered_byte_j14 v11 (sl_partialInsertionSortOrdered_byte_l1 fuel n2 a3 a4 (sl_partialInsertionSortOrdered_byte_j7) m1)))) v24 = some r := h
     unfold sl_partialInsertionSortOrdered_byte_j18 at h
     refine W.cb v24 (fun hb => ?_) (fun hb => ?_)
     ·replace h := cond_t hb h
      refine W.skip ?_
      refine W.wk (env' := z30 [O1 v9]) ?_
      refine W.block ?_
      refine W.rt (e2 := z0 [(7, I6 (W6 (v16 + 1))), (8, I6 v11), O1 v9]) ?_
      exact hN2 (W6 (v16 + 1)) h
     replace h := cond_f hb h
     refine W.exit ?_
     refine W.wk (env' := z30 [O1 v9]) ?_
     exact hK15 v16 h
    refine W.rg ?_
    let z31 := fun t => z30 ((17, I6 v16) :: (18, I6 a4) :: t)
    refine WO.bk 4 (fun b => z31 [(19, .bool b), (20, .bool b), O1 v9]) (decide (v16 < a4)) (fun hb => ?_) (fun hb => ?_)
    ·replace h := cond_t hb h
     obtain ⟨hc19, h⟩ := chk_some h
     let z32 := fun t => z31 ((19, .bool true) :: (20, .bool true) :: (21, S1 n2) :: (22, I6 v16) :: (23, .pe 2000000 1 (0 + Int.toNat v16) 0) :: t)
     refine WO.pi 2 (v := .pe 2000000 1 (0 + Int.toNat v16) 0) hc19 (e1 := z32 [O1 v9]) ?_
     obtain ⟨e20, he20, h⟩ := bind_some h
     let z33 := fun t => z32 ((24, .int .u8 e20) :: t)
     refine WO.pk 0 (match (M8 v9)[(0 + Int.toNat v16)]? with | some y => cut Tryd.prog 5 (y.cells.map AV.strip) 0 | none => none) (v := .int .u8 e20) ((pe_ld (f := (AV.int .u8)) (G := (fun y => cut Tryd.prog 5 (y.cells.map AV.strip) 0)) he20).trans (by kernel_rfl)) (e1 := z33 [O1 v9]) ?_
     obtain ⟨hc21, h⟩ := chk_some h
     let z34 := fun t => z33 ((25, S1 n2) :: (26, I6 v16) :: (27, I6 (W6 (v16 - 1))) :: (28, .pe 2000000 1 (0 + Int.toNat (W6 (v16 - 1))) 0) :: t)
     refine WO.pi 3 (v := .pe 2000000 1 (0 + Int.toNat (W6 (v16 - 1))) 0) hc21 (e1 := z34 [O1 v9]) ?_
     obtain ⟨e22, he22, h⟩ := bind_some h
     refine WO.pk 0 (match (M8 v9)[(0 + Int.toNat (W6 (v16 - 1)))]? with | some y => cut Tryd.prog 5 (y.cells.map AV.strip) 0 | none => none) (v := .int .u8 e22) ((pe_ld (f := (AV.int .u8)) (G := (fun y => cut Tryd.prog 5 (y.cells.map AV.strip) 0)) he22).trans (by kernel_rfl)) (e1 := z34 [(29, .int .u8 e22), O1 v9]) ?_
     obtain ⟨w23, hw23, h⟩ := bind_some h
     refine WO.ck 0 (F := 54) (l := [.int .u8 e20, .int .u8 e22]) (C := []) (r := .bool w23) (run_cm_Less_byte e20 e22 w23 hw23) (e1 := z34 [(29, .int .u8 e22), (30, .bool w23), O1 v9]) ?_
     refine WO.fn (e2 := z30 [(32, .bool (!w23)), O1 v9]) ?_
     exact hK18 (!w23) h
    replace h := cond_f hb h
    refine WO.fn (e2 := z30 [(32, .bool false), O1 v9]) ?_
    exact hK18 false h
  replace h := cond_f hb h
  refine W.exit ?_
  refine W.wk (env' := [O1 v9]) ?_
  exact hK7 v9 h
end Go.AM
