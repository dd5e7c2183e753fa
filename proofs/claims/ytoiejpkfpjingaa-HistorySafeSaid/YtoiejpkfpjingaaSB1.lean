/- s -/
import Derived.Test.YtoiejpkfpjingaaAWq
import Derived.Test.YtoiejpkfpjingaaChecked
import Derived.Test.YtoiejpkfpjingaaAMap
import Derived.Test.YtoiejpkfpjingaaHA1
set_option maxRecDepth 100000
set_option linter.unusedVariables false
set_option linter.unusedSimpArgs false
namespace Go.AM
open Go.Proofs
structure hssnapshot where
 f_h : (List hsOp)
 f_txns : (List Int)
 f_begin : (List (Int × Int))
 f_end : (List (Int × Int))
def e_hssnapshot (x : hssnapshot) : AV := .agg [l44 none x.f_h, l3 none x.f_txns, mpE (AV.int .i64) (AV.int .i64) x.f_begin, mpE (AV.int .i64) (AV.int .i64) x.f_end]
abbrev sB (s : hssnapshot) : AV := .agg [l44 none s.f_h, l3 none s.f_txns, mpE (AV.int .i64) (AV.int .i64) s.f_begin, mpE (AV.int .i64) (AV.int .i64) s.f_end]
abbrev mp3 (l : List (Int × Int)) : AV := mpE (AV.int .i64) (AV.int .i64) l
end Go.AM
namespace Go.AM
open Go.Proofs
def hs_snapshot_overlap_j5 (v10 : Bool) : Option Bool :=
 (some v10)
def hs_snapshot_overlap (a1 : hssnapshot) (a2 : Int) (a3 : Int) : Option Bool :=
 (chk (wfI .i64 a2) (chk (wfI .i64 a3) (bif (decide ((mget keq1 0 a2 a1.f_begin) < (mget keq1 0 a3 a1.f_end))) then (chk (wfI .i64 a3) (chk (wfI .i64 a2) ((hs_snapshot_overlap_j5) (decide ((mget keq1 0 a3 a1.f_begin) < (mget keq1 0 a2 a1.f_end)))))) else ((hs_snapshot_overlap_j5) false))))
theorem run_hs_snapshot_overlap (a1 : hssnapshot) (a2 : Int) (a3 : Int) (r : Bool) (h : hs_snapshot_overlap a1 a2 a3 = some r) : Run Try.prog (.call 80 [sB a1, I6 a2, I6 a3] (.bool r)) := by
 refine cW Try.func80 rfl (env0 := [(0, sB a1), (1, I6 a2), (2, I6 a3)]) ?_
 unfold hs_snapshot_overlap at h
 refine W.seq ?_
 let z0 := fun t => EN ((1, I6 a2) :: (2, I6 a3) :: (3, .ptr (sB a1)) :: t)
 refine W.regT [1, 2, 3] [3] [] [] (e2 := z0 []) (by kernel_rfl) (by kernel_rfl) (fun _ h => h) ?_
 refine W.seq ?_
 refine W.join (σ := (Bool)) (fun s => [(6, .bool s)]) (fun s => (hs_snapshot_overlap_j5) s = some r) (fun s h => ?_) (fun hK5 => ?_)
 ·obtain ⟨v10, rfl⟩ : ∃ x, x = s := ⟨s, rfl⟩
  have h : (hs_snapshot_overlap_j5) v10 = some r := h
  unfold hs_snapshot_overlap_j5 at h
  refine W.wk (env' := [(6, .bool v10)]) ?_
  have hr : aresults Try.prog Try.f80 [(6, .bool v10)] = some (.bool v10) := by kernel_rfl
  cases h
  exact W.ret hr
 refine W.rg ?_
 obtain ⟨hc6, h⟩ := chk_some h
 let z1 := fun t => z0 ((7, .ptr (mp3 a1.f_begin)) :: (8, mp3 a1.f_begin) :: (9, I6 a2) :: (10, I6 (mget keq1 0 a2 a1.f_begin)) :: t)
 refine WO.pk 3 ((alookup Try.prog 85 [] (mp3 a1.f_begin) (I6 a2)).map AV.strip) (v := I6 (mget keq1 0 a2 a1.f_begin)) (congrArg (Option.map AV.strip) (alookup_mp (F := (AV.int .i64)) (G := (AV.int .i64)) (eq := keq1) (l := a1.f_begin) (k := a2) (z := 0) (kt := 3) (e := 3) (keyS_int hc6) (by kernel_rfl) (fun x => by kernel_rfl) (fun x y => by kernel_rfl) (by kernel_rfl))) (e1 := z1 []) ?_
 obtain ⟨hc7, h⟩ := chk_some h
 let z2 := fun t => z1 ((11, .ptr (mp3 a1.f_end)) :: (12, mp3 a1.f_end) :: (13, I6 a3) :: (14, I6 (mget keq1 0 a3 a1.f_end)) :: t)
 refine WO.pk 3 ((alookup Try.prog 85 [] (mp3 a1.f_end) (I6 a3)).map AV.strip) (v := I6 (mget keq1 0 a3 a1.f_end)) (congrArg (Option.map AV.strip) (alookup_mp (F := (AV.int .i64)) (G := (AV.int .i64)) (eq := keq1) (l := a1.f_end) (k := a3) (z := 0) (kt := 3) (e := 3) (keyS_int hc7) (by kernel_rfl) (fun x => by kernel_rfl) (fun x y => by kernel_rfl) (by kernel_rfl))) (e1 := z2 []) ?_
 refine WO.bk 2 (fun b => z2 [(15, .bool b), (16, .bool b)]) (decide ((mget keq1 0 a2 a1.f_begin) < (mget keq1 0 a3 a1.f_end))) (fun hb => ?_) (fun hb => ?_)
 ·replace h := cond_t hb h
  obtain ⟨hc8, h⟩ := chk_some h
  let z3 := fun t => z2 ((15, .bool true) :: (16, .bool true) :: (17, .ptr (mp3 a1.f_begin)) :: (18, mp3 a1.f_begin) :: (19, I6 a3) :: (20, I6 (mget keq1 0 a3 a1.f_begin)) :: t)
  refine WO.pk 3 ((alookup Try.prog 85 [] (mp3 a1.f_begin) (I6 a3)).map AV.strip) (v := I6 (mget keq1 0 a3 a1.f_begin)) (congrArg (Option.map AV.strip) (alookup_mp (F := (AV.int .i64)) (G := (AV.int .i64)) (eq := keq1) (l := a1.f_begin) (k := a3) (z := 0) (kt := 3) (e := 3) (keyS_int hc8) (by kernel_rfl) (fun x => by kernel_rfl) (fun x y => by kernel_rfl) (by kernel_rfl))) (e1 := z3 []) ?_
  obtain ⟨hc9, h⟩ := chk_some h
  refine WO.pk 3 ((alookup Try.prog 85 [] (mp3 a1.f_end) (I6 a2)).map AV.strip) (v := I6 (mget keq1 0 a2 a1.f_end)) (congrArg (Option.map AV.strip) (alookup_mp (F := (AV.int .i64)) (G := (AV.int .i64)) (eq := keq1) (l := a1.f_end) (k := a2) (z := 0) (kt := 3) (e := 3) (keyS_int hc9) (by kernel_rfl) (fun x => by kernel_rfl) (fun x y => by kernel_rfl) (by kernel_rfl))) (e1 := z3 [(21, .ptr (mp3 a1.f_end)), (22, mp3 a1.f_end), (23, I6 a2), (24, I6 (mget keq1 0 a2 a1.f_end))]) ?_
  refine WO.fn (e2 := [(6, .bool (decide ((mget keq1 0 a3 a1.f_begin) < (mget keq1 0 a2 a1.f_end))))]) ?_
  exact hK5 (decide ((mget keq1 0 a3 a1.f_begin) < (mget keq1 0 a2 a1.f_end))) h
 replace h := cond_f hb h
 refine WO.fn (e2 := [(6, .bool false)]) ?_
 exact hK5 false h
def sl_Contains_hsOp (a1 : (List hsOp)) (a2 : hsOp) : Option Bool :=
 ((sl_Index_hsOp a1 a2).bind fun w5 => (some (decide (w5 ≥ 0))))
theorem run_sl_Contains_hsOp (a1 : (List hsOp)) (a2 : hsOp) (r : Bool) (h : sl_Contains_hsOp a1 a2 = some r) : Run Try.prog (.call 38 [l44 none a1, .agg [I6 a2.f_Txn, I6 a2.f_Kind, I6 a2.f_Item]] (.bool r)) := by
 refine cW Try.func38 rfl (env0 := [(0, l44 none a1), (1, .agg [I6 a2.f_Txn, I6 a2.f_Kind, I6 a2.f_Item])]) ?_
 unfold sl_Contains_hsOp at h
 refine W.seq ?_
 let z0 := fun t => EN ((0, l44 none a1) :: (3, .ptr (.agg [I6 a2.f_Txn, I6 a2.f_Kind, I6 a2.f_Item])) :: t)
 refine W.regT [0, 3] [3] [] [] (e2 := z0 []) (by kernel_rfl) (by kernel_rfl) (fun _ h => h) ?_
 refine W.seq ?_
 refine W.rg ?_
 obtain ⟨w5, hw5, h⟩ := bind_some h
 refine WO.ck 2 (F := 74) (l := [l44 none a1, .agg [I6 a2.f_Txn, I6 a2.f_Kind, I6 a2.f_Item]]) (C := []) (r := I6 w5) (run_sl_Index_hsOp a1 a2 w5 hw5) (e1 := z0 [(5, l44 none a1), (6, .agg [I6 a2.f_Txn, I6 a2.f_Kind, I6 a2.f_Item]), (7, I6 w5)]) ?_
 refine WO.fn (e2 := [(4, .bool (decide (w5 ≥ 0)))]) ?_
 refine W.wk (env' := [(4, .bool (decide (w5 ≥ 0)))]) ?_
 have hr : aresults Try.prog Try.f38 [(4, .bool (decide (w5 ≥ 0)))] = some (.bool (decide (w5 ≥ 0))) := by kernel_rfl
 cases h
 exact W.ret hr
def hs_snapshot_writes (a1 : hssnapshot) (a2 : Int) (a3 : Int) : Option Bool :=
 ((sl_Contains_hsOp a1.f_h (hsOp.mk a2 1 a3)).bind fun w6 => (some w6))
theorem run_hs_snapshot_writes (a1 : hssnapshot) (a2 : Int) (a3 : Int) (r : Bool) (h : hs_snapshot_writes a1 a2 a3 = some r) : Run Try.prog (.call 106 [sB a1, I6 a2, I6 a3] (.bool r)) := by
 refine cW Try.func106 rfl (env0 := [(0, sB a1), (1, I6 a2), (2, I6 a3)]) ?_
 unfold hs_snapshot_writes at h
 refine W.seq ?_
 let z0 := fun t => EN ((1, I6 a2) :: (2, I6 a3) :: (3, .ptr (sB a1)) :: t)
 refine W.regT [1, 2, 3] [3] [] [] (e2 := z0 []) (by kernel_rfl) (by kernel_rfl) (fun _ h => h) ?_
 refine W.seq ?_
 refine W.rg ?_
 obtain ⟨w6, hw6, h⟩ := bind_some h
 refine WO.ck 5 (F := 38) (l := [l44 none a1.f_h, .agg [I6 a2, .int .i64 1, I6 a3]]) (C := []) (r := .bool w6) (run_sl_Contains_hsOp a1.f_h (hsOp.mk a2 1 a3) w6 hw6) (e1 := z0 [(7, .ptr (l44 none a1.f_h)), (8, l44 none a1.f_h), (9, I6 a2), (10, I6 a3), (11, .agg [I6 a2, .int .i64 1, I6 a3]), (12, .bool w6)]) ?_
 refine WO.fn (e2 := [(6, .bool w6)]) ?_
 refine W.wk (env' := [(6, .bool w6)]) ?_
 have hr : aresults Try.prog Try.f106 [(6, .bool w6)] = some (.bool w6) := by kernel_rfl
 cases h
 exact W.ret hr
def hs_snapshot_reads_j5 : Option Bool :=
 (some false)
def hs_snapshot_reads_l1 (a2 : Int) (a3 : Int) (K5 : (Option Bool)) : List hsOp → Nat → Option Bool
 | [], k1 => K5
 | x1 :: r1, k1 => (bif ((x1.f_Txn == a2) && ((x1.f_Kind == 1) && ((x1.f_Item == a3) && true))) then (some false) else (bif ((x1.f_Txn == a2) && ((x1.f_Kind == 0) && ((x1.f_Item == a3) && true))) then (some true) else (hs_snapshot_reads_l1 a2 a3 K5 r1 (k1 + 1))))
def hs_snapshot_reads (a1 : hssnapshot) (a2 : Int) (a3 : Int) : Option Bool :=
 (chk (lenOk a1.f_h) (hs_snapshot_reads_l1 a2 a3 (hs_snapshot_reads_j5) a1.f_h 0))
theorem run_hs_snapshot_reads (a1 : hssnapshot) (a2 : Int) (a3 : Int) (r : Bool) (h : hs_snapshot_reads a1 a2 a3 = some r) : Run Try.prog (.call 107 [sB a1, I6 a2, I6 a3] (.bool r)) := by
 refine cW Try.func107 rfl (env0 := [(0, sB a1), (1, I6 a2), (2, I6 a3)]) ?_
 unfold hs_snapshot_reads at h
 refine W.seq ?_
 let z0 := fun t => EN ((1, I6 a2) :: (2, I6 a3) :: t)
 let z1 := fun t => z0 ((3, .ptr (sB a1)) :: t)
 refine W.regT [1, 2, 3] [3] [] [] (e2 := z1 []) (by kernel_rfl) (by kernel_rfl) (fun _ h => h) ?_
 refine W.seq ?_
 refine W.join (σ := Unit) (fun s => []) (fun s => (hs_snapshot_reads_j5) = some r) (fun s h => ?_) (fun hK5 => ?_)
 ·have h : (hs_snapshot_reads_j5) = some r := h
  unfold hs_snapshot_reads_j5 at h
  refine W.seq ?_
  refine W.rt (e2 := [(6, .bool false)]) ?_
  refine W.wk (env' := [(6, .bool false)]) ?_
  have hr : aresults Try.prog Try.f107 [(6, .bool false)] = some (.bool false) := by kernel_rfl
  cases h
  exact W.ret hr
 refine W.seq ?_
 refine W.rg ?_
 refine WO.pk 2 (some (I6 ((List.map e_hsOp a1.f_h).length : Int))) (v := I6 (a1.f_h.length : Int)) (by rw [List.length_map]) (e1 := z1 [(9, .ptr (l44 none a1.f_h)), (10, l44 none a1.f_h), (11, I6 (a1.f_h.length : Int))]) ?_
 let z2 := fun t => z0 ((10, l44 none a1.f_h) :: (11, I6 (a1.f_h.length : Int)) :: t)
 refine WO.fn (e2 := z2 [(12, .int .i64 0)]) ?_
 refine W.block ?_
 obtain ⟨hl1, h⟩ := chk_some h
 refine W.wk (env' := z2 [(12, I6 ((0 : Nat) : Int))]) ?_
 refine W.range (σ := Unit) a1.f_h (fun k1 s => z2 [(12, I6 (k1 : Int))]) (fun r0 k0 s => hs_snapshot_reads_l1 a2 a3 (hs_snapshot_reads_j5) r0 k0 = some r) (fun s h => ?_) (fun x1 r1 k1 s hx1 hk1 h hN1 => ?_) () h
 ·have h : hs_snapshot_reads_l1 a2 a3 (hs_snapshot_reads_j5) [] (a1.f_h).length = some r := h
  rw [hs_snapshot_reads_l1.eq_1] at h
  refine W.seq ?_
  refine W.rg ?_
  let z3 := fun t => z2 ((12, I6 ((a1.f_h).length : Int)) :: (13, .bool false) :: t)
  refine WO.pk 0 (some (.bool (decide (((a1.f_h).length : Int) < (a1.f_h.length : Int))))) (v := .bool false) (by rw [lt_false (l := a1.f_h)]) (e1 := z3 []) ?_
  refine WO.fn (e2 := z3 []) ?_
  refine W.seq ?_
  refine W.cb false (fun h => Bool.noConfusion h) (fun _ => ?_)
  refine W.exit ?_
  refine W.wk (env' := []) ?_
  exact hK5 () h
 ·have h : hs_snapshot_reads_l1 a2 a3 (hs_snapshot_reads_j5) (x1 :: r1) k1 = some r := h
  rw [hs_snapshot_reads_l1.eq_2] at h
  refine W.seq ?_
  refine W.rg ?_
  let z4 := fun t => z2 ((12, I6 (k1 : Int)) :: t)
  refine WO.pk 0 (some (.bool (decide ((k1 : Int) < (a1.f_h.length : Int))))) (v := .bool true) (by rw [lt_true hk1]) (e1 := z4 [(13, .bool true)]) ?_
  refine WO.fn (e2 := z4 [(13, .bool true)]) ?_
  refine W.seq ?_
  refine W.cb true (fun _ => ?_) (fun h => Bool.noConfusion h)
  refine W.skip ?_
  refine W.wk (env' := z4 []) ?_
  refine W.seq ?_
  refine W.block ?_
  refine W.seq ?_
  refine W.rg ?_
  refine WO.pk 0 (if (0 : Int) ≤ (k1 : Int) then ((List.map e_hsOp a1.f_h)[Int.toNat (k1 : Int)]?).map AV.ptr else none) (v := .ptr (.agg [I6 x1.f_Txn, I6 x1.f_Kind, I6 x1.f_Item])) (idx_nat (f := e_hsOp) hx1) (e1 := z4 [(14, .ptr (.agg [I6 x1.f_Txn, I6 x1.f_Kind, I6 x1.f_Item]))]) ?_
  refine WO.fin [1, 2, 8, 10, 11, 12] [8] [] [] (e2 := z0 [(8, .ptr (.agg [I6 x1.f_Txn, I6 x1.f_Kind, I6 x1.f_Item])), (10, l44 none a1.f_h), (11, I6 (a1.f_h.length : Int)), (12, I6 (k1 : Int))]) (by kernel_rfl) (fun _ h => h) ?_
  refine W.seq ?_
  let z5 := fun t => z4 ((16, .agg [I6 x1.f_Txn, I6 x1.f_Kind, I6 x1.f_Item]) :: t)
  refine W.rt (e2 := z5 []) ?_
  refine W.block ?_
  refine W.seq ?_
  refine W.rt (e2 := z5 [(17, .bool ((x1.f_Txn == a2) && ((x1.f_Kind == 1) && ((x1.f_Item == a3) && true))))]) ?_
  refine W.cb ((x1.f_Txn == a2) && ((x1.f_Kind == 1) && ((x1.f_Item == a3) && true))) (fun hb => ?_) (fun hb => ?_)
  ·replace h := cond_t hb h
   refine W.seq ?_
   refine W.rt (e2 := [(6, .bool false)]) ?_
   refine W.wk (env' := [(6, .bool false)]) ?_
   have hr : aresults Try.prog Try.f107 [(6, .bool false)] = some (.bool false) := by kernel_rfl
   cases h
   exact W.ret hr
  replace h := cond_f hb h
  refine W.seq ?_
  refine W.rt (e2 := z4 [(22, .bool ((x1.f_Txn == a2) && ((x1.f_Kind == 0) && ((x1.f_Item == a3) && true))))]) ?_
  refine W.cb ((x1.f_Txn == a2) && ((x1.f_Kind == 0) && ((x1.f_Item == a3) && true))) (fun hb => ?_) (fun hb => ?_)
  ·replace h := cond_t hb h
   refine W.seq ?_
   refine W.rt (e2 := [(6, .bool true)]) ?_
   refine W.wk (env' := [(6, .bool true)]) ?_
   have hr : aresults Try.prog Try.f107 [(6, .bool true)] = some (.bool true) := by kernel_rfl
   cases h
   exact W.ret hr
  replace h := cond_f hb h
  refine W.skip ?_
  refine W.wk (env' := z4 []) ?_
  refine W.rg ?_
  refine WO.pk 0 (some (I6 (IntKind.wrap .i64 ((k1 : Int) + 1)))) (v := I6 ((k1 + 1 : Nat) : Int)) (by rw [wrap_succ hl1 hk1]) (e1 := z4 [(27, I6 ((k1 + 1 : Nat) : Int))]) ?_
  refine WO.fn (e2 := z2 [(12, I6 ((k1 + 1 : Nat) : Int))]) ?_
  exact hN1 () h
def hs_snapshot_source_j6 (v19 : Int) : Option Int :=
 (some v19)
def hs_snapshot_source_j11 (x1 : Int) (v8 : Int) (K9 : (Int → Option Int)) (v17 : Bool) : Option Int :=
 (bif v17 then (K9 x1) else (K9 v8))
def hs_snapshot_source_j9 (N1 : (Int → Option Int)) (v18 : Int) : Option Int :=
 (N1 v18)
def hs_snapshot_source_l1 (a1 : hssnapshot) (a2 : Int) (a3 : Int) (K6 : (Int → Option Int)) : List Int → Nat → Int → Option Int
 | [], k1, v8 => (K6 v8)
 | x1 :: r1, k1, v8 => ((hs_snapshot_writes a1 x1 a3).bind fun w12 => (bif w12 then (chk (wfI .i64 x1) (chk (wfI .i64 a2) (bif (decide ((mget keq1 0 x1 a1.f_end) < (mget keq1 0 a2 a1.f_begin))) then (bif (v8 == 0) then ((hs_snapshot_source_j11 x1 v8 (hs_snapshot_source_j9 (hs_snapshot_source_l1 a1 a2 a3 K6 r1 (k1 + 1)))) true) else (chk (wfI .i64 x1) (chk (wfI .i64 v8) ((hs_snapshot_source_j11 x1 v8 (hs_snapshot_source_j9 (hs_snapshot_source_l1 a1 a2 a3 K6 r1 (k1 + 1)))) (decide ((mget keq1 0 x1 a1.f_end) > (mget keq1 0 v8 a1.f_end))))))) else ((hs_snapshot_source_j11 x1 v8 (hs_snapshot_source_j9 (hs_snapshot_source_l1 a1 a2 a3 K6 r1 (k1 + 1)))) false)))) else ((hs_snapshot_source_j11 x1 v8 (hs_snapshot_source_j9 (hs_snapshot_source_l1 a1 a2 a3 K6 r1 (k1 + 1)))) false)))
def hs_snapshot_source (a1 : hssnapshot) (a2 : Int) (a3 : Int) : Option Int :=
 (chk (lenOk a1.f_txns) (hs_snapshot_source_l1 a1 a2 a3 (hs_snapshot_source_j6) a1.f_txns 0 0))
theorem run_hs_snapshot_source (a1 : hssnapshot) (a2 : Int) (a3 : Int) (r : Int) (h : hs_snapshot_source a1 a2 a3 = some r) : Run Try.prog (.call 108 [sB a1, I6 a2, I6 a3] (I6 r)) := by
 refine cW Try.func108 rfl (env0 := [(0, sB a1), (1, I6 a2), (2, I6 a3)]) ?_
 unfold hs_snapshot_source at h
 refine W.seq ?_
 let z0 := fun t => EN ((1, I6 a2) :: (2, I6 a3) :: (3, .ptr (sB a1)) :: t)
 refine W.regT [1, 2, 3] [3] [] [] (e2 := z0 []) (by kernel_rfl) (by kernel_rfl) (fun _ h => h) ?_
 refine W.seq ?_
 let z1 := fun t => z0 ((7, .int .i64 0) :: t)
 refine W.rt (e2 := z1 []) ?_
 refine W.seq ?_
 refine W.join (σ := (Int)) (fun s => [(7, I6 s)]) (fun s => (hs_snapshot_source_j6) s = some r) (fun s h => ?_) (fun hK6 => ?_)
 ·obtain ⟨v19, rfl⟩ : ∃ x, x = s := ⟨s, rfl⟩
  have h : (hs_snapshot_source_j6) v19 = some r := h
  unfold hs_snapshot_source_j6 at h
  refine W.seq ?_
  refine W.rt (e2 := [(6, I6 v19)]) ?_
  refine W.wk (env' := [(6, I6 v19)]) ?_
  have hr : aresults Try.prog Try.f108 [(6, I6 v19)] = some (I6 v19) := by kernel_rfl
  cases h
  exact W.ret hr
 refine W.seq ?_
 refine W.rg ?_
 refine WO.pk 2 (some (I6 ((M6 a1.f_txns).length : Int))) (v := I6 (a1.f_txns.length : Int)) (by rw [List.length_map]) (e1 := z1 [(10, .ptr (l3 none a1.f_txns)), (11, l3 none a1.f_txns), (12, I6 (a1.f_txns.length : Int))]) ?_
 let z2 := fun t => z1 ((11, l3 none a1.f_txns) :: (12, I6 (a1.f_txns.length : Int)) :: t)
 refine WO.fn (e2 := z2 [(13, .int .i64 0)]) ?_
 refine W.block ?_
 obtain ⟨hl1, h⟩ := chk_some h
 refine W.wk (env' := z2 [(13, I6 ((0 : Nat) : Int))]) ?_
 refine W.range (σ := (Int)) a1.f_txns (fun k1 s => z0 [(7, I6 s), (11, l3 none a1.f_txns), (12, I6 (a1.f_txns.length : Int)), (13, I6 (k1 : Int))]) (fun r0 k0 s => hs_snapshot_source_l1 a1 a2 a3 (hs_snapshot_source_j6) r0 k0 s = some r) (fun s h => ?_) (fun x1 r1 k1 s hx1 hk1 h hN1 => ?_) 0 h
 ·obtain ⟨v8, rfl⟩ : ∃ x, x = s := ⟨s, rfl⟩
  have h : hs_snapshot_source_l1 a1 a2 a3 (hs_snapshot_source_j6) [] (a1.f_txns).length v8 = some r := h
  rw [hs_snapshot_source_l1.eq_1] at h
  refine W.seq ?_
  refine W.rg ?_
  let z3 := fun t => z0 ((7, I6 v8) :: (11, l3 none a1.f_txns) :: (12, I6 (a1.f_txns.length : Int)) :: (13, I6 ((a1.f_txns).length : Int)) :: (14, .bool false) :: t)
  refine WO.pk 0 (some (.bool (decide (((a1.f_txns).length : Int) < (a1.f_txns.length : Int))))) (v := .bool false) (by rw [lt_false (l := a1.f_txns)]) (e1 := z3 []) ?_
  refine WO.fn (e2 := z3 []) ?_
  refine W.seq ?_
  refine W.cb false (fun h => Bool.noConfusion h) (fun _ => ?_)
  refine W.exit ?_
  refine W.wk (env' := [(7, I6 v8)]) ?_
  exact hK6 v8 h
 ·obtain ⟨v8, rfl⟩ : ∃ x, x = s := ⟨s, rfl⟩
  have h : hs_snapshot_source_l1 a1 a2 a3 (hs_snapshot_source_j6) (x1 :: r1) k1 v8 = some r := h
  rw [hs_snapshot_source_l1.eq_2] at h
  refine W.seq ?_
  refine W.rg ?_
  let z4 := fun t => z0 ((7, I6 v8) :: (11, l3 none a1.f_txns) :: (12, I6 (a1.f_txns.length : Int)) :: (13, I6 (k1 : Int)) :: t)
  refine WO.pk 0 (some (.bool (decide ((k1 : Int) < (a1.f_txns.length : Int))))) (v := .bool true) (by rw [lt_true hk1]) (e1 := z4 [(14, .bool true)]) ?_
  refine WO.fn (e2 := z4 [(14, .bool true)]) ?_
  refine W.seq ?_
  refine W.cb true (fun _ => ?_) (fun h => Bool.noConfusion h)
  refine W.skip ?_
  refine W.wk (env' := z4 []) ?_
  refine W.seq ?_
  refine W.join (σ := (Int)) (fun s => z0 [(7, I6 s), (11, l3 none a1.f_txns), (12, I6 (a1.f_txns.length : Int)), (13, I6 (k1 : Int))]) (fun s => (hs_snapshot_source_j9 (hs_snapshot_source_l1 a1 a2 a3 (hs_snapshot_source_j6) r1 (k1 + 1))) s = some r) (fun s h => ?_) (fun hK9 => ?_)
  ·obtain ⟨v18, rfl⟩ : ∃ x, x = s := ⟨s, rfl⟩
   have h : (hs_snapshot_source_j9 (hs_snapshot_source_l1 a1 a2 a3 (hs_snapshot_source_j6) r1 (k1 + 1))) v18 = some r := h
   unfold hs_snapshot_source_j9 at h
   refine W.rg ?_
   let z5 := fun t => z0 ((7, I6 v18) :: (11, l3 none a1.f_txns) :: (12, I6 (a1.f_txns.length : Int)) :: t)
   refine WO.pk 0 (some (I6 (IntKind.wrap .i64 ((k1 : Int) + 1)))) (v := I6 ((k1 + 1 : Nat) : Int)) (by rw [wrap_succ hl1 hk1]) (e1 := z5 [(13, I6 (k1 : Int)), (48, I6 ((k1 + 1 : Nat) : Int))]) ?_
   refine WO.fn (e2 := z5 [(13, I6 ((k1 + 1 : Nat) : Int))]) ?_
   exact hN1 v18 h
  refine W.block ?_
  refine W.seq ?_
  refine W.rg ?_
  refine WO.pk 0 (if (0 : Int) ≤ (k1 : Int) then ((M6 a1.f_txns)[Int.toNat (k1 : Int)]?).map AV.ptr else none) (v := .ptr (I6 x1)) (idx_nat (f := (AV.int .i64)) hx1) (e1 := z4 [(15, .ptr (I6 x1))]) ?_
  let z6 := fun t => z0 ((7, I6 v8) :: (9, I6 x1) :: (11, l3 none a1.f_txns) :: (12, I6 (a1.f_txns.length : Int)) :: (13, I6 (k1 : Int)) :: t)
  refine WO.fn (e2 := z6 []) ?_
  refine W.seq ?_
  refine W.join (σ := (Bool)) (fun s => z6 [(46, .bool s)]) (fun s => (hs_snapshot_source_j11 x1 v8 (hs_snapshot_source_j9 (hs_snapshot_source_l1 a1 a2 a3 (hs_snapshot_source_j6) r1 (k1 + 1)))) s = some r) (fun s h => ?_) (fun hK11 => ?_)
  ·obtain ⟨v17, rfl⟩ : ∃ x, x = s := ⟨s, rfl⟩
   have h : (hs_snapshot_source_j11 x1 v8 (hs_snapshot_source_j9 (hs_snapshot_source_l1 a1 a2 a3 (hs_snapshot_source_j6) r1 (k1 + 1)))) v17 = some r := h
   unfold hs_snapshot_source_j11 at h
   refine W.cb v17 (fun hb => ?_) (fun hb => ?_)
   ·replace h := cond_t hb h
    refine W.rt (e2 := z0 [(7, I6 x1), (11, l3 none a1.f_txns), (12, I6 (a1.f_txns.length : Int)), (13, I6 (k1 : Int))]) ?_
    exact hK9 x1 h
   replace h := cond_f hb h
   refine W.skip ?_
   refine W.wk (env' := z4 []) ?_
   exact hK9 v8 h
  refine W.rg ?_
  obtain ⟨w12, hw12, h⟩ := bind_some h
  let z7 := fun t => z6 ((17, sB a1) :: (18, I6 x1) :: (19, I6 a3) :: t)
  refine WO.ck 3 (F := 106) (l := [sB a1, I6 x1, I6 a3]) (C := []) (r := .bool w12) (run_hs_snapshot_writes a1 x1 a3 w12 hw12) (e1 := z7 [(20, .bool w12)]) ?_
  refine WO.bk 1 (fun b => z7 [(20, .bool b), (21, .bool b)]) w12 (fun hb => ?_) (fun hb => ?_)
  ·replace h := cond_t hb h
   obtain ⟨hc13, h⟩ := chk_some h
   let z8 := fun t => z7 ((20, .bool true) :: (21, .bool true) :: (22, .ptr (mp3 a1.f_end)) :: (23, mp3 a1.f_end) :: (24, I6 x1) :: (25, I6 (mget keq1 0 x1 a1.f_end)) :: t)
   refine WO.pk 3 ((alookup Try.prog 85 [] (mp3 a1.f_end) (I6 x1)).map AV.strip) (v := I6 (mget keq1 0 x1 a1.f_end)) (congrArg (Option.map AV.strip) (alookup_mp (F := (AV.int .i64)) (G := (AV.int .i64)) (eq := keq1) (l := a1.f_end) (k := x1) (z := 0) (kt := 3) (e := 3) (keyS_int hc13) (by kernel_rfl) (fun x => by kernel_rfl) (fun x y => by kernel_rfl) (by kernel_rfl))) (e1 := z8 []) ?_
   obtain ⟨hc14, h⟩ := chk_some h
   let z9 := fun t => z8 ((26, .ptr (mp3 a1.f_begin)) :: (27, mp3 a1.f_begin) :: (28, I6 a2) :: (29, I6 (mget keq1 0 a2 a1.f_begin)) :: t)
   refine WO.pk 3 ((alookup Try.prog 85 [] (mp3 a1.f_begin) (I6 a2)).map AV.strip) (v := I6 (mget keq1 0 a2 a1.f_begin)) (congrArg (Option.map AV.strip) (alookup_mp (F := (AV.int .i64)) (G := (AV.int .i64)) (eq := keq1) (l := a1.f_begin) (k := a2) (z := 0) (kt := 3) (e := 3) (keyS_int hc14) (by kernel_rfl) (fun x => by kernel_rfl) (fun x y => by kernel_rfl) (by kernel_rfl))) (e1 := z9 []) ?_
   refine WO.bk 3 (fun b => z9 [(30, .bool b), (31, .bool b), (32, .bool b)]) (decide ((mget keq1 0 x1 a1.f_end) < (mget keq1 0 a2 a1.f_begin))) (fun hb => ?_) (fun hb => ?_)
   ·replace h := cond_t hb h
    let z10 := fun t => z9 ((30, .bool true) :: (31, .bool true) :: (32, .bool true) :: (33, I6 v8) :: t)
    refine WO.bk 3 (fun b => z10 [(34, .bool b), (35, .bool b)]) (v8 == 0) (fun hb => ?_) (fun hb => ?_)
    ·replace h := cond_t hb h
     refine WO.fn (e2 := z6 [(46, .bool true)]) ?_
     exact hK11 true h
    replace h := cond_f hb h
    obtain ⟨hc15, h⟩ := chk_some h
    let z11 := fun t => z10 ((34, .bool false) :: (35, .bool false) :: (36, .ptr (mp3 a1.f_end)) :: (37, mp3 a1.f_end) :: (38, I6 x1) :: (39, I6 (mget keq1 0 x1 a1.f_end)) :: t)
    refine WO.pk 3 ((alookup Try.prog 85 [] (mp3 a1.f_end) (I6 x1)).map AV.strip) (v := I6 (mget keq1 0 x1 a1.f_end)) (congrArg (Option.map AV.strip) (alookup_mp (F := (AV.int .i64)) (G := (AV.int .i64)) (eq := keq1) (l := a1.f_end) (k := x1) (z := 0) (kt := 3) (e := 3) (keyS_int hc15) (by kernel_rfl) (fun x => by kernel_rfl) (fun x y => by kernel_rfl) (by kernel_rfl))) (e1 := z11 []) ?_
    obtain ⟨hc16, h⟩ := chk_some h
    refine WO.pk 3 ((alookup Try.prog 85 [] (mp3 a1.f_end) (I6 v8)).map AV.strip) (v := I6 (mget keq1 0 v8 a1.f_end)) (congrArg (Option.map AV.strip) (alookup_mp (F := (AV.int .i64)) (G := (AV.int .i64)) (eq := keq1) (l := a1.f_end) (k := v8) (z := 0) (kt := 3) (e := 3) (keyS_int hc16) (by kernel_rfl) (fun x => by kernel_rfl) (fun x y => by kernel_rfl) (by kernel_rfl))) (e1 := z11 [(40, .ptr (mp3 a1.f_end)), (41, mp3 a1.f_end), (42, I6 v8), (43, I6 (mget keq1 0 v8 a1.f_end))]) ?_
    refine WO.fn (e2 := z6 [(46, .bool (decide ((mget keq1 0 x1 a1.f_end) > (mget keq1 0 v8 a1.f_end))))]) ?_
    exact hK11 (decide ((mget keq1 0 x1 a1.f_end) > (mget keq1 0 v8 a1.f_end))) h
   replace h := cond_f hb h
   refine WO.fn (e2 := z6 [(46, .bool false)]) ?_
   exact hK11 false h
  replace h := cond_f hb h
  refine WO.fn (e2 := z6 [(46, .bool false)]) ?_
  exact hK11 false h
def hs_snapshot_allowed_j3 : Option Bool :=
 (some true)
def hs_snapshot_allowed_j5 (N1 : (Option Bool)) : Option Bool :=
 N1
def hs_snapshot_allowed_j8 (N2 : (Option Bool)) : Option Bool :=
 N2
def hs_snapshot_allowed_j13 (N3 : (Option Bool)) (v17 : Bool) : Option Bool :=
 (bif v17 then (some false) else N3)
def hs_snapshot_allowed_l3 (a1 : hssnapshot) (x1 : Int) (x2 : Int) (K8 : (Option Bool)) : List Nat → Nat → Option Bool
 | [], k3 => K8
 | x3 :: r3, k3 => (bif (decide (x1 < x2)) then ((hs_snapshot_overlap a1 x1 x2).bind fun w14 => (bif w14 then ((hs_snapshot_writes a1 x1 (k3 : Int)).bind fun w15 => (bif w15 then ((hs_snapshot_writes a1 x2 (k3 : Int)).bind fun w16 => ((hs_snapshot_allowed_j13 (hs_snapshot_allowed_l3 a1 x1 x2 K8 r3 (k3 + 1))) w16)) else ((hs_snapshot_allowed_j13 (hs_snapshot_allowed_l3 a1 x1 x2 K8 r3 (k3 + 1))) false))) else ((hs_snapshot_allowed_j13 (hs_snapshot_allowed_l3 a1 x1 x2 K8 r3 (k3 + 1))) false))) else ((hs_snapshot_allowed_j13 (hs_snapshot_allowed_l3 a1 x1 x2 K8 r3 (k3 + 1))) false))
def hs_snapshot_allowed_l2 (a1 : hssnapshot) (x1 : Int) (K5 : (Option Bool)) : List Int → Nat → Option Bool
 | [], k2 => K5
 | x2 :: r2, k2 => (chk (lenOk (List.range (Int.toNat 6))) (hs_snapshot_allowed_l3 a1 x1 x2 (hs_snapshot_allowed_j8 (hs_snapshot_allowed_l2 a1 x1 K5 r2 (k2 + 1))) (List.range (Int.toNat 6)) 0))
def hs_snapshot_allowed_l1 (a1 : hssnapshot) (K3 : (Option Bool)) : List Int → Nat → Option Bool
 | [], k1 => K3
 | x1 :: r1, k1 => (chk (lenOk a1.f_txns) (hs_snapshot_allowed_l2 a1 x1 (hs_snapshot_allowed_j5 (hs_snapshot_allowed_l1 a1 K3 r1 (k1 + 1))) a1.f_txns 0))
def hs_snapshot_allowed (a1 : hssnapshot) : Option Bool :=
 (chk (lenOk a1.f_txns) (hs_snapshot_allowed_l1 a1 (hs_snapshot_allowed_j3) a1.f_txns 0))
theorem run_hs_snapshot_allowed (a1 : hssnapshot) (r : Bool) (h : hs_snapshot_allowed a1 = some r) : Run Try.prog (.call 78 [sB a1] (.bool r)) := by
 refine cW Try.func78 rfl (env0 := [(0, sB a1)]) ?_
 unfold hs_snapshot_allowed at h
 refine W.seq ?_
 let z0 := fun t => EN ((1, .ptr (sB a1)) :: t)
 refine W.regT [1] [1] [] [] (e2 := z0 []) (by kernel_rfl) (by kernel_rfl) (fun _ h => h) ?_
 refine W.seq ?_
 refine W.join (σ := Unit) (fun s => []) (fun s => (hs_snapshot_allowed_j3) = some r) (fun s h => ?_) (fun hK3 => ?_)
 ·have h : (hs_snapshot_allowed_j3) = some r := h
  unfold hs_snapshot_allowed_j3 at h
  refine W.seq ?_
  refine W.rt (e2 := [(2, .bool true)]) ?_
  refine W.wk (env' := [(2, .bool true)]) ?_
  have hr : aresults Try.prog Try.f78 [(2, .bool true)] = some (.bool true) := by kernel_rfl
  cases h
  exact W.ret hr
 refine W.seq ?_
 refine W.rg ?_
 refine WO.pk 2 (some (I6 ((M6 a1.f_txns).length : Int))) (v := I6 (a1.f_txns.length : Int)) (by rw [List.length_map]) (e1 := z0 [(8, .ptr (l3 none a1.f_txns)), (9, l3 none a1.f_txns), (10, I6 (a1.f_txns.length : Int))]) ?_
 let z1 := fun t => z0 ((9, l3 none a1.f_txns) :: (10, I6 (a1.f_txns.length : Int)) :: t)
 refine WO.fn (e2 := z1 [(11, .int .i64 0)]) ?_
 refine W.block ?_
 obtain ⟨hl1, h⟩ := chk_some h
 refine W.wk (env' := z1 [(11, I6 ((0 : Nat) : Int))]) ?_
 refine W.range (σ := Unit) a1.f_txns (fun k1 s => z1 [(11, I6 (k1 : Int))]) (fun r0 k0 s => hs_snapshot_allowed_l1 a1 (hs_snapshot_allowed_j3) r0 k0 = some r) (fun s h => ?_) (fun x1 r1 k1 s hx1 hk1 h hN1 => ?_) () h
 ·have h : hs_snapshot_allowed_l1 a1 (hs_snapshot_allowed_j3) [] (a1.f_txns).length = some r := h
  rw [hs_snapshot_allowed_l1.eq_1] at h
  refine W.seq ?_
  refine W.rg ?_
  let z2 := fun t => z1 ((11, I6 ((a1.f_txns).length : Int)) :: (12, .bool false) :: t)
  refine WO.pk 0 (some (.bool (decide (((a1.f_txns).length : Int) < (a1.f_txns.length : Int))))) (v := .bool false) (by rw [lt_false (l := a1.f_txns)]) (e1 := z2 []) ?_
  refine WO.fn (e2 := z2 []) ?_
  refine W.seq ?_
  refine W.cb false (fun h => Bool.noConfusion h) (fun _ => ?_)
  refine W.exit ?_
  refine W.wk (env' := []) ?_
  exact hK3 () h
 ·have h : hs_snapshot_allowed_l1 a1 (hs_snapshot_allowed_j3) (x1 :: r1) k1 = some r := h
  rw [hs_snapshot_allowed_l1.eq_2] at h
  refine W.seq ?_
  refine W.rg ?_
  let z3 := fun t => z1 ((11, I6 (k1 : Int)) :: t)
  refine WO.pk 0 (some (.bool (decide ((k1 : Int) < (a1.f_txns.length : Int))))) (v := .bool true) (by rw [lt_true hk1]) (e1 := z3 [(12, .bool true)]) ?_
  refine WO.fn (e2 := z3 [(12, .bool true)]) ?_
  refine W.seq ?_
  refine W.cb true (fun _ => ?_) (fun h => Bool.noConfusion h)
  refine W.skip ?_
  refine W.wk (env' := z3 []) ?_
  refine W.seq ?_
  refine W.join (σ := Unit) (fun s => z3 []) (fun s => (hs_snapshot_allowed_j5 (hs_snapshot_allowed_l1 a1 (hs_snapshot_allowed_j3) r1 (k1 + 1))) = some r) (fun s h => ?_) (fun hK5 => ?_)
  ·have h : (hs_snapshot_allowed_j5 (hs_snapshot_allowed_l1 a1 (hs_snapshot_allowed_j3) r1 (k1 + 1))) = some r := h
   unfold hs_snapshot_allowed_j5 at h
   refine W.rg ?_
   refine WO.pk 0 (some (I6 (IntKind.wrap .i64 ((k1 : Int) + 1)))) (v := I6 ((k1 + 1 : Nat) : Int)) (by rw [wrap_succ hl1 hk1]) (e1 := z3 [(48, I6 ((k1 + 1 : Nat) : Int))]) ?_
   refine WO.fn (e2 := z1 [(11, I6 ((k1 + 1 : Nat) : Int))]) ?_
   exact hN1 () h
  refine W.block ?_
  refine W.seq ?_
  refine W.rg ?_
  refine WO.pk 0 (if (0 : Int) ≤ (k1 : Int) then ((M6 a1.f_txns)[Int.toNat (k1 : Int)]?).map AV.ptr else none) (v := .ptr (I6 x1)) (idx_nat (f := (AV.int .i64)) hx1) (e1 := z3 [(13, .ptr (I6 x1))]) ?_
  let z4 := fun t => z0 ((4, I6 x1) :: (9, l3 none a1.f_txns) :: (10, I6 (a1.f_txns.length : Int)) :: (11, I6 (k1 : Int)) :: t)
  refine WO.fn (e2 := z4 []) ?_
  refine W.seq ?_
  refine W.rg ?_
  refine WO.pk 2 (some (I6 ((M6 a1.f_txns).length : Int))) (v := I6 (a1.f_txns.length : Int)) (by rw [List.length_map]) (e1 := z4 [(15, .ptr (l3 none a1.f_txns)), (16, l3 none a1.f_txns), (17, I6 (a1.f_txns.length : Int))]) ?_
  let z5 := fun t => z4 ((16, l3 none a1.f_txns) :: (17, I6 (a1.f_txns.length : Int)) :: t)
  refine WO.fn (e2 := z5 [(18, .int .i64 0)]) ?_
  refine W.block ?_
  obtain ⟨hl2, h⟩ := chk_some h
  refine W.wk (env' := z5 [(18, I6 ((0 : Nat) : Int))]) ?_
  refine W.range (σ := Unit) a1.f_txns (fun k2 s => z5 [(18, I6 (k2 : Int))]) (fun r0 k0 s => hs_snapshot_allowed_l2 a1 x1 (hs_snapshot_allowed_j5 (hs_snapshot_allowed_l1 a1 (hs_snapshot_allowed_j3) r1 (k1 + 1))) r0 k0 = some r) (fun s h => ?_) (fun x2 r2 k2 s hx2 hk2 h hN2 => ?_) () h
  ·have h : hs_snapshot_allowed_l2 a1 x1 (hs_snapshot_allowed_j5 (hs_snapshot_allowed_l1 a1 (hs_snapshot_allowed_j3) r1 (k1 + 1))) [] (a1.f_txns).length = some r := h
   rw [hs_snapshot_allowed_l2.eq_1] at h
   refine W.seq ?_
   refine W.rg ?_
   let z6 := fun t => z5 ((18, I6 ((a1.f_txns).length : Int)) :: (19, .bool false) :: t)
   refine WO.pk 0 (some (.bool (decide (((a1.f_txns).length : Int) < (a1.f_txns.length : Int))))) (v := .bool false) (by rw [lt_false (l := a1.f_txns)]) (e1 := z6 []) ?_
   refine WO.fn (e2 := z6 []) ?_
   refine W.seq ?_
   refine W.cb false (fun h => Bool.noConfusion h) (fun _ => ?_)
   refine W.exit ?_
   refine W.wk (env' := z3 []) ?_
   exact hK5 () h
  ·have h : hs_snapshot_allowed_l2 a1 x1 (hs_snapshot_allowed_j5 (hs_snapshot_allowed_l1 a1 (hs_snapshot_allowed_j3) r1 (k1 + 1))) (x2 :: r2) k2 = some r := h
   rw [hs_snapshot_allowed_l2.eq_2] at h
   refine W.seq ?_
   refine W.rg ?_
   let z7 := fun t => z5 ((18, I6 (k2 : Int)) :: t)
   refine WO.pk 0 (some (.bool (decide ((k2 : Int) < (a1.f_txns.length : Int))))) (v := .bool true) (by rw [lt_true hk2]) (e1 := z7 [(19, .bool true)]) ?_
   refine WO.fn (e2 := z7 [(19, .bool true)]) ?_
   refine W.seq ?_
   refine W.cb true (fun _ => ?_) (fun h => Bool.noConfusion h)
   refine W.skip ?_
   refine W.wk (env' := z7 []) ?_
   refine W.seq ?_
   refine W.join (σ := Unit) (fun s => z7 []) (fun s => (hs_snapshot_allowed_j8 (hs_snapshot_allowed_l2 a1 x1 (hs_snapshot_allowed_j5 (hs_snapshot_allowed_l1 a1 (hs_snapshot_allowed_j3) r1 (k1 + 1))) r2 (k2 + 1))) = some r) (fun s h => ?_) (fun hK8 => ?_)
   ·have h : (hs_snapshot_allowed_j8 (hs_snapshot_allowed_l2 a1 x1 (hs_snapshot_allowed_j5 (hs_snapshot_allowed_l1 a1 (hs_snapshot_allowed_j3) r1 (k1 + 1))) r2 (k2 + 1))) = some r := h
    unfold hs_snapshot_allowed_j8 at h
    refine W.rg ?_
    refine WO.pk 0 (some (I6 (IntKind.wrap .i64 ((k2 : Int) + 1)))) (v := I6 ((k2 + 1 : Nat) : Int)) (by rw [wrap_succ hl2 hk2]) (e1 := z7 [(47, I6 ((k2 + 1 : Nat) : Int))]) ?_
    refine WO.fn (e2 := z5 [(18, I6 ((k2 + 1 : Nat) : Int))]) ?_
    exact hN2 () h
   refine W.block ?_
   refine W.seq ?_
   refine W.rg ?_
   refine WO.pk 0 (if (0 : Int) ≤ (k2 : Int) then ((M6 a1.f_txns)[Int.toNat (k2 : Int)]?).map AV.ptr else none) (v := .ptr (I6 x2)) (idx_nat (f := (AV.int .i64)) hx2) (e1 := z7 [(20, .ptr (I6 x2))]) ?_
   let z8 := fun t => z0 ((4, I6 x1) :: (6, I6 x2) :: (9, l3 none a1.f_txns) :: (10, I6 (a1.f_txns.length : Int)) :: (11, I6 (k1 : Int)) :: (16, l3 none a1.f_txns) :: (17, I6 (a1.f_txns.length : Int)) :: (18, I6 (k2 : Int)) :: t)
   refine WO.fn (e2 := z8 []) ?_
   refine W.seq ?_
   refine W.rt (e2 := z8 [(22, .int .i64 0)]) ?_
   refine W.block ?_
   obtain ⟨hl3, h⟩ := chk_some h
   refine W.wk (env' := z8 [(22, I6 ((0 : Nat) : Int))]) ?_
   refine W.range (σ := Unit) (List.range (Int.toNat 6)) (fun k3 s => z8 [(22, I6 (k3 : Int))]) (fun r0 k0 s => hs_snapshot_allowed_l3 a1 x1 x2 (hs_snapshot_allowed_j8 (hs_snapshot_allowed_l2 a1 x1 (hs_snapshot_allowed_j5 (hs_snapshot_allowed_l1 a1 (hs_snapshot_allowed_j3) r1 (k1 + 1))) r2 (k2 + 1))) r0 k0 = some r) (fun s h => ?_) (fun x3 r3 k3 s hx3 hk3 h hN3 => ?_) () h
   ·have h : hs_snapshot_allowed_l3 a1 x1 x2 (hs_snapshot_allowed_j8 (hs_snapshot_allowed_l2 a1 x1 (hs_snapshot_allowed_j5 (hs_snapshot_allowed_l1 a1 (hs_snapshot_allowed_j3) r1 (k1 + 1))) r2 (k2 + 1))) [] ((List.range (Int.toNat 6))).length = some r := h
    rw [hs_snapshot_allowed_l3.eq_1] at h
    refine W.seq ?_
    refine W.rg ?_
    let z9 := fun t => z8 ((22, I6 (((List.range (Int.toNat 6))).length : Int)) :: (23, .bool false) :: t)
    refine WO.pk 0 (some (.bool (decide ((((List.range (Int.toNat 6))).length : Int) < 6)))) (v := .bool false) (by rw [ltr_false (n := 6)]) (e1 := z9 []) ?_
    refine WO.fn (e2 := z9 []) ?_
    refine W.seq ?_
    refine W.cb false (fun h => Bool.noConfusion h) (fun _ => ?_)
    refine W.exit ?_
    refine W.wk (env' := z7 []) ?_
    exact hK8 () h
   ·have h : hs_snapshot_allowed_l3 a1 x1 x2 (hs_snapshot_allowed_j8 (hs_snapshot_allowed_l2 a1 x1 (hs_snapshot_allowed_j5 (hs_snapshot_allowed_l1 a1 (hs_snapshot_allowed_j3) r1 (k1 + 1))) r2 (k2 + 1))) (x3 :: r3) k3 = some r := h
    rw [hs_snapshot_allowed_l3.eq_2] at h
    refine W.seq ?_
    refine W.rg ?_
    let z10 := fun t => z8 ((22, I6 (k3 : Int)) :: t)
    refine WO.pk 0 (some (.bool (decide ((k3 : Int) < 6)))) (v := .bool true) (by rw [ltr_true hk3]) (e1 := z10 [(23, .bool true)]) ?_
    refine WO.fn (e2 := z10 [(23, .bool true)]) ?_
    refine W.seq ?_
    refine W.cb true (fun _ => ?_) (fun h => Bool.noConfusion h)
    refine W.skip ?_
    refine W.wk (env' := z10 []) ?_
    refine W.seq ?_
    refine W.block ?_
    refine W.seq ?_
    let z11 := fun t => z0 ((4, I6 x1) :: (6, I6 x2) :: (7, I6 (k3 : Int)) :: (9, l3 none a1.f_txns) :: (10, I6 (a1.f_txns.length : Int)) :: (11, I6 (k1 : Int)) :: (16, l3 none a1.f_txns) :: (17, I6 (a1.f_txns.length : Int)) :: (18, I6 (k2 : Int)) :: (22, I6 (k3 : Int)) :: t)
    refine W.rt (e2 := z11 []) ?_
    refine W.seq ?_
    refine W.join (σ := (Bool)) (fun s => z10 [(45, .bool s)]) (fun s => (hs_snapshot_allowed_j13 (hs_snapshot_allowed_l3 a1 x1 x2 (hs_snapshot_allowed_j8 (hs_snapshot_allowed_l2 a1 x1 (hs_snapshot_allowed_j5 (hs_snapshot_allowed_l1 a1 (hs_snapshot_allowed_j3) r1 (k1 + 1))) r2 (k2 + 1))) r3 (k3 + 1))) s = some r) (fun s h => ?_) (fun hK13 => ?_)
    ·obtain ⟨v17, rfl⟩ : ∃ x, x = s := ⟨s, rfl⟩
     have h : (hs_snapshot_allowed_j13 (hs_snapshot_allowed_l3 a1 x1 x2 (hs_snapshot_allowed_j8 (hs_snapshot_allowed_l2 a1 x1 (hs_snapshot_allowed_j5 (hs_snapshot_allowed_l1 a1 (hs_snapshot_allowed_j3) r1 (k1 + 1))) r2 (k2 + 1))) r3 (k3 + 1))) v17 = some r := h
     unfold hs_snapshot_allowed_j13 at h
     refine W.cb v17 (fun hb => ?_) (fun hb => ?_)
     ·replace h := cond_t hb h
      refine W.seq ?_
      refine W.rt (e2 := [(2, .bool false)]) ?_
      refine W.wk (env' := [(2, .bool false)]) ?_
      have hr : aresults Try.prog Try.f78 [(2, .bool false)] = some (.bool false) := by kernel_rfl
      cases h
      exact W.ret hr
     replace h := cond_f hb h
     refine W.skip ?_
     refine W.wk (env' := z10 []) ?_
     refine W.rg ?_
     refine WO.pk 0 (some (I6 (IntKind.wrap .i64 ((k3 : Int) + 1)))) (v := I6 ((k3 + 1 : Nat) : Int)) (by rw [wrap_succ hl3 hk3]) (e1 := z10 [(46, I6 ((k3 + 1 : Nat) : Int))]) ?_
     refine WO.fn (e2 := z8 [(22, I6 ((k3 + 1 : Nat) : Int))]) ?_
     exact hN3 () h
    refine W.rg ?_
    let z12 := fun t => z11 ((25, I6 x1) :: (26, I6 x2) :: t)
    refine WO.bk 4 (fun b => z12 [(27, .bool b), (28, .bool b)]) (decide (x1 < x2)) (fun hb => ?_) (fun hb => ?_)
    ·replace h := cond_t hb h
     obtain ⟨w14, hw14, h⟩ := bind_some h
     let z13 := fun t => z12 ((27, .bool true) :: (28, .bool true) :: (29, sB a1) :: (30, I6 x1) :: (31, I6 x2) :: t)
     refine WO.ck 3 (F := 80) (l := [sB a1, I6 x1, I6 x2]) (C := []) (r := .bool w14) (run_hs_snapshot_overlap a1 x1 x2 w14 hw14) (e1 := z13 [(32, .bool w14)]) ?_
     refine WO.bk 2 (fun b => z13 [(32, .bool b), (33, .bool b), (34, .bool b)]) w14 (fun hb => ?_) (fun hb => ?_)
     ·replace h := cond_t hb h
      obtain ⟨w15, hw15, h⟩ := bind_some h
      let z14 := fun t => z13 ((32, .bool true) :: (33, .bool true) :: (34, .bool true) :: (35, sB a1) :: (36, I6 x1) :: (37, I6 (k3 : Int)) :: t)
      refine WO.ck 3 (F := 106) (l := [sB a1, I6 x1, I6 (k3 : Int)]) (C := []) (r := .bool w15) (run_hs_snapshot_writes a1 x1 (k3 : Int) w15 hw15) (e1 := z14 [(38, .bool w15)]) ?_
      refine WO.bk 2 (fun b => z14 [(38, .bool b), (39, .bool b), (40, .bool b)]) w15 (fun hb => ?_) (fun hb => ?_)
      ·replace h := cond_t hb h
       obtain ⟨w16, hw16, h⟩ := bind_some h
       refine WO.ck 3 (F := 106) (l := [sB a1, I6 x2, I6 (k3 : Int)]) (C := []) (r := .bool w16) (run_hs_snapshot_writes a1 x2 (k3 : Int) w16 hw16) (e1 := z14 [(38, .bool true), (39, .bool true), (40, .bool true), (41, sB a1), (42, I6 x2), (43, I6 (k3 : Int)), (44, .bool w16)]) ?_
       refine WO.fn (e2 := z10 [(45, .bool w16)]) ?_
       exact hK13 w16 h
      replace h := cond_f hb h
      refine WO.fn (e2 := z10 [(45, .bool false)]) ?_
      exact hK13 false h
     replace h := cond_f hb h
     refine WO.fn (e2 := z10 [(45, .bool false)]) ?_
     exact hK13 false h
    replace h := cond_f hb h
    refine WO.fn (e2 := z10 [(45, .bool false)]) ?_
    exact hK13 false h
def sl_IndexFunc_hsOp_j4 : Option Int :=
 (some (-1))
def sl_IndexFunc_hsOp_l1 (g2 : (hsOp → Option Bool)) (K4 : (Option Int)) : List hsOp → Nat → Option Int
 | [], k1 => K4
 | x1 :: r1, k1 => ((g2 x1).bind fun w9 => (bif w9 then (some (k1 : Int)) else (sl_IndexFunc_hsOp_l1 g2 K4 r1 (k1 + 1))))
def sl_IndexFunc_hsOp (a1 : (List hsOp)) (g2 : (hsOp → Option Bool)) : Option Int :=
 (chk (lenOk a1) (sl_IndexFunc_hsOp_l1 g2 (sl_IndexFunc_hsOp_j4) a1 0))
theorem run_sl_IndexFunc_hsOp (a1 : (List hsOp)) (g2 : (hsOp → Option Bool)) (F_g2 : Nat) (C_g2 : List AV) (hok_g2 : okFn Try.prog F_g2 = true) (hrun_g2 : ∀ (x0 : hsOp) r, g2 x0 = some r → Run Try.prog (.call F_g2 ([.agg [I6 x0.f_Txn, I6 x0.f_Kind, I6 x0.f_Item]] ++ C_g2) (.bool r))) (r : Int) (h : sl_IndexFunc_hsOp a1 g2 = some r) : Run Try.prog (.call 104 [l44 none a1, .clo F_g2 C_g2] (I6 r)) := by
 refine cW Try.func104 rfl (env0 := [(0, l44 none a1), (1, .clo F_g2 C_g2)]) ?_
 unfold sl_IndexFunc_hsOp at h
 refine W.seq ?_
 let z0 := fun t => EN ((0, l44 none a1) :: (1, .clo F_g2 C_g2) :: t)
 refine W.rt (e2 := z0 []) ?_
 refine W.seq ?_
 refine W.join (σ := Unit) (fun s => []) (fun s => (sl_IndexFunc_hsOp_j4) = some r) (fun s h => ?_) (fun hK4 => ?_)
 ·have h : (sl_IndexFunc_hsOp_j4) = some r := h
  unfold sl_IndexFunc_hsOp_j4 at h
  refine W.seq ?_
  refine W.rt (e2 := [(4, I6 (-1))]) ?_
  refine W.wk (env' := [(4, I6 (-1))]) ?_
  have hr : aresults Try.prog Try.f104 [(4, I6 (-1))] = some (I6 (-1)) := by kernel_rfl
  cases h
  exact W.ret hr
 refine W.seq ?_
 refine W.rg ?_
 refine WO.pk 1 (some (I6 ((List.map e_hsOp a1).length : Int))) (v := I6 (a1.length : Int)) (by rw [List.length_map]) (e1 := z0 [(6, l44 none a1), (7, I6 (a1.length : Int))]) ?_
 let z1 := fun t => z0 ((7, I6 (a1.length : Int)) :: t)
 refine WO.fn (e2 := z1 [(8, .int .i64 0)]) ?_
 refine W.block ?_
 obtain ⟨hl1, h⟩ := chk_some h
 refine W.wk (env' := z1 [(8, I6 ((0 : Nat) : Int))]) ?_
 refine W.range (σ := Unit) a1 (fun k1 s => z1 [(8, I6 (k1 : Int))]) (fun r0 k0 s => sl_IndexFunc_hsOp_l1 g2 (sl_IndexFunc_hsOp_j4) r0 k0 = some r) (fun s h => ?_) (fun x1 r1 k1 s hx1 hk1 h hN1 => ?_) () h
 ·have h : sl_IndexFunc_hsOp_l1 g2 (sl_IndexFunc_hsOp_j4) [] (a1).length = some r := h
  rw [sl_IndexFunc_hsOp_l1.eq_1] at h
  refine W.seq ?_
  refine W.rg ?_
  let z2 := fun t => z1 ((8, I6 ((a1).length : Int)) :: (9, .bool false) :: t)
  refine WO.pk 0 (some (.bool (decide (((a1).length : Int) < (a1.length : Int))))) (v := .bool false) (by rw [lt_false (l := a1)]) (e1 := z2 []) ?_
  refine WO.fn (e2 := z2 []) ?_
  refine W.seq ?_
  refine W.cb false (fun h => Bool.noConfusion h) (fun _ => ?_)
  refine W.exit ?_
  refine W.wk (env' := []) ?_
  exact hK4 () h
 ·have h : sl_IndexFunc_hsOp_l1 g2 (sl_IndexFunc_hsOp_j4) (x1 :: r1) k1 = some r := h
  rw [sl_IndexFunc_hsOp_l1.eq_2] at h
  refine W.seq ?_
  refine W.rg ?_
  let z3 := fun t => z1 ((8, I6 (k1 : Int)) :: t)
  refine WO.pk 0 (some (.bool (decide ((k1 : Int) < (a1.length : Int))))) (v := .bool true) (by rw [lt_true hk1]) (e1 := z3 [(9, .bool true)]) ?_
  refine WO.fn (e2 := z3 [(9, .bool true)]) ?_
  refine W.seq ?_
  refine W.cb true (fun _ => ?_) (fun h => Bool.noConfusion h)
  refine W.skip ?_
  refine W.wk (env' := z3 []) ?_
  refine W.seq ?_
  refine W.block ?_
  refine W.seq ?_
  let z4 := fun t => z0 ((5, I6 (k1 : Int)) :: (7, I6 (a1.length : Int)) :: (8, I6 (k1 : Int)) :: t)
  refine W.rt (e2 := z4 []) ?_
  refine W.seq ?_
  refine W.rg ?_
  let z5 := fun t => z4 ((11, .clo F_g2 C_g2) :: (12, l44 none a1) :: (13, I6 (k1 : Int)) :: (14, .ptr (.agg [I6 x1.f_Txn, I6 x1.f_Kind, I6 x1.f_Item])) :: t)
  refine WO.pk 3 (if (0 : Int) ≤ (k1 : Int) then ((List.map e_hsOp a1)[Int.toNat (k1 : Int)]?).map AV.ptr else none) (v := .ptr (.agg [I6 x1.f_Txn, I6 x1.f_Kind, I6 x1.f_Item])) (idx_nat (f := e_hsOp) hx1) (e1 := z5 []) ?_
  obtain ⟨w9, hw9, h⟩ := bind_some h
  refine WO.callK 1 (F := F_g2) (l := [.agg [I6 x1.f_Txn, I6 x1.f_Kind, I6 x1.f_Item]]) (C := C_g2) (r := .bool w9) (by kernel_rfl) hok_g2 (hrun_g2 x1 w9 hw9) (e1 := z5 [(15, .agg [I6 x1.f_Txn, I6 x1.f_Kind, I6 x1.f_Item]), (16, .bool w9)]) (by kernel_rfl) ?_
  refine WO.fn (e2 := z4 [(16, .bool w9)]) ?_
  refine W.cb w9 (fun hb => ?_) (fun hb => ?_)
  ·replace h := cond_t hb h
   refine W.seq ?_
   refine W.rt (e2 := [(4, I6 (k1 : Int))]) ?_
   refine W.wk (env' := [(4, I6 (k1 : Int))]) ?_
   have hr : aresults Try.prog Try.f104 [(4, I6 (k1 : Int))] = some (I6 (k1 : Int)) := by kernel_rfl
   cases h
   exact W.ret hr
  replace h := cond_f hb h
  refine W.skip ?_
  refine W.wk (env' := z3 []) ?_
  refine W.rg ?_
  refine WO.pk 0 (some (I6 (IntKind.wrap .i64 ((k1 : Int) + 1)))) (v := I6 ((k1 + 1 : Nat) : Int)) (by rw [wrap_succ hl1 hk1]) (e1 := z3 [(18, I6 ((k1 + 1 : Nat) : Int))]) ?_
  refine WO.fn (e2 := z1 [(8, I6 ((k1 + 1 : Nat) : Int))]) ?_
  exact hN1 () h
def hs_History_snapshot_1 (a1 : hsOp) (c2 : Int) : Option Bool :=
 (some (a1.f_Txn == c2))
theorem run_hs_History_snapshot_1 (a1 : hsOp) (c2 : Int) (r : Bool) (h : hs_History_snapshot_1 a1 c2 = some r) : Run Try.prog (.call 105 [.agg [I6 a1.f_Txn, I6 a1.f_Kind, I6 a1.f_Item], .ptr (I6 c2)] (.bool r)) := by
 refine cW Try.func105 rfl (env0 := [(0, .agg [I6 a1.f_Txn, I6 a1.f_Kind, I6 a1.f_Item]), (1, .ptr (I6 c2))]) ?_
 unfold hs_History_snapshot_1 at h
 refine W.seq ?_
 refine W.regT [1, 2] [2] [] [] (e2 := [(1, .ptr (I6 c2)), (2, .ptr (.agg [I6 a1.f_Txn, I6 a1.f_Kind, I6 a1.f_Item]))]) (by kernel_rfl) (by kernel_rfl) (fun _ h => h) ?_
 refine W.seq ?_
 refine W.rt (e2 := [(3, .bool (a1.f_Txn == c2))]) ?_
 refine W.wk (env' := [(3, .bool (a1.f_Txn == c2))]) ?_
 have hr : aresults Try.prog Try.f105 [(3, .bool (a1.f_Txn == c2))] = some (.bool (a1.f_Txn == c2)) := by kernel_rfl
 cases h
 exact W.ret hr
end Go.AM
