/- s -/
import Derived.Test.YtoiejpkfpjingaaAWq
import Derived.Test.YtoiejpkfpjingaaChecked
import Derived.Test.YtoiejpkfpjingaaAAny
import Derived.Test.YtoiejpkfpjingaaAMap
import Derived.Test.YtoiejpkfpjingaaCDel
import Derived.Test.YtoiejpkfpjingaaESnap
import Derived.Test.YtoiejpkfpjingaaSE1
set_option maxRecDepth 100000
set_option linter.unusedVariables false
set_option linter.unusedSimpArgs false
namespace Go.AM
open Go.Proofs
end Go.AM
namespace Go.AM
open Go.Proofs
def hs_History_snapshot (fuel : Nat) (a1 : (List hsOp)) : Option hssnapshot := snapP fuel a1
theorem run_hs_History_snapshot (fuel : Nat) (a1 : (List hsOp)) (r : hssnapshot) (h : hs_History_snapshot fuel a1 = some r) : Run Try.prog (.call 77 [l44 none a1] (sB r)) := .ext0 (snapshot77 h)
def hs_Snapshot (fuel : Nat) (a1 : (List hsOp)) : Option (Bool × Int) :=
 ((hs_Valid a1).bind fun w5 => (bif (!w5) then (some (false, 2)) else ((hs_History_snapshot fuel a1).bind fun w8 => ((hs_snapshot_allowed w8).bind fun w9 => (some (w9, 0))))))
theorem run_hs_Snapshot (fuel : Nat) (a1 : (List hsOp)) (r : (Bool × Int)) (h : hs_Snapshot fuel a1 = some r) : Run Try.prog (.call 41 [l44 none a1] (.tup [.bool r.1, I6 r.2])) := by
 refine cW Try.func41 rfl (env0 := [(0, l44 none a1)]) ?_
 unfold hs_Snapshot at h
 refine W.seq ?_
 let z0 := fun t => EN ((0, l44 none a1) :: t)
 refine W.rt (e2 := z0 []) ?_
 refine W.seq ?_
 refine W.seq ?_
 refine W.rg ?_
 obtain ⟨w5, hw5, h⟩ := bind_some h
 refine WO.ck 1 (F := 26) (l := [l44 none a1]) (C := []) (r := .bool w5) (run_hs_Valid a1 w5 hw5) (e1 := z0 [(4, l44 none a1), (5, .bool w5)]) ?_
 refine WO.fn (e2 := z0 [(6, .bool (!w5))]) ?_
 refine W.cb (!w5) (fun hb => ?_) (fun hb => ?_)
 ·replace h := cond_t hb h
  refine W.seq ?_
  refine W.rt (e2 := [(2, .bool false), (3, .int .i64 2)]) ?_
  refine W.wk (env' := [(2, .bool false), (3, .int .i64 2)]) ?_
  have hr : aresults Try.prog Try.f41 [(2, .bool false), (3, .int .i64 2)] = some (.tup [.bool false, .int .i64 2]) := by kernel_rfl
  cases h
  exact W.ret hr
 replace h := cond_f hb h
 refine W.skip ?_
 refine W.wk (env' := z0 []) ?_
 refine W.seq ?_
 refine W.rg ?_
 obtain ⟨w8, hw8, h⟩ := bind_some h
 let z1 := fun t => z0 ((7, l44 none a1) :: (8, sB w8) :: t)
 refine WO.ck 1 (F := 77) (l := [l44 none a1]) (C := []) (r := sB w8) (run_hs_History_snapshot fuel a1 w8 hw8) (e1 := z1 []) ?_
 obtain ⟨w9, hw9, h⟩ := bind_some h
 refine WO.ck 0 (F := 78) (l := [sB w8]) (C := []) (r := .bool w9) (run_hs_snapshot_allowed w8 w9 hw9) (e1 := z1 [(9, .bool w9)]) ?_
 refine WO.fn (e2 := [(2, .bool w9), (3, .int .i64 0)]) ?_
 refine W.wk (env' := [(2, .bool w9), (3, .int .i64 0)]) ?_
 have hr : aresults Try.prog Try.f41 [(2, .bool w9), (3, .int .i64 0)] = some (.tup [.bool w9, .int .i64 0]) := by kernel_rfl
 cases h
 exact W.ret hr
def hs_SnapshotOrder (fuel : Nat) (a1 : (List hsOp)) : Option ((List Int) × Int) :=
 ((hs_Valid a1).bind fun w5 => (bif (!w5) then (some (([] : (List Int)), 2)) else ((hs_History_snapshot fuel a1).bind fun w8 => ((hs_snapshot_allowed w8).bind fun w11 => (bif (!w11) then (some (([] : (List Int)), 7)) else ((hs_snapshot_edges w8).bind fun w14 => ((hs_edges_sorted fuel w14.2 w8.f_txns).bind fun w16 => (bif (!w16.2) then (some (([] : (List Int)), 5)) else (some (w16.1, 0))))))))))
theorem run_hs_SnapshotOrder (fuel : Nat) (a1 : (List hsOp)) (r : ((List Int) × Int)) (h : hs_SnapshotOrder fuel a1 = some r) : Run Try.prog (.call 42 [l44 none a1] (.tup [l3 none r.1, I6 r.2])) := by
 refine cW Try.func42 rfl (env0 := [(0, l44 none a1)]) ?_
 unfold hs_SnapshotOrder at h
 refine W.seq ?_
 let z0 := fun t => EN ((0, l44 none a1) :: t)
 refine W.rt (e2 := z0 []) ?_
 refine W.seq ?_
 refine W.seq ?_
 refine W.rg ?_
 obtain ⟨w5, hw5, h⟩ := bind_some h
 refine WO.ck 1 (F := 26) (l := [l44 none a1]) (C := []) (r := .bool w5) (run_hs_Valid a1 w5 hw5) (e1 := z0 [(9, l44 none a1), (10, .bool w5)]) ?_
 refine WO.fn (e2 := z0 [(11, .bool (!w5))]) ?_
 refine W.cb (!w5) (fun hb => ?_) (fun hb => ?_)
 ·replace h := cond_t hb h
  refine W.seq ?_
  refine W.rt (e2 := [(2, .nils), (3, .int .i64 2)]) ?_
  refine W.weak [2, 3] [] [(2, 0, 3, 1, 70002)] [] (env' := [(2, l3 (some 70002) ([] : (List Int))), (3, .int .i64 2)]) (by kernel_rfl) ?_
  have hr : aresults Try.prog Try.f42 [(2, l3 (some 70002) ([] : (List Int))), (3, .int .i64 2)] = some (.tup [l3 none ([] : (List Int)), .int .i64 2]) := by kernel_rfl
  cases h
  exact W.ret hr
 replace h := cond_f hb h
 refine W.skip ?_
 refine W.wk (env' := z0 []) ?_
 refine W.seq ?_
 refine W.rg ?_
 obtain ⟨w8, hw8, h⟩ := bind_some h
 refine WO.ck 1 (F := 77) (l := [l44 none a1]) (C := []) (r := sB w8) (run_hs_History_snapshot fuel a1 w8 hw8) (e1 := z0 [(12, l44 none a1), (13, sB w8)]) ?_
 let z1 := fun t => EN ((4, .ptr (sB w8)) :: t)
 refine WO.fin [4] [4] [] [] (e2 := z1 []) (by kernel_rfl) (fun _ h => h) ?_
 refine W.seq ?_
 refine W.seq ?_
 refine W.rg ?_
 obtain ⟨w11, hw11, h⟩ := bind_some h
 refine WO.ck 1 (F := 78) (l := [sB w8]) (C := []) (r := .bool w11) (run_hs_snapshot_allowed w8 w11 hw11) (e1 := z1 [(14, sB w8), (15, .bool w11)]) ?_
 refine WO.fn (e2 := z1 [(16, .bool (!w11))]) ?_
 refine W.cb (!w11) (fun hb => ?_) (fun hb => ?_)
 ·replace h := cond_t hb h
  refine W.seq ?_
  refine W.rt (e2 := [(2, .nils), (3, .int .i64 7)]) ?_
  refine W.weak [2, 3] [] [(2, 0, 3, 1, 70002)] [] (env' := [(2, l3 (some 70002) ([] : (List Int))), (3, .int .i64 7)]) (by kernel_rfl) ?_
  have hr : aresults Try.prog Try.f42 [(2, l3 (some 70002) ([] : (List Int))), (3, .int .i64 7)] = some (.tup [l3 none ([] : (List Int)), .int .i64 7]) := by kernel_rfl
  cases h
  exact W.ret hr
 replace h := cond_f hb h
 refine W.skip ?_
 refine W.wk (env' := z1 []) ?_
 refine W.seq ?_
 refine W.rg ?_
 obtain ⟨w14, hw14, h⟩ := bind_some h
 refine WO.ck 1 (F := 79) (l := [sB w8]) (C := []) (r := .tup [mpE e_arr2_Int AV.bool w14.1, mpE e_arr2_Int AV.bool w14.2]) (run_hs_snapshot_edges w8 w14 hw14) (e1 := z1 [(18, sB w8), (19, .tup [mpE e_arr2_Int AV.bool w14.1, mpE e_arr2_Int AV.bool w14.2])]) ?_
 let z2 := fun t => z1 ((6, mpE e_arr2_Int AV.bool w14.2) :: t)
 refine WO.fn (e2 := z2 []) ?_
 refine W.seq ?_
 refine W.rg ?_
 obtain ⟨w16, hw16, h⟩ := bind_some h
 refine WO.ck 3 (F := 50) (l := [mpE e_arr2_Int AV.bool w14.2, l3 none w8.f_txns]) (C := []) (r := .tup [l3 none w16.1, .bool w16.2]) (run_hs_edges_sorted fuel w14.2 w8.f_txns w16 hw16) (e1 := z2 [(23, mpE e_arr2_Int AV.bool w14.2), (24, .ptr (l3 none w8.f_txns)), (25, l3 none w8.f_txns), (26, .tup [l3 none w16.1, .bool w16.2])]) ?_
 refine WO.fn (e2 := [(7, l3 none w16.1), (8, .bool w16.2)]) ?_
 refine W.seq ?_
 refine W.seq ?_
 refine W.rt (e2 := [(7, l3 none w16.1), (30, .bool (!w16.2))]) ?_
 refine W.cb (!w16.2) (fun hb => ?_) (fun hb => ?_)
 ·replace h := cond_t hb h
  refine W.seq ?_
  refine W.rt (e2 := [(2, .nils), (3, .int .i64 5)]) ?_
  refine W.weak [2, 3] [] [(2, 0, 3, 1, 70002)] [] (env' := [(2, l3 (some 70002) ([] : (List Int))), (3, .int .i64 5)]) (by kernel_rfl) ?_
  have hr : aresults Try.prog Try.f42 [(2, l3 (some 70002) ([] : (List Int))), (3, .int .i64 5)] = some (.tup [l3 none ([] : (List Int)), .int .i64 5]) := by kernel_rfl
  cases h
  exact W.ret hr
 replace h := cond_f hb h
 refine W.skip ?_
 refine W.wk (env' := [(7, l3 none w16.1)]) ?_
 refine W.seq ?_
 refine W.rt (e2 := [(2, l3 none w16.1), (3, .int .i64 0)]) ?_
 refine W.wk (env' := [(2, l3 none w16.1), (3, .int .i64 0)]) ?_
 have hr : aresults Try.prog Try.f42 [(2, l3 none w16.1), (3, .int .i64 0)] = some (.tup [l3 none w16.1, .int .i64 0]) := by kernel_rfl
 cases h
 exact W.ret hr
end Go.AM
