/- PRINTED by gen.py: pure functions and the proofs that the code computes them. No statement of the seat is proved here. -/
import Derived.Test.YtmfdgonjnckdhaaNT
set_option maxRecDepth 100000
set_option linter.unusedVariables false
set_option linter.unusedSimpArgs false
namespace Go.AM
open Go.Proofs
def ix_Index_none (a1 : (Option ixIndex)) : Option Bool :=
  (ocase a1 ((some true)) (fun q2 => (some true)))
theorem run_ix_Index_none (a1 : (Option ixIndex)) (r : Bool) (h : ix_Index_none a1 = some r) : Run Try.prog (.call 48 [ep e_ixIndex a1] (.bool r)) := by
  unfold ix_Index_none at h
  rcases a1 with _ | q2
  · dsimp only [ocase] at h
    refine call_of_W Try.func48 rfl (by kernel_rfl) (env0 := [(0, .nilp)]) (by kernel_rfl) ?_
    refine W.seq ?_
    refine W.regT [0] [] [] [] (e2 := [(0, .nilp)]) (by kernel_rfl) (by kernel_rfl) (fun _ h => h) ?_
    refine W.seq ?_
    refine W.regT [2] [] [] [] (e2 := [(2, .bool true)]) (by kernel_rfl) (by kernel_rfl) (fun _ h => h) ?_
    refine W.weak [2] [] [] [] (env' := [(2, .bool true)]) (by kernel_rfl) ?_
    have hr : aresults Try.prog Try.f48 [(2, .bool true)] = some (.bool true) := by kernel_rfl
    cases h
    exact W.ret hr
  dsimp only [ocase] at h
  refine call_of_W Try.func48 rfl (by kernel_rfl) (env0 := [(0, .ptr (.agg [.nilp, I6 q2.f_length, l3 none q2.f_starts, l3 none q2.f_places]))]) (by kernel_rfl) ?_
  refine W.seq ?_
  refine W.regT [0] [] [] [] (e2 := [(0, .ptr (.agg [.nilp, I6 q2.f_length, l3 none q2.f_starts, l3 none q2.f_places]))]) (by kernel_rfl) (by kernel_rfl) (fun _ h => h) ?_
  refine W.seq ?_
  refine W.regT [2] [] [] [] (e2 := [(2, .bool true)]) (by kernel_rfl) (by kernel_rfl) (fun _ h => h) ?_
  refine W.weak [2] [] [] [] (env' := [(2, .bool true)]) (by kernel_rfl) ?_
  have hr : aresults Try.prog Try.f48 [(2, .bool true)] = some (.bool true) := by kernel_rfl
  cases h
  exact W.ret hr
def ix_Index_Count (a1 : (Option ixIndex)) (a2 : ByteArray) : Option (Int × Int) :=
  (ocase a1 (((ix_Index_none none).bind fun w7 => (bif w7 then (some (0, 1)) else ((ix_valid a2).bind fun w11 => (bif (!w11) then (some (0, 2)) else none))))) (fun q3 => ((ix_Index_none (some q3)).bind fun w17 => (bif w17 then (some (0, 1)) else ((ix_valid a2).bind fun w21 => (bif (!w21) then (some (0, 2)) else none))))))
theorem run_ix_Index_Count (a1 : (Option ixIndex)) (a2 : ByteArray) (r : (Int × Int)) (h : ix_Index_Count a1 a2 = some r) : Run Try.prog (.call 32 [ep e_ixIndex a1, .str a2] (.tup [I6 r.1, I6 r.2])) := by
  unfold ix_Index_Count at h
  rcases a1 with _ | q3
  · dsimp only [ocase] at h
    refine call_of_W Try.func32 rfl (by kernel_rfl) (env0 := [(0, .nilp), (1, .str a2)]) (by kernel_rfl) ?_
    refine W.seq ?_
    refine W.regT [0, 1] [] [] [] (e2 := [(0, .nilp), (1, .str a2)]) (by kernel_rfl) (by kernel_rfl) (fun _ h => h) ?_
    refine W.seq ?_
    refine W.seq ?_
    refine W.region (by kernel_rfl) ?_
    obtain ⟨w7, hw7, h⟩ := bind_some h
    refine WO.callK 1 (F := 48) (l := [.nilp]) (C := []) (r := .bool w7) (by kernel_rfl) (by kernel_rfl) (run_ix_Index_none none w7 hw7) (e1 := [(0, .nilp), (1, .str a2), (8, .nilp), (9, .bool w7)]) (by kernel_rfl) ?_
    refine WO.fin [0, 1, 9] [] [] [] (e2 := [(0, .nilp), (1, .str a2), (9, .bool w7)]) (by kernel_rfl) (fun _ h => h) ?_
    refine W.condB w7 (by kernel_rfl) (fun hb => ?_) (fun hb => ?_)
    · replace h := cond_t hb h
      refine W.seq ?_
      refine W.regT [4, 5] [] [] [] (e2 := [(4, .int .i64 0), (5, .int .i64 1)]) (by kernel_rfl) (by kernel_rfl) (fun _ h => h) ?_
      refine W.weak [4, 5] [] [] [] (env' := [(4, .int .i64 0), (5, .int .i64 1)]) (by kernel_rfl) ?_
      have hr : aresults Try.prog Try.f32 [(4, .int .i64 0), (5, .int .i64 1)] = some (.tup [.int .i64 0, .int .i64 1]) := by kernel_rfl
      cases h
      exact W.ret hr
    replace h := cond_f hb h
    refine W.skip ?_
    refine W.weak [0, 1] [] [] [] (env' := [(0, .nilp), (1, .str a2)]) (by kernel_rfl) ?_
    refine W.seq ?_
    refine W.seq ?_
    refine W.region (by kernel_rfl) ?_
    obtain ⟨w11, hw11, h⟩ := bind_some h
    refine WO.callK 1 (F := 40) (l := [.str a2]) (C := []) (r := .bool w11) (by kernel_rfl) (by kernel_rfl) (run_ix_valid a2 w11 hw11) (e1 := [(0, .nilp), (1, .str a2), (10, .str a2), (11, .bool w11)]) (by kernel_rfl) ?_
    refine WO.fin [0, 1, 12] [] [] [] (e2 := [(0, .nilp), (1, .str a2), (12, .bool (!w11))]) (by kernel_rfl) (fun _ h => h) ?_
    refine W.condB (!w11) (by kernel_rfl) (fun hb => ?_) (fun hb => ?_)
    · replace h := cond_t hb h
      refine W.seq ?_
      refine W.regT [4, 5] [] [] [] (e2 := [(4, .int .i64 0), (5, .int .i64 2)]) (by kernel_rfl) (by kernel_rfl) (fun _ h => h) ?_
      refine W.weak [4, 5] [] [] [] (env' := [(4, .int .i64 0), (5, .int .i64 2)]) (by kernel_rfl) ?_
      have hr : aresults Try.prog Try.f32 [(4, .int .i64 0), (5, .int .i64 2)] = some (.tup [.int .i64 0, .int .i64 2]) := by kernel_rfl
      cases h
      exact W.ret hr
    replace h := cond_f hb h
    refine W.skip ?_
    refine W.weak [0, 1] [] [] [] (env' := [(0, .nilp), (1, .str a2)]) (by kernel_rfl) ?_
    cases h
  dsimp only [ocase] at h
  refine call_of_W Try.func32 rfl (by kernel_rfl) (env0 := [(0, .ptr (.agg [.nilp, I6 q3.f_length, l3 none q3.f_starts, l3 none q3.f_places])), (1, .str a2)]) (by kernel_rfl) ?_
  refine W.seq ?_
  refine W.regT [0, 1] [] [] [] (e2 := [(0, .ptr (.agg [.nilp, I6 q3.f_length, l3 none q3.f_starts, l3 none q3.f_places])), (1, .str a2)]) (by kernel_rfl) (by kernel_rfl) (fun _ h => h) ?_
  refine W.seq ?_
  refine W.seq ?_
  refine W.region (by kernel_rfl) ?_
  obtain ⟨w17, hw17, h⟩ := bind_some h
  refine WO.callK 1 (F := 48) (l := [.ptr (.agg [.nilp, I6 q3.f_length, l3 none q3.f_starts, l3 none q3.f_places])]) (C := []) (r := .bool w17) (by kernel_rfl) (by kernel_rfl) (run_ix_Index_none (some q3) w17 hw17) (e1 := [(0, .ptr (.agg [.nilp, I6 q3.f_length, l3 none q3.f_starts, l3 none q3.f_places])), (1, .str a2), (8, .ptr (.agg [.nilp, I6 q3.f_length, l3 none q3.f_starts, l3 none q3.f_places])), (9, .bool w17)]) (by kernel_rfl) ?_
  refine WO.fin [0, 1, 9] [] [] [] (e2 := [(0, .ptr (.agg [.nilp, I6 q3.f_length, l3 none q3.f_starts, l3 none q3.f_places])), (1, .str a2), (9, .bool w17)]) (by kernel_rfl) (fun _ h => h) ?_
  refine W.condB w17 (by kernel_rfl) (fun hb => ?_) (fun hb => ?_)
  · replace h := cond_t hb h
    refine W.seq ?_
    refine W.regT [4, 5] [] [] [] (e2 := [(4, .int .i64 0), (5, .int .i64 1)]) (by kernel_rfl) (by kernel_rfl) (fun _ h => h) ?_
    refine W.weak [4, 5] [] [] [] (env' := [(4, .int .i64 0), (5, .int .i64 1)]) (by kernel_rfl) ?_
    have hr : aresults Try.prog Try.f32 [(4, .int .i64 0), (5, .int .i64 1)] = some (.tup [.int .i64 0, .int .i64 1]) := by kernel_rfl
    cases h
    exact W.ret hr
  replace h := cond_f hb h
  refine W.skip ?_
  refine W.weak [0, 1] [] [] [] (env' := [(0, .ptr (.agg [.nilp, I6 q3.f_length, l3 none q3.f_starts, l3 none q3.f_places])), (1, .str a2)]) (by kernel_rfl) ?_
  refine W.seq ?_
  refine W.seq ?_
  refine W.region (by kernel_rfl) ?_
  obtain ⟨w21, hw21, h⟩ := bind_some h
  refine WO.callK 1 (F := 40) (l := [.str a2]) (C := []) (r := .bool w21) (by kernel_rfl) (by kernel_rfl) (run_ix_valid a2 w21 hw21) (e1 := [(0, .ptr (.agg [.nilp, I6 q3.f_length, l3 none q3.f_starts, l3 none q3.f_places])), (1, .str a2), (10, .str a2), (11, .bool w21)]) (by kernel_rfl) ?_
  refine WO.fin [0, 1, 12] [] [] [] (e2 := [(0, .ptr (.agg [.nilp, I6 q3.f_length, l3 none q3.f_starts, l3 none q3.f_places])), (1, .str a2), (12, .bool (!w21))]) (by kernel_rfl) (fun _ h => h) ?_
  refine W.condB (!w21) (by kernel_rfl) (fun hb => ?_) (fun hb => ?_)
  · replace h := cond_t hb h
    refine W.seq ?_
    refine W.regT [4, 5] [] [] [] (e2 := [(4, .int .i64 0), (5, .int .i64 2)]) (by kernel_rfl) (by kernel_rfl) (fun _ h => h) ?_
    refine W.weak [4, 5] [] [] [] (env' := [(4, .int .i64 0), (5, .int .i64 2)]) (by kernel_rfl) ?_
    have hr : aresults Try.prog Try.f32 [(4, .int .i64 0), (5, .int .i64 2)] = some (.tup [.int .i64 0, .int .i64 2]) := by kernel_rfl
    cases h
    exact W.ret hr
  replace h := cond_f hb h
  refine W.skip ?_
  refine W.weak [0, 1] [] [] [] (env' := [(0, .ptr (.agg [.nilp, I6 q3.f_length, l3 none q3.f_starts, l3 none q3.f_places])), (1, .str a2)]) (by kernel_rfl) ?_
  cases h
def ix_Index_Locate (a1 : (Option ixIndex)) (a2 : ByteArray) : Option ((List Int) × Int) :=
  (ocase a1 (((ix_Index_none none).bind fun w7 => (bif w7 then (some ((snap 0 (([] : (List Int)).length) ([] : (List Int))), 1)) else ((ix_valid a2).bind fun w11 => (bif (!w11) then (some ((snap 0 (([] : (List Int)).length) ([] : (List Int))), 2)) else none))))) (fun q3 => ((ix_Index_none (some q3)).bind fun w17 => (bif w17 then (some ((snap 0 (([] : (List Int)).length) ([] : (List Int))), 1)) else ((ix_valid a2).bind fun w21 => (bif (!w21) then (some ((snap 0 (([] : (List Int)).length) ([] : (List Int))), 2)) else none))))))
theorem run_ix_Index_Locate (a1 : (Option ixIndex)) (a2 : ByteArray) (r : ((List Int) × Int)) (h : ix_Index_Locate a1 a2 = some r) : Run Try.prog (.call 33 [ep e_ixIndex a1, .str a2] (.tup [l3 none r.1, I6 r.2])) := by
  unfold ix_Index_Locate at h
  rcases a1 with _ | q3
  · dsimp only [ocase] at h
    refine call_of_W Try.func33 rfl (by kernel_rfl) (env0 := [(0, .nilp), (1, .str a2)]) (by kernel_rfl) ?_
    refine W.seq ?_
    refine W.region (by kernel_rfl) ?_
    refine WO.steps 1 (e1 := [(0, .nilp), (1, .str a2), (4, .nils)]) (by kernel_rfl) ?_
    refine WO.mv [.nil 4 3 1 1200004] (env' := [(0, .nilp), (1, .str a2), (4, .sb 1200004 3 1 0 (([] : (List Int)).length)), (1200004, .obj 3 1 (List.map (AV.int .i64) ([] : (List Int))))]) (by kernel_rfl) ?_
    refine WO.fin [0, 1] [] [] [] (e2 := [(0, .nilp), (1, .str a2)]) (by kernel_rfl) (fun _ h => h) ?_
    refine W.seq ?_
    refine W.seq ?_
    refine W.region (by kernel_rfl) ?_
    obtain ⟨w7, hw7, h⟩ := bind_some h
    refine WO.callK 1 (F := 48) (l := [.nilp]) (C := []) (r := .bool w7) (by kernel_rfl) (by kernel_rfl) (run_ix_Index_none none w7 hw7) (e1 := [(0, .nilp), (1, .str a2), (9, .nilp), (10, .bool w7)]) (by kernel_rfl) ?_
    refine WO.fin [0, 1, 10] [] [] [] (e2 := [(0, .nilp), (1, .str a2), (10, .bool w7)]) (by kernel_rfl) (fun _ h => h) ?_
    refine W.condB w7 (by kernel_rfl) (fun hb => ?_) (fun hb => ?_)
    · replace h := cond_t hb h
      refine W.seq ?_
      refine W.region (by kernel_rfl) ?_
      refine WO.steps 1 (e1 := [(0, .nilp), (1, .str a2), (4, .nils), (10, .bool w7)]) (by kernel_rfl) ?_
      refine WO.mv [.nil 4 3 1 1200004] (env' := [(0, .nilp), (1, .str a2), (4, .sb 1200004 3 1 0 (([] : (List Int)).length)), (10, .bool w7), (1200004, .obj 3 1 (List.map (AV.int .i64) ([] : (List Int))))]) (by kernel_rfl) ?_
      refine WO.fin [4, 5, 1200004] [] [] [] (e2 := [(4, .sb 1200004 3 1 0 (([] : (List Int)).length)), (5, .int .i64 1), (1200004, .obj 3 1 (List.map (AV.int .i64) ([] : (List Int))))]) (by kernel_rfl) (fun _ h => h) ?_
      refine W.mv [.frz 1200004] (env' := [(4, l3 none (snap 0 (([] : (List Int)).length) ([] : (List Int)))), (5, .int .i64 1)]) ((by kernel_rfl : mvAll [(4, .sb 1200004 3 1 0 (([] : (List Int)).length)), (5, .int .i64 1), (1200004, .obj 3 1 (List.map (AV.int .i64) ([] : (List Int))))] [.frz 1200004] = [(4, .lst 3 1 none (snapA 0 (([] : (List Int)).length) (List.map (AV.int .i64) ([] : (List Int))))), (5, .int .i64 1)]).trans (by first | (simp only [snap_map, snap_full, snap_rep]; done) | (simp only [snap_map, snap_full, snap_rep]; kernel_rfl))) ?_
      refine W.weak [4, 5] [] [] [] (env' := [(4, l3 none (snap 0 (([] : (List Int)).length) ([] : (List Int)))), (5, .int .i64 1)]) (by kernel_rfl) ?_
      have hr : aresults Try.prog Try.f33 [(4, l3 none (snap 0 (([] : (List Int)).length) ([] : (List Int)))), (5, .int .i64 1)] = some (.tup [l3 none (snap 0 (([] : (List Int)).length) ([] : (List Int))), .int .i64 1]) := by kernel_rfl
      cases h
      exact W.ret hr
    replace h := cond_f hb h
    refine W.skip ?_
    refine W.weak [0, 1] [] [] [] (env' := [(0, .nilp), (1, .str a2)]) (by kernel_rfl) ?_
    refine W.seq ?_
    refine W.seq ?_
    refine W.region (by kernel_rfl) ?_
    obtain ⟨w11, hw11, h⟩ := bind_some h
    refine WO.callK 1 (F := 40) (l := [.str a2]) (C := []) (r := .bool w11) (by kernel_rfl) (by kernel_rfl) (run_ix_valid a2 w11 hw11) (e1 := [(0, .nilp), (1, .str a2), (11, .str a2), (12, .bool w11)]) (by kernel_rfl) ?_
    refine WO.fin [0, 1, 13] [] [] [] (e2 := [(0, .nilp), (1, .str a2), (13, .bool (!w11))]) (by kernel_rfl) (fun _ h => h) ?_
    refine W.condB (!w11) (by kernel_rfl) (fun hb => ?_) (fun hb => ?_)
    · replace h := cond_t hb h
      refine W.seq ?_
      refine W.region (by kernel_rfl) ?_
      refine WO.steps 1 (e1 := [(0, .nilp), (1, .str a2), (4, .nils), (13, .bool (!w11))]) (by kernel_rfl) ?_
      refine WO.mv [.nil 4 3 1 1200004] (env' := [(0, .nilp), (1, .str a2), (4, .sb 1200004 3 1 0 (([] : (List Int)).length)), (13, .bool (!w11)), (1200004, .obj 3 1 (List.map (AV.int .i64) ([] : (List Int))))]) (by kernel_rfl) ?_
      refine WO.fin [4, 5, 1200004] [] [] [] (e2 := [(4, .sb 1200004 3 1 0 (([] : (List Int)).length)), (5, .int .i64 2), (1200004, .obj 3 1 (List.map (AV.int .i64) ([] : (List Int))))]) (by kernel_rfl) (fun _ h => h) ?_
      refine W.mv [.frz 1200004] (env' := [(4, l3 none (snap 0 (([] : (List Int)).length) ([] : (List Int)))), (5, .int .i64 2)]) ((by kernel_rfl : mvAll [(4, .sb 1200004 3 1 0 (([] : (List Int)).length)), (5, .int .i64 2), (1200004, .obj 3 1 (List.map (AV.int .i64) ([] : (List Int))))] [.frz 1200004] = [(4, .lst 3 1 none (snapA 0 (([] : (List Int)).length) (List.map (AV.int .i64) ([] : (List Int))))), (5, .int .i64 2)]).trans (by first | (simp only [snap_map, snap_full, snap_rep]; done) | (simp only [snap_map, snap_full, snap_rep]; kernel_rfl))) ?_
      refine W.weak [4, 5] [] [] [] (env' := [(4, l3 none (snap 0 (([] : (List Int)).length) ([] : (List Int)))), (5, .int .i64 2)]) (by kernel_rfl) ?_
      have hr : aresults Try.prog Try.f33 [(4, l3 none (snap 0 (([] : (List Int)).length) ([] : (List Int)))), (5, .int .i64 2)] = some (.tup [l3 none (snap 0 (([] : (List Int)).length) ([] : (List Int))), .int .i64 2]) := by kernel_rfl
      cases h
      exact W.ret hr
    replace h := cond_f hb h
    refine W.skip ?_
    refine W.weak [0, 1] [] [] [] (env' := [(0, .nilp), (1, .str a2)]) (by kernel_rfl) ?_
    cases h
  dsimp only [ocase] at h
  refine call_of_W Try.func33 rfl (by kernel_rfl) (env0 := [(0, .ptr (.agg [.nilp, I6 q3.f_length, l3 none q3.f_starts, l3 none q3.f_places])), (1, .str a2)]) (by kernel_rfl) ?_
  refine W.seq ?_
  refine W.region (by kernel_rfl) ?_
  refine WO.steps 1 (e1 := [(0, .ptr (.agg [.nilp, I6 q3.f_length, l3 none q3.f_starts, l3 none q3.f_places])), (1, .str a2), (4, .nils)]) (by kernel_rfl) ?_
  refine WO.mv [.nil 4 3 1 1200004] (env' := [(0, .ptr (.agg [.nilp, I6 q3.f_length, l3 none q3.f_starts, l3 none q3.f_places])), (1, .str a2), (4, .sb 1200004 3 1 0 (([] : (List Int)).length)), (1200004, .obj 3 1 (List.map (AV.int .i64) ([] : (List Int))))]) (by kernel_rfl) ?_
  refine WO.fin [0, 1] [] [] [] (e2 := [(0, .ptr (.agg [.nilp, I6 q3.f_length, l3 none q3.f_starts, l3 none q3.f_places])), (1, .str a2)]) (by kernel_rfl) (fun _ h => h) ?_
  refine W.seq ?_
  refine W.seq ?_
  refine W.region (by kernel_rfl) ?_
  obtain ⟨w17, hw17, h⟩ := bind_some h
  refine WO.callK 1 (F := 48) (l := [.ptr (.agg [.nilp, I6 q3.f_length, l3 none q3.f_starts, l3 none q3.f_places])]) (C := []) (r := .bool w17) (by kernel_rfl) (by kernel_rfl) (run_ix_Index_none (some q3) w17 hw17) (e1 := [(0, .ptr (.agg [.nilp, I6 q3.f_length, l3 none q3.f_starts, l3 none q3.f_places])), (1, .str a2), (9, .ptr (.agg [.nilp, I6 q3.f_length, l3 none q3.f_starts, l3 none q3.f_places])), (10, .bool w17)]) (by kernel_rfl) ?_
  refine WO.fin [0, 1, 10] [] [] [] (e2 := [(0, .ptr (.agg [.nilp, I6 q3.f_length, l3 none q3.f_starts, l3 none q3.f_places])), (1, .str a2), (10, .bool w17)]) (by kernel_rfl) (fun _ h => h) ?_
  refine W.condB w17 (by kernel_rfl) (fun hb => ?_) (fun hb => ?_)
  · replace h := cond_t hb h
    refine W.seq ?_
    refine W.region (by kernel_rfl) ?_
    refine WO.steps 1 (e1 := [(0, .ptr (.agg [.nilp, I6 q3.f_length, l3 none q3.f_starts, l3 none q3.f_places])), (1, .str a2), (4, .nils), (10, .bool w17)]) (by kernel_rfl) ?_
    refine WO.mv [.nil 4 3 1 1200004] (env' := [(0, .ptr (.agg [.nilp, I6 q3.f_length, l3 none q3.f_starts, l3 none q3.f_places])), (1, .str a2), (4, .sb 1200004 3 1 0 (([] : (List Int)).length)), (10, .bool w17), (1200004, .obj 3 1 (List.map (AV.int .i64) ([] : (List Int))))]) (by kernel_rfl) ?_
    refine WO.fin [4, 5, 1200004] [] [] [] (e2 := [(4, .sb 1200004 3 1 0 (([] : (List Int)).length)), (5, .int .i64 1), (1200004, .obj 3 1 (List.map (AV.int .i64) ([] : (List Int))))]) (by kernel_rfl) (fun _ h => h) ?_
    refine W.mv [.frz 1200004] (env' := [(4, l3 none (snap 0 (([] : (List Int)).length) ([] : (List Int)))), (5, .int .i64 1)]) ((by kernel_rfl : mvAll [(4, .sb 1200004 3 1 0 (([] : (List Int)).length)), (5, .int .i64 1), (1200004, .obj 3 1 (List.map (AV.int .i64) ([] : (List Int))))] [.frz 1200004] = [(4, .lst 3 1 none (snapA 0 (([] : (List Int)).length) (List.map (AV.int .i64) ([] : (List Int))))), (5, .int .i64 1)]).trans (by first | (simp only [snap_map, snap_full, snap_rep]; done) | (simp only [snap_map, snap_full, snap_rep]; kernel_rfl))) ?_
    refine W.weak [4, 5] [] [] [] (env' := [(4, l3 none (snap 0 (([] : (List Int)).length) ([] : (List Int)))), (5, .int .i64 1)]) (by kernel_rfl) ?_
    have hr : aresults Try.prog Try.f33 [(4, l3 none (snap 0 (([] : (List Int)).length) ([] : (List Int)))), (5, .int .i64 1)] = some (.tup [l3 none (snap 0 (([] : (List Int)).length) ([] : (List Int))), .int .i64 1]) := by kernel_rfl
    cases h
    exact W.ret hr
  replace h := cond_f hb h
  refine W.skip ?_
  refine W.weak [0, 1] [] [] [] (env' := [(0, .ptr (.agg [.nilp, I6 q3.f_length, l3 none q3.f_starts, l3 none q3.f_places])), (1, .str a2)]) (by kernel_rfl) ?_
  refine W.seq ?_
  refine W.seq ?_
  refine W.region (by kernel_rfl) ?_
  obtain ⟨w21, hw21, h⟩ := bind_some h
  refine WO.callK 1 (F := 40) (l := [.str a2]) (C := []) (r := .bool w21) (by kernel_rfl) (by kernel_rfl) (run_ix_valid a2 w21 hw21) (e1 := [(0, .ptr (.agg [.nilp, I6 q3.f_length, l3 none q3.f_starts, l3 none q3.f_places])), (1, .str a2), (11, .str a2), (12, .bool w21)]) (by kernel_rfl) ?_
  refine WO.fin [0, 1, 13] [] [] [] (e2 := [(0, .ptr (.agg [.nilp, I6 q3.f_length, l3 none q3.f_starts, l3 none q3.f_places])), (1, .str a2), (13, .bool (!w21))]) (by kernel_rfl) (fun _ h => h) ?_
  refine W.condB (!w21) (by kernel_rfl) (fun hb => ?_) (fun hb => ?_)
  · replace h := cond_t hb h
    refine W.seq ?_
    refine W.region (by kernel_rfl) ?_
    refine WO.steps 1 (e1 := [(0, .ptr (.agg [.nilp, I6 q3.f_length, l3 none q3.f_starts, l3 none q3.f_places])), (1, .str a2), (4, .nils), (13, .bool (!w21))]) (by kernel_rfl) ?_
    refine WO.mv [.nil 4 3 1 1200004] (env' := [(0, .ptr (.agg [.nilp, I6 q3.f_length, l3 none q3.f_starts, l3 none q3.f_places])), (1, .str a2), (4, .sb 1200004 3 1 0 (([] : (List Int)).length)), (13, .bool (!w21)), (1200004, .obj 3 1 (List.map (AV.int .i64) ([] : (List Int))))]) (by kernel_rfl) ?_
    refine WO.fin [4, 5, 1200004] [] [] [] (e2 := [(4, .sb 1200004 3 1 0 (([] : (List Int)).length)), (5, .int .i64 2), (1200004, .obj 3 1 (List.map (AV.int .i64) ([] : (List Int))))]) (by kernel_rfl) (fun _ h => h) ?_
    refine W.mv [.frz 1200004] (env' := [(4, l3 none (snap 0 (([] : (List Int)).length) ([] : (List Int)))), (5, .int .i64 2)]) ((by kernel_rfl : mvAll [(4, .sb 1200004 3 1 0 (([] : (List Int)).length)), (5, .int .i64 2), (1200004, .obj 3 1 (List.map (AV.int .i64) ([] : (List Int))))] [.frz 1200004] = [(4, .lst 3 1 none (snapA 0 (([] : (List Int)).length) (List.map (AV.int .i64) ([] : (List Int))))), (5, .int .i64 2)]).trans (by first | (simp only [snap_map, snap_full, snap_rep]; done) | (simp only [snap_map, snap_full, snap_rep]; kernel_rfl))) ?_
    refine W.weak [4, 5] [] [] [] (env' := [(4, l3 none (snap 0 (([] : (List Int)).length) ([] : (List Int)))), (5, .int .i64 2)]) (by kernel_rfl) ?_
    have hr : aresults Try.prog Try.f33 [(4, l3 none (snap 0 (([] : (List Int)).length) ([] : (List Int)))), (5, .int .i64 2)] = some (.tup [l3 none (snap 0 (([] : (List Int)).length) ([] : (List Int))), .int .i64 2]) := by kernel_rfl
    cases h
    exact W.ret hr
  replace h := cond_f hb h
  refine W.skip ?_
  refine W.weak [0, 1] [] [] [] (env' := [(0, .ptr (.agg [.nilp, I6 q3.f_length, l3 none q3.f_starts, l3 none q3.f_places])), (1, .str a2)]) (by kernel_rfl) ?_
  cases h
def ix_Index_Rank_j18 (v19 : Bool) : Option (Int × Int) :=
  (bif v19 then (some (0, 2)) else none)
def ix_Index_Rank (a1 : (Option ixIndex)) (a2 : Int) (a3 : Int) : Option (Int × Int) :=
  (ocase a1 (((ix_Index_none none).bind fun w8 => (bif w8 then (some (0, 1)) else none))) (fun q4 => ((ix_Index_none (some q4)).bind fun w15 => (bif w15 then (some (0, 1)) else (bif (decide (a3 < 0)) then ((ix_Index_Rank_j18) true) else ((ix_Index_Rank_j18) (decide (a3 > (IntKind.wrap .i64 (q4.f_length + 1))))))))))
theorem run_ix_Index_Rank (a1 : (Option ixIndex)) (a2 : Int) (a3 : Int) (r : (Int × Int)) (h : ix_Index_Rank a1 a2 a3 = some r) : Run Try.prog (.call 34 [ep e_ixIndex a1, .int .u8 a2, I6 a3] (.tup [I6 r.1, I6 r.2])) := by
  unfold ix_Index_Rank at h
  rcases a1 with _ | q4
  · dsimp only [ocase] at h
    refine call_of_W Try.func34 rfl (by kernel_rfl) (env0 := [(0, .nilp), (1, .int .u8 a2), (2, I6 a3)]) (by kernel_rfl) ?_
    refine W.seq ?_
    refine W.regT [0, 1, 2] [] [] [] (e2 := [(0, .nilp), (1, .int .u8 a2), (2, I6 a3)]) (by kernel_rfl) (by kernel_rfl) (fun _ h => h) ?_
    refine W.seq ?_
    refine W.seq ?_
    refine W.region (by kernel_rfl) ?_
    obtain ⟨w8, hw8, h⟩ := bind_some h
    refine WO.callK 1 (F := 48) (l := [.nilp]) (C := []) (r := .bool w8) (by kernel_rfl) (by kernel_rfl) (run_ix_Index_none none w8 hw8) (e1 := [(0, .nilp), (1, .int .u8 a2), (2, I6 a3), (8, .nilp), (9, .bool w8)]) (by kernel_rfl) ?_
    refine WO.fin [0, 1, 2, 9] [] [] [] (e2 := [(0, .nilp), (1, .int .u8 a2), (2, I6 a3), (9, .bool w8)]) (by kernel_rfl) (fun _ h => h) ?_
    refine W.condB w8 (by kernel_rfl) (fun hb => ?_) (fun hb => ?_)
    · replace h := cond_t hb h
      refine W.seq ?_
      refine W.regT [6, 7] [] [] [] (e2 := [(6, .int .i64 0), (7, .int .i64 1)]) (by kernel_rfl) (by kernel_rfl) (fun _ h => h) ?_
      refine W.weak [6, 7] [] [] [] (env' := [(6, .int .i64 0), (7, .int .i64 1)]) (by kernel_rfl) ?_
      have hr : aresults Try.prog Try.f34 [(6, .int .i64 0), (7, .int .i64 1)] = some (.tup [.int .i64 0, .int .i64 1]) := by kernel_rfl
      cases h
      exact W.ret hr
    replace h := cond_f hb h
    refine W.skip ?_
    refine W.weak [0, 1, 2] [] [] [] (env' := [(0, .nilp), (1, .int .u8 a2), (2, I6 a3)]) (by kernel_rfl) ?_
    cases h
  dsimp only [ocase] at h
  refine call_of_W Try.func34 rfl (by kernel_rfl) (env0 := [(0, .ptr (.agg [.nilp, I6 q4.f_length, l3 none q4.f_starts, l3 none q4.f_places])), (1, .int .u8 a2), (2, I6 a3)]) (by kernel_rfl) ?_
  refine W.seq ?_
  refine W.regT [0, 1, 2] [] [] [] (e2 := [(0, .ptr (.agg [.nilp, I6 q4.f_length, l3 none q4.f_starts, l3 none q4.f_places])), (1, .int .u8 a2), (2, I6 a3)]) (by kernel_rfl) (by kernel_rfl) (fun _ h => h) ?_
  refine W.seq ?_
  refine W.seq ?_
  refine W.region (by kernel_rfl) ?_
  obtain ⟨w15, hw15, h⟩ := bind_some h
  refine WO.callK 1 (F := 48) (l := [.ptr (.agg [.nilp, I6 q4.f_length, l3 none q4.f_starts, l3 none q4.f_places])]) (C := []) (r := .bool w15) (by kernel_rfl) (by kernel_rfl) (run_ix_Index_none (some q4) w15 hw15) (e1 := [(0, .ptr (.agg [.nilp, I6 q4.f_length, l3 none q4.f_starts, l3 none q4.f_places])), (1, .int .u8 a2), (2, I6 a3), (8, .ptr (.agg [.nilp, I6 q4.f_length, l3 none q4.f_starts, l3 none q4.f_places])), (9, .bool w15)]) (by kernel_rfl) ?_
  refine WO.fin [0, 1, 2, 9] [] [] [] (e2 := [(0, .ptr (.agg [.nilp, I6 q4.f_length, l3 none q4.f_starts, l3 none q4.f_places])), (1, .int .u8 a2), (2, I6 a3), (9, .bool w15)]) (by kernel_rfl) (fun _ h => h) ?_
  refine W.condB w15 (by kernel_rfl) (fun hb => ?_) (fun hb => ?_)
  · replace h := cond_t hb h
    refine W.seq ?_
    refine W.regT [6, 7] [] [] [] (e2 := [(6, .int .i64 0), (7, .int .i64 1)]) (by kernel_rfl) (by kernel_rfl) (fun _ h => h) ?_
    refine W.weak [6, 7] [] [] [] (env' := [(6, .int .i64 0), (7, .int .i64 1)]) (by kernel_rfl) ?_
    have hr : aresults Try.prog Try.f34 [(6, .int .i64 0), (7, .int .i64 1)] = some (.tup [.int .i64 0, .int .i64 1]) := by kernel_rfl
    cases h
    exact W.ret hr
  replace h := cond_f hb h
  refine W.skip ?_
  refine W.weak [0, 1, 2] [] [] [] (env' := [(0, .ptr (.agg [.nilp, I6 q4.f_length, l3 none q4.f_starts, l3 none q4.f_places])), (1, .int .u8 a2), (2, I6 a3)]) (by kernel_rfl) ?_
  refine W.seq ?_
  refine W.seq ?_
  refine W.join (σ := (Bool)) (fun s => [(0, .ptr (.agg [.nilp, I6 q4.f_length, l3 none q4.f_starts, l3 none q4.f_places])), (1, .int .u8 a2), (2, I6 a3), (20, .bool s)]) (fun s => (ix_Index_Rank_j18) s = some r) (fun s h => ?_) (fun hK18 => ?_)
  · obtain ⟨v19, rfl⟩ : ∃ x, x = s := ⟨s, rfl⟩
    have h : (ix_Index_Rank_j18) v19 = some r := h
    unfold ix_Index_Rank_j18 at h
    refine W.condB v19 (by kernel_rfl) (fun hb => ?_) (fun hb => ?_)
    · replace h := cond_t hb h
      refine W.seq ?_
      refine W.regT [6, 7] [] [] [] (e2 := [(6, .int .i64 0), (7, .int .i64 2)]) (by kernel_rfl) (by kernel_rfl) (fun _ h => h) ?_
      refine W.weak [6, 7] [] [] [] (env' := [(6, .int .i64 0), (7, .int .i64 2)]) (by kernel_rfl) ?_
      have hr : aresults Try.prog Try.f34 [(6, .int .i64 0), (7, .int .i64 2)] = some (.tup [.int .i64 0, .int .i64 2]) := by kernel_rfl
      cases h
      exact W.ret hr
    replace h := cond_f hb h
    refine W.skip ?_
    refine W.weak [0, 1, 2] [] [] [] (env' := [(0, .ptr (.agg [.nilp, I6 q4.f_length, l3 none q4.f_starts, l3 none q4.f_places])), (1, .int .u8 a2), (2, I6 a3)]) (by kernel_rfl) ?_
    cases h
  refine W.region (by kernel_rfl) ?_
  refine WO.boolK 3 (fun b => [(0, .ptr (.agg [.nilp, I6 q4.f_length, l3 none q4.f_starts, l3 none q4.f_places])), (1, .int .u8 a2), (2, I6 a3), (10, I6 a3), (11, .bool b), (12, .bool b)]) (decide (a3 < 0)) (by kernel_rfl) (fun hb => ?_) (fun hb => ?_)
  · replace h := cond_t hb h
    refine WO.fin [0, 1, 2, 20] [] [] [] (e2 := [(0, .ptr (.agg [.nilp, I6 q4.f_length, l3 none q4.f_starts, l3 none q4.f_places])), (1, .int .u8 a2), (2, I6 a3), (20, .bool true)]) (by kernel_rfl) (fun _ h => h) ?_
    exact hK18 true h
  replace h := cond_f hb h
  refine WO.fin [0, 1, 2, 20] [] [] [] (e2 := [(0, .ptr (.agg [.nilp, I6 q4.f_length, l3 none q4.f_starts, l3 none q4.f_places])), (1, .int .u8 a2), (2, I6 a3), (20, .bool (decide (a3 > (W6 (q4.f_length + 1)))))]) (by kernel_rfl) (fun _ h => h) ?_
  exact hK18 (decide (a3 > (W6 (q4.f_length + 1)))) h
def sl_Index_int_j4 : Option Int :=
  (some (-1))
def sl_Index_int_l1 (a2 : Int) (K4 : (Option Int)) : List Int → Nat → Option Int
  | [], k1 => K4
  | x1 :: r1, k1 => (bif (a2 == x1) then (some (k1 : Int)) else (sl_Index_int_l1 a2 K4 r1 (k1 + 1)))
def sl_Index_int (a1 : (List Int)) (a2 : Int) : Option Int :=
  (chk (lenOk a1) (sl_Index_int_l1 a2 (sl_Index_int_j4) a1 0))
theorem run_sl_Index_int (a1 : (List Int)) (a2 : Int) (r : Int) (h : sl_Index_int a1 a2 = some r) : Run Try.prog (.call 52 [l3 none a1, I6 a2] (I6 r)) := by
  refine call_of_W Try.func52 rfl (by kernel_rfl) (env0 := [(0, l3 none a1), (1, I6 a2)]) (by kernel_rfl) ?_
  unfold sl_Index_int at h
  refine W.seq ?_
  refine W.regT [0, 1] [] [] [] (e2 := [(0, l3 none a1), (1, I6 a2)]) (by kernel_rfl) (by kernel_rfl) (fun _ h => h) ?_
  refine W.seq ?_
  refine W.join (σ := Unit) (fun s => []) (fun s => (sl_Index_int_j4) = some r) (fun s h => ?_) (fun hK4 => ?_)
  · have h : (sl_Index_int_j4) = some r := h
    unfold sl_Index_int_j4 at h
    refine W.seq ?_
    refine W.regT [4] [] [] [] (e2 := [(4, I6 (-1))]) (by kernel_rfl) (by kernel_rfl) (fun _ h => h) ?_
    refine W.weak [4] [] [] [] (env' := [(4, I6 (-1))]) (by kernel_rfl) ?_
    have hr : aresults Try.prog Try.f52 [(4, I6 (-1))] = some (I6 (-1)) := by kernel_rfl
    cases h
    exact W.ret hr
  refine W.seq ?_
  refine W.region (by kernel_rfl) ?_
  refine WO.pureK 1 (some (I6 ((List.map (AV.int .i64) a1).length : Int))) (v := I6 (a1.length : Int)) (by kernel_rfl) (by rw [List.length_map]) (e1 := [(0, l3 none a1), (1, I6 a2), (6, l3 none a1), (7, I6 (a1.length : Int))]) (by kernel_rfl) ?_
  refine WO.fin [0, 1, 7, 8] [] [] [] (e2 := [(0, l3 none a1), (1, I6 a2), (7, I6 (a1.length : Int)), (8, .int .i64 0)]) (by kernel_rfl) (fun _ h => h) ?_
  refine W.block ?_
  obtain ⟨hl1, h⟩ := chk_some h
  refine W.weak [0, 1, 7, 8] [] [] [] (env' := [(0, l3 none a1), (1, I6 a2), (7, I6 (a1.length : Int)), (8, I6 ((0 : Nat) : Int))]) (by kernel_rfl) ?_
  refine W.range (σ := Unit) a1 (fun k1 s => [(0, l3 none a1), (1, I6 a2), (7, I6 (a1.length : Int)), (8, I6 (k1 : Int))]) (fun r0 k0 s => sl_Index_int_l1 a2 (sl_Index_int_j4) r0 k0 = some r) (fun s h => ?_) (fun x1 r1 k1 s hx1 hk1 h hN1 => ?_) () h
  · have h : sl_Index_int_l1 a2 (sl_Index_int_j4) [] (a1).length = some r := h
    rw [sl_Index_int_l1.eq_1] at h
    refine W.seq ?_
    refine W.region (by kernel_rfl) ?_
    refine WO.pureK 0 (some (.bool (decide (((a1).length : Int) < (a1.length : Int))))) (v := .bool false) (by kernel_rfl) (by rw [lt_false (l := a1)]) (e1 := [(0, l3 none a1), (1, I6 a2), (7, I6 (a1.length : Int)), (8, I6 ((a1).length : Int)), (9, .bool false)]) (by kernel_rfl) ?_
    refine WO.fin ([0, 1, 7, 8, 9]) [] [] [] (e2 := [(0, l3 none a1), (1, I6 a2), (7, I6 (a1.length : Int)), (8, I6 ((a1).length : Int)), (9, .bool false)]) (by kernel_rfl) (fun _ h => h) ?_
    refine W.seq ?_
    refine W.condB false (by kernel_rfl) (fun h => Bool.noConfusion h) (fun _ => ?_)
    refine W.exit ?_
    refine W.weak [] [] [] [] (env' := []) (by kernel_rfl) ?_
    exact hK4 () h
  · have h : sl_Index_int_l1 a2 (sl_Index_int_j4) (x1 :: r1) k1 = some r := h
    rw [sl_Index_int_l1.eq_2] at h
    refine W.seq ?_
    refine W.region (by kernel_rfl) ?_
    refine WO.pureK 0 (some (.bool (decide ((k1 : Int) < (a1.length : Int))))) (v := .bool true) (by kernel_rfl) (by rw [lt_true hk1]) (e1 := [(0, l3 none a1), (1, I6 a2), (7, I6 (a1.length : Int)), (8, I6 (k1 : Int)), (9, .bool true)]) (by kernel_rfl) ?_
    refine WO.fin ([0, 1, 7, 8, 9]) [] [] [] (e2 := [(0, l3 none a1), (1, I6 a2), (7, I6 (a1.length : Int)), (8, I6 (k1 : Int)), (9, .bool true)]) (by kernel_rfl) (fun _ h => h) ?_
    refine W.seq ?_
    refine W.condB true (by kernel_rfl) (fun _ => ?_) (fun h => Bool.noConfusion h)
    refine W.skip ?_
    refine W.weak [0, 1, 7, 8] [] [] [] (env' := [(0, l3 none a1), (1, I6 a2), (7, I6 (a1.length : Int)), (8, I6 (k1 : Int))]) (by kernel_rfl) ?_
    refine W.seq ?_
    refine W.block ?_
    refine W.seq ?_
    refine W.regT [0, 1, 5, 7, 8] [] [] [] (e2 := [(0, l3 none a1), (1, I6 a2), (5, I6 (k1 : Int)), (7, I6 (a1.length : Int)), (8, I6 (k1 : Int))]) (by kernel_rfl) (by kernel_rfl) (fun _ h => h) ?_
    refine W.seq ?_
    refine W.region (by kernel_rfl) ?_
    refine WO.pureK 3 (if (0 : Int) ≤ (k1 : Int) then ((List.map (AV.int .i64) a1)[Int.toNat (k1 : Int)]?).map AV.ptr else none) (v := .ptr (I6 x1)) (by kernel_rfl) (idx_nat (f := (AV.int .i64)) hx1) (e1 := [(0, l3 none a1), (1, I6 a2), (5, I6 (k1 : Int)), (7, I6 (a1.length : Int)), (8, I6 (k1 : Int)), (11, I6 a2), (12, l3 none a1), (13, I6 (k1 : Int)), (14, .ptr (I6 x1))]) (by kernel_rfl) ?_
    refine WO.fin [0, 1, 5, 7, 8, 16] [] [] [] (e2 := [(0, l3 none a1), (1, I6 a2), (5, I6 (k1 : Int)), (7, I6 (a1.length : Int)), (8, I6 (k1 : Int)), (16, .bool (a2 == x1))]) (by kernel_rfl) (fun _ h => h) ?_
    refine W.condB (a2 == x1) (by kernel_rfl) (fun hb => ?_) (fun hb => ?_)
    · replace h := cond_t hb h
      refine W.seq ?_
      refine W.regT [4] [] [] [] (e2 := [(4, I6 (k1 : Int))]) (by kernel_rfl) (by kernel_rfl) (fun _ h => h) ?_
      refine W.weak [4] [] [] [] (env' := [(4, I6 (k1 : Int))]) (by kernel_rfl) ?_
      have hr : aresults Try.prog Try.f52 [(4, I6 (k1 : Int))] = some (I6 (k1 : Int)) := by kernel_rfl
      cases h
      exact W.ret hr
    replace h := cond_f hb h
    refine W.skip ?_
    refine W.weak [0, 1, 7, 8] [] [] [] (env' := [(0, l3 none a1), (1, I6 a2), (7, I6 (a1.length : Int)), (8, I6 (k1 : Int))]) (by kernel_rfl) ?_
    refine W.region (by kernel_rfl) ?_
    refine WO.pureK 0 (some (I6 (IntKind.wrap .i64 ((k1 : Int) + 1)))) (v := I6 ((k1 + 1 : Nat) : Int)) (by kernel_rfl) (by rw [wrap_succ hl1 hk1]) (e1 := [(0, l3 none a1), (1, I6 a2), (7, I6 (a1.length : Int)), (8, I6 (k1 : Int)), (18, I6 ((k1 + 1 : Nat) : Int))]) (by kernel_rfl) ?_
    refine WO.fin [0, 1, 7, 8] [] [] [] (e2 := [(0, l3 none a1), (1, I6 a2), (7, I6 (a1.length : Int)), (8, I6 ((k1 + 1 : Nat) : Int))]) (by kernel_rfl) (fun _ h => h) ?_
    exact hN1 () h
def sl_Reverse_byte_l1 (n2 : Nat) : Nat → (List Int) → Int → Int → Option (List Int)
  | 0, _, _, _ => none
  | m1 + 1, v4, v5, v6 => (bif (decide (v5 < v6)) then (chk (decide ((0 : Int) ≤ v6 ∧ v6 < ((n2 : Nat) : Int))) ((v4[(0 + Int.toNat v6)]?).bind fun e11 => (chk (decide ((0 : Int) ≤ v5 ∧ v5 < ((n2 : Nat) : Int))) ((v4[(0 + Int.toNat v5)]?).bind fun e13 => (chk (decide ((0 : Int) ≤ v5 ∧ v5 < ((n2 : Nat) : Int))) ((upd v4 (0 + Int.toNat v5) e11).bind fun u15 => (chk (decide ((0 : Int) ≤ v6 ∧ v6 < ((n2 : Nat) : Int))) ((upd u15 (0 + Int.toNat v6) e13).bind fun u18 => ((sl_Reverse_byte_l1 n2 m1) u18 (IntKind.wrap .i64 (v5 + 1)) (IntKind.wrap .i64 (v6 - 1))))))))))) else (some v4))
def sl_Reverse_byte (fuel : Nat) (a1 : (List Int)) (n2 : Nat) : Option (List Int) :=
  (sl_Reverse_byte_l1 n2 fuel a1 0 (IntKind.wrap .i64 (((n2 : Nat) : Int) - 1)))
theorem run_sl_Reverse_byte (fuel : Nat) (a1 : (List Int)) (n2 : Nat) (r : (List Int)) (h : sl_Reverse_byte fuel a1 n2 = some r) : Run Try.prog (.callM 55 [.sb 2000000 5 1 0 n2] [(2000000, .obj 5 1 (List.map (AV.int .u8) a1))] (.tup []) [(2000000, .obj 5 1 (List.map (AV.int .u8) r))]) := by
  refine callM_of_W Try.func55 rfl (by kernel_rfl) (env0 := [(0, .sb 2000000 5 1 0 n2), (2000000, .obj 5 1 (List.map (AV.int .u8) a1))]) (by kernel_rfl) ?_
  unfold sl_Reverse_byte at h
  refine W.seq ?_
  refine W.regT [0, 2, 3, 2000000] [] [] [] (e2 := [(0, .sb 2000000 5 1 0 n2), (2, .int .i64 0), (3, I6 (W6 (((n2 : Nat) : Int) - 1))), (2000000, .obj 5 1 (List.map (AV.int .u8) a1))]) (by kernel_rfl) (by kernel_rfl) (fun _ h => h) ?_
  refine W.block ?_
  refine W.weak [0, 2, 3, 2000000] [] [] [] (env' := [(0, .sb 2000000 5 1 0 n2), (2, .int .i64 0), (3, I6 (W6 (((n2 : Nat) : Int) - 1))), (2000000, .obj 5 1 (List.map (AV.int .u8) a1))]) (by kernel_rfl) ?_
  refine W.fuel (σ := ((List Int) × Int × Int)) (fun s => [(0, .sb 2000000 5 1 0 n2), (2, I6 s.2.1), (3, I6 s.2.2), (2000000, .obj 5 1 (List.map (AV.int .u8) s.1))]) (fun m0 s => sl_Reverse_byte_l1 n2 m0 s.1 s.2.1 s.2.2 = some r) (fun s h => ?_) (fun m1 s h hN1 => ?_) fuel (a1, 0, (W6 (((n2 : Nat) : Int) - 1))) h
  · obtain ⟨v4, v5, v6⟩ := s
    have h : sl_Reverse_byte_l1 n2 0 v4 v5 v6 = some r := h
    rw [sl_Reverse_byte_l1.eq_1] at h
    cases h
  · obtain ⟨v4, v5, v6⟩ := s
    have h : sl_Reverse_byte_l1 n2 (m1 + 1) v4 v5 v6 = some r := h
    rw [sl_Reverse_byte_l1.eq_2] at h
    refine W.seq ?_
    refine W.seq ?_
    refine W.regT [0, 2, 3, 9, 2000000] [] [] [] (e2 := [(0, .sb 2000000 5 1 0 n2), (2, I6 v5), (3, I6 v6), (9, .bool (decide (v5 < v6))), (2000000, .obj 5 1 (List.map (AV.int .u8) v4))]) (by kernel_rfl) (by kernel_rfl) (fun _ h => h) ?_
    refine W.condB (decide (v5 < v6)) (by kernel_rfl) (fun hb => ?_) (fun hb => ?_)
    · replace h := cond_t hb h
      refine W.skip ?_
      refine W.weak [0, 2, 3, 2000000] [] [] [] (env' := [(0, .sb 2000000 5 1 0 n2), (2, I6 v5), (3, I6 v6), (2000000, .obj 5 1 (List.map (AV.int .u8) v4))]) (by kernel_rfl) ?_
      refine W.seq ?_
      refine W.block ?_
      refine W.region (by kernel_rfl) ?_
      obtain ⟨hc10, h⟩ := chk_some h
      refine WO.pureK 6 (if (0 : Int) ≤ v6 ∧ v6 < ((n2 : Nat) : Int) then some (.pe 2000000 1 (0 + Int.toNat v6) 0) else none) (v := .pe 2000000 1 (0 + Int.toNat v6) 0) (by kernel_rfl) (ite_some hc10) (e1 := [(0, .sb 2000000 5 1 0 n2), (2, I6 v5), (3, I6 v6), (14, .sb 2000000 5 1 0 n2), (15, I6 v5), (16, .sb 2000000 5 1 0 n2), (17, I6 v6), (18, .sb 2000000 5 1 0 n2), (19, I6 v6), (20, .pe 2000000 1 (0 + Int.toNat v6) 0), (2000000, .obj 5 1 (List.map (AV.int .u8) v4))]) (by kernel_rfl) ?_
      obtain ⟨e11, he11, h⟩ := bind_some h
      refine WO.pureK 0 (match (List.map (AV.int .u8) v4)[(0 + Int.toNat v6)]? with | some y => cut Try.prog 5 (y.cells.map AV.strip) 0 | none => none) (v := .int .u8 e11) (by kernel_rfl) ((pe_ld (f := (AV.int .u8)) (G := (fun y => cut Try.prog 5 (y.cells.map AV.strip) 0)) he11).trans (by kernel_rfl)) (e1 := [(0, .sb 2000000 5 1 0 n2), (2, I6 v5), (3, I6 v6), (14, .sb 2000000 5 1 0 n2), (15, I6 v5), (16, .sb 2000000 5 1 0 n2), (17, I6 v6), (18, .sb 2000000 5 1 0 n2), (19, I6 v6), (20, .pe 2000000 1 (0 + Int.toNat v6) 0), (21, .int .u8 e11), (2000000, .obj 5 1 (List.map (AV.int .u8) v4))]) (by kernel_rfl) ?_
      obtain ⟨hc12, h⟩ := chk_some h
      refine WO.pureK 2 (if (0 : Int) ≤ v5 ∧ v5 < ((n2 : Nat) : Int) then some (.pe 2000000 1 (0 + Int.toNat v5) 0) else none) (v := .pe 2000000 1 (0 + Int.toNat v5) 0) (by kernel_rfl) (ite_some hc12) (e1 := [(0, .sb 2000000 5 1 0 n2), (2, I6 v5), (3, I6 v6), (14, .sb 2000000 5 1 0 n2), (15, I6 v5), (16, .sb 2000000 5 1 0 n2), (17, I6 v6), (18, .sb 2000000 5 1 0 n2), (19, I6 v6), (20, .pe 2000000 1 (0 + Int.toNat v6) 0), (21, .int .u8 e11), (22, .sb 2000000 5 1 0 n2), (23, I6 v5), (24, .pe 2000000 1 (0 + Int.toNat v5) 0), (2000000, .obj 5 1 (List.map (AV.int .u8) v4))]) (by kernel_rfl) ?_
      obtain ⟨e13, he13, h⟩ := bind_some h
      refine WO.pureK 0 (match (List.map (AV.int .u8) v4)[(0 + Int.toNat v5)]? with | some y => cut Try.prog 5 (y.cells.map AV.strip) 0 | none => none) (v := .int .u8 e13) (by kernel_rfl) ((pe_ld (f := (AV.int .u8)) (G := (fun y => cut Try.prog 5 (y.cells.map AV.strip) 0)) he13).trans (by kernel_rfl)) (e1 := [(0, .sb 2000000 5 1 0 n2), (2, I6 v5), (3, I6 v6), (14, .sb 2000000 5 1 0 n2), (15, I6 v5), (16, .sb 2000000 5 1 0 n2), (17, I6 v6), (18, .sb 2000000 5 1 0 n2), (19, I6 v6), (20, .pe 2000000 1 (0 + Int.toNat v6) 0), (21, .int .u8 e11), (22, .sb 2000000 5 1 0 n2), (23, I6 v5), (24, .pe 2000000 1 (0 + Int.toNat v5) 0), (25, .int .u8 e13), (2000000, .obj 5 1 (List.map (AV.int .u8) v4))]) (by kernel_rfl) ?_
      obtain ⟨hc14, h⟩ := chk_some h
      refine WO.pureK 0 (if (0 : Int) ≤ v5 ∧ v5 < ((n2 : Nat) : Int) then some (.pe 2000000 1 (0 + Int.toNat v5) 0) else none) (v := .pe 2000000 1 (0 + Int.toNat v5) 0) (by kernel_rfl) (ite_some hc14) (e1 := [(0, .sb 2000000 5 1 0 n2), (2, I6 v5), (3, I6 v6), (14, .sb 2000000 5 1 0 n2), (15, I6 v5), (16, .sb 2000000 5 1 0 n2), (17, I6 v6), (18, .sb 2000000 5 1 0 n2), (19, I6 v6), (20, .pe 2000000 1 (0 + Int.toNat v6) 0), (21, .int .u8 e11), (22, .sb 2000000 5 1 0 n2), (23, I6 v5), (24, .pe 2000000 1 (0 + Int.toNat v5) 0), (25, .int .u8 e13), (26, .pe 2000000 1 (0 + Int.toNat v5) 0), (2000000, .obj 5 1 (List.map (AV.int .u8) v4))]) (by kernel_rfl) ?_
      obtain ⟨u15, hu15, h⟩ := bind_some h
      obtain ⟨y16, hyy16, hzy16⟩ := upd_some hu15
      refine WO.storeK 0 (id := 2000000) (e := 5) (s := 1) (j := (0 + Int.toNat v5)) (off := 0) (vs := [.int .u8 e11]) (xs := (List.map (AV.int .u8) v4)) (zs := (List.map (AV.int .u8) u15)) (y := ((AV.int .u8)) y16) (y' := ((AV.int .u8)) e11) (by kernel_rfl) (upd_get hyy16) (by kernel_rfl) (upd_set hzy16) (e1 := [(0, .sb 2000000 5 1 0 n2), (2, I6 v5), (3, I6 v6), (14, .sb 2000000 5 1 0 n2), (15, I6 v5), (16, .sb 2000000 5 1 0 n2), (17, I6 v6), (18, .sb 2000000 5 1 0 n2), (19, I6 v6), (20, .pe 2000000 1 (0 + Int.toNat v6) 0), (21, .int .u8 e11), (22, .sb 2000000 5 1 0 n2), (23, I6 v5), (24, .pe 2000000 1 (0 + Int.toNat v5) 0), (25, .int .u8 e13), (26, .pe 2000000 1 (0 + Int.toNat v5) 0), (2000000, .obj 5 1 (List.map (AV.int .u8) u15))]) (by kernel_rfl) ?_
      obtain ⟨hc17, h⟩ := chk_some h
      refine WO.pureK 0 (if (0 : Int) ≤ v6 ∧ v6 < ((n2 : Nat) : Int) then some (.pe 2000000 1 (0 + Int.toNat v6) 0) else none) (v := .pe 2000000 1 (0 + Int.toNat v6) 0) (by kernel_rfl) (ite_some hc17) (e1 := [(0, .sb 2000000 5 1 0 n2), (2, I6 v5), (3, I6 v6), (14, .sb 2000000 5 1 0 n2), (15, I6 v5), (16, .sb 2000000 5 1 0 n2), (17, I6 v6), (18, .sb 2000000 5 1 0 n2), (19, I6 v6), (20, .pe 2000000 1 (0 + Int.toNat v6) 0), (21, .int .u8 e11), (22, .sb 2000000 5 1 0 n2), (23, I6 v5), (24, .pe 2000000 1 (0 + Int.toNat v5) 0), (25, .int .u8 e13), (26, .pe 2000000 1 (0 + Int.toNat v5) 0), (27, .pe 2000000 1 (0 + Int.toNat v6) 0), (2000000, .obj 5 1 (List.map (AV.int .u8) u15))]) (by kernel_rfl) ?_
      obtain ⟨u18, hu18, h⟩ := bind_some h
      obtain ⟨y19, hyy19, hzy19⟩ := upd_some hu18
      refine WO.storeK 0 (id := 2000000) (e := 5) (s := 1) (j := (0 + Int.toNat v6)) (off := 0) (vs := [.int .u8 e13]) (xs := (List.map (AV.int .u8) u15)) (zs := (List.map (AV.int .u8) u18)) (y := ((AV.int .u8)) y19) (y' := ((AV.int .u8)) e13) (by kernel_rfl) (upd_get hyy19) (by kernel_rfl) (upd_set hzy19) (e1 := [(0, .sb 2000000 5 1 0 n2), (2, I6 v5), (3, I6 v6), (14, .sb 2000000 5 1 0 n2), (15, I6 v5), (16, .sb 2000000 5 1 0 n2), (17, I6 v6), (18, .sb 2000000 5 1 0 n2), (19, I6 v6), (20, .pe 2000000 1 (0 + Int.toNat v6) 0), (21, .int .u8 e11), (22, .sb 2000000 5 1 0 n2), (23, I6 v5), (24, .pe 2000000 1 (0 + Int.toNat v5) 0), (25, .int .u8 e13), (26, .pe 2000000 1 (0 + Int.toNat v5) 0), (27, .pe 2000000 1 (0 + Int.toNat v6) 0), (2000000, .obj 5 1 (List.map (AV.int .u8) u18))]) (by kernel_rfl) ?_
      refine WO.fin [0, 2, 3, 2000000] [] [] [] (e2 := [(0, .sb 2000000 5 1 0 n2), (2, I6 v5), (3, I6 v6), (2000000, .obj 5 1 (List.map (AV.int .u8) u18))]) (by kernel_rfl) (fun _ h => h) ?_
      refine W.regT [0, 2, 3, 2000000] [] [] [] (e2 := [(0, .sb 2000000 5 1 0 n2), (2, I6 (W6 (v5 + 1))), (3, I6 (W6 (v6 - 1))), (2000000, .obj 5 1 (List.map (AV.int .u8) u18))]) (by kernel_rfl) (by kernel_rfl) (fun _ h => h) ?_
      exact hN1 (u18, (W6 (v5 + 1)), (W6 (v6 - 1))) h
    replace h := cond_f hb h
    have hr : PostM Try.prog Try.f55 (.tup []) [(2000000, .obj 5 1 (List.map (AV.int .u8) v4))] .normal [(0, .sb 2000000 5 1 0 n2), (2, I6 v5), (3, I6 v6), (9, .bool (decide (v5 < v6))), (2000000, .obj 5 1 (List.map (AV.int .u8) v4))] := ⟨by kernel_rfl, by kernel_rfl⟩
    cases h
    exact W.exit hr
def ix_Index_Extract_j24 (fuel : Nat) (v34 : (List Int)) (n35 : Nat) : Option (ByteArray × Int) :=
  ((sl_Reverse_byte fuel v34 n35).bind fun w37 => none)
def ix_Index_Extract_l1 (a2 : Int) (K24 : ((List Int) → Nat → Option (ByteArray × Int))) : Nat → (List Int) → Int → Nat → Int → Option (ByteArray × Int)
  | 0, _, _, _, _ => none
  | m1 + 1, v26, v27, n28, v29 => (bif (decide (v29 > a2)) then none else (K24 v26 n28))
def ix_Index_Extract_j18 (fuel : Nat) (a2 : Int) (a3 : Int) (q4 : ixIndex) (v19 : Bool) : Option (ByteArray × Int) :=
  (bif v19 then (some ((ByteArray.mk #[]), 2)) else ((sl_Index_int q4.f_places a3).bind fun w22 => (ix_Index_Extract_l1 a2 (ix_Index_Extract_j24 fuel) fuel ([] : (List Int)) w22 (([] : (List Int)).length) a3)))
def ix_Index_Extract (fuel : Nat) (a1 : (Option ixIndex)) (a2 : Int) (a3 : Int) : Option (ByteArray × Int) :=
  (ocase a1 (((ix_Index_none none).bind fun w8 => (bif w8 then (some ((ByteArray.mk #[]), 1)) else none))) (fun q4 => ((ix_Index_none (some q4)).bind fun w15 => (bif w15 then (some ((ByteArray.mk #[]), 1)) else (bif (decide (a2 < 0)) then ((ix_Index_Extract_j18 fuel a2 a3 q4) true) else (bif (decide (a2 > a3)) then ((ix_Index_Extract_j18 fuel a2 a3 q4) true) else ((ix_Index_Extract_j18 fuel a2 a3 q4) (decide (a3 > q4.f_length)))))))))
theorem run_ix_Index_Extract (fuel : Nat) (a1 : (Option ixIndex)) (a2 : Int) (a3 : Int) (r : (ByteArray × Int)) (h : ix_Index_Extract fuel a1 a2 a3 = some r) : Run Try.prog (.call 35 [ep e_ixIndex a1, I6 a2, I6 a3] (.tup [.str r.1, I6 r.2])) := by
  unfold ix_Index_Extract at h
  rcases a1 with _ | q4
  · dsimp only [ocase] at h
    refine call_of_W Try.func35 rfl (by kernel_rfl) (env0 := [(0, .nilp), (1, I6 a2), (2, I6 a3)]) (by kernel_rfl) ?_
    refine W.seq ?_
    refine W.regT [0, 1, 2] [] [] [] (e2 := [(0, .nilp), (1, I6 a2), (2, I6 a3)]) (by kernel_rfl) (by kernel_rfl) (fun _ h => h) ?_
    refine W.seq ?_
    refine W.seq ?_
    refine W.region (by kernel_rfl) ?_
    obtain ⟨w8, hw8, h⟩ := bind_some h
    refine WO.callK 1 (F := 48) (l := [.nilp]) (C := []) (r := .bool w8) (by kernel_rfl) (by kernel_rfl) (run_ix_Index_none none w8 hw8) (e1 := [(0, .nilp), (1, I6 a2), (2, I6 a3), (12, .nilp), (13, .bool w8)]) (by kernel_rfl) ?_
    refine WO.fin [0, 1, 2, 13] [] [] [] (e2 := [(0, .nilp), (1, I6 a2), (2, I6 a3), (13, .bool w8)]) (by kernel_rfl) (fun _ h => h) ?_
    refine W.condB w8 (by kernel_rfl) (fun hb => ?_) (fun hb => ?_)
    · replace h := cond_t hb h
      refine W.seq ?_
      refine W.regT [6, 7] [] [] [] (e2 := [(6, .str (ByteArray.mk #[])), (7, .int .i64 1)]) (by kernel_rfl) (by kernel_rfl) (fun _ h => h) ?_
      refine W.weak [6, 7] [] [] [] (env' := [(6, .str (ByteArray.mk #[])), (7, .int .i64 1)]) (by kernel_rfl) ?_
      have hr : aresults Try.prog Try.f35 [(6, .str (ByteArray.mk #[])), (7, .int .i64 1)] = some (.tup [.str (ByteArray.mk #[]), .int .i64 1]) := by kernel_rfl
      cases h
      exact W.ret hr
    replace h := cond_f hb h
    refine W.skip ?_
    refine W.weak [0, 1, 2] [] [] [] (env' := [(0, .nilp), (1, I6 a2), (2, I6 a3)]) (by kernel_rfl) ?_
    cases h
  dsimp only [ocase] at h
  refine call_of_W Try.func35 rfl (by kernel_rfl) (env0 := [(0, .ptr (.agg [.nilp, I6 q4.f_length, l3 none q4.f_starts, l3 none q4.f_places])), (1, I6 a2), (2, I6 a3)]) (by kernel_rfl) ?_
  refine W.seq ?_
  refine W.regT [0, 1, 2] [] [] [] (e2 := [(0, .ptr (.agg [.nilp, I6 q4.f_length, l3 none q4.f_starts, l3 none q4.f_places])), (1, I6 a2), (2, I6 a3)]) (by kernel_rfl) (by kernel_rfl) (fun _ h => h) ?_
  refine W.seq ?_
  refine W.seq ?_
  refine W.region (by kernel_rfl) ?_
  obtain ⟨w15, hw15, h⟩ := bind_some h
  refine WO.callK 1 (F := 48) (l := [.ptr (.agg [.nilp, I6 q4.f_length, l3 none q4.f_starts, l3 none q4.f_places])]) (C := []) (r := .bool w15) (by kernel_rfl) (by kernel_rfl) (run_ix_Index_none (some q4) w15 hw15) (e1 := [(0, .ptr (.agg [.nilp, I6 q4.f_length, l3 none q4.f_starts, l3 none q4.f_places])), (1, I6 a2), (2, I6 a3), (12, .ptr (.agg [.nilp, I6 q4.f_length, l3 none q4.f_starts, l3 none q4.f_places])), (13, .bool w15)]) (by kernel_rfl) ?_
  refine WO.fin [0, 1, 2, 13] [] [] [] (e2 := [(0, .ptr (.agg [.nilp, I6 q4.f_length, l3 none q4.f_starts, l3 none q4.f_places])), (1, I6 a2), (2, I6 a3), (13, .bool w15)]) (by kernel_rfl) (fun _ h => h) ?_
  refine W.condB w15 (by kernel_rfl) (fun hb => ?_) (fun hb => ?_)
  · replace h := cond_t hb h
    refine W.seq ?_
    refine W.regT [6, 7] [] [] [] (e2 := [(6, .str (ByteArray.mk #[])), (7, .int .i64 1)]) (by kernel_rfl) (by kernel_rfl) (fun _ h => h) ?_
    refine W.weak [6, 7] [] [] [] (env' := [(6, .str (ByteArray.mk #[])), (7, .int .i64 1)]) (by kernel_rfl) ?_
    have hr : aresults Try.prog Try.f35 [(6, .str (ByteArray.mk #[])), (7, .int .i64 1)] = some (.tup [.str (ByteArray.mk #[]), .int .i64 1]) := by kernel_rfl
    cases h
    exact W.ret hr
  replace h := cond_f hb h
  refine W.skip ?_
  refine W.weak [0, 1, 2] [] [] [] (env' := [(0, .ptr (.agg [.nilp, I6 q4.f_length, l3 none q4.f_starts, l3 none q4.f_places])), (1, I6 a2), (2, I6 a3)]) (by kernel_rfl) ?_
  refine W.seq ?_
  refine W.seq ?_
  refine W.join (σ := (Bool)) (fun s => [(0, .ptr (.agg [.nilp, I6 q4.f_length, l3 none q4.f_starts, l3 none q4.f_places])), (1, I6 a2), (2, I6 a3), (28, .bool s)]) (fun s => (ix_Index_Extract_j18 fuel a2 a3 q4) s = some r) (fun s h => ?_) (fun hK18 => ?_)
  · obtain ⟨v19, rfl⟩ : ∃ x, x = s := ⟨s, rfl⟩
    have h : (ix_Index_Extract_j18 fuel a2 a3 q4) v19 = some r := h
    unfold ix_Index_Extract_j18 at h
    refine W.condB v19 (by kernel_rfl) (fun hb => ?_) (fun hb => ?_)
    · replace h := cond_t hb h
      refine W.seq ?_
      refine W.regT [6, 7] [] [] [] (e2 := [(6, .str (ByteArray.mk #[])), (7, .int .i64 2)]) (by kernel_rfl) (by kernel_rfl) (fun _ h => h) ?_
      refine W.weak [6, 7] [] [] [] (env' := [(6, .str (ByteArray.mk #[])), (7, .int .i64 2)]) (by kernel_rfl) ?_
      have hr : aresults Try.prog Try.f35 [(6, .str (ByteArray.mk #[])), (7, .int .i64 2)] = some (.tup [.str (ByteArray.mk #[]), .int .i64 2]) := by kernel_rfl
      cases h
      exact W.ret hr
    replace h := cond_f hb h
    refine W.skip ?_
    refine W.weak [0, 1, 2] [] [] [] (env' := [(0, .ptr (.agg [.nilp, I6 q4.f_length, l3 none q4.f_starts, l3 none q4.f_places])), (1, I6 a2), (2, I6 a3)]) (by kernel_rfl) ?_
    refine W.seq ?_
    refine W.region (by kernel_rfl) ?_
    obtain ⟨w22, hw22, h⟩ := bind_some h
    refine WO.callK 5 (F := 52) (l := [l3 none q4.f_places, I6 a3]) (C := []) (r := I6 w22) (by kernel_rfl) (by kernel_rfl) (run_sl_Index_int q4.f_places a3 w22 hw22) (e1 := [(0, .ptr (.agg [.nilp, I6 q4.f_length, l3 none q4.f_starts, l3 none q4.f_places])), (1, I6 a2), (2, I6 a3), (29, .ptr (.agg [.nilp, I6 q4.f_length, l3 none q4.f_starts, l3 none q4.f_places])), (30, .ptr (.agg [.nilp, I6 q4.f_length, l3 none q4.f_starts, l3 none q4.f_places])), (31, .ptr (l3 none q4.f_places)), (32, l3 none q4.f_places), (33, I6 a3), (34, I6 w22)]) (by kernel_rfl) ?_
    refine WO.fin [0, 1, 2, 8] [] [] [] (e2 := [(0, .ptr (.agg [.nilp, I6 q4.f_length, l3 none q4.f_starts, l3 none q4.f_places])), (1, I6 a2), (2, I6 a3), (8, I6 w22)]) (by kernel_rfl) (fun _ h => h) ?_
    refine W.seq ?_
    refine W.region (by kernel_rfl) ?_
    refine WO.steps 1 (e1 := [(0, .ptr (.agg [.nilp, I6 q4.f_length, l3 none q4.f_starts, l3 none q4.f_places])), (1, I6 a2), (2, I6 a3), (8, I6 w22), (9, .nils)]) (by kernel_rfl) ?_
    refine WO.mv [.nil 9 5 1 1200009] (env' := [(0, .ptr (.agg [.nilp, I6 q4.f_length, l3 none q4.f_starts, l3 none q4.f_places])), (1, I6 a2), (2, I6 a3), (8, I6 w22), (9, .sb 1200009 5 1 0 (([] : (List Int)).length)), (1200009, .obj 5 1 (List.map (AV.int .u8) ([] : (List Int))))]) (by kernel_rfl) ?_
    refine WO.fin [0, 1, 2, 8, 9, 1200009] [] [] [] (e2 := [(0, .ptr (.agg [.nilp, I6 q4.f_length, l3 none q4.f_starts, l3 none q4.f_places])), (1, I6 a2), (2, I6 a3), (8, I6 w22), (9, .sb 1200009 5 1 0 (([] : (List Int)).length)), (1200009, .obj 5 1 (List.map (AV.int .u8) ([] : (List Int))))]) (by kernel_rfl) (fun _ h => h) ?_
    refine W.seq ?_
    refine W.join (σ := ((List Int) × Nat)) (fun s => [(9, .sb 1500009 5 1 0 s.2), (1500009, .obj 5 1 (List.map (AV.int .u8) s.1))]) (fun s => (ix_Index_Extract_j24 fuel) s.1 s.2 = some r) (fun s h => ?_) (fun hK24 => ?_)
    · obtain ⟨v34, n35⟩ := s
      have h : (ix_Index_Extract_j24 fuel) v34 n35 = some r := h
      unfold ix_Index_Extract_j24 at h
      refine W.seq ?_
      refine W.region (by kernel_rfl) ?_
      obtain ⟨w37, hw37, h⟩ := bind_some h
      refine WO.callMK 1 [(1500009, 2000000)] [] (F := 55) (args := [.sb 2000000 5 1 0 n35]) (hp := [(2000000, .obj 5 1 (List.map (AV.int .u8) v34))]) (hp2 := [(2000000, .obj 5 1 (List.map (AV.int .u8) w37))]) (r := .tup []) (by kernel_rfl) (run_sl_Reverse_byte fuel v34 n35 w37 hw37) (e1 := [(9, .sb 1500009 5 1 0 n35), (55, .sb 1500009 5 1 0 n35), (56, .tup []), (1500009, .obj 5 1 (List.map (AV.int .u8) w37))]) (by kernel_rfl) ?_
      refine WO.fin [9, 1500009] [] [] [] (e2 := [(9, .sb 1500009 5 1 0 n35), (1500009, .obj 5 1 (List.map (AV.int .u8) w37))]) (by kernel_rfl) (fun _ h => h) ?_
      cases h
    refine W.seq ?_
    refine W.regT [0, 1, 8, 9, 10, 1200009] [] [] [] (e2 := [(0, .ptr (.agg [.nilp, I6 q4.f_length, l3 none q4.f_starts, l3 none q4.f_places])), (1, I6 a2), (8, I6 w22), (9, .sb 1200009 5 1 0 (([] : (List Int)).length)), (10, I6 a3), (1200009, .obj 5 1 (List.map (AV.int .u8) ([] : (List Int))))]) (by kernel_rfl) (by kernel_rfl) (fun _ h => h) ?_
    refine W.block ?_
    refine W.weak [0, 1, 8, 9, 10, 1200009] [] [] [] (env' := [(0, .ptr (.agg [.nilp, I6 q4.f_length, l3 none q4.f_starts, l3 none q4.f_places])), (1, I6 a2), (8, I6 w22), (9, .sb 1200009 5 1 0 (([] : (List Int)).length)), (10, I6 a3), (1200009, .obj 5 1 (List.map (AV.int .u8) ([] : (List Int))))]) (by kernel_rfl) ?_
    refine W.mv [.ren 1200009 1500009] (env' := [(0, .ptr (.agg [.nilp, I6 q4.f_length, l3 none q4.f_starts, l3 none q4.f_places])), (1, I6 a2), (8, I6 w22), (9, .sb 1500009 5 1 0 (([] : (List Int)).length)), (10, I6 a3), (1500009, .obj 5 1 (List.map (AV.int .u8) ([] : (List Int))))]) (by kernel_rfl) ?_
    refine W.weak [0, 1, 8, 9, 10, 1500009] [] [] [] (env' := [(0, .ptr (.agg [.nilp, I6 q4.f_length, l3 none q4.f_starts, l3 none q4.f_places])), (1, I6 a2), (8, I6 w22), (9, .sb 1500009 5 1 0 (([] : (List Int)).length)), (10, I6 a3), (1500009, .obj 5 1 (List.map (AV.int .u8) ([] : (List Int))))]) (by kernel_rfl) ?_
    refine W.fuel (σ := ((List Int) × Int × Nat × Int)) (fun s => [(0, .ptr (.agg [.nilp, I6 q4.f_length, l3 none q4.f_starts, l3 none q4.f_places])), (1, I6 a2), (8, I6 s.2.1), (9, .sb 1500009 5 1 0 s.2.2.1), (10, I6 s.2.2.2), (1500009, .obj 5 1 (List.map (AV.int .u8) s.1))]) (fun m0 s => ix_Index_Extract_l1 a2 (ix_Index_Extract_j24 fuel) m0 s.1 s.2.1 s.2.2.1 s.2.2.2 = some r) (fun s h => ?_) (fun m1 s h hN1 => ?_) fuel (([] : (List Int)), w22, ([] : (List Int)).length, a3) h
    · obtain ⟨v26, v27, n28, v29⟩ := s
      have h : ix_Index_Extract_l1 a2 (ix_Index_Extract_j24 fuel) 0 v26 v27 n28 v29 = some r := h
      rw [ix_Index_Extract_l1.eq_1] at h
      cases h
    · obtain ⟨v26, v27, n28, v29⟩ := s
      have h : ix_Index_Extract_l1 a2 (ix_Index_Extract_j24 fuel) (m1 + 1) v26 v27 n28 v29 = some r := h
      rw [ix_Index_Extract_l1.eq_2] at h
      refine W.seq ?_
      refine W.seq ?_
      refine W.regT [0, 1, 8, 9, 10, 38, 1500009] [] [] [] (e2 := [(0, .ptr (.agg [.nilp, I6 q4.f_length, l3 none q4.f_starts, l3 none q4.f_places])), (1, I6 a2), (8, I6 v27), (9, .sb 1500009 5 1 0 n28), (10, I6 v29), (38, .bool (decide (v29 > a2))), (1500009, .obj 5 1 (List.map (AV.int .u8) v26))]) (by kernel_rfl) (by kernel_rfl) (fun _ h => h) ?_
      refine W.condB (decide (v29 > a2)) (by kernel_rfl) (fun hb => ?_) (fun hb => ?_)
      · replace h := cond_t hb h
        refine W.skip ?_
        refine W.weak [0, 1, 8, 9, 10, 1500009] [] [] [] (env' := [(0, .ptr (.agg [.nilp, I6 q4.f_length, l3 none q4.f_starts, l3 none q4.f_places])), (1, I6 a2), (8, I6 v27), (9, .sb 1500009 5 1 0 n28), (10, I6 v29), (1500009, .obj 5 1 (List.map (AV.int .u8) v26))]) (by kernel_rfl) ?_
        cases h
      replace h := cond_f hb h
      refine W.exit ?_
      refine W.weak [9, 1500009] [] [] [] (env' := [(9, .sb 1500009 5 1 0 n28), (1500009, .obj 5 1 (List.map (AV.int .u8) v26))]) (by kernel_rfl) ?_
      exact hK24 (v26, n28) h
  refine W.region (by kernel_rfl) ?_
  refine WO.boolK 3 (fun b => [(0, .ptr (.agg [.nilp, I6 q4.f_length, l3 none q4.f_starts, l3 none q4.f_places])), (1, I6 a2), (2, I6 a3), (14, I6 a2), (15, .bool b), (16, .bool b)]) (decide (a2 < 0)) (by kernel_rfl) (fun hb => ?_) (fun hb => ?_)
  · replace h := cond_t hb h
    refine WO.fin [0, 1, 2, 28] [] [] [] (e2 := [(0, .ptr (.agg [.nilp, I6 q4.f_length, l3 none q4.f_starts, l3 none q4.f_places])), (1, I6 a2), (2, I6 a3), (28, .bool true)]) (by kernel_rfl) (fun _ h => h) ?_
    exact hK18 true h
  replace h := cond_f hb h
  refine WO.boolK 5 (fun b => [(0, .ptr (.agg [.nilp, I6 q4.f_length, l3 none q4.f_starts, l3 none q4.f_places])), (1, I6 a2), (2, I6 a3), (14, I6 a2), (15, .bool false), (16, .bool false), (17, I6 a2), (18, I6 a3), (19, .bool b), (20, .bool b), (21, .bool b)]) (decide (a2 > a3)) (by kernel_rfl) (fun hb => ?_) (fun hb => ?_)
  · replace h := cond_t hb h
    refine WO.fin [0, 1, 2, 28] [] [] [] (e2 := [(0, .ptr (.agg [.nilp, I6 q4.f_length, l3 none q4.f_starts, l3 none q4.f_places])), (1, I6 a2), (2, I6 a3), (28, .bool true)]) (by kernel_rfl) (fun _ h => h) ?_
    exact hK18 true h
  replace h := cond_f hb h
  refine WO.fin [0, 1, 2, 28] [] [] [] (e2 := [(0, .ptr (.agg [.nilp, I6 q4.f_length, l3 none q4.f_starts, l3 none q4.f_places])), (1, I6 a2), (2, I6 a3), (28, .bool (decide (a3 > q4.f_length)))]) (by kernel_rfl) (fun _ h => h) ?_
  exact hK18 (decide (a3 > q4.f_length)) h
def lw4_IndexNobody_j6 (fuel : Nat) : Option Bool :=
  ((lw4_awake fuel).bind fun w38 => (some w38))
def lw4_IndexNobody_j21 (K8 : (Option Bool)) (v22 : Bool) : Option Bool :=
  (bif v22 then (some false) else K8)
def lw4_IndexNobody_j34 (K8 : (Option Bool)) (v35 : Bool) : Option Bool :=
  (bif v35 then (some false) else K8)
def lw4_IndexNobody_j8 (N1 : (Option Bool)) : Option Bool :=
  N1
def lw4_IndexNobody_l1 (fuel : Nat) (a1 : ByteArray) (a2 : Int) (a3 : Int) (a4 : Int) (K6 : (Option Bool)) : List (Option ixIndex) → Nat → Option Bool
  | [], k1 => K6
  | x1 :: r1, k1 => (ocase x1 (((lw4_few a1).bind fun w12 => ((ix_Index_Count none w12).bind fun w13 => ((lw4_few a1).bind fun w15 => ((ix_Index_Locate none w15).bind fun w16 => ((ix_Index_Rank none a2 a3).bind fun w18 => ((ix_Index_Extract fuel none a3 a4).bind fun w20 => (bif (w13.1 != 0) then ((lw4_IndexNobody_j21 (lw4_IndexNobody_j8 (lw4_IndexNobody_l1 fuel a1 a2 a3 a4 K6 r1 (k1 + 1)))) true) else (bif ((w16.1.length : Int) != 0) then ((lw4_IndexNobody_j21 (lw4_IndexNobody_j8 (lw4_IndexNobody_l1 fuel a1 a2 a3 a4 K6 r1 (k1 + 1)))) true) else (bif (w18.1 != 0) then ((lw4_IndexNobody_j21 (lw4_IndexNobody_j8 (lw4_IndexNobody_l1 fuel a1 a2 a3 a4 K6 r1 (k1 + 1)))) true) else (bif (!(w20.1.toList == (ByteArray.mk #[]).toList)) then ((lw4_IndexNobody_j21 (lw4_IndexNobody_j8 (lw4_IndexNobody_l1 fuel a1 a2 a3 a4 K6 r1 (k1 + 1)))) true) else (bif (w13.2 != 1) then ((lw4_IndexNobody_j21 (lw4_IndexNobody_j8 (lw4_IndexNobody_l1 fuel a1 a2 a3 a4 K6 r1 (k1 + 1)))) true) else (bif (w16.2 != 1) then ((lw4_IndexNobody_j21 (lw4_IndexNobody_j8 (lw4_IndexNobody_l1 fuel a1 a2 a3 a4 K6 r1 (k1 + 1)))) true) else (bif (w18.2 != 1) then ((lw4_IndexNobody_j21 (lw4_IndexNobody_j8 (lw4_IndexNobody_l1 fuel a1 a2 a3 a4 K6 r1 (k1 + 1)))) true) else ((lw4_IndexNobody_j21 (lw4_IndexNobody_j8 (lw4_IndexNobody_l1 fuel a1 a2 a3 a4 K6 r1 (k1 + 1)))) (w20.2 != 1)))))))))))))))) (fun q10 => ((lw4_few a1).bind fun w25 => ((ix_Index_Count (some q10) w25).bind fun w26 => ((lw4_few a1).bind fun w28 => ((ix_Index_Locate (some q10) w28).bind fun w29 => ((ix_Index_Rank (some q10) a2 a3).bind fun w31 => ((ix_Index_Extract fuel (some q10) a3 a4).bind fun w33 => (bif (w26.1 != 0) then ((lw4_IndexNobody_j34 (lw4_IndexNobody_j8 (lw4_IndexNobody_l1 fuel a1 a2 a3 a4 K6 r1 (k1 + 1)))) true) else (bif ((w29.1.length : Int) != 0) then ((lw4_IndexNobody_j34 (lw4_IndexNobody_j8 (lw4_IndexNobody_l1 fuel a1 a2 a3 a4 K6 r1 (k1 + 1)))) true) else (bif (w31.1 != 0) then ((lw4_IndexNobody_j34 (lw4_IndexNobody_j8 (lw4_IndexNobody_l1 fuel a1 a2 a3 a4 K6 r1 (k1 + 1)))) true) else (bif (!(w33.1.toList == (ByteArray.mk #[]).toList)) then ((lw4_IndexNobody_j34 (lw4_IndexNobody_j8 (lw4_IndexNobody_l1 fuel a1 a2 a3 a4 K6 r1 (k1 + 1)))) true) else (bif (w26.2 != 1) then ((lw4_IndexNobody_j34 (lw4_IndexNobody_j8 (lw4_IndexNobody_l1 fuel a1 a2 a3 a4 K6 r1 (k1 + 1)))) true) else (bif (w29.2 != 1) then ((lw4_IndexNobody_j34 (lw4_IndexNobody_j8 (lw4_IndexNobody_l1 fuel a1 a2 a3 a4 K6 r1 (k1 + 1)))) true) else (bif (w31.2 != 1) then ((lw4_IndexNobody_j34 (lw4_IndexNobody_j8 (lw4_IndexNobody_l1 fuel a1 a2 a3 a4 K6 r1 (k1 + 1)))) true) else ((lw4_IndexNobody_j34 (lw4_IndexNobody_j8 (lw4_IndexNobody_l1 fuel a1 a2 a3 a4 K6 r1 (k1 + 1)))) (w33.2 != 1)))))))))))))))))
def lw4_IndexNobody (fuel : Nat) (a1 : ByteArray) (a2 : Int) (a3 : Int) (a4 : Int) : Option Bool :=
  (chk (lenOk [none, (some (ixIndex.mk () 0 ([] : (List Int)) ([] : (List Int))))]) (lw4_IndexNobody_l1 fuel a1 a2 a3 a4 (lw4_IndexNobody_j6 fuel) [none, (some (ixIndex.mk () 0 ([] : (List Int)) ([] : (List Int))))] 0))
theorem run_lw4_IndexNobody (fuel : Nat) (a1 : ByteArray) (a2 : Int) (a3 : Int) (a4 : Int) (r : Bool) (h : lw4_IndexNobody fuel a1 a2 a3 a4 = some r) : Run Try.prog (.call 7 [.str a1, .int .u8 a2, I6 a3, I6 a4] (.bool r)) := by
  refine call_of_W Try.func7 rfl (by kernel_rfl) (env0 := [(0, .str a1), (1, .int .u8 a2), (2, I6 a3), (3, I6 a4)]) (by kernel_rfl) ?_
  unfold lw4_IndexNobody at h
  refine W.seq ?_
  refine W.regT [0, 1, 2, 3] [] [] [] (e2 := [(0, .str a1), (1, .int .u8 a2), (2, I6 a3), (3, I6 a4)]) (by kernel_rfl) (by kernel_rfl) (fun _ h => h) ?_
  refine W.seq ?_
  refine W.join (σ := Unit) (fun s => []) (fun s => (lw4_IndexNobody_j6 fuel) = some r) (fun s h => ?_) (fun hK6 => ?_)
  · have h : (lw4_IndexNobody_j6 fuel) = some r := h
    unfold lw4_IndexNobody_j6 at h
    refine W.seq ?_
    refine W.region (by kernel_rfl) ?_
    obtain ⟨w38, hw38, h⟩ := bind_some h
    refine WO.callK 0 (F := 18) (l := []) (C := []) (r := .bool w38) (by kernel_rfl) (by kernel_rfl) (run_lw4_awake fuel w38 hw38) (e1 := [(87, .bool w38)]) (by kernel_rfl) ?_
    refine WO.fin [8] [] [] [] (e2 := [(8, .bool w38)]) (by kernel_rfl) (fun _ h => h) ?_
    refine W.weak [8] [] [] [] (env' := [(8, .bool w38)]) (by kernel_rfl) ?_
    have hr : aresults Try.prog Try.f7 [(8, .bool w38)] = some (.bool w38) := by kernel_rfl
    cases h
    exact W.ret hr
  refine W.seq ?_
  refine W.region (by kernel_rfl) ?_
  refine WO.steps 2 (e1 := [(0, .str a1), (1, .int .u8 a2), (2, I6 a3), (3, I6 a4), (19, .agg [.nilp, .int .i64 0, .nils, .nils]), (20, .box [.nilp, .int .i64 0, .nils, .nils])]) (by kernel_rfl) ?_
  refine WO.mv [.nls 20 2 3 1 82002] (env' := [(0, .str a1), (1, .int .u8 a2), (2, I6 a3), (3, I6 a4), (19, .agg [.nilp, .int .i64 0, .nils, .nils]), (20, .box [.nilp, .int .i64 0, l3 (some 82002) ([] : (List Int)), .nils])]) (by kernel_rfl) ?_
  refine WO.mv [.nls 20 3 3 1 82003] (env' := [(0, .str a1), (1, .int .u8 a2), (2, I6 a3), (3, I6 a4), (19, .agg [.nilp, .int .i64 0, .nils, .nils]), (20, .box [.nilp, .int .i64 0, l3 (some 82002) ([] : (List Int)), l3 (some 82003) ([] : (List Int))])]) (by kernel_rfl) ?_
  refine WO.mv [.frz 20] (env' := [(0, .str a1), (1, .int .u8 a2), (2, I6 a3), (3, I6 a4), (19, .agg [.nilp, .int .i64 0, .nils, .nils]), (20, .ptr (.agg [.nilp, .int .i64 0, l3 none ([] : (List Int)), l3 none ([] : (List Int))]))]) (by kernel_rfl) ?_
  refine WO.steps 1 (e1 := [(0, .str a1), (1, .int .u8 a2), (2, I6 a3), (3, I6 a4), (19, .agg [.nilp, .int .i64 0, .nils, .nils]), (20, .ptr (.agg [.nilp, .int .i64 0, l3 none ([] : (List Int)), l3 none ([] : (List Int))])), (21, l42 (some 21) [none, (some (ixIndex.mk () 0 ([] : (List Int)) ([] : (List Int))))])]) (by kernel_rfl) ?_
  refine WO.pureK 0 (some (I6 ((List.map (ep e_ixIndex) [none, (some (ixIndex.mk () 0 ([] : (List Int)) ([] : (List Int))))]).length : Int))) (v := I6 ([none, (some (ixIndex.mk () 0 ([] : (List Int)) ([] : (List Int))))].length : Int)) (by kernel_rfl) (by rw [List.length_map]) (e1 := [(0, .str a1), (1, .int .u8 a2), (2, I6 a3), (3, I6 a4), (19, .agg [.nilp, .int .i64 0, .nils, .nils]), (20, .ptr (.agg [.nilp, .int .i64 0, l3 none ([] : (List Int)), l3 none ([] : (List Int))])), (21, l42 (some 21) [none, (some (ixIndex.mk () 0 ([] : (List Int)) ([] : (List Int))))]), (22, I6 ([none, (some (ixIndex.mk () 0 ([] : (List Int)) ([] : (List Int))))].length : Int))]) (by kernel_rfl) ?_
  refine WO.fin [0, 1, 2, 3, 21, 22, 23] [] [] [] (e2 := [(0, .str a1), (1, .int .u8 a2), (2, I6 a3), (3, I6 a4), (21, l42 (some 21) [none, (some (ixIndex.mk () 0 ([] : (List Int)) ([] : (List Int))))]), (22, I6 ([none, (some (ixIndex.mk () 0 ([] : (List Int)) ([] : (List Int))))].length : Int)), (23, .int .i64 0)]) (by kernel_rfl) (fun _ h => h) ?_
  refine W.block ?_
  obtain ⟨hl1, h⟩ := chk_some h
  refine W.weak [0, 1, 2, 3, 21, 22, 23] [] [] [] (env' := [(0, .str a1), (1, .int .u8 a2), (2, I6 a3), (3, I6 a4), (21, l42 (some 21) [none, (some (ixIndex.mk () 0 ([] : (List Int)) ([] : (List Int))))]), (22, I6 ([none, (some (ixIndex.mk () 0 ([] : (List Int)) ([] : (List Int))))].length : Int)), (23, I6 ((0 : Nat) : Int))]) (by kernel_rfl) ?_
  refine W.range (σ := Unit) [none, (some (ixIndex.mk () 0 ([] : (List Int)) ([] : (List Int))))] (fun k1 s => [(0, .str a1), (1, .int .u8 a2), (2, I6 a3), (3, I6 a4), (21, l42 (some 21) [none, (some (ixIndex.mk () 0 ([] : (List Int)) ([] : (List Int))))]), (22, I6 ([none, (some (ixIndex.mk () 0 ([] : (List Int)) ([] : (List Int))))].length : Int)), (23, I6 (k1 : Int))]) (fun r0 k0 s => lw4_IndexNobody_l1 fuel a1 a2 a3 a4 (lw4_IndexNobody_j6 fuel) r0 k0 = some r) (fun s h => ?_) (fun x1 r1 k1 s hx1 hk1 h hN1 => ?_) () h
  · have h : lw4_IndexNobody_l1 fuel a1 a2 a3 a4 (lw4_IndexNobody_j6 fuel) [] ([none, (some (ixIndex.mk () 0 ([] : (List Int)) ([] : (List Int))))]).length = some r := h
    rw [lw4_IndexNobody_l1.eq_1] at h
    refine W.seq ?_
    refine W.region (by kernel_rfl) ?_
    refine WO.pureK 0 (some (.bool (decide ((([none, (some (ixIndex.mk () 0 ([] : (List Int)) ([] : (List Int))))]).length : Int) < ([none, (some (ixIndex.mk () 0 ([] : (List Int)) ([] : (List Int))))].length : Int))))) (v := .bool false) (by kernel_rfl) (by rw [lt_false (l := [none, (some (ixIndex.mk () 0 ([] : (List Int)) ([] : (List Int))))])]) (e1 := [(0, .str a1), (1, .int .u8 a2), (2, I6 a3), (3, I6 a4), (21, l42 (some 21) [none, (some (ixIndex.mk () 0 ([] : (List Int)) ([] : (List Int))))]), (22, I6 ([none, (some (ixIndex.mk () 0 ([] : (List Int)) ([] : (List Int))))].length : Int)), (23, I6 (([none, (some (ixIndex.mk () 0 ([] : (List Int)) ([] : (List Int))))]).length : Int)), (24, .bool false)]) (by kernel_rfl) ?_
    refine WO.fin ([0, 1, 2, 3, 21, 22, 23, 24]) [] [] [] (e2 := [(0, .str a1), (1, .int .u8 a2), (2, I6 a3), (3, I6 a4), (21, l42 (some 21) [none, (some (ixIndex.mk () 0 ([] : (List Int)) ([] : (List Int))))]), (22, I6 ([none, (some (ixIndex.mk () 0 ([] : (List Int)) ([] : (List Int))))].length : Int)), (23, I6 (([none, (some (ixIndex.mk () 0 ([] : (List Int)) ([] : (List Int))))]).length : Int)), (24, .bool false)]) (by kernel_rfl) (fun _ h => h) ?_
    refine W.seq ?_
    refine W.condB false (by kernel_rfl) (fun h => Bool.noConfusion h) (fun _ => ?_)
    refine W.exit ?_
    refine W.weak [] [] [] [] (env' := []) (by kernel_rfl) ?_
    exact hK6 () h
  · have h : lw4_IndexNobody_l1 fuel a1 a2 a3 a4 (lw4_IndexNobody_j6 fuel) (x1 :: r1) k1 = some r := h
    rw [lw4_IndexNobody_l1.eq_2] at h
    refine W.seq ?_
    refine W.region (by kernel_rfl) ?_
    refine WO.pureK 0 (some (.bool (decide ((k1 : Int) < ([none, (some (ixIndex.mk () 0 ([] : (List Int)) ([] : (List Int))))].length : Int))))) (v := .bool true) (by kernel_rfl) (by rw [lt_true hk1]) (e1 := [(0, .str a1), (1, .int .u8 a2), (2, I6 a3), (3, I6 a4), (21, l42 (some 21) [none, (some (ixIndex.mk () 0 ([] : (List Int)) ([] : (List Int))))]), (22, I6 ([none, (some (ixIndex.mk () 0 ([] : (List Int)) ([] : (List Int))))].length : Int)), (23, I6 (k1 : Int)), (24, .bool true)]) (by kernel_rfl) ?_
    refine WO.fin ([0, 1, 2, 3, 21, 22, 23, 24]) [] [] [] (e2 := [(0, .str a1), (1, .int .u8 a2), (2, I6 a3), (3, I6 a4), (21, l42 (some 21) [none, (some (ixIndex.mk () 0 ([] : (List Int)) ([] : (List Int))))]), (22, I6 ([none, (some (ixIndex.mk () 0 ([] : (List Int)) ([] : (List Int))))].length : Int)), (23, I6 (k1 : Int)), (24, .bool true)]) (by kernel_rfl) (fun _ h => h) ?_
    refine W.seq ?_
    refine W.condB true (by kernel_rfl) (fun _ => ?_) (fun h => Bool.noConfusion h)
    refine W.skip ?_
    refine W.weak [0, 1, 2, 3, 21, 22, 23] [] [] [] (env' := [(0, .str a1), (1, .int .u8 a2), (2, I6 a3), (3, I6 a4), (21, l42 (some 21) [none, (some (ixIndex.mk () 0 ([] : (List Int)) ([] : (List Int))))]), (22, I6 ([none, (some (ixIndex.mk () 0 ([] : (List Int)) ([] : (List Int))))].length : Int)), (23, I6 (k1 : Int))]) (by kernel_rfl) ?_
    refine W.seq ?_
    refine W.join (σ := Unit) (fun s => [(0, .str a1), (1, .int .u8 a2), (2, I6 a3), (3, I6 a4), (21, l42 (some 21) [none, (some (ixIndex.mk () 0 ([] : (List Int)) ([] : (List Int))))]), (22, I6 ([none, (some (ixIndex.mk () 0 ([] : (List Int)) ([] : (List Int))))].length : Int)), (23, I6 (k1 : Int))]) (fun s => (lw4_IndexNobody_j8 (lw4_IndexNobody_l1 fuel a1 a2 a3 a4 (lw4_IndexNobody_j6 fuel) r1 (k1 + 1))) = some r) (fun s h => ?_) (fun hK8 => ?_)
    · have h : (lw4_IndexNobody_j8 (lw4_IndexNobody_l1 fuel a1 a2 a3 a4 (lw4_IndexNobody_j6 fuel) r1 (k1 + 1))) = some r := h
      unfold lw4_IndexNobody_j8 at h
      refine W.region (by kernel_rfl) ?_
      refine WO.pureK 0 (some (I6 (IntKind.wrap .i64 ((k1 : Int) + 1)))) (v := I6 ((k1 + 1 : Nat) : Int)) (by kernel_rfl) (by rw [wrap_succ hl1 hk1]) (e1 := [(0, .str a1), (1, .int .u8 a2), (2, I6 a3), (3, I6 a4), (21, l42 (some 21) [none, (some (ixIndex.mk () 0 ([] : (List Int)) ([] : (List Int))))]), (22, I6 ([none, (some (ixIndex.mk () 0 ([] : (List Int)) ([] : (List Int))))].length : Int)), (23, I6 (k1 : Int)), (86, I6 ((k1 + 1 : Nat) : Int))]) (by kernel_rfl) ?_
      refine WO.fin [0, 1, 2, 3, 21, 22, 23] [] [] [] (e2 := [(0, .str a1), (1, .int .u8 a2), (2, I6 a3), (3, I6 a4), (21, l42 (some 21) [none, (some (ixIndex.mk () 0 ([] : (List Int)) ([] : (List Int))))]), (22, I6 ([none, (some (ixIndex.mk () 0 ([] : (List Int)) ([] : (List Int))))].length : Int)), (23, I6 ((k1 + 1 : Nat) : Int))]) (by kernel_rfl) (fun _ h => h) ?_
      exact hN1 () h
    refine W.block ?_
    refine W.seq ?_
    refine W.region (by kernel_rfl) ?_
    refine WO.pureK 0 (if (0 : Int) ≤ (k1 : Int) then ((List.map (ep e_ixIndex) [none, (some (ixIndex.mk () 0 ([] : (List Int)) ([] : (List Int))))])[Int.toNat (k1 : Int)]?).map AV.ptr else none) (v := .ptr (ep e_ixIndex x1)) (by kernel_rfl) (idx_nat (f := (ep e_ixIndex)) hx1) (e1 := [(0, .str a1), (1, .int .u8 a2), (2, I6 a3), (3, I6 a4), (21, l42 (some 21) [none, (some (ixIndex.mk () 0 ([] : (List Int)) ([] : (List Int))))]), (22, I6 ([none, (some (ixIndex.mk () 0 ([] : (List Int)) ([] : (List Int))))].length : Int)), (23, I6 (k1 : Int)), (25, .ptr (ep e_ixIndex x1))]) (by kernel_rfl) ?_
    rcases x1 with _ | q10
    · dsimp only [ocase] at h
      refine WO.fin [0, 1, 2, 3, 10, 21, 22, 23] [] [] [] (e2 := [(0, .str a1), (1, .int .u8 a2), (2, I6 a3), (3, I6 a4), (10, .nilp), (21, l42 (some 21) [none, (some (ixIndex.mk () 0 ([] : (List Int)) ([] : (List Int))))]), (22, I6 ([none, (some (ixIndex.mk () 0 ([] : (List Int)) ([] : (List Int))))].length : Int)), (23, I6 (k1 : Int))]) (by kernel_rfl) (fun _ h => h) ?_
      refine W.seq ?_
      refine W.region (by kernel_rfl) ?_
      obtain ⟨w12, hw12, h⟩ := bind_some h
      refine WO.callK 2 (F := 14) (l := [.str a1]) (C := []) (r := .str w12) (by kernel_rfl) (by kernel_rfl) (run_lw4_few a1 w12 hw12) (e1 := [(0, .str a1), (1, .int .u8 a2), (2, I6 a3), (3, I6 a4), (10, .nilp), (21, l42 (some 21) [none, (some (ixIndex.mk () 0 ([] : (List Int)) ([] : (List Int))))]), (22, I6 ([none, (some (ixIndex.mk () 0 ([] : (List Int)) ([] : (List Int))))].length : Int)), (23, I6 (k1 : Int)), (28, .nilp), (29, .str a1), (30, .str w12)]) (by kernel_rfl) ?_
      obtain ⟨w13, hw13, h⟩ := bind_some h
      refine WO.callK 0 (F := 32) (l := [.nilp, .str w12]) (C := []) (r := .tup [I6 w13.1, I6 w13.2]) (by kernel_rfl) (by kernel_rfl) (run_ix_Index_Count none w12 w13 hw13) (e1 := [(0, .str a1), (1, .int .u8 a2), (2, I6 a3), (3, I6 a4), (10, .nilp), (21, l42 (some 21) [none, (some (ixIndex.mk () 0 ([] : (List Int)) ([] : (List Int))))]), (22, I6 ([none, (some (ixIndex.mk () 0 ([] : (List Int)) ([] : (List Int))))].length : Int)), (23, I6 (k1 : Int)), (28, .nilp), (29, .str a1), (30, .str w12), (31, .tup [I6 w13.1, I6 w13.2])]) (by kernel_rfl) ?_
      refine WO.fin [0, 1, 2, 3, 10, 11, 12, 21, 22, 23] [] [] [] (e2 := [(0, .str a1), (1, .int .u8 a2), (2, I6 a3), (3, I6 a4), (10, .nilp), (11, I6 w13.1), (12, I6 w13.2), (21, l42 (some 21) [none, (some (ixIndex.mk () 0 ([] : (List Int)) ([] : (List Int))))]), (22, I6 ([none, (some (ixIndex.mk () 0 ([] : (List Int)) ([] : (List Int))))].length : Int)), (23, I6 (k1 : Int))]) (by kernel_rfl) (fun _ h => h) ?_
      refine W.seq ?_
      refine W.region (by kernel_rfl) ?_
      obtain ⟨w15, hw15, h⟩ := bind_some h
      refine WO.callK 2 (F := 14) (l := [.str a1]) (C := []) (r := .str w15) (by kernel_rfl) (by kernel_rfl) (run_lw4_few a1 w15 hw15) (e1 := [(0, .str a1), (1, .int .u8 a2), (2, I6 a3), (3, I6 a4), (10, .nilp), (11, I6 w13.1), (12, I6 w13.2), (21, l42 (some 21) [none, (some (ixIndex.mk () 0 ([] : (List Int)) ([] : (List Int))))]), (22, I6 ([none, (some (ixIndex.mk () 0 ([] : (List Int)) ([] : (List Int))))].length : Int)), (23, I6 (k1 : Int)), (35, .nilp), (36, .str a1), (37, .str w15)]) (by kernel_rfl) ?_
      obtain ⟨w16, hw16, h⟩ := bind_some h
      refine WO.callK 0 (F := 33) (l := [.nilp, .str w15]) (C := []) (r := .tup [l3 none w16.1, I6 w16.2]) (by kernel_rfl) (by kernel_rfl) (run_ix_Index_Locate none w15 w16 hw16) (e1 := [(0, .str a1), (1, .int .u8 a2), (2, I6 a3), (3, I6 a4), (10, .nilp), (11, I6 w13.1), (12, I6 w13.2), (21, l42 (some 21) [none, (some (ixIndex.mk () 0 ([] : (List Int)) ([] : (List Int))))]), (22, I6 ([none, (some (ixIndex.mk () 0 ([] : (List Int)) ([] : (List Int))))].length : Int)), (23, I6 (k1 : Int)), (35, .nilp), (36, .str a1), (37, .str w15), (38, .tup [l3 none w16.1, I6 w16.2])]) (by kernel_rfl) ?_
      refine WO.fin [0, 1, 2, 3, 10, 11, 12, 13, 14, 21, 22, 23] [] [] [] (e2 := [(0, .str a1), (1, .int .u8 a2), (2, I6 a3), (3, I6 a4), (10, .nilp), (11, I6 w13.1), (12, I6 w13.2), (13, l3 none w16.1), (14, I6 w16.2), (21, l42 (some 21) [none, (some (ixIndex.mk () 0 ([] : (List Int)) ([] : (List Int))))]), (22, I6 ([none, (some (ixIndex.mk () 0 ([] : (List Int)) ([] : (List Int))))].length : Int)), (23, I6 (k1 : Int))]) (by kernel_rfl) (fun _ h => h) ?_
      refine W.seq ?_
      refine W.region (by kernel_rfl) ?_
      obtain ⟨w18, hw18, h⟩ := bind_some h
      refine WO.callK 3 (F := 34) (l := [.nilp, .int .u8 a2, I6 a3]) (C := []) (r := .tup [I6 w18.1, I6 w18.2]) (by kernel_rfl) (by kernel_rfl) (run_ix_Index_Rank none a2 a3 w18 hw18) (e1 := [(0, .str a1), (1, .int .u8 a2), (2, I6 a3), (3, I6 a4), (10, .nilp), (11, I6 w13.1), (12, I6 w13.2), (13, l3 none w16.1), (14, I6 w16.2), (21, l42 (some 21) [none, (some (ixIndex.mk () 0 ([] : (List Int)) ([] : (List Int))))]), (22, I6 ([none, (some (ixIndex.mk () 0 ([] : (List Int)) ([] : (List Int))))].length : Int)), (23, I6 (k1 : Int)), (42, .nilp), (43, .int .u8 a2), (44, I6 a3), (45, .tup [I6 w18.1, I6 w18.2])]) (by kernel_rfl) ?_
      refine WO.fin [0, 1, 2, 3, 10, 11, 12, 13, 14, 15, 16, 21, 22, 23] [] [] [] (e2 := [(0, .str a1), (1, .int .u8 a2), (2, I6 a3), (3, I6 a4), (10, .nilp), (11, I6 w13.1), (12, I6 w13.2), (13, l3 none w16.1), (14, I6 w16.2), (15, I6 w18.1), (16, I6 w18.2), (21, l42 (some 21) [none, (some (ixIndex.mk () 0 ([] : (List Int)) ([] : (List Int))))]), (22, I6 ([none, (some (ixIndex.mk () 0 ([] : (List Int)) ([] : (List Int))))].length : Int)), (23, I6 (k1 : Int))]) (by kernel_rfl) (fun _ h => h) ?_
      refine W.seq ?_
      refine W.region (by kernel_rfl) ?_
      obtain ⟨w20, hw20, h⟩ := bind_some h
      refine WO.callK 3 (F := 35) (l := [.nilp, I6 a3, I6 a4]) (C := []) (r := .tup [.str w20.1, I6 w20.2]) (by kernel_rfl) (by kernel_rfl) (run_ix_Index_Extract fuel none a3 a4 w20 hw20) (e1 := [(0, .str a1), (1, .int .u8 a2), (2, I6 a3), (3, I6 a4), (10, .nilp), (11, I6 w13.1), (12, I6 w13.2), (13, l3 none w16.1), (14, I6 w16.2), (15, I6 w18.1), (16, I6 w18.2), (21, l42 (some 21) [none, (some (ixIndex.mk () 0 ([] : (List Int)) ([] : (List Int))))]), (22, I6 ([none, (some (ixIndex.mk () 0 ([] : (List Int)) ([] : (List Int))))].length : Int)), (23, I6 (k1 : Int)), (49, .nilp), (50, I6 a3), (51, I6 a4), (52, .tup [.str w20.1, I6 w20.2])]) (by kernel_rfl) ?_
      refine WO.fin [0, 1, 2, 3, 11, 12, 13, 14, 15, 16, 17, 18, 21, 22, 23] [] [] [] (e2 := [(0, .str a1), (1, .int .u8 a2), (2, I6 a3), (3, I6 a4), (11, I6 w13.1), (12, I6 w13.2), (13, l3 none w16.1), (14, I6 w16.2), (15, I6 w18.1), (16, I6 w18.2), (17, .str w20.1), (18, I6 w20.2), (21, l42 (some 21) [none, (some (ixIndex.mk () 0 ([] : (List Int)) ([] : (List Int))))]), (22, I6 ([none, (some (ixIndex.mk () 0 ([] : (List Int)) ([] : (List Int))))].length : Int)), (23, I6 (k1 : Int))]) (by kernel_rfl) (fun _ h => h) ?_
      refine W.seq ?_
      refine W.join (σ := (Bool)) (fun s => [(0, .str a1), (1, .int .u8 a2), (2, I6 a3), (3, I6 a4), (21, l42 (some 21) [none, (some (ixIndex.mk () 0 ([] : (List Int)) ([] : (List Int))))]), (22, I6 ([none, (some (ixIndex.mk () 0 ([] : (List Int)) ([] : (List Int))))].length : Int)), (23, I6 (k1 : Int)), (85, .bool s)]) (fun s => (lw4_IndexNobody_j21 (lw4_IndexNobody_j8 (lw4_IndexNobody_l1 fuel a1 a2 a3 a4 (lw4_IndexNobody_j6 fuel) r1 (k1 + 1)))) s = some r) (fun s h => ?_) (fun hK21 => ?_)
      · obtain ⟨v22, rfl⟩ : ∃ x, x = s := ⟨s, rfl⟩
        have h : (lw4_IndexNobody_j21 (lw4_IndexNobody_j8 (lw4_IndexNobody_l1 fuel a1 a2 a3 a4 (lw4_IndexNobody_j6 fuel) r1 (k1 + 1)))) v22 = some r := h
        unfold lw4_IndexNobody_j21 at h
        refine W.condB v22 (by kernel_rfl) (fun hb => ?_) (fun hb => ?_)
        · replace h := cond_t hb h
          refine W.seq ?_
          refine W.regT [8] [] [] [] (e2 := [(8, .bool false)]) (by kernel_rfl) (by kernel_rfl) (fun _ h => h) ?_
          refine W.weak [8] [] [] [] (env' := [(8, .bool false)]) (by kernel_rfl) ?_
          have hr : aresults Try.prog Try.f7 [(8, .bool false)] = some (.bool false) := by kernel_rfl
          cases h
          exact W.ret hr
        replace h := cond_f hb h
        refine W.skip ?_
        refine W.weak [0, 1, 2, 3, 21, 22, 23] [] [] [] (env' := [(0, .str a1), (1, .int .u8 a2), (2, I6 a3), (3, I6 a4), (21, l42 (some 21) [none, (some (ixIndex.mk () 0 ([] : (List Int)) ([] : (List Int))))]), (22, I6 ([none, (some (ixIndex.mk () 0 ([] : (List Int)) ([] : (List Int))))].length : Int)), (23, I6 (k1 : Int))]) (by kernel_rfl) ?_
        exact hK8 () h
      refine W.region (by kernel_rfl) ?_
      refine WO.boolK 3 (fun b => [(0, .str a1), (1, .int .u8 a2), (2, I6 a3), (3, I6 a4), (11, I6 w13.1), (12, I6 w13.2), (13, l3 none w16.1), (14, I6 w16.2), (15, I6 w18.1), (16, I6 w18.2), (17, .str w20.1), (18, I6 w20.2), (21, l42 (some 21) [none, (some (ixIndex.mk () 0 ([] : (List Int)) ([] : (List Int))))]), (22, I6 ([none, (some (ixIndex.mk () 0 ([] : (List Int)) ([] : (List Int))))].length : Int)), (23, I6 (k1 : Int)), (55, I6 w13.1), (56, .bool b), (57, .bool b)]) (w13.1 != 0) (by kernel_rfl) (fun hb => ?_) (fun hb => ?_)
      · replace h := cond_t hb h
        refine WO.fin [0, 1, 2, 3, 21, 22, 23, 85] [] [] [] (e2 := [(0, .str a1), (1, .int .u8 a2), (2, I6 a3), (3, I6 a4), (21, l42 (some 21) [none, (some (ixIndex.mk () 0 ([] : (List Int)) ([] : (List Int))))]), (22, I6 ([none, (some (ixIndex.mk () 0 ([] : (List Int)) ([] : (List Int))))].length : Int)), (23, I6 (k1 : Int)), (85, .bool true)]) (by kernel_rfl) (fun _ h => h) ?_
        exact hK21 true h
      replace h := cond_f hb h
      refine WO.pureK 1 (some (I6 ((List.map (AV.int .i64) w16.1).length : Int))) (v := I6 (w16.1.length : Int)) (by kernel_rfl) (by rw [List.length_map]) (e1 := [(0, .str a1), (1, .int .u8 a2), (2, I6 a3), (3, I6 a4), (11, I6 w13.1), (12, I6 w13.2), (13, l3 none w16.1), (14, I6 w16.2), (15, I6 w18.1), (16, I6 w18.2), (17, .str w20.1), (18, I6 w20.2), (21, l42 (some 21) [none, (some (ixIndex.mk () 0 ([] : (List Int)) ([] : (List Int))))]), (22, I6 ([none, (some (ixIndex.mk () 0 ([] : (List Int)) ([] : (List Int))))].length : Int)), (23, I6 (k1 : Int)), (55, I6 w13.1), (56, .bool false), (57, .bool false), (58, l3 none w16.1), (59, I6 (w16.1.length : Int))]) (by kernel_rfl) ?_
      refine WO.boolK 3 (fun b => [(0, .str a1), (1, .int .u8 a2), (2, I6 a3), (3, I6 a4), (11, I6 w13.1), (12, I6 w13.2), (13, l3 none w16.1), (14, I6 w16.2), (15, I6 w18.1), (16, I6 w18.2), (17, .str w20.1), (18, I6 w20.2), (21, l42 (some 21) [none, (some (ixIndex.mk () 0 ([] : (List Int)) ([] : (List Int))))]), (22, I6 ([none, (some (ixIndex.mk () 0 ([] : (List Int)) ([] : (List Int))))].length : Int)), (23, I6 (k1 : Int)), (55, I6 w13.1), (56, .bool false), (57, .bool false), (58, l3 none w16.1), (59, I6 (w16.1.length : Int)), (60, .bool b), (61, .bool b), (62, .bool b)]) ((w16.1.length : Int) != 0) (by kernel_rfl) (fun hb => ?_) (fun hb => ?_)
      · replace h := cond_t hb h
        refine WO.fin [0, 1, 2, 3, 21, 22, 23, 85] [] [] [] (e2 := [(0, .str a1), (1, .int .u8 a2), (2, I6 a3), (3, I6 a4), (21, l42 (some 21) [none, (some (ixIndex.mk () 0 ([] : (List Int)) ([] : (List Int))))]), (22, I6 ([none, (some (ixIndex.mk () 0 ([] : (List Int)) ([] : (List Int))))].length : Int)), (23, I6 (k1 : Int)), (85, .bool true)]) (by kernel_rfl) (fun _ h => h) ?_
        exact hK21 true h
      replace h := cond_f hb h
      refine WO.boolK 4 (fun b => [(0, .str a1), (1, .int .u8 a2), (2, I6 a3), (3, I6 a4), (11, I6 w13.1), (12, I6 w13.2), (13, l3 none w16.1), (14, I6 w16.2), (15, I6 w18.1), (16, I6 w18.2), (17, .str w20.1), (18, I6 w20.2), (21, l42 (some 21) [none, (some (ixIndex.mk () 0 ([] : (List Int)) ([] : (List Int))))]), (22, I6 ([none, (some (ixIndex.mk () 0 ([] : (List Int)) ([] : (List Int))))].length : Int)), (23, I6 (k1 : Int)), (55, I6 w13.1), (56, .bool false), (57, .bool false), (58, l3 none w16.1), (59, I6 (w16.1.length : Int)), (60, .bool false), (61, .bool false), (62, .bool false), (63, I6 w18.1), (64, .bool b), (65, .bool b), (66, .bool b)]) (w18.1 != 0) (by kernel_rfl) (fun hb => ?_) (fun hb => ?_)
      · replace h := cond_t hb h
        refine WO.fin [0, 1, 2, 3, 21, 22, 23, 85] [] [] [] (e2 := [(0, .str a1), (1, .int .u8 a2), (2, I6 a3), (3, I6 a4), (21, l42 (some 21) [none, (some (ixIndex.mk () 0 ([] : (List Int)) ([] : (List Int))))]), (22, I6 ([none, (some (ixIndex.mk () 0 ([] : (List Int)) ([] : (List Int))))].length : Int)), (23, I6 (k1 : Int)), (85, .bool true)]) (by kernel_rfl) (fun _ h => h) ?_
        exact hK21 true h
      replace h := cond_f hb h
      refine WO.boolK 4 (fun b => [(0, .str a1), (1, .int .u8 a2), (2, I6 a3), (3, I6 a4), (11, I6 w13.1), (12, I6 w13.2), (13, l3 none w16.1), (14, I6 w16.2), (15, I6 w18.1), (16, I6 w18.2), (17, .str w20.1), (18, I6 w20.2), (21, l42 (some 21) [none, (some (ixIndex.mk () 0 ([] : (List Int)) ([] : (List Int))))]), (22, I6 ([none, (some (ixIndex.mk () 0 ([] : (List Int)) ([] : (List Int))))].length : Int)), (23, I6 (k1 : Int)), (55, I6 w13.1), (56, .bool false), (57, .bool false), (58, l3 none w16.1), (59, I6 (w16.1.length : Int)), (60, .bool false), (61, .bool false), (62, .bool false), (63, I6 w18.1), (64, .bool false), (65, .bool false), (66, .bool false), (67, .str w20.1), (68, .bool b), (69, .bool b), (70, .bool b)]) (!(w20.1.toList == (ByteArray.mk #[]).toList)) (by kernel_rfl) (fun hb => ?_) (fun hb => ?_)
      · replace h := cond_t hb h
        refine WO.fin [0, 1, 2, 3, 21, 22, 23, 85] [] [] [] (e2 := [(0, .str a1), (1, .int .u8 a2), (2, I6 a3), (3, I6 a4), (21, l42 (some 21) [none, (some (ixIndex.mk () 0 ([] : (List Int)) ([] : (List Int))))]), (22, I6 ([none, (some (ixIndex.mk () 0 ([] : (List Int)) ([] : (List Int))))].length : Int)), (23, I6 (k1 : Int)), (85, .bool true)]) (by kernel_rfl) (fun _ h => h) ?_
        exact hK21 true h
      replace h := cond_f hb h
      refine WO.boolK 4 (fun b => [(0, .str a1), (1, .int .u8 a2), (2, I6 a3), (3, I6 a4), (11, I6 w13.1), (12, I6 w13.2), (13, l3 none w16.1), (14, I6 w16.2), (15, I6 w18.1), (16, I6 w18.2), (17, .str w20.1), (18, I6 w20.2), (21, l42 (some 21) [none, (some (ixIndex.mk () 0 ([] : (List Int)) ([] : (List Int))))]), (22, I6 ([none, (some (ixIndex.mk () 0 ([] : (List Int)) ([] : (List Int))))].length : Int)), (23, I6 (k1 : Int)), (55, I6 w13.1), (56, .bool false), (57, .bool false), (58, l3 none w16.1), (59, I6 (w16.1.length : Int)), (60, .bool false), (61, .bool false), (62, .bool false), (63, I6 w18.1), (64, .bool false), (65, .bool false), (66, .bool false), (67, .str w20.1), (68, .bool false), (69, .bool false), (70, .bool false), (71, I6 w13.2), (72, .bool b), (73, .bool b), (74, .bool b)]) (w13.2 != 1) (by kernel_rfl) (fun hb => ?_) (fun hb => ?_)
      · replace h := cond_t hb h
        refine WO.fin [0, 1, 2, 3, 21, 22, 23, 85] [] [] [] (e2 := [(0, .str a1), (1, .int .u8 a2), (2, I6 a3), (3, I6 a4), (21, l42 (some 21) [none, (some (ixIndex.mk () 0 ([] : (List Int)) ([] : (List Int))))]), (22, I6 ([none, (some (ixIndex.mk () 0 ([] : (List Int)) ([] : (List Int))))].length : Int)), (23, I6 (k1 : Int)), (85, .bool true)]) (by kernel_rfl) (fun _ h => h) ?_
        exact hK21 true h
      replace h := cond_f hb h
      refine WO.boolK 4 (fun b => [(0, .str a1), (1, .int .u8 a2), (2, I6 a3), (3, I6 a4), (11, I6 w13.1), (12, I6 w13.2), (13, l3 none w16.1), (14, I6 w16.2), (15, I6 w18.1), (16, I6 w18.2), (17, .str w20.1), (18, I6 w20.2), (21, l42 (some 21) [none, (some (ixIndex.mk () 0 ([] : (List Int)) ([] : (List Int))))]), (22, I6 ([none, (some (ixIndex.mk () 0 ([] : (List Int)) ([] : (List Int))))].length : Int)), (23, I6 (k1 : Int)), (55, I6 w13.1), (56, .bool false), (57, .bool false), (58, l3 none w16.1), (59, I6 (w16.1.length : Int)), (60, .bool false), (61, .bool false), (62, .bool false), (63, I6 w18.1), (64, .bool false), (65, .bool false), (66, .bool false), (67, .str w20.1), (68, .bool false), (69, .bool false), (70, .bool false), (71, I6 w13.2), (72, .bool false), (73, .bool false), (74, .bool false), (75, I6 w16.2), (76, .bool b), (77, .bool b), (78, .bool b)]) (w16.2 != 1) (by kernel_rfl) (fun hb => ?_) (fun hb => ?_)
      · replace h := cond_t hb h
        refine WO.fin [0, 1, 2, 3, 21, 22, 23, 85] [] [] [] (e2 := [(0, .str a1), (1, .int .u8 a2), (2, I6 a3), (3, I6 a4), (21, l42 (some 21) [none, (some (ixIndex.mk () 0 ([] : (List Int)) ([] : (List Int))))]), (22, I6 ([none, (some (ixIndex.mk () 0 ([] : (List Int)) ([] : (List Int))))].length : Int)), (23, I6 (k1 : Int)), (85, .bool true)]) (by kernel_rfl) (fun _ h => h) ?_
        exact hK21 true h
      replace h := cond_f hb h
      refine WO.boolK 4 (fun b => [(0, .str a1), (1, .int .u8 a2), (2, I6 a3), (3, I6 a4), (11, I6 w13.1), (12, I6 w13.2), (13, l3 none w16.1), (14, I6 w16.2), (15, I6 w18.1), (16, I6 w18.2), (17, .str w20.1), (18, I6 w20.2), (21, l42 (some 21) [none, (some (ixIndex.mk () 0 ([] : (List Int)) ([] : (List Int))))]), (22, I6 ([none, (some (ixIndex.mk () 0 ([] : (List Int)) ([] : (List Int))))].length : Int)), (23, I6 (k1 : Int)), (55, I6 w13.1), (56, .bool false), (57, .bool false), (58, l3 none w16.1), (59, I6 (w16.1.length : Int)), (60, .bool false), (61, .bool false), (62, .bool false), (63, I6 w18.1), (64, .bool false), (65, .bool false), (66, .bool false), (67, .str w20.1), (68, .bool false), (69, .bool false), (70, .bool false), (71, I6 w13.2), (72, .bool false), (73, .bool false), (74, .bool false), (75, I6 w16.2), (76, .bool false), (77, .bool false), (78, .bool false), (79, I6 w18.2), (80, .bool b), (81, .bool b), (82, .bool b)]) (w18.2 != 1) (by kernel_rfl) (fun hb => ?_) (fun hb => ?_)
      · replace h := cond_t hb h
        refine WO.fin [0, 1, 2, 3, 21, 22, 23, 85] [] [] [] (e2 := [(0, .str a1), (1, .int .u8 a2), (2, I6 a3), (3, I6 a4), (21, l42 (some 21) [none, (some (ixIndex.mk () 0 ([] : (List Int)) ([] : (List Int))))]), (22, I6 ([none, (some (ixIndex.mk () 0 ([] : (List Int)) ([] : (List Int))))].length : Int)), (23, I6 (k1 : Int)), (85, .bool true)]) (by kernel_rfl) (fun _ h => h) ?_
        exact hK21 true h
      replace h := cond_f hb h
      refine WO.fin [0, 1, 2, 3, 21, 22, 23, 85] [] [] [] (e2 := [(0, .str a1), (1, .int .u8 a2), (2, I6 a3), (3, I6 a4), (21, l42 (some 21) [none, (some (ixIndex.mk () 0 ([] : (List Int)) ([] : (List Int))))]), (22, I6 ([none, (some (ixIndex.mk () 0 ([] : (List Int)) ([] : (List Int))))].length : Int)), (23, I6 (k1 : Int)), (85, .bool (w20.2 != 1))]) (by kernel_rfl) (fun _ h => h) ?_
      exact hK21 (w20.2 != 1) h
    dsimp only [ocase] at h
    refine WO.fin [0, 1, 2, 3, 10, 21, 22, 23] [] [] [] (e2 := [(0, .str a1), (1, .int .u8 a2), (2, I6 a3), (3, I6 a4), (10, .ptr (.agg [.nilp, I6 q10.f_length, l3 none q10.f_starts, l3 none q10.f_places])), (21, l42 (some 21) [none, (some (ixIndex.mk () 0 ([] : (List Int)) ([] : (List Int))))]), (22, I6 ([none, (some (ixIndex.mk () 0 ([] : (List Int)) ([] : (List Int))))].length : Int)), (23, I6 (k1 : Int))]) (by kernel_rfl) (fun _ h => h) ?_
    refine W.seq ?_
    refine W.region (by kernel_rfl) ?_
    obtain ⟨w25, hw25, h⟩ := bind_some h
    refine WO.callK 2 (F := 14) (l := [.str a1]) (C := []) (r := .str w25) (by kernel_rfl) (by kernel_rfl) (run_lw4_few a1 w25 hw25) (e1 := [(0, .str a1), (1, .int .u8 a2), (2, I6 a3), (3, I6 a4), (10, .ptr (.agg [.nilp, I6 q10.f_length, l3 none q10.f_starts, l3 none q10.f_places])), (21, l42 (some 21) [none, (some (ixIndex.mk () 0 ([] : (List Int)) ([] : (List Int))))]), (22, I6 ([none, (some (ixIndex.mk () 0 ([] : (List Int)) ([] : (List Int))))].length : Int)), (23, I6 (k1 : Int)), (28, .ptr (.agg [.nilp, I6 q10.f_length, l3 none q10.f_starts, l3 none q10.f_places])), (29, .str a1), (30, .str w25)]) (by kernel_rfl) ?_
    obtain ⟨w26, hw26, h⟩ := bind_some h
    refine WO.callK 0 (F := 32) (l := [.ptr (.agg [.nilp, I6 q10.f_length, l3 none q10.f_starts, l3 none q10.f_places]), .str w25]) (C := []) (r := .tup [I6 w26.1, I6 w26.2]) (by kernel_rfl) (by kernel_rfl) (run_ix_Index_Count (some q10) w25 w26 hw26) (e1 := [(0, .str a1), (1, .int .u8 a2), (2, I6 a3), (3, I6 a4), (10, .ptr (.agg [.nilp, I6 q10.f_length, l3 none q10.f_starts, l3 none q10.f_places])), (21, l42 (some 21) [none, (some (ixIndex.mk () 0 ([] : (List Int)) ([] : (List Int))))]), (22, I6 ([none, (some (ixIndex.mk () 0 ([] : (List Int)) ([] : (List Int))))].length : Int)), (23, I6 (k1 : Int)), (28, .ptr (.agg [.nilp, I6 q10.f_length, l3 none q10.f_starts, l3 none q10.f_places])), (29, .str a1), (30, .str w25), (31, .tup [I6 w26.1, I6 w26.2])]) (by kernel_rfl) ?_
    refine WO.fin [0, 1, 2, 3, 10, 11, 12, 21, 22, 23] [] [] [] (e2 := [(0, .str a1), (1, .int .u8 a2), (2, I6 a3), (3, I6 a4), (10, .ptr (.agg [.nilp, I6 q10.f_length, l3 none q10.f_starts, l3 none q10.f_places])), (11, I6 w26.1), (12, I6 w26.2), (21, l42 (some 21) [none, (some (ixIndex.mk () 0 ([] : (List Int)) ([] : (List Int))))]), (22, I6 ([none, (some (ixIndex.mk () 0 ([] : (List Int)) ([] : (List Int))))].length : Int)), (23, I6 (k1 : Int))]) (by kernel_rfl) (fun _ h => h) ?_
    refine W.seq ?_
    refine W.region (by kernel_rfl) ?_
    obtain ⟨w28, hw28, h⟩ := bind_some h
    refine WO.callK 2 (F := 14) (l := [.str a1]) (C := []) (r := .str w28) (by kernel_rfl) (by kernel_rfl) (run_lw4_few a1 w28 hw28) (e1 := [(0, .str a1), (1, .int .u8 a2), (2, I6 a3), (3, I6 a4), (10, .ptr (.agg [.nilp, I6 q10.f_length, l3 none q10.f_starts, l3 none q10.f_places])), (11, I6 w26.1), (12, I6 w26.2), (21, l42 (some 21) [none, (some (ixIndex.mk () 0 ([] : (List Int)) ([] : (List Int))))]), (22, I6 ([none, (some (ixIndex.mk () 0 ([] : (List Int)) ([] : (List Int))))].length : Int)), (23, I6 (k1 : Int)), (35, .ptr (.agg [.nilp, I6 q10.f_length, l3 none q10.f_starts, l3 none q10.f_places])), (36, .str a1), (37, .str w28)]) (by kernel_rfl) ?_
    obtain ⟨w29, hw29, h⟩ := bind_some h
    refine WO.callK 0 (F := 33) (l := [.ptr (.agg [.nilp, I6 q10.f_length, l3 none q10.f_starts, l3 none q10.f_places]), .str w28]) (C := []) (r := .tup [l3 none w29.1, I6 w29.2]) (by kernel_rfl) (by kernel_rfl) (run_ix_Index_Locate (some q10) w28 w29 hw29) (e1 := [(0, .str a1), (1, .int .u8 a2), (2, I6 a3), (3, I6 a4), (10, .ptr (.agg [.nilp, I6 q10.f_length, l3 none q10.f_starts, l3 none q10.f_places])), (11, I6 w26.1), (12, I6 w26.2), (21, l42 (some 21) [none, (some (ixIndex.mk () 0 ([] : (List Int)) ([] : (List Int))))]), (22, I6 ([none, (some (ixIndex.mk () 0 ([] : (List Int)) ([] : (List Int))))].length : Int)), (23, I6 (k1 : Int)), (35, .ptr (.agg [.nilp, I6 q10.f_length, l3 none q10.f_starts, l3 none q10.f_places])), (36, .str a1), (37, .str w28), (38, .tup [l3 none w29.1, I6 w29.2])]) (by kernel_rfl) ?_
    refine WO.fin [0, 1, 2, 3, 10, 11, 12, 13, 14, 21, 22, 23] [] [] [] (e2 := [(0, .str a1), (1, .int .u8 a2), (2, I6 a3), (3, I6 a4), (10, .ptr (.agg [.nilp, I6 q10.f_length, l3 none q10.f_starts, l3 none q10.f_places])), (11, I6 w26.1), (12, I6 w26.2), (13, l3 none w29.1), (14, I6 w29.2), (21, l42 (some 21) [none, (some (ixIndex.mk () 0 ([] : (List Int)) ([] : (List Int))))]), (22, I6 ([none, (some (ixIndex.mk () 0 ([] : (List Int)) ([] : (List Int))))].length : Int)), (23, I6 (k1 : Int))]) (by kernel_rfl) (fun _ h => h) ?_
    refine W.seq ?_
    refine W.region (by kernel_rfl) ?_
    obtain ⟨w31, hw31, h⟩ := bind_some h
    refine WO.callK 3 (F := 34) (l := [.ptr (.agg [.nilp, I6 q10.f_length, l3 none q10.f_starts, l3 none q10.f_places]), .int .u8 a2, I6 a3]) (C := []) (r := .tup [I6 w31.1, I6 w31.2]) (by kernel_rfl) (by kernel_rfl) (run_ix_Index_Rank (some q10) a2 a3 w31 hw31) (e1 := [(0, .str a1), (1, .int .u8 a2), (2, I6 a3), (3, I6 a4), (10, .ptr (.agg [.nilp, I6 q10.f_length, l3 none q10.f_starts, l3 none q10.f_places])), (11, I6 w26.1), (12, I6 w26.2), (13, l3 none w29.1), (14, I6 w29.2), (21, l42 (some 21) [none, (some (ixIndex.mk () 0 ([] : (List Int)) ([] : (List Int))))]), (22, I6 ([none, (some (ixIndex.mk () 0 ([] : (List Int)) ([] : (List Int))))].length : Int)), (23, I6 (k1 : Int)), (42, .ptr (.agg [.nilp, I6 q10.f_length, l3 none q10.f_starts, l3 none q10.f_places])), (43, .int .u8 a2), (44, I6 a3), (45, .tup [I6 w31.1, I6 w31.2])]) (by kernel_rfl) ?_
    refine WO.fin [0, 1, 2, 3, 10, 11, 12, 13, 14, 15, 16, 21, 22, 23] [] [] [] (e2 := [(0, .str a1), (1, .int .u8 a2), (2, I6 a3), (3, I6 a4), (10, .ptr (.agg [.nilp, I6 q10.f_length, l3 none q10.f_starts, l3 none q10.f_places])), (11, I6 w26.1), (12, I6 w26.2), (13, l3 none w29.1), (14, I6 w29.2), (15, I6 w31.1), (16, I6 w31.2), (21, l42 (some 21) [none, (some (ixIndex.mk () 0 ([] : (List Int)) ([] : (List Int))))]), (22, I6 ([none, (some (ixIndex.mk () 0 ([] : (List Int)) ([] : (List Int))))].length : Int)), (23, I6 (k1 : Int))]) (by kernel_rfl) (fun _ h => h) ?_
    refine W.seq ?_
    refine W.region (by kernel_rfl) ?_
    obtain ⟨w33, hw33, h⟩ := bind_some h
    refine WO.callK 3 (F := 35) (l := [.ptr (.agg [.nilp, I6 q10.f_length, l3 none q10.f_starts, l3 none q10.f_places]), I6 a3, I6 a4]) (C := []) (r := .tup [.str w33.1, I6 w33.2]) (by kernel_rfl) (by kernel_rfl) (run_ix_Index_Extract fuel (some q10) a3 a4 w33 hw33) (e1 := [(0, .str a1), (1, .int .u8 a2), (2, I6 a3), (3, I6 a4), (10, .ptr (.agg [.nilp, I6 q10.f_length, l3 none q10.f_starts, l3 none q10.f_places])), (11, I6 w26.1), (12, I6 w26.2), (13, l3 none w29.1), (14, I6 w29.2), (15, I6 w31.1), (16, I6 w31.2), (21, l42 (some 21) [none, (some (ixIndex.mk () 0 ([] : (List Int)) ([] : (List Int))))]), (22, I6 ([none, (some (ixIndex.mk () 0 ([] : (List Int)) ([] : (List Int))))].length : Int)), (23, I6 (k1 : Int)), (49, .ptr (.agg [.nilp, I6 q10.f_length, l3 none q10.f_starts, l3 none q10.f_places])), (50, I6 a3), (51, I6 a4), (52, .tup [.str w33.1, I6 w33.2])]) (by kernel_rfl) ?_
    refine WO.fin [0, 1, 2, 3, 11, 12, 13, 14, 15, 16, 17, 18, 21, 22, 23] [] [] [] (e2 := [(0, .str a1), (1, .int .u8 a2), (2, I6 a3), (3, I6 a4), (11, I6 w26.1), (12, I6 w26.2), (13, l3 none w29.1), (14, I6 w29.2), (15, I6 w31.1), (16, I6 w31.2), (17, .str w33.1), (18, I6 w33.2), (21, l42 (some 21) [none, (some (ixIndex.mk () 0 ([] : (List Int)) ([] : (List Int))))]), (22, I6 ([none, (some (ixIndex.mk () 0 ([] : (List Int)) ([] : (List Int))))].length : Int)), (23, I6 (k1 : Int))]) (by kernel_rfl) (fun _ h => h) ?_
    refine W.seq ?_
    refine W.join (σ := (Bool)) (fun s => [(0, .str a1), (1, .int .u8 a2), (2, I6 a3), (3, I6 a4), (21, l42 (some 21) [none, (some (ixIndex.mk () 0 ([] : (List Int)) ([] : (List Int))))]), (22, I6 ([none, (some (ixIndex.mk () 0 ([] : (List Int)) ([] : (List Int))))].length : Int)), (23, I6 (k1 : Int)), (85, .bool s)]) (fun s => (lw4_IndexNobody_j34 (lw4_IndexNobody_j8 (lw4_IndexNobody_l1 fuel a1 a2 a3 a4 (lw4_IndexNobody_j6 fuel) r1 (k1 + 1)))) s = some r) (fun s h => ?_) (fun hK34 => ?_)
    · obtain ⟨v35, rfl⟩ : ∃ x, x = s := ⟨s, rfl⟩
      have h : (lw4_IndexNobody_j34 (lw4_IndexNobody_j8 (lw4_IndexNobody_l1 fuel a1 a2 a3 a4 (lw4_IndexNobody_j6 fuel) r1 (k1 + 1)))) v35 = some r := h
      unfold lw4_IndexNobody_j34 at h
      refine W.condB v35 (by kernel_rfl) (fun hb => ?_) (fun hb => ?_)
      · replace h := cond_t hb h
        refine W.seq ?_
        refine W.regT [8] [] [] [] (e2 := [(8, .bool false)]) (by kernel_rfl) (by kernel_rfl) (fun _ h => h) ?_
        refine W.weak [8] [] [] [] (env' := [(8, .bool false)]) (by kernel_rfl) ?_
        have hr : aresults Try.prog Try.f7 [(8, .bool false)] = some (.bool false) := by kernel_rfl
        cases h
        exact W.ret hr
      replace h := cond_f hb h
      refine W.skip ?_
      refine W.weak [0, 1, 2, 3, 21, 22, 23] [] [] [] (env' := [(0, .str a1), (1, .int .u8 a2), (2, I6 a3), (3, I6 a4), (21, l42 (some 21) [none, (some (ixIndex.mk () 0 ([] : (List Int)) ([] : (List Int))))]), (22, I6 ([none, (some (ixIndex.mk () 0 ([] : (List Int)) ([] : (List Int))))].length : Int)), (23, I6 (k1 : Int))]) (by kernel_rfl) ?_
      exact hK8 () h
    refine W.region (by kernel_rfl) ?_
    refine WO.boolK 3 (fun b => [(0, .str a1), (1, .int .u8 a2), (2, I6 a3), (3, I6 a4), (11, I6 w26.1), (12, I6 w26.2), (13, l3 none w29.1), (14, I6 w29.2), (15, I6 w31.1), (16, I6 w31.2), (17, .str w33.1), (18, I6 w33.2), (21, l42 (some 21) [none, (some (ixIndex.mk () 0 ([] : (List Int)) ([] : (List Int))))]), (22, I6 ([none, (some (ixIndex.mk () 0 ([] : (List Int)) ([] : (List Int))))].length : Int)), (23, I6 (k1 : Int)), (55, I6 w26.1), (56, .bool b), (57, .bool b)]) (w26.1 != 0) (by kernel_rfl) (fun hb => ?_) (fun hb => ?_)
    · replace h := cond_t hb h
      refine WO.fin [0, 1, 2, 3, 21, 22, 23, 85] [] [] [] (e2 := [(0, .str a1), (1, .int .u8 a2), (2, I6 a3), (3, I6 a4), (21, l42 (some 21) [none, (some (ixIndex.mk () 0 ([] : (List Int)) ([] : (List Int))))]), (22, I6 ([none, (some (ixIndex.mk () 0 ([] : (List Int)) ([] : (List Int))))].length : Int)), (23, I6 (k1 : Int)), (85, .bool true)]) (by kernel_rfl) (fun _ h => h) ?_
      exact hK34 true h
    replace h := cond_f hb h
    refine WO.pureK 1 (some (I6 ((List.map (AV.int .i64) w29.1).length : Int))) (v := I6 (w29.1.length : Int)) (by kernel_rfl) (by rw [List.length_map]) (e1 := [(0, .str a1), (1, .int .u8 a2), (2, I6 a3), (3, I6 a4), (11, I6 w26.1), (12, I6 w26.2), (13, l3 none w29.1), (14, I6 w29.2), (15, I6 w31.1), (16, I6 w31.2), (17, .str w33.1), (18, I6 w33.2), (21, l42 (some 21) [none, (some (ixIndex.mk () 0 ([] : (List Int)) ([] : (List Int))))]), (22, I6 ([none, (some (ixIndex.mk () 0 ([] : (List Int)) ([] : (List Int))))].length : Int)), (23, I6 (k1 : Int)), (55, I6 w26.1), (56, .bool false), (57, .bool false), (58, l3 none w29.1), (59, I6 (w29.1.length : Int))]) (by kernel_rfl) ?_
    refine WO.boolK 3 (fun b => [(0, .str a1), (1, .int .u8 a2), (2, I6 a3), (3, I6 a4), (11, I6 w26.1), (12, I6 w26.2), (13, l3 none w29.1), (14, I6 w29.2), (15, I6 w31.1), (16, I6 w31.2), (17, .str w33.1), (18, I6 w33.2), (21, l42 (some 21) [none, (some (ixIndex.mk () 0 ([] : (List Int)) ([] : (List Int))))]), (22, I6 ([none, (some (ixIndex.mk () 0 ([] : (List Int)) ([] : (List Int))))].length : Int)), (23, I6 (k1 : Int)), (55, I6 w26.1), (56, .bool false), (57, .bool false), (58, l3 none w29.1), (59, I6 (w29.1.length : Int)), (60, .bool b), (61, .bool b), (62, .bool b)]) ((w29.1.length : Int) != 0) (by kernel_rfl) (fun hb => ?_) (fun hb => ?_)
    · replace h := cond_t hb h
      refine WO.fin [0, 1, 2, 3, 21, 22, 23, 85] [] [] [] (e2 := [(0, .str a1), (1, .int .u8 a2), (2, I6 a3), (3, I6 a4), (21, l42 (some 21) [none, (some (ixIndex.mk () 0 ([] : (List Int)) ([] : (List Int))))]), (22, I6 ([none, (some (ixIndex.mk () 0 ([] : (List Int)) ([] : (List Int))))].length : Int)), (23, I6 (k1 : Int)), (85, .bool true)]) (by kernel_rfl) (fun _ h => h) ?_
      exact hK34 true h
    replace h := cond_f hb h
    refine WO.boolK 4 (fun b => [(0, .str a1), (1, .int .u8 a2), (2, I6 a3), (3, I6 a4), (11, I6 w26.1), (12, I6 w26.2), (13, l3 none w29.1), (14, I6 w29.2), (15, I6 w31.1), (16, I6 w31.2), (17, .str w33.1), (18, I6 w33.2), (21, l42 (some 21) [none, (some (ixIndex.mk () 0 ([] : (List Int)) ([] : (List Int))))]), (22, I6 ([none, (some (ixIndex.mk () 0 ([] : (List Int)) ([] : (List Int))))].length : Int)), (23, I6 (k1 : Int)), (55, I6 w26.1), (56, .bool false), (57, .bool false), (58, l3 none w29.1), (59, I6 (w29.1.length : Int)), (60, .bool false), (61, .bool false), (62, .bool false), (63, I6 w31.1), (64, .bool b), (65, .bool b), (66, .bool b)]) (w31.1 != 0) (by kernel_rfl) (fun hb => ?_) (fun hb => ?_)
    · replace h := cond_t hb h
      refine WO.fin [0, 1, 2, 3, 21, 22, 23, 85] [] [] [] (e2 := [(0, .str a1), (1, .int .u8 a2), (2, I6 a3), (3, I6 a4), (21, l42 (some 21) [none, (some (ixIndex.mk () 0 ([] : (List Int)) ([] : (List Int))))]), (22, I6 ([none, (some (ixIndex.mk () 0 ([] : (List Int)) ([] : (List Int))))].length : Int)), (23, I6 (k1 : Int)), (85, .bool true)]) (by kernel_rfl) (fun _ h => h) ?_
      exact hK34 true h
    replace h := cond_f hb h
    refine WO.boolK 4 (fun b => [(0, .str a1), (1, .int .u8 a2), (2, I6 a3), (3, I6 a4), (11, I6 w26.1), (12, I6 w26.2), (13, l3 none w29.1), (14, I6 w29.2), (15, I6 w31.1), (16, I6 w31.2), (17, .str w33.1), (18, I6 w33.2), (21, l42 (some 21) [none, (some (ixIndex.mk () 0 ([] : (List Int)) ([] : (List Int))))]), (22, I6 ([none, (some (ixIndex.mk () 0 ([] : (List Int)) ([] : (List Int))))].length : Int)), (23, I6 (k1 : Int)), (55, I6 w26.1), (56, .bool false), (57, .bool false), (58, l3 none w29.1), (59, I6 (w29.1.length : Int)), (60, .bool false), (61, .bool false), (62, .bool false), (63, I6 w31.1), (64, .bool false), (65, .bool false), (66, .bool false), (67, .str w33.1), (68, .bool b), (69, .bool b), (70, .bool b)]) (!(w33.1.toList == (ByteArray.mk #[]).toList)) (by kernel_rfl) (fun hb => ?_) (fun hb => ?_)
    · replace h := cond_t hb h
      refine WO.fin [0, 1, 2, 3, 21, 22, 23, 85] [] [] [] (e2 := [(0, .str a1), (1, .int .u8 a2), (2, I6 a3), (3, I6 a4), (21, l42 (some 21) [none, (some (ixIndex.mk () 0 ([] : (List Int)) ([] : (List Int))))]), (22, I6 ([none, (some (ixIndex.mk () 0 ([] : (List Int)) ([] : (List Int))))].length : Int)), (23, I6 (k1 : Int)), (85, .bool true)]) (by kernel_rfl) (fun _ h => h) ?_
      exact hK34 true h
    replace h := cond_f hb h
    refine WO.boolK 4 (fun b => [(0, .str a1), (1, .int .u8 a2), (2, I6 a3), (3, I6 a4), (11, I6 w26.1), (12, I6 w26.2), (13, l3 none w29.1), (14, I6 w29.2), (15, I6 w31.1), (16, I6 w31.2), (17, .str w33.1), (18, I6 w33.2), (21, l42 (some 21) [none, (some (ixIndex.mk () 0 ([] : (List Int)) ([] : (List Int))))]), (22, I6 ([none, (some (ixIndex.mk () 0 ([] : (List Int)) ([] : (List Int))))].length : Int)), (23, I6 (k1 : Int)), (55, I6 w26.1), (56, .bool false), (57, .bool false), (58, l3 none w29.1), (59, I6 (w29.1.length : Int)), (60, .bool false), (61, .bool false), (62, .bool false), (63, I6 w31.1), (64, .bool false), (65, .bool false), (66, .bool false), (67, .str w33.1), (68, .bool false), (69, .bool false), (70, .bool false), (71, I6 w26.2), (72, .bool b), (73, .bool b), (74, .bool b)]) (w26.2 != 1) (by kernel_rfl) (fun hb => ?_) (fun hb => ?_)
    · replace h := cond_t hb h
      refine WO.fin [0, 1, 2, 3, 21, 22, 23, 85] [] [] [] (e2 := [(0, .str a1), (1, .int .u8 a2), (2, I6 a3), (3, I6 a4), (21, l42 (some 21) [none, (some (ixIndex.mk () 0 ([] : (List Int)) ([] : (List Int))))]), (22, I6 ([none, (some (ixIndex.mk () 0 ([] : (List Int)) ([] : (List Int))))].length : Int)), (23, I6 (k1 : Int)), (85, .bool true)]) (by kernel_rfl) (fun _ h => h) ?_
      exact hK34 true h
    replace h := cond_f hb h
    refine WO.boolK 4 (fun b => [(0, .str a1), (1, .int .u8 a2), (2, I6 a3), (3, I6 a4), (11, I6 w26.1), (12, I6 w26.2), (13, l3 none w29.1), (14, I6 w29.2), (15, I6 w31.1), (16, I6 w31.2), (17, .str w33.1), (18, I6 w33.2), (21, l42 (some 21) [none, (some (ixIndex.mk () 0 ([] : (List Int)) ([] : (List Int))))]), (22, I6 ([none, (some (ixIndex.mk () 0 ([] : (List Int)) ([] : (List Int))))].length : Int)), (23, I6 (k1 : Int)), (55, I6 w26.1), (56, .bool false), (57, .bool false), (58, l3 none w29.1), (59, I6 (w29.1.length : Int)), (60, .bool false), (61, .bool false), (62, .bool false), (63, I6 w31.1), (64, .bool false), (65, .bool false), (66, .bool false), (67, .str w33.1), (68, .bool false), (69, .bool false), (70, .bool false), (71, I6 w26.2), (72, .bool false), (73, .bool false), (74, .bool false), (75, I6 w29.2), (76, .bool b), (77, .bool b), (78, .bool b)]) (w29.2 != 1) (by kernel_rfl) (fun hb => ?_) (fun hb => ?_)
    · replace h := cond_t hb h
      refine WO.fin [0, 1, 2, 3, 21, 22, 23, 85] [] [] [] (e2 := [(0, .str a1), (1, .int .u8 a2), (2, I6 a3), (3, I6 a4), (21, l42 (some 21) [none, (some (ixIndex.mk () 0 ([] : (List Int)) ([] : (List Int))))]), (22, I6 ([none, (some (ixIndex.mk () 0 ([] : (List Int)) ([] : (List Int))))].length : Int)), (23, I6 (k1 : Int)), (85, .bool true)]) (by kernel_rfl) (fun _ h => h) ?_
      exact hK34 true h
    replace h := cond_f hb h
    refine WO.boolK 4 (fun b => [(0, .str a1), (1, .int .u8 a2), (2, I6 a3), (3, I6 a4), (11, I6 w26.1), (12, I6 w26.2), (13, l3 none w29.1), (14, I6 w29.2), (15, I6 w31.1), (16, I6 w31.2), (17, .str w33.1), (18, I6 w33.2), (21, l42 (some 21) [none, (some (ixIndex.mk () 0 ([] : (List Int)) ([] : (List Int))))]), (22, I6 ([none, (some (ixIndex.mk () 0 ([] : (List Int)) ([] : (List Int))))].length : Int)), (23, I6 (k1 : Int)), (55, I6 w26.1), (56, .bool false), (57, .bool false), (58, l3 none w29.1), (59, I6 (w29.1.length : Int)), (60, .bool false), (61, .bool false), (62, .bool false), (63, I6 w31.1), (64, .bool false), (65, .bool false), (66, .bool false), (67, .str w33.1), (68, .bool false), (69, .bool false), (70, .bool false), (71, I6 w26.2), (72, .bool false), (73, .bool false), (74, .bool false), (75, I6 w29.2), (76, .bool false), (77, .bool false), (78, .bool false), (79, I6 w31.2), (80, .bool b), (81, .bool b), (82, .bool b)]) (w31.2 != 1) (by kernel_rfl) (fun hb => ?_) (fun hb => ?_)
    · replace h := cond_t hb h
      refine WO.fin [0, 1, 2, 3, 21, 22, 23, 85] [] [] [] (e2 := [(0, .str a1), (1, .int .u8 a2), (2, I6 a3), (3, I6 a4), (21, l42 (some 21) [none, (some (ixIndex.mk () 0 ([] : (List Int)) ([] : (List Int))))]), (22, I6 ([none, (some (ixIndex.mk () 0 ([] : (List Int)) ([] : (List Int))))].length : Int)), (23, I6 (k1 : Int)), (85, .bool true)]) (by kernel_rfl) (fun _ h => h) ?_
      exact hK34 true h
    replace h := cond_f hb h
    refine WO.fin [0, 1, 2, 3, 21, 22, 23, 85] [] [] [] (e2 := [(0, .str a1), (1, .int .u8 a2), (2, I6 a3), (3, I6 a4), (21, l42 (some 21) [none, (some (ixIndex.mk () 0 ([] : (List Int)) ([] : (List Int))))]), (22, I6 ([none, (some (ixIndex.mk () 0 ([] : (List Int)) ([] : (List Int))))].length : Int)), (23, I6 (k1 : Int)), (85, .bool (w33.2 != 1))]) (by kernel_rfl) (fun _ h => h) ?_
    exact hK34 (w33.2 != 1) h

end Go.AM
