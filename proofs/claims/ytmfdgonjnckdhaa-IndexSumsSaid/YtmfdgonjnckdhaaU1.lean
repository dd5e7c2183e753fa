/- PRINTED by gen.py: pure functions and the proofs that the code computes them. No statement of the seat is proved here. -/
import Derived.Test.YtmfdgonjnckdhaaUT
set_option maxRecDepth 100000
set_option linter.unusedVariables false
set_option linter.unusedSimpArgs false
namespace Go.AM
open Go.Proofs
def ix_suffixes_own_j5 (fuel : Nat) (a1 : ByteArray) (v13 : (List Int)) : Option (List Int) :=
  ((sl_SortFunc_int fuel v13 (Int.toNat (IntKind.wrap .i64 ((a1.size : Int) + 1))) (fun y0 y1 => ix_suffixes_1 y0 y1 a1)).bind fun w15 => (chk (decide ((Int.toNat (IntKind.wrap .i64 ((a1.size : Int) + 1))) = (w15).length)) (some w15)))
def ix_suffixes_own_l1 (a1 : ByteArray) (K5 : ((List Int) → Option (List Int))) : List Nat → Nat → (List Int) → Option (List Int)
  | [], k1, v7 => (K5 v7)
  | x1 :: r1, k1, v7 => (chk (decide ((0 : Int) ≤ (k1 : Int) ∧ (k1 : Int) < (((Int.toNat (IntKind.wrap .i64 ((a1.size : Int) + 1))) : Nat) : Int))) ((upd v7 (0 + Int.toNat (k1 : Int)) (k1 : Int)).bind fun u11 => ((ix_suffixes_own_l1 a1 K5 r1 (k1 + 1)) u11)))
def ix_suffixes_own (fuel : Nat) (a1 : ByteArray) : Option (List Int) :=
  (chk (mkOk 8 (IntKind.wrap .i64 ((a1.size : Int) + 1))) (chk (lenOk (List.range (Int.toNat (((Int.toNat (IntKind.wrap .i64 ((a1.size : Int) + 1))) : Nat) : Int)))) (ix_suffixes_own_l1 a1 (ix_suffixes_own_j5 fuel a1) (List.range (Int.toNat (((Int.toNat (IntKind.wrap .i64 ((a1.size : Int) + 1))) : Nat) : Int))) 0 (List.replicate (Int.toNat (IntKind.wrap .i64 ((a1.size : Int) + 1))) 0))))
theorem run_ix_suffixes_own (fuel : Nat) (a1 : ByteArray) (r : (List Int)) (h : ix_suffixes_own fuel a1 = some r) : Run Try.prog (.callM 41 [.str a1] [] (.sb 1900000 3 1 0 ((r).length)) [(1900000, .obj 3 1 (List.map (AV.int .i64) r))]) := by
  refine callM_of_W Try.func41 rfl (by kernel_rfl) (env0 := [(0, .str a1)]) (by kernel_rfl) ?_
  unfold ix_suffixes_own at h
  refine W.seq ?_
  refine W.region (by kernel_rfl) ?_
  refine WO.steps 2 (e1 := [(0, .str a1), (1, .box [.str a1]), (2, .nils)]) (by kernel_rfl) ?_
  refine WO.mv [.nil 2 3 1 1200002] (env' := [(0, .str a1), (1, .box [.str a1]), (2, .sb 1200002 3 1 0 (([] : (List Int)).length)), (1200002, .obj 3 1 (List.map (AV.int .i64) ([] : (List Int))))]) (by kernel_rfl) ?_
  refine WO.fin [1] [1] [] [] (e2 := [(1, .ptr (.str a1))]) (by kernel_rfl) (fun _ h => h) ?_
  refine W.seq ?_
  refine W.region (by kernel_rfl) ?_
  obtain ⟨hc4, h⟩ := chk_some h
  refine WO.makeK 3 (d := 8) (e := 3) (s := 1) (bytes := 8) (m := (W6 ((a1.size : Int) + 1))) (z := (.int .i64 0)) (zs := (List.map (AV.int .i64) (List.replicate (Int.toNat (W6 ((a1.size : Int) + 1))) 0))) (env1 := [(1, .ptr (.str a1)), (5, .str a1), (6, I6 (a1.size : Int)), (7, I6 (W6 ((a1.size : Int) + 1))), (8, .sb 1000008 3 1 0 (Int.toNat (W6 ((a1.size : Int) + 1))))]) (by kernel_rfl) hc4 (by first | exact rep_map | exact (rep_map (f := (AV.int .i64)))) (e1 := [(1, .ptr (.str a1)), (5, .str a1), (6, I6 (a1.size : Int)), (7, I6 (W6 ((a1.size : Int) + 1))), (8, .sb 1000008 3 1 0 (Int.toNat (W6 ((a1.size : Int) + 1)))), (1000008, .obj 3 1 (List.map (AV.int .i64) (List.replicate (Int.toNat (W6 ((a1.size : Int) + 1))) 0)))]) (by kernel_rfl) ?_
  refine WO.fin [1, 3, 1000008] [] [] [] (e2 := [(1, .ptr (.str a1)), (3, .sb 1000008 3 1 0 (Int.toNat (W6 ((a1.size : Int) + 1)))), (1000008, .obj 3 1 (List.map (AV.int .i64) (List.replicate (Int.toNat (W6 ((a1.size : Int) + 1))) 0)))]) (by kernel_rfl) (fun _ h => h) ?_
  refine W.seq ?_
  refine W.join (σ := ((List Int))) (fun s => [(1, .ptr (.str a1)), (3, .sb 1000008 3 1 0 (Int.toNat (W6 ((a1.size : Int) + 1)))), (1000008, .obj 3 1 (List.map (AV.int .i64) s))]) (fun s => (ix_suffixes_own_j5 fuel a1) s = some r) (fun s h => ?_) (fun hK5 => ?_)
  · obtain ⟨v13, rfl⟩ : ∃ x, x = s := ⟨s, rfl⟩
    have h : (ix_suffixes_own_j5 fuel a1) v13 = some r := h
    unfold ix_suffixes_own_j5 at h
    refine W.seq ?_
    refine W.region (by kernel_rfl) ?_
    obtain ⟨w15, hw15, h⟩ := bind_some h
    refine WO.callMK 2 [(1000008, 2000000)] [] (F := 59) (args := [.sb 2000000 3 1 0 (Int.toNat (W6 ((a1.size : Int) + 1))), .clo 60 [.ptr (.str a1)]]) (hp := [O1 v13]) (hp2 := [O1 w15]) (r := .tup []) (by kernel_rfl) (run_sl_SortFunc_int fuel v13 (Int.toNat (W6 ((a1.size : Int) + 1))) (fun y0 y1 => ix_suffixes_1 y0 y1 a1) 60 [.ptr (.str a1)] (by kernel_rfl) (fun y0 y1 r h => run_ix_suffixes_1 y0 y1 a1 r h) w15 hw15) (e1 := [(1, .ptr (.str a1)), (3, .sb 1000008 3 1 0 (Int.toNat (W6 ((a1.size : Int) + 1)))), (19, .sb 1000008 3 1 0 (Int.toNat (W6 ((a1.size : Int) + 1)))), (20, .clo 60 [.ptr (.str a1)]), (21, .tup []), (1000008, .obj 3 1 (List.map (AV.int .i64) w15))]) (by kernel_rfl) ?_
    refine WO.fin [3, 1000008] [] [] [] (e2 := [(3, .sb 1000008 3 1 0 (Int.toNat (W6 ((a1.size : Int) + 1)))), (1000008, .obj 3 1 (List.map (AV.int .i64) w15))]) (by kernel_rfl) (fun _ h => h) ?_
    refine W.seq ?_
    refine W.regT [2, 1000008] [] [] [] (e2 := [(2, .sb 1000008 3 1 0 (Int.toNat (W6 ((a1.size : Int) + 1)))), (1000008, .obj 3 1 (List.map (AV.int .i64) w15))]) (by kernel_rfl) (by kernel_rfl) (fun _ h => h) ?_
    refine W.mv [.ren 1000008 1900000] (env' := [(2, .sb 1900000 3 1 0 (Int.toNat (W6 ((a1.size : Int) + 1)))), (1900000, .obj 3 1 (List.map (AV.int .i64) w15))]) (by kernel_rfl) ?_
    refine W.weak [2, 1900000] [] [] [] (env' := [(2, .sb 1900000 3 1 0 (Int.toNat (W6 ((a1.size : Int) + 1)))), (1900000, .obj 3 1 (List.map (AV.int .i64) w15))]) (by kernel_rfl) ?_
    obtain ⟨hn17, h⟩ := chk_some h
    have hr : PostM Try.prog Try.f41 (.sb 1900000 3 1 0 ((w15).length)) [(1900000, .obj 3 1 (List.map (AV.int .i64) w15))] .ret [(2, .sb 1900000 3 1 0 (Int.toNat (W6 ((a1.size : Int) + 1)))), (1900000, .obj 3 1 (List.map (AV.int .i64) w15))] := ⟨(by kernel_rfl : aresultsM Try.prog Try.f41 [(2, .sb 1900000 3 1 0 (Int.toNat (W6 ((a1.size : Int) + 1)))), (1900000, .obj 3 1 (List.map (AV.int .i64) w15))] = some (.sb 1900000 3 1 0 (Int.toNat (W6 ((a1.size : Int) + 1))))).trans (congrArg (fun k => some (.sb 1900000 3 1 0 k : AV)) (of_decide_eq_true hn17)), by kernel_rfl⟩
    cases h
    exact W.ret hr
  refine W.seq ?_
  refine W.regT [1, 3, 10, 11, 1000008] [] [] [] (e2 := [(1, .ptr (.str a1)), (3, .sb 1000008 3 1 0 (Int.toNat (W6 ((a1.size : Int) + 1)))), (10, I6 (((Int.toNat (W6 ((a1.size : Int) + 1))) : Nat) : Int)), (11, .int .i64 0), (1000008, .obj 3 1 (List.map (AV.int .i64) (List.replicate (Int.toNat (W6 ((a1.size : Int) + 1))) 0)))]) (by kernel_rfl) (by kernel_rfl) (fun _ h => h) ?_
  refine W.block ?_
  obtain ⟨hl1, h⟩ := chk_some h
  refine W.weak [1, 3, 10, 11, 1000008] [] [] [] (env' := [(1, .ptr (.str a1)), (3, .sb 1000008 3 1 0 (Int.toNat (W6 ((a1.size : Int) + 1)))), (10, I6 (((Int.toNat (W6 ((a1.size : Int) + 1))) : Nat) : Int)), (11, I6 ((0 : Nat) : Int)), (1000008, .obj 3 1 (List.map (AV.int .i64) (List.replicate (Int.toNat (W6 ((a1.size : Int) + 1))) 0)))]) (by kernel_rfl) ?_
  refine W.range (σ := ((List Int))) (List.range (Int.toNat (((Int.toNat (W6 ((a1.size : Int) + 1))) : Nat) : Int))) (fun k1 s => [(1, .ptr (.str a1)), (3, .sb 1000008 3 1 0 (Int.toNat (W6 ((a1.size : Int) + 1)))), (10, I6 (((Int.toNat (W6 ((a1.size : Int) + 1))) : Nat) : Int)), (11, I6 (k1 : Int)), (1000008, .obj 3 1 (List.map (AV.int .i64) s))]) (fun r0 k0 s => ix_suffixes_own_l1 a1 (ix_suffixes_own_j5 fuel a1) r0 k0 s = some r) (fun s h => ?_) (fun x1 r1 k1 s hx1 hk1 h hN1 => ?_) (List.replicate (Int.toNat (W6 ((a1.size : Int) + 1))) 0) h
  · obtain ⟨v7, rfl⟩ : ∃ x, x = s := ⟨s, rfl⟩
    have h : ix_suffixes_own_l1 a1 (ix_suffixes_own_j5 fuel a1) [] ((List.range (Int.toNat (((Int.toNat (W6 ((a1.size : Int) + 1))) : Nat) : Int)))).length v7 = some r := h
    rw [ix_suffixes_own_l1.eq_1] at h
    refine W.seq ?_
    refine W.region (by kernel_rfl) ?_
    refine WO.pureK 0 (some (.bool (decide ((((List.range (Int.toNat (((Int.toNat (W6 ((a1.size : Int) + 1))) : Nat) : Int)))).length : Int) < (((Int.toNat (W6 ((a1.size : Int) + 1))) : Nat) : Int))))) (v := .bool false) (by kernel_rfl) (by rw [ltr_false (n := (((Int.toNat (W6 ((a1.size : Int) + 1))) : Nat) : Int))]) (e1 := [(1, .ptr (.str a1)), (3, .sb 1000008 3 1 0 (Int.toNat (W6 ((a1.size : Int) + 1)))), (10, I6 (((Int.toNat (W6 ((a1.size : Int) + 1))) : Nat) : Int)), (11, I6 (((List.range (Int.toNat (((Int.toNat (W6 ((a1.size : Int) + 1))) : Nat) : Int)))).length : Int)), (12, .bool false), (1000008, .obj 3 1 (List.map (AV.int .i64) v7))]) (by kernel_rfl) ?_
    refine WO.fin ([1, 3, 10, 11, 12, 1000008]) [] [] [] (e2 := [(1, .ptr (.str a1)), (3, .sb 1000008 3 1 0 (Int.toNat (W6 ((a1.size : Int) + 1)))), (10, I6 (((Int.toNat (W6 ((a1.size : Int) + 1))) : Nat) : Int)), (11, I6 (((List.range (Int.toNat (((Int.toNat (W6 ((a1.size : Int) + 1))) : Nat) : Int)))).length : Int)), (12, .bool false), (1000008, .obj 3 1 (List.map (AV.int .i64) v7))]) (by kernel_rfl) (fun _ h => h) ?_
    refine W.seq ?_
    refine W.condB false (by kernel_rfl) (fun h => Bool.noConfusion h) (fun _ => ?_)
    refine W.exit ?_
    refine W.weak [1, 3, 1000008] [] [] [] (env' := [(1, .ptr (.str a1)), (3, .sb 1000008 3 1 0 (Int.toNat (W6 ((a1.size : Int) + 1)))), (1000008, .obj 3 1 (List.map (AV.int .i64) v7))]) (by kernel_rfl) ?_
    exact hK5 v7 h
  · obtain ⟨v7, rfl⟩ : ∃ x, x = s := ⟨s, rfl⟩
    have h : ix_suffixes_own_l1 a1 (ix_suffixes_own_j5 fuel a1) (x1 :: r1) k1 v7 = some r := h
    rw [ix_suffixes_own_l1.eq_2] at h
    refine W.seq ?_
    refine W.region (by kernel_rfl) ?_
    refine WO.pureK 0 (some (.bool (decide ((k1 : Int) < (((Int.toNat (W6 ((a1.size : Int) + 1))) : Nat) : Int))))) (v := .bool true) (by kernel_rfl) (by rw [ltr_true hk1]) (e1 := [(1, .ptr (.str a1)), (3, .sb 1000008 3 1 0 (Int.toNat (W6 ((a1.size : Int) + 1)))), (10, I6 (((Int.toNat (W6 ((a1.size : Int) + 1))) : Nat) : Int)), (11, I6 (k1 : Int)), (12, .bool true), (1000008, .obj 3 1 (List.map (AV.int .i64) v7))]) (by kernel_rfl) ?_
    refine WO.fin ([1, 3, 10, 11, 12, 1000008]) [] [] [] (e2 := [(1, .ptr (.str a1)), (3, .sb 1000008 3 1 0 (Int.toNat (W6 ((a1.size : Int) + 1)))), (10, I6 (((Int.toNat (W6 ((a1.size : Int) + 1))) : Nat) : Int)), (11, I6 (k1 : Int)), (12, .bool true), (1000008, .obj 3 1 (List.map (AV.int .i64) v7))]) (by kernel_rfl) (fun _ h => h) ?_
    refine W.seq ?_
    refine W.condB true (by kernel_rfl) (fun _ => ?_) (fun h => Bool.noConfusion h)
    refine W.skip ?_
    refine W.weak [1, 3, 10, 11, 1000008] [] [] [] (env' := [(1, .ptr (.str a1)), (3, .sb 1000008 3 1 0 (Int.toNat (W6 ((a1.size : Int) + 1)))), (10, I6 (((Int.toNat (W6 ((a1.size : Int) + 1))) : Nat) : Int)), (11, I6 (k1 : Int)), (1000008, .obj 3 1 (List.map (AV.int .i64) v7))]) (by kernel_rfl) ?_
    refine W.seq ?_
    refine W.block ?_
    refine W.seq ?_
    refine W.regT [1, 3, 4, 10, 11, 1000008] [] [] [] (e2 := [(1, .ptr (.str a1)), (3, .sb 1000008 3 1 0 (Int.toNat (W6 ((a1.size : Int) + 1)))), (4, I6 (k1 : Int)), (10, I6 (((Int.toNat (W6 ((a1.size : Int) + 1))) : Nat) : Int)), (11, I6 (k1 : Int)), (1000008, .obj 3 1 (List.map (AV.int .i64) v7))]) (by kernel_rfl) (by kernel_rfl) (fun _ h => h) ?_
    refine W.region (by kernel_rfl) ?_
    obtain ⟨hc10, h⟩ := chk_some h
    refine WO.pureK 3 (if (0 : Int) ≤ (k1 : Int) ∧ (k1 : Int) < (((Int.toNat (W6 ((a1.size : Int) + 1))) : Nat) : Int) then some (.pe 1000008 1 (0 + Int.toNat (k1 : Int)) 0) else none) (v := .pe 1000008 1 (0 + Int.toNat (k1 : Int)) 0) (by kernel_rfl) (ite_some hc10) (e1 := [(1, .ptr (.str a1)), (3, .sb 1000008 3 1 0 (Int.toNat (W6 ((a1.size : Int) + 1)))), (4, I6 (k1 : Int)), (10, I6 (((Int.toNat (W6 ((a1.size : Int) + 1))) : Nat) : Int)), (11, I6 (k1 : Int)), (14, .sb 1000008 3 1 0 (Int.toNat (W6 ((a1.size : Int) + 1)))), (15, I6 (k1 : Int)), (16, I6 (k1 : Int)), (17, .pe 1000008 1 (0 + Int.toNat (k1 : Int)) 0), (1000008, .obj 3 1 (List.map (AV.int .i64) v7))]) (by kernel_rfl) ?_
    obtain ⟨u11, hu11, h⟩ := bind_some h
    obtain ⟨y12, hyy12, hzy12⟩ := upd_some hu11
    refine WO.storeK 0 (id := 1000008) (e := 3) (s := 1) (j := (0 + Int.toNat (k1 : Int))) (off := 0) (vs := [I6 (k1 : Int)]) (xs := (List.map (AV.int .i64) v7)) (zs := (List.map (AV.int .i64) u11)) (y := ((AV.int .i64)) y12) (y' := ((AV.int .i64)) (k1 : Int)) (by kernel_rfl) (upd_get hyy12) (by kernel_rfl) (upd_set hzy12) (e1 := [(1, .ptr (.str a1)), (3, .sb 1000008 3 1 0 (Int.toNat (W6 ((a1.size : Int) + 1)))), (4, I6 (k1 : Int)), (10, I6 (((Int.toNat (W6 ((a1.size : Int) + 1))) : Nat) : Int)), (11, I6 (k1 : Int)), (14, .sb 1000008 3 1 0 (Int.toNat (W6 ((a1.size : Int) + 1)))), (15, I6 (k1 : Int)), (16, I6 (k1 : Int)), (17, .pe 1000008 1 (0 + Int.toNat (k1 : Int)) 0), (1000008, .obj 3 1 (List.map (AV.int .i64) u11))]) (by kernel_rfl) ?_
    refine WO.fin [1, 3, 10, 11, 1000008] [] [] [] (e2 := [(1, .ptr (.str a1)), (3, .sb 1000008 3 1 0 (Int.toNat (W6 ((a1.size : Int) + 1)))), (10, I6 (((Int.toNat (W6 ((a1.size : Int) + 1))) : Nat) : Int)), (11, I6 (k1 : Int)), (1000008, .obj 3 1 (List.map (AV.int .i64) u11))]) (by kernel_rfl) (fun _ h => h) ?_
    refine W.region (by kernel_rfl) ?_
    refine WO.pureK 0 (some (I6 (IntKind.wrap .i64 ((k1 : Int) + 1)))) (v := I6 ((k1 + 1 : Nat) : Int)) (by kernel_rfl) (by rw [wrap_succ hl1 hk1]) (e1 := [(1, .ptr (.str a1)), (3, .sb 1000008 3 1 0 (Int.toNat (IntKind.wrap .i64 ((a1.size : Int) + 1)))), (10, I6 (((Int.toNat (IntKind.wrap .i64 ((a1.size : Int) + 1))) : Nat) : Int)), (11, I6 (k1 : Int)), (18, I6 ((k1 + 1 : Nat) : Int)), (1000008, .obj 3 1 (List.map (AV.int .i64) u11))]) (by kernel_rfl) ?_
    refine WO.fin [1, 3, 10, 11, 1000008] [] [] [] (e2 := [(1, .ptr (.str a1)), (3, .sb 1000008 3 1 0 (Int.toNat (W6 ((a1.size : Int) + 1)))), (10, I6 (((Int.toNat (W6 ((a1.size : Int) + 1))) : Nat) : Int)), (11, I6 ((k1 + 1 : Nat) : Int)), (1000008, .obj 3 1 (List.map (AV.int .i64) u11))]) (by kernel_rfl) (fun _ h => h) ?_
    exact hN1 u11 h
def ix_Sort_own (fuel : Nat) (a1 : ByteArray) : Option ((List Int) × Int) :=
  ((ix_valid a1).bind fun w5 => (bif (!w5) then (some (([] : (List Int)), 2)) else ((ix_suffixes_own fuel a1).bind fun w8 => (some (w8, 0)))))
theorem run_ix_Sort_own (fuel : Nat) (a1 : ByteArray) (r : ((List Int) × Int)) (h : ix_Sort_own fuel a1 = some r) : Run Try.prog (.callM 15 [.str a1] [] (.tpr 1900000 3 1 0 ((r.1).length) [I6 r.2]) [(1900000, .obj 3 1 (List.map (AV.int .i64) r.1))]) := by
  refine callM_of_W Try.func15 rfl (by kernel_rfl) (env0 := [(0, .str a1)]) (by kernel_rfl) ?_
  unfold ix_Sort_own at h
  refine W.seq ?_
  refine W.regT [0] [] [] [] (e2 := [(0, .str a1)]) (by kernel_rfl) (by kernel_rfl) (fun _ h => h) ?_
  refine W.seq ?_
  refine W.seq ?_
  refine W.region (by kernel_rfl) ?_
  obtain ⟨w5, hw5, h⟩ := bind_some h
  refine WO.callK 1 (F := 40) (l := [.str a1]) (C := []) (r := .bool w5) (by kernel_rfl) (by kernel_rfl) (run_ix_valid a1 w5 hw5) (e1 := [(0, .str a1), (4, .str a1), (5, .bool w5)]) (by kernel_rfl) ?_
  refine WO.fin [0, 6] [] [] [] (e2 := [(0, .str a1), (6, .bool (!w5))]) (by kernel_rfl) (fun _ h => h) ?_
  refine W.condB (!w5) (by kernel_rfl) (fun hb => ?_) (fun hb => ?_)
  · replace h := cond_t hb h
    refine W.seq ?_
    refine W.regT [2, 3] [] [] [] (e2 := [(2, .nils), (3, .int .i64 2)]) (by kernel_rfl) (by kernel_rfl) (fun _ h => h) ?_
    refine W.mv [.nil 2 3 1 1900000] (env' := [(2, .sb 1900000 3 1 0 (([] : (List Int)).length)), (3, .int .i64 2), (1900000, .obj 3 1 (List.map (AV.int .i64) ([] : (List Int))))]) (by kernel_rfl) ?_
    refine W.weak [2, 3, 1900000] [] [] [] (env' := [(2, .sb 1900000 3 1 0 (([] : (List Int)).length)), (3, .int .i64 2), (1900000, .obj 3 1 (List.map (AV.int .i64) ([] : (List Int))))]) (by kernel_rfl) ?_
    have hr : PostM Try.prog Try.f15 (.tpr 1900000 3 1 0 (([] : (List Int)).length) [.int .i64 2]) [(1900000, .obj 3 1 (List.map (AV.int .i64) ([] : (List Int))))] .ret [(2, .sb 1900000 3 1 0 (([] : (List Int)).length)), (3, .int .i64 2), (1900000, .obj 3 1 (List.map (AV.int .i64) ([] : (List Int))))] := ⟨by kernel_rfl, by kernel_rfl⟩
    cases h
    exact W.ret hr
  replace h := cond_f hb h
  refine W.skip ?_
  refine W.weak [0] [] [] [] (env' := [(0, .str a1)]) (by kernel_rfl) ?_
  refine W.seq ?_
  refine W.region (by kernel_rfl) ?_
  obtain ⟨w8, hw8, h⟩ := bind_some h
  refine WO.callMK 1 [] [(1000008, 1900000)] (F := 41) (args := [.str a1]) (hp := []) (hp2 := [(1900000, .obj 3 1 (List.map (AV.int .i64) w8))]) (r := .sb 1900000 3 1 0 ((w8).length)) (by kernel_rfl) (run_ix_suffixes_own fuel a1 w8 hw8) (e1 := [(0, .str a1), (7, .str a1), (8, .sb 1000008 3 1 0 ((w8).length)), (1000008, .obj 3 1 (List.map (AV.int .i64) w8))]) (by kernel_rfl) ?_
  refine WO.fin [2, 3, 1000008] [] [] [] (e2 := [(2, .sb 1000008 3 1 0 ((w8).length)), (3, .int .i64 0), (1000008, .obj 3 1 (List.map (AV.int .i64) w8))]) (by kernel_rfl) (fun _ h => h) ?_
  refine W.mv [.ren 1000008 1900000] (env' := [(2, .sb 1900000 3 1 0 ((w8).length)), (3, .int .i64 0), (1900000, .obj 3 1 (List.map (AV.int .i64) w8))]) (by kernel_rfl) ?_
  refine W.weak [2, 3, 1900000] [] [] [] (env' := [(2, .sb 1900000 3 1 0 ((w8).length)), (3, .int .i64 0), (1900000, .obj 3 1 (List.map (AV.int .i64) w8))]) (by kernel_rfl) ?_
  have hr : PostM Try.prog Try.f15 (.tpr 1900000 3 1 0 ((w8).length) [.int .i64 0]) [(1900000, .obj 3 1 (List.map (AV.int .i64) w8))] .ret [(2, .sb 1900000 3 1 0 ((w8).length)), (3, .int .i64 0), (1900000, .obj 3 1 (List.map (AV.int .i64) w8))] := ⟨by kernel_rfl, by kernel_rfl⟩
  cases h
  exact W.ret hr
def sl_Sort_int (a1 : (List Int)) (n1 : Nat) : Option (List Int) := chk (decide (n1 = a1.length ∧ a1 ≠ [] ∧ a1.length < 4611686018427387904)) (some (sortI a1))
theorem run_sl_Sort_int (a1 : (List Int)) (n1 : Nat) (r : (List Int)) (h : sl_Sort_int a1 n1 = some r) : Run Try.prog (.callM 31 [.sb 2000000 3 1 0 n1] [O1 a1] (.tup []) [O1 r]) := by
  unfold sl_Sort_int at h
  obtain ⟨hp, h⟩ := chk_some h
  cases h
  obtain ⟨h1, h2, h3⟩ := of_decide_eq_true hp
  subst h1
  exact .extSort h2 h3 knownSort31
def lw4_IndexSums_j13 (v15 : Bool) : Option Bool :=
  (some v15)
def lw4_IndexSums_j48 (v50 : Bool) : Option Bool :=
  (some v50)
def lw4_IndexSums_j40 (fuel : Nat) (w4 : ByteArray) (w6 : ((List Int) × Int)) (w8 : ((List Int) × Int)) (w10 : (Int × Int)) (v21 : Int) : Option Bool :=
  (bif (w8.2 == 0) then (bif (w10.2 == 0) then (bif ((((w6.1).length : Nat) : Int) == (IntKind.wrap .i64 ((w4.size : Int) + 1))) then (bif (v21 == (IntKind.wrap .i64 (((IntKind.wrap .i64 ((w4.size : Int) * (IntKind.wrap .i64 ((w4.size : Int) + 1))))).tdiv 2))) then ((lw4_awake fuel).bind fun w49 => ((lw4_IndexSums_j48) w49)) else ((lw4_IndexSums_j48) false)) else ((lw4_IndexSums_j48) false)) else ((lw4_IndexSums_j48) false)) else ((lw4_IndexSums_j48) false))
def lw4_IndexSums_l3 (w6 : ((List Int) × Int)) (w39 : (List Int)) (K40 : (Option Bool)) : List Nat → Nat → Option Bool
  | [], k3 => K40
  | x3 :: r3, k3 => (chk (decide ((0 : Int) ≤ (k3 : Int) ∧ (k3 : Int) < (((w6.1).length : Nat) : Int))) ((w39[(0 + Int.toNat (k3 : Int))]?).bind fun e45 => (bif ((k3 : Int) != e45) then (some false) else (lw4_IndexSums_l3 w6 w39 K40 r3 (k3 + 1)))))
def lw4_IndexSums_j22 (fuel : Nat) (w4 : ByteArray) (w6 : ((List Int) × Int)) (w8 : ((List Int) × Int)) (w10 : (Int × Int)) (v21 : Int) : Option Bool :=
  ((sl_Sort_int w6.1 ((w6.1).length)).bind fun w39 => (chk (lenOk (List.range (Int.toNat (((w6.1).length : Nat) : Int)))) (lw4_IndexSums_l3 w6 w39 (lw4_IndexSums_j40 fuel w4 w6 w8 w10 v21) (List.range (Int.toNat (((w6.1).length : Nat) : Int))) 0)))
def lw4_IndexSums_j33 (v24 : Int) (N2 : (Int → Option Bool)) (v36 : Bool) : Option Bool :=
  (bif v36 then (some false) else (N2 (IntKind.wrap .i64 (v24 + 1))))
def lw4_IndexSums_l2 (w4 : ByteArray) (w6 : ((List Int) × Int)) (K22 : (Option Bool)) : Nat → Int → Option Bool
  | 0, _ => none
  | m2 + 1, v24 => (bif (decide (v24 < (((w6.1).length : Nat) : Int))) then (chk (decide ((0 : Int) ≤ (IntKind.wrap .i64 (v24 - 1)) ∧ (IntKind.wrap .i64 (v24 - 1)) < (((w6.1).length : Nat) : Int))) ((w6.1[(0 + Int.toNat (IntKind.wrap .i64 (v24 - 1)))]?).bind fun e30 => (chk (decide ((0 : Int) ≤ v24 ∧ v24 < (((w6.1).length : Nat) : Int))) ((w6.1[(0 + Int.toNat v24)]?).bind fun e32 => (bif (decide (e30 < 0)) then ((lw4_IndexSums_j33 v24 (lw4_IndexSums_l2 w4 w6 K22 m2)) true) else (bif (decide (e32 < 0)) then ((lw4_IndexSums_j33 v24 (lw4_IndexSums_l2 w4 w6 K22 m2)) true) else (bif (decide (e30 > (w4.size : Int))) then ((lw4_IndexSums_j33 v24 (lw4_IndexSums_l2 w4 w6 K22 m2)) true) else (bif (decide (e32 > (w4.size : Int))) then ((lw4_IndexSums_j33 v24 (lw4_IndexSums_l2 w4 w6 K22 m2)) true) else ((ssub w4 e30 (w4.size : Int)).bind fun e34 => ((ssub w4 e32 (w4.size : Int)).bind fun e35 => ((lw4_IndexSums_j33 v24 (lw4_IndexSums_l2 w4 w6 K22 m2)) (!Op.bytesLess e34.toList e35.toList)))))))))))) else K22)
def lw4_IndexSums_j16 (fuel : Nat) (w4 : ByteArray) (w6 : ((List Int) × Int)) (w8 : ((List Int) × Int)) (w10 : (Int × Int)) (v21 : Int) : Option Bool :=
  (lw4_IndexSums_l2 w4 w6 (lw4_IndexSums_j22 fuel w4 w6 w8 w10 v21) fuel 1)
def lw4_IndexSums_l1 (K16 : (Int → Option Bool)) : List Int → Nat → Int → Option Bool
  | [], k1, v18 => (K16 v18)
  | x1 :: r1, k1, v18 => ((lw4_IndexSums_l1 K16 r1 (k1 + 1)) (IntKind.wrap .i64 (v18 + x1)))
def lw4_IndexSums (fuel : Nat) (a1 : ByteArray) : Option Bool :=
  ((lw4_few a1).bind fun w4 => ((ix_Sort_own fuel w4).bind fun w6 => ((ix_Common fuel w4).bind fun w8 => ((ix_Distinct fuel w4).bind fun w10 => (bif (w6.2 != 0) then (bif (w6.2 == 2) then (bif (w8.2 == 2) then (bif (w10.2 == 2) then ((lw4_awake fuel).bind fun w14 => ((lw4_IndexSums_j13) w14)) else ((lw4_IndexSums_j13) false)) else ((lw4_IndexSums_j13) false)) else ((lw4_IndexSums_j13) false)) else (chk (lenOk w8.1) (lw4_IndexSums_l1 (lw4_IndexSums_j16 fuel w4 w6 w8 w10) w8.1 0 w10.1)))))))
theorem run_lw4_IndexSums (fuel : Nat) (a1 : ByteArray) (r : Bool) (h : lw4_IndexSums fuel a1 = some r) : Run Try.prog (.call 6 [.str a1] (.bool r)) := by
  refine call_of_W Try.func6 rfl (by kernel_rfl) (env0 := [(0, .str a1)]) (by kernel_rfl) ?_
  unfold lw4_IndexSums at h
  refine W.seq ?_
  refine W.regT [0] [] [] [] (e2 := [(0, .str a1)]) (by kernel_rfl) (by kernel_rfl) (fun _ h => h) ?_
  refine W.seq ?_
  refine W.region (by kernel_rfl) ?_
  obtain ⟨w4, hw4, h⟩ := bind_some h
  refine WO.callK 1 (F := 14) (l := [.str a1]) (C := []) (r := .str w4) (by kernel_rfl) (by kernel_rfl) (run_lw4_few a1 w4 hw4) (e1 := [(0, .str a1), (16, .str a1), (17, .str w4)]) (by kernel_rfl) ?_
  refine WO.fin [0] [] [] [] (e2 := [(0, .str w4)]) (by kernel_rfl) (fun _ h => h) ?_
  refine W.seq ?_
  refine W.region (by kernel_rfl) ?_
  obtain ⟨w6, hw6, h⟩ := bind_some h
  refine WO.callMK 1 [] [(1000020, 1900000)] (F := 15) (args := [.str w4]) (hp := []) (hp2 := [(1900000, .obj 3 1 (List.map (AV.int .i64) w6.1))]) (r := .tpr 1900000 3 1 0 ((w6.1).length) [I6 w6.2]) (by kernel_rfl) (run_ix_Sort_own fuel w4 w6 hw6) (e1 := [(0, .str w4), (19, .str w4), (20, .tpr 1000020 3 1 0 ((w6.1).length) [I6 w6.2]), (1000020, .obj 3 1 (List.map (AV.int .i64) w6.1))]) (by kernel_rfl) ?_
  refine WO.fin [0, 3, 4, 1000020] [] [] [] (e2 := [(0, .str w4), (3, .sb 1000020 3 1 0 ((w6.1).length)), (4, I6 w6.2), (1000020, .obj 3 1 (List.map (AV.int .i64) w6.1))]) (by kernel_rfl) (fun _ h => h) ?_
  refine W.seq ?_
  refine W.region (by kernel_rfl) ?_
  obtain ⟨w8, hw8, h⟩ := bind_some h
  refine WO.callK 1 (F := 16) (l := [.str w4]) (C := []) (r := .tup [l3 none w8.1, I6 w8.2]) (by kernel_rfl) (by kernel_rfl) (run_ix_Common fuel w4 w8 hw8) (e1 := [(0, .str w4), (3, .sb 1000020 3 1 0 ((w6.1).length)), (4, I6 w6.2), (24, .str w4), (25, .tup [l3 none w8.1, I6 w8.2]), (1000020, .obj 3 1 (List.map (AV.int .i64) w6.1))]) (by kernel_rfl) ?_
  refine WO.fin [0, 3, 4, 5, 6, 1000020] [] [] [] (e2 := [(0, .str w4), (3, .sb 1000020 3 1 0 ((w6.1).length)), (4, I6 w6.2), (5, l3 none w8.1), (6, I6 w8.2), (1000020, .obj 3 1 (List.map (AV.int .i64) w6.1))]) (by kernel_rfl) (fun _ h => h) ?_
  refine W.seq ?_
  refine W.region (by kernel_rfl) ?_
  obtain ⟨w10, hw10, h⟩ := bind_some h
  refine WO.callK 1 (F := 26) (l := [.str w4]) (C := []) (r := .tup [I6 w10.1, I6 w10.2]) (by kernel_rfl) (by kernel_rfl) (run_ix_Distinct fuel w4 w10 hw10) (e1 := [(0, .str w4), (3, .sb 1000020 3 1 0 ((w6.1).length)), (4, I6 w6.2), (5, l3 none w8.1), (6, I6 w8.2), (29, .str w4), (30, .tup [I6 w10.1, I6 w10.2]), (1000020, .obj 3 1 (List.map (AV.int .i64) w6.1))]) (by kernel_rfl) ?_
  refine WO.fin [0, 3, 4, 5, 6, 7, 8, 1000020] [] [] [] (e2 := [(0, .str w4), (3, .sb 1000020 3 1 0 ((w6.1).length)), (4, I6 w6.2), (5, l3 none w8.1), (6, I6 w8.2), (7, I6 w10.1), (8, I6 w10.2), (1000020, .obj 3 1 (List.map (AV.int .i64) w6.1))]) (by kernel_rfl) (fun _ h => h) ?_
  refine W.seq ?_
  refine W.seq ?_
  refine W.regT [0, 3, 4, 5, 6, 7, 8, 34, 1000020] [] [] [] (e2 := [(0, .str w4), (3, .sb 1000020 3 1 0 ((w6.1).length)), (4, I6 w6.2), (5, l3 none w8.1), (6, I6 w8.2), (7, I6 w10.1), (8, I6 w10.2), (34, .bool (w6.2 != 0)), (1000020, .obj 3 1 (List.map (AV.int .i64) w6.1))]) (by kernel_rfl) (by kernel_rfl) (fun _ h => h) ?_
  refine W.condB (w6.2 != 0) (by kernel_rfl) (fun hb => ?_) (fun hb => ?_)
  · replace h := cond_t hb h
    refine W.seq ?_
    refine W.join (σ := (Bool)) (fun s => [(2, .bool s)]) (fun s => (lw4_IndexSums_j13) s = some r) (fun s h => ?_) (fun hK13 => ?_)
    · obtain ⟨v15, rfl⟩ : ∃ x, x = s := ⟨s, rfl⟩
      have h : (lw4_IndexSums_j13) v15 = some r := h
      unfold lw4_IndexSums_j13 at h
      refine W.weak [2] [] [] [] (env' := [(2, .bool v15)]) (by kernel_rfl) ?_
      have hr : aresults Try.prog Try.f6 [(2, .bool v15)] = some (.bool v15) := by kernel_rfl
      cases h
      exact W.ret hr
    refine W.region (by kernel_rfl) ?_
    refine WO.boolK 3 (fun b => [(0, .str w4), (3, .sb 1000020 3 1 0 ((w6.1).length)), (4, I6 w6.2), (5, l3 none w8.1), (6, I6 w8.2), (7, I6 w10.1), (8, I6 w10.2), (34, .bool (w6.2 != 0)), (35, I6 w6.2), (36, .bool b), (37, .bool b), (1000020, .obj 3 1 (List.map (AV.int .i64) w6.1))]) (w6.2 == 2) (by kernel_rfl) (fun hb => ?_) (fun hb => ?_)
    · replace h := cond_t hb h
      refine WO.boolK 4 (fun b => [(0, .str w4), (3, .sb 1000020 3 1 0 ((w6.1).length)), (4, I6 w6.2), (5, l3 none w8.1), (6, I6 w8.2), (7, I6 w10.1), (8, I6 w10.2), (34, .bool (w6.2 != 0)), (35, I6 w6.2), (36, .bool true), (37, .bool true), (38, I6 w8.2), (39, .bool b), (40, .bool b), (41, .bool b), (1000020, .obj 3 1 (List.map (AV.int .i64) w6.1))]) (w8.2 == 2) (by kernel_rfl) (fun hb => ?_) (fun hb => ?_)
      · replace h := cond_t hb h
        refine WO.boolK 4 (fun b => [(0, .str w4), (3, .sb 1000020 3 1 0 ((w6.1).length)), (4, I6 w6.2), (5, l3 none w8.1), (6, I6 w8.2), (7, I6 w10.1), (8, I6 w10.2), (34, .bool (w6.2 != 0)), (35, I6 w6.2), (36, .bool true), (37, .bool true), (38, I6 w8.2), (39, .bool true), (40, .bool true), (41, .bool true), (42, I6 w10.2), (43, .bool b), (44, .bool b), (45, .bool b), (1000020, .obj 3 1 (List.map (AV.int .i64) w6.1))]) (w10.2 == 2) (by kernel_rfl) (fun hb => ?_) (fun hb => ?_)
        · replace h := cond_t hb h
          obtain ⟨w14, hw14, h⟩ := bind_some h
          refine WO.callK 0 (F := 18) (l := []) (C := []) (r := .bool w14) (by kernel_rfl) (by kernel_rfl) (run_lw4_awake fuel w14 hw14) (e1 := [(0, .str w4), (3, .sb 1000020 3 1 0 ((w6.1).length)), (4, I6 w6.2), (5, l3 none w8.1), (6, I6 w8.2), (7, I6 w10.1), (8, I6 w10.2), (34, .bool (w6.2 != 0)), (35, I6 w6.2), (36, .bool true), (37, .bool true), (38, I6 w8.2), (39, .bool true), (40, .bool true), (41, .bool true), (42, I6 w10.2), (43, .bool true), (44, .bool true), (45, .bool true), (46, .bool w14), (1000020, .obj 3 1 (List.map (AV.int .i64) w6.1))]) (by kernel_rfl) ?_
          refine WO.fin [2] [] [] [] (e2 := [(2, .bool w14)]) (by kernel_rfl) (fun _ h => h) ?_
          exact hK13 w14 h
        replace h := cond_f hb h
        refine WO.fin [2] [] [] [] (e2 := [(2, .bool false)]) (by kernel_rfl) (fun _ h => h) ?_
        exact hK13 false h
      replace h := cond_f hb h
      refine WO.fin [2] [] [] [] (e2 := [(2, .bool false)]) (by kernel_rfl) (fun _ h => h) ?_
      exact hK13 false h
    replace h := cond_f hb h
    refine WO.fin [2] [] [] [] (e2 := [(2, .bool false)]) (by kernel_rfl) (fun _ h => h) ?_
    exact hK13 false h
  replace h := cond_f hb h
  refine W.skip ?_
  refine W.weak [0, 3, 5, 6, 7, 8, 1000020] [] [] [] (env' := [(0, .str w4), (3, .sb 1000020 3 1 0 ((w6.1).length)), (5, l3 none w8.1), (6, I6 w8.2), (7, I6 w10.1), (8, I6 w10.2), (1000020, .obj 3 1 (List.map (AV.int .i64) w6.1))]) (by kernel_rfl) ?_
  refine W.seq ?_
  refine W.join (σ := (Int)) (fun s => [(0, .str w4), (3, .sb 1000020 3 1 0 ((w6.1).length)), (6, I6 w8.2), (7, I6 s), (8, I6 w10.2), (1000020, .obj 3 1 (List.map (AV.int .i64) w6.1))]) (fun s => (lw4_IndexSums_j16 fuel w4 w6 w8 w10) s = some r) (fun s h => ?_) (fun hK16 => ?_)
  · obtain ⟨v21, rfl⟩ : ∃ x, x = s := ⟨s, rfl⟩
    have h : (lw4_IndexSums_j16 fuel w4 w6 w8 w10) v21 = some r := h
    unfold lw4_IndexSums_j16 at h
    refine W.seq ?_
    refine W.join (σ := Unit) (fun s => [(0, .str w4), (3, .sb 1000020 3 1 0 ((w6.1).length)), (6, I6 w8.2), (7, I6 v21), (8, I6 w10.2), (1000020, .obj 3 1 (List.map (AV.int .i64) w6.1))]) (fun s => (lw4_IndexSums_j22 fuel w4 w6 w8 w10 v21) = some r) (fun s h => ?_) (fun hK22 => ?_)
    · have h : (lw4_IndexSums_j22 fuel w4 w6 w8 w10 v21) = some r := h
      unfold lw4_IndexSums_j22 at h
      refine W.seq ?_
      refine W.region (by kernel_rfl) ?_
      obtain ⟨w39, hw39, h⟩ := bind_some h
      refine WO.callMK 1 [(1000020, 2000000)] [] (F := 31) (args := [.sb 2000000 3 1 0 ((w6.1).length)]) (hp := [(2000000, .obj 3 1 (List.map (AV.int .i64) w6.1))]) (hp2 := [O1 w39]) (r := .tup []) (by kernel_rfl) (run_sl_Sort_int w6.1 ((w6.1).length) w39 hw39) (e1 := [(0, .str w4), (3, .sb 1000020 3 1 0 ((w6.1).length)), (6, I6 w8.2), (7, I6 v21), (8, I6 w10.2), (100, .sb 1000020 3 1 0 ((w6.1).length)), (101, .tup []), (1000020, .obj 3 1 (List.map (AV.int .i64) w39))]) (by kernel_rfl) ?_
      refine WO.fin [0, 3, 6, 7, 8, 1000020] [] [] [] (e2 := [(0, .str w4), (3, .sb 1000020 3 1 0 ((w6.1).length)), (6, I6 w8.2), (7, I6 v21), (8, I6 w10.2), (1000020, .obj 3 1 (List.map (AV.int .i64) w39))]) (by kernel_rfl) (fun _ h => h) ?_
      refine W.seq ?_
      refine W.join (σ := Unit) (fun s => [(0, .str w4), (3, .sb 1000020 3 1 0 ((w6.1).length)), (6, I6 w8.2), (7, I6 v21), (8, I6 w10.2), (1000020, .obj 3 1 (List.map (AV.int .i64) w39))]) (fun s => (lw4_IndexSums_j40 fuel w4 w6 w8 w10 v21) = some r) (fun s h => ?_) (fun hK40 => ?_)
      · have h : (lw4_IndexSums_j40 fuel w4 w6 w8 w10 v21) = some r := h
        unfold lw4_IndexSums_j40 at h
        refine W.seq ?_
        refine W.join (σ := (Bool)) (fun s => [(2, .bool s)]) (fun s => (lw4_IndexSums_j48) s = some r) (fun s h => ?_) (fun hK48 => ?_)
        · obtain ⟨v50, rfl⟩ : ∃ x, x = s := ⟨s, rfl⟩
          have h : (lw4_IndexSums_j48) v50 = some r := h
          unfold lw4_IndexSums_j48 at h
          refine W.weak [2] [] [] [] (env' := [(2, .bool v50)]) (by kernel_rfl) ?_
          have hr : aresults Try.prog Try.f6 [(2, .bool v50)] = some (.bool v50) := by kernel_rfl
          cases h
          exact W.ret hr
        refine W.region (by kernel_rfl) ?_
        refine WO.boolK 3 (fun b => [(0, .str w4), (3, .sb 1000020 3 1 0 ((w6.1).length)), (6, I6 w8.2), (7, I6 v21), (8, I6 w10.2), (113, I6 w8.2), (114, .bool b), (115, .bool b), (1000020, .obj 3 1 (List.map (AV.int .i64) w39))]) (w8.2 == 0) (by kernel_rfl) (fun hb => ?_) (fun hb => ?_)
        · replace h := cond_t hb h
          refine WO.boolK 4 (fun b => [(0, .str w4), (3, .sb 1000020 3 1 0 ((w6.1).length)), (6, I6 w8.2), (7, I6 v21), (8, I6 w10.2), (113, I6 w8.2), (114, .bool true), (115, .bool true), (116, I6 w10.2), (117, .bool b), (118, .bool b), (119, .bool b), (1000020, .obj 3 1 (List.map (AV.int .i64) w39))]) (w10.2 == 0) (by kernel_rfl) (fun hb => ?_) (fun hb => ?_)
          · replace h := cond_t hb h
            refine WO.boolK 8 (fun b => [(0, .str w4), (3, .sb 1000020 3 1 0 ((w6.1).length)), (6, I6 w8.2), (7, I6 v21), (8, I6 w10.2), (113, I6 w8.2), (114, .bool true), (115, .bool true), (116, I6 w10.2), (117, .bool true), (118, .bool true), (119, .bool true), (120, .sb 1000020 3 1 0 ((w6.1).length)), (121, I6 (((w6.1).length : Nat) : Int)), (122, .str w4), (123, I6 (w4.size : Int)), (124, I6 (W6 ((w4.size : Int) + 1))), (125, .bool b), (126, .bool b), (127, .bool b), (1000020, .obj 3 1 (List.map (AV.int .i64) w39))]) ((((w6.1).length : Nat) : Int) == (W6 ((w4.size : Int) + 1))) (by kernel_rfl) (fun hb => ?_) (fun hb => ?_)
            · replace h := cond_t hb h
              refine WO.boolK 11 (fun b => [(0, .str w4), (3, .sb 1000020 3 1 0 ((w6.1).length)), (6, I6 w8.2), (7, I6 v21), (8, I6 w10.2), (113, I6 w8.2), (114, .bool true), (115, .bool true), (116, I6 w10.2), (117, .bool true), (118, .bool true), (119, .bool true), (120, .sb 1000020 3 1 0 ((w6.1).length)), (121, I6 (((w6.1).length : Nat) : Int)), (122, .str w4), (123, I6 (w4.size : Int)), (124, I6 (W6 ((w4.size : Int) + 1))), (125, .bool true), (126, .bool true), (127, .bool true), (128, I6 v21), (129, .str w4), (130, I6 (w4.size : Int)), (131, .str w4), (132, I6 (w4.size : Int)), (133, I6 (W6 ((w4.size : Int) + 1))), (134, I6 (W6 ((w4.size : Int) * (W6 ((w4.size : Int) + 1))))), (135, I6 (W6 (((W6 ((w4.size : Int) * (W6 ((w4.size : Int) + 1))))).tdiv 2))), (136, .bool b), (137, .bool b), (138, .bool b), (1000020, .obj 3 1 (List.map (AV.int .i64) w39))]) (v21 == (W6 (((W6 ((w4.size : Int) * (W6 ((w4.size : Int) + 1))))).tdiv 2))) (by kernel_rfl) (fun hb => ?_) (fun hb => ?_)
              · replace h := cond_t hb h
                obtain ⟨w49, hw49, h⟩ := bind_some h
                refine WO.callK 0 (F := 18) (l := []) (C := []) (r := .bool w49) (by kernel_rfl) (by kernel_rfl) (run_lw4_awake fuel w49 hw49) (e1 := [(0, .str w4), (3, .sb 1000020 3 1 0 ((w6.1).length)), (6, I6 w8.2), (7, I6 v21), (8, I6 w10.2), (113, I6 w8.2), (114, .bool true), (115, .bool true), (116, I6 w10.2), (117, .bool true), (118, .bool true), (119, .bool true), (120, .sb 1000020 3 1 0 ((w6.1).length)), (121, I6 (((w6.1).length : Nat) : Int)), (122, .str w4), (123, I6 (w4.size : Int)), (124, I6 (W6 ((w4.size : Int) + 1))), (125, .bool true), (126, .bool true), (127, .bool true), (128, I6 v21), (129, .str w4), (130, I6 (w4.size : Int)), (131, .str w4), (132, I6 (w4.size : Int)), (133, I6 (W6 ((w4.size : Int) + 1))), (134, I6 (W6 ((w4.size : Int) * (W6 ((w4.size : Int) + 1))))), (135, I6 (W6 (((W6 ((w4.size : Int) * (W6 ((w4.size : Int) + 1))))).tdiv 2))), (136, .bool true), (137, .bool true), (138, .bool true), (139, .bool w49), (1000020, .obj 3 1 (List.map (AV.int .i64) w39))]) (by kernel_rfl) ?_
                refine WO.fin [2] [] [] [] (e2 := [(2, .bool w49)]) (by kernel_rfl) (fun _ h => h) ?_
                exact hK48 w49 h
              replace h := cond_f hb h
              refine WO.fin [2] [] [] [] (e2 := [(2, .bool false)]) (by kernel_rfl) (fun _ h => h) ?_
              exact hK48 false h
            replace h := cond_f hb h
            refine WO.fin [2] [] [] [] (e2 := [(2, .bool false)]) (by kernel_rfl) (fun _ h => h) ?_
            exact hK48 false h
          replace h := cond_f hb h
          refine WO.fin [2] [] [] [] (e2 := [(2, .bool false)]) (by kernel_rfl) (fun _ h => h) ?_
          exact hK48 false h
        replace h := cond_f hb h
        refine WO.fin [2] [] [] [] (e2 := [(2, .bool false)]) (by kernel_rfl) (fun _ h => h) ?_
        exact hK48 false h
      refine W.seq ?_
      refine W.regT [0, 3, 6, 7, 8, 102, 103, 104, 1000020] [] [] [] (e2 := [(0, .str w4), (3, .sb 1000020 3 1 0 ((w6.1).length)), (6, I6 w8.2), (7, I6 v21), (8, I6 w10.2), (102, .sb 1000020 3 1 0 ((w6.1).length)), (103, I6 (((w6.1).length : Nat) : Int)), (104, .int .i64 0), (1000020, .obj 3 1 (List.map (AV.int .i64) w39))]) (by kernel_rfl) (by kernel_rfl) (fun _ h => h) ?_
      refine W.block ?_
      obtain ⟨hl3, h⟩ := chk_some h
      refine W.weak [0, 3, 6, 7, 8, 102, 103, 104, 1000020] [] [] [] (env' := [(0, .str w4), (3, .sb 1000020 3 1 0 ((w6.1).length)), (6, I6 w8.2), (7, I6 v21), (8, I6 w10.2), (102, .sb 1000020 3 1 0 ((w6.1).length)), (103, I6 (((w6.1).length : Nat) : Int)), (104, I6 ((0 : Nat) : Int)), (1000020, .obj 3 1 (List.map (AV.int .i64) w39))]) (by kernel_rfl) ?_
      refine W.range (σ := Unit) (List.range (Int.toNat (((w6.1).length : Nat) : Int))) (fun k3 s => [(0, .str w4), (3, .sb 1000020 3 1 0 ((w6.1).length)), (6, I6 w8.2), (7, I6 v21), (8, I6 w10.2), (102, .sb 1000020 3 1 0 ((w6.1).length)), (103, I6 (((w6.1).length : Nat) : Int)), (104, I6 (k3 : Int)), (1000020, .obj 3 1 (List.map (AV.int .i64) w39))]) (fun r0 k0 s => lw4_IndexSums_l3 w6 w39 (lw4_IndexSums_j40 fuel w4 w6 w8 w10 v21) r0 k0 = some r) (fun s h => ?_) (fun x3 r3 k3 s hx3 hk3 h hN3 => ?_) () h
      · have h : lw4_IndexSums_l3 w6 w39 (lw4_IndexSums_j40 fuel w4 w6 w8 w10 v21) [] ((List.range (Int.toNat (((w6.1).length : Nat) : Int)))).length = some r := h
        rw [lw4_IndexSums_l3.eq_1] at h
        refine W.seq ?_
        refine W.region (by kernel_rfl) ?_
        refine WO.pureK 0 (some (.bool (decide ((((List.range (Int.toNat (((w6.1).length : Nat) : Int)))).length : Int) < (((w6.1).length : Nat) : Int))))) (v := .bool false) (by kernel_rfl) (by rw [ltr_false (n := (((w6.1).length : Nat) : Int))]) (e1 := [(0, .str w4), (3, .sb 1000020 3 1 0 ((w6.1).length)), (6, I6 w8.2), (7, I6 v21), (8, I6 w10.2), (102, .sb 1000020 3 1 0 ((w6.1).length)), (103, I6 (((w6.1).length : Nat) : Int)), (104, I6 (((List.range (Int.toNat (((w6.1).length : Nat) : Int)))).length : Int)), (105, .bool false), (1000020, .obj 3 1 (List.map (AV.int .i64) w39))]) (by kernel_rfl) ?_
        refine WO.fin ([0, 3, 6, 7, 8, 102, 103, 104, 105, 1000020]) [] [] [] (e2 := [(0, .str w4), (3, .sb 1000020 3 1 0 ((w6.1).length)), (6, I6 w8.2), (7, I6 v21), (8, I6 w10.2), (102, .sb 1000020 3 1 0 ((w6.1).length)), (103, I6 (((w6.1).length : Nat) : Int)), (104, I6 (((List.range (Int.toNat (((w6.1).length : Nat) : Int)))).length : Int)), (105, .bool false), (1000020, .obj 3 1 (List.map (AV.int .i64) w39))]) (by kernel_rfl) (fun _ h => h) ?_
        refine W.seq ?_
        refine W.condB false (by kernel_rfl) (fun h => Bool.noConfusion h) (fun _ => ?_)
        refine W.exit ?_
        refine W.weak [0, 3, 6, 7, 8, 1000020] [] [] [] (env' := [(0, .str w4), (3, .sb 1000020 3 1 0 ((w6.1).length)), (6, I6 w8.2), (7, I6 v21), (8, I6 w10.2), (1000020, .obj 3 1 (List.map (AV.int .i64) w39))]) (by kernel_rfl) ?_
        exact hK40 () h
      · have h : lw4_IndexSums_l3 w6 w39 (lw4_IndexSums_j40 fuel w4 w6 w8 w10 v21) (x3 :: r3) k3 = some r := h
        rw [lw4_IndexSums_l3.eq_2] at h
        refine W.seq ?_
        refine W.region (by kernel_rfl) ?_
        refine WO.pureK 0 (some (.bool (decide ((k3 : Int) < (((w6.1).length : Nat) : Int))))) (v := .bool true) (by kernel_rfl) (by rw [ltr_true hk3]) (e1 := [(0, .str w4), (3, .sb 1000020 3 1 0 ((w6.1).length)), (6, I6 w8.2), (7, I6 v21), (8, I6 w10.2), (102, .sb 1000020 3 1 0 ((w6.1).length)), (103, I6 (((w6.1).length : Nat) : Int)), (104, I6 (k3 : Int)), (105, .bool true), (1000020, .obj 3 1 (List.map (AV.int .i64) w39))]) (by kernel_rfl) ?_
        refine WO.fin ([0, 3, 6, 7, 8, 102, 103, 104, 105, 1000020]) [] [] [] (e2 := [(0, .str w4), (3, .sb 1000020 3 1 0 ((w6.1).length)), (6, I6 w8.2), (7, I6 v21), (8, I6 w10.2), (102, .sb 1000020 3 1 0 ((w6.1).length)), (103, I6 (((w6.1).length : Nat) : Int)), (104, I6 (k3 : Int)), (105, .bool true), (1000020, .obj 3 1 (List.map (AV.int .i64) w39))]) (by kernel_rfl) (fun _ h => h) ?_
        refine W.seq ?_
        refine W.condB true (by kernel_rfl) (fun _ => ?_) (fun h => Bool.noConfusion h)
        refine W.skip ?_
        refine W.weak [0, 3, 6, 7, 8, 102, 103, 104, 1000020] [] [] [] (env' := [(0, .str w4), (3, .sb 1000020 3 1 0 ((w6.1).length)), (6, I6 w8.2), (7, I6 v21), (8, I6 w10.2), (102, .sb 1000020 3 1 0 ((w6.1).length)), (103, I6 (((w6.1).length : Nat) : Int)), (104, I6 (k3 : Int)), (1000020, .obj 3 1 (List.map (AV.int .i64) w39))]) (by kernel_rfl) ?_
        refine W.seq ?_
        refine W.block ?_
        refine W.seq ?_
        refine W.region (by kernel_rfl) ?_
        obtain ⟨hc44, h⟩ := chk_some h
        refine WO.pureK 1 (if (0 : Int) ≤ (k3 : Int) ∧ (k3 : Int) < (((w6.1).length : Nat) : Int) then some (.pe 1000020 1 (0 + Int.toNat (k3 : Int)) 0) else none) (v := .pe 1000020 1 (0 + Int.toNat (k3 : Int)) 0) (by kernel_rfl) (ite_some hc44) (e1 := [(0, .str w4), (3, .sb 1000020 3 1 0 ((w6.1).length)), (6, I6 w8.2), (7, I6 v21), (8, I6 w10.2), (102, .sb 1000020 3 1 0 ((w6.1).length)), (103, I6 (((w6.1).length : Nat) : Int)), (104, I6 (k3 : Int)), (106, I6 (k3 : Int)), (107, .pe 1000020 1 (0 + Int.toNat (k3 : Int)) 0), (1000020, .obj 3 1 (List.map (AV.int .i64) w39))]) (by kernel_rfl) ?_
        obtain ⟨e45, he45, h⟩ := bind_some h
        refine WO.pureK 0 (match (List.map (AV.int .i64) w39)[(0 + Int.toNat (k3 : Int))]? with | some y => cut Try.prog 3 (y.cells.map AV.strip) 0 | none => none) (v := I6 e45) (by kernel_rfl) ((pe_ld (f := (AV.int .i64)) (G := (fun y => cut Try.prog 3 (y.cells.map AV.strip) 0)) he45).trans (by kernel_rfl)) (e1 := [(0, .str w4), (3, .sb 1000020 3 1 0 ((w6.1).length)), (6, I6 w8.2), (7, I6 v21), (8, I6 w10.2), (102, .sb 1000020 3 1 0 ((w6.1).length)), (103, I6 (((w6.1).length : Nat) : Int)), (104, I6 (k3 : Int)), (106, I6 (k3 : Int)), (107, .pe 1000020 1 (0 + Int.toNat (k3 : Int)) 0), (108, I6 e45), (1000020, .obj 3 1 (List.map (AV.int .i64) w39))]) (by kernel_rfl) ?_
        refine WO.fin [0, 3, 6, 7, 8, 14, 15, 102, 103, 104, 1000020] [] [] [] (e2 := [(0, .str w4), (3, .sb 1000020 3 1 0 ((w6.1).length)), (6, I6 w8.2), (7, I6 v21), (8, I6 w10.2), (14, I6 (k3 : Int)), (15, I6 e45), (102, .sb 1000020 3 1 0 ((w6.1).length)), (103, I6 (((w6.1).length : Nat) : Int)), (104, I6 (k3 : Int)), (1000020, .obj 3 1 (List.map (AV.int .i64) w39))]) (by kernel_rfl) (fun _ h => h) ?_
        refine W.seq ?_
        refine W.regT [0, 3, 6, 7, 8, 102, 103, 104, 111, 1000020] [] [] [] (e2 := [(0, .str w4), (3, .sb 1000020 3 1 0 ((w6.1).length)), (6, I6 w8.2), (7, I6 v21), (8, I6 w10.2), (102, .sb 1000020 3 1 0 ((w6.1).length)), (103, I6 (((w6.1).length : Nat) : Int)), (104, I6 (k3 : Int)), (111, .bool ((k3 : Int) != e45)), (1000020, .obj 3 1 (List.map (AV.int .i64) w39))]) (by kernel_rfl) (by kernel_rfl) (fun _ h => h) ?_
        refine W.condB ((k3 : Int) != e45) (by kernel_rfl) (fun hb => ?_) (fun hb => ?_)
        · replace h := cond_t hb h
          refine W.seq ?_
          refine W.regT [2] [] [] [] (e2 := [(2, .bool false)]) (by kernel_rfl) (by kernel_rfl) (fun _ h => h) ?_
          refine W.weak [2] [] [] [] (env' := [(2, .bool false)]) (by kernel_rfl) ?_
          have hr : aresults Try.prog Try.f6 [(2, .bool false)] = some (.bool false) := by kernel_rfl
          cases h
          exact W.ret hr
        replace h := cond_f hb h
        refine W.skip ?_
        refine W.weak [0, 3, 6, 7, 8, 102, 103, 104, 1000020] [] [] [] (env' := [(0, .str w4), (3, .sb 1000020 3 1 0 ((w6.1).length)), (6, I6 w8.2), (7, I6 v21), (8, I6 w10.2), (102, .sb 1000020 3 1 0 ((w6.1).length)), (103, I6 (((w6.1).length : Nat) : Int)), (104, I6 (k3 : Int)), (1000020, .obj 3 1 (List.map (AV.int .i64) w39))]) (by kernel_rfl) ?_
        refine W.region (by kernel_rfl) ?_
        refine WO.pureK 0 (some (I6 (IntKind.wrap .i64 ((k3 : Int) + 1)))) (v := I6 ((k3 + 1 : Nat) : Int)) (by kernel_rfl) (by rw [wrap_succ hl3 hk3]) (e1 := [(0, .str w4), (3, .sb 1000020 3 1 0 ((w6.1).length)), (6, I6 w8.2), (7, I6 v21), (8, I6 w10.2), (102, .sb 1000020 3 1 0 ((w6.1).length)), (103, I6 (((w6.1).length : Nat) : Int)), (104, I6 (k3 : Int)), (112, I6 ((k3 + 1 : Nat) : Int)), (1000020, .obj 3 1 (List.map (AV.int .i64) w39))]) (by kernel_rfl) ?_
        refine WO.fin [0, 3, 6, 7, 8, 102, 103, 104, 1000020] [] [] [] (e2 := [(0, .str w4), (3, .sb 1000020 3 1 0 ((w6.1).length)), (6, I6 w8.2), (7, I6 v21), (8, I6 w10.2), (102, .sb 1000020 3 1 0 ((w6.1).length)), (103, I6 (((w6.1).length : Nat) : Int)), (104, I6 ((k3 + 1 : Nat) : Int)), (1000020, .obj 3 1 (List.map (AV.int .i64) w39))]) (by kernel_rfl) (fun _ h => h) ?_
        exact hN3 () h
    refine W.seq ?_
    refine W.regT [0, 3, 6, 7, 8, 11, 1000020] [] [] [] (e2 := [(0, .str w4), (3, .sb 1000020 3 1 0 ((w6.1).length)), (6, I6 w8.2), (7, I6 v21), (8, I6 w10.2), (11, .int .i64 1), (1000020, .obj 3 1 (List.map (AV.int .i64) w6.1))]) (by kernel_rfl) (by kernel_rfl) (fun _ h => h) ?_
    refine W.block ?_
    refine W.weak [0, 3, 6, 7, 8, 11, 1000020] [] [] [] (env' := [(0, .str w4), (3, .sb 1000020 3 1 0 ((w6.1).length)), (6, I6 w8.2), (7, I6 v21), (8, I6 w10.2), (11, .int .i64 1), (1000020, .obj 3 1 (List.map (AV.int .i64) w6.1))]) (by kernel_rfl) ?_
    refine W.fuel (σ := (Int)) (fun s => [(0, .str w4), (3, .sb 1000020 3 1 0 ((w6.1).length)), (6, I6 w8.2), (7, I6 v21), (8, I6 w10.2), (11, I6 s), (1000020, .obj 3 1 (List.map (AV.int .i64) w6.1))]) (fun m0 s => lw4_IndexSums_l2 w4 w6 (lw4_IndexSums_j22 fuel w4 w6 w8 w10 v21) m0 s = some r) (fun s h => ?_) (fun m2 s h hN2 => ?_) fuel 1 h
    · obtain ⟨v24, rfl⟩ : ∃ x, x = s := ⟨s, rfl⟩
      have h : lw4_IndexSums_l2 w4 w6 (lw4_IndexSums_j22 fuel w4 w6 w8 w10 v21) 0 v24 = some r := h
      rw [lw4_IndexSums_l2.eq_1] at h
      cases h
    · obtain ⟨v24, rfl⟩ : ∃ x, x = s := ⟨s, rfl⟩
      have h : lw4_IndexSums_l2 w4 w6 (lw4_IndexSums_j22 fuel w4 w6 w8 w10 v21) (m2 + 1) v24 = some r := h
      rw [lw4_IndexSums_l2.eq_2] at h
      refine W.seq ?_
      refine W.seq ?_
      refine W.regT [0, 3, 6, 7, 8, 11, 61, 1000020] [] [] [] (e2 := [(0, .str w4), (3, .sb 1000020 3 1 0 ((w6.1).length)), (6, I6 w8.2), (7, I6 v21), (8, I6 w10.2), (11, I6 v24), (61, .bool (decide (v24 < (((w6.1).length : Nat) : Int)))), (1000020, .obj 3 1 (List.map (AV.int .i64) w6.1))]) (by kernel_rfl) (by kernel_rfl) (fun _ h => h) ?_
      refine W.condB (decide (v24 < (((w6.1).length : Nat) : Int))) (by kernel_rfl) (fun hb => ?_) (fun hb => ?_)
      · replace h := cond_t hb h
        refine W.skip ?_
        refine W.weak [0, 3, 6, 7, 8, 11, 1000020] [] [] [] (env' := [(0, .str w4), (3, .sb 1000020 3 1 0 ((w6.1).length)), (6, I6 w8.2), (7, I6 v21), (8, I6 w10.2), (11, I6 v24), (1000020, .obj 3 1 (List.map (AV.int .i64) w6.1))]) (by kernel_rfl) ?_
        refine W.seq ?_
        refine W.block ?_
        refine W.seq ?_
        refine W.region (by kernel_rfl) ?_
        obtain ⟨hc29, h⟩ := chk_some h
        refine WO.pureK 3 (if (0 : Int) ≤ (W6 (v24 - 1)) ∧ (W6 (v24 - 1)) < (((w6.1).length : Nat) : Int) then some (.pe 1000020 1 (0 + Int.toNat (W6 (v24 - 1))) 0) else none) (v := .pe 1000020 1 (0 + Int.toNat (W6 (v24 - 1))) 0) (by kernel_rfl) (ite_some hc29) (e1 := [(0, .str w4), (3, .sb 1000020 3 1 0 ((w6.1).length)), (6, I6 w8.2), (7, I6 v21), (8, I6 w10.2), (11, I6 v24), (64, .sb 1000020 3 1 0 ((w6.1).length)), (65, I6 v24), (66, I6 (W6 (v24 - 1))), (67, .pe 1000020 1 (0 + Int.toNat (W6 (v24 - 1))) 0), (1000020, .obj 3 1 (List.map (AV.int .i64) w6.1))]) (by kernel_rfl) ?_
        obtain ⟨e30, he30, h⟩ := bind_some h
        refine WO.pureK 0 (match (List.map (AV.int .i64) w6.1)[(0 + Int.toNat (W6 (v24 - 1)))]? with | some y => cut Try.prog 3 (y.cells.map AV.strip) 0 | none => none) (v := I6 e30) (by kernel_rfl) ((pe_ld (f := (AV.int .i64)) (G := (fun y => cut Try.prog 3 (y.cells.map AV.strip) 0)) he30).trans (by kernel_rfl)) (e1 := [(0, .str w4), (3, .sb 1000020 3 1 0 ((w6.1).length)), (6, I6 w8.2), (7, I6 v21), (8, I6 w10.2), (11, I6 v24), (64, .sb 1000020 3 1 0 ((w6.1).length)), (65, I6 v24), (66, I6 (W6 (v24 - 1))), (67, .pe 1000020 1 (0 + Int.toNat (W6 (v24 - 1))) 0), (68, I6 e30), (1000020, .obj 3 1 (List.map (AV.int .i64) w6.1))]) (by kernel_rfl) ?_
        obtain ⟨hc31, h⟩ := chk_some h
        refine WO.pureK 2 (if (0 : Int) ≤ v24 ∧ v24 < (((w6.1).length : Nat) : Int) then some (.pe 1000020 1 (0 + Int.toNat v24) 0) else none) (v := .pe 1000020 1 (0 + Int.toNat v24) 0) (by kernel_rfl) (ite_some hc31) (e1 := [(0, .str w4), (3, .sb 1000020 3 1 0 ((w6.1).length)), (6, I6 w8.2), (7, I6 v21), (8, I6 w10.2), (11, I6 v24), (64, .sb 1000020 3 1 0 ((w6.1).length)), (65, I6 v24), (66, I6 (W6 (v24 - 1))), (67, .pe 1000020 1 (0 + Int.toNat (W6 (v24 - 1))) 0), (68, I6 e30), (69, .sb 1000020 3 1 0 ((w6.1).length)), (70, I6 v24), (71, .pe 1000020 1 (0 + Int.toNat v24) 0), (1000020, .obj 3 1 (List.map (AV.int .i64) w6.1))]) (by kernel_rfl) ?_
        obtain ⟨e32, he32, h⟩ := bind_some h
        refine WO.pureK 0 (match (List.map (AV.int .i64) w6.1)[(0 + Int.toNat v24)]? with | some y => cut Try.prog 3 (y.cells.map AV.strip) 0 | none => none) (v := I6 e32) (by kernel_rfl) ((pe_ld (f := (AV.int .i64)) (G := (fun y => cut Try.prog 3 (y.cells.map AV.strip) 0)) he32).trans (by kernel_rfl)) (e1 := [(0, .str w4), (3, .sb 1000020 3 1 0 ((w6.1).length)), (6, I6 w8.2), (7, I6 v21), (8, I6 w10.2), (11, I6 v24), (64, .sb 1000020 3 1 0 ((w6.1).length)), (65, I6 v24), (66, I6 (W6 (v24 - 1))), (67, .pe 1000020 1 (0 + Int.toNat (W6 (v24 - 1))) 0), (68, I6 e30), (69, .sb 1000020 3 1 0 ((w6.1).length)), (70, I6 v24), (71, .pe 1000020 1 (0 + Int.toNat v24) 0), (72, I6 e32), (1000020, .obj 3 1 (List.map (AV.int .i64) w6.1))]) (by kernel_rfl) ?_
        refine WO.fin [0, 3, 6, 7, 8, 11, 12, 13, 1000020] [] [] [] (e2 := [(0, .str w4), (3, .sb 1000020 3 1 0 ((w6.1).length)), (6, I6 w8.2), (7, I6 v21), (8, I6 w10.2), (11, I6 v24), (12, I6 e30), (13, I6 e32), (1000020, .obj 3 1 (List.map (AV.int .i64) w6.1))]) (by kernel_rfl) (fun _ h => h) ?_
        refine W.seq ?_
        refine W.join (σ := (Bool)) (fun s => [(0, .str w4), (3, .sb 1000020 3 1 0 ((w6.1).length)), (6, I6 w8.2), (7, I6 v21), (8, I6 w10.2), (11, I6 v24), (99, .bool s), (1000020, .obj 3 1 (List.map (AV.int .i64) w6.1))]) (fun s => (lw4_IndexSums_j33 v24 (lw4_IndexSums_l2 w4 w6 (lw4_IndexSums_j22 fuel w4 w6 w8 w10 v21) m2)) s = some r) (fun s h => ?_) (fun hK33 => ?_)
        · obtain ⟨v36, rfl⟩ : ∃ x, x = s := ⟨s, rfl⟩
          have h : (lw4_IndexSums_j33 v24 (lw4_IndexSums_l2 w4 w6 (lw4_IndexSums_j22 fuel w4 w6 w8 w10 v21) m2)) v36 = some r := h
          unfold lw4_IndexSums_j33 at h
          refine W.condB v36 (by kernel_rfl) (fun hb => ?_) (fun hb => ?_)
          · replace h := cond_t hb h
            refine W.seq ?_
            refine W.regT [2] [] [] [] (e2 := [(2, .bool false)]) (by kernel_rfl) (by kernel_rfl) (fun _ h => h) ?_
            refine W.weak [2] [] [] [] (env' := [(2, .bool false)]) (by kernel_rfl) ?_
            have hr : aresults Try.prog Try.f6 [(2, .bool false)] = some (.bool false) := by kernel_rfl
            cases h
            exact W.ret hr
          replace h := cond_f hb h
          refine W.skip ?_
          refine W.weak [0, 3, 6, 7, 8, 11, 1000020] [] [] [] (env' := [(0, .str w4), (3, .sb 1000020 3 1 0 ((w6.1).length)), (6, I6 w8.2), (7, I6 v21), (8, I6 w10.2), (11, I6 v24), (1000020, .obj 3 1 (List.map (AV.int .i64) w6.1))]) (by kernel_rfl) ?_
          refine W.regT [0, 3, 6, 7, 8, 11, 1000020] [] [] [] (e2 := [(0, .str w4), (3, .sb 1000020 3 1 0 ((w6.1).length)), (6, I6 w8.2), (7, I6 v21), (8, I6 w10.2), (11, I6 (W6 (v24 + 1))), (1000020, .obj 3 1 (List.map (AV.int .i64) w6.1))]) (by kernel_rfl) (by kernel_rfl) (fun _ h => h) ?_
          exact hN2 (W6 (v24 + 1)) h
        refine W.region (by kernel_rfl) ?_
        refine WO.boolK 3 (fun b => [(0, .str w4), (3, .sb 1000020 3 1 0 ((w6.1).length)), (6, I6 w8.2), (7, I6 v21), (8, I6 w10.2), (11, I6 v24), (12, I6 e30), (13, I6 e32), (73, I6 e30), (74, .bool b), (75, .bool b), (1000020, .obj 3 1 (List.map (AV.int .i64) w6.1))]) (decide (e30 < 0)) (by kernel_rfl) (fun hb => ?_) (fun hb => ?_)
        · replace h := cond_t hb h
          refine WO.fin [0, 3, 6, 7, 8, 11, 99, 1000020] [] [] [] (e2 := [(0, .str w4), (3, .sb 1000020 3 1 0 ((w6.1).length)), (6, I6 w8.2), (7, I6 v21), (8, I6 w10.2), (11, I6 v24), (99, .bool true), (1000020, .obj 3 1 (List.map (AV.int .i64) w6.1))]) (by kernel_rfl) (fun _ h => h) ?_
          exact hK33 true h
        replace h := cond_f hb h
        refine WO.boolK 4 (fun b => [(0, .str w4), (3, .sb 1000020 3 1 0 ((w6.1).length)), (6, I6 w8.2), (7, I6 v21), (8, I6 w10.2), (11, I6 v24), (12, I6 e30), (13, I6 e32), (73, I6 e30), (74, .bool false), (75, .bool false), (76, I6 e32), (77, .bool b), (78, .bool b), (79, .bool b), (1000020, .obj 3 1 (List.map (AV.int .i64) w6.1))]) (decide (e32 < 0)) (by kernel_rfl) (fun hb => ?_) (fun hb => ?_)
        · replace h := cond_t hb h
          refine WO.fin [0, 3, 6, 7, 8, 11, 99, 1000020] [] [] [] (e2 := [(0, .str w4), (3, .sb 1000020 3 1 0 ((w6.1).length)), (6, I6 w8.2), (7, I6 v21), (8, I6 w10.2), (11, I6 v24), (99, .bool true), (1000020, .obj 3 1 (List.map (AV.int .i64) w6.1))]) (by kernel_rfl) (fun _ h => h) ?_
          exact hK33 true h
        replace h := cond_f hb h
        refine WO.boolK 6 (fun b => [(0, .str w4), (3, .sb 1000020 3 1 0 ((w6.1).length)), (6, I6 w8.2), (7, I6 v21), (8, I6 w10.2), (11, I6 v24), (12, I6 e30), (13, I6 e32), (73, I6 e30), (74, .bool false), (75, .bool false), (76, I6 e32), (77, .bool false), (78, .bool false), (79, .bool false), (80, I6 e30), (81, .str w4), (82, I6 (w4.size : Int)), (83, .bool b), (84, .bool b), (85, .bool b), (1000020, .obj 3 1 (List.map (AV.int .i64) w6.1))]) (decide (e30 > (w4.size : Int))) (by kernel_rfl) (fun hb => ?_) (fun hb => ?_)
        · replace h := cond_t hb h
          refine WO.fin [0, 3, 6, 7, 8, 11, 99, 1000020] [] [] [] (e2 := [(0, .str w4), (3, .sb 1000020 3 1 0 ((w6.1).length)), (6, I6 w8.2), (7, I6 v21), (8, I6 w10.2), (11, I6 v24), (99, .bool true), (1000020, .obj 3 1 (List.map (AV.int .i64) w6.1))]) (by kernel_rfl) (fun _ h => h) ?_
          exact hK33 true h
        replace h := cond_f hb h
        refine WO.boolK 6 (fun b => [(0, .str w4), (3, .sb 1000020 3 1 0 ((w6.1).length)), (6, I6 w8.2), (7, I6 v21), (8, I6 w10.2), (11, I6 v24), (12, I6 e30), (13, I6 e32), (73, I6 e30), (74, .bool false), (75, .bool false), (76, I6 e32), (77, .bool false), (78, .bool false), (79, .bool false), (80, I6 e30), (81, .str w4), (82, I6 (w4.size : Int)), (83, .bool false), (84, .bool false), (85, .bool false), (86, I6 e32), (87, .str w4), (88, I6 (w4.size : Int)), (89, .bool b), (90, .bool b), (91, .bool b), (1000020, .obj 3 1 (List.map (AV.int .i64) w6.1))]) (decide (e32 > (w4.size : Int))) (by kernel_rfl) (fun hb => ?_) (fun hb => ?_)
        · replace h := cond_t hb h
          refine WO.fin [0, 3, 6, 7, 8, 11, 99, 1000020] [] [] [] (e2 := [(0, .str w4), (3, .sb 1000020 3 1 0 ((w6.1).length)), (6, I6 w8.2), (7, I6 v21), (8, I6 w10.2), (11, I6 v24), (99, .bool true), (1000020, .obj 3 1 (List.map (AV.int .i64) w6.1))]) (by kernel_rfl) (fun _ h => h) ?_
          exact hK33 true h
        replace h := cond_f hb h
        obtain ⟨e34, he34, h⟩ := bind_some h
        refine WO.pureK 2 (if (0 : Int) ≤ e30 ∧ e30 ≤ (w4.size : Int) ∧ (w4.size : Int) ≤ (w4.size : Int) then some (AV.str (w4.extract (Int.toNat e30) (Int.toNat (w4.size : Int)))) else none) (v := .str e34) (by kernel_rfl) (ssub_av he34) (e1 := [(0, .str w4), (3, .sb 1000020 3 1 0 ((w6.1).length)), (6, I6 w8.2), (7, I6 v21), (8, I6 w10.2), (11, I6 v24), (12, I6 e30), (13, I6 e32), (73, I6 e30), (74, .bool false), (75, .bool false), (76, I6 e32), (77, .bool false), (78, .bool false), (79, .bool false), (80, I6 e30), (81, .str w4), (82, I6 (w4.size : Int)), (83, .bool false), (84, .bool false), (85, .bool false), (86, I6 e32), (87, .str w4), (88, I6 (w4.size : Int)), (89, .bool false), (90, .bool false), (91, .bool false), (92, .str w4), (93, I6 e30), (94, .str e34), (1000020, .obj 3 1 (List.map (AV.int .i64) w6.1))]) (by kernel_rfl) ?_
        obtain ⟨e35, he35, h⟩ := bind_some h
        refine WO.pureK 2 (if (0 : Int) ≤ e32 ∧ e32 ≤ (w4.size : Int) ∧ (w4.size : Int) ≤ (w4.size : Int) then some (AV.str (w4.extract (Int.toNat e32) (Int.toNat (w4.size : Int)))) else none) (v := .str e35) (by kernel_rfl) (ssub_av he35) (e1 := [(0, .str w4), (3, .sb 1000020 3 1 0 ((w6.1).length)), (6, I6 w8.2), (7, I6 v21), (8, I6 w10.2), (11, I6 v24), (12, I6 e30), (13, I6 e32), (73, I6 e30), (74, .bool false), (75, .bool false), (76, I6 e32), (77, .bool false), (78, .bool false), (79, .bool false), (80, I6 e30), (81, .str w4), (82, I6 (w4.size : Int)), (83, .bool false), (84, .bool false), (85, .bool false), (86, I6 e32), (87, .str w4), (88, I6 (w4.size : Int)), (89, .bool false), (90, .bool false), (91, .bool false), (92, .str w4), (93, I6 e30), (94, .str e34), (95, .str w4), (96, I6 e32), (97, .str e35), (1000020, .obj 3 1 (List.map (AV.int .i64) w6.1))]) (by kernel_rfl) ?_
        refine WO.fin [0, 3, 6, 7, 8, 11, 99, 1000020] [] [] [] (e2 := [(0, .str w4), (3, .sb 1000020 3 1 0 ((w6.1).length)), (6, I6 w8.2), (7, I6 v21), (8, I6 w10.2), (11, I6 v24), (99, .bool (!Op.bytesLess e34.toList e35.toList)), (1000020, .obj 3 1 (List.map (AV.int .i64) w6.1))]) (by kernel_rfl) (fun _ h => h) ?_
        exact hK33 (!Op.bytesLess e34.toList e35.toList) h
      replace h := cond_f hb h
      refine W.exit ?_
      refine W.weak [0, 3, 6, 7, 8, 1000020] [] [] [] (env' := [(0, .str w4), (3, .sb 1000020 3 1 0 ((w6.1).length)), (6, I6 w8.2), (7, I6 v21), (8, I6 w10.2), (1000020, .obj 3 1 (List.map (AV.int .i64) w6.1))]) (by kernel_rfl) ?_
      exact hK22 () h
  refine W.seq ?_
  refine W.region (by kernel_rfl) ?_
  refine WO.pureK 1 (some (I6 ((List.map (AV.int .i64) w8.1).length : Int))) (v := I6 (w8.1.length : Int)) (by kernel_rfl) (by rw [List.length_map]) (e1 := [(0, .str w4), (3, .sb 1000020 3 1 0 ((w6.1).length)), (5, l3 none w8.1), (6, I6 w8.2), (7, I6 w10.1), (8, I6 w10.2), (48, l3 none w8.1), (49, I6 (w8.1.length : Int)), (1000020, .obj 3 1 (List.map (AV.int .i64) w6.1))]) (by kernel_rfl) ?_
  refine WO.fin [0, 3, 6, 7, 8, 48, 49, 50, 1000020] [] [] [] (e2 := [(0, .str w4), (3, .sb 1000020 3 1 0 ((w6.1).length)), (6, I6 w8.2), (7, I6 w10.1), (8, I6 w10.2), (48, l3 none w8.1), (49, I6 (w8.1.length : Int)), (50, .int .i64 0), (1000020, .obj 3 1 (List.map (AV.int .i64) w6.1))]) (by kernel_rfl) (fun _ h => h) ?_
  refine W.block ?_
  obtain ⟨hl1, h⟩ := chk_some h
  refine W.weak [0, 3, 6, 7, 8, 48, 49, 50, 1000020] [] [] [] (env' := [(0, .str w4), (3, .sb 1000020 3 1 0 ((w6.1).length)), (6, I6 w8.2), (7, I6 w10.1), (8, I6 w10.2), (48, l3 none w8.1), (49, I6 (w8.1.length : Int)), (50, I6 ((0 : Nat) : Int)), (1000020, .obj 3 1 (List.map (AV.int .i64) w6.1))]) (by kernel_rfl) ?_
  refine W.range (σ := (Int)) w8.1 (fun k1 s => [(0, .str w4), (3, .sb 1000020 3 1 0 ((w6.1).length)), (6, I6 w8.2), (7, I6 s), (8, I6 w10.2), (48, l3 none w8.1), (49, I6 (w8.1.length : Int)), (50, I6 (k1 : Int)), (1000020, .obj 3 1 (List.map (AV.int .i64) w6.1))]) (fun r0 k0 s => lw4_IndexSums_l1 (lw4_IndexSums_j16 fuel w4 w6 w8 w10) r0 k0 s = some r) (fun s h => ?_) (fun x1 r1 k1 s hx1 hk1 h hN1 => ?_) w10.1 h
  · obtain ⟨v18, rfl⟩ : ∃ x, x = s := ⟨s, rfl⟩
    have h : lw4_IndexSums_l1 (lw4_IndexSums_j16 fuel w4 w6 w8 w10) [] (w8.1).length v18 = some r := h
    rw [lw4_IndexSums_l1.eq_1] at h
    refine W.seq ?_
    refine W.region (by kernel_rfl) ?_
    refine WO.pureK 0 (some (.bool (decide (((w8.1).length : Int) < (w8.1.length : Int))))) (v := .bool false) (by kernel_rfl) (by rw [lt_false (l := w8.1)]) (e1 := [(0, .str w4), (3, .sb 1000020 3 1 0 ((w6.1).length)), (6, I6 w8.2), (7, I6 v18), (8, I6 w10.2), (48, l3 none w8.1), (49, I6 (w8.1.length : Int)), (50, I6 ((w8.1).length : Int)), (51, .bool false), (1000020, .obj 3 1 (List.map (AV.int .i64) w6.1))]) (by kernel_rfl) ?_
    refine WO.fin ([0, 3, 6, 7, 8, 48, 49, 50, 51, 1000020]) [] [] [] (e2 := [(0, .str w4), (3, .sb 1000020 3 1 0 ((w6.1).length)), (6, I6 w8.2), (7, I6 v18), (8, I6 w10.2), (48, l3 none w8.1), (49, I6 (w8.1.length : Int)), (50, I6 ((w8.1).length : Int)), (51, .bool false), (1000020, .obj 3 1 (List.map (AV.int .i64) w6.1))]) (by kernel_rfl) (fun _ h => h) ?_
    refine W.seq ?_
    refine W.condB false (by kernel_rfl) (fun h => Bool.noConfusion h) (fun _ => ?_)
    refine W.exit ?_
    refine W.weak [0, 3, 6, 7, 8, 1000020] [] [] [] (env' := [(0, .str w4), (3, .sb 1000020 3 1 0 ((w6.1).length)), (6, I6 w8.2), (7, I6 v18), (8, I6 w10.2), (1000020, .obj 3 1 (List.map (AV.int .i64) w6.1))]) (by kernel_rfl) ?_
    exact hK16 v18 h
  · obtain ⟨v18, rfl⟩ : ∃ x, x = s := ⟨s, rfl⟩
    have h : lw4_IndexSums_l1 (lw4_IndexSums_j16 fuel w4 w6 w8 w10) (x1 :: r1) k1 v18 = some r := h
    rw [lw4_IndexSums_l1.eq_2] at h
    refine W.seq ?_
    refine W.region (by kernel_rfl) ?_
    refine WO.pureK 0 (some (.bool (decide ((k1 : Int) < (w8.1.length : Int))))) (v := .bool true) (by kernel_rfl) (by rw [lt_true hk1]) (e1 := [(0, .str w4), (3, .sb 1000020 3 1 0 ((w6.1).length)), (6, I6 w8.2), (7, I6 v18), (8, I6 w10.2), (48, l3 none w8.1), (49, I6 (w8.1.length : Int)), (50, I6 (k1 : Int)), (51, .bool true), (1000020, .obj 3 1 (List.map (AV.int .i64) w6.1))]) (by kernel_rfl) ?_
    refine WO.fin ([0, 3, 6, 7, 8, 48, 49, 50, 51, 1000020]) [] [] [] (e2 := [(0, .str w4), (3, .sb 1000020 3 1 0 ((w6.1).length)), (6, I6 w8.2), (7, I6 v18), (8, I6 w10.2), (48, l3 none w8.1), (49, I6 (w8.1.length : Int)), (50, I6 (k1 : Int)), (51, .bool true), (1000020, .obj 3 1 (List.map (AV.int .i64) w6.1))]) (by kernel_rfl) (fun _ h => h) ?_
    refine W.seq ?_
    refine W.condB true (by kernel_rfl) (fun _ => ?_) (fun h => Bool.noConfusion h)
    refine W.skip ?_
    refine W.weak [0, 3, 6, 7, 8, 48, 49, 50, 1000020] [] [] [] (env' := [(0, .str w4), (3, .sb 1000020 3 1 0 ((w6.1).length)), (6, I6 w8.2), (7, I6 v18), (8, I6 w10.2), (48, l3 none w8.1), (49, I6 (w8.1.length : Int)), (50, I6 (k1 : Int)), (1000020, .obj 3 1 (List.map (AV.int .i64) w6.1))]) (by kernel_rfl) ?_
    refine W.seq ?_
    refine W.block ?_
    refine W.seq ?_
    refine W.region (by kernel_rfl) ?_
    refine WO.pureK 0 (if (0 : Int) ≤ (k1 : Int) then ((List.map (AV.int .i64) w8.1)[Int.toNat (k1 : Int)]?).map AV.ptr else none) (v := .ptr (I6 x1)) (by kernel_rfl) (idx_nat (f := (AV.int .i64)) hx1) (e1 := [(0, .str w4), (3, .sb 1000020 3 1 0 ((w6.1).length)), (6, I6 w8.2), (7, I6 v18), (8, I6 w10.2), (48, l3 none w8.1), (49, I6 (w8.1.length : Int)), (50, I6 (k1 : Int)), (52, .ptr (I6 x1)), (1000020, .obj 3 1 (List.map (AV.int .i64) w6.1))]) (by kernel_rfl) ?_
    refine WO.fin [0, 3, 6, 7, 8, 10, 48, 49, 50, 1000020] [] [] [] (e2 := [(0, .str w4), (3, .sb 1000020 3 1 0 ((w6.1).length)), (6, I6 w8.2), (7, I6 v18), (8, I6 w10.2), (10, I6 x1), (48, l3 none w8.1), (49, I6 (w8.1.length : Int)), (50, I6 (k1 : Int)), (1000020, .obj 3 1 (List.map (AV.int .i64) w6.1))]) (by kernel_rfl) (fun _ h => h) ?_
    refine W.regT [0, 3, 6, 7, 8, 48, 49, 50, 1000020] [] [] [] (e2 := [(0, .str w4), (3, .sb 1000020 3 1 0 ((w6.1).length)), (6, I6 w8.2), (7, I6 (W6 (v18 + x1))), (8, I6 w10.2), (48, l3 none w8.1), (49, I6 (w8.1.length : Int)), (50, I6 (k1 : Int)), (1000020, .obj 3 1 (List.map (AV.int .i64) w6.1))]) (by kernel_rfl) (by kernel_rfl) (fun _ h => h) ?_
    refine W.region (by kernel_rfl) ?_
    refine WO.pureK 0 (some (I6 (IntKind.wrap .i64 ((k1 : Int) + 1)))) (v := I6 ((k1 + 1 : Nat) : Int)) (by kernel_rfl) (by rw [wrap_succ hl1 hk1]) (e1 := [(0, .str w4), (3, .sb 1000020 3 1 0 ((w6.1).length)), (6, I6 w8.2), (7, I6 (IntKind.wrap .i64 (v18 + x1))), (8, I6 w10.2), (48, l3 none w8.1), (49, I6 (w8.1.length : Int)), (50, I6 (k1 : Int)), (57, I6 ((k1 + 1 : Nat) : Int)), (1000020, .obj 3 1 (List.map (AV.int .i64) w6.1))]) (by kernel_rfl) ?_
    refine WO.fin [0, 3, 6, 7, 8, 48, 49, 50, 1000020] [] [] [] (e2 := [(0, .str w4), (3, .sb 1000020 3 1 0 ((w6.1).length)), (6, I6 w8.2), (7, I6 (W6 (v18 + x1))), (8, I6 w10.2), (48, l3 none w8.1), (49, I6 (w8.1.length : Int)), (50, I6 ((k1 + 1 : Nat) : Int)), (1000020, .obj 3 1 (List.map (AV.int .i64) w6.1))]) (by kernel_rfl) (fun _ h => h) ?_
    exact hN1 (W6 (v18 + x1)) h

end Go.AM
