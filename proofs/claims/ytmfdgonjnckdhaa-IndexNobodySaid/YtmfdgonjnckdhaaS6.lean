/- PRINTED by gen.py: pure functions and the proofs that the code computes them. No statement of the seat is proved here. -/
import Derived.Test.YtmfdgonjnckdhaaS5
set_option maxRecDepth 100000
set_option linter.unusedVariables false
set_option linter.unusedSimpArgs false
namespace Go.AM
open Go.Proofs
def rf4_Sort_j4 (v24 : (List Int)) : Option (List Int) :=
  (some v24)
def rf4_Sort_j10 (k1 : Nat) (v6 : (List Int)) (N1 : ((List Int) → Option (List Int))) (v18 : Int) : Option (List Int) :=
  ((sub v6 0 v18).bind fun e19 => (chk (capOk 8 ((([] : (List Int)) ++ e19)).length) (chk (capOk 8 (((([] : (List Int)) ++ e19) ++ [(k1 : Int)])).length) ((sub v6 v18 (v6.length : Int)).bind fun e22 => (chk (capOk 8 ((((([] : (List Int)) ++ e19) ++ [(k1 : Int)]) ++ e22)).length) (N1 (((([] : (List Int)) ++ e19) ++ [(k1 : Int)]) ++ e22)))))))
def rf4_Sort_j13 (v11 : Int) (N2 : (Int → Option (List Int))) (K10 : (Int → Option (List Int))) (v17 : Bool) : Option (List Int) :=
  (bif v17 then (N2 (IntKind.wrap .i64 (v11 + 1))) else (K10 v11))
def rf4_Sort_l2 (a1 : ByteArray) (k1 : Nat) (v6 : (List Int)) (K10 : (Int → Option (List Int))) : Nat → Int → Option (List Int)
  | 0, _ => none
  | m2 + 1, v11 => (bif (decide (v11 < (v6.length : Int))) then ((idx v6 v11).bind fun e14 => ((ssub a1 e14 (a1.size : Int)).bind fun e15 => ((ssub a1 (k1 : Int) (a1.size : Int)).bind fun e16 => ((rf4_Sort_j13 v11 (rf4_Sort_l2 a1 k1 v6 K10 m2) K10) (Op.bytesLess e15.toList e16.toList))))) else ((rf4_Sort_j13 v11 (rf4_Sort_l2 a1 k1 v6 K10 m2) K10) false))
def rf4_Sort_l1 (fuel : Nat) (a1 : ByteArray) (K4 : ((List Int) → Option (List Int))) : List Nat → Nat → (List Int) → Option (List Int)
  | [], k1, v6 => (K4 v6)
  | x1 :: r1, k1, v6 => (rf4_Sort_l2 a1 k1 v6 (rf4_Sort_j10 k1 v6 (rf4_Sort_l1 fuel a1 K4 r1 (k1 + 1))) fuel 0)
def rf4_Sort (fuel : Nat) (a1 : ByteArray) : Option (List Int) :=
  (chk (lenOk (List.range (Int.toNat (IntKind.wrap .i64 ((a1.size : Int) + 1))))) (rf4_Sort_l1 fuel a1 (rf4_Sort_j4) (List.range (Int.toNat (IntKind.wrap .i64 ((a1.size : Int) + 1)))) 0 ([] : (List Int))))
theorem run_rf4_Sort (fuel : Nat) (a1 : ByteArray) (r : (List Int)) (h : rf4_Sort fuel a1 = some r) : Run Try.prog (.call 20 [.str a1] (l3 none r)) := by
  refine call_of_W Try.func20 rfl (by kernel_rfl) (env0 := [(0, .str a1)]) (by kernel_rfl) ?_
  unfold rf4_Sort at h
  refine W.seq ?_
  refine W.regT [0] [] [] [] (e2 := [(0, .str a1)]) (by kernel_rfl) (by kernel_rfl) (fun _ h => h) ?_
  refine W.seq ?_
  refine W.regT [0, 3] [] [] [] (e2 := [(0, .str a1), (3, .nils)]) (by kernel_rfl) (by kernel_rfl) (fun _ h => h) ?_
  refine W.seq ?_
  refine W.join (σ := ((List Int))) (fun s => [(3, l3 none s)]) (fun s => (rf4_Sort_j4) s = some r) (fun s h => ?_) (fun hK4 => ?_)
  · obtain ⟨v24, rfl⟩ : ∃ x, x = s := ⟨s, rfl⟩
    have h : (rf4_Sort_j4) v24 = some r := h
    unfold rf4_Sort_j4 at h
    refine W.seq ?_
    refine W.regT [2] [] [] [] (e2 := [(2, l3 none v24)]) (by kernel_rfl) (by kernel_rfl) (fun _ h => h) ?_
    refine W.weak [2] [] [] [] (env' := [(2, l3 none v24)]) (by kernel_rfl) ?_
    have hr : aresults Try.prog Try.f20 [(2, l3 none v24)] = some (l3 none v24) := by kernel_rfl
    cases h
    exact W.ret hr
  refine W.seq ?_
  refine W.regT [0, 3, 8, 9] [] [] [] (e2 := [(0, .str a1), (3, .nils), (8, I6 (W6 ((a1.size : Int) + 1))), (9, .int .i64 0)]) (by kernel_rfl) (by kernel_rfl) (fun _ h => h) ?_
  refine W.block ?_
  obtain ⟨hl1, h⟩ := chk_some h
  refine W.weak [0, 3, 8, 9] [] [(3, 0, 3, 1, 60000)] [(60000, none)] (env' := [(0, .str a1), (3, l3 none ([] : (List Int))), (8, I6 (W6 ((a1.size : Int) + 1))), (9, I6 ((0 : Nat) : Int))]) (by kernel_rfl) ?_
  refine W.range (σ := ((List Int))) (List.range (Int.toNat (W6 ((a1.size : Int) + 1)))) (fun k1 s => [(0, .str a1), (3, l3 none s), (8, I6 (W6 ((a1.size : Int) + 1))), (9, I6 (k1 : Int))]) (fun r0 k0 s => rf4_Sort_l1 fuel a1 (rf4_Sort_j4) r0 k0 s = some r) (fun s h => ?_) (fun x1 r1 k1 s hx1 hk1 h hN1 => ?_) ([] : (List Int)) h
  · obtain ⟨v6, rfl⟩ : ∃ x, x = s := ⟨s, rfl⟩
    have h : rf4_Sort_l1 fuel a1 (rf4_Sort_j4) [] ((List.range (Int.toNat (W6 ((a1.size : Int) + 1))))).length v6 = some r := h
    rw [rf4_Sort_l1.eq_1] at h
    refine W.seq ?_
    refine W.region (by kernel_rfl) ?_
    refine WO.pureK 0 (some (.bool (decide ((((List.range (Int.toNat (W6 ((a1.size : Int) + 1))))).length : Int) < (W6 ((a1.size : Int) + 1)))))) (v := .bool false) (by kernel_rfl) (by rw [ltr_false (n := (W6 ((a1.size : Int) + 1)))]) (e1 := [(0, .str a1), (3, l3 none v6), (8, I6 (W6 ((a1.size : Int) + 1))), (9, I6 (((List.range (Int.toNat (W6 ((a1.size : Int) + 1))))).length : Int)), (10, .bool false)]) (by kernel_rfl) ?_
    refine WO.fin ([0, 3, 8, 9, 10]) [] [] [] (e2 := [(0, .str a1), (3, l3 none v6), (8, I6 (W6 ((a1.size : Int) + 1))), (9, I6 (((List.range (Int.toNat (W6 ((a1.size : Int) + 1))))).length : Int)), (10, .bool false)]) (by kernel_rfl) (fun _ h => h) ?_
    refine W.seq ?_
    refine W.condB false (by kernel_rfl) (fun h => Bool.noConfusion h) (fun _ => ?_)
    refine W.exit ?_
    refine W.weak [3] [] [] [] (env' := [(3, l3 none v6)]) (by kernel_rfl) ?_
    exact hK4 v6 h
  · obtain ⟨v6, rfl⟩ : ∃ x, x = s := ⟨s, rfl⟩
    have h : rf4_Sort_l1 fuel a1 (rf4_Sort_j4) (x1 :: r1) k1 v6 = some r := h
    rw [rf4_Sort_l1.eq_2] at h
    refine W.seq ?_
    refine W.region (by kernel_rfl) ?_
    refine WO.pureK 0 (some (.bool (decide ((k1 : Int) < (W6 ((a1.size : Int) + 1)))))) (v := .bool true) (by kernel_rfl) (by rw [ltr_true hk1]) (e1 := [(0, .str a1), (3, l3 none v6), (8, I6 (W6 ((a1.size : Int) + 1))), (9, I6 (k1 : Int)), (10, .bool true)]) (by kernel_rfl) ?_
    refine WO.fin ([0, 3, 8, 9, 10]) [] [] [] (e2 := [(0, .str a1), (3, l3 none v6), (8, I6 (W6 ((a1.size : Int) + 1))), (9, I6 (k1 : Int)), (10, .bool true)]) (by kernel_rfl) (fun _ h => h) ?_
    refine W.seq ?_
    refine W.condB true (by kernel_rfl) (fun _ => ?_) (fun h => Bool.noConfusion h)
    refine W.skip ?_
    refine W.weak [0, 3, 8, 9] [] [] [] (env' := [(0, .str a1), (3, l3 none v6), (8, I6 (W6 ((a1.size : Int) + 1))), (9, I6 (k1 : Int))]) (by kernel_rfl) ?_
    refine W.seq ?_
    refine W.block ?_
    refine W.seq ?_
    refine W.regT [0, 3, 4, 8, 9] [] [] [] (e2 := [(0, .str a1), (3, l3 none v6), (4, I6 (k1 : Int)), (8, I6 (W6 ((a1.size : Int) + 1))), (9, I6 (k1 : Int))]) (by kernel_rfl) (by kernel_rfl) (fun _ h => h) ?_
    refine W.seq ?_
    refine W.regT [0, 3, 4, 5, 8, 9] [] [] [] (e2 := [(0, .str a1), (3, l3 none v6), (4, I6 (k1 : Int)), (5, .int .i64 0), (8, I6 (W6 ((a1.size : Int) + 1))), (9, I6 (k1 : Int))]) (by kernel_rfl) (by kernel_rfl) (fun _ h => h) ?_
    refine W.seq ?_
    refine W.join (σ := (Int)) (fun s => [(0, .str a1), (3, l3 none v6), (4, I6 (k1 : Int)), (5, I6 s), (8, I6 (W6 ((a1.size : Int) + 1))), (9, I6 (k1 : Int))]) (fun s => (rf4_Sort_j10 k1 v6 (rf4_Sort_l1 fuel a1 (rf4_Sort_j4) r1 (k1 + 1))) s = some r) (fun s h => ?_) (fun hK10 => ?_)
    · obtain ⟨v18, rfl⟩ : ∃ x, x = s := ⟨s, rfl⟩
      have h : (rf4_Sort_j10 k1 v6 (rf4_Sort_l1 fuel a1 (rf4_Sort_j4) r1 (k1 + 1))) v18 = some r := h
      unfold rf4_Sort_j10 at h
      refine W.regionB (by kernel_rfl) ?_
      obtain ⟨e19, he19, h⟩ := bind_some h
      refine WB.pureK 3 (if (0 : Int) ≤ 0 ∧ 0 ≤ v18 ∧ v18 ≤ ((List.map (AV.int .i64) v6).length : Int) then some (.lst 3 1 none (((List.map (AV.int .i64) v6).take (Int.toNat v18)).drop (Int.toNat 0))) else none) (v := l3 none e19) (by kernel_rfl) (sub_av he19) (e1 := [(0, .str a1), (3, l3 none v6), (4, I6 (k1 : Int)), (5, I6 v18), (8, I6 (W6 ((a1.size : Int) + 1))), (9, I6 (k1 : Int)), (30, l3 (some 30) ([] : (List Int))), (31, l3 none v6), (32, I6 v18), (33, l3 none e19)]) (by kernel_rfl) ?_
      obtain ⟨hc20, h⟩ := chk_some h
      refine WB.appendK 0 (by kernel_rfl) (d := 34) (e := 3) (s := 1) (bytes := 8) (xs := (List.map (AV.int .i64) ([] : (List Int)))) (ys := (List.map (AV.int .i64) e19)) (zs := (List.map (AV.int .i64) (([] : (List Int)) ++ e19))) (env1 := [(0, .str a1), (3, l3 none v6), (4, I6 (k1 : Int)), (5, I6 v18), (8, I6 (W6 ((a1.size : Int) + 1))), (9, I6 (k1 : Int)), (30, l3 none ([] : (List Int))), (31, l3 none v6), (32, I6 v18), (33, l3 none e19)]) (by kernel_rfl) (List.map_append.symm) (by rw [List.length_map]; exact hc20) (e1 := [(0, .str a1), (3, l3 none v6), (4, I6 (k1 : Int)), (5, I6 v18), (8, I6 (W6 ((a1.size : Int) + 1))), (9, I6 (k1 : Int)), (30, l3 none ([] : (List Int))), (31, l3 none v6), (32, I6 v18), (33, l3 none e19), (34, l3 (some 34) (([] : (List Int)) ++ e19))]) (by kernel_rfl) ?_
      obtain ⟨hc21, h⟩ := chk_some h
      refine WB.appendK 2 (by kernel_rfl) (d := 37) (e := 3) (s := 1) (bytes := 8) (xs := (List.map (AV.int .i64) (([] : (List Int)) ++ e19))) (ys := (List.map (AV.int .i64) [(k1 : Int)])) (zs := (List.map (AV.int .i64) ((([] : (List Int)) ++ e19) ++ [(k1 : Int)]))) (env1 := [(0, .str a1), (3, l3 none v6), (4, I6 (k1 : Int)), (5, I6 v18), (8, I6 (W6 ((a1.size : Int) + 1))), (9, I6 (k1 : Int)), (30, l3 none ([] : (List Int))), (31, l3 none v6), (32, I6 v18), (33, l3 none e19), (34, l3 none (([] : (List Int)) ++ e19)), (35, I6 (k1 : Int)), (36, l3 (some 36) [(k1 : Int)])]) (by kernel_rfl) (List.map_append.symm) (by rw [List.length_map]; exact hc21) (e1 := [(0, .str a1), (3, l3 none v6), (4, I6 (k1 : Int)), (5, I6 v18), (8, I6 (W6 ((a1.size : Int) + 1))), (9, I6 (k1 : Int)), (30, l3 none ([] : (List Int))), (31, l3 none v6), (32, I6 v18), (33, l3 none e19), (34, l3 none (([] : (List Int)) ++ e19)), (35, I6 (k1 : Int)), (36, l3 (some 36) [(k1 : Int)]), (37, l3 (some 37) ((([] : (List Int)) ++ e19) ++ [(k1 : Int)]))]) (by kernel_rfl) ?_
      obtain ⟨e22, he22, h⟩ := bind_some h
      refine WB.pureK 2 (if (0 : Int) ≤ v18 ∧ v18 ≤ ((List.map (AV.int .i64) v6).length : Int) ∧ ((List.map (AV.int .i64) v6).length : Int) ≤ ((List.map (AV.int .i64) v6).length : Int) then some (.lst 3 1 none (((List.map (AV.int .i64) v6).take (Int.toNat ((List.map (AV.int .i64) v6).length : Int))).drop (Int.toNat v18))) else none) (v := l3 none e22) (by kernel_rfl) (sub_av_len he22) (e1 := [(0, .str a1), (3, l3 none v6), (4, I6 (k1 : Int)), (5, I6 v18), (8, I6 (W6 ((a1.size : Int) + 1))), (9, I6 (k1 : Int)), (30, l3 none ([] : (List Int))), (31, l3 none v6), (32, I6 v18), (33, l3 none e19), (34, l3 none (([] : (List Int)) ++ e19)), (35, I6 (k1 : Int)), (36, l3 (some 36) [(k1 : Int)]), (37, l3 (some 37) ((([] : (List Int)) ++ e19) ++ [(k1 : Int)])), (38, l3 none v6), (39, I6 v18), (40, l3 none e22)]) (by kernel_rfl) ?_
      obtain ⟨hc23, h⟩ := chk_some h
      refine WB.appendK 0 (by kernel_rfl) (d := 41) (e := 3) (s := 1) (bytes := 8) (xs := (List.map (AV.int .i64) ((([] : (List Int)) ++ e19) ++ [(k1 : Int)]))) (ys := (List.map (AV.int .i64) e22)) (zs := (List.map (AV.int .i64) (((([] : (List Int)) ++ e19) ++ [(k1 : Int)]) ++ e22))) (env1 := [(0, .str a1), (3, l3 none v6), (4, I6 (k1 : Int)), (5, I6 v18), (8, I6 (W6 ((a1.size : Int) + 1))), (9, I6 (k1 : Int)), (30, l3 none ([] : (List Int))), (31, l3 none v6), (32, I6 v18), (33, l3 none e19), (34, l3 none (([] : (List Int)) ++ e19)), (35, I6 (k1 : Int)), (36, l3 (some 36) [(k1 : Int)]), (37, l3 none ((([] : (List Int)) ++ e19) ++ [(k1 : Int)])), (38, l3 none v6), (39, I6 v18), (40, l3 none e22)]) (by kernel_rfl) (List.map_append.symm) (by rw [List.length_map]; exact hc23) (e1 := [(0, .str a1), (3, l3 none v6), (4, I6 (k1 : Int)), (5, I6 v18), (8, I6 (W6 ((a1.size : Int) + 1))), (9, I6 (k1 : Int)), (30, l3 none ([] : (List Int))), (31, l3 none v6), (32, I6 v18), (33, l3 none e19), (34, l3 none (([] : (List Int)) ++ e19)), (35, I6 (k1 : Int)), (36, l3 (some 36) [(k1 : Int)]), (37, l3 none ((([] : (List Int)) ++ e19) ++ [(k1 : Int)])), (38, l3 none v6), (39, I6 v18), (40, l3 none e22), (41, l3 (some 41) (((([] : (List Int)) ++ e19) ++ [(k1 : Int)]) ++ e22))]) (by kernel_rfl) ?_
      refine WB.fin [0, 3, 8, 9] [] [] [] (e2 := [(0, .str a1), (3, l3 none (((([] : (List Int)) ++ e19) ++ [(k1 : Int)]) ++ e22)), (8, I6 (W6 ((a1.size : Int) + 1))), (9, I6 (k1 : Int))]) (by kernel_rfl) (fun _ h => h) ?_
      refine W.region (by kernel_rfl) ?_
      refine WO.pureK 0 (some (I6 (IntKind.wrap .i64 ((k1 : Int) + 1)))) (v := I6 ((k1 + 1 : Nat) : Int)) (by kernel_rfl) (by rw [wrap_succ hl1 hk1]) (e1 := [(0, .str a1), (3, l3 none (((([] : (List Int)) ++ e19) ++ [(k1 : Int)]) ++ e22)), (8, I6 (IntKind.wrap .i64 ((a1.size : Int) + 1))), (9, I6 (k1 : Int)), (42, I6 ((k1 + 1 : Nat) : Int))]) (by kernel_rfl) ?_
      refine WO.fin [0, 3, 8, 9] [] [] [] (e2 := [(0, .str a1), (3, l3 none (((([] : (List Int)) ++ e19) ++ [(k1 : Int)]) ++ e22)), (8, I6 (W6 ((a1.size : Int) + 1))), (9, I6 ((k1 + 1 : Nat) : Int))]) (by kernel_rfl) (fun _ h => h) ?_
      exact hN1 (((([] : (List Int)) ++ e19) ++ [(k1 : Int)]) ++ e22) h
    refine W.block ?_
    refine W.weak [0, 3, 4, 5, 8, 9] [] [] [] (env' := [(0, .str a1), (3, l3 none v6), (4, I6 (k1 : Int)), (5, .int .i64 0), (8, I6 (W6 ((a1.size : Int) + 1))), (9, I6 (k1 : Int))]) (by kernel_rfl) ?_
    refine W.fuel (σ := (Int)) (fun s => [(0, .str a1), (3, l3 none v6), (4, I6 (k1 : Int)), (5, I6 s), (8, I6 (W6 ((a1.size : Int) + 1))), (9, I6 (k1 : Int))]) (fun m0 s => rf4_Sort_l2 a1 k1 v6 (rf4_Sort_j10 k1 v6 (rf4_Sort_l1 fuel a1 (rf4_Sort_j4) r1 (k1 + 1))) m0 s = some r) (fun s h => ?_) (fun m2 s h hN2 => ?_) fuel 0 h
    · obtain ⟨v11, rfl⟩ : ∃ x, x = s := ⟨s, rfl⟩
      have h : rf4_Sort_l2 a1 k1 v6 (rf4_Sort_j10 k1 v6 (rf4_Sort_l1 fuel a1 (rf4_Sort_j4) r1 (k1 + 1))) 0 v11 = some r := h
      rw [rf4_Sort_l2.eq_1] at h
      cases h
    · obtain ⟨v11, rfl⟩ : ∃ x, x = s := ⟨s, rfl⟩
      have h : rf4_Sort_l2 a1 k1 v6 (rf4_Sort_j10 k1 v6 (rf4_Sort_l1 fuel a1 (rf4_Sort_j4) r1 (k1 + 1))) (m2 + 1) v11 = some r := h
      rw [rf4_Sort_l2.eq_2] at h
      refine W.seq ?_
      refine W.seq ?_
      refine W.join (σ := (Bool)) (fun s => [(0, .str a1), (3, l3 none v6), (4, I6 (k1 : Int)), (5, I6 v11), (8, I6 (W6 ((a1.size : Int) + 1))), (9, I6 (k1 : Int)), (27, .bool s)]) (fun s => (rf4_Sort_j13 v11 (rf4_Sort_l2 a1 k1 v6 (rf4_Sort_j10 k1 v6 (rf4_Sort_l1 fuel a1 (rf4_Sort_j4) r1 (k1 + 1))) m2) (rf4_Sort_j10 k1 v6 (rf4_Sort_l1 fuel a1 (rf4_Sort_j4) r1 (k1 + 1)))) s = some r) (fun s h => ?_) (fun hK13 => ?_)
      · obtain ⟨v17, rfl⟩ : ∃ x, x = s := ⟨s, rfl⟩
        have h : (rf4_Sort_j13 v11 (rf4_Sort_l2 a1 k1 v6 (rf4_Sort_j10 k1 v6 (rf4_Sort_l1 fuel a1 (rf4_Sort_j4) r1 (k1 + 1))) m2) (rf4_Sort_j10 k1 v6 (rf4_Sort_l1 fuel a1 (rf4_Sort_j4) r1 (k1 + 1)))) v17 = some r := h
        unfold rf4_Sort_j13 at h
        refine W.condB v17 (by kernel_rfl) (fun hb => ?_) (fun hb => ?_)
        · replace h := cond_t hb h
          refine W.skip ?_
          refine W.weak [0, 3, 4, 5, 8, 9] [] [] [] (env' := [(0, .str a1), (3, l3 none v6), (4, I6 (k1 : Int)), (5, I6 v11), (8, I6 (W6 ((a1.size : Int) + 1))), (9, I6 (k1 : Int))]) (by kernel_rfl) ?_
          refine W.block ?_
          refine W.regT [0, 3, 4, 5, 8, 9] [] [] [] (e2 := [(0, .str a1), (3, l3 none v6), (4, I6 (k1 : Int)), (5, I6 (W6 (v11 + 1))), (8, I6 (W6 ((a1.size : Int) + 1))), (9, I6 (k1 : Int))]) (by kernel_rfl) (by kernel_rfl) (fun _ h => h) ?_
          exact hN2 (W6 (v11 + 1)) h
        replace h := cond_f hb h
        refine W.exit ?_
        refine W.weak [0, 3, 4, 5, 8, 9] [] [] [] (env' := [(0, .str a1), (3, l3 none v6), (4, I6 (k1 : Int)), (5, I6 v11), (8, I6 (W6 ((a1.size : Int) + 1))), (9, I6 (k1 : Int))]) (by kernel_rfl) ?_
        exact hK10 v11 h
      refine W.region (by kernel_rfl) ?_
      refine WO.pureK 2 (some (I6 ((List.map (AV.int .i64) v6).length : Int))) (v := I6 (v6.length : Int)) (by kernel_rfl) (by rw [List.length_map]) (e1 := [(0, .str a1), (3, l3 none v6), (4, I6 (k1 : Int)), (5, I6 v11), (8, I6 (W6 ((a1.size : Int) + 1))), (9, I6 (k1 : Int)), (12, I6 v11), (13, l3 none v6), (14, I6 (v6.length : Int))]) (by kernel_rfl) ?_
      refine WO.boolK 2 (fun b => [(0, .str a1), (3, l3 none v6), (4, I6 (k1 : Int)), (5, I6 v11), (8, I6 (W6 ((a1.size : Int) + 1))), (9, I6 (k1 : Int)), (12, I6 v11), (13, l3 none v6), (14, I6 (v6.length : Int)), (15, .bool b), (16, .bool b)]) (decide (v11 < (v6.length : Int))) (by kernel_rfl) (fun hb => ?_) (fun hb => ?_)
      · replace h := cond_t hb h
        obtain ⟨e14, he14, h⟩ := bind_some h
        refine WO.pureK 3 (if (0 : Int) ≤ v11 then ((List.map (AV.int .i64) v6)[Int.toNat v11]?).map AV.ptr else none) (v := .ptr (I6 e14)) (by kernel_rfl) (idx_av (f := (AV.int .i64)) he14) (e1 := [(0, .str a1), (3, l3 none v6), (4, I6 (k1 : Int)), (5, I6 v11), (8, I6 (W6 ((a1.size : Int) + 1))), (9, I6 (k1 : Int)), (12, I6 v11), (13, l3 none v6), (14, I6 (v6.length : Int)), (15, .bool true), (16, .bool true), (17, .str a1), (18, l3 none v6), (19, I6 v11), (20, .ptr (I6 e14))]) (by kernel_rfl) ?_
        obtain ⟨e15, he15, h⟩ := bind_some h
        refine WO.pureK 1 (if (0 : Int) ≤ e14 ∧ e14 ≤ (a1.size : Int) ∧ (a1.size : Int) ≤ (a1.size : Int) then some (AV.str (a1.extract (Int.toNat e14) (Int.toNat (a1.size : Int)))) else none) (v := .str e15) (by kernel_rfl) (ssub_av he15) (e1 := [(0, .str a1), (3, l3 none v6), (4, I6 (k1 : Int)), (5, I6 v11), (8, I6 (W6 ((a1.size : Int) + 1))), (9, I6 (k1 : Int)), (12, I6 v11), (13, l3 none v6), (14, I6 (v6.length : Int)), (15, .bool true), (16, .bool true), (17, .str a1), (18, l3 none v6), (19, I6 v11), (20, .ptr (I6 e14)), (21, I6 e14), (22, .str e15)]) (by kernel_rfl) ?_
        obtain ⟨e16, he16, h⟩ := bind_some h
        refine WO.pureK 2 (if (0 : Int) ≤ (k1 : Int) ∧ (k1 : Int) ≤ (a1.size : Int) ∧ (a1.size : Int) ≤ (a1.size : Int) then some (AV.str (a1.extract (Int.toNat (k1 : Int)) (Int.toNat (a1.size : Int)))) else none) (v := .str e16) (by kernel_rfl) (ssub_av he16) (e1 := [(0, .str a1), (3, l3 none v6), (4, I6 (k1 : Int)), (5, I6 v11), (8, I6 (W6 ((a1.size : Int) + 1))), (9, I6 (k1 : Int)), (12, I6 v11), (13, l3 none v6), (14, I6 (v6.length : Int)), (15, .bool true), (16, .bool true), (17, .str a1), (18, l3 none v6), (19, I6 v11), (20, .ptr (I6 e14)), (21, I6 e14), (22, .str e15), (23, .str a1), (24, I6 (k1 : Int)), (25, .str e16)]) (by kernel_rfl) ?_
        refine WO.fin [0, 3, 4, 5, 8, 9, 27] [] [] [] (e2 := [(0, .str a1), (3, l3 none v6), (4, I6 (k1 : Int)), (5, I6 v11), (8, I6 (W6 ((a1.size : Int) + 1))), (9, I6 (k1 : Int)), (27, .bool (Op.bytesLess e15.toList e16.toList))]) (by kernel_rfl) (fun _ h => h) ?_
        exact hK13 (Op.bytesLess e15.toList e16.toList) h
      replace h := cond_f hb h
      refine WO.fin [0, 3, 4, 5, 8, 9, 27] [] [] [] (e2 := [(0, .str a1), (3, l3 none v6), (4, I6 (k1 : Int)), (5, I6 v11), (8, I6 (W6 ((a1.size : Int) + 1))), (9, I6 (k1 : Int)), (27, .bool false)]) (by kernel_rfl) (fun _ h => h) ?_
      exact hK13 false h
def rf4_agree_j5 (v12 : Int) : Option Int :=
  (some v12)
def rf4_agree_j8 (v6 : Int) (N1 : (Int → Option Int)) (K5 : (Int → Option Int)) (v11 : Bool) : Option Int :=
  (bif v11 then (N1 (IntKind.wrap .i64 (v6 + 1))) else (K5 v6))
def rf4_agree_l1 (a1 : ByteArray) (a2 : ByteArray) (K5 : (Int → Option Int)) : Nat → Int → Option Int
  | 0, _ => none
  | m1 + 1, v6 => (bif (decide (v6 < (a1.size : Int))) then (bif (decide (v6 < (a2.size : Int))) then ((sidx a1 v6).bind fun e9 => ((sidx a2 v6).bind fun e10 => ((rf4_agree_j8 v6 (rf4_agree_l1 a1 a2 K5 m1) K5) (e9 == e10)))) else ((rf4_agree_j8 v6 (rf4_agree_l1 a1 a2 K5 m1) K5) false)) else ((rf4_agree_j8 v6 (rf4_agree_l1 a1 a2 K5 m1) K5) false))
def rf4_agree (fuel : Nat) (a1 : ByteArray) (a2 : ByteArray) : Option Int :=
  (rf4_agree_l1 a1 a2 (rf4_agree_j5) fuel 0)
theorem run_rf4_agree (fuel : Nat) (a1 : ByteArray) (a2 : ByteArray) (r : Int) (h : rf4_agree fuel a1 a2 = some r) : Run Try.prog (.call 43 [.str a1, .str a2] (I6 r)) := by
  refine call_of_W Try.func43 rfl (by kernel_rfl) (env0 := [(0, .str a1), (1, .str a2)]) (by kernel_rfl) ?_
  unfold rf4_agree at h
  refine W.seq ?_
  refine W.regT [0, 1] [] [] [] (e2 := [(0, .str a1), (1, .str a2)]) (by kernel_rfl) (by kernel_rfl) (fun _ h => h) ?_
  refine W.seq ?_
  refine W.regT [0, 1, 5] [] [] [] (e2 := [(0, .str a1), (1, .str a2), (5, .int .i64 0)]) (by kernel_rfl) (by kernel_rfl) (fun _ h => h) ?_
  refine W.seq ?_
  refine W.join (σ := (Int)) (fun s => [(5, I6 s)]) (fun s => (rf4_agree_j5) s = some r) (fun s h => ?_) (fun hK5 => ?_)
  · obtain ⟨v12, rfl⟩ : ∃ x, x = s := ⟨s, rfl⟩
    have h : (rf4_agree_j5) v12 = some r := h
    unfold rf4_agree_j5 at h
    refine W.seq ?_
    refine W.regT [4] [] [] [] (e2 := [(4, I6 v12)]) (by kernel_rfl) (by kernel_rfl) (fun _ h => h) ?_
    refine W.weak [4] [] [] [] (env' := [(4, I6 v12)]) (by kernel_rfl) ?_
    have hr : aresults Try.prog Try.f43 [(4, I6 v12)] = some (I6 v12) := by kernel_rfl
    cases h
    exact W.ret hr
  refine W.block ?_
  refine W.weak [0, 1, 5] [] [] [] (env' := [(0, .str a1), (1, .str a2), (5, .int .i64 0)]) (by kernel_rfl) ?_
  refine W.fuel (σ := (Int)) (fun s => [(0, .str a1), (1, .str a2), (5, I6 s)]) (fun m0 s => rf4_agree_l1 a1 a2 (rf4_agree_j5) m0 s = some r) (fun s h => ?_) (fun m1 s h hN1 => ?_) fuel 0 h
  · obtain ⟨v6, rfl⟩ : ∃ x, x = s := ⟨s, rfl⟩
    have h : rf4_agree_l1 a1 a2 (rf4_agree_j5) 0 v6 = some r := h
    rw [rf4_agree_l1.eq_1] at h
    cases h
  · obtain ⟨v6, rfl⟩ : ∃ x, x = s := ⟨s, rfl⟩
    have h : rf4_agree_l1 a1 a2 (rf4_agree_j5) (m1 + 1) v6 = some r := h
    rw [rf4_agree_l1.eq_2] at h
    refine W.seq ?_
    refine W.seq ?_
    refine W.join (σ := (Bool)) (fun s => [(0, .str a1), (1, .str a2), (5, I6 v6), (24, .bool s)]) (fun s => (rf4_agree_j8 v6 (rf4_agree_l1 a1 a2 (rf4_agree_j5) m1) (rf4_agree_j5)) s = some r) (fun s h => ?_) (fun hK8 => ?_)
    · obtain ⟨v11, rfl⟩ : ∃ x, x = s := ⟨s, rfl⟩
      have h : (rf4_agree_j8 v6 (rf4_agree_l1 a1 a2 (rf4_agree_j5) m1) (rf4_agree_j5)) v11 = some r := h
      unfold rf4_agree_j8 at h
      refine W.condB v11 (by kernel_rfl) (fun hb => ?_) (fun hb => ?_)
      · replace h := cond_t hb h
        refine W.skip ?_
        refine W.weak [0, 1, 5] [] [] [] (env' := [(0, .str a1), (1, .str a2), (5, I6 v6)]) (by kernel_rfl) ?_
        refine W.block ?_
        refine W.regT [0, 1, 5] [] [] [] (e2 := [(0, .str a1), (1, .str a2), (5, I6 (W6 (v6 + 1)))]) (by kernel_rfl) (by kernel_rfl) (fun _ h => h) ?_
        exact hN1 (W6 (v6 + 1)) h
      replace h := cond_f hb h
      refine W.exit ?_
      refine W.weak [5] [] [] [] (env' := [(5, I6 v6)]) (by kernel_rfl) ?_
      exact hK5 v6 h
    refine W.region (by kernel_rfl) ?_
    refine WO.boolK 5 (fun b => [(0, .str a1), (1, .str a2), (5, I6 v6), (6, I6 v6), (7, .str a1), (8, I6 (a1.size : Int)), (9, .bool b), (10, .bool b)]) (decide (v6 < (a1.size : Int))) (by kernel_rfl) (fun hb => ?_) (fun hb => ?_)
    · replace h := cond_t hb h
      refine WO.boolK 6 (fun b => [(0, .str a1), (1, .str a2), (5, I6 v6), (6, I6 v6), (7, .str a1), (8, I6 (a1.size : Int)), (9, .bool true), (10, .bool true), (11, I6 v6), (12, .str a2), (13, I6 (a2.size : Int)), (14, .bool b), (15, .bool b), (16, .bool b)]) (decide (v6 < (a2.size : Int))) (by kernel_rfl) (fun hb => ?_) (fun hb => ?_)
      · replace h := cond_t hb h
        obtain ⟨e9, he9, h⟩ := bind_some h
        refine WO.pureK 2 (if (0 : Int) ≤ v6 then (a1[Int.toNat v6]?).map fun b => AV.int .u8 b.toNat else none) (v := .int .u8 e9) (by kernel_rfl) (sidx_av he9) (e1 := [(0, .str a1), (1, .str a2), (5, I6 v6), (6, I6 v6), (7, .str a1), (8, I6 (a1.size : Int)), (9, .bool true), (10, .bool true), (11, I6 v6), (12, .str a2), (13, I6 (a2.size : Int)), (14, .bool true), (15, .bool true), (16, .bool true), (17, .str a1), (18, I6 v6), (19, .int .u8 e9)]) (by kernel_rfl) ?_
        obtain ⟨e10, he10, h⟩ := bind_some h
        refine WO.pureK 2 (if (0 : Int) ≤ v6 then (a2[Int.toNat v6]?).map fun b => AV.int .u8 b.toNat else none) (v := .int .u8 e10) (by kernel_rfl) (sidx_av he10) (e1 := [(0, .str a1), (1, .str a2), (5, I6 v6), (6, I6 v6), (7, .str a1), (8, I6 (a1.size : Int)), (9, .bool true), (10, .bool true), (11, I6 v6), (12, .str a2), (13, I6 (a2.size : Int)), (14, .bool true), (15, .bool true), (16, .bool true), (17, .str a1), (18, I6 v6), (19, .int .u8 e9), (20, .str a2), (21, I6 v6), (22, .int .u8 e10)]) (by kernel_rfl) ?_
        refine WO.fin [0, 1, 5, 24] [] [] [] (e2 := [(0, .str a1), (1, .str a2), (5, I6 v6), (24, .bool (e9 == e10))]) (by kernel_rfl) (fun _ h => h) ?_
        exact hK8 (e9 == e10) h
      replace h := cond_f hb h
      refine WO.fin [0, 1, 5, 24] [] [] [] (e2 := [(0, .str a1), (1, .str a2), (5, I6 v6), (24, .bool false)]) (by kernel_rfl) (fun _ h => h) ?_
      exact hK8 false h
    replace h := cond_f hb h
    refine WO.fin [0, 1, 5, 24] [] [] [] (e2 := [(0, .str a1), (1, .str a2), (5, I6 v6), (24, .bool false)]) (by kernel_rfl) (fun _ h => h) ?_
    exact hK8 false h
def rf4_Common_j6 (v19 : (List Int)) : Option (List Int) :=
  (some v19)
def rf4_Common_l1 (fuel : Nat) (a1 : ByteArray) (w5 : (List Int)) (K6 : ((List Int) → Option (List Int))) : Nat → (List Int) → Int → Option (List Int)
  | 0, _, _ => none
  | m1 + 1, v8, v9 => (bif (decide (v9 < (w5.length : Int))) then ((idx w5 (IntKind.wrap .i64 (v9 - 1))).bind fun e13 => ((ssub a1 e13 (a1.size : Int)).bind fun e14 => ((idx w5 v9).bind fun e15 => ((ssub a1 e15 (a1.size : Int)).bind fun e16 => ((rf4_agree fuel e14 e16).bind fun w17 => (chk (capOk 8 ((v8 ++ [w17])).length) ((rf4_Common_l1 fuel a1 w5 K6 m1) (v8 ++ [w17]) (IntKind.wrap .i64 (v9 + 1))))))))) else (K6 v8))
def rf4_Common (fuel : Nat) (a1 : ByteArray) : Option (List Int) :=
  ((rf4_Sort fuel a1).bind fun w5 => (rf4_Common_l1 fuel a1 w5 (rf4_Common_j6) fuel ([] : (List Int)) 1))
theorem run_rf4_Common (fuel : Nat) (a1 : ByteArray) (r : (List Int)) (h : rf4_Common fuel a1 = some r) : Run Try.prog (.call 21 [.str a1] (l3 (some 1) r)) := by
  refine call_of_W Try.func21 rfl (by kernel_rfl) (env0 := [(0, .str a1)]) (by kernel_rfl) ?_
  unfold rf4_Common at h
  refine W.seq ?_
  refine W.regT [0] [] [] [] (e2 := [(0, .str a1)]) (by kernel_rfl) (by kernel_rfl) (fun _ h => h) ?_
  refine W.seq ?_
  refine W.regT [0, 3] [] [] [] (e2 := [(0, .str a1), (3, .nils)]) (by kernel_rfl) (by kernel_rfl) (fun _ h => h) ?_
  refine W.seq ?_
  refine W.region (by kernel_rfl) ?_
  obtain ⟨w5, hw5, h⟩ := bind_some h
  refine WO.callK 1 (F := 20) (l := [.str a1]) (C := []) (r := l3 none w5) (by kernel_rfl) (by kernel_rfl) (run_rf4_Sort fuel a1 w5 hw5) (e1 := [(0, .str a1), (3, .nils), (6, .str a1), (7, l3 none w5)]) (by kernel_rfl) ?_
  refine WO.fin [0, 3, 4] [] [] [] (e2 := [(0, .str a1), (3, .nils), (4, l3 none w5)]) (by kernel_rfl) (fun _ h => h) ?_
  refine W.seq ?_
  refine W.join (σ := ((List Int))) (fun s => [(3, l3 (some 10300) s)]) (fun s => (rf4_Common_j6) s = some r) (fun s h => ?_) (fun hK6 => ?_)
  · obtain ⟨v19, rfl⟩ : ∃ x, x = s := ⟨s, rfl⟩
    have h : (rf4_Common_j6) v19 = some r := h
    unfold rf4_Common_j6 at h
    refine W.seq ?_
    refine W.regT [2] [] [] [] (e2 := [(2, l3 (some 10300) v19)]) (by kernel_rfl) (by kernel_rfl) (fun _ h => h) ?_
    refine W.weak [2] [] [] [(10300, some 1)] (env' := [(2, l3 (some 1) v19)]) (by kernel_rfl) ?_
    have hr : aresults Try.prog Try.f21 [(2, l3 (some 1) v19)] = some (l3 (some 1) v19) := by kernel_rfl
    cases h
    exact W.ret hr
  refine W.seq ?_
  refine W.regT [0, 3, 4, 5] [] [] [] (e2 := [(0, .str a1), (3, .nils), (4, l3 none w5), (5, .int .i64 1)]) (by kernel_rfl) (by kernel_rfl) (fun _ h => h) ?_
  refine W.block ?_
  refine W.weak [0, 3, 4, 5] [] [(3, 0, 3, 1, 10300)] [] (env' := [(0, .str a1), (3, l3 (some 10300) ([] : (List Int))), (4, l3 none w5), (5, .int .i64 1)]) (by kernel_rfl) ?_
  refine W.fuel (σ := ((List Int) × Int)) (fun s => [(0, .str a1), (3, l3 (some 10300) s.1), (4, l3 none w5), (5, I6 s.2)]) (fun m0 s => rf4_Common_l1 fuel a1 w5 (rf4_Common_j6) m0 s.1 s.2 = some r) (fun s h => ?_) (fun m1 s h hN1 => ?_) fuel (([] : (List Int)), 1) h
  · obtain ⟨v8, v9⟩ := s
    have h : rf4_Common_l1 fuel a1 w5 (rf4_Common_j6) 0 v8 v9 = some r := h
    rw [rf4_Common_l1.eq_1] at h
    cases h
  · obtain ⟨v8, v9⟩ := s
    have h : rf4_Common_l1 fuel a1 w5 (rf4_Common_j6) (m1 + 1) v8 v9 = some r := h
    rw [rf4_Common_l1.eq_2] at h
    refine W.seq ?_
    refine W.seq ?_
    refine W.region (by kernel_rfl) ?_
    refine WO.pureK 2 (some (I6 ((List.map (AV.int .i64) w5).length : Int))) (v := I6 (w5.length : Int)) (by kernel_rfl) (by rw [List.length_map]) (e1 := [(0, .str a1), (3, l3 (some 10300) v8), (4, l3 none w5), (5, I6 v9), (8, I6 v9), (9, l3 none w5), (10, I6 (w5.length : Int))]) (by kernel_rfl) ?_
    refine WO.fin [0, 3, 4, 5, 11] [] [] [] (e2 := [(0, .str a1), (3, l3 (some 10300) v8), (4, l3 none w5), (5, I6 v9), (11, .bool (decide (v9 < (w5.length : Int))))]) (by kernel_rfl) (fun _ h => h) ?_
    refine W.condB (decide (v9 < (w5.length : Int))) (by kernel_rfl) (fun hb => ?_) (fun hb => ?_)
    · replace h := cond_t hb h
      refine W.skip ?_
      refine W.weak [0, 3, 4, 5] [] [] [] (env' := [(0, .str a1), (3, l3 (some 10300) v8), (4, l3 none w5), (5, I6 v9)]) (by kernel_rfl) ?_
      refine W.seq ?_
      refine W.block ?_
      refine W.region (by kernel_rfl) ?_
      obtain ⟨e13, he13, h⟩ := bind_some h
      refine WO.pureK 5 (if (0 : Int) ≤ (W6 (v9 - 1)) then ((List.map (AV.int .i64) w5)[Int.toNat (W6 (v9 - 1))]?).map AV.ptr else none) (v := .ptr (I6 e13)) (by kernel_rfl) (idx_av (f := (AV.int .i64)) he13) (e1 := [(0, .str a1), (3, l3 (some 10300) v8), (4, l3 none w5), (5, I6 v9), (14, l3 (some 10300) v8), (15, .str a1), (16, l3 none w5), (17, I6 v9), (18, I6 (W6 (v9 - 1))), (19, .ptr (I6 e13))]) (by kernel_rfl) ?_
      obtain ⟨e14, he14, h⟩ := bind_some h
      refine WO.pureK 1 (if (0 : Int) ≤ e13 ∧ e13 ≤ (a1.size : Int) ∧ (a1.size : Int) ≤ (a1.size : Int) then some (AV.str (a1.extract (Int.toNat e13) (Int.toNat (a1.size : Int)))) else none) (v := .str e14) (by kernel_rfl) (ssub_av he14) (e1 := [(0, .str a1), (3, l3 (some 10300) v8), (4, l3 none w5), (5, I6 v9), (14, l3 (some 10300) v8), (15, .str a1), (16, l3 none w5), (17, I6 v9), (18, I6 (W6 (v9 - 1))), (19, .ptr (I6 e13)), (20, I6 e13), (21, .str e14)]) (by kernel_rfl) ?_
      obtain ⟨e15, he15, h⟩ := bind_some h
      refine WO.pureK 3 (if (0 : Int) ≤ v9 then ((List.map (AV.int .i64) w5)[Int.toNat v9]?).map AV.ptr else none) (v := .ptr (I6 e15)) (by kernel_rfl) (idx_av (f := (AV.int .i64)) he15) (e1 := [(0, .str a1), (3, l3 (some 10300) v8), (4, l3 none w5), (5, I6 v9), (14, l3 (some 10300) v8), (15, .str a1), (16, l3 none w5), (17, I6 v9), (18, I6 (W6 (v9 - 1))), (19, .ptr (I6 e13)), (20, I6 e13), (21, .str e14), (22, .str a1), (23, l3 none w5), (24, I6 v9), (25, .ptr (I6 e15))]) (by kernel_rfl) ?_
      obtain ⟨e16, he16, h⟩ := bind_some h
      refine WO.pureK 1 (if (0 : Int) ≤ e15 ∧ e15 ≤ (a1.size : Int) ∧ (a1.size : Int) ≤ (a1.size : Int) then some (AV.str (a1.extract (Int.toNat e15) (Int.toNat (a1.size : Int)))) else none) (v := .str e16) (by kernel_rfl) (ssub_av he16) (e1 := [(0, .str a1), (3, l3 (some 10300) v8), (4, l3 none w5), (5, I6 v9), (14, l3 (some 10300) v8), (15, .str a1), (16, l3 none w5), (17, I6 v9), (18, I6 (W6 (v9 - 1))), (19, .ptr (I6 e13)), (20, I6 e13), (21, .str e14), (22, .str a1), (23, l3 none w5), (24, I6 v9), (25, .ptr (I6 e15)), (26, I6 e15), (27, .str e16)]) (by kernel_rfl) ?_
      obtain ⟨w17, hw17, h⟩ := bind_some h
      refine WO.callK 0 (F := 43) (l := [.str e14, .str e16]) (C := []) (r := I6 w17) (by kernel_rfl) (by kernel_rfl) (run_rf4_agree fuel e14 e16 w17 hw17) (e1 := [(0, .str a1), (3, l3 (some 10300) v8), (4, l3 none w5), (5, I6 v9), (14, l3 (some 10300) v8), (15, .str a1), (16, l3 none w5), (17, I6 v9), (18, I6 (W6 (v9 - 1))), (19, .ptr (I6 e13)), (20, I6 e13), (21, .str e14), (22, .str a1), (23, l3 none w5), (24, I6 v9), (25, .ptr (I6 e15)), (26, I6 e15), (27, .str e16), (28, I6 w17)]) (by kernel_rfl) ?_
      obtain ⟨hc18, h⟩ := chk_some h
      refine WO.appendK 1 (d := 30) (e := 3) (s := 1) (bytes := 8) (xs := (List.map (AV.int .i64) v8)) (ys := (List.map (AV.int .i64) [w17])) (zs := (List.map (AV.int .i64) (v8 ++ [w17]))) (env1 := [(0, .str a1), (3, l3 none v8), (4, l3 none w5), (5, I6 v9), (14, l3 none v8), (15, .str a1), (16, l3 none w5), (17, I6 v9), (18, I6 (W6 (v9 - 1))), (19, .ptr (I6 e13)), (20, I6 e13), (21, .str e14), (22, .str a1), (23, l3 none w5), (24, I6 v9), (25, .ptr (I6 e15)), (26, I6 e15), (27, .str e16), (28, I6 w17), (29, l3 none [w17])]) (by kernel_rfl) (List.map_append.symm) (by rw [List.length_map]; exact hc18) (e1 := [(0, .str a1), (3, l3 none v8), (4, l3 none w5), (5, I6 v9), (14, l3 none v8), (15, .str a1), (16, l3 none w5), (17, I6 v9), (18, I6 (W6 (v9 - 1))), (19, .ptr (I6 e13)), (20, I6 e13), (21, .str e14), (22, .str a1), (23, l3 none w5), (24, I6 v9), (25, .ptr (I6 e15)), (26, I6 e15), (27, .str e16), (28, I6 w17), (29, l3 none [w17]), (30, l3 (some 30) (v8 ++ [w17]))]) (by kernel_rfl) ?_
      refine WO.fin [0, 3, 4, 5] [] [] [] (e2 := [(0, .str a1), (3, l3 (some 30) (v8 ++ [w17])), (4, l3 none w5), (5, I6 v9)]) (by kernel_rfl) (fun _ h => h) ?_
      refine W.regT [0, 3, 4, 5] [] [] [(30, some 10300)] (e2 := [(0, .str a1), (3, l3 (some 10300) (v8 ++ [w17])), (4, l3 none w5), (5, I6 (W6 (v9 + 1)))]) (by kernel_rfl) (by kernel_rfl) (fun _ h => h) ?_
      exact hN1 ((v8 ++ [w17]), (W6 (v9 + 1))) h
    replace h := cond_f hb h
    refine W.exit ?_
    refine W.weak [3] [] [] [] (env' := [(3, l3 (some 10300) v8)]) (by kernel_rfl) ?_
    exact hK6 v8 h
def lw4_IndexSorts_j12 (v14 : Bool) : Option Bool :=
  (some v14)
def lw4_IndexSorts_j15 (v21 : Bool) : Option Bool :=
  (some v21)
def lw4_IndexSorts (fuel : Nat) (a1 : ByteArray) : Option Bool :=
  ((lw4_few a1).bind fun w4 => ((ix_Sort fuel w4).bind fun w6 => ((ix_Common fuel w4).bind fun w8 => ((rf4_Label w4).bind fun w11 => (bif (!w11) then (bif ((IntKind.wrap .i64 ((w6.1.length : Int) + (w8.1.length : Int))) == 0) then (bif (w6.2 == 2) then (bif (w8.2 == 2) then ((lw4_awake fuel).bind fun w13 => ((lw4_IndexSorts_j12) w13)) else ((lw4_IndexSorts_j12) false)) else ((lw4_IndexSorts_j12) false)) else ((lw4_IndexSorts_j12) false)) else ((rf4_Sort fuel w4).bind fun w16 => ((sl_Equal_int w6.1 w16).bind fun w17 => (bif w17 then ((rf4_Common fuel w4).bind fun w18 => ((sl_Equal_int w8.1 w18).bind fun w19 => (bif w19 then (bif (w6.2 == 0) then (bif (w8.2 == 0) then ((lw4_awake fuel).bind fun w20 => ((lw4_IndexSorts_j15) w20)) else ((lw4_IndexSorts_j15) false)) else ((lw4_IndexSorts_j15) false)) else ((lw4_IndexSorts_j15) false)))) else ((lw4_IndexSorts_j15) false)))))))))
theorem run_lw4_IndexSorts (fuel : Nat) (a1 : ByteArray) (r : Bool) (h : lw4_IndexSorts fuel a1 = some r) : Run Try.prog (.call 3 [.str a1] (.bool r)) := by
  refine call_of_W Try.func3 rfl (by kernel_rfl) (env0 := [(0, .str a1)]) (by kernel_rfl) ?_
  unfold lw4_IndexSorts at h
  refine W.seq ?_
  refine W.regT [0] [] [] [] (e2 := [(0, .str a1)]) (by kernel_rfl) (by kernel_rfl) (fun _ h => h) ?_
  refine W.seq ?_
  refine W.region (by kernel_rfl) ?_
  obtain ⟨w4, hw4, h⟩ := bind_some h
  refine WO.callK 1 (F := 14) (l := [.str a1]) (C := []) (r := .str w4) (by kernel_rfl) (by kernel_rfl) (run_lw4_few a1 w4 hw4) (e1 := [(0, .str a1), (7, .str a1), (8, .str w4)]) (by kernel_rfl) ?_
  refine WO.fin [0] [] [] [] (e2 := [(0, .str w4)]) (by kernel_rfl) (fun _ h => h) ?_
  refine W.seq ?_
  refine W.region (by kernel_rfl) ?_
  obtain ⟨w6, hw6, h⟩ := bind_some h
  refine WO.callK 1 (F := 15) (l := [.str w4]) (C := []) (r := .tup [l3 none w6.1, I6 w6.2]) (by kernel_rfl) (by kernel_rfl) (run_ix_Sort fuel w4 w6 hw6) (e1 := [(0, .str w4), (10, .str w4), (11, .tup [l3 none w6.1, I6 w6.2])]) (by kernel_rfl) ?_
  refine WO.fin [0, 3, 4] [] [] [] (e2 := [(0, .str w4), (3, l3 none w6.1), (4, I6 w6.2)]) (by kernel_rfl) (fun _ h => h) ?_
  refine W.seq ?_
  refine W.region (by kernel_rfl) ?_
  obtain ⟨w8, hw8, h⟩ := bind_some h
  refine WO.callK 1 (F := 16) (l := [.str w4]) (C := []) (r := .tup [l3 none w8.1, I6 w8.2]) (by kernel_rfl) (by kernel_rfl) (run_ix_Common fuel w4 w8 hw8) (e1 := [(0, .str w4), (3, l3 none w6.1), (4, I6 w6.2), (15, .str w4), (16, .tup [l3 none w8.1, I6 w8.2])]) (by kernel_rfl) ?_
  refine WO.fin [0, 3, 4, 5, 6] [] [] [] (e2 := [(0, .str w4), (3, l3 none w6.1), (4, I6 w6.2), (5, l3 none w8.1), (6, I6 w8.2)]) (by kernel_rfl) (fun _ h => h) ?_
  refine W.seq ?_
  refine W.seq ?_
  refine W.region (by kernel_rfl) ?_
  obtain ⟨w11, hw11, h⟩ := bind_some h
  refine WO.callK 1 (F := 17) (l := [.str w4]) (C := []) (r := .bool w11) (by kernel_rfl) (by kernel_rfl) (run_rf4_Label w4 w11 hw11) (e1 := [(0, .str w4), (3, l3 none w6.1), (4, I6 w6.2), (5, l3 none w8.1), (6, I6 w8.2), (19, .str w4), (20, .bool w11)]) (by kernel_rfl) ?_
  refine WO.fin [0, 3, 4, 5, 6, 21] [] [] [] (e2 := [(0, .str w4), (3, l3 none w6.1), (4, I6 w6.2), (5, l3 none w8.1), (6, I6 w8.2), (21, .bool (!w11))]) (by kernel_rfl) (fun _ h => h) ?_
  refine W.condB (!w11) (by kernel_rfl) (fun hb => ?_) (fun hb => ?_)
  · replace h := cond_t hb h
    refine W.seq ?_
    refine W.join (σ := (Bool)) (fun s => [(2, .bool s)]) (fun s => (lw4_IndexSorts_j12) s = some r) (fun s h => ?_) (fun hK12 => ?_)
    · obtain ⟨v14, rfl⟩ : ∃ x, x = s := ⟨s, rfl⟩
      have h : (lw4_IndexSorts_j12) v14 = some r := h
      unfold lw4_IndexSorts_j12 at h
      refine W.weak [2] [] [] [] (env' := [(2, .bool v14)]) (by kernel_rfl) ?_
      have hr : aresults Try.prog Try.f3 [(2, .bool v14)] = some (.bool v14) := by kernel_rfl
      cases h
      exact W.ret hr
    refine W.region (by kernel_rfl) ?_
    refine WO.pureK 1 (some (I6 ((List.map (AV.int .i64) w6.1).length : Int))) (v := I6 (w6.1.length : Int)) (by kernel_rfl) (by rw [List.length_map]) (e1 := [(0, .str w4), (3, l3 none w6.1), (4, I6 w6.2), (5, l3 none w8.1), (6, I6 w8.2), (21, .bool (!w11)), (22, l3 none w6.1), (23, I6 (w6.1.length : Int))]) (by kernel_rfl) ?_
    refine WO.pureK 1 (some (I6 ((List.map (AV.int .i64) w8.1).length : Int))) (v := I6 (w8.1.length : Int)) (by kernel_rfl) (by rw [List.length_map]) (e1 := [(0, .str w4), (3, l3 none w6.1), (4, I6 w6.2), (5, l3 none w8.1), (6, I6 w8.2), (21, .bool (!w11)), (22, l3 none w6.1), (23, I6 (w6.1.length : Int)), (24, l3 none w8.1), (25, I6 (w8.1.length : Int))]) (by kernel_rfl) ?_
    refine WO.boolK 3 (fun b => [(0, .str w4), (3, l3 none w6.1), (4, I6 w6.2), (5, l3 none w8.1), (6, I6 w8.2), (21, .bool (!w11)), (22, l3 none w6.1), (23, I6 (w6.1.length : Int)), (24, l3 none w8.1), (25, I6 (w8.1.length : Int)), (26, I6 (W6 ((w6.1.length : Int) + (w8.1.length : Int)))), (27, .bool b), (28, .bool b)]) ((W6 ((w6.1.length : Int) + (w8.1.length : Int))) == 0) (by kernel_rfl) (fun hb => ?_) (fun hb => ?_)
    · replace h := cond_t hb h
      refine WO.boolK 4 (fun b => [(0, .str w4), (3, l3 none w6.1), (4, I6 w6.2), (5, l3 none w8.1), (6, I6 w8.2), (21, .bool (!w11)), (22, l3 none w6.1), (23, I6 (w6.1.length : Int)), (24, l3 none w8.1), (25, I6 (w8.1.length : Int)), (26, I6 (W6 ((w6.1.length : Int) + (w8.1.length : Int)))), (27, .bool true), (28, .bool true), (29, I6 w6.2), (30, .bool b), (31, .bool b), (32, .bool b)]) (w6.2 == 2) (by kernel_rfl) (fun hb => ?_) (fun hb => ?_)
      · replace h := cond_t hb h
        refine WO.boolK 4 (fun b => [(0, .str w4), (3, l3 none w6.1), (4, I6 w6.2), (5, l3 none w8.1), (6, I6 w8.2), (21, .bool (!w11)), (22, l3 none w6.1), (23, I6 (w6.1.length : Int)), (24, l3 none w8.1), (25, I6 (w8.1.length : Int)), (26, I6 (W6 ((w6.1.length : Int) + (w8.1.length : Int)))), (27, .bool true), (28, .bool true), (29, I6 w6.2), (30, .bool true), (31, .bool true), (32, .bool true), (33, I6 w8.2), (34, .bool b), (35, .bool b), (36, .bool b)]) (w8.2 == 2) (by kernel_rfl) (fun hb => ?_) (fun hb => ?_)
        · replace h := cond_t hb h
          obtain ⟨w13, hw13, h⟩ := bind_some h
          refine WO.callK 0 (F := 18) (l := []) (C := []) (r := .bool w13) (by kernel_rfl) (by kernel_rfl) (run_lw4_awake fuel w13 hw13) (e1 := [(0, .str w4), (3, l3 none w6.1), (4, I6 w6.2), (5, l3 none w8.1), (6, I6 w8.2), (21, .bool (!w11)), (22, l3 none w6.1), (23, I6 (w6.1.length : Int)), (24, l3 none w8.1), (25, I6 (w8.1.length : Int)), (26, I6 (W6 ((w6.1.length : Int) + (w8.1.length : Int)))), (27, .bool true), (28, .bool true), (29, I6 w6.2), (30, .bool true), (31, .bool true), (32, .bool true), (33, I6 w8.2), (34, .bool true), (35, .bool true), (36, .bool true), (37, .bool w13)]) (by kernel_rfl) ?_
          refine WO.fin [2] [] [] [] (e2 := [(2, .bool w13)]) (by kernel_rfl) (fun _ h => h) ?_
          exact hK12 w13 h
        replace h := cond_f hb h
        refine WO.fin [2] [] [] [] (e2 := [(2, .bool false)]) (by kernel_rfl) (fun _ h => h) ?_
        exact hK12 false h
      replace h := cond_f hb h
      refine WO.fin [2] [] [] [] (e2 := [(2, .bool false)]) (by kernel_rfl) (fun _ h => h) ?_
      exact hK12 false h
    replace h := cond_f hb h
    refine WO.fin [2] [] [] [] (e2 := [(2, .bool false)]) (by kernel_rfl) (fun _ h => h) ?_
    exact hK12 false h
  replace h := cond_f hb h
  refine W.skip ?_
  refine W.weak [0, 3, 4, 5, 6] [] [] [] (env' := [(0, .str w4), (3, l3 none w6.1), (4, I6 w6.2), (5, l3 none w8.1), (6, I6 w8.2)]) (by kernel_rfl) ?_
  refine W.seq ?_
  refine W.join (σ := (Bool)) (fun s => [(2, .bool s)]) (fun s => (lw4_IndexSorts_j15) s = some r) (fun s h => ?_) (fun hK15 => ?_)
  · obtain ⟨v21, rfl⟩ : ∃ x, x = s := ⟨s, rfl⟩
    have h : (lw4_IndexSorts_j15) v21 = some r := h
    unfold lw4_IndexSorts_j15 at h
    refine W.weak [2] [] [] [] (env' := [(2, .bool v21)]) (by kernel_rfl) ?_
    have hr : aresults Try.prog Try.f3 [(2, .bool v21)] = some (.bool v21) := by kernel_rfl
    cases h
    exact W.ret hr
  refine W.region (by kernel_rfl) ?_
  obtain ⟨w16, hw16, h⟩ := bind_some h
  refine WO.callK 2 (F := 20) (l := [.str w4]) (C := []) (r := l3 none w16) (by kernel_rfl) (by kernel_rfl) (run_rf4_Sort fuel w4 w16 hw16) (e1 := [(0, .str w4), (3, l3 none w6.1), (4, I6 w6.2), (5, l3 none w8.1), (6, I6 w8.2), (39, l3 none w6.1), (40, .str w4), (41, l3 none w16)]) (by kernel_rfl) ?_
  obtain ⟨w17, hw17, h⟩ := bind_some h
  refine WO.callK 0 (F := 19) (l := [l3 none w6.1, l3 none w16]) (C := []) (r := .bool w17) (by kernel_rfl) (by kernel_rfl) (run_sl_Equal_int w6.1 w16 w17 hw17) (e1 := [(0, .str w4), (3, l3 none w6.1), (4, I6 w6.2), (5, l3 none w8.1), (6, I6 w8.2), (39, l3 none w6.1), (40, .str w4), (41, l3 none w16), (42, .bool w17)]) (by kernel_rfl) ?_
  refine WO.boolK 1 (fun b => [(0, .str w4), (3, l3 none w6.1), (4, I6 w6.2), (5, l3 none w8.1), (6, I6 w8.2), (39, l3 none w6.1), (40, .str w4), (41, l3 none w16), (42, .bool b), (43, .bool b)]) w17 (by kernel_rfl) (fun hb => ?_) (fun hb => ?_)
  · replace h := cond_t hb h
    obtain ⟨w18, hw18, h⟩ := bind_some h
    refine WO.callK 2 (F := 21) (l := [.str w4]) (C := []) (r := l3 (some 1) w18) (by kernel_rfl) (by kernel_rfl) (run_rf4_Common fuel w4 w18 hw18) (e1 := [(0, .str w4), (3, l3 none w6.1), (4, I6 w6.2), (5, l3 none w8.1), (6, I6 w8.2), (39, l3 none w6.1), (40, .str w4), (41, l3 none w16), (42, .bool true), (43, .bool true), (44, l3 none w8.1), (45, .str w4), (46, l3 (some 46) w18)]) (by kernel_rfl) ?_
    obtain ⟨w19, hw19, h⟩ := bind_some h
    refine WO.callK 0 (F := 19) (l := [l3 none w8.1, l3 none w18]) (C := []) (r := .bool w19) (by kernel_rfl) (by kernel_rfl) (run_sl_Equal_int w8.1 w18 w19 hw19) (e1 := [(0, .str w4), (3, l3 none w6.1), (4, I6 w6.2), (5, l3 none w8.1), (6, I6 w8.2), (39, l3 none w6.1), (40, .str w4), (41, l3 none w16), (42, .bool true), (43, .bool true), (44, l3 none w8.1), (45, .str w4), (46, l3 (some 46) w18), (47, .bool w19)]) (by kernel_rfl) ?_
    refine WO.boolK 2 (fun b => [(0, .str w4), (3, l3 none w6.1), (4, I6 w6.2), (5, l3 none w8.1), (6, I6 w8.2), (39, l3 none w6.1), (40, .str w4), (41, l3 none w16), (42, .bool true), (43, .bool true), (44, l3 none w8.1), (45, .str w4), (46, l3 (some 46) w18), (47, .bool b), (48, .bool b), (49, .bool b)]) w19 (by kernel_rfl) (fun hb => ?_) (fun hb => ?_)
    · replace h := cond_t hb h
      refine WO.boolK 4 (fun b => [(0, .str w4), (3, l3 none w6.1), (4, I6 w6.2), (5, l3 none w8.1), (6, I6 w8.2), (39, l3 none w6.1), (40, .str w4), (41, l3 none w16), (42, .bool true), (43, .bool true), (44, l3 none w8.1), (45, .str w4), (46, l3 (some 46) w18), (47, .bool true), (48, .bool true), (49, .bool true), (50, I6 w6.2), (51, .bool b), (52, .bool b), (53, .bool b)]) (w6.2 == 0) (by kernel_rfl) (fun hb => ?_) (fun hb => ?_)
      · replace h := cond_t hb h
        refine WO.boolK 4 (fun b => [(0, .str w4), (3, l3 none w6.1), (4, I6 w6.2), (5, l3 none w8.1), (6, I6 w8.2), (39, l3 none w6.1), (40, .str w4), (41, l3 none w16), (42, .bool true), (43, .bool true), (44, l3 none w8.1), (45, .str w4), (46, l3 (some 46) w18), (47, .bool true), (48, .bool true), (49, .bool true), (50, I6 w6.2), (51, .bool true), (52, .bool true), (53, .bool true), (54, I6 w8.2), (55, .bool b), (56, .bool b), (57, .bool b)]) (w8.2 == 0) (by kernel_rfl) (fun hb => ?_) (fun hb => ?_)
        · replace h := cond_t hb h
          obtain ⟨w20, hw20, h⟩ := bind_some h
          refine WO.callK 0 (F := 18) (l := []) (C := []) (r := .bool w20) (by kernel_rfl) (by kernel_rfl) (run_lw4_awake fuel w20 hw20) (e1 := [(0, .str w4), (3, l3 none w6.1), (4, I6 w6.2), (5, l3 none w8.1), (6, I6 w8.2), (39, l3 none w6.1), (40, .str w4), (41, l3 none w16), (42, .bool true), (43, .bool true), (44, l3 none w8.1), (45, .str w4), (46, l3 (some 46) w18), (47, .bool true), (48, .bool true), (49, .bool true), (50, I6 w6.2), (51, .bool true), (52, .bool true), (53, .bool true), (54, I6 w8.2), (55, .bool true), (56, .bool true), (57, .bool true), (58, .bool w20)]) (by kernel_rfl) ?_
          refine WO.fin [2] [] [] [] (e2 := [(2, .bool w20)]) (by kernel_rfl) (fun _ h => h) ?_
          exact hK15 w20 h
        replace h := cond_f hb h
        refine WO.fin [2] [] [] [] (e2 := [(2, .bool false)]) (by kernel_rfl) (fun _ h => h) ?_
        exact hK15 false h
      replace h := cond_f hb h
      refine WO.fin [2] [] [] [] (e2 := [(2, .bool false)]) (by kernel_rfl) (fun _ h => h) ?_
      exact hK15 false h
    replace h := cond_f hb h
    refine WO.fin [2] [] [] [] (e2 := [(2, .bool false)]) (by kernel_rfl) (fun _ h => h) ?_
    exact hK15 false h
  replace h := cond_f hb h
  refine WO.fin [2] [] [] [] (e2 := [(2, .bool false)]) (by kernel_rfl) (fun _ h => h) ?_
  exact hK15 false h

end Go.AM
