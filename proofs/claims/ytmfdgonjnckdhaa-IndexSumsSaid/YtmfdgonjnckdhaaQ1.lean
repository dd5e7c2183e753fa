/- PRINTED by gen.py: pure functions and the proofs that the code computes them. No statement of the seat is proved here. -/
import Derived.Test.YtmfdgonjnckdhaaQT
set_option maxRecDepth 100000
set_option linter.unusedVariables false
set_option linter.unusedSimpArgs false
namespace Go.AM
open Go.Proofs
def ix_Longest_j9 (v20 : ByteArray) : Option (ByteArray × Int) :=
  (bif (v20.toList == (ByteArray.mk #[]).toList) then (some ((ByteArray.mk #[]), 5)) else (some (v20, 0)))
def ix_Longest_j13 (N1 : (ByteArray → Option (ByteArray × Int))) (v19 : ByteArray) : Option (ByteArray × Int) :=
  (N1 v19)
def ix_Longest_l1 (a1 : ByteArray) (w8 : (List Int)) (K9 : (ByteArray → Option (ByteArray × Int))) : List Int → Nat → ByteArray → Option (ByteArray × Int)
  | [], k1, v12 => (K9 v12)
  | x1 :: r1, k1, v12 => (bif (decide (x1 > (v12.size : Int))) then ((idx w8 (k1 : Int)).bind fun e16 => ((ssub a1 e16 (a1.size : Int)).bind fun e17 => ((ssub e17 0 x1).bind fun e18 => ((ix_Longest_j13 (ix_Longest_l1 a1 w8 K9 r1 (k1 + 1))) e18)))) else ((ix_Longest_j13 (ix_Longest_l1 a1 w8 K9 r1 (k1 + 1))) v12))
def ix_Longest (fuel : Nat) (a1 : ByteArray) : Option (ByteArray × Int) :=
  ((ix_valid a1).bind fun w5 => (bif (!w5) then (some ((ByteArray.mk #[]), 2)) else ((ix_suffixes fuel a1).bind fun w8 => ((ix_common fuel a1).bind fun w11 => (chk (lenOk w11) (ix_Longest_l1 a1 w8 (ix_Longest_j9) w11 0 (ByteArray.mk #[])))))))
theorem run_ix_Longest (fuel : Nat) (a1 : ByteArray) (r : (ByteArray × Int)) (h : ix_Longest fuel a1 = some r) : Run Try.prog (.call 24 [.str a1] (.tup [.str r.1, I6 r.2])) := by
  refine call_of_W Try.func24 rfl (by kernel_rfl) (env0 := [(0, .str a1)]) (by kernel_rfl) ?_
  unfold ix_Longest at h
  refine W.seq ?_
  refine W.regT [0] [] [] [] (e2 := [(0, .str a1)]) (by kernel_rfl) (by kernel_rfl) (fun _ h => h) ?_
  refine W.seq ?_
  refine W.seq ?_
  refine W.region (by kernel_rfl) ?_
  obtain ⟨w5, hw5, h⟩ := bind_some h
  refine WO.callK 1 (F := 40) (l := [.str a1]) (C := []) (r := .bool w5) (by kernel_rfl) (by kernel_rfl) (run_ix_valid a1 w5 hw5) (e1 := [(0, .str a1), (8, .str a1), (9, .bool w5)]) (by kernel_rfl) ?_
  refine WO.fin [0, 10] [] [] [] (e2 := [(0, .str a1), (10, .bool (!w5))]) (by kernel_rfl) (fun _ h => h) ?_
  refine W.condB (!w5) (by kernel_rfl) (fun hb => ?_) (fun hb => ?_)
  · replace h := cond_t hb h
    refine W.seq ?_
    refine W.regT [2, 3] [] [] [] (e2 := [(2, .str (ByteArray.mk #[])), (3, .int .i64 2)]) (by kernel_rfl) (by kernel_rfl) (fun _ h => h) ?_
    refine W.weak [2, 3] [] [] [] (env' := [(2, .str (ByteArray.mk #[])), (3, .int .i64 2)]) (by kernel_rfl) ?_
    have hr : aresults Try.prog Try.f24 [(2, .str (ByteArray.mk #[])), (3, .int .i64 2)] = some (.tup [.str (ByteArray.mk #[]), .int .i64 2]) := by kernel_rfl
    cases h
    exact W.ret hr
  replace h := cond_f hb h
  refine W.skip ?_
  refine W.weak [0] [] [] [] (env' := [(0, .str a1)]) (by kernel_rfl) ?_
  refine W.seq ?_
  refine W.region (by kernel_rfl) ?_
  obtain ⟨w8, hw8, h⟩ := bind_some h
  refine WO.callK 1 (F := 41) (l := [.str a1]) (C := []) (r := l3 none w8) (by kernel_rfl) (by kernel_rfl) (run_ix_suffixes fuel a1 w8 hw8) (e1 := [(0, .str a1), (11, .str a1), (12, l3 none w8)]) (by kernel_rfl) ?_
  refine WO.fin [0, 4, 5] [] [] [] (e2 := [(0, .str a1), (4, .str (ByteArray.mk #[])), (5, l3 none w8)]) (by kernel_rfl) (fun _ h => h) ?_
  refine W.seq ?_
  refine W.join (σ := (ByteArray)) (fun s => [(4, .str s)]) (fun s => (ix_Longest_j9) s = some r) (fun s h => ?_) (fun hK9 => ?_)
  · obtain ⟨v20, rfl⟩ : ∃ x, x = s := ⟨s, rfl⟩
    have h : (ix_Longest_j9) v20 = some r := h
    unfold ix_Longest_j9 at h
    refine W.seq ?_
    refine W.seq ?_
    refine W.regT [4, 35] [] [] [] (e2 := [(4, .str v20), (35, .bool (v20.toList == (ByteArray.mk #[]).toList))]) (by kernel_rfl) (by kernel_rfl) (fun _ h => h) ?_
    refine W.condB (v20.toList == (ByteArray.mk #[]).toList) (by kernel_rfl) (fun hb => ?_) (fun hb => ?_)
    · replace h := cond_t hb h
      refine W.seq ?_
      refine W.regT [2, 3] [] [] [] (e2 := [(2, .str (ByteArray.mk #[])), (3, .int .i64 5)]) (by kernel_rfl) (by kernel_rfl) (fun _ h => h) ?_
      refine W.weak [2, 3] [] [] [] (env' := [(2, .str (ByteArray.mk #[])), (3, .int .i64 5)]) (by kernel_rfl) ?_
      have hr : aresults Try.prog Try.f24 [(2, .str (ByteArray.mk #[])), (3, .int .i64 5)] = some (.tup [.str (ByteArray.mk #[]), .int .i64 5]) := by kernel_rfl
      cases h
      exact W.ret hr
    replace h := cond_f hb h
    refine W.skip ?_
    refine W.weak [4] [] [] [] (env' := [(4, .str v20)]) (by kernel_rfl) ?_
    refine W.seq ?_
    refine W.regT [2, 3] [] [] [] (e2 := [(2, .str v20), (3, .int .i64 0)]) (by kernel_rfl) (by kernel_rfl) (fun _ h => h) ?_
    refine W.weak [2, 3] [] [] [] (env' := [(2, .str v20), (3, .int .i64 0)]) (by kernel_rfl) ?_
    have hr : aresults Try.prog Try.f24 [(2, .str v20), (3, .int .i64 0)] = some (.tup [.str v20, .int .i64 0]) := by kernel_rfl
    cases h
    exact W.ret hr
  refine W.seq ?_
  refine W.region (by kernel_rfl) ?_
  obtain ⟨w11, hw11, h⟩ := bind_some h
  refine WO.callK 1 (F := 42) (l := [.str a1]) (C := []) (r := l3 (some 1) w11) (by kernel_rfl) (by kernel_rfl) (run_ix_common fuel a1 w11 hw11) (e1 := [(0, .str a1), (4, .str (ByteArray.mk #[])), (5, l3 none w8), (13, .str a1), (14, l3 (some 14) w11)]) (by kernel_rfl) ?_
  refine WO.pureK 0 (some (I6 ((List.map (AV.int .i64) w11).length : Int))) (v := I6 (w11.length : Int)) (by kernel_rfl) (by rw [List.length_map]) (e1 := [(0, .str a1), (4, .str (ByteArray.mk #[])), (5, l3 none w8), (13, .str a1), (14, l3 (some 14) w11), (15, I6 (w11.length : Int))]) (by kernel_rfl) ?_
  refine WO.fin [0, 4, 5, 14, 15, 16] [] [] [] (e2 := [(0, .str a1), (4, .str (ByteArray.mk #[])), (5, l3 none w8), (14, l3 (some 14) w11), (15, I6 (w11.length : Int)), (16, .int .i64 0)]) (by kernel_rfl) (fun _ h => h) ?_
  refine W.block ?_
  obtain ⟨hl1, h⟩ := chk_some h
  refine W.weak [0, 4, 5, 14, 15, 16] [] [] [] (env' := [(0, .str a1), (4, .str (ByteArray.mk #[])), (5, l3 none w8), (14, l3 (some 14) w11), (15, I6 (w11.length : Int)), (16, I6 ((0 : Nat) : Int))]) (by kernel_rfl) ?_
  refine W.range (σ := (ByteArray)) w11 (fun k1 s => [(0, .str a1), (4, .str s), (5, l3 none w8), (14, l3 (some 14) w11), (15, I6 (w11.length : Int)), (16, I6 (k1 : Int))]) (fun r0 k0 s => ix_Longest_l1 a1 w8 (ix_Longest_j9) r0 k0 s = some r) (fun s h => ?_) (fun x1 r1 k1 s hx1 hk1 h hN1 => ?_) (ByteArray.mk #[]) h
  · obtain ⟨v12, rfl⟩ : ∃ x, x = s := ⟨s, rfl⟩
    have h : ix_Longest_l1 a1 w8 (ix_Longest_j9) [] (w11).length v12 = some r := h
    rw [ix_Longest_l1.eq_1] at h
    refine W.seq ?_
    refine W.region (by kernel_rfl) ?_
    refine WO.pureK 0 (some (.bool (decide (((w11).length : Int) < (w11.length : Int))))) (v := .bool false) (by kernel_rfl) (by rw [lt_false (l := w11)]) (e1 := [(0, .str a1), (4, .str v12), (5, l3 none w8), (14, l3 (some 14) w11), (15, I6 (w11.length : Int)), (16, I6 ((w11).length : Int)), (17, .bool false)]) (by kernel_rfl) ?_
    refine WO.fin ([0, 4, 5, 14, 15, 16, 17]) [] [] [] (e2 := [(0, .str a1), (4, .str v12), (5, l3 none w8), (14, l3 (some 14) w11), (15, I6 (w11.length : Int)), (16, I6 ((w11).length : Int)), (17, .bool false)]) (by kernel_rfl) (fun _ h => h) ?_
    refine W.seq ?_
    refine W.condB false (by kernel_rfl) (fun h => Bool.noConfusion h) (fun _ => ?_)
    refine W.exit ?_
    refine W.weak [4] [] [] [] (env' := [(4, .str v12)]) (by kernel_rfl) ?_
    exact hK9 v12 h
  · obtain ⟨v12, rfl⟩ : ∃ x, x = s := ⟨s, rfl⟩
    have h : ix_Longest_l1 a1 w8 (ix_Longest_j9) (x1 :: r1) k1 v12 = some r := h
    rw [ix_Longest_l1.eq_2] at h
    refine W.seq ?_
    refine W.region (by kernel_rfl) ?_
    refine WO.pureK 0 (some (.bool (decide ((k1 : Int) < (w11.length : Int))))) (v := .bool true) (by kernel_rfl) (by rw [lt_true hk1]) (e1 := [(0, .str a1), (4, .str v12), (5, l3 none w8), (14, l3 (some 14) w11), (15, I6 (w11.length : Int)), (16, I6 (k1 : Int)), (17, .bool true)]) (by kernel_rfl) ?_
    refine WO.fin ([0, 4, 5, 14, 15, 16, 17]) [] [] [] (e2 := [(0, .str a1), (4, .str v12), (5, l3 none w8), (14, l3 (some 14) w11), (15, I6 (w11.length : Int)), (16, I6 (k1 : Int)), (17, .bool true)]) (by kernel_rfl) (fun _ h => h) ?_
    refine W.seq ?_
    refine W.condB true (by kernel_rfl) (fun _ => ?_) (fun h => Bool.noConfusion h)
    refine W.skip ?_
    refine W.weak [0, 4, 5, 14, 15, 16] [] [] [] (env' := [(0, .str a1), (4, .str v12), (5, l3 none w8), (14, l3 (some 14) w11), (15, I6 (w11.length : Int)), (16, I6 (k1 : Int))]) (by kernel_rfl) ?_
    refine W.seq ?_
    refine W.join (σ := (ByteArray)) (fun s => [(0, .str a1), (4, .str s), (5, l3 none w8), (14, l3 (some 14) w11), (15, I6 (w11.length : Int)), (16, I6 (k1 : Int))]) (fun s => (ix_Longest_j13 (ix_Longest_l1 a1 w8 (ix_Longest_j9) r1 (k1 + 1))) s = some r) (fun s h => ?_) (fun hK13 => ?_)
    · obtain ⟨v19, rfl⟩ : ∃ x, x = s := ⟨s, rfl⟩
      have h : (ix_Longest_j13 (ix_Longest_l1 a1 w8 (ix_Longest_j9) r1 (k1 + 1))) v19 = some r := h
      unfold ix_Longest_j13 at h
      refine W.region (by kernel_rfl) ?_
      refine WO.pureK 0 (some (I6 (IntKind.wrap .i64 ((k1 : Int) + 1)))) (v := I6 ((k1 + 1 : Nat) : Int)) (by kernel_rfl) (by rw [wrap_succ hl1 hk1]) (e1 := [(0, .str a1), (4, .str v19), (5, l3 none w8), (14, l3 (some 14) w11), (15, I6 (w11.length : Int)), (16, I6 (k1 : Int)), (33, I6 ((k1 + 1 : Nat) : Int))]) (by kernel_rfl) ?_
      refine WO.fin [0, 4, 5, 14, 15, 16] [] [] [] (e2 := [(0, .str a1), (4, .str v19), (5, l3 none w8), (14, l3 (some 14) w11), (15, I6 (w11.length : Int)), (16, I6 ((k1 + 1 : Nat) : Int))]) (by kernel_rfl) (fun _ h => h) ?_
      exact hN1 v19 h
    refine W.block ?_
    refine W.seq ?_
    refine W.region (by kernel_rfl) ?_
    refine WO.pureK 1 (if (0 : Int) ≤ (k1 : Int) then ((List.map (AV.int .i64) w11)[Int.toNat (k1 : Int)]?).map AV.ptr else none) (v := .ptr (I6 x1)) (by kernel_rfl) (idx_nat (f := (AV.int .i64)) hx1) (e1 := [(0, .str a1), (4, .str v12), (5, l3 none w8), (14, l3 (some 14) w11), (15, I6 (w11.length : Int)), (16, I6 (k1 : Int)), (18, I6 (k1 : Int)), (19, .ptr (I6 x1))]) (by kernel_rfl) ?_
    refine WO.fin [0, 4, 5, 6, 7, 14, 15, 16] [] [] [] (e2 := [(0, .str a1), (4, .str v12), (5, l3 none w8), (6, I6 (k1 : Int)), (7, I6 x1), (14, l3 (some 14) w11), (15, I6 (w11.length : Int)), (16, I6 (k1 : Int))]) (by kernel_rfl) (fun _ h => h) ?_
    refine W.seq ?_
    refine W.regT [0, 4, 5, 6, 7, 14, 15, 16, 24] [] [] [] (e2 := [(0, .str a1), (4, .str v12), (5, l3 none w8), (6, I6 (k1 : Int)), (7, I6 x1), (14, l3 (some 14) w11), (15, I6 (w11.length : Int)), (16, I6 (k1 : Int)), (24, .bool (decide (x1 > (v12.size : Int))))]) (by kernel_rfl) (by kernel_rfl) (fun _ h => h) ?_
    refine W.condB (decide (x1 > (v12.size : Int))) (by kernel_rfl) (fun hb => ?_) (fun hb => ?_)
    · replace h := cond_t hb h
      refine W.region (by kernel_rfl) ?_
      obtain ⟨e16, he16, h⟩ := bind_some h
      refine WO.pureK 3 (if (0 : Int) ≤ (k1 : Int) then ((List.map (AV.int .i64) w8)[Int.toNat (k1 : Int)]?).map AV.ptr else none) (v := .ptr (I6 e16)) (by kernel_rfl) (idx_av (f := (AV.int .i64)) he16) (e1 := [(0, .str a1), (4, .str v12), (5, l3 none w8), (6, I6 (k1 : Int)), (7, I6 x1), (14, l3 (some 14) w11), (15, I6 (w11.length : Int)), (16, I6 (k1 : Int)), (24, .bool (decide (x1 > (v12.size : Int)))), (25, .str a1), (26, l3 none w8), (27, I6 (k1 : Int)), (28, .ptr (I6 e16))]) (by kernel_rfl) ?_
      obtain ⟨e17, he17, h⟩ := bind_some h
      refine WO.pureK 1 (if (0 : Int) ≤ e16 ∧ e16 ≤ (a1.size : Int) ∧ (a1.size : Int) ≤ (a1.size : Int) then some (AV.str (a1.extract (Int.toNat e16) (Int.toNat (a1.size : Int)))) else none) (v := .str e17) (by kernel_rfl) (ssub_av he17) (e1 := [(0, .str a1), (4, .str v12), (5, l3 none w8), (6, I6 (k1 : Int)), (7, I6 x1), (14, l3 (some 14) w11), (15, I6 (w11.length : Int)), (16, I6 (k1 : Int)), (24, .bool (decide (x1 > (v12.size : Int)))), (25, .str a1), (26, l3 none w8), (27, I6 (k1 : Int)), (28, .ptr (I6 e16)), (29, I6 e16), (30, .str e17)]) (by kernel_rfl) ?_
      obtain ⟨e18, he18, h⟩ := bind_some h
      refine WO.pureK 1 (if (0 : Int) ≤ 0 ∧ 0 ≤ x1 ∧ x1 ≤ (e17.size : Int) then some (AV.str (e17.extract (Int.toNat 0) (Int.toNat x1))) else none) (v := .str e18) (by kernel_rfl) (ssub_av he18) (e1 := [(0, .str a1), (4, .str v12), (5, l3 none w8), (6, I6 (k1 : Int)), (7, I6 x1), (14, l3 (some 14) w11), (15, I6 (w11.length : Int)), (16, I6 (k1 : Int)), (24, .bool (decide (x1 > (v12.size : Int)))), (25, .str a1), (26, l3 none w8), (27, I6 (k1 : Int)), (28, .ptr (I6 e16)), (29, I6 e16), (30, .str e17), (31, I6 x1), (32, .str e18)]) (by kernel_rfl) ?_
      refine WO.fin [0, 4, 5, 14, 15, 16] [] [] [] (e2 := [(0, .str a1), (4, .str e18), (5, l3 none w8), (14, l3 (some 14) w11), (15, I6 (w11.length : Int)), (16, I6 (k1 : Int))]) (by kernel_rfl) (fun _ h => h) ?_
      exact hK13 e18 h
    replace h := cond_f hb h
    refine W.skip ?_
    refine W.weak [0, 4, 5, 14, 15, 16] [] [] [] (env' := [(0, .str a1), (4, .str v12), (5, l3 none w8), (14, l3 (some 14) w11), (15, I6 (w11.length : Int)), (16, I6 (k1 : Int))]) (by kernel_rfl) ?_
    exact hK13 v12 h
def rf4_Longest_j8 (v26 : ByteArray) : Option (ByteArray × Int) :=
  (bif (v26.toList == (ByteArray.mk #[]).toList) then (some ((ByteArray.mk #[]), 5)) else (some (v26, 0)))
def rf4_Longest_j11 (N1 : (ByteArray → Option (ByteArray × Int))) (v25 : ByteArray) : Option (ByteArray × Int) :=
  (N1 v25)
def rf4_Longest_j15 (N2 : (ByteArray → Option (ByteArray × Int))) (v24 : ByteArray) : Option (ByteArray × Int) :=
  (N2 v24)
def rf4_Longest_j22 (v14 : ByteArray) (e21 : ByteArray) (K15 : (ByteArray → Option (ByteArray × Int))) (v23 : Bool) : Option (ByteArray × Int) :=
  (bif v23 then (K15 e21) else (K15 v14))
def rf4_Longest_l2 (fuel : Nat) (a1 : ByteArray) (k1 : Nat) (K11 : (ByteArray → Option (ByteArray × Int))) : List Nat → Nat → ByteArray → Option (ByteArray × Int)
  | [], k2, v14 => (K11 v14)
  | x2 :: r2, k2, v14 => ((ssub a1 (k1 : Int) (a1.size : Int)).bind fun e18 => ((ssub a1 (k2 : Int) (a1.size : Int)).bind fun e19 => ((rf4_agree fuel e18 e19).bind fun w20 => ((ssub a1 (k1 : Int) (IntKind.wrap .i64 ((k1 : Int) + w20))).bind fun e21 => (bif (decide ((e21.size : Int) > (v14.size : Int))) then ((rf4_Longest_j22 v14 e21 (rf4_Longest_j15 (rf4_Longest_l2 fuel a1 k1 K11 r2 (k2 + 1)))) true) else (bif ((e21.size : Int) == (v14.size : Int)) then ((rf4_Longest_j22 v14 e21 (rf4_Longest_j15 (rf4_Longest_l2 fuel a1 k1 K11 r2 (k2 + 1)))) (Op.bytesLess e21.toList v14.toList)) else ((rf4_Longest_j22 v14 e21 (rf4_Longest_j15 (rf4_Longest_l2 fuel a1 k1 K11 r2 (k2 + 1)))) false)))))))
def rf4_Longest_l1 (fuel : Nat) (a1 : ByteArray) (K8 : (ByteArray → Option (ByteArray × Int))) : List Nat → Nat → ByteArray → Option (ByteArray × Int)
  | [], k1, v10 => (K8 v10)
  | x1 :: r1, k1, v10 => (chk (lenOk (List.range (Int.toNat (k1 : Int)))) (rf4_Longest_l2 fuel a1 k1 (rf4_Longest_j11 (rf4_Longest_l1 fuel a1 K8 r1 (k1 + 1))) (List.range (Int.toNat (k1 : Int))) 0 v10))
def rf4_Longest (fuel : Nat) (a1 : ByteArray) : Option (ByteArray × Int) :=
  ((rf4_Label a1).bind fun w5 => (bif (!w5) then (some ((ByteArray.mk #[]), 2)) else (chk (lenOk (List.range (Int.toNat (a1.size : Int)))) (rf4_Longest_l1 fuel a1 (rf4_Longest_j8) (List.range (Int.toNat (a1.size : Int))) 0 (ByteArray.mk #[])))))
theorem run_rf4_Longest (fuel : Nat) (a1 : ByteArray) (r : (ByteArray × Int)) (h : rf4_Longest fuel a1 = some r) : Run Try.prog (.call 25 [.str a1] (.tup [.str r.1, I6 r.2])) := by
  refine call_of_W Try.func25 rfl (by kernel_rfl) (env0 := [(0, .str a1)]) (by kernel_rfl) ?_
  unfold rf4_Longest at h
  refine W.seq ?_
  refine W.regT [0] [] [] [] (e2 := [(0, .str a1)]) (by kernel_rfl) (by kernel_rfl) (fun _ h => h) ?_
  refine W.seq ?_
  refine W.seq ?_
  refine W.region (by kernel_rfl) ?_
  obtain ⟨w5, hw5, h⟩ := bind_some h
  refine WO.callK 1 (F := 17) (l := [.str a1]) (C := []) (r := .bool w5) (by kernel_rfl) (by kernel_rfl) (run_rf4_Label a1 w5 hw5) (e1 := [(0, .str a1), (8, .str a1), (9, .bool w5)]) (by kernel_rfl) ?_
  refine WO.fin [0, 10] [] [] [] (e2 := [(0, .str a1), (10, .bool (!w5))]) (by kernel_rfl) (fun _ h => h) ?_
  refine W.condB (!w5) (by kernel_rfl) (fun hb => ?_) (fun hb => ?_)
  · replace h := cond_t hb h
    refine W.seq ?_
    refine W.regT [2, 3] [] [] [] (e2 := [(2, .str (ByteArray.mk #[])), (3, .int .i64 2)]) (by kernel_rfl) (by kernel_rfl) (fun _ h => h) ?_
    refine W.weak [2, 3] [] [] [] (env' := [(2, .str (ByteArray.mk #[])), (3, .int .i64 2)]) (by kernel_rfl) ?_
    have hr : aresults Try.prog Try.f25 [(2, .str (ByteArray.mk #[])), (3, .int .i64 2)] = some (.tup [.str (ByteArray.mk #[]), .int .i64 2]) := by kernel_rfl
    cases h
    exact W.ret hr
  replace h := cond_f hb h
  refine W.skip ?_
  refine W.weak [0] [] [] [] (env' := [(0, .str a1)]) (by kernel_rfl) ?_
  refine W.seq ?_
  refine W.regT [0, 4] [] [] [] (e2 := [(0, .str a1), (4, .str (ByteArray.mk #[]))]) (by kernel_rfl) (by kernel_rfl) (fun _ h => h) ?_
  refine W.seq ?_
  refine W.join (σ := (ByteArray)) (fun s => [(4, .str s)]) (fun s => (rf4_Longest_j8) s = some r) (fun s h => ?_) (fun hK8 => ?_)
  · obtain ⟨v26, rfl⟩ : ∃ x, x = s := ⟨s, rfl⟩
    have h : (rf4_Longest_j8) v26 = some r := h
    unfold rf4_Longest_j8 at h
    refine W.seq ?_
    refine W.seq ?_
    refine W.regT [4, 53] [] [] [] (e2 := [(4, .str v26), (53, .bool (v26.toList == (ByteArray.mk #[]).toList))]) (by kernel_rfl) (by kernel_rfl) (fun _ h => h) ?_
    refine W.condB (v26.toList == (ByteArray.mk #[]).toList) (by kernel_rfl) (fun hb => ?_) (fun hb => ?_)
    · replace h := cond_t hb h
      refine W.seq ?_
      refine W.regT [2, 3] [] [] [] (e2 := [(2, .str (ByteArray.mk #[])), (3, .int .i64 5)]) (by kernel_rfl) (by kernel_rfl) (fun _ h => h) ?_
      refine W.weak [2, 3] [] [] [] (env' := [(2, .str (ByteArray.mk #[])), (3, .int .i64 5)]) (by kernel_rfl) ?_
      have hr : aresults Try.prog Try.f25 [(2, .str (ByteArray.mk #[])), (3, .int .i64 5)] = some (.tup [.str (ByteArray.mk #[]), .int .i64 5]) := by kernel_rfl
      cases h
      exact W.ret hr
    replace h := cond_f hb h
    refine W.skip ?_
    refine W.weak [4] [] [] [] (env' := [(4, .str v26)]) (by kernel_rfl) ?_
    refine W.seq ?_
    refine W.regT [2, 3] [] [] [] (e2 := [(2, .str v26), (3, .int .i64 0)]) (by kernel_rfl) (by kernel_rfl) (fun _ h => h) ?_
    refine W.weak [2, 3] [] [] [] (env' := [(2, .str v26), (3, .int .i64 0)]) (by kernel_rfl) ?_
    have hr : aresults Try.prog Try.f25 [(2, .str v26), (3, .int .i64 0)] = some (.tup [.str v26, .int .i64 0]) := by kernel_rfl
    cases h
    exact W.ret hr
  refine W.seq ?_
  refine W.regT [0, 4, 12, 13] [] [] [] (e2 := [(0, .str a1), (4, .str (ByteArray.mk #[])), (12, I6 (a1.size : Int)), (13, .int .i64 0)]) (by kernel_rfl) (by kernel_rfl) (fun _ h => h) ?_
  refine W.block ?_
  obtain ⟨hl1, h⟩ := chk_some h
  refine W.weak [0, 4, 12, 13] [] [] [] (env' := [(0, .str a1), (4, .str (ByteArray.mk #[])), (12, I6 (a1.size : Int)), (13, I6 ((0 : Nat) : Int))]) (by kernel_rfl) ?_
  refine W.range (σ := (ByteArray)) (List.range (Int.toNat (a1.size : Int))) (fun k1 s => [(0, .str a1), (4, .str s), (12, I6 (a1.size : Int)), (13, I6 (k1 : Int))]) (fun r0 k0 s => rf4_Longest_l1 fuel a1 (rf4_Longest_j8) r0 k0 s = some r) (fun s h => ?_) (fun x1 r1 k1 s hx1 hk1 h hN1 => ?_) (ByteArray.mk #[]) h
  · obtain ⟨v10, rfl⟩ : ∃ x, x = s := ⟨s, rfl⟩
    have h : rf4_Longest_l1 fuel a1 (rf4_Longest_j8) [] ((List.range (Int.toNat (a1.size : Int)))).length v10 = some r := h
    rw [rf4_Longest_l1.eq_1] at h
    refine W.seq ?_
    refine W.region (by kernel_rfl) ?_
    refine WO.pureK 0 (some (.bool (decide ((((List.range (Int.toNat (a1.size : Int)))).length : Int) < (a1.size : Int))))) (v := .bool false) (by kernel_rfl) (by rw [ltr_false (n := (a1.size : Int))]) (e1 := [(0, .str a1), (4, .str v10), (12, I6 (a1.size : Int)), (13, I6 (((List.range (Int.toNat (a1.size : Int)))).length : Int)), (14, .bool false)]) (by kernel_rfl) ?_
    refine WO.fin ([0, 4, 12, 13, 14]) [] [] [] (e2 := [(0, .str a1), (4, .str v10), (12, I6 (a1.size : Int)), (13, I6 (((List.range (Int.toNat (a1.size : Int)))).length : Int)), (14, .bool false)]) (by kernel_rfl) (fun _ h => h) ?_
    refine W.seq ?_
    refine W.condB false (by kernel_rfl) (fun h => Bool.noConfusion h) (fun _ => ?_)
    refine W.exit ?_
    refine W.weak [4] [] [] [] (env' := [(4, .str v10)]) (by kernel_rfl) ?_
    exact hK8 v10 h
  · obtain ⟨v10, rfl⟩ : ∃ x, x = s := ⟨s, rfl⟩
    have h : rf4_Longest_l1 fuel a1 (rf4_Longest_j8) (x1 :: r1) k1 v10 = some r := h
    rw [rf4_Longest_l1.eq_2] at h
    refine W.seq ?_
    refine W.region (by kernel_rfl) ?_
    refine WO.pureK 0 (some (.bool (decide ((k1 : Int) < (a1.size : Int))))) (v := .bool true) (by kernel_rfl) (by rw [ltr_true hk1]) (e1 := [(0, .str a1), (4, .str v10), (12, I6 (a1.size : Int)), (13, I6 (k1 : Int)), (14, .bool true)]) (by kernel_rfl) ?_
    refine WO.fin ([0, 4, 12, 13, 14]) [] [] [] (e2 := [(0, .str a1), (4, .str v10), (12, I6 (a1.size : Int)), (13, I6 (k1 : Int)), (14, .bool true)]) (by kernel_rfl) (fun _ h => h) ?_
    refine W.seq ?_
    refine W.condB true (by kernel_rfl) (fun _ => ?_) (fun h => Bool.noConfusion h)
    refine W.skip ?_
    refine W.weak [0, 4, 12, 13] [] [] [] (env' := [(0, .str a1), (4, .str v10), (12, I6 (a1.size : Int)), (13, I6 (k1 : Int))]) (by kernel_rfl) ?_
    refine W.seq ?_
    refine W.join (σ := (ByteArray)) (fun s => [(0, .str a1), (4, .str s), (12, I6 (a1.size : Int)), (13, I6 (k1 : Int))]) (fun s => (rf4_Longest_j11 (rf4_Longest_l1 fuel a1 (rf4_Longest_j8) r1 (k1 + 1))) s = some r) (fun s h => ?_) (fun hK11 => ?_)
    · obtain ⟨v25, rfl⟩ : ∃ x, x = s := ⟨s, rfl⟩
      have h : (rf4_Longest_j11 (rf4_Longest_l1 fuel a1 (rf4_Longest_j8) r1 (k1 + 1))) v25 = some r := h
      unfold rf4_Longest_j11 at h
      refine W.region (by kernel_rfl) ?_
      refine WO.pureK 0 (some (I6 (IntKind.wrap .i64 ((k1 : Int) + 1)))) (v := I6 ((k1 + 1 : Nat) : Int)) (by kernel_rfl) (by rw [wrap_succ hl1 hk1]) (e1 := [(0, .str a1), (4, .str v25), (12, I6 (a1.size : Int)), (13, I6 (k1 : Int)), (51, I6 ((k1 + 1 : Nat) : Int))]) (by kernel_rfl) ?_
      refine WO.fin [0, 4, 12, 13] [] [] [] (e2 := [(0, .str a1), (4, .str v25), (12, I6 (a1.size : Int)), (13, I6 ((k1 + 1 : Nat) : Int))]) (by kernel_rfl) (fun _ h => h) ?_
      exact hN1 v25 h
    refine W.block ?_
    refine W.seq ?_
    refine W.regT [0, 4, 5, 12, 13] [] [] [] (e2 := [(0, .str a1), (4, .str v10), (5, I6 (k1 : Int)), (12, I6 (a1.size : Int)), (13, I6 (k1 : Int))]) (by kernel_rfl) (by kernel_rfl) (fun _ h => h) ?_
    refine W.seq ?_
    refine W.regT [0, 4, 5, 12, 13, 16, 17] [] [] [] (e2 := [(0, .str a1), (4, .str v10), (5, I6 (k1 : Int)), (12, I6 (a1.size : Int)), (13, I6 (k1 : Int)), (16, I6 (k1 : Int)), (17, .int .i64 0)]) (by kernel_rfl) (by kernel_rfl) (fun _ h => h) ?_
    refine W.block ?_
    obtain ⟨hl2, h⟩ := chk_some h
    refine W.weak [0, 4, 5, 12, 13, 16, 17] [] [] [] (env' := [(0, .str a1), (4, .str v10), (5, I6 (k1 : Int)), (12, I6 (a1.size : Int)), (13, I6 (k1 : Int)), (16, I6 (k1 : Int)), (17, I6 ((0 : Nat) : Int))]) (by kernel_rfl) ?_
    refine W.range (σ := (ByteArray)) (List.range (Int.toNat (k1 : Int))) (fun k2 s => [(0, .str a1), (4, .str s), (5, I6 (k1 : Int)), (12, I6 (a1.size : Int)), (13, I6 (k1 : Int)), (16, I6 (k1 : Int)), (17, I6 (k2 : Int))]) (fun r0 k0 s => rf4_Longest_l2 fuel a1 k1 (rf4_Longest_j11 (rf4_Longest_l1 fuel a1 (rf4_Longest_j8) r1 (k1 + 1))) r0 k0 s = some r) (fun s h => ?_) (fun x2 r2 k2 s hx2 hk2 h hN2 => ?_) v10 h
    · obtain ⟨v14, rfl⟩ : ∃ x, x = s := ⟨s, rfl⟩
      have h : rf4_Longest_l2 fuel a1 k1 (rf4_Longest_j11 (rf4_Longest_l1 fuel a1 (rf4_Longest_j8) r1 (k1 + 1))) [] ((List.range (Int.toNat (k1 : Int)))).length v14 = some r := h
      rw [rf4_Longest_l2.eq_1] at h
      refine W.seq ?_
      refine W.region (by kernel_rfl) ?_
      refine WO.pureK 0 (some (.bool (decide ((((List.range (Int.toNat (k1 : Int)))).length : Int) < (k1 : Int))))) (v := .bool false) (by kernel_rfl) (by rw [ltr_false (n := (k1 : Int))]) (e1 := [(0, .str a1), (4, .str v14), (5, I6 (k1 : Int)), (12, I6 (a1.size : Int)), (13, I6 (k1 : Int)), (16, I6 (k1 : Int)), (17, I6 (((List.range (Int.toNat (k1 : Int)))).length : Int)), (18, .bool false)]) (by kernel_rfl) ?_
      refine WO.fin ([0, 4, 5, 12, 13, 16, 17, 18]) [] [] [] (e2 := [(0, .str a1), (4, .str v14), (5, I6 (k1 : Int)), (12, I6 (a1.size : Int)), (13, I6 (k1 : Int)), (16, I6 (k1 : Int)), (17, I6 (((List.range (Int.toNat (k1 : Int)))).length : Int)), (18, .bool false)]) (by kernel_rfl) (fun _ h => h) ?_
      refine W.seq ?_
      refine W.condB false (by kernel_rfl) (fun h => Bool.noConfusion h) (fun _ => ?_)
      refine W.exit ?_
      refine W.weak [0, 4, 12, 13] [] [] [] (env' := [(0, .str a1), (4, .str v14), (12, I6 (a1.size : Int)), (13, I6 (k1 : Int))]) (by kernel_rfl) ?_
      exact hK11 v14 h
    · obtain ⟨v14, rfl⟩ : ∃ x, x = s := ⟨s, rfl⟩
      have h : rf4_Longest_l2 fuel a1 k1 (rf4_Longest_j11 (rf4_Longest_l1 fuel a1 (rf4_Longest_j8) r1 (k1 + 1))) (x2 :: r2) k2 v14 = some r := h
      rw [rf4_Longest_l2.eq_2] at h
      refine W.seq ?_
      refine W.region (by kernel_rfl) ?_
      refine WO.pureK 0 (some (.bool (decide ((k2 : Int) < (k1 : Int))))) (v := .bool true) (by kernel_rfl) (by rw [ltr_true hk2]) (e1 := [(0, .str a1), (4, .str v14), (5, I6 (k1 : Int)), (12, I6 (a1.size : Int)), (13, I6 (k1 : Int)), (16, I6 (k1 : Int)), (17, I6 (k2 : Int)), (18, .bool true)]) (by kernel_rfl) ?_
      refine WO.fin ([0, 4, 5, 12, 13, 16, 17, 18]) [] [] [] (e2 := [(0, .str a1), (4, .str v14), (5, I6 (k1 : Int)), (12, I6 (a1.size : Int)), (13, I6 (k1 : Int)), (16, I6 (k1 : Int)), (17, I6 (k2 : Int)), (18, .bool true)]) (by kernel_rfl) (fun _ h => h) ?_
      refine W.seq ?_
      refine W.condB true (by kernel_rfl) (fun _ => ?_) (fun h => Bool.noConfusion h)
      refine W.skip ?_
      refine W.weak [0, 4, 5, 12, 13, 16, 17] [] [] [] (env' := [(0, .str a1), (4, .str v14), (5, I6 (k1 : Int)), (12, I6 (a1.size : Int)), (13, I6 (k1 : Int)), (16, I6 (k1 : Int)), (17, I6 (k2 : Int))]) (by kernel_rfl) ?_
      refine W.seq ?_
      refine W.join (σ := (ByteArray)) (fun s => [(0, .str a1), (4, .str s), (5, I6 (k1 : Int)), (12, I6 (a1.size : Int)), (13, I6 (k1 : Int)), (16, I6 (k1 : Int)), (17, I6 (k2 : Int))]) (fun s => (rf4_Longest_j15 (rf4_Longest_l2 fuel a1 k1 (rf4_Longest_j11 (rf4_Longest_l1 fuel a1 (rf4_Longest_j8) r1 (k1 + 1))) r2 (k2 + 1))) s = some r) (fun s h => ?_) (fun hK15 => ?_)
      · obtain ⟨v24, rfl⟩ : ∃ x, x = s := ⟨s, rfl⟩
        have h : (rf4_Longest_j15 (rf4_Longest_l2 fuel a1 k1 (rf4_Longest_j11 (rf4_Longest_l1 fuel a1 (rf4_Longest_j8) r1 (k1 + 1))) r2 (k2 + 1))) v24 = some r := h
        unfold rf4_Longest_j15 at h
        refine W.region (by kernel_rfl) ?_
        refine WO.pureK 0 (some (I6 (IntKind.wrap .i64 ((k2 : Int) + 1)))) (v := I6 ((k2 + 1 : Nat) : Int)) (by kernel_rfl) (by rw [wrap_succ hl2 hk2]) (e1 := [(0, .str a1), (4, .str v24), (5, I6 (k1 : Int)), (12, I6 (a1.size : Int)), (13, I6 (k1 : Int)), (16, I6 (k1 : Int)), (17, I6 (k2 : Int)), (50, I6 ((k2 + 1 : Nat) : Int))]) (by kernel_rfl) ?_
        refine WO.fin [0, 4, 5, 12, 13, 16, 17] [] [] [] (e2 := [(0, .str a1), (4, .str v24), (5, I6 (k1 : Int)), (12, I6 (a1.size : Int)), (13, I6 (k1 : Int)), (16, I6 (k1 : Int)), (17, I6 ((k2 + 1 : Nat) : Int))]) (by kernel_rfl) (fun _ h => h) ?_
        exact hN2 v24 h
      refine W.block ?_
      refine W.seq ?_
      refine W.regT [0, 4, 5, 6, 12, 13, 16, 17] [] [] [] (e2 := [(0, .str a1), (4, .str v14), (5, I6 (k1 : Int)), (6, I6 (k2 : Int)), (12, I6 (a1.size : Int)), (13, I6 (k1 : Int)), (16, I6 (k1 : Int)), (17, I6 (k2 : Int))]) (by kernel_rfl) (by kernel_rfl) (fun _ h => h) ?_
      refine W.seq ?_
      refine W.region (by kernel_rfl) ?_
      obtain ⟨e18, he18, h⟩ := bind_some h
      refine WO.pureK 5 (if (0 : Int) ≤ (k1 : Int) ∧ (k1 : Int) ≤ (a1.size : Int) ∧ (a1.size : Int) ≤ (a1.size : Int) then some (AV.str (a1.extract (Int.toNat (k1 : Int)) (Int.toNat (a1.size : Int)))) else none) (v := .str e18) (by kernel_rfl) (ssub_av he18) (e1 := [(0, .str a1), (4, .str v14), (5, I6 (k1 : Int)), (6, I6 (k2 : Int)), (12, I6 (a1.size : Int)), (13, I6 (k1 : Int)), (16, I6 (k1 : Int)), (17, I6 (k2 : Int)), (20, .str a1), (21, I6 (k1 : Int)), (22, I6 (k1 : Int)), (23, .str a1), (24, I6 (k1 : Int)), (25, .str e18)]) (by kernel_rfl) ?_
      obtain ⟨e19, he19, h⟩ := bind_some h
      refine WO.pureK 2 (if (0 : Int) ≤ (k2 : Int) ∧ (k2 : Int) ≤ (a1.size : Int) ∧ (a1.size : Int) ≤ (a1.size : Int) then some (AV.str (a1.extract (Int.toNat (k2 : Int)) (Int.toNat (a1.size : Int)))) else none) (v := .str e19) (by kernel_rfl) (ssub_av he19) (e1 := [(0, .str a1), (4, .str v14), (5, I6 (k1 : Int)), (6, I6 (k2 : Int)), (12, I6 (a1.size : Int)), (13, I6 (k1 : Int)), (16, I6 (k1 : Int)), (17, I6 (k2 : Int)), (20, .str a1), (21, I6 (k1 : Int)), (22, I6 (k1 : Int)), (23, .str a1), (24, I6 (k1 : Int)), (25, .str e18), (26, .str a1), (27, I6 (k2 : Int)), (28, .str e19)]) (by kernel_rfl) ?_
      obtain ⟨w20, hw20, h⟩ := bind_some h
      refine WO.callK 0 (F := 43) (l := [.str e18, .str e19]) (C := []) (r := I6 w20) (by kernel_rfl) (by kernel_rfl) (run_rf4_agree fuel e18 e19 w20 hw20) (e1 := [(0, .str a1), (4, .str v14), (5, I6 (k1 : Int)), (6, I6 (k2 : Int)), (12, I6 (a1.size : Int)), (13, I6 (k1 : Int)), (16, I6 (k1 : Int)), (17, I6 (k2 : Int)), (20, .str a1), (21, I6 (k1 : Int)), (22, I6 (k1 : Int)), (23, .str a1), (24, I6 (k1 : Int)), (25, .str e18), (26, .str a1), (27, I6 (k2 : Int)), (28, .str e19), (29, I6 w20)]) (by kernel_rfl) ?_
      obtain ⟨e21, he21, h⟩ := bind_some h
      refine WO.pureK 1 (if (0 : Int) ≤ (k1 : Int) ∧ (k1 : Int) ≤ (W6 ((k1 : Int) + w20)) ∧ (W6 ((k1 : Int) + w20)) ≤ (a1.size : Int) then some (AV.str (a1.extract (Int.toNat (k1 : Int)) (Int.toNat (W6 ((k1 : Int) + w20))))) else none) (v := .str e21) (by kernel_rfl) (ssub_av he21) (e1 := [(0, .str a1), (4, .str v14), (5, I6 (k1 : Int)), (6, I6 (k2 : Int)), (12, I6 (a1.size : Int)), (13, I6 (k1 : Int)), (16, I6 (k1 : Int)), (17, I6 (k2 : Int)), (20, .str a1), (21, I6 (k1 : Int)), (22, I6 (k1 : Int)), (23, .str a1), (24, I6 (k1 : Int)), (25, .str e18), (26, .str a1), (27, I6 (k2 : Int)), (28, .str e19), (29, I6 w20), (30, I6 (W6 ((k1 : Int) + w20))), (31, .str e21)]) (by kernel_rfl) ?_
      refine WO.fin [0, 4, 5, 7, 12, 13, 16, 17] [] [] [] (e2 := [(0, .str a1), (4, .str v14), (5, I6 (k1 : Int)), (7, .str e21), (12, I6 (a1.size : Int)), (13, I6 (k1 : Int)), (16, I6 (k1 : Int)), (17, I6 (k2 : Int))]) (by kernel_rfl) (fun _ h => h) ?_
      refine W.seq ?_
      refine W.join (σ := (Bool)) (fun s => [(0, .str a1), (4, .str v14), (5, I6 (k1 : Int)), (7, .str e21), (12, I6 (a1.size : Int)), (13, I6 (k1 : Int)), (16, I6 (k1 : Int)), (17, I6 (k2 : Int)), (48, .bool s)]) (fun s => (rf4_Longest_j22 v14 e21 (rf4_Longest_j15 (rf4_Longest_l2 fuel a1 k1 (rf4_Longest_j11 (rf4_Longest_l1 fuel a1 (rf4_Longest_j8) r1 (k1 + 1))) r2 (k2 + 1)))) s = some r) (fun s h => ?_) (fun hK22 => ?_)
      · obtain ⟨v23, rfl⟩ : ∃ x, x = s := ⟨s, rfl⟩
        have h : (rf4_Longest_j22 v14 e21 (rf4_Longest_j15 (rf4_Longest_l2 fuel a1 k1 (rf4_Longest_j11 (rf4_Longest_l1 fuel a1 (rf4_Longest_j8) r1 (k1 + 1))) r2 (k2 + 1)))) v23 = some r := h
        unfold rf4_Longest_j22 at h
        refine W.condB v23 (by kernel_rfl) (fun hb => ?_) (fun hb => ?_)
        · replace h := cond_t hb h
          refine W.regT [0, 4, 5, 12, 13, 16, 17] [] [] [] (e2 := [(0, .str a1), (4, .str e21), (5, I6 (k1 : Int)), (12, I6 (a1.size : Int)), (13, I6 (k1 : Int)), (16, I6 (k1 : Int)), (17, I6 (k2 : Int))]) (by kernel_rfl) (by kernel_rfl) (fun _ h => h) ?_
          exact hK15 e21 h
        replace h := cond_f hb h
        refine W.skip ?_
        refine W.weak [0, 4, 5, 12, 13, 16, 17] [] [] [] (env' := [(0, .str a1), (4, .str v14), (5, I6 (k1 : Int)), (12, I6 (a1.size : Int)), (13, I6 (k1 : Int)), (16, I6 (k1 : Int)), (17, I6 (k2 : Int))]) (by kernel_rfl) ?_
        exact hK15 v14 h
      refine W.region (by kernel_rfl) ?_
      refine WO.boolK 6 (fun b => [(0, .str a1), (4, .str v14), (5, I6 (k1 : Int)), (7, .str e21), (12, I6 (a1.size : Int)), (13, I6 (k1 : Int)), (16, I6 (k1 : Int)), (17, I6 (k2 : Int)), (32, .str e21), (33, I6 (e21.size : Int)), (34, .str v14), (35, I6 (v14.size : Int)), (36, .bool b), (37, .bool b)]) (decide ((e21.size : Int) > (v14.size : Int))) (by kernel_rfl) (fun hb => ?_) (fun hb => ?_)
      · replace h := cond_t hb h
        refine WO.fin [0, 4, 5, 7, 12, 13, 16, 17, 48] [] [] [] (e2 := [(0, .str a1), (4, .str v14), (5, I6 (k1 : Int)), (7, .str e21), (12, I6 (a1.size : Int)), (13, I6 (k1 : Int)), (16, I6 (k1 : Int)), (17, I6 (k2 : Int)), (48, .bool true)]) (by kernel_rfl) (fun _ h => h) ?_
        exact hK22 true h
      replace h := cond_f hb h
      refine WO.boolK 6 (fun b => [(0, .str a1), (4, .str v14), (5, I6 (k1 : Int)), (7, .str e21), (12, I6 (a1.size : Int)), (13, I6 (k1 : Int)), (16, I6 (k1 : Int)), (17, I6 (k2 : Int)), (32, .str e21), (33, I6 (e21.size : Int)), (34, .str v14), (35, I6 (v14.size : Int)), (36, .bool false), (37, .bool false), (38, .str e21), (39, I6 (e21.size : Int)), (40, .str v14), (41, I6 (v14.size : Int)), (42, .bool b), (43, .bool b)]) ((e21.size : Int) == (v14.size : Int)) (by kernel_rfl) (fun hb => ?_) (fun hb => ?_)
      · replace h := cond_t hb h
        refine WO.fin [0, 4, 5, 7, 12, 13, 16, 17, 48] [] [] [] (e2 := [(0, .str a1), (4, .str v14), (5, I6 (k1 : Int)), (7, .str e21), (12, I6 (a1.size : Int)), (13, I6 (k1 : Int)), (16, I6 (k1 : Int)), (17, I6 (k2 : Int)), (48, .bool (Op.bytesLess e21.toList v14.toList))]) (by kernel_rfl) (fun _ h => h) ?_
        exact hK22 (Op.bytesLess e21.toList v14.toList) h
      replace h := cond_f hb h
      refine WO.fin [0, 4, 5, 7, 12, 13, 16, 17, 48] [] [] [] (e2 := [(0, .str a1), (4, .str v14), (5, I6 (k1 : Int)), (7, .str e21), (12, I6 (a1.size : Int)), (13, I6 (k1 : Int)), (16, I6 (k1 : Int)), (17, I6 (k2 : Int)), (48, .bool false)]) (by kernel_rfl) (fun _ h => h) ?_
      exact hK22 false h
def ix_Distinct_j8 (v14 : Int) : Option (Int × Int) :=
  (some (v14, 0))
def ix_Distinct_l1 (K8 : (Int → Option (Int × Int))) : List Int → Nat → Int → Option (Int × Int)
  | [], k1, v11 => (K8 v11)
  | x1 :: r1, k1, v11 => ((ix_Distinct_l1 K8 r1 (k1 + 1)) (IntKind.wrap .i64 (v11 - x1)))
def ix_Distinct (fuel : Nat) (a1 : ByteArray) : Option (Int × Int) :=
  ((ix_valid a1).bind fun w5 => (bif (!w5) then (some (0, 2)) else ((ix_common fuel a1).bind fun w10 => (chk (lenOk w10) (ix_Distinct_l1 (ix_Distinct_j8) w10 0 (IntKind.wrap .i64 (((IntKind.wrap .i64 ((a1.size : Int) * (IntKind.wrap .i64 ((a1.size : Int) + 1))))).tdiv 2)))))))
theorem run_ix_Distinct (fuel : Nat) (a1 : ByteArray) (r : (Int × Int)) (h : ix_Distinct fuel a1 = some r) : Run Try.prog (.call 26 [.str a1] (.tup [I6 r.1, I6 r.2])) := by
  refine call_of_W Try.func26 rfl (by kernel_rfl) (env0 := [(0, .str a1)]) (by kernel_rfl) ?_
  unfold ix_Distinct at h
  refine W.seq ?_
  refine W.regT [0] [] [] [] (e2 := [(0, .str a1)]) (by kernel_rfl) (by kernel_rfl) (fun _ h => h) ?_
  refine W.seq ?_
  refine W.seq ?_
  refine W.region (by kernel_rfl) ?_
  obtain ⟨w5, hw5, h⟩ := bind_some h
  refine WO.callK 1 (F := 40) (l := [.str a1]) (C := []) (r := .bool w5) (by kernel_rfl) (by kernel_rfl) (run_ix_valid a1 w5 hw5) (e1 := [(0, .str a1), (7, .str a1), (8, .bool w5)]) (by kernel_rfl) ?_
  refine WO.fin [0, 9] [] [] [] (e2 := [(0, .str a1), (9, .bool (!w5))]) (by kernel_rfl) (fun _ h => h) ?_
  refine W.condB (!w5) (by kernel_rfl) (fun hb => ?_) (fun hb => ?_)
  · replace h := cond_t hb h
    refine W.seq ?_
    refine W.regT [2, 3] [] [] [] (e2 := [(2, .int .i64 0), (3, .int .i64 2)]) (by kernel_rfl) (by kernel_rfl) (fun _ h => h) ?_
    refine W.weak [2, 3] [] [] [] (env' := [(2, .int .i64 0), (3, .int .i64 2)]) (by kernel_rfl) ?_
    have hr : aresults Try.prog Try.f26 [(2, .int .i64 0), (3, .int .i64 2)] = some (.tup [.int .i64 0, .int .i64 2]) := by kernel_rfl
    cases h
    exact W.ret hr
  replace h := cond_f hb h
  refine W.skip ?_
  refine W.weak [0] [] [] [] (env' := [(0, .str a1)]) (by kernel_rfl) ?_
  refine W.seq ?_
  refine W.regT [0, 4] [] [] [] (e2 := [(0, .str a1), (4, I6 (W6 (((W6 ((a1.size : Int) * (W6 ((a1.size : Int) + 1))))).tdiv 2)))]) (by kernel_rfl) (by kernel_rfl) (fun _ h => h) ?_
  refine W.seq ?_
  refine W.join (σ := (Int)) (fun s => [(4, I6 s)]) (fun s => (ix_Distinct_j8) s = some r) (fun s h => ?_) (fun hK8 => ?_)
  · obtain ⟨v14, rfl⟩ : ∃ x, x = s := ⟨s, rfl⟩
    have h : (ix_Distinct_j8) v14 = some r := h
    unfold ix_Distinct_j8 at h
    refine W.seq ?_
    refine W.regT [2, 3] [] [] [] (e2 := [(2, I6 v14), (3, .int .i64 0)]) (by kernel_rfl) (by kernel_rfl) (fun _ h => h) ?_
    refine W.weak [2, 3] [] [] [] (env' := [(2, I6 v14), (3, .int .i64 0)]) (by kernel_rfl) ?_
    have hr : aresults Try.prog Try.f26 [(2, I6 v14), (3, .int .i64 0)] = some (.tup [I6 v14, .int .i64 0]) := by kernel_rfl
    cases h
    exact W.ret hr
  refine W.seq ?_
  refine W.region (by kernel_rfl) ?_
  obtain ⟨w10, hw10, h⟩ := bind_some h
  refine WO.callK 1 (F := 42) (l := [.str a1]) (C := []) (r := l3 (some 1) w10) (by kernel_rfl) (by kernel_rfl) (run_ix_common fuel a1 w10 hw10) (e1 := [(0, .str a1), (4, I6 (W6 (((W6 ((a1.size : Int) * (W6 ((a1.size : Int) + 1))))).tdiv 2))), (17, .str a1), (18, l3 (some 18) w10)]) (by kernel_rfl) ?_
  refine WO.pureK 0 (some (I6 ((List.map (AV.int .i64) w10).length : Int))) (v := I6 (w10.length : Int)) (by kernel_rfl) (by rw [List.length_map]) (e1 := [(0, .str a1), (4, I6 (W6 (((W6 ((a1.size : Int) * (W6 ((a1.size : Int) + 1))))).tdiv 2))), (17, .str a1), (18, l3 (some 18) w10), (19, I6 (w10.length : Int))]) (by kernel_rfl) ?_
  refine WO.fin [4, 18, 19, 20] [] [] [] (e2 := [(4, I6 (W6 (((W6 ((a1.size : Int) * (W6 ((a1.size : Int) + 1))))).tdiv 2))), (18, l3 (some 18) w10), (19, I6 (w10.length : Int)), (20, .int .i64 0)]) (by kernel_rfl) (fun _ h => h) ?_
  refine W.block ?_
  obtain ⟨hl1, h⟩ := chk_some h
  refine W.weak [4, 18, 19, 20] [] [] [] (env' := [(4, I6 (W6 (((W6 ((a1.size : Int) * (W6 ((a1.size : Int) + 1))))).tdiv 2))), (18, l3 (some 18) w10), (19, I6 (w10.length : Int)), (20, I6 ((0 : Nat) : Int))]) (by kernel_rfl) ?_
  refine W.range (σ := (Int)) w10 (fun k1 s => [(4, I6 s), (18, l3 (some 18) w10), (19, I6 (w10.length : Int)), (20, I6 (k1 : Int))]) (fun r0 k0 s => ix_Distinct_l1 (ix_Distinct_j8) r0 k0 s = some r) (fun s h => ?_) (fun x1 r1 k1 s hx1 hk1 h hN1 => ?_) (W6 (((W6 ((a1.size : Int) * (W6 ((a1.size : Int) + 1))))).tdiv 2)) h
  · obtain ⟨v11, rfl⟩ : ∃ x, x = s := ⟨s, rfl⟩
    have h : ix_Distinct_l1 (ix_Distinct_j8) [] (w10).length v11 = some r := h
    rw [ix_Distinct_l1.eq_1] at h
    refine W.seq ?_
    refine W.region (by kernel_rfl) ?_
    refine WO.pureK 0 (some (.bool (decide (((w10).length : Int) < (w10.length : Int))))) (v := .bool false) (by kernel_rfl) (by rw [lt_false (l := w10)]) (e1 := [(4, I6 v11), (18, l3 (some 18) w10), (19, I6 (w10.length : Int)), (20, I6 ((w10).length : Int)), (21, .bool false)]) (by kernel_rfl) ?_
    refine WO.fin ([4, 18, 19, 20, 21]) [] [] [] (e2 := [(4, I6 v11), (18, l3 (some 18) w10), (19, I6 (w10.length : Int)), (20, I6 ((w10).length : Int)), (21, .bool false)]) (by kernel_rfl) (fun _ h => h) ?_
    refine W.seq ?_
    refine W.condB false (by kernel_rfl) (fun h => Bool.noConfusion h) (fun _ => ?_)
    refine W.exit ?_
    refine W.weak [4] [] [] [] (env' := [(4, I6 v11)]) (by kernel_rfl) ?_
    exact hK8 v11 h
  · obtain ⟨v11, rfl⟩ : ∃ x, x = s := ⟨s, rfl⟩
    have h : ix_Distinct_l1 (ix_Distinct_j8) (x1 :: r1) k1 v11 = some r := h
    rw [ix_Distinct_l1.eq_2] at h
    refine W.seq ?_
    refine W.region (by kernel_rfl) ?_
    refine WO.pureK 0 (some (.bool (decide ((k1 : Int) < (w10.length : Int))))) (v := .bool true) (by kernel_rfl) (by rw [lt_true hk1]) (e1 := [(4, I6 v11), (18, l3 (some 18) w10), (19, I6 (w10.length : Int)), (20, I6 (k1 : Int)), (21, .bool true)]) (by kernel_rfl) ?_
    refine WO.fin ([4, 18, 19, 20, 21]) [] [] [] (e2 := [(4, I6 v11), (18, l3 (some 18) w10), (19, I6 (w10.length : Int)), (20, I6 (k1 : Int)), (21, .bool true)]) (by kernel_rfl) (fun _ h => h) ?_
    refine W.seq ?_
    refine W.condB true (by kernel_rfl) (fun _ => ?_) (fun h => Bool.noConfusion h)
    refine W.skip ?_
    refine W.weak [4, 18, 19, 20] [] [] [] (env' := [(4, I6 v11), (18, l3 (some 18) w10), (19, I6 (w10.length : Int)), (20, I6 (k1 : Int))]) (by kernel_rfl) ?_
    refine W.seq ?_
    refine W.block ?_
    refine W.seq ?_
    refine W.region (by kernel_rfl) ?_
    refine WO.pureK 0 (if (0 : Int) ≤ (k1 : Int) then ((List.map (AV.int .i64) w10)[Int.toNat (k1 : Int)]?).map AV.ptr else none) (v := .ptr (I6 x1)) (by kernel_rfl) (idx_nat (f := (AV.int .i64)) hx1) (e1 := [(4, I6 v11), (18, l3 (some 18) w10), (19, I6 (w10.length : Int)), (20, I6 (k1 : Int)), (22, .ptr (I6 x1))]) (by kernel_rfl) ?_
    refine WO.fin [4, 6, 18, 19, 20] [] [] [] (e2 := [(4, I6 v11), (6, I6 x1), (18, l3 (some 18) w10), (19, I6 (w10.length : Int)), (20, I6 (k1 : Int))]) (by kernel_rfl) (fun _ h => h) ?_
    refine W.regT [4, 18, 19, 20] [] [] [] (e2 := [(4, I6 (W6 (v11 - x1))), (18, l3 (some 18) w10), (19, I6 (w10.length : Int)), (20, I6 (k1 : Int))]) (by kernel_rfl) (by kernel_rfl) (fun _ h => h) ?_
    refine W.region (by kernel_rfl) ?_
    refine WO.pureK 0 (some (I6 (IntKind.wrap .i64 ((k1 : Int) + 1)))) (v := I6 ((k1 + 1 : Nat) : Int)) (by kernel_rfl) (by rw [wrap_succ hl1 hk1]) (e1 := [(4, I6 (IntKind.wrap .i64 (v11 - x1))), (18, l3 (some 18) w10), (19, I6 (w10.length : Int)), (20, I6 (k1 : Int)), (27, I6 ((k1 + 1 : Nat) : Int))]) (by kernel_rfl) ?_
    refine WO.fin [4, 18, 19, 20] [] [] [] (e2 := [(4, I6 (W6 (v11 - x1))), (18, l3 (some 18) w10), (19, I6 (w10.length : Int)), (20, I6 ((k1 + 1 : Nat) : Int))]) (by kernel_rfl) (fun _ h => h) ?_
    exact hN1 (W6 (v11 - x1)) h
def ix_Absent_j22 (N2 : ((List ByteArray) → Option (ByteArray × Int))) (v36 : (List ByteArray)) : Option (ByteArray × Int) :=
  ((sub v36 1 (v36.length : Int)).bind fun e37 => (N2 e37))
def ix_Absent_l3 (a1 : ByteArray) (K22 : ((List ByteArray) → Option (ByteArray × Int))) : List Int → Nat → (List ByteArray) → Option (ByteArray × Int)
  | [], k3, v24 => (K22 v24)
  | x3 :: r3, k3, v24 => ((idx v24 0).bind fun e28 => (chk (decide (0 ≤ (IntKind.wrap .i32 x3) ∧ (IntKind.wrap .i32 x3) < 128)) (chk (catOk e28 (strOfB (IntKind.wrap .i32 x3))) ((st_Contains a1 (e28 ++ (strOfB (IntKind.wrap .i32 x3)))).bind fun w33 => (bif (!w33) then (some ((e28 ++ (strOfB (IntKind.wrap .i32 x3))), 0)) else (chk (capOk 16 ((v24 ++ [(e28 ++ (strOfB (IntKind.wrap .i32 x3)))])).length) ((ix_Absent_l3 a1 K22 r3 (k3 + 1)) (v24 ++ [(e28 ++ (strOfB (IntKind.wrap .i32 x3)))]))))))))
def ix_Absent_l2 (a1 : ByteArray) (a2 : ByteArray) : Nat → (List ByteArray) → Option (ByteArray × Int)
  | 0, _ => none
  | m2 + 1, v21 => (chk (lenOk (bytesI a2)) (ix_Absent_l3 a1 (ix_Absent_j22 (ix_Absent_l2 a1 a2 m2)) (bytesI a2) 0 v21))
def ix_Absent_j10 (fuel : Nat) (a1 : ByteArray) (a2 : ByteArray) : Option (ByteArray × Int) :=
  (ix_Absent_l2 a1 a2 fuel [(ByteArray.mk #[])])
def ix_Absent_l1 (a2 : ByteArray) (K10 : (Option (ByteArray × Int))) : Nat → Int → Option (ByteArray × Int)
  | 0, _ => none
  | m1 + 1, v12 => (bif (decide (v12 < (a2.size : Int))) then ((sidx a2 (IntKind.wrap .i64 (v12 - 1))).bind fun e17 => ((sidx a2 v12).bind fun e18 => (bif (decide (e17 ≥ e18)) then (some ((ByteArray.mk #[]), 2)) else ((ix_Absent_l1 a2 K10 m1) (IntKind.wrap .i64 (v12 + 1)))))) else K10)
def ix_Absent_j5 (fuel : Nat) (a1 : ByteArray) (a2 : ByteArray) (v8 : Bool) : Option (ByteArray × Int) :=
  (bif v8 then (some ((ByteArray.mk #[]), 2)) else (ix_Absent_l1 a2 (ix_Absent_j10 fuel a1 a2) fuel 1))
def ix_Absent (fuel : Nat) (a1 : ByteArray) (a2 : ByteArray) : Option (ByteArray × Int) :=
  ((ix_valid a1).bind fun w6 => (bif (!w6) then ((ix_Absent_j5 fuel a1 a2) true) else (bif (decide ((a2.size : Int) < 1)) then ((ix_Absent_j5 fuel a1 a2) true) else (bif (decide ((a2.size : Int) > 8)) then ((ix_Absent_j5 fuel a1 a2) true) else ((ix_printable a2).bind fun w7 => ((ix_Absent_j5 fuel a1 a2) (!w7)))))))
theorem run_ix_Absent (fuel : Nat) (a1 : ByteArray) (a2 : ByteArray) (r : (ByteArray × Int)) (h : ix_Absent fuel a1 a2 = some r) : Run Try.prog (.call 27 [.str a1, .str a2] (.tup [.str r.1, I6 r.2])) := by
  refine call_of_W Try.func27 rfl (by kernel_rfl) (env0 := [(0, .str a1), (1, .str a2)]) (by kernel_rfl) ?_
  unfold ix_Absent at h
  refine W.seq ?_
  refine W.regT [0, 1] [] [] [] (e2 := [(0, .str a1), (1, .str a2)]) (by kernel_rfl) (by kernel_rfl) (fun _ h => h) ?_
  refine W.seq ?_
  refine W.seq ?_
  refine W.join (σ := (Bool)) (fun s => [(0, .str a1), (1, .str a2), (28, .bool s)]) (fun s => (ix_Absent_j5 fuel a1 a2) s = some r) (fun s h => ?_) (fun hK5 => ?_)
  · obtain ⟨v8, rfl⟩ : ∃ x, x = s := ⟨s, rfl⟩
    have h : (ix_Absent_j5 fuel a1 a2) v8 = some r := h
    unfold ix_Absent_j5 at h
    refine W.condB v8 (by kernel_rfl) (fun hb => ?_) (fun hb => ?_)
    · replace h := cond_t hb h
      refine W.seq ?_
      refine W.regT [4, 5] [] [] [] (e2 := [(4, .str (ByteArray.mk #[])), (5, .int .i64 2)]) (by kernel_rfl) (by kernel_rfl) (fun _ h => h) ?_
      refine W.weak [4, 5] [] [] [] (env' := [(4, .str (ByteArray.mk #[])), (5, .int .i64 2)]) (by kernel_rfl) ?_
      have hr : aresults Try.prog Try.f27 [(4, .str (ByteArray.mk #[])), (5, .int .i64 2)] = some (.tup [.str (ByteArray.mk #[]), .int .i64 2]) := by kernel_rfl
      cases h
      exact W.ret hr
    replace h := cond_f hb h
    refine W.skip ?_
    refine W.weak [0, 1] [] [] [] (env' := [(0, .str a1), (1, .str a2)]) (by kernel_rfl) ?_
    refine W.seq ?_
    refine W.join (σ := Unit) (fun s => [(0, .str a1), (1, .str a2)]) (fun s => (ix_Absent_j10 fuel a1 a2) = some r) (fun s h => ?_) (fun hK10 => ?_)
    · have h : (ix_Absent_j10 fuel a1 a2) = some r := h
      unfold ix_Absent_j10 at h
      refine W.seq ?_
      refine W.regT [0, 1, 7] [] [] [] (e2 := [(0, .str a1), (1, .str a2), (7, l9 (some 43) [(ByteArray.mk #[])])]) (by kernel_rfl) (by kernel_rfl) (fun _ h => h) ?_
      refine W.block ?_
      refine W.weak [0, 1, 7] [] [] [(43, some 10700)] (env' := [(0, .str a1), (1, .str a2), (7, l9 (some 10700) [(ByteArray.mk #[])])]) (by kernel_rfl) ?_
      refine W.fuel (σ := ((List ByteArray))) (fun s => [(0, .str a1), (1, .str a2), (7, l9 (some 10700) s)]) (fun m0 s => ix_Absent_l2 a1 a2 m0 s = some r) (fun s h => ?_) (fun m2 s h hN2 => ?_) fuel [(ByteArray.mk #[])] h
      · obtain ⟨v21, rfl⟩ : ∃ x, x = s := ⟨s, rfl⟩
        have h : ix_Absent_l2 a1 a2 0 v21 = some r := h
        rw [ix_Absent_l2.eq_1] at h
        cases h
      · obtain ⟨v21, rfl⟩ : ∃ x, x = s := ⟨s, rfl⟩
        have h : ix_Absent_l2 a1 a2 (m2 + 1) v21 = some r := h
        rw [ix_Absent_l2.eq_2] at h
        refine W.seq ?_
        refine W.join (σ := ((List ByteArray))) (fun s => [(0, .str a1), (1, .str a2), (7, l9 (some 10700) s)]) (fun s => (ix_Absent_j22 (ix_Absent_l2 a1 a2 m2)) s = some r) (fun s h => ?_) (fun hK22 => ?_)
        · obtain ⟨v36, rfl⟩ : ∃ x, x = s := ⟨s, rfl⟩
          have h : (ix_Absent_j22 (ix_Absent_l2 a1 a2 m2)) v36 = some r := h
          unfold ix_Absent_j22 at h
          refine W.region (by kernel_rfl) ?_
          obtain ⟨e37, he37, h⟩ := bind_some h
          refine WO.pureK 1 (if (0 : Int) ≤ 1 ∧ 1 ≤ ((List.map AV.str v36).length : Int) ∧ ((List.map AV.str v36).length : Int) ≤ ((List.map AV.str v36).length : Int) then some (.lst 9 1 (some 10700) (((List.map AV.str v36).take (Int.toNat ((List.map AV.str v36).length : Int))).drop (Int.toNat 1))) else none) (v := l9 (some 10700) e37) (by kernel_rfl) (sub_av_len he37) (e1 := [(0, .str a1), (1, .str a2), (7, l9 (some 10700) v36), (44, l9 (some 10700) v36), (45, l9 (some 10700) e37)]) (by kernel_rfl) ?_
          refine WO.fin [0, 1, 7] [] [] [] (e2 := [(0, .str a1), (1, .str a2), (7, l9 (some 10700) e37)]) (by kernel_rfl) (fun _ h => h) ?_
          exact hN2 e37 h
        refine W.block ?_
        refine W.seq ?_
        refine W.region (by kernel_rfl) ?_
        refine WO.pureK 1 (some (AV.lst 5 1 none (bytesA a2))) (v := l5 none (bytesI a2)) (by kernel_rfl) (congrArg (fun l => some (AV.lst 5 1 none l)) (bytesA_map a2)) (e1 := [(0, .str a1), (1, .str a2), (7, l9 (some 10700) v21), (46, .str a2), (47, l5 none (bytesI a2))]) (by kernel_rfl) ?_
        refine WO.pureK 0 (some (I6 ((List.map (AV.int .u8) (bytesI a2)).length : Int))) (v := I6 ((bytesI a2).length : Int)) (by kernel_rfl) (by rw [List.length_map]) (e1 := [(0, .str a1), (1, .str a2), (7, l9 (some 10700) v21), (46, .str a2), (47, l5 none (bytesI a2)), (48, I6 ((bytesI a2).length : Int))]) (by kernel_rfl) ?_
        refine WO.fin [0, 1, 7, 47, 48, 49] [] [] [] (e2 := [(0, .str a1), (1, .str a2), (7, l9 (some 10700) v21), (47, l5 none (bytesI a2)), (48, I6 ((bytesI a2).length : Int)), (49, .int .i64 0)]) (by kernel_rfl) (fun _ h => h) ?_
        refine W.block ?_
        obtain ⟨hl3, h⟩ := chk_some h
        refine W.weak [0, 1, 7, 47, 48, 49] [] [] [] (env' := [(0, .str a1), (1, .str a2), (7, l9 (some 10700) v21), (47, l5 none (bytesI a2)), (48, I6 ((bytesI a2).length : Int)), (49, I6 ((0 : Nat) : Int))]) (by kernel_rfl) ?_
        refine W.range (σ := ((List ByteArray))) (bytesI a2) (fun k3 s => [(0, .str a1), (1, .str a2), (7, l9 (some 10700) s), (47, l5 none (bytesI a2)), (48, I6 ((bytesI a2).length : Int)), (49, I6 (k3 : Int))]) (fun r0 k0 s => ix_Absent_l3 a1 (ix_Absent_j22 (ix_Absent_l2 a1 a2 m2)) r0 k0 s = some r) (fun s h => ?_) (fun x3 r3 k3 s hx3 hk3 h hN3 => ?_) v21 h
        · obtain ⟨v24, rfl⟩ : ∃ x, x = s := ⟨s, rfl⟩
          have h : ix_Absent_l3 a1 (ix_Absent_j22 (ix_Absent_l2 a1 a2 m2)) [] ((bytesI a2)).length v24 = some r := h
          rw [ix_Absent_l3.eq_1] at h
          refine W.seq ?_
          refine W.region (by kernel_rfl) ?_
          refine WO.pureK 0 (some (.bool (decide ((((bytesI a2)).length : Int) < ((bytesI a2).length : Int))))) (v := .bool false) (by kernel_rfl) (by rw [lt_false (l := (bytesI a2))]) (e1 := [(0, .str a1), (1, .str a2), (7, l9 (some 10700) v24), (47, l5 none (bytesI a2)), (48, I6 ((bytesI a2).length : Int)), (49, I6 (((bytesI a2)).length : Int)), (50, .bool false)]) (by kernel_rfl) ?_
          refine WO.fin ([0, 1, 7, 47, 48, 49, 50]) [] [] [] (e2 := [(0, .str a1), (1, .str a2), (7, l9 (some 10700) v24), (47, l5 none (bytesI a2)), (48, I6 ((bytesI a2).length : Int)), (49, I6 (((bytesI a2)).length : Int)), (50, .bool false)]) (by kernel_rfl) (fun _ h => h) ?_
          refine W.seq ?_
          refine W.condB false (by kernel_rfl) (fun h => Bool.noConfusion h) (fun _ => ?_)
          refine W.exit ?_
          refine W.weak [0, 1, 7] [] [] [] (env' := [(0, .str a1), (1, .str a2), (7, l9 (some 10700) v24)]) (by kernel_rfl) ?_
          exact hK22 v24 h
        · obtain ⟨v24, rfl⟩ : ∃ x, x = s := ⟨s, rfl⟩
          have h : ix_Absent_l3 a1 (ix_Absent_j22 (ix_Absent_l2 a1 a2 m2)) (x3 :: r3) k3 v24 = some r := h
          rw [ix_Absent_l3.eq_2] at h
          refine W.seq ?_
          refine W.region (by kernel_rfl) ?_
          refine WO.pureK 0 (some (.bool (decide ((k3 : Int) < ((bytesI a2).length : Int))))) (v := .bool true) (by kernel_rfl) (by rw [lt_true hk3]) (e1 := [(0, .str a1), (1, .str a2), (7, l9 (some 10700) v24), (47, l5 none (bytesI a2)), (48, I6 ((bytesI a2).length : Int)), (49, I6 (k3 : Int)), (50, .bool true)]) (by kernel_rfl) ?_
          refine WO.fin ([0, 1, 7, 47, 48, 49, 50]) [] [] [] (e2 := [(0, .str a1), (1, .str a2), (7, l9 (some 10700) v24), (47, l5 none (bytesI a2)), (48, I6 ((bytesI a2).length : Int)), (49, I6 (k3 : Int)), (50, .bool true)]) (by kernel_rfl) (fun _ h => h) ?_
          refine W.seq ?_
          refine W.condB true (by kernel_rfl) (fun _ => ?_) (fun h => Bool.noConfusion h)
          refine W.skip ?_
          refine W.weak [0, 1, 7, 47, 48, 49] [] [] [] (env' := [(0, .str a1), (1, .str a2), (7, l9 (some 10700) v24), (47, l5 none (bytesI a2)), (48, I6 ((bytesI a2).length : Int)), (49, I6 (k3 : Int))]) (by kernel_rfl) ?_
          refine W.seq ?_
          refine W.block ?_
          refine W.seq ?_
          refine W.region (by kernel_rfl) ?_
          refine WO.pureK 0 (if (0 : Int) ≤ (k3 : Int) then ((List.map (AV.int .u8) (bytesI a2))[Int.toNat (k3 : Int)]?).map AV.ptr else none) (v := .ptr (.int .u8 x3)) (by kernel_rfl) (idx_nat (f := (AV.int .u8)) hx3) (e1 := [(0, .str a1), (1, .str a2), (7, l9 (some 10700) v24), (47, l5 none (bytesI a2)), (48, I6 ((bytesI a2).length : Int)), (49, I6 (k3 : Int)), (51, .ptr (.int .u8 x3))]) (by kernel_rfl) ?_
          refine WO.fin [0, 1, 7, 9, 47, 48, 49] [] [] [] (e2 := [(0, .str a1), (1, .str a2), (7, l9 (some 10700) v24), (9, .int .u8 x3), (47, l5 none (bytesI a2)), (48, I6 ((bytesI a2).length : Int)), (49, I6 (k3 : Int))]) (by kernel_rfl) (fun _ h => h) ?_
          refine W.seq ?_
          refine W.region (by kernel_rfl) ?_
          obtain ⟨e28, he28, h⟩ := bind_some h
          refine WO.pureK 1 (if (0 : Int) ≤ 0 then ((List.map AV.str v24)[Int.toNat 0]?).map AV.ptr else none) (v := .ptr (.str e28)) (by kernel_rfl) (idx_av (f := AV.str) he28) (e1 := [(0, .str a1), (1, .str a2), (7, l9 (some 10700) v24), (9, .int .u8 x3), (47, l5 none (bytesI a2)), (48, I6 ((bytesI a2).length : Int)), (49, I6 (k3 : Int)), (53, l9 (some 10700) v24), (54, .ptr (.str e28))]) (by kernel_rfl) ?_
          obtain ⟨hc29, h⟩ := chk_some h
          refine WO.pureK 3 (if 0 ≤ (IntKind.wrap .i32 x3) ∧ (IntKind.wrap .i32 x3) < 128 then some (AV.str ⟨#[UInt8.ofNat (Int.toNat (IntKind.wrap .i32 x3))]⟩) else none) (v := .str (strOfB (IntKind.wrap .i32 x3))) (by kernel_rfl) (ite_some hc29) (e1 := [(0, .str a1), (1, .str a2), (7, l9 (some 10700) v24), (9, .int .u8 x3), (47, l5 none (bytesI a2)), (48, I6 ((bytesI a2).length : Int)), (49, I6 (k3 : Int)), (53, l9 (some 10700) v24), (54, .ptr (.str e28)), (55, .str e28), (56, .int .u8 x3), (57, .int .i32 (IntKind.wrap .i32 x3)), (58, .str (strOfB (IntKind.wrap .i32 x3)))]) (by kernel_rfl) ?_
          obtain ⟨hc30, h⟩ := chk_some h
          refine WO.pureK 0 (if ((e28.size + (strOfB (IntKind.wrap .i32 x3)).size : Nat) : Int) > IntKind.i64.max then none else some (.str (e28 ++ (strOfB (IntKind.wrap .i32 x3))))) (v := .str (e28 ++ (strOfB (IntKind.wrap .i32 x3)))) (by kernel_rfl) (if_neg (not_gt_of_chk hc30)) (e1 := [(0, .str a1), (1, .str a2), (7, l9 (some 10700) v24), (9, .int .u8 x3), (47, l5 none (bytesI a2)), (48, I6 ((bytesI a2).length : Int)), (49, I6 (k3 : Int)), (53, l9 (some 10700) v24), (54, .ptr (.str e28)), (55, .str e28), (56, .int .u8 x3), (57, .int .i32 (IntKind.wrap .i32 x3)), (58, .str (strOfB (IntKind.wrap .i32 x3))), (59, .str (e28 ++ (strOfB (IntKind.wrap .i32 x3))))]) (by kernel_rfl) ?_
          refine WO.fin [0, 1, 7, 10, 47, 48, 49] [] [] [] (e2 := [(0, .str a1), (1, .str a2), (7, l9 (some 10700) v24), (10, .str (e28 ++ (strOfB (IntKind.wrap .i32 x3)))), (47, l5 none (bytesI a2)), (48, I6 ((bytesI a2).length : Int)), (49, I6 (k3 : Int))]) (by kernel_rfl) (fun _ h => h) ?_
          refine W.seq ?_
          refine W.seq ?_
          refine W.region (by kernel_rfl) ?_
          obtain ⟨w33, hw33, h⟩ := bind_some h
          refine WO.callK 2 (F := 44) (l := [.str a1, .str (e28 ++ (strOfB (IntKind.wrap .i32 x3)))]) (C := []) (r := .bool w33) (by kernel_rfl) (by kernel_rfl) (run_st_Contains a1 (e28 ++ (strOfB (IntKind.wrap .i32 x3))) w33 hw33) (e1 := [(0, .str a1), (1, .str a2), (7, l9 (some 10700) v24), (10, .str (e28 ++ (strOfB (IntKind.wrap .i32 x3)))), (47, l5 none (bytesI a2)), (48, I6 ((bytesI a2).length : Int)), (49, I6 (k3 : Int)), (60, .str a1), (61, .str (e28 ++ (strOfB (IntKind.wrap .i32 x3)))), (62, .bool w33)]) (by kernel_rfl) ?_
          refine WO.fin [0, 1, 7, 10, 47, 48, 49, 63] [] [] [] (e2 := [(0, .str a1), (1, .str a2), (7, l9 (some 10700) v24), (10, .str (e28 ++ (strOfB (IntKind.wrap .i32 x3)))), (47, l5 none (bytesI a2)), (48, I6 ((bytesI a2).length : Int)), (49, I6 (k3 : Int)), (63, .bool (!w33))]) (by kernel_rfl) (fun _ h => h) ?_
          refine W.condB (!w33) (by kernel_rfl) (fun hb => ?_) (fun hb => ?_)
          · replace h := cond_t hb h
            refine W.seq ?_
            refine W.regT [4, 5] [] [] [] (e2 := [(4, .str (e28 ++ (strOfB (IntKind.wrap .i32 x3)))), (5, .int .i64 0)]) (by kernel_rfl) (by kernel_rfl) (fun _ h => h) ?_
            refine W.weak [4, 5] [] [] [] (env' := [(4, .str (e28 ++ (strOfB (IntKind.wrap .i32 x3)))), (5, .int .i64 0)]) (by kernel_rfl) ?_
            have hr : aresults Try.prog Try.f27 [(4, .str (e28 ++ (strOfB (IntKind.wrap .i32 x3)))), (5, .int .i64 0)] = some (.tup [.str (e28 ++ (strOfB (IntKind.wrap .i32 x3))), .int .i64 0]) := by kernel_rfl
            cases h
            exact W.ret hr
          replace h := cond_f hb h
          refine W.skip ?_
          refine W.weak [0, 1, 7, 10, 47, 48, 49] [] [] [] (env' := [(0, .str a1), (1, .str a2), (7, l9 (some 10700) v24), (10, .str (e28 ++ (strOfB (IntKind.wrap .i32 x3)))), (47, l5 none (bytesI a2)), (48, I6 ((bytesI a2).length : Int)), (49, I6 (k3 : Int))]) (by kernel_rfl) ?_
          refine W.region (by kernel_rfl) ?_
          obtain ⟨hc35, h⟩ := chk_some h
          refine WO.appendK 3 (d := 68) (e := 9) (s := 1) (bytes := 16) (xs := (List.map AV.str v24)) (ys := (List.map AV.str [(e28 ++ (strOfB (IntKind.wrap .i32 x3)))])) (zs := (List.map AV.str (v24 ++ [(e28 ++ (strOfB (IntKind.wrap .i32 x3)))]))) (env1 := [(0, .str a1), (1, .str a2), (7, l9 none v24), (10, .str (e28 ++ (strOfB (IntKind.wrap .i32 x3)))), (47, l5 none (bytesI a2)), (48, I6 ((bytesI a2).length : Int)), (49, I6 (k3 : Int)), (65, l9 none v24), (66, .str (e28 ++ (strOfB (IntKind.wrap .i32 x3)))), (67, l9 (some 67) [(e28 ++ (strOfB (IntKind.wrap .i32 x3)))])]) (by kernel_rfl) (List.map_append.symm) (by rw [List.length_map]; exact hc35) (e1 := [(0, .str a1), (1, .str a2), (7, l9 none v24), (10, .str (e28 ++ (strOfB (IntKind.wrap .i32 x3)))), (47, l5 none (bytesI a2)), (48, I6 ((bytesI a2).length : Int)), (49, I6 (k3 : Int)), (65, l9 none v24), (66, .str (e28 ++ (strOfB (IntKind.wrap .i32 x3)))), (67, l9 (some 67) [(e28 ++ (strOfB (IntKind.wrap .i32 x3)))]), (68, l9 (some 68) (v24 ++ [(e28 ++ (strOfB (IntKind.wrap .i32 x3)))]))]) (by kernel_rfl) ?_
          refine WO.fin [0, 1, 7, 47, 48, 49] [] [] [] (e2 := [(0, .str a1), (1, .str a2), (7, l9 (some 68) (v24 ++ [(e28 ++ (strOfB (IntKind.wrap .i32 x3)))])), (47, l5 none (bytesI a2)), (48, I6 ((bytesI a2).length : Int)), (49, I6 (k3 : Int))]) (by kernel_rfl) (fun _ h => h) ?_
          refine W.region (by kernel_rfl) ?_
          refine WO.pureK 0 (some (I6 (IntKind.wrap .i64 ((k3 : Int) + 1)))) (v := I6 ((k3 + 1 : Nat) : Int)) (by kernel_rfl) (by rw [wrap_succ hl3 hk3]) (e1 := [(0, .str a1), (1, .str a2), (7, l9 (some 68) (v24 ++ [(e28 ++ (strOfB (IntKind.wrap .i32 x3)))])), (47, l5 none (bytesI a2)), (48, I6 ((bytesI a2).length : Int)), (49, I6 (k3 : Int)), (69, I6 ((k3 + 1 : Nat) : Int))]) (by kernel_rfl) ?_
          refine WO.fin [0, 1, 7, 47, 48, 49] [] [] [(68, some 10700)] (e2 := [(0, .str a1), (1, .str a2), (7, l9 (some 10700) (v24 ++ [(e28 ++ (strOfB (IntKind.wrap .i32 x3)))])), (47, l5 none (bytesI a2)), (48, I6 ((bytesI a2).length : Int)), (49, I6 ((k3 + 1 : Nat) : Int))]) (by kernel_rfl) (fun _ h => h) ?_
          exact hN3 (v24 ++ [(e28 ++ (strOfB (IntKind.wrap .i32 x3)))]) h
    refine W.seq ?_
    refine W.regT [0, 1, 6] [] [] [] (e2 := [(0, .str a1), (1, .str a2), (6, .int .i64 1)]) (by kernel_rfl) (by kernel_rfl) (fun _ h => h) ?_
    refine W.block ?_
    refine W.weak [0, 1, 6] [] [] [] (env' := [(0, .str a1), (1, .str a2), (6, .int .i64 1)]) (by kernel_rfl) ?_
    refine W.fuel (σ := (Int)) (fun s => [(0, .str a1), (1, .str a2), (6, I6 s)]) (fun m0 s => ix_Absent_l1 a2 (ix_Absent_j10 fuel a1 a2) m0 s = some r) (fun s h => ?_) (fun m1 s h hN1 => ?_) fuel 1 h
    · obtain ⟨v12, rfl⟩ : ∃ x, x = s := ⟨s, rfl⟩
      have h : ix_Absent_l1 a2 (ix_Absent_j10 fuel a1 a2) 0 v12 = some r := h
      rw [ix_Absent_l1.eq_1] at h
      cases h
    · obtain ⟨v12, rfl⟩ : ∃ x, x = s := ⟨s, rfl⟩
      have h : ix_Absent_l1 a2 (ix_Absent_j10 fuel a1 a2) (m1 + 1) v12 = some r := h
      rw [ix_Absent_l1.eq_2] at h
      refine W.seq ?_
      refine W.seq ?_
      refine W.regT [0, 1, 6, 32] [] [] [] (e2 := [(0, .str a1), (1, .str a2), (6, I6 v12), (32, .bool (decide (v12 < (a2.size : Int))))]) (by kernel_rfl) (by kernel_rfl) (fun _ h => h) ?_
      refine W.condB (decide (v12 < (a2.size : Int))) (by kernel_rfl) (fun hb => ?_) (fun hb => ?_)
      · replace h := cond_t hb h
        refine W.skip ?_
        refine W.weak [0, 1, 6] [] [] [] (env' := [(0, .str a1), (1, .str a2), (6, I6 v12)]) (by kernel_rfl) ?_
        refine W.seq ?_
        refine W.block ?_
        refine W.seq ?_
        refine W.region (by kernel_rfl) ?_
        obtain ⟨e17, he17, h⟩ := bind_some h
        refine WO.pureK 3 (if (0 : Int) ≤ (W6 (v12 - 1)) then (a2[Int.toNat (W6 (v12 - 1))]?).map fun b => AV.int .u8 b.toNat else none) (v := .int .u8 e17) (by kernel_rfl) (sidx_av he17) (e1 := [(0, .str a1), (1, .str a2), (6, I6 v12), (35, .str a2), (36, I6 v12), (37, I6 (W6 (v12 - 1))), (38, .int .u8 e17)]) (by kernel_rfl) ?_
        obtain ⟨e18, he18, h⟩ := bind_some h
        refine WO.pureK 2 (if (0 : Int) ≤ v12 then (a2[Int.toNat v12]?).map fun b => AV.int .u8 b.toNat else none) (v := .int .u8 e18) (by kernel_rfl) (sidx_av he18) (e1 := [(0, .str a1), (1, .str a2), (6, I6 v12), (35, .str a2), (36, I6 v12), (37, I6 (W6 (v12 - 1))), (38, .int .u8 e17), (39, .str a2), (40, I6 v12), (41, .int .u8 e18)]) (by kernel_rfl) ?_
        refine WO.fin [0, 1, 6, 42] [] [] [] (e2 := [(0, .str a1), (1, .str a2), (6, I6 v12), (42, .bool (decide (e17 ≥ e18)))]) (by kernel_rfl) (fun _ h => h) ?_
        refine W.condB (decide (e17 ≥ e18)) (by kernel_rfl) (fun hb => ?_) (fun hb => ?_)
        · replace h := cond_t hb h
          refine W.seq ?_
          refine W.regT [4, 5] [] [] [] (e2 := [(4, .str (ByteArray.mk #[])), (5, .int .i64 2)]) (by kernel_rfl) (by kernel_rfl) (fun _ h => h) ?_
          refine W.weak [4, 5] [] [] [] (env' := [(4, .str (ByteArray.mk #[])), (5, .int .i64 2)]) (by kernel_rfl) ?_
          have hr : aresults Try.prog Try.f27 [(4, .str (ByteArray.mk #[])), (5, .int .i64 2)] = some (.tup [.str (ByteArray.mk #[]), .int .i64 2]) := by kernel_rfl
          cases h
          exact W.ret hr
        replace h := cond_f hb h
        refine W.skip ?_
        refine W.weak [0, 1, 6] [] [] [] (env' := [(0, .str a1), (1, .str a2), (6, I6 v12)]) (by kernel_rfl) ?_
        refine W.regT [0, 1, 6] [] [] [] (e2 := [(0, .str a1), (1, .str a2), (6, I6 (W6 (v12 + 1)))]) (by kernel_rfl) (by kernel_rfl) (fun _ h => h) ?_
        exact hN1 (W6 (v12 + 1)) h
      replace h := cond_f hb h
      refine W.exit ?_
      refine W.weak [0, 1] [] [] [] (env' := [(0, .str a1), (1, .str a2)]) (by kernel_rfl) ?_
      exact hK10 () h
  refine W.region (by kernel_rfl) ?_
  obtain ⟨w6, hw6, h⟩ := bind_some h
  refine WO.callK 1 (F := 40) (l := [.str a1]) (C := []) (r := .bool w6) (by kernel_rfl) (by kernel_rfl) (run_ix_valid a1 w6 hw6) (e1 := [(0, .str a1), (1, .str a2), (11, .str a1), (12, .bool w6)]) (by kernel_rfl) ?_
  refine WO.boolK 2 (fun b => [(0, .str a1), (1, .str a2), (11, .str a1), (12, .bool w6), (13, .bool b), (14, .bool b)]) (!w6) (by kernel_rfl) (fun hb => ?_) (fun hb => ?_)
  · replace h := cond_t hb h
    refine WO.fin [0, 1, 28] [] [] [] (e2 := [(0, .str a1), (1, .str a2), (28, .bool true)]) (by kernel_rfl) (fun _ h => h) ?_
    exact hK5 true h
  replace h := cond_f hb h
  refine WO.boolK 5 (fun b => [(0, .str a1), (1, .str a2), (11, .str a1), (12, .bool w6), (13, .bool false), (14, .bool false), (15, .str a2), (16, I6 (a2.size : Int)), (17, .bool b), (18, .bool b), (19, .bool b)]) (decide ((a2.size : Int) < 1)) (by kernel_rfl) (fun hb => ?_) (fun hb => ?_)
  · replace h := cond_t hb h
    refine WO.fin [0, 1, 28] [] [] [] (e2 := [(0, .str a1), (1, .str a2), (28, .bool true)]) (by kernel_rfl) (fun _ h => h) ?_
    exact hK5 true h
  replace h := cond_f hb h
  refine WO.boolK 5 (fun b => [(0, .str a1), (1, .str a2), (11, .str a1), (12, .bool w6), (13, .bool false), (14, .bool false), (15, .str a2), (16, I6 (a2.size : Int)), (17, .bool false), (18, .bool false), (19, .bool false), (20, .str a2), (21, I6 (a2.size : Int)), (22, .bool b), (23, .bool b), (24, .bool b)]) (decide ((a2.size : Int) > 8)) (by kernel_rfl) (fun hb => ?_) (fun hb => ?_)
  · replace h := cond_t hb h
    refine WO.fin [0, 1, 28] [] [] [] (e2 := [(0, .str a1), (1, .str a2), (28, .bool true)]) (by kernel_rfl) (fun _ h => h) ?_
    exact hK5 true h
  replace h := cond_f hb h
  obtain ⟨w7, hw7, h⟩ := bind_some h
  refine WO.callK 1 (F := 45) (l := [.str a2]) (C := []) (r := .bool w7) (by kernel_rfl) (by kernel_rfl) (run_ix_printable a2 w7 hw7) (e1 := [(0, .str a1), (1, .str a2), (11, .str a1), (12, .bool w6), (13, .bool false), (14, .bool false), (15, .str a2), (16, I6 (a2.size : Int)), (17, .bool false), (18, .bool false), (19, .bool false), (20, .str a2), (21, I6 (a2.size : Int)), (22, .bool false), (23, .bool false), (24, .bool false), (25, .str a2), (26, .bool w7)]) (by kernel_rfl) ?_
  refine WO.fin [0, 1, 28] [] [] [] (e2 := [(0, .str a1), (1, .str a2), (28, .bool (!w7))]) (by kernel_rfl) (fun _ h => h) ?_
  exact hK5 (!w7) h
def rf4_Distinct_j4 (v19 : Int) : Option Int :=
  (some v19)
def rf4_Distinct_j10 (a1 : ByteArray) (k1 : Nat) (v6 : Int) (N1 : (Int → Option Int)) (v18 : Int) : Option Int :=
  (N1 (IntKind.wrap .i64 (v6 + (IntKind.wrap .i64 ((IntKind.wrap .i64 ((a1.size : Int) - (k1 : Int))) - v18)))))
def rf4_Distinct_l2 (fuel : Nat) (a1 : ByteArray) (k1 : Nat) (K10 : (Int → Option Int)) : List Nat → Nat → Int → Option Int
  | [], k2, v12 => (K10 v12)
  | x2 :: r2, k2, v12 => ((ssub a1 (k1 : Int) (a1.size : Int)).bind fun e15 => ((ssub a1 (k2 : Int) (a1.size : Int)).bind fun e16 => ((rf4_agree fuel e15 e16).bind fun w17 => ((rf4_Distinct_l2 fuel a1 k1 K10 r2 (k2 + 1)) (if w17 > v12 then w17 else v12)))))
def rf4_Distinct_l1 (fuel : Nat) (a1 : ByteArray) (K4 : (Int → Option Int)) : List Nat → Nat → Int → Option Int
  | [], k1, v6 => (K4 v6)
  | x1 :: r1, k1, v6 => (chk (lenOk (List.range (Int.toNat (k1 : Int)))) (rf4_Distinct_l2 fuel a1 k1 (rf4_Distinct_j10 a1 k1 v6 (rf4_Distinct_l1 fuel a1 K4 r1 (k1 + 1))) (List.range (Int.toNat (k1 : Int))) 0 0))
def rf4_Distinct (fuel : Nat) (a1 : ByteArray) : Option Int :=
  (chk (lenOk (List.range (Int.toNat (a1.size : Int)))) (rf4_Distinct_l1 fuel a1 (rf4_Distinct_j4) (List.range (Int.toNat (a1.size : Int))) 0 0))
theorem run_rf4_Distinct (fuel : Nat) (a1 : ByteArray) (r : Int) (h : rf4_Distinct fuel a1 = some r) : Run Try.prog (.call 28 [.str a1] (I6 r)) := by
  refine call_of_W Try.func28 rfl (by kernel_rfl) (env0 := [(0, .str a1)]) (by kernel_rfl) ?_
  unfold rf4_Distinct at h
  refine W.seq ?_
  refine W.regT [0] [] [] [] (e2 := [(0, .str a1)]) (by kernel_rfl) (by kernel_rfl) (fun _ h => h) ?_
  refine W.seq ?_
  refine W.regT [0, 3] [] [] [] (e2 := [(0, .str a1), (3, .int .i64 0)]) (by kernel_rfl) (by kernel_rfl) (fun _ h => h) ?_
  refine W.seq ?_
  refine W.join (σ := (Int)) (fun s => [(3, I6 s)]) (fun s => (rf4_Distinct_j4) s = some r) (fun s h => ?_) (fun hK4 => ?_)
  · obtain ⟨v19, rfl⟩ : ∃ x, x = s := ⟨s, rfl⟩
    have h : (rf4_Distinct_j4) v19 = some r := h
    unfold rf4_Distinct_j4 at h
    refine W.seq ?_
    refine W.regT [2] [] [] [] (e2 := [(2, I6 v19)]) (by kernel_rfl) (by kernel_rfl) (fun _ h => h) ?_
    refine W.weak [2] [] [] [] (env' := [(2, I6 v19)]) (by kernel_rfl) ?_
    have hr : aresults Try.prog Try.f28 [(2, I6 v19)] = some (I6 v19) := by kernel_rfl
    cases h
    exact W.ret hr
  refine W.seq ?_
  refine W.regT [0, 3, 8, 9] [] [] [] (e2 := [(0, .str a1), (3, .int .i64 0), (8, I6 (a1.size : Int)), (9, .int .i64 0)]) (by kernel_rfl) (by kernel_rfl) (fun _ h => h) ?_
  refine W.block ?_
  obtain ⟨hl1, h⟩ := chk_some h
  refine W.weak [0, 3, 8, 9] [] [] [] (env' := [(0, .str a1), (3, .int .i64 0), (8, I6 (a1.size : Int)), (9, I6 ((0 : Nat) : Int))]) (by kernel_rfl) ?_
  refine W.range (σ := (Int)) (List.range (Int.toNat (a1.size : Int))) (fun k1 s => [(0, .str a1), (3, I6 s), (8, I6 (a1.size : Int)), (9, I6 (k1 : Int))]) (fun r0 k0 s => rf4_Distinct_l1 fuel a1 (rf4_Distinct_j4) r0 k0 s = some r) (fun s h => ?_) (fun x1 r1 k1 s hx1 hk1 h hN1 => ?_) 0 h
  · obtain ⟨v6, rfl⟩ : ∃ x, x = s := ⟨s, rfl⟩
    have h : rf4_Distinct_l1 fuel a1 (rf4_Distinct_j4) [] ((List.range (Int.toNat (a1.size : Int)))).length v6 = some r := h
    rw [rf4_Distinct_l1.eq_1] at h
    refine W.seq ?_
    refine W.region (by kernel_rfl) ?_
    refine WO.pureK 0 (some (.bool (decide ((((List.range (Int.toNat (a1.size : Int)))).length : Int) < (a1.size : Int))))) (v := .bool false) (by kernel_rfl) (by rw [ltr_false (n := (a1.size : Int))]) (e1 := [(0, .str a1), (3, I6 v6), (8, I6 (a1.size : Int)), (9, I6 (((List.range (Int.toNat (a1.size : Int)))).length : Int)), (10, .bool false)]) (by kernel_rfl) ?_
    refine WO.fin ([0, 3, 8, 9, 10]) [] [] [] (e2 := [(0, .str a1), (3, I6 v6), (8, I6 (a1.size : Int)), (9, I6 (((List.range (Int.toNat (a1.size : Int)))).length : Int)), (10, .bool false)]) (by kernel_rfl) (fun _ h => h) ?_
    refine W.seq ?_
    refine W.condB false (by kernel_rfl) (fun h => Bool.noConfusion h) (fun _ => ?_)
    refine W.exit ?_
    refine W.weak [3] [] [] [] (env' := [(3, I6 v6)]) (by kernel_rfl) ?_
    exact hK4 v6 h
  · obtain ⟨v6, rfl⟩ : ∃ x, x = s := ⟨s, rfl⟩
    have h : rf4_Distinct_l1 fuel a1 (rf4_Distinct_j4) (x1 :: r1) k1 v6 = some r := h
    rw [rf4_Distinct_l1.eq_2] at h
    refine W.seq ?_
    refine W.region (by kernel_rfl) ?_
    refine WO.pureK 0 (some (.bool (decide ((k1 : Int) < (a1.size : Int))))) (v := .bool true) (by kernel_rfl) (by rw [ltr_true hk1]) (e1 := [(0, .str a1), (3, I6 v6), (8, I6 (a1.size : Int)), (9, I6 (k1 : Int)), (10, .bool true)]) (by kernel_rfl) ?_
    refine WO.fin ([0, 3, 8, 9, 10]) [] [] [] (e2 := [(0, .str a1), (3, I6 v6), (8, I6 (a1.size : Int)), (9, I6 (k1 : Int)), (10, .bool true)]) (by kernel_rfl) (fun _ h => h) ?_
    refine W.seq ?_
    refine W.condB true (by kernel_rfl) (fun _ => ?_) (fun h => Bool.noConfusion h)
    refine W.skip ?_
    refine W.weak [0, 3, 8, 9] [] [] [] (env' := [(0, .str a1), (3, I6 v6), (8, I6 (a1.size : Int)), (9, I6 (k1 : Int))]) (by kernel_rfl) ?_
    refine W.seq ?_
    refine W.block ?_
    refine W.seq ?_
    refine W.regT [0, 3, 4, 8, 9] [] [] [] (e2 := [(0, .str a1), (3, I6 v6), (4, I6 (k1 : Int)), (8, I6 (a1.size : Int)), (9, I6 (k1 : Int))]) (by kernel_rfl) (by kernel_rfl) (fun _ h => h) ?_
    refine W.seq ?_
    refine W.regT [0, 3, 4, 5, 8, 9] [] [] [] (e2 := [(0, .str a1), (3, I6 v6), (4, I6 (k1 : Int)), (5, .int .i64 0), (8, I6 (a1.size : Int)), (9, I6 (k1 : Int))]) (by kernel_rfl) (by kernel_rfl) (fun _ h => h) ?_
    refine W.seq ?_
    refine W.join (σ := (Int)) (fun s => [(0, .str a1), (3, I6 v6), (4, I6 (k1 : Int)), (5, I6 s), (8, I6 (a1.size : Int)), (9, I6 (k1 : Int))]) (fun s => (rf4_Distinct_j10 a1 k1 v6 (rf4_Distinct_l1 fuel a1 (rf4_Distinct_j4) r1 (k1 + 1))) s = some r) (fun s h => ?_) (fun hK10 => ?_)
    · obtain ⟨v18, rfl⟩ : ∃ x, x = s := ⟨s, rfl⟩
      have h : (rf4_Distinct_j10 a1 k1 v6 (rf4_Distinct_l1 fuel a1 (rf4_Distinct_j4) r1 (k1 + 1))) v18 = some r := h
      unfold rf4_Distinct_j10 at h
      refine W.regT [0, 3, 8, 9] [] [] [] (e2 := [(0, .str a1), (3, I6 (W6 (v6 + (W6 ((W6 ((a1.size : Int) - (k1 : Int))) - v18))))), (8, I6 (a1.size : Int)), (9, I6 (k1 : Int))]) (by kernel_rfl) (by kernel_rfl) (fun _ h => h) ?_
      refine W.region (by kernel_rfl) ?_
      refine WO.pureK 0 (some (I6 (IntKind.wrap .i64 ((k1 : Int) + 1)))) (v := I6 ((k1 + 1 : Nat) : Int)) (by kernel_rfl) (by rw [wrap_succ hl1 hk1]) (e1 := [(0, .str a1), (3, I6 (IntKind.wrap .i64 (v6 + (IntKind.wrap .i64 ((IntKind.wrap .i64 ((a1.size : Int) - (k1 : Int))) - v18))))), (8, I6 (a1.size : Int)), (9, I6 (k1 : Int)), (34, I6 ((k1 + 1 : Nat) : Int))]) (by kernel_rfl) ?_
      refine WO.fin [0, 3, 8, 9] [] [] [] (e2 := [(0, .str a1), (3, I6 (W6 (v6 + (W6 ((W6 ((a1.size : Int) - (k1 : Int))) - v18))))), (8, I6 (a1.size : Int)), (9, I6 ((k1 + 1 : Nat) : Int))]) (by kernel_rfl) (fun _ h => h) ?_
      exact hN1 (W6 (v6 + (W6 ((W6 ((a1.size : Int) - (k1 : Int))) - v18)))) h
    refine W.seq ?_
    refine W.regT [0, 3, 4, 5, 8, 9, 12, 13] [] [] [] (e2 := [(0, .str a1), (3, I6 v6), (4, I6 (k1 : Int)), (5, .int .i64 0), (8, I6 (a1.size : Int)), (9, I6 (k1 : Int)), (12, I6 (k1 : Int)), (13, .int .i64 0)]) (by kernel_rfl) (by kernel_rfl) (fun _ h => h) ?_
    refine W.block ?_
    obtain ⟨hl2, h⟩ := chk_some h
    refine W.weak [0, 3, 4, 5, 8, 9, 12, 13] [] [] [] (env' := [(0, .str a1), (3, I6 v6), (4, I6 (k1 : Int)), (5, .int .i64 0), (8, I6 (a1.size : Int)), (9, I6 (k1 : Int)), (12, I6 (k1 : Int)), (13, I6 ((0 : Nat) : Int))]) (by kernel_rfl) ?_
    refine W.range (σ := (Int)) (List.range (Int.toNat (k1 : Int))) (fun k2 s => [(0, .str a1), (3, I6 v6), (4, I6 (k1 : Int)), (5, I6 s), (8, I6 (a1.size : Int)), (9, I6 (k1 : Int)), (12, I6 (k1 : Int)), (13, I6 (k2 : Int))]) (fun r0 k0 s => rf4_Distinct_l2 fuel a1 k1 (rf4_Distinct_j10 a1 k1 v6 (rf4_Distinct_l1 fuel a1 (rf4_Distinct_j4) r1 (k1 + 1))) r0 k0 s = some r) (fun s h => ?_) (fun x2 r2 k2 s hx2 hk2 h hN2 => ?_) 0 h
    · obtain ⟨v12, rfl⟩ : ∃ x, x = s := ⟨s, rfl⟩
      have h : rf4_Distinct_l2 fuel a1 k1 (rf4_Distinct_j10 a1 k1 v6 (rf4_Distinct_l1 fuel a1 (rf4_Distinct_j4) r1 (k1 + 1))) [] ((List.range (Int.toNat (k1 : Int)))).length v12 = some r := h
      rw [rf4_Distinct_l2.eq_1] at h
      refine W.seq ?_
      refine W.region (by kernel_rfl) ?_
      refine WO.pureK 0 (some (.bool (decide ((((List.range (Int.toNat (k1 : Int)))).length : Int) < (k1 : Int))))) (v := .bool false) (by kernel_rfl) (by rw [ltr_false (n := (k1 : Int))]) (e1 := [(0, .str a1), (3, I6 v6), (4, I6 (k1 : Int)), (5, I6 v12), (8, I6 (a1.size : Int)), (9, I6 (k1 : Int)), (12, I6 (k1 : Int)), (13, I6 (((List.range (Int.toNat (k1 : Int)))).length : Int)), (14, .bool false)]) (by kernel_rfl) ?_
      refine WO.fin ([0, 3, 4, 5, 8, 9, 12, 13, 14]) [] [] [] (e2 := [(0, .str a1), (3, I6 v6), (4, I6 (k1 : Int)), (5, I6 v12), (8, I6 (a1.size : Int)), (9, I6 (k1 : Int)), (12, I6 (k1 : Int)), (13, I6 (((List.range (Int.toNat (k1 : Int)))).length : Int)), (14, .bool false)]) (by kernel_rfl) (fun _ h => h) ?_
      refine W.seq ?_
      refine W.condB false (by kernel_rfl) (fun h => Bool.noConfusion h) (fun _ => ?_)
      refine W.exit ?_
      refine W.weak [0, 3, 4, 5, 8, 9] [] [] [] (env' := [(0, .str a1), (3, I6 v6), (4, I6 (k1 : Int)), (5, I6 v12), (8, I6 (a1.size : Int)), (9, I6 (k1 : Int))]) (by kernel_rfl) ?_
      exact hK10 v12 h
    · obtain ⟨v12, rfl⟩ : ∃ x, x = s := ⟨s, rfl⟩
      have h : rf4_Distinct_l2 fuel a1 k1 (rf4_Distinct_j10 a1 k1 v6 (rf4_Distinct_l1 fuel a1 (rf4_Distinct_j4) r1 (k1 + 1))) (x2 :: r2) k2 v12 = some r := h
      rw [rf4_Distinct_l2.eq_2] at h
      refine W.seq ?_
      refine W.region (by kernel_rfl) ?_
      refine WO.pureK 0 (some (.bool (decide ((k2 : Int) < (k1 : Int))))) (v := .bool true) (by kernel_rfl) (by rw [ltr_true hk2]) (e1 := [(0, .str a1), (3, I6 v6), (4, I6 (k1 : Int)), (5, I6 v12), (8, I6 (a1.size : Int)), (9, I6 (k1 : Int)), (12, I6 (k1 : Int)), (13, I6 (k2 : Int)), (14, .bool true)]) (by kernel_rfl) ?_
      refine WO.fin ([0, 3, 4, 5, 8, 9, 12, 13, 14]) [] [] [] (e2 := [(0, .str a1), (3, I6 v6), (4, I6 (k1 : Int)), (5, I6 v12), (8, I6 (a1.size : Int)), (9, I6 (k1 : Int)), (12, I6 (k1 : Int)), (13, I6 (k2 : Int)), (14, .bool true)]) (by kernel_rfl) (fun _ h => h) ?_
      refine W.seq ?_
      refine W.condB true (by kernel_rfl) (fun _ => ?_) (fun h => Bool.noConfusion h)
      refine W.skip ?_
      refine W.weak [0, 3, 4, 5, 8, 9, 12, 13] [] [] [] (env' := [(0, .str a1), (3, I6 v6), (4, I6 (k1 : Int)), (5, I6 v12), (8, I6 (a1.size : Int)), (9, I6 (k1 : Int)), (12, I6 (k1 : Int)), (13, I6 (k2 : Int))]) (by kernel_rfl) ?_
      refine W.seq ?_
      refine W.block ?_
      refine W.seq ?_
      refine W.regT [0, 3, 4, 5, 6, 8, 9, 12, 13] [] [] [] (e2 := [(0, .str a1), (3, I6 v6), (4, I6 (k1 : Int)), (5, I6 v12), (6, I6 (k2 : Int)), (8, I6 (a1.size : Int)), (9, I6 (k1 : Int)), (12, I6 (k1 : Int)), (13, I6 (k2 : Int))]) (by kernel_rfl) (by kernel_rfl) (fun _ h => h) ?_
      refine W.region (by kernel_rfl) ?_
      obtain ⟨e15, he15, h⟩ := bind_some h
      refine WO.pureK 3 (if (0 : Int) ≤ (k1 : Int) ∧ (k1 : Int) ≤ (a1.size : Int) ∧ (a1.size : Int) ≤ (a1.size : Int) then some (AV.str (a1.extract (Int.toNat (k1 : Int)) (Int.toNat (a1.size : Int)))) else none) (v := .str e15) (by kernel_rfl) (ssub_av he15) (e1 := [(0, .str a1), (3, I6 v6), (4, I6 (k1 : Int)), (5, I6 v12), (6, I6 (k2 : Int)), (8, I6 (a1.size : Int)), (9, I6 (k1 : Int)), (12, I6 (k1 : Int)), (13, I6 (k2 : Int)), (16, I6 v12), (17, .str a1), (18, I6 (k1 : Int)), (19, .str e15)]) (by kernel_rfl) ?_
      obtain ⟨e16, he16, h⟩ := bind_some h
      refine WO.pureK 2 (if (0 : Int) ≤ (k2 : Int) ∧ (k2 : Int) ≤ (a1.size : Int) ∧ (a1.size : Int) ≤ (a1.size : Int) then some (AV.str (a1.extract (Int.toNat (k2 : Int)) (Int.toNat (a1.size : Int)))) else none) (v := .str e16) (by kernel_rfl) (ssub_av he16) (e1 := [(0, .str a1), (3, I6 v6), (4, I6 (k1 : Int)), (5, I6 v12), (6, I6 (k2 : Int)), (8, I6 (a1.size : Int)), (9, I6 (k1 : Int)), (12, I6 (k1 : Int)), (13, I6 (k2 : Int)), (16, I6 v12), (17, .str a1), (18, I6 (k1 : Int)), (19, .str e15), (20, .str a1), (21, I6 (k2 : Int)), (22, .str e16)]) (by kernel_rfl) ?_
      obtain ⟨w17, hw17, h⟩ := bind_some h
      refine WO.callK 0 (F := 43) (l := [.str e15, .str e16]) (C := []) (r := I6 w17) (by kernel_rfl) (by kernel_rfl) (run_rf4_agree fuel e15 e16 w17 hw17) (e1 := [(0, .str a1), (3, I6 v6), (4, I6 (k1 : Int)), (5, I6 v12), (6, I6 (k2 : Int)), (8, I6 (a1.size : Int)), (9, I6 (k1 : Int)), (12, I6 (k1 : Int)), (13, I6 (k2 : Int)), (16, I6 v12), (17, .str a1), (18, I6 (k1 : Int)), (19, .str e15), (20, .str a1), (21, I6 (k2 : Int)), (22, .str e16), (23, I6 w17)]) (by kernel_rfl) ?_
      refine WO.fin [0, 3, 4, 5, 8, 9, 12, 13] [] [] [] (e2 := [(0, .str a1), (3, I6 v6), (4, I6 (k1 : Int)), (5, I6 (if w17 > v12 then w17 else v12)), (8, I6 (a1.size : Int)), (9, I6 (k1 : Int)), (12, I6 (k1 : Int)), (13, I6 (k2 : Int))]) (by kernel_rfl) (fun _ h => h) ?_
      refine W.region (by kernel_rfl) ?_
      refine WO.pureK 0 (some (I6 (IntKind.wrap .i64 ((k2 : Int) + 1)))) (v := I6 ((k2 + 1 : Nat) : Int)) (by kernel_rfl) (by rw [wrap_succ hl2 hk2]) (e1 := [(0, .str a1), (3, I6 v6), (4, I6 (k1 : Int)), (5, I6 (if w17 > v12 then w17 else v12)), (8, I6 (a1.size : Int)), (9, I6 (k1 : Int)), (12, I6 (k1 : Int)), (13, I6 (k2 : Int)), (25, I6 ((k2 + 1 : Nat) : Int))]) (by kernel_rfl) ?_
      refine WO.fin [0, 3, 4, 5, 8, 9, 12, 13] [] [] [] (e2 := [(0, .str a1), (3, I6 v6), (4, I6 (k1 : Int)), (5, I6 (if w17 > v12 then w17 else v12)), (8, I6 (a1.size : Int)), (9, I6 (k1 : Int)), (12, I6 (k1 : Int)), (13, I6 ((k2 + 1 : Nat) : Int))]) (by kernel_rfl) (fun _ h => h) ?_
      exact hN2 (if w17 > v12 then w17 else v12) h
def rf4_Letters_j13 (v15 : Bool) : Option Bool :=
  (some v15)
def rf4_Letters_j3 (a1 : ByteArray) : Option Bool :=
  ((rf4_Label a1).bind fun w14 => (bif w14 then (bif (decide ((a1.size : Int) ≥ 1)) then ((rf4_Letters_j13) (decide ((a1.size : Int) ≤ 8))) else ((rf4_Letters_j13) false)) else ((rf4_Letters_j13) false)))
def rf4_Letters_l1 (a1 : ByteArray) (K3 : (Option Bool)) : Nat → Int → Option Bool
  | 0, _ => none
  | m1 + 1, v5 => (bif (decide (v5 < (a1.size : Int))) then ((sidx a1 (IntKind.wrap .i64 (v5 - 1))).bind fun e10 => ((sidx a1 v5).bind fun e11 => (bif (decide (e10 ≥ e11)) then (some false) else ((rf4_Letters_l1 a1 K3 m1) (IntKind.wrap .i64 (v5 + 1)))))) else K3)
def rf4_Letters (fuel : Nat) (a1 : ByteArray) : Option Bool :=
  (rf4_Letters_l1 a1 (rf4_Letters_j3 a1) fuel 1)
theorem run_rf4_Letters (fuel : Nat) (a1 : ByteArray) (r : Bool) (h : rf4_Letters fuel a1 = some r) : Run Try.prog (.call 29 [.str a1] (.bool r)) := by
  refine call_of_W Try.func29 rfl (by kernel_rfl) (env0 := [(0, .str a1)]) (by kernel_rfl) ?_
  unfold rf4_Letters at h
  refine W.seq ?_
  refine W.regT [0] [] [] [] (e2 := [(0, .str a1)]) (by kernel_rfl) (by kernel_rfl) (fun _ h => h) ?_
  refine W.seq ?_
  refine W.join (σ := Unit) (fun s => [(0, .str a1)]) (fun s => (rf4_Letters_j3 a1) = some r) (fun s h => ?_) (fun hK3 => ?_)
  · have h : (rf4_Letters_j3 a1) = some r := h
    unfold rf4_Letters_j3 at h
    refine W.seq ?_
    refine W.join (σ := (Bool)) (fun s => [(2, .bool s)]) (fun s => (rf4_Letters_j13) s = some r) (fun s h => ?_) (fun hK13 => ?_)
    · obtain ⟨v15, rfl⟩ : ∃ x, x = s := ⟨s, rfl⟩
      have h : (rf4_Letters_j13) v15 = some r := h
      unfold rf4_Letters_j13 at h
      refine W.weak [2] [] [] [] (env' := [(2, .bool v15)]) (by kernel_rfl) ?_
      have hr : aresults Try.prog Try.f29 [(2, .bool v15)] = some (.bool v15) := by kernel_rfl
      cases h
      exact W.ret hr
    refine W.region (by kernel_rfl) ?_
    obtain ⟨w14, hw14, h⟩ := bind_some h
    refine WO.callK 1 (F := 17) (l := [.str a1]) (C := []) (r := .bool w14) (by kernel_rfl) (by kernel_rfl) (run_rf4_Label a1 w14 hw14) (e1 := [(0, .str a1), (18, .str a1), (19, .bool w14)]) (by kernel_rfl) ?_
    refine WO.boolK 1 (fun b => [(0, .str a1), (18, .str a1), (19, .bool b), (20, .bool b)]) w14 (by kernel_rfl) (fun hb => ?_) (fun hb => ?_)
    · replace h := cond_t hb h
      refine WO.boolK 5 (fun b => [(0, .str a1), (18, .str a1), (19, .bool true), (20, .bool true), (21, .str a1), (22, I6 (a1.size : Int)), (23, .bool b), (24, .bool b), (25, .bool b)]) (decide ((a1.size : Int) ≥ 1)) (by kernel_rfl) (fun hb => ?_) (fun hb => ?_)
      · replace h := cond_t hb h
        refine WO.fin [2] [] [] [] (e2 := [(2, .bool (decide ((a1.size : Int) ≤ 8)))]) (by kernel_rfl) (fun _ h => h) ?_
        exact hK13 (decide ((a1.size : Int) ≤ 8)) h
      replace h := cond_f hb h
      refine WO.fin [2] [] [] [] (e2 := [(2, .bool false)]) (by kernel_rfl) (fun _ h => h) ?_
      exact hK13 false h
    replace h := cond_f hb h
    refine WO.fin [2] [] [] [] (e2 := [(2, .bool false)]) (by kernel_rfl) (fun _ h => h) ?_
    exact hK13 false h
  refine W.seq ?_
  refine W.regT [0, 3] [] [] [] (e2 := [(0, .str a1), (3, .int .i64 1)]) (by kernel_rfl) (by kernel_rfl) (fun _ h => h) ?_
  refine W.block ?_
  refine W.weak [0, 3] [] [] [] (env' := [(0, .str a1), (3, .int .i64 1)]) (by kernel_rfl) ?_
  refine W.fuel (σ := (Int)) (fun s => [(0, .str a1), (3, I6 s)]) (fun m0 s => rf4_Letters_l1 a1 (rf4_Letters_j3 a1) m0 s = some r) (fun s h => ?_) (fun m1 s h hN1 => ?_) fuel 1 h
  · obtain ⟨v5, rfl⟩ : ∃ x, x = s := ⟨s, rfl⟩
    have h : rf4_Letters_l1 a1 (rf4_Letters_j3 a1) 0 v5 = some r := h
    rw [rf4_Letters_l1.eq_1] at h
    cases h
  · obtain ⟨v5, rfl⟩ : ∃ x, x = s := ⟨s, rfl⟩
    have h : rf4_Letters_l1 a1 (rf4_Letters_j3 a1) (m1 + 1) v5 = some r := h
    rw [rf4_Letters_l1.eq_2] at h
    refine W.seq ?_
    refine W.seq ?_
    refine W.regT [0, 3, 7] [] [] [] (e2 := [(0, .str a1), (3, I6 v5), (7, .bool (decide (v5 < (a1.size : Int))))]) (by kernel_rfl) (by kernel_rfl) (fun _ h => h) ?_
    refine W.condB (decide (v5 < (a1.size : Int))) (by kernel_rfl) (fun hb => ?_) (fun hb => ?_)
    · replace h := cond_t hb h
      refine W.skip ?_
      refine W.weak [0, 3] [] [] [] (env' := [(0, .str a1), (3, I6 v5)]) (by kernel_rfl) ?_
      refine W.seq ?_
      refine W.block ?_
      refine W.seq ?_
      refine W.region (by kernel_rfl) ?_
      obtain ⟨e10, he10, h⟩ := bind_some h
      refine WO.pureK 3 (if (0 : Int) ≤ (W6 (v5 - 1)) then (a1[Int.toNat (W6 (v5 - 1))]?).map fun b => AV.int .u8 b.toNat else none) (v := .int .u8 e10) (by kernel_rfl) (sidx_av he10) (e1 := [(0, .str a1), (3, I6 v5), (10, .str a1), (11, I6 v5), (12, I6 (W6 (v5 - 1))), (13, .int .u8 e10)]) (by kernel_rfl) ?_
      obtain ⟨e11, he11, h⟩ := bind_some h
      refine WO.pureK 2 (if (0 : Int) ≤ v5 then (a1[Int.toNat v5]?).map fun b => AV.int .u8 b.toNat else none) (v := .int .u8 e11) (by kernel_rfl) (sidx_av he11) (e1 := [(0, .str a1), (3, I6 v5), (10, .str a1), (11, I6 v5), (12, I6 (W6 (v5 - 1))), (13, .int .u8 e10), (14, .str a1), (15, I6 v5), (16, .int .u8 e11)]) (by kernel_rfl) ?_
      refine WO.fin [0, 3, 17] [] [] [] (e2 := [(0, .str a1), (3, I6 v5), (17, .bool (decide (e10 ≥ e11)))]) (by kernel_rfl) (fun _ h => h) ?_
      refine W.condB (decide (e10 ≥ e11)) (by kernel_rfl) (fun hb => ?_) (fun hb => ?_)
      · replace h := cond_t hb h
        refine W.seq ?_
        refine W.regT [2] [] [] [] (e2 := [(2, .bool false)]) (by kernel_rfl) (by kernel_rfl) (fun _ h => h) ?_
        refine W.weak [2] [] [] [] (env' := [(2, .bool false)]) (by kernel_rfl) ?_
        have hr : aresults Try.prog Try.f29 [(2, .bool false)] = some (.bool false) := by kernel_rfl
        cases h
        exact W.ret hr
      replace h := cond_f hb h
      refine W.skip ?_
      refine W.weak [0, 3] [] [] [] (env' := [(0, .str a1), (3, I6 v5)]) (by kernel_rfl) ?_
      refine W.regT [0, 3] [] [] [] (e2 := [(0, .str a1), (3, I6 (W6 (v5 + 1)))]) (by kernel_rfl) (by kernel_rfl) (fun _ h => h) ?_
      exact hN1 (W6 (v5 + 1)) h
    replace h := cond_f hb h
    refine W.exit ?_
    refine W.weak [0] [] [] [] (env' := [(0, .str a1)]) (by kernel_rfl) ?_
    exact hK3 () h
def rf4_Locate_j5 (v15 : (List Int)) : Option (List Int) :=
  (some v15)
def rf4_Locate_j10 (k1 : Nat) (v7 : (List Int)) (K8 : ((List Int) → Option (List Int))) (v12 : Bool) : Option (List Int) :=
  (bif v12 then (chk (capOk 8 ((v7 ++ [(k1 : Int)])).length) (K8 (v7 ++ [(k1 : Int)]))) else (K8 v7))
def rf4_Locate_j8 (N1 : ((List Int) → Option (List Int))) (v14 : (List Int)) : Option (List Int) :=
  (N1 v14)
def rf4_Locate_l1 (a1 : ByteArray) (a2 : ByteArray) (K5 : ((List Int) → Option (List Int))) : List Nat → Nat → (List Int) → Option (List Int)
  | [], k1, v7 => (K5 v7)
  | x1 :: r1, k1, v7 => (bif (decide ((a2.size : Int) ≤ (IntKind.wrap .i64 ((a1.size : Int) - (k1 : Int))))) then ((ssub a1 (k1 : Int) (IntKind.wrap .i64 ((k1 : Int) + (a2.size : Int)))).bind fun e11 => ((rf4_Locate_j10 k1 v7 (rf4_Locate_j8 (rf4_Locate_l1 a1 a2 K5 r1 (k1 + 1)))) (e11.toList == a2.toList))) else ((rf4_Locate_j10 k1 v7 (rf4_Locate_j8 (rf4_Locate_l1 a1 a2 K5 r1 (k1 + 1)))) false))
def rf4_Locate (a1 : ByteArray) (a2 : ByteArray) : Option (List Int) :=
  (chk (lenOk (List.range (Int.toNat (IntKind.wrap .i64 ((a1.size : Int) + 1))))) (rf4_Locate_l1 a1 a2 (rf4_Locate_j5) (List.range (Int.toNat (IntKind.wrap .i64 ((a1.size : Int) + 1)))) 0 ([] : (List Int))))
theorem run_rf4_Locate (a1 : ByteArray) (a2 : ByteArray) (r : (List Int)) (h : rf4_Locate a1 a2 = some r) : Run Try.prog (.call 37 [.str a1, .str a2] (l3 (some 1) r)) := by
  refine call_of_W Try.func37 rfl (by kernel_rfl) (env0 := [(0, .str a1), (1, .str a2)]) (by kernel_rfl) ?_
  unfold rf4_Locate at h
  refine W.seq ?_
  refine W.regT [0, 1] [] [] [] (e2 := [(0, .str a1), (1, .str a2)]) (by kernel_rfl) (by kernel_rfl) (fun _ h => h) ?_
  refine W.seq ?_
  refine W.regT [0, 1, 5] [] [] [] (e2 := [(0, .str a1), (1, .str a2), (5, .nils)]) (by kernel_rfl) (by kernel_rfl) (fun _ h => h) ?_
  refine W.seq ?_
  refine W.join (σ := ((List Int))) (fun s => [(5, l3 (some 10500) s)]) (fun s => (rf4_Locate_j5) s = some r) (fun s h => ?_) (fun hK5 => ?_)
  · obtain ⟨v15, rfl⟩ : ∃ x, x = s := ⟨s, rfl⟩
    have h : (rf4_Locate_j5) v15 = some r := h
    unfold rf4_Locate_j5 at h
    refine W.seq ?_
    refine W.regT [4] [] [] [] (e2 := [(4, l3 (some 10500) v15)]) (by kernel_rfl) (by kernel_rfl) (fun _ h => h) ?_
    refine W.weak [4] [] [] [(10500, some 1)] (env' := [(4, l3 (some 1) v15)]) (by kernel_rfl) ?_
    have hr : aresults Try.prog Try.f37 [(4, l3 (some 1) v15)] = some (l3 (some 1) v15) := by kernel_rfl
    cases h
    exact W.ret hr
  refine W.seq ?_
  refine W.regT [0, 1, 5, 9, 10] [] [] [] (e2 := [(0, .str a1), (1, .str a2), (5, .nils), (9, I6 (W6 ((a1.size : Int) + 1))), (10, .int .i64 0)]) (by kernel_rfl) (by kernel_rfl) (fun _ h => h) ?_
  refine W.block ?_
  obtain ⟨hl1, h⟩ := chk_some h
  refine W.weak [0, 1, 5, 9, 10] [] [(5, 0, 3, 1, 10500)] [] (env' := [(0, .str a1), (1, .str a2), (5, l3 (some 10500) ([] : (List Int))), (9, I6 (W6 ((a1.size : Int) + 1))), (10, I6 ((0 : Nat) : Int))]) (by kernel_rfl) ?_
  refine W.range (σ := ((List Int))) (List.range (Int.toNat (W6 ((a1.size : Int) + 1)))) (fun k1 s => [(0, .str a1), (1, .str a2), (5, l3 (some 10500) s), (9, I6 (W6 ((a1.size : Int) + 1))), (10, I6 (k1 : Int))]) (fun r0 k0 s => rf4_Locate_l1 a1 a2 (rf4_Locate_j5) r0 k0 s = some r) (fun s h => ?_) (fun x1 r1 k1 s hx1 hk1 h hN1 => ?_) ([] : (List Int)) h
  · obtain ⟨v7, rfl⟩ : ∃ x, x = s := ⟨s, rfl⟩
    have h : rf4_Locate_l1 a1 a2 (rf4_Locate_j5) [] ((List.range (Int.toNat (W6 ((a1.size : Int) + 1))))).length v7 = some r := h
    rw [rf4_Locate_l1.eq_1] at h
    refine W.seq ?_
    refine W.region (by kernel_rfl) ?_
    refine WO.pureK 0 (some (.bool (decide ((((List.range (Int.toNat (W6 ((a1.size : Int) + 1))))).length : Int) < (W6 ((a1.size : Int) + 1)))))) (v := .bool false) (by kernel_rfl) (by rw [ltr_false (n := (W6 ((a1.size : Int) + 1)))]) (e1 := [(0, .str a1), (1, .str a2), (5, l3 (some 10500) v7), (9, I6 (W6 ((a1.size : Int) + 1))), (10, I6 (((List.range (Int.toNat (W6 ((a1.size : Int) + 1))))).length : Int)), (11, .bool false)]) (by kernel_rfl) ?_
    refine WO.fin ([0, 1, 5, 9, 10, 11]) [] [] [] (e2 := [(0, .str a1), (1, .str a2), (5, l3 (some 10500) v7), (9, I6 (W6 ((a1.size : Int) + 1))), (10, I6 (((List.range (Int.toNat (W6 ((a1.size : Int) + 1))))).length : Int)), (11, .bool false)]) (by kernel_rfl) (fun _ h => h) ?_
    refine W.seq ?_
    refine W.condB false (by kernel_rfl) (fun h => Bool.noConfusion h) (fun _ => ?_)
    refine W.exit ?_
    refine W.weak [5] [] [] [] (env' := [(5, l3 (some 10500) v7)]) (by kernel_rfl) ?_
    exact hK5 v7 h
  · obtain ⟨v7, rfl⟩ : ∃ x, x = s := ⟨s, rfl⟩
    have h : rf4_Locate_l1 a1 a2 (rf4_Locate_j5) (x1 :: r1) k1 v7 = some r := h
    rw [rf4_Locate_l1.eq_2] at h
    refine W.seq ?_
    refine W.region (by kernel_rfl) ?_
    refine WO.pureK 0 (some (.bool (decide ((k1 : Int) < (W6 ((a1.size : Int) + 1)))))) (v := .bool true) (by kernel_rfl) (by rw [ltr_true hk1]) (e1 := [(0, .str a1), (1, .str a2), (5, l3 (some 10500) v7), (9, I6 (W6 ((a1.size : Int) + 1))), (10, I6 (k1 : Int)), (11, .bool true)]) (by kernel_rfl) ?_
    refine WO.fin ([0, 1, 5, 9, 10, 11]) [] [] [] (e2 := [(0, .str a1), (1, .str a2), (5, l3 (some 10500) v7), (9, I6 (W6 ((a1.size : Int) + 1))), (10, I6 (k1 : Int)), (11, .bool true)]) (by kernel_rfl) (fun _ h => h) ?_
    refine W.seq ?_
    refine W.condB true (by kernel_rfl) (fun _ => ?_) (fun h => Bool.noConfusion h)
    refine W.skip ?_
    refine W.weak [0, 1, 5, 9, 10] [] [] [] (env' := [(0, .str a1), (1, .str a2), (5, l3 (some 10500) v7), (9, I6 (W6 ((a1.size : Int) + 1))), (10, I6 (k1 : Int))]) (by kernel_rfl) ?_
    refine W.seq ?_
    refine W.join (σ := ((List Int))) (fun s => [(0, .str a1), (1, .str a2), (5, l3 (some 10500) s), (9, I6 (W6 ((a1.size : Int) + 1))), (10, I6 (k1 : Int))]) (fun s => (rf4_Locate_j8 (rf4_Locate_l1 a1 a2 (rf4_Locate_j5) r1 (k1 + 1))) s = some r) (fun s h => ?_) (fun hK8 => ?_)
    · obtain ⟨v14, rfl⟩ : ∃ x, x = s := ⟨s, rfl⟩
      have h : (rf4_Locate_j8 (rf4_Locate_l1 a1 a2 (rf4_Locate_j5) r1 (k1 + 1))) v14 = some r := h
      unfold rf4_Locate_j8 at h
      refine W.region (by kernel_rfl) ?_
      refine WO.pureK 0 (some (I6 (IntKind.wrap .i64 ((k1 : Int) + 1)))) (v := I6 ((k1 + 1 : Nat) : Int)) (by kernel_rfl) (by rw [wrap_succ hl1 hk1]) (e1 := [(0, .str a1), (1, .str a2), (5, l3 (some 10500) v14), (9, I6 (IntKind.wrap .i64 ((a1.size : Int) + 1))), (10, I6 (k1 : Int)), (35, I6 ((k1 + 1 : Nat) : Int))]) (by kernel_rfl) ?_
      refine WO.fin [0, 1, 5, 9, 10] [] [] [] (e2 := [(0, .str a1), (1, .str a2), (5, l3 (some 10500) v14), (9, I6 (W6 ((a1.size : Int) + 1))), (10, I6 ((k1 + 1 : Nat) : Int))]) (by kernel_rfl) (fun _ h => h) ?_
      exact hN1 v14 h
    refine W.block ?_
    refine W.seq ?_
    refine W.regT [0, 1, 5, 6, 9, 10] [] [] [] (e2 := [(0, .str a1), (1, .str a2), (5, l3 (some 10500) v7), (6, I6 (k1 : Int)), (9, I6 (W6 ((a1.size : Int) + 1))), (10, I6 (k1 : Int))]) (by kernel_rfl) (by kernel_rfl) (fun _ h => h) ?_
    refine W.seq ?_
    refine W.join (σ := (Bool)) (fun s => [(0, .str a1), (1, .str a2), (5, l3 (some 10500) v7), (6, I6 (k1 : Int)), (9, I6 (W6 ((a1.size : Int) + 1))), (10, I6 (k1 : Int)), (30, .bool s)]) (fun s => (rf4_Locate_j10 k1 v7 (rf4_Locate_j8 (rf4_Locate_l1 a1 a2 (rf4_Locate_j5) r1 (k1 + 1)))) s = some r) (fun s h => ?_) (fun hK10 => ?_)
    · obtain ⟨v12, rfl⟩ : ∃ x, x = s := ⟨s, rfl⟩
      have h : (rf4_Locate_j10 k1 v7 (rf4_Locate_j8 (rf4_Locate_l1 a1 a2 (rf4_Locate_j5) r1 (k1 + 1)))) v12 = some r := h
      unfold rf4_Locate_j10 at h
      refine W.condB v12 (by kernel_rfl) (fun hb => ?_) (fun hb => ?_)
      · replace h := cond_t hb h
        refine W.region (by kernel_rfl) ?_
        obtain ⟨hc13, h⟩ := chk_some h
        refine WO.appendK 3 (d := 34) (e := 3) (s := 1) (bytes := 8) (xs := (List.map (AV.int .i64) v7)) (ys := (List.map (AV.int .i64) [(k1 : Int)])) (zs := (List.map (AV.int .i64) (v7 ++ [(k1 : Int)]))) (env1 := [(0, .str a1), (1, .str a2), (5, l3 none v7), (6, I6 (k1 : Int)), (9, I6 (W6 ((a1.size : Int) + 1))), (10, I6 (k1 : Int)), (30, .bool v12), (31, l3 none v7), (32, I6 (k1 : Int)), (33, l3 (some 33) [(k1 : Int)])]) (by kernel_rfl) (List.map_append.symm) (by rw [List.length_map]; exact hc13) (e1 := [(0, .str a1), (1, .str a2), (5, l3 none v7), (6, I6 (k1 : Int)), (9, I6 (W6 ((a1.size : Int) + 1))), (10, I6 (k1 : Int)), (30, .bool v12), (31, l3 none v7), (32, I6 (k1 : Int)), (33, l3 (some 33) [(k1 : Int)]), (34, l3 (some 34) (v7 ++ [(k1 : Int)]))]) (by kernel_rfl) ?_
        refine WO.fin [0, 1, 5, 9, 10] [] [] [(34, some 10500)] (e2 := [(0, .str a1), (1, .str a2), (5, l3 (some 10500) (v7 ++ [(k1 : Int)])), (9, I6 (W6 ((a1.size : Int) + 1))), (10, I6 (k1 : Int))]) (by kernel_rfl) (fun _ h => h) ?_
        exact hK8 (v7 ++ [(k1 : Int)]) h
      replace h := cond_f hb h
      refine W.skip ?_
      refine W.weak [0, 1, 5, 9, 10] [] [] [] (env' := [(0, .str a1), (1, .str a2), (5, l3 (some 10500) v7), (9, I6 (W6 ((a1.size : Int) + 1))), (10, I6 (k1 : Int))]) (by kernel_rfl) ?_
      exact hK8 v7 h
    refine W.region (by kernel_rfl) ?_
    refine WO.boolK 8 (fun b => [(0, .str a1), (1, .str a2), (5, l3 (some 10500) v7), (6, I6 (k1 : Int)), (9, I6 (W6 ((a1.size : Int) + 1))), (10, I6 (k1 : Int)), (13, .str a2), (14, I6 (a2.size : Int)), (15, .str a1), (16, I6 (a1.size : Int)), (17, I6 (k1 : Int)), (18, I6 (W6 ((a1.size : Int) - (k1 : Int)))), (19, .bool b), (20, .bool b)]) (decide ((a2.size : Int) ≤ (W6 ((a1.size : Int) - (k1 : Int))))) (by kernel_rfl) (fun hb => ?_) (fun hb => ?_)
    · replace h := cond_t hb h
      obtain ⟨e11, he11, h⟩ := bind_some h
      refine WO.pureK 6 (if (0 : Int) ≤ (k1 : Int) ∧ (k1 : Int) ≤ (W6 ((k1 : Int) + (a2.size : Int))) ∧ (W6 ((k1 : Int) + (a2.size : Int))) ≤ (a1.size : Int) then some (AV.str (a1.extract (Int.toNat (k1 : Int)) (Int.toNat (W6 ((k1 : Int) + (a2.size : Int)))))) else none) (v := .str e11) (by kernel_rfl) (ssub_av he11) (e1 := [(0, .str a1), (1, .str a2), (5, l3 (some 10500) v7), (6, I6 (k1 : Int)), (9, I6 (W6 ((a1.size : Int) + 1))), (10, I6 (k1 : Int)), (13, .str a2), (14, I6 (a2.size : Int)), (15, .str a1), (16, I6 (a1.size : Int)), (17, I6 (k1 : Int)), (18, I6 (W6 ((a1.size : Int) - (k1 : Int)))), (19, .bool true), (20, .bool true), (21, .str a1), (22, I6 (k1 : Int)), (23, I6 (k1 : Int)), (24, .str a2), (25, I6 (a2.size : Int)), (26, I6 (W6 ((k1 : Int) + (a2.size : Int)))), (27, .str e11)]) (by kernel_rfl) ?_
      refine WO.fin [0, 1, 5, 6, 9, 10, 30] [] [] [] (e2 := [(0, .str a1), (1, .str a2), (5, l3 (some 10500) v7), (6, I6 (k1 : Int)), (9, I6 (W6 ((a1.size : Int) + 1))), (10, I6 (k1 : Int)), (30, .bool (e11.toList == a2.toList))]) (by kernel_rfl) (fun _ h => h) ?_
      exact hK10 (e11.toList == a2.toList) h
    replace h := cond_f hb h
    refine WO.fin [0, 1, 5, 6, 9, 10, 30] [] [] [] (e2 := [(0, .str a1), (1, .str a2), (5, l3 (some 10500) v7), (6, I6 (k1 : Int)), (9, I6 (W6 ((a1.size : Int) + 1))), (10, I6 (k1 : Int)), (30, .bool false)]) (by kernel_rfl) (fun _ h => h) ?_
    exact hK10 false h

end Go.AM
