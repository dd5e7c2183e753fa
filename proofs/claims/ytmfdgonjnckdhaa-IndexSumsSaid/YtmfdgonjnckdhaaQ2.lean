/- PRINTED by gen.py: pure functions and the proofs that the code computes them. No statement of the seat is proved here. -/
import Derived.Test.YtmfdgonjnckdhaaQ1
set_option maxRecDepth 100000
set_option linter.unusedVariables false
set_option linter.unusedSimpArgs false
namespace Go.AM
open Go.Proofs
def rf4_Absent_j7 (N1 : ((List ByteArray) → Option ByteArray)) (v25 : (List ByteArray)) : Option ByteArray :=
  (N1 v25)
def rf4_Absent_j10 (N2 : ((List ByteArray) → Option ByteArray)) (v24 : (List ByteArray)) : Option ByteArray :=
  (N2 v24)
def rf4_Absent_l3 (a1 : ByteArray) (a2 : ByteArray) (x2 : ByteArray) (K10 : ((List ByteArray) → Option ByteArray)) : List Nat → Nat → (List ByteArray) → Option ByteArray
  | [], k3, v13 => (K10 v13)
  | x3 :: r3, k3, v13 => ((ssub a2 (k3 : Int) ((k3 + 1 : Nat) : Int)).bind fun e17 => (chk (catOk x2 e17) ((rf4_Locate a1 (x2 ++ e17)).bind fun w21 => (bif ((w21.length : Int) == 0) then (some (x2 ++ e17)) else (chk (capOk 16 ((v13 ++ [(x2 ++ e17)])).length) ((rf4_Absent_l3 a1 a2 x2 K10 r3 (k3 + 1)) (v13 ++ [(x2 ++ e17)])))))))
def rf4_Absent_l2 (a1 : ByteArray) (a2 : ByteArray) (K7 : ((List ByteArray) → Option ByteArray)) : List ByteArray → Nat → (List ByteArray) → Option ByteArray
  | [], k2, v9 => (K7 v9)
  | x2 :: r2, k2, v9 => (chk (lenOk (List.range (Int.toNat (a2.size : Int)))) (rf4_Absent_l3 a1 a2 x2 (rf4_Absent_j10 (rf4_Absent_l2 a1 a2 K7 r2 (k2 + 1))) (List.range (Int.toNat (a2.size : Int))) 0 v9))
def rf4_Absent_l1 (a1 : ByteArray) (a2 : ByteArray) : Nat → (List ByteArray) → Option ByteArray
  | 0, _ => none
  | m1 + 1, v5 => (chk (lenOk v5) (rf4_Absent_l2 a1 a2 (rf4_Absent_j7 (rf4_Absent_l1 a1 a2 m1)) v5 0 ([] : (List ByteArray))))
def rf4_Absent (fuel : Nat) (a1 : ByteArray) (a2 : ByteArray) : Option ByteArray :=
  (rf4_Absent_l1 a1 a2 fuel [(ByteArray.mk #[])])
theorem run_rf4_Absent (fuel : Nat) (a1 : ByteArray) (a2 : ByteArray) (r : ByteArray) (h : rf4_Absent fuel a1 a2 = some r) : Run Try.prog (.call 30 [.str a1, .str a2] (.str r)) := by
  refine call_of_W Try.func30 rfl (by kernel_rfl) (env0 := [(0, .str a1), (1, .str a2)]) (by kernel_rfl) ?_
  unfold rf4_Absent at h
  refine W.seq ?_
  refine W.regT [0, 1] [] [] [] (e2 := [(0, .str a1), (1, .str a2)]) (by kernel_rfl) (by kernel_rfl) (fun _ h => h) ?_
  refine W.seq ?_
  refine W.regT [0, 1, 5] [] [] [] (e2 := [(0, .str a1), (1, .str a2), (5, l9 (some 11) [(ByteArray.mk #[])])]) (by kernel_rfl) (by kernel_rfl) (fun _ h => h) ?_
  refine W.block ?_
  refine W.weak [0, 1, 5] [] [] [(11, some 10500)] (env' := [(0, .str a1), (1, .str a2), (5, l9 (some 10500) [(ByteArray.mk #[])])]) (by kernel_rfl) ?_
  refine W.fuel (σ := ((List ByteArray))) (fun s => [(0, .str a1), (1, .str a2), (5, l9 (some 10500) s)]) (fun m0 s => rf4_Absent_l1 a1 a2 m0 s = some r) (fun s h => ?_) (fun m1 s h hN1 => ?_) fuel [(ByteArray.mk #[])] h
  · obtain ⟨v5, rfl⟩ : ∃ x, x = s := ⟨s, rfl⟩
    have h : rf4_Absent_l1 a1 a2 0 v5 = some r := h
    rw [rf4_Absent_l1.eq_1] at h
    cases h
  · obtain ⟨v5, rfl⟩ : ∃ x, x = s := ⟨s, rfl⟩
    have h : rf4_Absent_l1 a1 a2 (m1 + 1) v5 = some r := h
    rw [rf4_Absent_l1.eq_2] at h
    refine W.block ?_
    refine W.seq ?_
    refine W.regT [0, 1, 5, 6] [] [] [] (e2 := [(0, .str a1), (1, .str a2), (5, l9 (some 10500) v5), (6, .nils)]) (by kernel_rfl) (by kernel_rfl) (fun _ h => h) ?_
    refine W.seq ?_
    refine W.join (σ := ((List ByteArray))) (fun s => [(0, .str a1), (1, .str a2), (6, l9 (some 10600) s)]) (fun s => (rf4_Absent_j7 (rf4_Absent_l1 a1 a2 m1)) s = some r) (fun s h => ?_) (fun hK7 => ?_)
    · obtain ⟨v25, rfl⟩ : ∃ x, x = s := ⟨s, rfl⟩
      have h : (rf4_Absent_j7 (rf4_Absent_l1 a1 a2 m1)) v25 = some r := h
      unfold rf4_Absent_j7 at h
      refine W.regT [0, 1, 5] [] [] [(10600, some 10500)] (e2 := [(0, .str a1), (1, .str a2), (5, l9 (some 10500) v25)]) (by kernel_rfl) (by kernel_rfl) (fun _ h => h) ?_
      exact hN1 v25 h
    refine W.seq ?_
    refine W.region (by kernel_rfl) ?_
    refine WO.pureK 1 (some (I6 ((List.map AV.str v5).length : Int))) (v := I6 (v5.length : Int)) (by kernel_rfl) (by rw [List.length_map]) (e1 := [(0, .str a1), (1, .str a2), (5, l9 (some 10500) v5), (6, .nils), (12, l9 (some 10500) v5), (13, I6 (v5.length : Int))]) (by kernel_rfl) ?_
    refine WO.fin [0, 1, 6, 12, 13, 14] [] [] [] (e2 := [(0, .str a1), (1, .str a2), (6, .nils), (12, l9 (some 10500) v5), (13, I6 (v5.length : Int)), (14, .int .i64 0)]) (by kernel_rfl) (fun _ h => h) ?_
    refine W.block ?_
    obtain ⟨hl2, h⟩ := chk_some h
    refine W.weak [0, 1, 6, 12, 13, 14] [] [(6, 0, 9, 1, 10600)] [] (env' := [(0, .str a1), (1, .str a2), (6, l9 (some 10600) ([] : (List ByteArray))), (12, l9 (some 10500) v5), (13, I6 (v5.length : Int)), (14, I6 ((0 : Nat) : Int))]) (by kernel_rfl) ?_
    refine W.range (σ := ((List ByteArray))) v5 (fun k2 s => [(0, .str a1), (1, .str a2), (6, l9 (some 10600) s), (12, l9 (some 10500) v5), (13, I6 (v5.length : Int)), (14, I6 (k2 : Int))]) (fun r0 k0 s => rf4_Absent_l2 a1 a2 (rf4_Absent_j7 (rf4_Absent_l1 a1 a2 m1)) r0 k0 s = some r) (fun s h => ?_) (fun x2 r2 k2 s hx2 hk2 h hN2 => ?_) ([] : (List ByteArray)) h
    · obtain ⟨v9, rfl⟩ : ∃ x, x = s := ⟨s, rfl⟩
      have h : rf4_Absent_l2 a1 a2 (rf4_Absent_j7 (rf4_Absent_l1 a1 a2 m1)) [] (v5).length v9 = some r := h
      rw [rf4_Absent_l2.eq_1] at h
      refine W.seq ?_
      refine W.region (by kernel_rfl) ?_
      refine WO.pureK 0 (some (.bool (decide (((v5).length : Int) < (v5.length : Int))))) (v := .bool false) (by kernel_rfl) (by rw [lt_false (l := v5)]) (e1 := [(0, .str a1), (1, .str a2), (6, l9 (some 10600) v9), (12, l9 (some 10500) v5), (13, I6 (v5.length : Int)), (14, I6 ((v5).length : Int)), (15, .bool false)]) (by kernel_rfl) ?_
      refine WO.fin ([0, 1, 6, 12, 13, 14, 15]) [] [] [] (e2 := [(0, .str a1), (1, .str a2), (6, l9 (some 10600) v9), (12, l9 (some 10500) v5), (13, I6 (v5.length : Int)), (14, I6 ((v5).length : Int)), (15, .bool false)]) (by kernel_rfl) (fun _ h => h) ?_
      refine W.seq ?_
      refine W.condB false (by kernel_rfl) (fun h => Bool.noConfusion h) (fun _ => ?_)
      refine W.exit ?_
      refine W.weak [0, 1, 6] [] [] [] (env' := [(0, .str a1), (1, .str a2), (6, l9 (some 10600) v9)]) (by kernel_rfl) ?_
      exact hK7 v9 h
    · obtain ⟨v9, rfl⟩ : ∃ x, x = s := ⟨s, rfl⟩
      have h : rf4_Absent_l2 a1 a2 (rf4_Absent_j7 (rf4_Absent_l1 a1 a2 m1)) (x2 :: r2) k2 v9 = some r := h
      rw [rf4_Absent_l2.eq_2] at h
      refine W.seq ?_
      refine W.region (by kernel_rfl) ?_
      refine WO.pureK 0 (some (.bool (decide ((k2 : Int) < (v5.length : Int))))) (v := .bool true) (by kernel_rfl) (by rw [lt_true hk2]) (e1 := [(0, .str a1), (1, .str a2), (6, l9 (some 10600) v9), (12, l9 (some 10500) v5), (13, I6 (v5.length : Int)), (14, I6 (k2 : Int)), (15, .bool true)]) (by kernel_rfl) ?_
      refine WO.fin ([0, 1, 6, 12, 13, 14, 15]) [] [] [] (e2 := [(0, .str a1), (1, .str a2), (6, l9 (some 10600) v9), (12, l9 (some 10500) v5), (13, I6 (v5.length : Int)), (14, I6 (k2 : Int)), (15, .bool true)]) (by kernel_rfl) (fun _ h => h) ?_
      refine W.seq ?_
      refine W.condB true (by kernel_rfl) (fun _ => ?_) (fun h => Bool.noConfusion h)
      refine W.skip ?_
      refine W.weak [0, 1, 6, 12, 13, 14] [] [] [] (env' := [(0, .str a1), (1, .str a2), (6, l9 (some 10600) v9), (12, l9 (some 10500) v5), (13, I6 (v5.length : Int)), (14, I6 (k2 : Int))]) (by kernel_rfl) ?_
      refine W.seq ?_
      refine W.join (σ := ((List ByteArray))) (fun s => [(0, .str a1), (1, .str a2), (6, l9 (some 10600) s), (12, l9 (some 10500) v5), (13, I6 (v5.length : Int)), (14, I6 (k2 : Int))]) (fun s => (rf4_Absent_j10 (rf4_Absent_l2 a1 a2 (rf4_Absent_j7 (rf4_Absent_l1 a1 a2 m1)) r2 (k2 + 1))) s = some r) (fun s h => ?_) (fun hK10 => ?_)
      · obtain ⟨v24, rfl⟩ : ∃ x, x = s := ⟨s, rfl⟩
        have h : (rf4_Absent_j10 (rf4_Absent_l2 a1 a2 (rf4_Absent_j7 (rf4_Absent_l1 a1 a2 m1)) r2 (k2 + 1))) v24 = some r := h
        unfold rf4_Absent_j10 at h
        refine W.region (by kernel_rfl) ?_
        refine WO.pureK 0 (some (I6 (IntKind.wrap .i64 ((k2 : Int) + 1)))) (v := I6 ((k2 + 1 : Nat) : Int)) (by kernel_rfl) (by rw [wrap_succ hl2 hk2]) (e1 := [(0, .str a1), (1, .str a2), (6, l9 (some 10600) v24), (12, l9 (some 10500) v5), (13, I6 (v5.length : Int)), (14, I6 (k2 : Int)), (41, I6 ((k2 + 1 : Nat) : Int))]) (by kernel_rfl) ?_
        refine WO.fin [0, 1, 6, 12, 13, 14] [] [] [] (e2 := [(0, .str a1), (1, .str a2), (6, l9 (some 10600) v24), (12, l9 (some 10500) v5), (13, I6 (v5.length : Int)), (14, I6 ((k2 + 1 : Nat) : Int))]) (by kernel_rfl) (fun _ h => h) ?_
        exact hN2 v24 h
      refine W.block ?_
      refine W.seq ?_
      refine W.region (by kernel_rfl) ?_
      refine WO.pureK 0 (if (0 : Int) ≤ (k2 : Int) then ((List.map AV.str v5)[Int.toNat (k2 : Int)]?).map AV.ptr else none) (v := .ptr (.str x2)) (by kernel_rfl) (idx_nat (f := AV.str) hx2) (e1 := [(0, .str a1), (1, .str a2), (6, l9 (some 10600) v9), (12, l9 (some 10500) v5), (13, I6 (v5.length : Int)), (14, I6 (k2 : Int)), (16, .ptr (.str x2))]) (by kernel_rfl) ?_
      refine WO.fin [0, 1, 6, 8, 12, 13, 14] [] [] [] (e2 := [(0, .str a1), (1, .str a2), (6, l9 (some 10600) v9), (8, .str x2), (12, l9 (some 10500) v5), (13, I6 (v5.length : Int)), (14, I6 (k2 : Int))]) (by kernel_rfl) (fun _ h => h) ?_
      refine W.seq ?_
      refine W.regT [0, 1, 6, 8, 12, 13, 14, 19, 20] [] [] [] (e2 := [(0, .str a1), (1, .str a2), (6, l9 (some 10600) v9), (8, .str x2), (12, l9 (some 10500) v5), (13, I6 (v5.length : Int)), (14, I6 (k2 : Int)), (19, I6 (a2.size : Int)), (20, .int .i64 0)]) (by kernel_rfl) (by kernel_rfl) (fun _ h => h) ?_
      refine W.block ?_
      obtain ⟨hl3, h⟩ := chk_some h
      refine W.weak [0, 1, 6, 8, 12, 13, 14, 19, 20] [] [] [] (env' := [(0, .str a1), (1, .str a2), (6, l9 (some 10600) v9), (8, .str x2), (12, l9 (some 10500) v5), (13, I6 (v5.length : Int)), (14, I6 (k2 : Int)), (19, I6 (a2.size : Int)), (20, I6 ((0 : Nat) : Int))]) (by kernel_rfl) ?_
      refine W.range (σ := ((List ByteArray))) (List.range (Int.toNat (a2.size : Int))) (fun k3 s => [(0, .str a1), (1, .str a2), (6, l9 (some 10600) s), (8, .str x2), (12, l9 (some 10500) v5), (13, I6 (v5.length : Int)), (14, I6 (k2 : Int)), (19, I6 (a2.size : Int)), (20, I6 (k3 : Int))]) (fun r0 k0 s => rf4_Absent_l3 a1 a2 x2 (rf4_Absent_j10 (rf4_Absent_l2 a1 a2 (rf4_Absent_j7 (rf4_Absent_l1 a1 a2 m1)) r2 (k2 + 1))) r0 k0 s = some r) (fun s h => ?_) (fun x3 r3 k3 s hx3 hk3 h hN3 => ?_) v9 h
      · obtain ⟨v13, rfl⟩ : ∃ x, x = s := ⟨s, rfl⟩
        have h : rf4_Absent_l3 a1 a2 x2 (rf4_Absent_j10 (rf4_Absent_l2 a1 a2 (rf4_Absent_j7 (rf4_Absent_l1 a1 a2 m1)) r2 (k2 + 1))) [] ((List.range (Int.toNat (a2.size : Int)))).length v13 = some r := h
        rw [rf4_Absent_l3.eq_1] at h
        refine W.seq ?_
        refine W.region (by kernel_rfl) ?_
        refine WO.pureK 0 (some (.bool (decide ((((List.range (Int.toNat (a2.size : Int)))).length : Int) < (a2.size : Int))))) (v := .bool false) (by kernel_rfl) (by rw [ltr_false (n := (a2.size : Int))]) (e1 := [(0, .str a1), (1, .str a2), (6, l9 (some 10600) v13), (8, .str x2), (12, l9 (some 10500) v5), (13, I6 (v5.length : Int)), (14, I6 (k2 : Int)), (19, I6 (a2.size : Int)), (20, I6 (((List.range (Int.toNat (a2.size : Int)))).length : Int)), (21, .bool false)]) (by kernel_rfl) ?_
        refine WO.fin ([0, 1, 6, 8, 12, 13, 14, 19, 20, 21]) [] [] [] (e2 := [(0, .str a1), (1, .str a2), (6, l9 (some 10600) v13), (8, .str x2), (12, l9 (some 10500) v5), (13, I6 (v5.length : Int)), (14, I6 (k2 : Int)), (19, I6 (a2.size : Int)), (20, I6 (((List.range (Int.toNat (a2.size : Int)))).length : Int)), (21, .bool false)]) (by kernel_rfl) (fun _ h => h) ?_
        refine W.seq ?_
        refine W.condB false (by kernel_rfl) (fun h => Bool.noConfusion h) (fun _ => ?_)
        refine W.exit ?_
        refine W.weak [0, 1, 6, 12, 13, 14] [] [] [] (env' := [(0, .str a1), (1, .str a2), (6, l9 (some 10600) v13), (12, l9 (some 10500) v5), (13, I6 (v5.length : Int)), (14, I6 (k2 : Int))]) (by kernel_rfl) ?_
        exact hK10 v13 h
      · obtain ⟨v13, rfl⟩ : ∃ x, x = s := ⟨s, rfl⟩
        have h : rf4_Absent_l3 a1 a2 x2 (rf4_Absent_j10 (rf4_Absent_l2 a1 a2 (rf4_Absent_j7 (rf4_Absent_l1 a1 a2 m1)) r2 (k2 + 1))) (x3 :: r3) k3 v13 = some r := h
        rw [rf4_Absent_l3.eq_2] at h
        refine W.seq ?_
        refine W.region (by kernel_rfl) ?_
        refine WO.pureK 0 (some (.bool (decide ((k3 : Int) < (a2.size : Int))))) (v := .bool true) (by kernel_rfl) (by rw [ltr_true hk3]) (e1 := [(0, .str a1), (1, .str a2), (6, l9 (some 10600) v13), (8, .str x2), (12, l9 (some 10500) v5), (13, I6 (v5.length : Int)), (14, I6 (k2 : Int)), (19, I6 (a2.size : Int)), (20, I6 (k3 : Int)), (21, .bool true)]) (by kernel_rfl) ?_
        refine WO.fin ([0, 1, 6, 8, 12, 13, 14, 19, 20, 21]) [] [] [] (e2 := [(0, .str a1), (1, .str a2), (6, l9 (some 10600) v13), (8, .str x2), (12, l9 (some 10500) v5), (13, I6 (v5.length : Int)), (14, I6 (k2 : Int)), (19, I6 (a2.size : Int)), (20, I6 (k3 : Int)), (21, .bool true)]) (by kernel_rfl) (fun _ h => h) ?_
        refine W.seq ?_
        refine W.condB true (by kernel_rfl) (fun _ => ?_) (fun h => Bool.noConfusion h)
        refine W.skip ?_
        refine W.weak [0, 1, 6, 8, 12, 13, 14, 19, 20] [] [] [] (env' := [(0, .str a1), (1, .str a2), (6, l9 (some 10600) v13), (8, .str x2), (12, l9 (some 10500) v5), (13, I6 (v5.length : Int)), (14, I6 (k2 : Int)), (19, I6 (a2.size : Int)), (20, I6 (k3 : Int))]) (by kernel_rfl) ?_
        refine W.seq ?_
        refine W.block ?_
        refine W.seq ?_
        refine W.regT [0, 1, 6, 8, 9, 12, 13, 14, 19, 20] [] [] [] (e2 := [(0, .str a1), (1, .str a2), (6, l9 (some 10600) v13), (8, .str x2), (9, I6 (k3 : Int)), (12, l9 (some 10500) v5), (13, I6 (v5.length : Int)), (14, I6 (k2 : Int)), (19, I6 (a2.size : Int)), (20, I6 (k3 : Int))]) (by kernel_rfl) (by kernel_rfl) (fun _ h => h) ?_
        refine W.seq ?_
        refine W.region (by kernel_rfl) ?_
        refine WO.pureK 4 (some (I6 (IntKind.wrap .i64 ((k3 : Int) + 1)))) (v := I6 ((k3 + 1 : Nat) : Int)) (by kernel_rfl) (by rw [wrap_succ hl3 hk3]) (e1 := [(0, .str a1), (1, .str a2), (6, l9 (some 10600) v13), (8, .str x2), (9, I6 (k3 : Int)), (12, l9 (some 10500) v5), (13, I6 (v5.length : Int)), (14, I6 (k2 : Int)), (19, I6 (a2.size : Int)), (20, I6 (k3 : Int)), (23, .str x2), (24, .str a2), (25, I6 (k3 : Int)), (26, I6 (k3 : Int)), (27, I6 ((k3 + 1 : Nat) : Int))]) (by kernel_rfl) ?_
        obtain ⟨e17, he17, h⟩ := bind_some h
        refine WO.pureK 0 (if (0 : Int) ≤ (k3 : Int) ∧ (k3 : Int) ≤ ((k3 + 1 : Nat) : Int) ∧ ((k3 + 1 : Nat) : Int) ≤ (a2.size : Int) then some (AV.str (a2.extract (Int.toNat (k3 : Int)) (Int.toNat ((k3 + 1 : Nat) : Int)))) else none) (v := .str e17) (by kernel_rfl) (ssub_av he17) (e1 := [(0, .str a1), (1, .str a2), (6, l9 (some 10600) v13), (8, .str x2), (9, I6 (k3 : Int)), (12, l9 (some 10500) v5), (13, I6 (v5.length : Int)), (14, I6 (k2 : Int)), (19, I6 (a2.size : Int)), (20, I6 (k3 : Int)), (23, .str x2), (24, .str a2), (25, I6 (k3 : Int)), (26, I6 (k3 : Int)), (27, I6 ((k3 + 1 : Nat) : Int)), (28, .str e17)]) (by kernel_rfl) ?_
        obtain ⟨hc18, h⟩ := chk_some h
        refine WO.pureK 0 (if ((x2.size + e17.size : Nat) : Int) > IntKind.i64.max then none else some (.str (x2 ++ e17))) (v := .str (x2 ++ e17)) (by kernel_rfl) (if_neg (not_gt_of_chk hc18)) (e1 := [(0, .str a1), (1, .str a2), (6, l9 (some 10600) v13), (8, .str x2), (9, I6 (k3 : Int)), (12, l9 (some 10500) v5), (13, I6 (v5.length : Int)), (14, I6 (k2 : Int)), (19, I6 (a2.size : Int)), (20, I6 (k3 : Int)), (23, .str x2), (24, .str a2), (25, I6 (k3 : Int)), (26, I6 (k3 : Int)), (27, I6 ((k3 + 1 : Nat) : Int)), (28, .str e17), (29, .str (x2 ++ e17))]) (by kernel_rfl) ?_
        refine WO.fin [0, 1, 6, 8, 10, 12, 13, 14, 19, 20] [] [] [] (e2 := [(0, .str a1), (1, .str a2), (6, l9 (some 10600) v13), (8, .str x2), (10, .str (x2 ++ e17)), (12, l9 (some 10500) v5), (13, I6 (v5.length : Int)), (14, I6 (k2 : Int)), (19, I6 (a2.size : Int)), (20, I6 (k3 : Int))]) (by kernel_rfl) (fun _ h => h) ?_
        refine W.seq ?_
        refine W.seq ?_
        refine W.region (by kernel_rfl) ?_
        obtain ⟨w21, hw21, h⟩ := bind_some h
        refine WO.callK 2 (F := 37) (l := [.str a1, .str (x2 ++ e17)]) (C := []) (r := l3 (some 1) w21) (by kernel_rfl) (by kernel_rfl) (run_rf4_Locate a1 (x2 ++ e17) w21 hw21) (e1 := [(0, .str a1), (1, .str a2), (6, l9 (some 10600) v13), (8, .str x2), (10, .str (x2 ++ e17)), (12, l9 (some 10500) v5), (13, I6 (v5.length : Int)), (14, I6 (k2 : Int)), (19, I6 (a2.size : Int)), (20, I6 (k3 : Int)), (30, .str a1), (31, .str (x2 ++ e17)), (32, l3 (some 32) w21)]) (by kernel_rfl) ?_
        refine WO.pureK 0 (some (I6 ((List.map (AV.int .i64) w21).length : Int))) (v := I6 (w21.length : Int)) (by kernel_rfl) (by rw [List.length_map]) (e1 := [(0, .str a1), (1, .str a2), (6, l9 (some 10600) v13), (8, .str x2), (10, .str (x2 ++ e17)), (12, l9 (some 10500) v5), (13, I6 (v5.length : Int)), (14, I6 (k2 : Int)), (19, I6 (a2.size : Int)), (20, I6 (k3 : Int)), (30, .str a1), (31, .str (x2 ++ e17)), (32, l3 (some 32) w21), (33, I6 (w21.length : Int))]) (by kernel_rfl) ?_
        refine WO.fin [0, 1, 6, 8, 10, 12, 13, 14, 19, 20, 34] [] [] [] (e2 := [(0, .str a1), (1, .str a2), (6, l9 (some 10600) v13), (8, .str x2), (10, .str (x2 ++ e17)), (12, l9 (some 10500) v5), (13, I6 (v5.length : Int)), (14, I6 (k2 : Int)), (19, I6 (a2.size : Int)), (20, I6 (k3 : Int)), (34, .bool ((w21.length : Int) == 0))]) (by kernel_rfl) (fun _ h => h) ?_
        refine W.condB ((w21.length : Int) == 0) (by kernel_rfl) (fun hb => ?_) (fun hb => ?_)
        · replace h := cond_t hb h
          refine W.seq ?_
          refine W.regT [4] [] [] [] (e2 := [(4, .str (x2 ++ e17))]) (by kernel_rfl) (by kernel_rfl) (fun _ h => h) ?_
          refine W.weak [4] [] [] [] (env' := [(4, .str (x2 ++ e17))]) (by kernel_rfl) ?_
          have hr : aresults Try.prog Try.f30 [(4, .str (x2 ++ e17))] = some (.str (x2 ++ e17)) := by kernel_rfl
          cases h
          exact W.ret hr
        replace h := cond_f hb h
        refine W.skip ?_
        refine W.weak [0, 1, 6, 8, 10, 12, 13, 14, 19, 20] [] [] [] (env' := [(0, .str a1), (1, .str a2), (6, l9 (some 10600) v13), (8, .str x2), (10, .str (x2 ++ e17)), (12, l9 (some 10500) v5), (13, I6 (v5.length : Int)), (14, I6 (k2 : Int)), (19, I6 (a2.size : Int)), (20, I6 (k3 : Int))]) (by kernel_rfl) ?_
        refine W.region (by kernel_rfl) ?_
        obtain ⟨hc23, h⟩ := chk_some h
        refine WO.appendK 3 (d := 39) (e := 9) (s := 1) (bytes := 16) (xs := (List.map AV.str v13)) (ys := (List.map AV.str [(x2 ++ e17)])) (zs := (List.map AV.str (v13 ++ [(x2 ++ e17)]))) (env1 := [(0, .str a1), (1, .str a2), (6, l9 none v13), (8, .str x2), (10, .str (x2 ++ e17)), (12, l9 (some 10500) v5), (13, I6 (v5.length : Int)), (14, I6 (k2 : Int)), (19, I6 (a2.size : Int)), (20, I6 (k3 : Int)), (36, l9 none v13), (37, .str (x2 ++ e17)), (38, l9 (some 38) [(x2 ++ e17)])]) (by kernel_rfl) (List.map_append.symm) (by rw [List.length_map]; exact hc23) (e1 := [(0, .str a1), (1, .str a2), (6, l9 none v13), (8, .str x2), (10, .str (x2 ++ e17)), (12, l9 (some 10500) v5), (13, I6 (v5.length : Int)), (14, I6 (k2 : Int)), (19, I6 (a2.size : Int)), (20, I6 (k3 : Int)), (36, l9 none v13), (37, .str (x2 ++ e17)), (38, l9 (some 38) [(x2 ++ e17)]), (39, l9 (some 39) (v13 ++ [(x2 ++ e17)]))]) (by kernel_rfl) ?_
        refine WO.fin [0, 1, 6, 8, 12, 13, 14, 19, 20] [] [] [] (e2 := [(0, .str a1), (1, .str a2), (6, l9 (some 39) (v13 ++ [(x2 ++ e17)])), (8, .str x2), (12, l9 (some 10500) v5), (13, I6 (v5.length : Int)), (14, I6 (k2 : Int)), (19, I6 (a2.size : Int)), (20, I6 (k3 : Int))]) (by kernel_rfl) (fun _ h => h) ?_
        refine W.region (by kernel_rfl) ?_
        refine WO.pureK 0 (some (I6 (IntKind.wrap .i64 ((k3 : Int) + 1)))) (v := I6 ((k3 + 1 : Nat) : Int)) (by kernel_rfl) (by rw [wrap_succ hl3 hk3]) (e1 := [(0, .str a1), (1, .str a2), (6, l9 (some 39) (v13 ++ [(x2 ++ e17)])), (8, .str x2), (12, l9 (some 10500) v5), (13, I6 (v5.length : Int)), (14, I6 (k2 : Int)), (19, I6 (a2.size : Int)), (20, I6 (k3 : Int)), (40, I6 ((k3 + 1 : Nat) : Int))]) (by kernel_rfl) ?_
        refine WO.fin [0, 1, 6, 8, 12, 13, 14, 19, 20] [] [] [(39, some 10600)] (e2 := [(0, .str a1), (1, .str a2), (6, l9 (some 10600) (v13 ++ [(x2 ++ e17)])), (8, .str x2), (12, l9 (some 10500) v5), (13, I6 (v5.length : Int)), (14, I6 (k2 : Int)), (19, I6 (a2.size : Int)), (20, I6 ((k3 + 1 : Nat) : Int))]) (by kernel_rfl) (fun _ h => h) ?_
        exact hN3 (v13 ++ [(x2 ++ e17)]) h
def lw4_IndexStrings_j23 (v24 : Bool) : Option Bool :=
  (some v24)
def lw4_IndexStrings_j33 (v34 : Bool) : Option Bool :=
  (some v34)
def lw4_IndexStrings_j35 (v37 : Bool) : Option Bool :=
  (some v37)
def lw4_IndexStrings_j26 (fuel : Nat) (w5 : ByteArray) (w6 : ByteArray) (w14 : (ByteArray × Int)) (v28 : Bool) : Option Bool :=
  (bif v28 then (some false) else ((rf4_Letters fuel w6).bind fun w32 => (bif (!w32) then (bif (w14.1.toList == (ByteArray.mk #[]).toList) then ((lw4_IndexStrings_j33) (w14.2 == 2)) else ((lw4_IndexStrings_j33) false)) else ((rf4_Absent fuel w5 w6).bind fun w36 => (bif (w14.1.toList == w36.toList) then ((lw4_IndexStrings_j35) (w14.2 == 0)) else ((lw4_IndexStrings_j35) false))))))
def lw4_IndexStrings_j16 (fuel : Nat) (w5 : ByteArray) (w6 : ByteArray) (w12 : (Int × Int)) (w14 : (ByteArray × Int)) (v18 : Bool) : Option Bool :=
  (bif v18 then (some false) else ((rf4_Label w5).bind fun w22 => (bif (!w22) then (bif (w12.1 == 0) then (bif (w12.2 == 2) then (bif (w14.1.toList == (ByteArray.mk #[]).toList) then ((lw4_IndexStrings_j23) (w14.2 == 2)) else ((lw4_IndexStrings_j23) false)) else ((lw4_IndexStrings_j23) false)) else ((lw4_IndexStrings_j23) false)) else ((rf4_Distinct fuel w5).bind fun w27 => (bif (w12.1 != w27) then ((lw4_IndexStrings_j26 fuel w5 w6 w14) true) else ((lw4_IndexStrings_j26 fuel w5 w6 w14) (w12.2 != 0)))))))
def lw4_IndexStrings (fuel : Nat) (a1 : ByteArray) (a2 : ByteArray) : Option Bool :=
  ((lw4_few a1).bind fun w5 => ((lw4_few a2).bind fun w6 => ((ix_Longest fuel w5).bind fun w8 => ((rf4_Longest fuel w5).bind fun w10 => ((ix_Distinct fuel w5).bind fun w12 => ((ix_Absent fuel w5 w6).bind fun w14 => (bif (!(w8.1.toList == w10.1.toList)) then ((lw4_IndexStrings_j16 fuel w5 w6 w12 w14) true) else (bif (w8.2 != w10.2) then ((lw4_IndexStrings_j16 fuel w5 w6 w12 w14) true) else ((lw4_awake fuel).bind fun w17 => ((lw4_IndexStrings_j16 fuel w5 w6 w12 w14) (!w17)))))))))))
theorem run_lw4_IndexStrings (fuel : Nat) (a1 : ByteArray) (a2 : ByteArray) (r : Bool) (h : lw4_IndexStrings fuel a1 a2 = some r) : Run Try.prog (.call 5 [.str a1, .str a2] (.bool r)) := by
  refine call_of_W Try.func5 rfl (by kernel_rfl) (env0 := [(0, .str a1), (1, .str a2)]) (by kernel_rfl) ?_
  unfold lw4_IndexStrings at h
  refine W.seq ?_
  refine W.regT [0, 1] [] [] [] (e2 := [(0, .str a1), (1, .str a2)]) (by kernel_rfl) (by kernel_rfl) (fun _ h => h) ?_
  refine W.seq ?_
  refine W.region (by kernel_rfl) ?_
  obtain ⟨w5, hw5, h⟩ := bind_some h
  refine WO.callK 1 (F := 14) (l := [.str a1]) (C := []) (r := .str w5) (by kernel_rfl) (by kernel_rfl) (run_lw4_few a1 w5 hw5) (e1 := [(0, .str a1), (1, .str a2), (13, .str a1), (14, .str w5)]) (by kernel_rfl) ?_
  obtain ⟨w6, hw6, h⟩ := bind_some h
  refine WO.callK 1 (F := 14) (l := [.str a2]) (C := []) (r := .str w6) (by kernel_rfl) (by kernel_rfl) (run_lw4_few a2 w6 hw6) (e1 := [(0, .str a1), (1, .str a2), (13, .str a1), (14, .str w5), (15, .str a2), (16, .str w6)]) (by kernel_rfl) ?_
  refine WO.fin [0, 1] [] [] [] (e2 := [(0, .str w5), (1, .str w6)]) (by kernel_rfl) (fun _ h => h) ?_
  refine W.seq ?_
  refine W.region (by kernel_rfl) ?_
  obtain ⟨w8, hw8, h⟩ := bind_some h
  refine WO.callK 1 (F := 24) (l := [.str w5]) (C := []) (r := .tup [.str w8.1, I6 w8.2]) (by kernel_rfl) (by kernel_rfl) (run_ix_Longest fuel w5 w8 hw8) (e1 := [(0, .str w5), (1, .str w6), (18, .str w5), (19, .tup [.str w8.1, I6 w8.2])]) (by kernel_rfl) ?_
  refine WO.fin [0, 1, 5, 6] [] [] [] (e2 := [(0, .str w5), (1, .str w6), (5, .str w8.1), (6, I6 w8.2)]) (by kernel_rfl) (fun _ h => h) ?_
  refine W.seq ?_
  refine W.region (by kernel_rfl) ?_
  obtain ⟨w10, hw10, h⟩ := bind_some h
  refine WO.callK 1 (F := 25) (l := [.str w5]) (C := []) (r := .tup [.str w10.1, I6 w10.2]) (by kernel_rfl) (by kernel_rfl) (run_rf4_Longest fuel w5 w10 hw10) (e1 := [(0, .str w5), (1, .str w6), (5, .str w8.1), (6, I6 w8.2), (23, .str w5), (24, .tup [.str w10.1, I6 w10.2])]) (by kernel_rfl) ?_
  refine WO.fin [0, 1, 5, 6, 7, 8] [] [] [] (e2 := [(0, .str w5), (1, .str w6), (5, .str w8.1), (6, I6 w8.2), (7, .str w10.1), (8, I6 w10.2)]) (by kernel_rfl) (fun _ h => h) ?_
  refine W.seq ?_
  refine W.region (by kernel_rfl) ?_
  obtain ⟨w12, hw12, h⟩ := bind_some h
  refine WO.callK 1 (F := 26) (l := [.str w5]) (C := []) (r := .tup [I6 w12.1, I6 w12.2]) (by kernel_rfl) (by kernel_rfl) (run_ix_Distinct fuel w5 w12 hw12) (e1 := [(0, .str w5), (1, .str w6), (5, .str w8.1), (6, I6 w8.2), (7, .str w10.1), (8, I6 w10.2), (28, .str w5), (29, .tup [I6 w12.1, I6 w12.2])]) (by kernel_rfl) ?_
  refine WO.fin [0, 1, 5, 6, 7, 8, 9, 10] [] [] [] (e2 := [(0, .str w5), (1, .str w6), (5, .str w8.1), (6, I6 w8.2), (7, .str w10.1), (8, I6 w10.2), (9, I6 w12.1), (10, I6 w12.2)]) (by kernel_rfl) (fun _ h => h) ?_
  refine W.seq ?_
  refine W.region (by kernel_rfl) ?_
  obtain ⟨w14, hw14, h⟩ := bind_some h
  refine WO.callK 2 (F := 27) (l := [.str w5, .str w6]) (C := []) (r := .tup [.str w14.1, I6 w14.2]) (by kernel_rfl) (by kernel_rfl) (run_ix_Absent fuel w5 w6 w14 hw14) (e1 := [(0, .str w5), (1, .str w6), (5, .str w8.1), (6, I6 w8.2), (7, .str w10.1), (8, I6 w10.2), (9, I6 w12.1), (10, I6 w12.2), (33, .str w5), (34, .str w6), (35, .tup [.str w14.1, I6 w14.2])]) (by kernel_rfl) ?_
  refine WO.fin [0, 1, 5, 6, 7, 8, 9, 10, 11, 12] [] [] [] (e2 := [(0, .str w5), (1, .str w6), (5, .str w8.1), (6, I6 w8.2), (7, .str w10.1), (8, I6 w10.2), (9, I6 w12.1), (10, I6 w12.2), (11, .str w14.1), (12, I6 w14.2)]) (by kernel_rfl) (fun _ h => h) ?_
  refine W.seq ?_
  refine W.seq ?_
  refine W.join (σ := (Bool)) (fun s => [(0, .str w5), (1, .str w6), (9, I6 w12.1), (10, I6 w12.2), (11, .str w14.1), (12, I6 w14.2), (49, .bool s)]) (fun s => (lw4_IndexStrings_j16 fuel w5 w6 w12 w14) s = some r) (fun s h => ?_) (fun hK16 => ?_)
  · obtain ⟨v18, rfl⟩ : ∃ x, x = s := ⟨s, rfl⟩
    have h : (lw4_IndexStrings_j16 fuel w5 w6 w12 w14) v18 = some r := h
    unfold lw4_IndexStrings_j16 at h
    refine W.condB v18 (by kernel_rfl) (fun hb => ?_) (fun hb => ?_)
    · replace h := cond_t hb h
      refine W.seq ?_
      refine W.regT [4] [] [] [] (e2 := [(4, .bool false)]) (by kernel_rfl) (by kernel_rfl) (fun _ h => h) ?_
      refine W.weak [4] [] [] [] (env' := [(4, .bool false)]) (by kernel_rfl) ?_
      have hr : aresults Try.prog Try.f5 [(4, .bool false)] = some (.bool false) := by kernel_rfl
      cases h
      exact W.ret hr
    replace h := cond_f hb h
    refine W.skip ?_
    refine W.weak [0, 1, 9, 10, 11, 12] [] [] [] (env' := [(0, .str w5), (1, .str w6), (9, I6 w12.1), (10, I6 w12.2), (11, .str w14.1), (12, I6 w14.2)]) (by kernel_rfl) ?_
    refine W.seq ?_
    refine W.seq ?_
    refine W.region (by kernel_rfl) ?_
    obtain ⟨w22, hw22, h⟩ := bind_some h
    refine WO.callK 1 (F := 17) (l := [.str w5]) (C := []) (r := .bool w22) (by kernel_rfl) (by kernel_rfl) (run_rf4_Label w5 w22 hw22) (e1 := [(0, .str w5), (1, .str w6), (9, I6 w12.1), (10, I6 w12.2), (11, .str w14.1), (12, I6 w14.2), (50, .str w5), (51, .bool w22)]) (by kernel_rfl) ?_
    refine WO.fin [0, 1, 9, 10, 11, 12, 52] [] [] [] (e2 := [(0, .str w5), (1, .str w6), (9, I6 w12.1), (10, I6 w12.2), (11, .str w14.1), (12, I6 w14.2), (52, .bool (!w22))]) (by kernel_rfl) (fun _ h => h) ?_
    refine W.condB (!w22) (by kernel_rfl) (fun hb => ?_) (fun hb => ?_)
    · replace h := cond_t hb h
      refine W.seq ?_
      refine W.join (σ := (Bool)) (fun s => [(4, .bool s)]) (fun s => (lw4_IndexStrings_j23) s = some r) (fun s h => ?_) (fun hK23 => ?_)
      · obtain ⟨v24, rfl⟩ : ∃ x, x = s := ⟨s, rfl⟩
        have h : (lw4_IndexStrings_j23) v24 = some r := h
        unfold lw4_IndexStrings_j23 at h
        refine W.weak [4] [] [] [] (env' := [(4, .bool v24)]) (by kernel_rfl) ?_
        have hr : aresults Try.prog Try.f5 [(4, .bool v24)] = some (.bool v24) := by kernel_rfl
        cases h
        exact W.ret hr
      refine W.region (by kernel_rfl) ?_
      refine WO.boolK 3 (fun b => [(0, .str w5), (1, .str w6), (9, I6 w12.1), (10, I6 w12.2), (11, .str w14.1), (12, I6 w14.2), (52, .bool (!w22)), (53, I6 w12.1), (54, .bool b), (55, .bool b)]) (w12.1 == 0) (by kernel_rfl) (fun hb => ?_) (fun hb => ?_)
      · replace h := cond_t hb h
        refine WO.boolK 4 (fun b => [(0, .str w5), (1, .str w6), (9, I6 w12.1), (10, I6 w12.2), (11, .str w14.1), (12, I6 w14.2), (52, .bool (!w22)), (53, I6 w12.1), (54, .bool true), (55, .bool true), (56, I6 w12.2), (57, .bool b), (58, .bool b), (59, .bool b)]) (w12.2 == 2) (by kernel_rfl) (fun hb => ?_) (fun hb => ?_)
        · replace h := cond_t hb h
          refine WO.boolK 4 (fun b => [(0, .str w5), (1, .str w6), (9, I6 w12.1), (10, I6 w12.2), (11, .str w14.1), (12, I6 w14.2), (52, .bool (!w22)), (53, I6 w12.1), (54, .bool true), (55, .bool true), (56, I6 w12.2), (57, .bool true), (58, .bool true), (59, .bool true), (60, .str w14.1), (61, .bool b), (62, .bool b), (63, .bool b)]) (w14.1.toList == (ByteArray.mk #[]).toList) (by kernel_rfl) (fun hb => ?_) (fun hb => ?_)
          · replace h := cond_t hb h
            refine WO.fin [4] [] [] [] (e2 := [(4, .bool (w14.2 == 2))]) (by kernel_rfl) (fun _ h => h) ?_
            exact hK23 (w14.2 == 2) h
          replace h := cond_f hb h
          refine WO.fin [4] [] [] [] (e2 := [(4, .bool false)]) (by kernel_rfl) (fun _ h => h) ?_
          exact hK23 false h
        replace h := cond_f hb h
        refine WO.fin [4] [] [] [] (e2 := [(4, .bool false)]) (by kernel_rfl) (fun _ h => h) ?_
        exact hK23 false h
      replace h := cond_f hb h
      refine WO.fin [4] [] [] [] (e2 := [(4, .bool false)]) (by kernel_rfl) (fun _ h => h) ?_
      exact hK23 false h
    replace h := cond_f hb h
    refine W.skip ?_
    refine W.weak [0, 1, 9, 10, 11, 12] [] [] [] (env' := [(0, .str w5), (1, .str w6), (9, I6 w12.1), (10, I6 w12.2), (11, .str w14.1), (12, I6 w14.2)]) (by kernel_rfl) ?_
    refine W.seq ?_
    refine W.seq ?_
    refine W.join (σ := (Bool)) (fun s => [(0, .str w5), (1, .str w6), (11, .str w14.1), (12, I6 w14.2), (74, .bool s)]) (fun s => (lw4_IndexStrings_j26 fuel w5 w6 w14) s = some r) (fun s h => ?_) (fun hK26 => ?_)
    · obtain ⟨v28, rfl⟩ : ∃ x, x = s := ⟨s, rfl⟩
      have h : (lw4_IndexStrings_j26 fuel w5 w6 w14) v28 = some r := h
      unfold lw4_IndexStrings_j26 at h
      refine W.condB v28 (by kernel_rfl) (fun hb => ?_) (fun hb => ?_)
      · replace h := cond_t hb h
        refine W.seq ?_
        refine W.regT [4] [] [] [] (e2 := [(4, .bool false)]) (by kernel_rfl) (by kernel_rfl) (fun _ h => h) ?_
        refine W.weak [4] [] [] [] (env' := [(4, .bool false)]) (by kernel_rfl) ?_
        have hr : aresults Try.prog Try.f5 [(4, .bool false)] = some (.bool false) := by kernel_rfl
        cases h
        exact W.ret hr
      replace h := cond_f hb h
      refine W.skip ?_
      refine W.weak [0, 1, 11, 12] [] [] [] (env' := [(0, .str w5), (1, .str w6), (11, .str w14.1), (12, I6 w14.2)]) (by kernel_rfl) ?_
      refine W.seq ?_
      refine W.seq ?_
      refine W.region (by kernel_rfl) ?_
      obtain ⟨w32, hw32, h⟩ := bind_some h
      refine WO.callK 1 (F := 29) (l := [.str w6]) (C := []) (r := .bool w32) (by kernel_rfl) (by kernel_rfl) (run_rf4_Letters fuel w6 w32 hw32) (e1 := [(0, .str w5), (1, .str w6), (11, .str w14.1), (12, I6 w14.2), (75, .str w6), (76, .bool w32)]) (by kernel_rfl) ?_
      refine WO.fin [0, 1, 11, 12, 77] [] [] [] (e2 := [(0, .str w5), (1, .str w6), (11, .str w14.1), (12, I6 w14.2), (77, .bool (!w32))]) (by kernel_rfl) (fun _ h => h) ?_
      refine W.condB (!w32) (by kernel_rfl) (fun hb => ?_) (fun hb => ?_)
      · replace h := cond_t hb h
        refine W.seq ?_
        refine W.join (σ := (Bool)) (fun s => [(4, .bool s)]) (fun s => (lw4_IndexStrings_j33) s = some r) (fun s h => ?_) (fun hK33 => ?_)
        · obtain ⟨v34, rfl⟩ : ∃ x, x = s := ⟨s, rfl⟩
          have h : (lw4_IndexStrings_j33) v34 = some r := h
          unfold lw4_IndexStrings_j33 at h
          refine W.weak [4] [] [] [] (env' := [(4, .bool v34)]) (by kernel_rfl) ?_
          have hr : aresults Try.prog Try.f5 [(4, .bool v34)] = some (.bool v34) := by kernel_rfl
          cases h
          exact W.ret hr
        refine W.region (by kernel_rfl) ?_
        refine WO.boolK 3 (fun b => [(0, .str w5), (1, .str w6), (11, .str w14.1), (12, I6 w14.2), (77, .bool (!w32)), (78, .str w14.1), (79, .bool b), (80, .bool b)]) (w14.1.toList == (ByteArray.mk #[]).toList) (by kernel_rfl) (fun hb => ?_) (fun hb => ?_)
        · replace h := cond_t hb h
          refine WO.fin [4] [] [] [] (e2 := [(4, .bool (w14.2 == 2))]) (by kernel_rfl) (fun _ h => h) ?_
          exact hK33 (w14.2 == 2) h
        replace h := cond_f hb h
        refine WO.fin [4] [] [] [] (e2 := [(4, .bool false)]) (by kernel_rfl) (fun _ h => h) ?_
        exact hK33 false h
      replace h := cond_f hb h
      refine W.skip ?_
      refine W.weak [0, 1, 11, 12] [] [] [] (env' := [(0, .str w5), (1, .str w6), (11, .str w14.1), (12, I6 w14.2)]) (by kernel_rfl) ?_
      refine W.seq ?_
      refine W.join (σ := (Bool)) (fun s => [(4, .bool s)]) (fun s => (lw4_IndexStrings_j35) s = some r) (fun s h => ?_) (fun hK35 => ?_)
      · obtain ⟨v37, rfl⟩ : ∃ x, x = s := ⟨s, rfl⟩
        have h : (lw4_IndexStrings_j35) v37 = some r := h
        unfold lw4_IndexStrings_j35 at h
        refine W.weak [4] [] [] [] (env' := [(4, .bool v37)]) (by kernel_rfl) ?_
        have hr : aresults Try.prog Try.f5 [(4, .bool v37)] = some (.bool v37) := by kernel_rfl
        cases h
        exact W.ret hr
      refine W.region (by kernel_rfl) ?_
      obtain ⟨w36, hw36, h⟩ := bind_some h
      refine WO.callK 3 (F := 30) (l := [.str w5, .str w6]) (C := []) (r := .str w36) (by kernel_rfl) (by kernel_rfl) (run_rf4_Absent fuel w5 w6 w36 hw36) (e1 := [(0, .str w5), (1, .str w6), (11, .str w14.1), (12, I6 w14.2), (84, .str w14.1), (85, .str w5), (86, .str w6), (87, .str w36)]) (by kernel_rfl) ?_
      refine WO.boolK 2 (fun b => [(0, .str w5), (1, .str w6), (11, .str w14.1), (12, I6 w14.2), (84, .str w14.1), (85, .str w5), (86, .str w6), (87, .str w36), (88, .bool b), (89, .bool b)]) (w14.1.toList == w36.toList) (by kernel_rfl) (fun hb => ?_) (fun hb => ?_)
      · replace h := cond_t hb h
        refine WO.fin [4] [] [] [] (e2 := [(4, .bool (w14.2 == 0))]) (by kernel_rfl) (fun _ h => h) ?_
        exact hK35 (w14.2 == 0) h
      replace h := cond_f hb h
      refine WO.fin [4] [] [] [] (e2 := [(4, .bool false)]) (by kernel_rfl) (fun _ h => h) ?_
      exact hK35 false h
    refine W.region (by kernel_rfl) ?_
    obtain ⟨w27, hw27, h⟩ := bind_some h
    refine WO.callK 2 (F := 28) (l := [.str w5]) (C := []) (r := I6 w27) (by kernel_rfl) (by kernel_rfl) (run_rf4_Distinct fuel w5 w27 hw27) (e1 := [(0, .str w5), (1, .str w6), (9, I6 w12.1), (10, I6 w12.2), (11, .str w14.1), (12, I6 w14.2), (67, I6 w12.1), (68, .str w5), (69, I6 w27)]) (by kernel_rfl) ?_
    refine WO.boolK 2 (fun b => [(0, .str w5), (1, .str w6), (9, I6 w12.1), (10, I6 w12.2), (11, .str w14.1), (12, I6 w14.2), (67, I6 w12.1), (68, .str w5), (69, I6 w27), (70, .bool b), (71, .bool b)]) (w12.1 != w27) (by kernel_rfl) (fun hb => ?_) (fun hb => ?_)
    · replace h := cond_t hb h
      refine WO.fin [0, 1, 11, 12, 74] [] [] [] (e2 := [(0, .str w5), (1, .str w6), (11, .str w14.1), (12, I6 w14.2), (74, .bool true)]) (by kernel_rfl) (fun _ h => h) ?_
      exact hK26 true h
    replace h := cond_f hb h
    refine WO.fin [0, 1, 11, 12, 74] [] [] [] (e2 := [(0, .str w5), (1, .str w6), (11, .str w14.1), (12, I6 w14.2), (74, .bool (w12.2 != 0))]) (by kernel_rfl) (fun _ h => h) ?_
    exact hK26 (w12.2 != 0) h
  refine W.region (by kernel_rfl) ?_
  refine WO.boolK 4 (fun b => [(0, .str w5), (1, .str w6), (5, .str w8.1), (6, I6 w8.2), (7, .str w10.1), (8, I6 w10.2), (9, I6 w12.1), (10, I6 w12.2), (11, .str w14.1), (12, I6 w14.2), (38, .str w8.1), (39, .str w10.1), (40, .bool b), (41, .bool b)]) (!(w8.1.toList == w10.1.toList)) (by kernel_rfl) (fun hb => ?_) (fun hb => ?_)
  · replace h := cond_t hb h
    refine WO.fin [0, 1, 9, 10, 11, 12, 49] [] [] [] (e2 := [(0, .str w5), (1, .str w6), (9, I6 w12.1), (10, I6 w12.2), (11, .str w14.1), (12, I6 w14.2), (49, .bool true)]) (by kernel_rfl) (fun _ h => h) ?_
    exact hK16 true h
  replace h := cond_f hb h
  refine WO.boolK 5 (fun b => [(0, .str w5), (1, .str w6), (5, .str w8.1), (6, I6 w8.2), (7, .str w10.1), (8, I6 w10.2), (9, I6 w12.1), (10, I6 w12.2), (11, .str w14.1), (12, I6 w14.2), (38, .str w8.1), (39, .str w10.1), (40, .bool false), (41, .bool false), (42, I6 w8.2), (43, I6 w10.2), (44, .bool b), (45, .bool b), (46, .bool b)]) (w8.2 != w10.2) (by kernel_rfl) (fun hb => ?_) (fun hb => ?_)
  · replace h := cond_t hb h
    refine WO.fin [0, 1, 9, 10, 11, 12, 49] [] [] [] (e2 := [(0, .str w5), (1, .str w6), (9, I6 w12.1), (10, I6 w12.2), (11, .str w14.1), (12, I6 w14.2), (49, .bool true)]) (by kernel_rfl) (fun _ h => h) ?_
    exact hK16 true h
  replace h := cond_f hb h
  obtain ⟨w17, hw17, h⟩ := bind_some h
  refine WO.callK 0 (F := 18) (l := []) (C := []) (r := .bool w17) (by kernel_rfl) (by kernel_rfl) (run_lw4_awake fuel w17 hw17) (e1 := [(0, .str w5), (1, .str w6), (5, .str w8.1), (6, I6 w8.2), (7, .str w10.1), (8, I6 w10.2), (9, I6 w12.1), (10, I6 w12.2), (11, .str w14.1), (12, I6 w14.2), (38, .str w8.1), (39, .str w10.1), (40, .bool false), (41, .bool false), (42, I6 w8.2), (43, I6 w10.2), (44, .bool false), (45, .bool false), (46, .bool false), (47, .bool w17)]) (by kernel_rfl) ?_
  refine WO.fin [0, 1, 9, 10, 11, 12, 49] [] [] [] (e2 := [(0, .str w5), (1, .str w6), (9, I6 w12.1), (10, I6 w12.2), (11, .str w14.1), (12, I6 w14.2), (49, .bool (!w17))]) (by kernel_rfl) (fun _ h => h) ?_
  exact hK16 (!w17) h

end Go.AM
