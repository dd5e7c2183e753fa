/- PRINTED by gen.py: pure functions and the proofs that the code computes them. No statement of the seat is proved here. -/
import Derived.Test.YtmfdgonjnckdhaaS2
set_option maxRecDepth 100000
set_option linter.unusedVariables false
set_option linter.unusedSimpArgs false
namespace Go.AM
open Go.Proofs
def sl_partialInsertionSortCmpFunc_int_j8 (v96 : (List Int)) : Option (Bool × (List Int)) :=
  (some (false, v96))
def sl_partialInsertionSortCmpFunc_int_j15 (v12 : Int) (N1 : ((List Int) → Int → Int → Option (Bool × (List Int)))) (v94 : (List Int)) (v95 : Int) : Option (Bool × (List Int)) :=
  (N1 v94 v95 (IntKind.wrap .i64 (v12 + 1)))
def sl_partialInsertionSortCmpFunc_int_l4 (n2 : Nat) (a4 : Int) (g5 : (Int → Int → Option Int)) (v26 : Int) (K15 : ((List Int) → Int → Option (Bool × (List Int)))) : Nat → (List Int) → Int → Option (Bool × (List Int))
  | 0, _, _ => none
  | m4 + 1, v72, v73 => (bif (decide (v73 < a4)) then (chk (decide ((0 : Int) ≤ v73 ∧ v73 < ((n2 : Nat) : Int))) ((v72[(0 + Int.toNat v73)]?).bind fun e80 => (chk (decide ((0 : Int) ≤ (IntKind.wrap .i64 (v73 - 1)) ∧ (IntKind.wrap .i64 (v73 - 1)) < ((n2 : Nat) : Int))) ((v72[(0 + Int.toNat (IntKind.wrap .i64 (v73 - 1)))]?).bind fun e82 => ((g5 e80 e82).bind fun w83 => (bif (!(decide (w83 < 0))) then (K15 v72 v26) else (chk (decide ((0 : Int) ≤ (IntKind.wrap .i64 (v73 - 1)) ∧ (IntKind.wrap .i64 (v73 - 1)) < ((n2 : Nat) : Int))) ((v72[(0 + Int.toNat (IntKind.wrap .i64 (v73 - 1)))]?).bind fun e85 => (chk (decide ((0 : Int) ≤ v73 ∧ v73 < ((n2 : Nat) : Int))) ((v72[(0 + Int.toNat v73)]?).bind fun e87 => (chk (decide ((0 : Int) ≤ v73 ∧ v73 < ((n2 : Nat) : Int))) ((upd v72 (0 + Int.toNat v73) e85).bind fun u89 => (chk (decide ((0 : Int) ≤ (IntKind.wrap .i64 (v73 - 1)) ∧ (IntKind.wrap .i64 (v73 - 1)) < ((n2 : Nat) : Int))) ((upd u89 (0 + Int.toNat (IntKind.wrap .i64 (v73 - 1))) e87).bind fun u92 => ((sl_partialInsertionSortCmpFunc_int_l4 n2 a4 g5 v26 K15 m4) u92 (IntKind.wrap .i64 (v73 + 1))))))))))))))))) else (K15 v72 v26))
def sl_partialInsertionSortCmpFunc_int_j44 (fuel : Nat) (n2 : Nat) (a4 : Int) (g5 : (Int → Int → Option Int)) (v26 : Int) (K15 : ((List Int) → Int → Option (Bool × (List Int)))) (v69 : (List Int)) : Option (Bool × (List Int)) :=
  (bif (decide ((IntKind.wrap .i64 (a4 - v26)) ≥ 2)) then (sl_partialInsertionSortCmpFunc_int_l4 n2 a4 g5 v26 K15 fuel v69 (IntKind.wrap .i64 (v26 + 1))) else (K15 v69 v26))
def sl_partialInsertionSortCmpFunc_int_l3 (n2 : Nat) (g5 : (Int → Int → Option Int)) (K44 : ((List Int) → Option (Bool × (List Int)))) : Nat → (List Int) → Int → Option (Bool × (List Int))
  | 0, _, _ => none
  | m3 + 1, v47, v48 => (bif (decide (v48 ≥ 1)) then (chk (decide ((0 : Int) ≤ v48 ∧ v48 < ((n2 : Nat) : Int))) ((v47[(0 + Int.toNat v48)]?).bind fun e55 => (chk (decide ((0 : Int) ≤ (IntKind.wrap .i64 (v48 - 1)) ∧ (IntKind.wrap .i64 (v48 - 1)) < ((n2 : Nat) : Int))) ((v47[(0 + Int.toNat (IntKind.wrap .i64 (v48 - 1)))]?).bind fun e57 => ((g5 e55 e57).bind fun w58 => (bif (!(decide (w58 < 0))) then (K44 v47) else (chk (decide ((0 : Int) ≤ (IntKind.wrap .i64 (v48 - 1)) ∧ (IntKind.wrap .i64 (v48 - 1)) < ((n2 : Nat) : Int))) ((v47[(0 + Int.toNat (IntKind.wrap .i64 (v48 - 1)))]?).bind fun e60 => (chk (decide ((0 : Int) ≤ v48 ∧ v48 < ((n2 : Nat) : Int))) ((v47[(0 + Int.toNat v48)]?).bind fun e62 => (chk (decide ((0 : Int) ≤ v48 ∧ v48 < ((n2 : Nat) : Int))) ((upd v47 (0 + Int.toNat v48) e60).bind fun u64 => (chk (decide ((0 : Int) ≤ (IntKind.wrap .i64 (v48 - 1)) ∧ (IntKind.wrap .i64 (v48 - 1)) < ((n2 : Nat) : Int))) ((upd u64 (0 + Int.toNat (IntKind.wrap .i64 (v48 - 1))) e62).bind fun u67 => ((sl_partialInsertionSortCmpFunc_int_l3 n2 g5 K44 m3) u67 (IntKind.wrap .i64 (v48 - 1))))))))))))))))) else (K44 v47))
def sl_partialInsertionSortCmpFunc_int_j16 (fuel : Nat) (n2 : Nat) (a3 : Int) (a4 : Int) (g5 : (Int → Int → Option Int)) (v10 : (List Int)) (K15 : ((List Int) → Int → Option (Bool × (List Int)))) (v26 : Int) : Option (Bool × (List Int)) :=
  (bif (v26 == a4) then (some (true, v10)) else (bif (decide ((IntKind.wrap .i64 (a4 - a3)) < 50)) then (some (false, v10)) else (chk (decide ((0 : Int) ≤ (IntKind.wrap .i64 (v26 - 1)) ∧ (IntKind.wrap .i64 (v26 - 1)) < ((n2 : Nat) : Int))) ((v10[(0 + Int.toNat (IntKind.wrap .i64 (v26 - 1)))]?).bind fun e35 => (chk (decide ((0 : Int) ≤ v26 ∧ v26 < ((n2 : Nat) : Int))) ((v10[(0 + Int.toNat v26)]?).bind fun e37 => (chk (decide ((0 : Int) ≤ v26 ∧ v26 < ((n2 : Nat) : Int))) ((upd v10 (0 + Int.toNat v26) e35).bind fun u39 => (chk (decide ((0 : Int) ≤ (IntKind.wrap .i64 (v26 - 1)) ∧ (IntKind.wrap .i64 (v26 - 1)) < ((n2 : Nat) : Int))) ((upd u39 (0 + Int.toNat (IntKind.wrap .i64 (v26 - 1))) e37).bind fun u42 => (bif (decide ((IntKind.wrap .i64 (v26 - a3)) ≥ 2)) then (sl_partialInsertionSortCmpFunc_int_l3 n2 g5 (sl_partialInsertionSortCmpFunc_int_j44 fuel n2 a4 g5 v26 K15) fuel u42 (IntKind.wrap .i64 (v26 - 1))) else ((sl_partialInsertionSortCmpFunc_int_j44 fuel n2 a4 g5 v26 K15) u42))))))))))))
def sl_partialInsertionSortCmpFunc_int_j19 (v17 : Int) (N2 : (Int → Option (Bool × (List Int)))) (K16 : (Int → Option (Bool × (List Int)))) (v25 : Bool) : Option (Bool × (List Int)) :=
  (bif v25 then (N2 (IntKind.wrap .i64 (v17 + 1))) else (K16 v17))
def sl_partialInsertionSortCmpFunc_int_l2 (n2 : Nat) (a4 : Int) (g5 : (Int → Int → Option Int)) (v10 : (List Int)) (K16 : (Int → Option (Bool × (List Int)))) : Nat → Int → Option (Bool × (List Int))
  | 0, _ => none
  | m2 + 1, v17 => (bif (decide (v17 < a4)) then (chk (decide ((0 : Int) ≤ v17 ∧ v17 < ((n2 : Nat) : Int))) ((v10[(0 + Int.toNat v17)]?).bind fun e21 => (chk (decide ((0 : Int) ≤ (IntKind.wrap .i64 (v17 - 1)) ∧ (IntKind.wrap .i64 (v17 - 1)) < ((n2 : Nat) : Int))) ((v10[(0 + Int.toNat (IntKind.wrap .i64 (v17 - 1)))]?).bind fun e23 => ((g5 e21 e23).bind fun w24 => ((sl_partialInsertionSortCmpFunc_int_j19 v17 (sl_partialInsertionSortCmpFunc_int_l2 n2 a4 g5 v10 K16 m2) K16) (!(decide (w24 < 0))))))))) else ((sl_partialInsertionSortCmpFunc_int_j19 v17 (sl_partialInsertionSortCmpFunc_int_l2 n2 a4 g5 v10 K16 m2) K16) false))
def sl_partialInsertionSortCmpFunc_int_l1 (fuel : Nat) (n2 : Nat) (a3 : Int) (a4 : Int) (g5 : (Int → Int → Option Int)) (K8 : ((List Int) → Option (Bool × (List Int)))) : Nat → (List Int) → Int → Int → Option (Bool × (List Int))
  | 0, _, _, _ => none
  | m1 + 1, v10, v11, v12 => (bif (decide (v12 < 5)) then (sl_partialInsertionSortCmpFunc_int_l2 n2 a4 g5 v10 (sl_partialInsertionSortCmpFunc_int_j16 fuel n2 a3 a4 g5 v10 (sl_partialInsertionSortCmpFunc_int_j15 v12 (sl_partialInsertionSortCmpFunc_int_l1 fuel n2 a3 a4 g5 K8 m1))) fuel v11) else (K8 v10))
def sl_partialInsertionSortCmpFunc_int (fuel : Nat) (a1 : (List Int)) (n2 : Nat) (a3 : Int) (a4 : Int) (g5 : (Int → Int → Option Int)) : Option (Bool × (List Int)) :=
  (sl_partialInsertionSortCmpFunc_int_l1 fuel n2 a3 a4 g5 (sl_partialInsertionSortCmpFunc_int_j8) fuel a1 (IntKind.wrap .i64 (a3 + 1)) 0)
theorem run_sl_partialInsertionSortCmpFunc_int (fuel : Nat) (a1 : (List Int)) (n2 : Nat) (a3 : Int) (a4 : Int) (g5 : (Int → Int → Option Int)) (F_g5 : Nat) (C_g5 : List AV) (hok_g5 : okFn Try.prog F_g5 = true) (hrun_g5 : ∀ (x0 : Int) (x1 : Int) r, g5 x0 x1 = some r → Run Try.prog (.call F_g5 ([I6 x0, I6 x1] ++ C_g5) (I6 r))) (r : (Bool × (List Int))) (h : sl_partialInsertionSortCmpFunc_int fuel a1 n2 a3 a4 g5 = some r) : Run Try.prog (.callM 101 [S1 n2, I6 a3, I6 a4, .clo F_g5 C_g5] [O1 a1] (.bool r.1) [(2000000, .obj 3 1 (List.map (AV.int .i64) r.2))]) := by
  refine callM_of_W Try.func101 rfl (by kernel_rfl) (env0 := [(0, S1 n2), (1, I6 a3), (2, I6 a4), (3, .clo F_g5 C_g5), O1 a1]) (by kernel_rfl) ?_
  unfold sl_partialInsertionSortCmpFunc_int at h
  refine W.seq ?_
  refine W.regT [0, 1, 2, 3, 2000000] [] [] [] (e2 := [(0, S1 n2), (1, I6 a3), (2, I6 a4), (3, .clo F_g5 C_g5), O1 a1]) (by kernel_rfl) (by kernel_rfl) (fun _ h => h) ?_
  refine W.seq ?_
  refine W.regT [0, 1, 2, 3, 9, 2000000] [] [] [] (e2 := [(0, S1 n2), (1, I6 a3), (2, I6 a4), (3, .clo F_g5 C_g5), (9, I6 (W6 (a3 + 1))), O1 a1]) (by kernel_rfl) (by kernel_rfl) (fun _ h => h) ?_
  refine W.seq ?_
  refine W.join (σ := ((List Int))) (fun s => [O1 s]) (fun s => (sl_partialInsertionSortCmpFunc_int_j8) s = some r) (fun s h => ?_) (fun hK8 => ?_)
  · obtain ⟨v96, rfl⟩ : ∃ x, x = s := ⟨s, rfl⟩
    have h : (sl_partialInsertionSortCmpFunc_int_j8) v96 = some r := h
    unfold sl_partialInsertionSortCmpFunc_int_j8 at h
    refine W.seq ?_
    refine W.regT [8, 2000000] [] [] [] (e2 := [(8, .bool false), O1 v96]) (by kernel_rfl) (by kernel_rfl) (fun _ h => h) ?_
    refine W.weak [8, 2000000] [] [] [] (env' := [(8, .bool false), O1 v96]) (by kernel_rfl) ?_
    have hr : PostM Try.prog Try.f101 (.bool false) [O1 v96] .ret [(8, .bool false), O1 v96] := ⟨by kernel_rfl, by kernel_rfl⟩
    cases h
    exact W.ret hr
  refine W.seq ?_
  refine W.regT [0, 1, 2, 3, 9, 10, 2000000] [] [] [] (e2 := [(0, S1 n2), (1, I6 a3), (2, I6 a4), (3, .clo F_g5 C_g5), (9, I6 (W6 (a3 + 1))), (10, .int .i64 0), O1 a1]) (by kernel_rfl) (by kernel_rfl) (fun _ h => h) ?_
  refine W.block ?_
  refine W.weak [0, 1, 2, 3, 9, 10, 2000000] [] [] [] (env' := [(0, S1 n2), (1, I6 a3), (2, I6 a4), (3, .clo F_g5 C_g5), (9, I6 (W6 (a3 + 1))), (10, .int .i64 0), O1 a1]) (by kernel_rfl) ?_
  refine W.fuel (σ := ((List Int) × Int × Int)) (fun s => [(0, S1 n2), (1, I6 a3), (2, I6 a4), (3, .clo F_g5 C_g5), (9, I6 s.2.1), (10, I6 s.2.2), (2000000, .obj 3 1 (List.map (AV.int .i64) s.1))]) (fun m0 s => sl_partialInsertionSortCmpFunc_int_l1 fuel n2 a3 a4 g5 (sl_partialInsertionSortCmpFunc_int_j8) m0 s.1 s.2.1 s.2.2 = some r) (fun s h => ?_) (fun m1 s h hN1 => ?_) fuel (a1, (W6 (a3 + 1)), 0) h
  · obtain ⟨v10, v11, v12⟩ := s
    have h : sl_partialInsertionSortCmpFunc_int_l1 fuel n2 a3 a4 g5 (sl_partialInsertionSortCmpFunc_int_j8) 0 v10 v11 v12 = some r := h
    rw [sl_partialInsertionSortCmpFunc_int_l1.eq_1] at h
    cases h
  · obtain ⟨v10, v11, v12⟩ := s
    have h : sl_partialInsertionSortCmpFunc_int_l1 fuel n2 a3 a4 g5 (sl_partialInsertionSortCmpFunc_int_j8) (m1 + 1) v10 v11 v12 = some r := h
    rw [sl_partialInsertionSortCmpFunc_int_l1.eq_2] at h
    refine W.seq ?_
    refine W.seq ?_
    refine W.regT [0, 1, 2, 3, 9, 10, 16, 2000000] [] [] [] (e2 := [(0, S1 n2), (1, I6 a3), (2, I6 a4), (3, .clo F_g5 C_g5), (9, I6 v11), (10, I6 v12), (16, .bool (decide (v12 < 5))), O1 v10]) (by kernel_rfl) (by kernel_rfl) (fun _ h => h) ?_
    refine W.condB (decide (v12 < 5)) (by kernel_rfl) (fun hb => ?_) (fun hb => ?_)
    · replace h := cond_t hb h
      refine W.skip ?_
      refine W.weak [0, 1, 2, 3, 9, 10, 2000000] [] [] [] (env' := [(0, S1 n2), (1, I6 a3), (2, I6 a4), (3, .clo F_g5 C_g5), (9, I6 v11), (10, I6 v12), O1 v10]) (by kernel_rfl) ?_
      refine W.seq ?_
      refine W.join (σ := ((List Int) × Int)) (fun s => [(0, S1 n2), (1, I6 a3), (2, I6 a4), (3, .clo F_g5 C_g5), (9, I6 s.2), (10, I6 v12), (2000000, .obj 3 1 (List.map (AV.int .i64) s.1))]) (fun s => (sl_partialInsertionSortCmpFunc_int_j15 v12 (sl_partialInsertionSortCmpFunc_int_l1 fuel n2 a3 a4 g5 (sl_partialInsertionSortCmpFunc_int_j8) m1)) s.1 s.2 = some r) (fun s h => ?_) (fun hK15 => ?_)
      · obtain ⟨v94, v95⟩ := s
        have h : (sl_partialInsertionSortCmpFunc_int_j15 v12 (sl_partialInsertionSortCmpFunc_int_l1 fuel n2 a3 a4 g5 (sl_partialInsertionSortCmpFunc_int_j8) m1)) v94 v95 = some r := h
        unfold sl_partialInsertionSortCmpFunc_int_j15 at h
        refine W.regT [0, 1, 2, 3, 9, 10, 2000000] [] [] [] (e2 := [(0, S1 n2), (1, I6 a3), (2, I6 a4), (3, .clo F_g5 C_g5), (9, I6 v95), (10, I6 (W6 (v12 + 1))), O1 v94]) (by kernel_rfl) (by kernel_rfl) (fun _ h => h) ?_
        exact hN1 (v94, v95, (W6 (v12 + 1))) h
      refine W.block ?_
      refine W.seq ?_
      refine W.join (σ := (Int)) (fun s => [(0, S1 n2), (1, I6 a3), (2, I6 a4), (3, .clo F_g5 C_g5), (9, I6 s), (10, I6 v12), O1 v10]) (fun s => (sl_partialInsertionSortCmpFunc_int_j16 fuel n2 a3 a4 g5 v10 (sl_partialInsertionSortCmpFunc_int_j15 v12 (sl_partialInsertionSortCmpFunc_int_l1 fuel n2 a3 a4 g5 (sl_partialInsertionSortCmpFunc_int_j8) m1))) s = some r) (fun s h => ?_) (fun hK16 => ?_)
      · obtain ⟨v26, rfl⟩ : ∃ x, x = s := ⟨s, rfl⟩
        have h : (sl_partialInsertionSortCmpFunc_int_j16 fuel n2 a3 a4 g5 v10 (sl_partialInsertionSortCmpFunc_int_j15 v12 (sl_partialInsertionSortCmpFunc_int_l1 fuel n2 a3 a4 g5 (sl_partialInsertionSortCmpFunc_int_j8) m1))) v26 = some r := h
        unfold sl_partialInsertionSortCmpFunc_int_j16 at h
        refine W.seq ?_
        refine W.seq ?_
        refine W.regT [0, 1, 2, 3, 9, 10, 41, 2000000] [] [] [] (e2 := [(0, S1 n2), (1, I6 a3), (2, I6 a4), (3, .clo F_g5 C_g5), (9, I6 v26), (10, I6 v12), (41, .bool (v26 == a4)), O1 v10]) (by kernel_rfl) (by kernel_rfl) (fun _ h => h) ?_
        refine W.condB (v26 == a4) (by kernel_rfl) (fun hb => ?_) (fun hb => ?_)
        · replace h := cond_t hb h
          refine W.seq ?_
          refine W.regT [8, 2000000] [] [] [] (e2 := [(8, .bool true), O1 v10]) (by kernel_rfl) (by kernel_rfl) (fun _ h => h) ?_
          refine W.weak [8, 2000000] [] [] [] (env' := [(8, .bool true), O1 v10]) (by kernel_rfl) ?_
          have hr : PostM Try.prog Try.f101 (.bool true) [O1 v10] .ret [(8, .bool true), O1 v10] := ⟨by kernel_rfl, by kernel_rfl⟩
          cases h
          exact W.ret hr
        replace h := cond_f hb h
        refine W.skip ?_
        refine W.weak [0, 1, 2, 3, 9, 10, 2000000] [] [] [] (env' := [(0, S1 n2), (1, I6 a3), (2, I6 a4), (3, .clo F_g5 C_g5), (9, I6 v26), (10, I6 v12), O1 v10]) (by kernel_rfl) ?_
        refine W.seq ?_
        refine W.seq ?_
        refine W.regT [0, 1, 2, 3, 9, 10, 45, 2000000] [] [] [] (e2 := [(0, S1 n2), (1, I6 a3), (2, I6 a4), (3, .clo F_g5 C_g5), (9, I6 v26), (10, I6 v12), (45, .bool (decide ((W6 (a4 - a3)) < 50))), O1 v10]) (by kernel_rfl) (by kernel_rfl) (fun _ h => h) ?_
        refine W.condB (decide ((W6 (a4 - a3)) < 50)) (by kernel_rfl) (fun hb => ?_) (fun hb => ?_)
        · replace h := cond_t hb h
          refine W.seq ?_
          refine W.regT [8, 2000000] [] [] [] (e2 := [(8, .bool false), O1 v10]) (by kernel_rfl) (by kernel_rfl) (fun _ h => h) ?_
          refine W.weak [8, 2000000] [] [] [] (env' := [(8, .bool false), O1 v10]) (by kernel_rfl) ?_
          have hr : PostM Try.prog Try.f101 (.bool false) [O1 v10] .ret [(8, .bool false), O1 v10] := ⟨by kernel_rfl, by kernel_rfl⟩
          cases h
          exact W.ret hr
        replace h := cond_f hb h
        refine W.skip ?_
        refine W.weak [0, 1, 2, 3, 9, 10, 2000000] [] [] [] (env' := [(0, S1 n2), (1, I6 a3), (2, I6 a4), (3, .clo F_g5 C_g5), (9, I6 v26), (10, I6 v12), O1 v10]) (by kernel_rfl) ?_
        refine W.seq ?_
        refine W.region (by kernel_rfl) ?_
        obtain ⟨hc34, h⟩ := chk_some h
        refine WO.pureK 8 (if (0 : Int) ≤ (W6 (v26 - 1)) ∧ (W6 (v26 - 1)) < ((n2 : Nat) : Int) then some (.pe 2000000 1 (0 + Int.toNat (W6 (v26 - 1))) 0) else none) (v := .pe 2000000 1 (0 + Int.toNat (W6 (v26 - 1))) 0) (by kernel_rfl) (ite_some hc34) (e1 := [(0, S1 n2), (1, I6 a3), (2, I6 a4), (3, .clo F_g5 C_g5), (9, I6 v26), (10, I6 v12), (46, S1 n2), (47, I6 v26), (48, S1 n2), (49, I6 v26), (50, I6 (W6 (v26 - 1))), (51, S1 n2), (52, I6 v26), (53, I6 (W6 (v26 - 1))), (54, .pe 2000000 1 (0 + Int.toNat (W6 (v26 - 1))) 0), O1 v10]) (by kernel_rfl) ?_
        obtain ⟨e35, he35, h⟩ := bind_some h
        refine WO.pureK 0 (match (List.map (AV.int .i64) v10)[(0 + Int.toNat (W6 (v26 - 1)))]? with | some y => cut Try.prog 3 (y.cells.map AV.strip) 0 | none => none) (v := I6 e35) (by kernel_rfl) ((pe_ld (f := (AV.int .i64)) (G := (fun y => cut Try.prog 3 (y.cells.map AV.strip) 0)) he35).trans (by kernel_rfl)) (e1 := [(0, S1 n2), (1, I6 a3), (2, I6 a4), (3, .clo F_g5 C_g5), (9, I6 v26), (10, I6 v12), (46, S1 n2), (47, I6 v26), (48, S1 n2), (49, I6 v26), (50, I6 (W6 (v26 - 1))), (51, S1 n2), (52, I6 v26), (53, I6 (W6 (v26 - 1))), (54, .pe 2000000 1 (0 + Int.toNat (W6 (v26 - 1))) 0), (55, I6 e35), O1 v10]) (by kernel_rfl) ?_
        obtain ⟨hc36, h⟩ := chk_some h
        refine WO.pureK 2 (if (0 : Int) ≤ v26 ∧ v26 < ((n2 : Nat) : Int) then some (.pe 2000000 1 (0 + Int.toNat v26) 0) else none) (v := .pe 2000000 1 (0 + Int.toNat v26) 0) (by kernel_rfl) (ite_some hc36) (e1 := [(0, S1 n2), (1, I6 a3), (2, I6 a4), (3, .clo F_g5 C_g5), (9, I6 v26), (10, I6 v12), (46, S1 n2), (47, I6 v26), (48, S1 n2), (49, I6 v26), (50, I6 (W6 (v26 - 1))), (51, S1 n2), (52, I6 v26), (53, I6 (W6 (v26 - 1))), (54, .pe 2000000 1 (0 + Int.toNat (W6 (v26 - 1))) 0), (55, I6 e35), (56, S1 n2), (57, I6 v26), (58, .pe 2000000 1 (0 + Int.toNat v26) 0), O1 v10]) (by kernel_rfl) ?_
        obtain ⟨e37, he37, h⟩ := bind_some h
        refine WO.pureK 0 (match (List.map (AV.int .i64) v10)[(0 + Int.toNat v26)]? with | some y => cut Try.prog 3 (y.cells.map AV.strip) 0 | none => none) (v := I6 e37) (by kernel_rfl) ((pe_ld (f := (AV.int .i64)) (G := (fun y => cut Try.prog 3 (y.cells.map AV.strip) 0)) he37).trans (by kernel_rfl)) (e1 := [(0, S1 n2), (1, I6 a3), (2, I6 a4), (3, .clo F_g5 C_g5), (9, I6 v26), (10, I6 v12), (46, S1 n2), (47, I6 v26), (48, S1 n2), (49, I6 v26), (50, I6 (W6 (v26 - 1))), (51, S1 n2), (52, I6 v26), (53, I6 (W6 (v26 - 1))), (54, .pe 2000000 1 (0 + Int.toNat (W6 (v26 - 1))) 0), (55, I6 e35), (56, S1 n2), (57, I6 v26), (58, .pe 2000000 1 (0 + Int.toNat v26) 0), (59, I6 e37), O1 v10]) (by kernel_rfl) ?_
        obtain ⟨hc38, h⟩ := chk_some h
        refine WO.pureK 0 (if (0 : Int) ≤ v26 ∧ v26 < ((n2 : Nat) : Int) then some (.pe 2000000 1 (0 + Int.toNat v26) 0) else none) (v := .pe 2000000 1 (0 + Int.toNat v26) 0) (by kernel_rfl) (ite_some hc38) (e1 := [(0, S1 n2), (1, I6 a3), (2, I6 a4), (3, .clo F_g5 C_g5), (9, I6 v26), (10, I6 v12), (46, S1 n2), (47, I6 v26), (48, S1 n2), (49, I6 v26), (50, I6 (W6 (v26 - 1))), (51, S1 n2), (52, I6 v26), (53, I6 (W6 (v26 - 1))), (54, .pe 2000000 1 (0 + Int.toNat (W6 (v26 - 1))) 0), (55, I6 e35), (56, S1 n2), (57, I6 v26), (58, .pe 2000000 1 (0 + Int.toNat v26) 0), (59, I6 e37), (60, .pe 2000000 1 (0 + Int.toNat v26) 0), O1 v10]) (by kernel_rfl) ?_
        obtain ⟨u39, hu39, h⟩ := bind_some h
        obtain ⟨y40, hyy40, hzy40⟩ := upd_some hu39
        refine WO.storeK 0 (id := 2000000) (e := 3) (s := 1) (j := (0 + Int.toNat v26)) (off := 0) (vs := [I6 e35]) (xs := (List.map (AV.int .i64) v10)) (zs := (List.map (AV.int .i64) u39)) (y := ((AV.int .i64)) y40) (y' := ((AV.int .i64)) e35) (by kernel_rfl) (upd_get hyy40) (by kernel_rfl) (upd_set hzy40) (e1 := [(0, S1 n2), (1, I6 a3), (2, I6 a4), (3, .clo F_g5 C_g5), (9, I6 v26), (10, I6 v12), (46, S1 n2), (47, I6 v26), (48, S1 n2), (49, I6 v26), (50, I6 (W6 (v26 - 1))), (51, S1 n2), (52, I6 v26), (53, I6 (W6 (v26 - 1))), (54, .pe 2000000 1 (0 + Int.toNat (W6 (v26 - 1))) 0), (55, I6 e35), (56, S1 n2), (57, I6 v26), (58, .pe 2000000 1 (0 + Int.toNat v26) 0), (59, I6 e37), (60, .pe 2000000 1 (0 + Int.toNat v26) 0), O1 u39]) (by kernel_rfl) ?_
        obtain ⟨hc41, h⟩ := chk_some h
        refine WO.pureK 0 (if (0 : Int) ≤ (W6 (v26 - 1)) ∧ (W6 (v26 - 1)) < ((n2 : Nat) : Int) then some (.pe 2000000 1 (0 + Int.toNat (W6 (v26 - 1))) 0) else none) (v := .pe 2000000 1 (0 + Int.toNat (W6 (v26 - 1))) 0) (by kernel_rfl) (ite_some hc41) (e1 := [(0, S1 n2), (1, I6 a3), (2, I6 a4), (3, .clo F_g5 C_g5), (9, I6 v26), (10, I6 v12), (46, S1 n2), (47, I6 v26), (48, S1 n2), (49, I6 v26), (50, I6 (W6 (v26 - 1))), (51, S1 n2), (52, I6 v26), (53, I6 (W6 (v26 - 1))), (54, .pe 2000000 1 (0 + Int.toNat (W6 (v26 - 1))) 0), (55, I6 e35), (56, S1 n2), (57, I6 v26), (58, .pe 2000000 1 (0 + Int.toNat v26) 0), (59, I6 e37), (60, .pe 2000000 1 (0 + Int.toNat v26) 0), (61, .pe 2000000 1 (0 + Int.toNat (W6 (v26 - 1))) 0), O1 u39]) (by kernel_rfl) ?_
        obtain ⟨u42, hu42, h⟩ := bind_some h
        obtain ⟨y43, hyy43, hzy43⟩ := upd_some hu42
        refine WO.storeK 0 (id := 2000000) (e := 3) (s := 1) (j := (0 + Int.toNat (W6 (v26 - 1)))) (off := 0) (vs := [I6 e37]) (xs := (List.map (AV.int .i64) u39)) (zs := (List.map (AV.int .i64) u42)) (y := ((AV.int .i64)) y43) (y' := ((AV.int .i64)) e37) (by kernel_rfl) (upd_get hyy43) (by kernel_rfl) (upd_set hzy43) (e1 := [(0, S1 n2), (1, I6 a3), (2, I6 a4), (3, .clo F_g5 C_g5), (9, I6 v26), (10, I6 v12), (46, S1 n2), (47, I6 v26), (48, S1 n2), (49, I6 v26), (50, I6 (W6 (v26 - 1))), (51, S1 n2), (52, I6 v26), (53, I6 (W6 (v26 - 1))), (54, .pe 2000000 1 (0 + Int.toNat (W6 (v26 - 1))) 0), (55, I6 e35), (56, S1 n2), (57, I6 v26), (58, .pe 2000000 1 (0 + Int.toNat v26) 0), (59, I6 e37), (60, .pe 2000000 1 (0 + Int.toNat v26) 0), (61, .pe 2000000 1 (0 + Int.toNat (W6 (v26 - 1))) 0), O1 u42]) (by kernel_rfl) ?_
        refine WO.fin [0, 1, 2, 3, 9, 10, 2000000] [] [] [] (e2 := [(0, S1 n2), (1, I6 a3), (2, I6 a4), (3, .clo F_g5 C_g5), (9, I6 v26), (10, I6 v12), O1 u42]) (by kernel_rfl) (fun _ h => h) ?_
        refine W.seq ?_
        refine W.join (σ := ((List Int))) (fun s => [(0, S1 n2), (1, I6 a3), (2, I6 a4), (3, .clo F_g5 C_g5), (9, I6 v26), (10, I6 v12), O1 s]) (fun s => (sl_partialInsertionSortCmpFunc_int_j44 fuel n2 a4 g5 v26 (sl_partialInsertionSortCmpFunc_int_j15 v12 (sl_partialInsertionSortCmpFunc_int_l1 fuel n2 a3 a4 g5 (sl_partialInsertionSortCmpFunc_int_j8) m1))) s = some r) (fun s h => ?_) (fun hK44 => ?_)
        · obtain ⟨v69, rfl⟩ : ∃ x, x = s := ⟨s, rfl⟩
          have h : (sl_partialInsertionSortCmpFunc_int_j44 fuel n2 a4 g5 v26 (sl_partialInsertionSortCmpFunc_int_j15 v12 (sl_partialInsertionSortCmpFunc_int_l1 fuel n2 a3 a4 g5 (sl_partialInsertionSortCmpFunc_int_j8) m1))) v69 = some r := h
          unfold sl_partialInsertionSortCmpFunc_int_j44 at h
          refine W.seq ?_
          refine W.regT [0, 1, 2, 3, 9, 10, 104, 2000000] [] [] [] (e2 := [(0, S1 n2), (1, I6 a3), (2, I6 a4), (3, .clo F_g5 C_g5), (9, I6 v26), (10, I6 v12), (104, .bool (decide ((W6 (a4 - v26)) ≥ 2))), O1 v69]) (by kernel_rfl) (by kernel_rfl) (fun _ h => h) ?_
          refine W.condB (decide ((W6 (a4 - v26)) ≥ 2)) (by kernel_rfl) (fun hb => ?_) (fun hb => ?_)
          · replace h := cond_t hb h
            refine W.seq ?_
            refine W.regT [0, 1, 2, 3, 9, 10, 12, 2000000] [] [] [] (e2 := [(0, S1 n2), (1, I6 a3), (2, I6 a4), (3, .clo F_g5 C_g5), (9, I6 v26), (10, I6 v12), (12, I6 (W6 (v26 + 1))), O1 v69]) (by kernel_rfl) (by kernel_rfl) (fun _ h => h) ?_
            refine W.block ?_
            refine W.weak [0, 1, 2, 3, 9, 10, 12, 2000000] [] [] [] (env' := [(0, S1 n2), (1, I6 a3), (2, I6 a4), (3, .clo F_g5 C_g5), (9, I6 v26), (10, I6 v12), (12, I6 (W6 (v26 + 1))), O1 v69]) (by kernel_rfl) ?_
            refine W.fuel (σ := ((List Int) × Int)) (fun s => [(0, S1 n2), (1, I6 a3), (2, I6 a4), (3, .clo F_g5 C_g5), (9, I6 v26), (10, I6 v12), (12, I6 s.2), (2000000, .obj 3 1 (List.map (AV.int .i64) s.1))]) (fun m0 s => sl_partialInsertionSortCmpFunc_int_l4 n2 a4 g5 v26 (sl_partialInsertionSortCmpFunc_int_j15 v12 (sl_partialInsertionSortCmpFunc_int_l1 fuel n2 a3 a4 g5 (sl_partialInsertionSortCmpFunc_int_j8) m1)) m0 s.1 s.2 = some r) (fun s h => ?_) (fun m4 s h hN4 => ?_) fuel (v69, (W6 (v26 + 1))) h
            · obtain ⟨v72, v73⟩ := s
              have h : sl_partialInsertionSortCmpFunc_int_l4 n2 a4 g5 v26 (sl_partialInsertionSortCmpFunc_int_j15 v12 (sl_partialInsertionSortCmpFunc_int_l1 fuel n2 a3 a4 g5 (sl_partialInsertionSortCmpFunc_int_j8) m1)) 0 v72 v73 = some r := h
              rw [sl_partialInsertionSortCmpFunc_int_l4.eq_1] at h
              cases h
            · obtain ⟨v72, v73⟩ := s
              have h : sl_partialInsertionSortCmpFunc_int_l4 n2 a4 g5 v26 (sl_partialInsertionSortCmpFunc_int_j15 v12 (sl_partialInsertionSortCmpFunc_int_l1 fuel n2 a3 a4 g5 (sl_partialInsertionSortCmpFunc_int_j8) m1)) (m4 + 1) v72 v73 = some r := h
              rw [sl_partialInsertionSortCmpFunc_int_l4.eq_2] at h
              refine W.seq ?_
              refine W.seq ?_
              refine W.regT [0, 1, 2, 3, 9, 10, 12, 109, 2000000] [] [] [] (e2 := [(0, S1 n2), (1, I6 a3), (2, I6 a4), (3, .clo F_g5 C_g5), (9, I6 v26), (10, I6 v12), (12, I6 v73), (109, .bool (decide (v73 < a4))), O1 v72]) (by kernel_rfl) (by kernel_rfl) (fun _ h => h) ?_
              refine W.condB (decide (v73 < a4)) (by kernel_rfl) (fun hb => ?_) (fun hb => ?_)
              · replace h := cond_t hb h
                refine W.skip ?_
                refine W.weak [0, 1, 2, 3, 9, 10, 12, 2000000] [] [] [] (env' := [(0, S1 n2), (1, I6 a3), (2, I6 a4), (3, .clo F_g5 C_g5), (9, I6 v26), (10, I6 v12), (12, I6 v73), O1 v72]) (by kernel_rfl) ?_
                refine W.seq ?_
                refine W.block ?_
                refine W.seq ?_
                refine W.seq ?_
                refine W.region (by kernel_rfl) ?_
                obtain ⟨hc79, h⟩ := chk_some h
                refine WO.pureK 3 (if (0 : Int) ≤ v73 ∧ v73 < ((n2 : Nat) : Int) then some (.pe 2000000 1 (0 + Int.toNat v73) 0) else none) (v := .pe 2000000 1 (0 + Int.toNat v73) 0) (by kernel_rfl) (ite_some hc79) (e1 := [(0, S1 n2), (1, I6 a3), (2, I6 a4), (3, .clo F_g5 C_g5), (9, I6 v26), (10, I6 v12), (12, I6 v73), (112, .clo F_g5 C_g5), (113, S1 n2), (114, I6 v73), (115, .pe 2000000 1 (0 + Int.toNat v73) 0), O1 v72]) (by kernel_rfl) ?_
                obtain ⟨e80, he80, h⟩ := bind_some h
                refine WO.pureK 0 (match (List.map (AV.int .i64) v72)[(0 + Int.toNat v73)]? with | some y => cut Try.prog 3 (y.cells.map AV.strip) 0 | none => none) (v := I6 e80) (by kernel_rfl) ((pe_ld (f := (AV.int .i64)) (G := (fun y => cut Try.prog 3 (y.cells.map AV.strip) 0)) he80).trans (by kernel_rfl)) (e1 := [(0, S1 n2), (1, I6 a3), (2, I6 a4), (3, .clo F_g5 C_g5), (9, I6 v26), (10, I6 v12), (12, I6 v73), (112, .clo F_g5 C_g5), (113, S1 n2), (114, I6 v73), (115, .pe 2000000 1 (0 + Int.toNat v73) 0), (116, I6 e80), O1 v72]) (by kernel_rfl) ?_
                obtain ⟨hc81, h⟩ := chk_some h
                refine WO.pureK 3 (if (0 : Int) ≤ (W6 (v73 - 1)) ∧ (W6 (v73 - 1)) < ((n2 : Nat) : Int) then some (.pe 2000000 1 (0 + Int.toNat (W6 (v73 - 1))) 0) else none) (v := .pe 2000000 1 (0 + Int.toNat (W6 (v73 - 1))) 0) (by kernel_rfl) (ite_some hc81) (e1 := [(0, S1 n2), (1, I6 a3), (2, I6 a4), (3, .clo F_g5 C_g5), (9, I6 v26), (10, I6 v12), (12, I6 v73), (112, .clo F_g5 C_g5), (113, S1 n2), (114, I6 v73), (115, .pe 2000000 1 (0 + Int.toNat v73) 0), (116, I6 e80), (117, S1 n2), (118, I6 v73), (119, I6 (W6 (v73 - 1))), (120, .pe 2000000 1 (0 + Int.toNat (W6 (v73 - 1))) 0), O1 v72]) (by kernel_rfl) ?_
                obtain ⟨e82, he82, h⟩ := bind_some h
                refine WO.pureK 0 (match (List.map (AV.int .i64) v72)[(0 + Int.toNat (W6 (v73 - 1)))]? with | some y => cut Try.prog 3 (y.cells.map AV.strip) 0 | none => none) (v := I6 e82) (by kernel_rfl) ((pe_ld (f := (AV.int .i64)) (G := (fun y => cut Try.prog 3 (y.cells.map AV.strip) 0)) he82).trans (by kernel_rfl)) (e1 := [(0, S1 n2), (1, I6 a3), (2, I6 a4), (3, .clo F_g5 C_g5), (9, I6 v26), (10, I6 v12), (12, I6 v73), (112, .clo F_g5 C_g5), (113, S1 n2), (114, I6 v73), (115, .pe 2000000 1 (0 + Int.toNat v73) 0), (116, I6 e80), (117, S1 n2), (118, I6 v73), (119, I6 (W6 (v73 - 1))), (120, .pe 2000000 1 (0 + Int.toNat (W6 (v73 - 1))) 0), (121, I6 e82), O1 v72]) (by kernel_rfl) ?_
                obtain ⟨w83, hw83, h⟩ := bind_some h
                refine WO.callK 0 (F := F_g5) (l := [I6 e80, I6 e82]) (C := C_g5) (r := I6 w83) (by kernel_rfl) hok_g5 (hrun_g5 e80 e82 w83 hw83) (e1 := [(0, S1 n2), (1, I6 a3), (2, I6 a4), (3, .clo F_g5 C_g5), (9, I6 v26), (10, I6 v12), (12, I6 v73), (112, .clo F_g5 C_g5), (113, S1 n2), (114, I6 v73), (115, .pe 2000000 1 (0 + Int.toNat v73) 0), (116, I6 e80), (117, S1 n2), (118, I6 v73), (119, I6 (W6 (v73 - 1))), (120, .pe 2000000 1 (0 + Int.toNat (W6 (v73 - 1))) 0), (121, I6 e82), (122, I6 w83), O1 v72]) (by kernel_rfl) ?_
                refine WO.fin [0, 1, 2, 3, 9, 10, 12, 124, 2000000] [] [] [] (e2 := [(0, S1 n2), (1, I6 a3), (2, I6 a4), (3, .clo F_g5 C_g5), (9, I6 v26), (10, I6 v12), (12, I6 v73), (124, .bool (!(decide (w83 < 0)))), O1 v72]) (by kernel_rfl) (fun _ h => h) ?_
                refine W.condB (!(decide (w83 < 0))) (by kernel_rfl) (fun hb => ?_) (fun hb => ?_)
                · replace h := cond_t hb h
                  refine W.exit ?_
                  refine W.weak [0, 1, 2, 3, 9, 10, 2000000] [] [] [] (env' := [(0, S1 n2), (1, I6 a3), (2, I6 a4), (3, .clo F_g5 C_g5), (9, I6 v26), (10, I6 v12), O1 v72]) (by kernel_rfl) ?_
                  exact hK15 (v72, v26) h
                replace h := cond_f hb h
                refine W.skip ?_
                refine W.weak [0, 1, 2, 3, 9, 10, 12, 2000000] [] [] [] (env' := [(0, S1 n2), (1, I6 a3), (2, I6 a4), (3, .clo F_g5 C_g5), (9, I6 v26), (10, I6 v12), (12, I6 v73), O1 v72]) (by kernel_rfl) ?_
                refine W.region (by kernel_rfl) ?_
                obtain ⟨hc84, h⟩ := chk_some h
                refine WO.pureK 8 (if (0 : Int) ≤ (W6 (v73 - 1)) ∧ (W6 (v73 - 1)) < ((n2 : Nat) : Int) then some (.pe 2000000 1 (0 + Int.toNat (W6 (v73 - 1))) 0) else none) (v := .pe 2000000 1 (0 + Int.toNat (W6 (v73 - 1))) 0) (by kernel_rfl) (ite_some hc84) (e1 := [(0, S1 n2), (1, I6 a3), (2, I6 a4), (3, .clo F_g5 C_g5), (9, I6 v26), (10, I6 v12), (12, I6 v73), (125, S1 n2), (126, I6 v73), (127, S1 n2), (128, I6 v73), (129, I6 (W6 (v73 - 1))), (130, S1 n2), (131, I6 v73), (132, I6 (W6 (v73 - 1))), (133, .pe 2000000 1 (0 + Int.toNat (W6 (v73 - 1))) 0), O1 v72]) (by kernel_rfl) ?_
                obtain ⟨e85, he85, h⟩ := bind_some h
                refine WO.pureK 0 (match (List.map (AV.int .i64) v72)[(0 + Int.toNat (W6 (v73 - 1)))]? with | some y => cut Try.prog 3 (y.cells.map AV.strip) 0 | none => none) (v := I6 e85) (by kernel_rfl) ((pe_ld (f := (AV.int .i64)) (G := (fun y => cut Try.prog 3 (y.cells.map AV.strip) 0)) he85).trans (by kernel_rfl)) (e1 := [(0, S1 n2), (1, I6 a3), (2, I6 a4), (3, .clo F_g5 C_g5), (9, I6 v26), (10, I6 v12), (12, I6 v73), (125, S1 n2), (126, I6 v73), (127, S1 n2), (128, I6 v73), (129, I6 (W6 (v73 - 1))), (130, S1 n2), (131, I6 v73), (132, I6 (W6 (v73 - 1))), (133, .pe 2000000 1 (0 + Int.toNat (W6 (v73 - 1))) 0), (134, I6 e85), O1 v72]) (by kernel_rfl) ?_
                obtain ⟨hc86, h⟩ := chk_some h
                refine WO.pureK 2 (if (0 : Int) ≤ v73 ∧ v73 < ((n2 : Nat) : Int) then some (.pe 2000000 1 (0 + Int.toNat v73) 0) else none) (v := .pe 2000000 1 (0 + Int.toNat v73) 0) (by kernel_rfl) (ite_some hc86) (e1 := [(0, S1 n2), (1, I6 a3), (2, I6 a4), (3, .clo F_g5 C_g5), (9, I6 v26), (10, I6 v12), (12, I6 v73), (125, S1 n2), (126, I6 v73), (127, S1 n2), (128, I6 v73), (129, I6 (W6 (v73 - 1))), (130, S1 n2), (131, I6 v73), (132, I6 (W6 (v73 - 1))), (133, .pe 2000000 1 (0 + Int.toNat (W6 (v73 - 1))) 0), (134, I6 e85), (135, S1 n2), (136, I6 v73), (137, .pe 2000000 1 (0 + Int.toNat v73) 0), O1 v72]) (by kernel_rfl) ?_
                obtain ⟨e87, he87, h⟩ := bind_some h
                refine WO.pureK 0 (match (List.map (AV.int .i64) v72)[(0 + Int.toNat v73)]? with | some y => cut Try.prog 3 (y.cells.map AV.strip) 0 | none => none) (v := I6 e87) (by kernel_rfl) ((pe_ld (f := (AV.int .i64)) (G := (fun y => cut Try.prog 3 (y.cells.map AV.strip) 0)) he87).trans (by kernel_rfl)) (e1 := [(0, S1 n2), (1, I6 a3), (2, I6 a4), (3, .clo F_g5 C_g5), (9, I6 v26), (10, I6 v12), (12, I6 v73), (125, S1 n2), (126, I6 v73), (127, S1 n2), (128, I6 v73), (129, I6 (W6 (v73 - 1))), (130, S1 n2), (131, I6 v73), (132, I6 (W6 (v73 - 1))), (133, .pe 2000000 1 (0 + Int.toNat (W6 (v73 - 1))) 0), (134, I6 e85), (135, S1 n2), (136, I6 v73), (137, .pe 2000000 1 (0 + Int.toNat v73) 0), (138, I6 e87), O1 v72]) (by kernel_rfl) ?_
                obtain ⟨hc88, h⟩ := chk_some h
                refine WO.pureK 0 (if (0 : Int) ≤ v73 ∧ v73 < ((n2 : Nat) : Int) then some (.pe 2000000 1 (0 + Int.toNat v73) 0) else none) (v := .pe 2000000 1 (0 + Int.toNat v73) 0) (by kernel_rfl) (ite_some hc88) (e1 := [(0, S1 n2), (1, I6 a3), (2, I6 a4), (3, .clo F_g5 C_g5), (9, I6 v26), (10, I6 v12), (12, I6 v73), (125, S1 n2), (126, I6 v73), (127, S1 n2), (128, I6 v73), (129, I6 (W6 (v73 - 1))), (130, S1 n2), (131, I6 v73), (132, I6 (W6 (v73 - 1))), (133, .pe 2000000 1 (0 + Int.toNat (W6 (v73 - 1))) 0), (134, I6 e85), (135, S1 n2), (136, I6 v73), (137, .pe 2000000 1 (0 + Int.toNat v73) 0), (138, I6 e87), (139, .pe 2000000 1 (0 + Int.toNat v73) 0), O1 v72]) (by kernel_rfl) ?_
                obtain ⟨u89, hu89, h⟩ := bind_some h
                obtain ⟨y90, hyy90, hzy90⟩ := upd_some hu89
                refine WO.storeK 0 (id := 2000000) (e := 3) (s := 1) (j := (0 + Int.toNat v73)) (off := 0) (vs := [I6 e85]) (xs := (List.map (AV.int .i64) v72)) (zs := (List.map (AV.int .i64) u89)) (y := ((AV.int .i64)) y90) (y' := ((AV.int .i64)) e85) (by kernel_rfl) (upd_get hyy90) (by kernel_rfl) (upd_set hzy90) (e1 := [(0, S1 n2), (1, I6 a3), (2, I6 a4), (3, .clo F_g5 C_g5), (9, I6 v26), (10, I6 v12), (12, I6 v73), (125, S1 n2), (126, I6 v73), (127, S1 n2), (128, I6 v73), (129, I6 (W6 (v73 - 1))), (130, S1 n2), (131, I6 v73), (132, I6 (W6 (v73 - 1))), (133, .pe 2000000 1 (0 + Int.toNat (W6 (v73 - 1))) 0), (134, I6 e85), (135, S1 n2), (136, I6 v73), (137, .pe 2000000 1 (0 + Int.toNat v73) 0), (138, I6 e87), (139, .pe 2000000 1 (0 + Int.toNat v73) 0), O1 u89]) (by kernel_rfl) ?_
                obtain ⟨hc91, h⟩ := chk_some h
                refine WO.pureK 0 (if (0 : Int) ≤ (W6 (v73 - 1)) ∧ (W6 (v73 - 1)) < ((n2 : Nat) : Int) then some (.pe 2000000 1 (0 + Int.toNat (W6 (v73 - 1))) 0) else none) (v := .pe 2000000 1 (0 + Int.toNat (W6 (v73 - 1))) 0) (by kernel_rfl) (ite_some hc91) (e1 := [(0, S1 n2), (1, I6 a3), (2, I6 a4), (3, .clo F_g5 C_g5), (9, I6 v26), (10, I6 v12), (12, I6 v73), (125, S1 n2), (126, I6 v73), (127, S1 n2), (128, I6 v73), (129, I6 (W6 (v73 - 1))), (130, S1 n2), (131, I6 v73), (132, I6 (W6 (v73 - 1))), (133, .pe 2000000 1 (0 + Int.toNat (W6 (v73 - 1))) 0), (134, I6 e85), (135, S1 n2), (136, I6 v73), (137, .pe 2000000 1 (0 + Int.toNat v73) 0), (138, I6 e87), (139, .pe 2000000 1 (0 + Int.toNat v73) 0), (140, .pe 2000000 1 (0 + Int.toNat (W6 (v73 - 1))) 0), O1 u89]) (by kernel_rfl) ?_
                obtain ⟨u92, hu92, h⟩ := bind_some h
                obtain ⟨y93, hyy93, hzy93⟩ := upd_some hu92
                refine WO.storeK 0 (id := 2000000) (e := 3) (s := 1) (j := (0 + Int.toNat (W6 (v73 - 1)))) (off := 0) (vs := [I6 e87]) (xs := (List.map (AV.int .i64) u89)) (zs := (List.map (AV.int .i64) u92)) (y := ((AV.int .i64)) y93) (y' := ((AV.int .i64)) e87) (by kernel_rfl) (upd_get hyy93) (by kernel_rfl) (upd_set hzy93) (e1 := [(0, S1 n2), (1, I6 a3), (2, I6 a4), (3, .clo F_g5 C_g5), (9, I6 v26), (10, I6 v12), (12, I6 v73), (125, S1 n2), (126, I6 v73), (127, S1 n2), (128, I6 v73), (129, I6 (W6 (v73 - 1))), (130, S1 n2), (131, I6 v73), (132, I6 (W6 (v73 - 1))), (133, .pe 2000000 1 (0 + Int.toNat (W6 (v73 - 1))) 0), (134, I6 e85), (135, S1 n2), (136, I6 v73), (137, .pe 2000000 1 (0 + Int.toNat v73) 0), (138, I6 e87), (139, .pe 2000000 1 (0 + Int.toNat v73) 0), (140, .pe 2000000 1 (0 + Int.toNat (W6 (v73 - 1))) 0), O1 u92]) (by kernel_rfl) ?_
                refine WO.fin [0, 1, 2, 3, 9, 10, 12, 2000000] [] [] [] (e2 := [(0, S1 n2), (1, I6 a3), (2, I6 a4), (3, .clo F_g5 C_g5), (9, I6 v26), (10, I6 v12), (12, I6 v73), O1 u92]) (by kernel_rfl) (fun _ h => h) ?_
                refine W.regT [0, 1, 2, 3, 9, 10, 12, 2000000] [] [] [] (e2 := [(0, S1 n2), (1, I6 a3), (2, I6 a4), (3, .clo F_g5 C_g5), (9, I6 v26), (10, I6 v12), (12, I6 (W6 (v73 + 1))), O1 u92]) (by kernel_rfl) (by kernel_rfl) (fun _ h => h) ?_
                exact hN4 (u92, (W6 (v73 + 1))) h
              replace h := cond_f hb h
              refine W.exit ?_
              refine W.weak [0, 1, 2, 3, 9, 10, 2000000] [] [] [] (env' := [(0, S1 n2), (1, I6 a3), (2, I6 a4), (3, .clo F_g5 C_g5), (9, I6 v26), (10, I6 v12), O1 v72]) (by kernel_rfl) ?_
              exact hK15 (v72, v26) h
          replace h := cond_f hb h
          refine W.skip ?_
          refine W.weak [0, 1, 2, 3, 9, 10, 2000000] [] [] [] (env' := [(0, S1 n2), (1, I6 a3), (2, I6 a4), (3, .clo F_g5 C_g5), (9, I6 v26), (10, I6 v12), O1 v69]) (by kernel_rfl) ?_
          exact hK15 (v69, v26) h
        refine W.seq ?_
        refine W.regT [0, 1, 2, 3, 9, 10, 65, 2000000] [] [] [] (e2 := [(0, S1 n2), (1, I6 a3), (2, I6 a4), (3, .clo F_g5 C_g5), (9, I6 v26), (10, I6 v12), (65, .bool (decide ((W6 (v26 - a3)) ≥ 2))), O1 u42]) (by kernel_rfl) (by kernel_rfl) (fun _ h => h) ?_
        refine W.condB (decide ((W6 (v26 - a3)) ≥ 2)) (by kernel_rfl) (fun hb => ?_) (fun hb => ?_)
        · replace h := cond_t hb h
          refine W.seq ?_
          refine W.regT [0, 1, 2, 3, 9, 10, 11, 2000000] [] [] [] (e2 := [(0, S1 n2), (1, I6 a3), (2, I6 a4), (3, .clo F_g5 C_g5), (9, I6 v26), (10, I6 v12), (11, I6 (W6 (v26 - 1))), O1 u42]) (by kernel_rfl) (by kernel_rfl) (fun _ h => h) ?_
          refine W.block ?_
          refine W.weak [0, 1, 2, 3, 9, 10, 11, 2000000] [] [] [] (env' := [(0, S1 n2), (1, I6 a3), (2, I6 a4), (3, .clo F_g5 C_g5), (9, I6 v26), (10, I6 v12), (11, I6 (W6 (v26 - 1))), O1 u42]) (by kernel_rfl) ?_
          refine W.fuel (σ := ((List Int) × Int)) (fun s => [(0, S1 n2), (1, I6 a3), (2, I6 a4), (3, .clo F_g5 C_g5), (9, I6 v26), (10, I6 v12), (11, I6 s.2), (2000000, .obj 3 1 (List.map (AV.int .i64) s.1))]) (fun m0 s => sl_partialInsertionSortCmpFunc_int_l3 n2 g5 (sl_partialInsertionSortCmpFunc_int_j44 fuel n2 a4 g5 v26 (sl_partialInsertionSortCmpFunc_int_j15 v12 (sl_partialInsertionSortCmpFunc_int_l1 fuel n2 a3 a4 g5 (sl_partialInsertionSortCmpFunc_int_j8) m1))) m0 s.1 s.2 = some r) (fun s h => ?_) (fun m3 s h hN3 => ?_) fuel (u42, (W6 (v26 - 1))) h
          · obtain ⟨v47, v48⟩ := s
            have h : sl_partialInsertionSortCmpFunc_int_l3 n2 g5 (sl_partialInsertionSortCmpFunc_int_j44 fuel n2 a4 g5 v26 (sl_partialInsertionSortCmpFunc_int_j15 v12 (sl_partialInsertionSortCmpFunc_int_l1 fuel n2 a3 a4 g5 (sl_partialInsertionSortCmpFunc_int_j8) m1))) 0 v47 v48 = some r := h
            rw [sl_partialInsertionSortCmpFunc_int_l3.eq_1] at h
            cases h
          · obtain ⟨v47, v48⟩ := s
            have h : sl_partialInsertionSortCmpFunc_int_l3 n2 g5 (sl_partialInsertionSortCmpFunc_int_j44 fuel n2 a4 g5 v26 (sl_partialInsertionSortCmpFunc_int_j15 v12 (sl_partialInsertionSortCmpFunc_int_l1 fuel n2 a3 a4 g5 (sl_partialInsertionSortCmpFunc_int_j8) m1))) (m3 + 1) v47 v48 = some r := h
            rw [sl_partialInsertionSortCmpFunc_int_l3.eq_2] at h
            refine W.seq ?_
            refine W.seq ?_
            refine W.regT [0, 1, 2, 3, 9, 10, 11, 69, 2000000] [] [] [] (e2 := [(0, S1 n2), (1, I6 a3), (2, I6 a4), (3, .clo F_g5 C_g5), (9, I6 v26), (10, I6 v12), (11, I6 v48), (69, .bool (decide (v48 ≥ 1))), O1 v47]) (by kernel_rfl) (by kernel_rfl) (fun _ h => h) ?_
            refine W.condB (decide (v48 ≥ 1)) (by kernel_rfl) (fun hb => ?_) (fun hb => ?_)
            · replace h := cond_t hb h
              refine W.skip ?_
              refine W.weak [0, 1, 2, 3, 9, 10, 11, 2000000] [] [] [] (env' := [(0, S1 n2), (1, I6 a3), (2, I6 a4), (3, .clo F_g5 C_g5), (9, I6 v26), (10, I6 v12), (11, I6 v48), O1 v47]) (by kernel_rfl) ?_
              refine W.seq ?_
              refine W.block ?_
              refine W.seq ?_
              refine W.seq ?_
              refine W.region (by kernel_rfl) ?_
              obtain ⟨hc54, h⟩ := chk_some h
              refine WO.pureK 3 (if (0 : Int) ≤ v48 ∧ v48 < ((n2 : Nat) : Int) then some (.pe 2000000 1 (0 + Int.toNat v48) 0) else none) (v := .pe 2000000 1 (0 + Int.toNat v48) 0) (by kernel_rfl) (ite_some hc54) (e1 := [(0, S1 n2), (1, I6 a3), (2, I6 a4), (3, .clo F_g5 C_g5), (9, I6 v26), (10, I6 v12), (11, I6 v48), (72, .clo F_g5 C_g5), (73, S1 n2), (74, I6 v48), (75, .pe 2000000 1 (0 + Int.toNat v48) 0), O1 v47]) (by kernel_rfl) ?_
              obtain ⟨e55, he55, h⟩ := bind_some h
              refine WO.pureK 0 (match (List.map (AV.int .i64) v47)[(0 + Int.toNat v48)]? with | some y => cut Try.prog 3 (y.cells.map AV.strip) 0 | none => none) (v := I6 e55) (by kernel_rfl) ((pe_ld (f := (AV.int .i64)) (G := (fun y => cut Try.prog 3 (y.cells.map AV.strip) 0)) he55).trans (by kernel_rfl)) (e1 := [(0, S1 n2), (1, I6 a3), (2, I6 a4), (3, .clo F_g5 C_g5), (9, I6 v26), (10, I6 v12), (11, I6 v48), (72, .clo F_g5 C_g5), (73, S1 n2), (74, I6 v48), (75, .pe 2000000 1 (0 + Int.toNat v48) 0), (76, I6 e55), O1 v47]) (by kernel_rfl) ?_
              obtain ⟨hc56, h⟩ := chk_some h
              refine WO.pureK 3 (if (0 : Int) ≤ (W6 (v48 - 1)) ∧ (W6 (v48 - 1)) < ((n2 : Nat) : Int) then some (.pe 2000000 1 (0 + Int.toNat (W6 (v48 - 1))) 0) else none) (v := .pe 2000000 1 (0 + Int.toNat (W6 (v48 - 1))) 0) (by kernel_rfl) (ite_some hc56) (e1 := [(0, S1 n2), (1, I6 a3), (2, I6 a4), (3, .clo F_g5 C_g5), (9, I6 v26), (10, I6 v12), (11, I6 v48), (72, .clo F_g5 C_g5), (73, S1 n2), (74, I6 v48), (75, .pe 2000000 1 (0 + Int.toNat v48) 0), (76, I6 e55), (77, S1 n2), (78, I6 v48), (79, I6 (W6 (v48 - 1))), (80, .pe 2000000 1 (0 + Int.toNat (W6 (v48 - 1))) 0), O1 v47]) (by kernel_rfl) ?_
              obtain ⟨e57, he57, h⟩ := bind_some h
              refine WO.pureK 0 (match (List.map (AV.int .i64) v47)[(0 + Int.toNat (W6 (v48 - 1)))]? with | some y => cut Try.prog 3 (y.cells.map AV.strip) 0 | none => none) (v := I6 e57) (by kernel_rfl) ((pe_ld (f := (AV.int .i64)) (G := (fun y => cut Try.prog 3 (y.cells.map AV.strip) 0)) he57).trans (by kernel_rfl)) (e1 := [(0, S1 n2), (1, I6 a3), (2, I6 a4), (3, .clo F_g5 C_g5), (9, I6 v26), (10, I6 v12), (11, I6 v48), (72, .clo F_g5 C_g5), (73, S1 n2), (74, I6 v48), (75, .pe 2000000 1 (0 + Int.toNat v48) 0), (76, I6 e55), (77, S1 n2), (78, I6 v48), (79, I6 (W6 (v48 - 1))), (80, .pe 2000000 1 (0 + Int.toNat (W6 (v48 - 1))) 0), (81, I6 e57), O1 v47]) (by kernel_rfl) ?_
              obtain ⟨w58, hw58, h⟩ := bind_some h
              refine WO.callK 0 (F := F_g5) (l := [I6 e55, I6 e57]) (C := C_g5) (r := I6 w58) (by kernel_rfl) hok_g5 (hrun_g5 e55 e57 w58 hw58) (e1 := [(0, S1 n2), (1, I6 a3), (2, I6 a4), (3, .clo F_g5 C_g5), (9, I6 v26), (10, I6 v12), (11, I6 v48), (72, .clo F_g5 C_g5), (73, S1 n2), (74, I6 v48), (75, .pe 2000000 1 (0 + Int.toNat v48) 0), (76, I6 e55), (77, S1 n2), (78, I6 v48), (79, I6 (W6 (v48 - 1))), (80, .pe 2000000 1 (0 + Int.toNat (W6 (v48 - 1))) 0), (81, I6 e57), (82, I6 w58), O1 v47]) (by kernel_rfl) ?_
              refine WO.fin [0, 1, 2, 3, 9, 10, 11, 84, 2000000] [] [] [] (e2 := [(0, S1 n2), (1, I6 a3), (2, I6 a4), (3, .clo F_g5 C_g5), (9, I6 v26), (10, I6 v12), (11, I6 v48), (84, .bool (!(decide (w58 < 0)))), O1 v47]) (by kernel_rfl) (fun _ h => h) ?_
              refine W.condB (!(decide (w58 < 0))) (by kernel_rfl) (fun hb => ?_) (fun hb => ?_)
              · replace h := cond_t hb h
                refine W.exit ?_
                refine W.weak [0, 1, 2, 3, 9, 10, 2000000] [] [] [] (env' := [(0, S1 n2), (1, I6 a3), (2, I6 a4), (3, .clo F_g5 C_g5), (9, I6 v26), (10, I6 v12), O1 v47]) (by kernel_rfl) ?_
                exact hK44 v47 h
              replace h := cond_f hb h
              refine W.skip ?_
              refine W.weak [0, 1, 2, 3, 9, 10, 11, 2000000] [] [] [] (env' := [(0, S1 n2), (1, I6 a3), (2, I6 a4), (3, .clo F_g5 C_g5), (9, I6 v26), (10, I6 v12), (11, I6 v48), O1 v47]) (by kernel_rfl) ?_
              refine W.region (by kernel_rfl) ?_
              obtain ⟨hc59, h⟩ := chk_some h
              refine WO.pureK 8 (if (0 : Int) ≤ (W6 (v48 - 1)) ∧ (W6 (v48 - 1)) < ((n2 : Nat) : Int) then some (.pe 2000000 1 (0 + Int.toNat (W6 (v48 - 1))) 0) else none) (v := .pe 2000000 1 (0 + Int.toNat (W6 (v48 - 1))) 0) (by kernel_rfl) (ite_some hc59) (e1 := [(0, S1 n2), (1, I6 a3), (2, I6 a4), (3, .clo F_g5 C_g5), (9, I6 v26), (10, I6 v12), (11, I6 v48), (85, S1 n2), (86, I6 v48), (87, S1 n2), (88, I6 v48), (89, I6 (W6 (v48 - 1))), (90, S1 n2), (91, I6 v48), (92, I6 (W6 (v48 - 1))), (93, .pe 2000000 1 (0 + Int.toNat (W6 (v48 - 1))) 0), O1 v47]) (by kernel_rfl) ?_
              obtain ⟨e60, he60, h⟩ := bind_some h
              refine WO.pureK 0 (match (List.map (AV.int .i64) v47)[(0 + Int.toNat (W6 (v48 - 1)))]? with | some y => cut Try.prog 3 (y.cells.map AV.strip) 0 | none => none) (v := I6 e60) (by kernel_rfl) ((pe_ld (f := (AV.int .i64)) (G := (fun y => cut Try.prog 3 (y.cells.map AV.strip) 0)) he60).trans (by kernel_rfl)) (e1 := [(0, S1 n2), (1, I6 a3), (2, I6 a4), (3, .clo F_g5 C_g5), (9, I6 v26), (10, I6 v12), (11, I6 v48), (85, S1 n2), (86, I6 v48), (87, S1 n2), (88, I6 v48), (89, I6 (W6 (v48 - 1))), (90, S1 n2), (91, I6 v48), (92, I6 (W6 (v48 - 1))), (93, .pe 2000000 1 (0 + Int.toNat (W6 (v48 - 1))) 0), (94, I6 e60), O1 v47]) (by kernel_rfl) ?_
              obtain ⟨hc61, h⟩ := chk_some h
              refine WO.pureK 2 (if (0 : Int) ≤ v48 ∧ v48 < ((n2 : Nat) : Int) then some (.pe 2000000 1 (0 + Int.toNat v48) 0) else none) (v := .pe 2000000 1 (0 + Int.toNat v48) 0) (by kernel_rfl) (ite_some hc61) (e1 := [(0, S1 n2), (1, I6 a3), (2, I6 a4), (3, .clo F_g5 C_g5), (9, I6 v26), (10, I6 v12), (11, I6 v48), (85, S1 n2), (86, I6 v48), (87, S1 n2), (88, I6 v48), (89, I6 (W6 (v48 - 1))), (90, S1 n2), (91, I6 v48), (92, I6 (W6 (v48 - 1))), (93, .pe 2000000 1 (0 + Int.toNat (W6 (v48 - 1))) 0), (94, I6 e60), (95, S1 n2), (96, I6 v48), (97, .pe 2000000 1 (0 + Int.toNat v48) 0), O1 v47]) (by kernel_rfl) ?_
              obtain ⟨e62, he62, h⟩ := bind_some h
              refine WO.pureK 0 (match (List.map (AV.int .i64) v47)[(0 + Int.toNat v48)]? with | some y => cut Try.prog 3 (y.cells.map AV.strip) 0 | none => none) (v := I6 e62) (by kernel_rfl) ((pe_ld (f := (AV.int .i64)) (G := (fun y => cut Try.prog 3 (y.cells.map AV.strip) 0)) he62).trans (by kernel_rfl)) (e1 := [(0, S1 n2), (1, I6 a3), (2, I6 a4), (3, .clo F_g5 C_g5), (9, I6 v26), (10, I6 v12), (11, I6 v48), (85, S1 n2), (86, I6 v48), (87, S1 n2), (88, I6 v48), (89, I6 (W6 (v48 - 1))), (90, S1 n2), (91, I6 v48), (92, I6 (W6 (v48 - 1))), (93, .pe 2000000 1 (0 + Int.toNat (W6 (v48 - 1))) 0), (94, I6 e60), (95, S1 n2), (96, I6 v48), (97, .pe 2000000 1 (0 + Int.toNat v48) 0), (98, I6 e62), O1 v47]) (by kernel_rfl) ?_
              obtain ⟨hc63, h⟩ := chk_some h
              refine WO.pureK 0 (if (0 : Int) ≤ v48 ∧ v48 < ((n2 : Nat) : Int) then some (.pe 2000000 1 (0 + Int.toNat v48) 0) else none) (v := .pe 2000000 1 (0 + Int.toNat v48) 0) (by kernel_rfl) (ite_some hc63) (e1 := [(0, S1 n2), (1, I6 a3), (2, I6 a4), (3, .clo F_g5 C_g5), (9, I6 v26), (10, I6 v12), (11, I6 v48), (85, S1 n2), (86, I6 v48), (87, S1 n2), (88, I6 v48), (89, I6 (W6 (v48 - 1))), (90, S1 n2), (91, I6 v48), (92, I6 (W6 (v48 - 1))), (93, .pe 2000000 1 (0 + Int.toNat (W6 (v48 - 1))) 0), (94, I6 e60), (95, S1 n2), (96, I6 v48), (97, .pe 2000000 1 (0 + Int.toNat v48) 0), (98, I6 e62), (99, .pe 2000000 1 (0 + Int.toNat v48) 0), O1 v47]) (by kernel_rfl) ?_
              obtain ⟨u64, hu64, h⟩ := bind_some h
              obtain ⟨y65, hyy65, hzy65⟩ := upd_some hu64
              refine WO.storeK 0 (id := 2000000) (e := 3) (s := 1) (j := (0 + Int.toNat v48)) (off := 0) (vs := [I6 e60]) (xs := (List.map (AV.int .i64) v47)) (zs := (List.map (AV.int .i64) u64)) (y := ((AV.int .i64)) y65) (y' := ((AV.int .i64)) e60) (by kernel_rfl) (upd_get hyy65) (by kernel_rfl) (upd_set hzy65) (e1 := [(0, S1 n2), (1, I6 a3), (2, I6 a4), (3, .clo F_g5 C_g5), (9, I6 v26), (10, I6 v12), (11, I6 v48), (85, S1 n2), (86, I6 v48), (87, S1 n2), (88, I6 v48), (89, I6 (W6 (v48 - 1))), (90, S1 n2), (91, I6 v48), (92, I6 (W6 (v48 - 1))), (93, .pe 2000000 1 (0 + Int.toNat (W6 (v48 - 1))) 0), (94, I6 e60), (95, S1 n2), (96, I6 v48), (97, .pe 2000000 1 (0 + Int.toNat v48) 0), (98, I6 e62), (99, .pe 2000000 1 (0 + Int.toNat v48) 0), O1 u64]) (by kernel_rfl) ?_
              obtain ⟨hc66, h⟩ := chk_some h
              refine WO.pureK 0 (if (0 : Int) ≤ (W6 (v48 - 1)) ∧ (W6 (v48 - 1)) < ((n2 : Nat) : Int) then some (.pe 2000000 1 (0 + Int.toNat (W6 (v48 - 1))) 0) else none) (v := .pe 2000000 1 (0 + Int.toNat (W6 (v48 - 1))) 0) (by kernel_rfl) (ite_some hc66) (e1 := [(0, S1 n2), (1, I6 a3), (2, I6 a4), (3, .clo F_g5 C_g5), (9, I6 v26), (10, I6 v12), (11, I6 v48), (85, S1 n2), (86, I6 v48), (87, S1 n2), (88, I6 v48), (89, I6 (W6 (v48 - 1))), (90, S1 n2), (91, I6 v48), (92, I6 (W6 (v48 - 1))), (93, .pe 2000000 1 (0 + Int.toNat (W6 (v48 - 1))) 0), (94, I6 e60), (95, S1 n2), (96, I6 v48), (97, .pe 2000000 1 (0 + Int.toNat v48) 0), (98, I6 e62), (99, .pe 2000000 1 (0 + Int.toNat v48) 0), (100, .pe 2000000 1 (0 + Int.toNat (W6 (v48 - 1))) 0), O1 u64]) (by kernel_rfl) ?_
              obtain ⟨u67, hu67, h⟩ := bind_some h
              obtain ⟨y68, hyy68, hzy68⟩ := upd_some hu67
              refine WO.storeK 0 (id := 2000000) (e := 3) (s := 1) (j := (0 + Int.toNat (W6 (v48 - 1)))) (off := 0) (vs := [I6 e62]) (xs := (List.map (AV.int .i64) u64)) (zs := (List.map (AV.int .i64) u67)) (y := ((AV.int .i64)) y68) (y' := ((AV.int .i64)) e62) (by kernel_rfl) (upd_get hyy68) (by kernel_rfl) (upd_set hzy68) (e1 := [(0, S1 n2), (1, I6 a3), (2, I6 a4), (3, .clo F_g5 C_g5), (9, I6 v26), (10, I6 v12), (11, I6 v48), (85, S1 n2), (86, I6 v48), (87, S1 n2), (88, I6 v48), (89, I6 (W6 (v48 - 1))), (90, S1 n2), (91, I6 v48), (92, I6 (W6 (v48 - 1))), (93, .pe 2000000 1 (0 + Int.toNat (W6 (v48 - 1))) 0), (94, I6 e60), (95, S1 n2), (96, I6 v48), (97, .pe 2000000 1 (0 + Int.toNat v48) 0), (98, I6 e62), (99, .pe 2000000 1 (0 + Int.toNat v48) 0), (100, .pe 2000000 1 (0 + Int.toNat (W6 (v48 - 1))) 0), O1 u67]) (by kernel_rfl) ?_
              refine WO.fin [0, 1, 2, 3, 9, 10, 11, 2000000] [] [] [] (e2 := [(0, S1 n2), (1, I6 a3), (2, I6 a4), (3, .clo F_g5 C_g5), (9, I6 v26), (10, I6 v12), (11, I6 v48), O1 u67]) (by kernel_rfl) (fun _ h => h) ?_
              refine W.regT [0, 1, 2, 3, 9, 10, 11, 2000000] [] [] [] (e2 := [(0, S1 n2), (1, I6 a3), (2, I6 a4), (3, .clo F_g5 C_g5), (9, I6 v26), (10, I6 v12), (11, I6 (W6 (v48 - 1))), O1 u67]) (by kernel_rfl) (by kernel_rfl) (fun _ h => h) ?_
              exact hN3 (u67, (W6 (v48 - 1))) h
            replace h := cond_f hb h
            refine W.exit ?_
            refine W.weak [0, 1, 2, 3, 9, 10, 2000000] [] [] [] (env' := [(0, S1 n2), (1, I6 a3), (2, I6 a4), (3, .clo F_g5 C_g5), (9, I6 v26), (10, I6 v12), O1 v47]) (by kernel_rfl) ?_
            exact hK44 v47 h
        replace h := cond_f hb h
        refine W.skip ?_
        refine W.weak [0, 1, 2, 3, 9, 10, 2000000] [] [] [] (env' := [(0, S1 n2), (1, I6 a3), (2, I6 a4), (3, .clo F_g5 C_g5), (9, I6 v26), (10, I6 v12), O1 u42]) (by kernel_rfl) ?_
        exact hK44 u42 h
      refine W.block ?_
      refine W.weak [0, 1, 2, 3, 9, 10, 2000000] [] [] [] (env' := [(0, S1 n2), (1, I6 a3), (2, I6 a4), (3, .clo F_g5 C_g5), (9, I6 v11), (10, I6 v12), O1 v10]) (by kernel_rfl) ?_
      refine W.fuel (σ := (Int)) (fun s => [(0, S1 n2), (1, I6 a3), (2, I6 a4), (3, .clo F_g5 C_g5), (9, I6 s), (10, I6 v12), O1 v10]) (fun m0 s => sl_partialInsertionSortCmpFunc_int_l2 n2 a4 g5 v10 (sl_partialInsertionSortCmpFunc_int_j16 fuel n2 a3 a4 g5 v10 (sl_partialInsertionSortCmpFunc_int_j15 v12 (sl_partialInsertionSortCmpFunc_int_l1 fuel n2 a3 a4 g5 (sl_partialInsertionSortCmpFunc_int_j8) m1))) m0 s = some r) (fun s h => ?_) (fun m2 s h hN2 => ?_) fuel v11 h
      · obtain ⟨v17, rfl⟩ : ∃ x, x = s := ⟨s, rfl⟩
        have h : sl_partialInsertionSortCmpFunc_int_l2 n2 a4 g5 v10 (sl_partialInsertionSortCmpFunc_int_j16 fuel n2 a3 a4 g5 v10 (sl_partialInsertionSortCmpFunc_int_j15 v12 (sl_partialInsertionSortCmpFunc_int_l1 fuel n2 a3 a4 g5 (sl_partialInsertionSortCmpFunc_int_j8) m1))) 0 v17 = some r := h
        rw [sl_partialInsertionSortCmpFunc_int_l2.eq_1] at h
        cases h
      · obtain ⟨v17, rfl⟩ : ∃ x, x = s := ⟨s, rfl⟩
        have h : sl_partialInsertionSortCmpFunc_int_l2 n2 a4 g5 v10 (sl_partialInsertionSortCmpFunc_int_j16 fuel n2 a3 a4 g5 v10 (sl_partialInsertionSortCmpFunc_int_j15 v12 (sl_partialInsertionSortCmpFunc_int_l1 fuel n2 a3 a4 g5 (sl_partialInsertionSortCmpFunc_int_j8) m1))) (m2 + 1) v17 = some r := h
        rw [sl_partialInsertionSortCmpFunc_int_l2.eq_2] at h
        refine W.seq ?_
        refine W.seq ?_
        refine W.join (σ := (Bool)) (fun s => [(0, S1 n2), (1, I6 a3), (2, I6 a4), (3, .clo F_g5 C_g5), (9, I6 v17), (10, I6 v12), (36, .bool s), O1 v10]) (fun s => (sl_partialInsertionSortCmpFunc_int_j19 v17 (sl_partialInsertionSortCmpFunc_int_l2 n2 a4 g5 v10 (sl_partialInsertionSortCmpFunc_int_j16 fuel n2 a3 a4 g5 v10 (sl_partialInsertionSortCmpFunc_int_j15 v12 (sl_partialInsertionSortCmpFunc_int_l1 fuel n2 a3 a4 g5 (sl_partialInsertionSortCmpFunc_int_j8) m1))) m2) (sl_partialInsertionSortCmpFunc_int_j16 fuel n2 a3 a4 g5 v10 (sl_partialInsertionSortCmpFunc_int_j15 v12 (sl_partialInsertionSortCmpFunc_int_l1 fuel n2 a3 a4 g5 (sl_partialInsertionSortCmpFunc_int_j8) m1)))) s = some r) (fun s h => ?_) (fun hK19 => ?_)
        · obtain ⟨v25, rfl⟩ : ∃ x, x = s := ⟨s, rfl⟩
          have h : (sl_partialInsertionSortCmpFunc_int_j19 v17 (sl_partialInsertionSortCmpFunc_int_l2 n2 a4 g5 v10 (sl_partialInsertionSortCmpFunc_int_j16 fuel n2 a3 a4 g5 v10 (sl_partialInsertionSortCmpFunc_int_j15 v12 (sl_partialInsertionSortCmpFunc_int_l1 fuel n2 a3 a4 g5 (sl_partialInsertionSortCmpFunc_int_j8) m1))) m2) (sl_partialInsertionSortCmpFunc_int_j16 fuel n2 a3 a4 g5 v10 (sl_partialInsertionSortCmpFunc_int_j15 v12 (sl_partialInsertionSortCmpFunc_int_l1 fuel n2 a3 a4 g5 (sl_partialInsertionSortCmpFunc_int_j8) m1)))) v25 = some r := h
          unfold sl_partialInsertionSortCmpFunc_int_j19 at h
          refine W.condB v25 (by kernel_rfl) (fun hb => ?_) (fun hb => ?_)
          · replace h := cond_t hb h
            refine W.skip ?_
            refine W.weak [0, 1, 2, 3, 9, 10, 2000000] [] [] [] (env' := [(0, S1 n2), (1, I6 a3), (2, I6 a4), (3, .clo F_g5 C_g5), (9, I6 v17), (10, I6 v12), O1 v10]) (by kernel_rfl) ?_
            refine W.block ?_
            refine W.regT [0, 1, 2, 3, 9, 10, 2000000] [] [] [] (e2 := [(0, S1 n2), (1, I6 a3), (2, I6 a4), (3, .clo F_g5 C_g5), (9, I6 (W6 (v17 + 1))), (10, I6 v12), O1 v10]) (by kernel_rfl) (by kernel_rfl) (fun _ h => h) ?_
            exact hN2 (W6 (v17 + 1)) h
          replace h := cond_f hb h
          refine W.exit ?_
          refine W.weak [0, 1, 2, 3, 9, 10, 2000000] [] [] [] (env' := [(0, S1 n2), (1, I6 a3), (2, I6 a4), (3, .clo F_g5 C_g5), (9, I6 v17), (10, I6 v12), O1 v10]) (by kernel_rfl) ?_
          exact hK16 v17 h
        refine W.region (by kernel_rfl) ?_
        refine WO.boolK 4 (fun b => [(0, S1 n2), (1, I6 a3), (2, I6 a4), (3, .clo F_g5 C_g5), (9, I6 v17), (10, I6 v12), (19, I6 v17), (20, I6 a4), (21, .bool b), (22, .bool b), O1 v10]) (decide (v17 < a4)) (by kernel_rfl) (fun hb => ?_) (fun hb => ?_)
        · replace h := cond_t hb h
          obtain ⟨hc20, h⟩ := chk_some h
          refine WO.pureK 3 (if (0 : Int) ≤ v17 ∧ v17 < ((n2 : Nat) : Int) then some (.pe 2000000 1 (0 + Int.toNat v17) 0) else none) (v := .pe 2000000 1 (0 + Int.toNat v17) 0) (by kernel_rfl) (ite_some hc20) (e1 := [(0, S1 n2), (1, I6 a3), (2, I6 a4), (3, .clo F_g5 C_g5), (9, I6 v17), (10, I6 v12), (19, I6 v17), (20, I6 a4), (21, .bool true), (22, .bool true), (23, .clo F_g5 C_g5), (24, S1 n2), (25, I6 v17), (26, .pe 2000000 1 (0 + Int.toNat v17) 0), O1 v10]) (by kernel_rfl) ?_
          obtain ⟨e21, he21, h⟩ := bind_some h
          refine WO.pureK 0 (match (List.map (AV.int .i64) v10)[(0 + Int.toNat v17)]? with | some y => cut Try.prog 3 (y.cells.map AV.strip) 0 | none => none) (v := I6 e21) (by kernel_rfl) ((pe_ld (f := (AV.int .i64)) (G := (fun y => cut Try.prog 3 (y.cells.map AV.strip) 0)) he21).trans (by kernel_rfl)) (e1 := [(0, S1 n2), (1, I6 a3), (2, I6 a4), (3, .clo F_g5 C_g5), (9, I6 v17), (10, I6 v12), (19, I6 v17), (20, I6 a4), (21, .bool true), (22, .bool true), (23, .clo F_g5 C_g5), (24, S1 n2), (25, I6 v17), (26, .pe 2000000 1 (0 + Int.toNat v17) 0), (27, I6 e21), O1 v10]) (by kernel_rfl) ?_
          obtain ⟨hc22, h⟩ := chk_some h
          refine WO.pureK 3 (if (0 : Int) ≤ (W6 (v17 - 1)) ∧ (W6 (v17 - 1)) < ((n2 : Nat) : Int) then some (.pe 2000000 1 (0 + Int.toNat (W6 (v17 - 1))) 0) else none) (v := .pe 2000000 1 (0 + Int.toNat (W6 (v17 - 1))) 0) (by kernel_rfl) (ite_some hc22) (e1 := [(0, S1 n2), (1, I6 a3), (2, I6 a4), (3, .clo F_g5 C_g5), (9, I6 v17), (10, I6 v12), (19, I6 v17), (20, I6 a4), (21, .bool true), (22, .bool true), (23, .clo F_g5 C_g5), (24, S1 n2), (25, I6 v17), (26, .pe 2000000 1 (0 + Int.toNat v17) 0), (27, I6 e21), (28, S1 n2), (29, I6 v17), (30, I6 (W6 (v17 - 1))), (31, .pe 2000000 1 (0 + Int.toNat (W6 (v17 - 1))) 0), O1 v10]) (by kernel_rfl) ?_
          obtain ⟨e23, he23, h⟩ := bind_some h
          refine WO.pureK 0 (match (List.map (AV.int .i64) v10)[(0 + Int.toNat (W6 (v17 - 1)))]? with | some y => cut Try.prog 3 (y.cells.map AV.strip) 0 | none => none) (v := I6 e23) (by kernel_rfl) ((pe_ld (f := (AV.int .i64)) (G := (fun y => cut Try.prog 3 (y.cells.map AV.strip) 0)) he23).trans (by kernel_rfl)) (e1 := [(0, S1 n2), (1, I6 a3), (2, I6 a4), (3, .clo F_g5 C_g5), (9, I6 v17), (10, I6 v12), (19, I6 v17), (20, I6 a4), (21, .bool true), (22, .bool true), (23, .clo F_g5 C_g5), (24, S1 n2), (25, I6 v17), (26, .pe 2000000 1 (0 + Int.toNat v17) 0), (27, I6 e21), (28, S1 n2), (29, I6 v17), (30, I6 (W6 (v17 - 1))), (31, .pe 2000000 1 (0 + Int.toNat (W6 (v17 - 1))) 0), (32, I6 e23), O1 v10]) (by kernel_rfl) ?_
          obtain ⟨w24, hw24, h⟩ := bind_some h
          refine WO.callK 0 (F := F_g5) (l := [I6 e21, I6 e23]) (C := C_g5) (r := I6 w24) (by kernel_rfl) hok_g5 (hrun_g5 e21 e23 w24 hw24) (e1 := [(0, S1 n2), (1, I6 a3), (2, I6 a4), (3, .clo F_g5 C_g5), (9, I6 v17), (10, I6 v12), (19, I6 v17), (20, I6 a4), (21, .bool true), (22, .bool true), (23, .clo F_g5 C_g5), (24, S1 n2), (25, I6 v17), (26, .pe 2000000 1 (0 + Int.toNat v17) 0), (27, I6 e21), (28, S1 n2), (29, I6 v17), (30, I6 (W6 (v17 - 1))), (31, .pe 2000000 1 (0 + Int.toNat (W6 (v17 - 1))) 0), (32, I6 e23), (33, I6 w24), O1 v10]) (by kernel_rfl) ?_
          refine WO.fin [0, 1, 2, 3, 9, 10, 36, 2000000] [] [] [] (e2 := [(0, S1 n2), (1, I6 a3), (2, I6 a4), (3, .clo F_g5 C_g5), (9, I6 v17), (10, I6 v12), (36, .bool (!(decide (w24 < 0)))), O1 v10]) (by kernel_rfl) (fun _ h => h) ?_
          exact hK19 (!(decide (w24 < 0))) h
        replace h := cond_f hb h
        refine WO.fin [0, 1, 2, 3, 9, 10, 36, 2000000] [] [] [] (e2 := [(0, S1 n2), (1, I6 a3), (2, I6 a4), (3, .clo F_g5 C_g5), (9, I6 v17), (10, I6 v12), (36, .bool false), O1 v10]) (by kernel_rfl) (fun _ h => h) ?_
        exact hK19 false h
    replace h := cond_f hb h
    refine W.exit ?_
    refine W.weak [2000000] [] [] [] (env' := [O1 v10]) (by kernel_rfl) ?_
    exact hK8 v10 h
def sl_partitionEqualCmpFunc_int_j20 (v60 : (List Int)) (v61 : Int) : Option (Int × (List Int)) :=
  (some (v61, v60))
def sl_partitionEqualCmpFunc_int_j35 (n2 : Nat) (v21 : (List Int)) (v34 : Int) (N1 : ((List Int) → Int → Int → Option (Int × (List Int)))) (K20 : ((List Int) → Int → Option (Int × (List Int)))) (v45 : Int) : Option (Int × (List Int)) :=
  (bif (decide (v34 > v45)) then (K20 v21 v34) else (chk (decide ((0 : Int) ≤ v45 ∧ v45 < ((n2 : Nat) : Int))) ((v21[(0 + Int.toNat v45)]?).bind fun e50 => (chk (decide ((0 : Int) ≤ v34 ∧ v34 < ((n2 : Nat) : Int))) ((v21[(0 + Int.toNat v34)]?).bind fun e52 => (chk (decide ((0 : Int) ≤ v34 ∧ v34 < ((n2 : Nat) : Int))) ((upd v21 (0 + Int.toNat v34) e50).bind fun u54 => (chk (decide ((0 : Int) ≤ v45 ∧ v45 < ((n2 : Nat) : Int))) ((upd u54 (0 + Int.toNat v45) e52).bind fun u57 => (N1 u57 (IntKind.wrap .i64 (v34 + 1)) (IntKind.wrap .i64 (v45 - 1))))))))))))
def sl_partitionEqualCmpFunc_int_j38 (v36 : Int) (N3 : (Int → Option (Int × (List Int)))) (K35 : (Int → Option (Int × (List Int)))) (v44 : Bool) : Option (Int × (List Int)) :=
  (bif v44 then (N3 (IntKind.wrap .i64 (v36 - 1))) else (K35 v36))
def sl_partitionEqualCmpFunc_int_l3 (n2 : Nat) (a3 : Int) (g6 : (Int → Int → Option Int)) (v21 : (List Int)) (v34 : Int) (K35 : (Int → Option (Int × (List Int)))) : Nat → Int → Option (Int × (List Int))
  | 0, _ => none
  | m3 + 1, v36 => (bif (decide (v34 ≤ v36)) then (chk (decide ((0 : Int) ≤ a3 ∧ a3 < ((n2 : Nat) : Int))) ((v21[(0 + Int.toNat a3)]?).bind fun e40 => (chk (decide ((0 : Int) ≤ v36 ∧ v36 < ((n2 : Nat) : Int))) ((v21[(0 + Int.toNat v36)]?).bind fun e42 => ((g6 e40 e42).bind fun w43 => ((sl_partitionEqualCmpFunc_int_j38 v36 (sl_partitionEqualCmpFunc_int_l3 n2 a3 g6 v21 v34 K35 m3) K35) (decide (w43 < 0)))))))) else ((sl_partitionEqualCmpFunc_int_j38 v36 (sl_partitionEqualCmpFunc_int_l3 n2 a3 g6 v21 v34 K35 m3) K35) false))
def sl_partitionEqualCmpFunc_int_j24 (fuel : Nat) (n2 : Nat) (a3 : Int) (g6 : (Int → Int → Option Int)) (v21 : (List Int)) (v23 : Int) (N1 : ((List Int) → Int → Int → Option (Int × (List Int)))) (K20 : ((List Int) → Int → Option (Int × (List Int)))) (v34 : Int) : Option (Int × (List Int)) :=
  (sl_partitionEqualCmpFunc_int_l3 n2 a3 g6 v21 v34 (sl_partitionEqualCmpFunc_int_j35 n2 v21 v34 N1 K20) fuel v23)
def sl_partitionEqualCmpFunc_int_j27 (v25 : Int) (N2 : (Int → Option (Int × (List Int)))) (K24 : (Int → Option (Int × (List Int)))) (v33 : Bool) : Option (Int × (List Int)) :=
  (bif v33 then (N2 (IntKind.wrap .i64 (v25 + 1))) else (K24 v25))
def sl_partitionEqualCmpFunc_int_l2 (n2 : Nat) (a3 : Int) (g6 : (Int → Int → Option Int)) (v21 : (List Int)) (v23 : Int) (K24 : (Int → Option (Int × (List Int)))) : Nat → Int → Option (Int × (List Int))
  | 0, _ => none
  | m2 + 1, v25 => (bif (decide (v25 ≤ v23)) then (chk (decide ((0 : Int) ≤ a3 ∧ a3 < ((n2 : Nat) : Int))) ((v21[(0 + Int.toNat a3)]?).bind fun e29 => (chk (decide ((0 : Int) ≤ v25 ∧ v25 < ((n2 : Nat) : Int))) ((v21[(0 + Int.toNat v25)]?).bind fun e31 => ((g6 e29 e31).bind fun w32 => ((sl_partitionEqualCmpFunc_int_j27 v25 (sl_partitionEqualCmpFunc_int_l2 n2 a3 g6 v21 v23 K24 m2) K24) (!(decide (w32 < 0))))))))) else ((sl_partitionEqualCmpFunc_int_j27 v25 (sl_partitionEqualCmpFunc_int_l2 n2 a3 g6 v21 v23 K24 m2) K24) false))
def sl_partitionEqualCmpFunc_int_l1 (fuel : Nat) (n2 : Nat) (a3 : Int) (g6 : (Int → Int → Option Int)) (K20 : ((List Int) → Int → Option (Int × (List Int)))) : Nat → (List Int) → Int → Int → Option (Int × (List Int))
  | 0, _, _, _ => none
  | m1 + 1, v21, v22, v23 => (sl_partitionEqualCmpFunc_int_l2 n2 a3 g6 v21 v23 (sl_partitionEqualCmpFunc_int_j24 fuel n2 a3 g6 v21 v23 (sl_partitionEqualCmpFunc_int_l1 fuel n2 a3 g6 K20 m1) K20) fuel v22)
def sl_partitionEqualCmpFunc_int (fuel : Nat) (a1 : (List Int)) (n2 : Nat) (a3 : Int) (a4 : Int) (a5 : Int) (g6 : (Int → Int → Option Int)) : Option (Int × (List Int)) :=
  (chk (decide ((0 : Int) ≤ a5 ∧ a5 < ((n2 : Nat) : Int))) ((a1[(0 + Int.toNat a5)]?).bind fun e10 => (chk (decide ((0 : Int) ≤ a3 ∧ a3 < ((n2 : Nat) : Int))) ((a1[(0 + Int.toNat a3)]?).bind fun e12 => (chk (decide ((0 : Int) ≤ a3 ∧ a3 < ((n2 : Nat) : Int))) ((upd a1 (0 + Int.toNat a3) e10).bind fun u14 => (chk (decide ((0 : Int) ≤ a5 ∧ a5 < ((n2 : Nat) : Int))) ((upd u14 (0 + Int.toNat a5) e12).bind fun u17 => (sl_partitionEqualCmpFunc_int_l1 fuel n2 a3 g6 (sl_partitionEqualCmpFunc_int_j20) fuel u17 (IntKind.wrap .i64 (a3 + 1)) (IntKind.wrap .i64 (a4 - 1)))))))))))
theorem run_sl_partitionEqualCmpFunc_int (fuel : Nat) (a1 : (List Int)) (n2 : Nat) (a3 : Int) (a4 : Int) (a5 : Int) (g6 : (Int → Int → Option Int)) (F_g6 : Nat) (C_g6 : List AV) (hok_g6 : okFn Try.prog F_g6 = true) (hrun_g6 : ∀ (x0 : Int) (x1 : Int) r, g6 x0 x1 = some r → Run Try.prog (.call F_g6 ([I6 x0, I6 x1] ++ C_g6) (I6 r))) (r : (Int × (List Int))) (h : sl_partitionEqualCmpFunc_int fuel a1 n2 a3 a4 a5 g6 = some r) : Run Try.prog (.callM 102 [S1 n2, I6 a3, I6 a4, I6 a5, .clo F_g6 C_g6] [O1 a1] (I6 r.1) [(2000000, .obj 3 1 (List.map (AV.int .i64) r.2))]) := by
  refine callM_of_W Try.func102 rfl (by kernel_rfl) (env0 := [(0, S1 n2), (1, I6 a3), (2, I6 a4), (3, I6 a5), (4, .clo F_g6 C_g6), O1 a1]) (by kernel_rfl) ?_
  unfold sl_partitionEqualCmpFunc_int at h
  refine W.seq ?_
  refine W.regT [0, 1, 2, 3, 4, 2000000] [] [] [] (e2 := [(0, S1 n2), (1, I6 a3), (2, I6 a4), (3, I6 a5), (4, .clo F_g6 C_g6), O1 a1]) (by kernel_rfl) (by kernel_rfl) (fun _ h => h) ?_
  refine W.seq ?_
  refine W.region (by kernel_rfl) ?_
  obtain ⟨hc9, h⟩ := chk_some h
  refine WO.pureK 6 (if (0 : Int) ≤ a5 ∧ a5 < ((n2 : Nat) : Int) then some (.pe 2000000 1 (0 + Int.toNat a5) 0) else none) (v := .pe 2000000 1 (0 + Int.toNat a5) 0) (by kernel_rfl) (ite_some hc9) (e1 := [(0, S1 n2), (1, I6 a3), (2, I6 a4), (3, I6 a5), (4, .clo F_g6 C_g6), (13, S1 n2), (14, I6 a3), (15, S1 n2), (16, I6 a5), (17, S1 n2), (18, I6 a5), (19, .pe 2000000 1 (0 + Int.toNat a5) 0), O1 a1]) (by kernel_rfl) ?_
  obtain ⟨e10, he10, h⟩ := bind_some h
  refine WO.pureK 0 (match (List.map (AV.int .i64) a1)[(0 + Int.toNat a5)]? with | some y => cut Try.prog 3 (y.cells.map AV.strip) 0 | none => none) (v := I6 e10) (by kernel_rfl) ((pe_ld (f := (AV.int .i64)) (G := (fun y => cut Try.prog 3 (y.cells.map AV.strip) 0)) he10).trans (by kernel_rfl)) (e1 := [(0, S1 n2), (1, I6 a3), (2, I6 a4), (3, I6 a5), (4, .clo F_g6 C_g6), (13, S1 n2), (14, I6 a3), (15, S1 n2), (16, I6 a5), (17, S1 n2), (18, I6 a5), (19, .pe 2000000 1 (0 + Int.toNat a5) 0), (20, I6 e10), O1 a1]) (by kernel_rfl) ?_
  obtain ⟨hc11, h⟩ := chk_some h
  refine WO.pureK 2 (if (0 : Int) ≤ a3 ∧ a3 < ((n2 : Nat) : Int) then some (.pe 2000000 1 (0 + Int.toNat a3) 0) else none) (v := .pe 2000000 1 (0 + Int.toNat a3) 0) (by kernel_rfl) (ite_some hc11) (e1 := [(0, S1 n2), (1, I6 a3), (2, I6 a4), (3, I6 a5), (4, .clo F_g6 C_g6), (13, S1 n2), (14, I6 a3), (15, S1 n2), (16, I6 a5), (17, S1 n2), (18, I6 a5), (19, .pe 2000000 1 (0 + Int.toNat a5) 0), (20, I6 e10), (21, S1 n2), (22, I6 a3), (23, .pe 2000000 1 (0 + Int.toNat a3) 0), O1 a1]) (by kernel_rfl) ?_
  obtain ⟨e12, he12, h⟩ := bind_some h
  refine WO.pureK 0 (match (List.map (AV.int .i64) a1)[(0 + Int.toNat a3)]? with | some y => cut Try.prog 3 (y.cells.map AV.strip) 0 | none => none) (v := I6 e12) (by kernel_rfl) ((pe_ld (f := (AV.int .i64)) (G := (fun y => cut Try.prog 3 (y.cells.map AV.strip) 0)) he12).trans (by kernel_rfl)) (e1 := [(0, S1 n2), (1, I6 a3), (2, I6 a4), (3, I6 a5), (4, .clo F_g6 C_g6), (13, S1 n2), (14, I6 a3), (15, S1 n2), (16, I6 a5), (17, S1 n2), (18, I6 a5), (19, .pe 2000000 1 (0 + Int.toNat a5) 0), (20, I6 e10), (21, S1 n2), (22, I6 a3), (23, .pe 2000000 1 (0 + Int.toNat a3) 0), (24, I6 e12), O1 a1]) (by kernel_rfl) ?_
  obtain ⟨hc13, h⟩ := chk_some h
  refine WO.pureK 0 (if (0 : Int) ≤ a3 ∧ a3 < ((n2 : Nat) : Int) then some (.pe 2000000 1 (0 + Int.toNat a3) 0) else none) (v := .pe 2000000 1 (0 + Int.toNat a3) 0) (by kernel_rfl) (ite_some hc13) (e1 := [(0, S1 n2), (1, I6 a3), (2, I6 a4), (3, I6 a5), (4, .clo F_g6 C_g6), (13, S1 n2), (14, I6 a3), (15, S1 n2), (16, I6 a5), (17, S1 n2), (18, I6 a5), (19, .pe 2000000 1 (0 + Int.toNat a5) 0), (20, I6 e10), (21, S1 n2), (22, I6 a3), (23, .pe 2000000 1 (0 + Int.toNat a3) 0), (24, I6 e12), (25, .pe 2000000 1 (0 + Int.toNat a3) 0), O1 a1]) (by kernel_rfl) ?_
  obtain ⟨u14, hu14, h⟩ := bind_some h
  obtain ⟨y15, hyy15, hzy15⟩ := upd_some hu14
  refine WO.storeK 0 (id := 2000000) (e := 3) (s := 1) (j := (0 + Int.toNat a3)) (off := 0) (vs := [I6 e10]) (xs := (List.map (AV.int .i64) a1)) (zs := (List.map (AV.int .i64) u14)) (y := ((AV.int .i64)) y15) (y' := ((AV.int .i64)) e10) (by kernel_rfl) (upd_get hyy15) (by kernel_rfl) (upd_set hzy15) (e1 := [(0, S1 n2), (1, I6 a3), (2, I6 a4), (3, I6 a5), (4, .clo F_g6 C_g6), (13, S1 n2), (14, I6 a3), (15, S1 n2), (16, I6 a5), (17, S1 n2), (18, I6 a5), (19, .pe 2000000 1 (0 + Int.toNat a5) 0), (20, I6 e10), (21, S1 n2), (22, I6 a3), (23, .pe 2000000 1 (0 + Int.toNat a3) 0), (24, I6 e12), (25, .pe 2000000 1 (0 + Int.toNat a3) 0), O1 u14]) (by kernel_rfl) ?_
  obtain ⟨hc16, h⟩ := chk_some h
  refine WO.pureK 0 (if (0 : Int) ≤ a5 ∧ a5 < ((n2 : Nat) : Int) then some (.pe 2000000 1 (0 + Int.toNat a5) 0) else none) (v := .pe 2000000 1 (0 + Int.toNat a5) 0) (by kernel_rfl) (ite_some hc16) (e1 := [(0, S1 n2), (1, I6 a3), (2, I6 a4), (3, I6 a5), (4, .clo F_g6 C_g6), (13, S1 n2), (14, I6 a3), (15, S1 n2), (16, I6 a5), (17, S1 n2), (18, I6 a5), (19, .pe 2000000 1 (0 + Int.toNat a5) 0), (20, I6 e10), (21, S1 n2), (22, I6 a3), (23, .pe 2000000 1 (0 + Int.toNat a3) 0), (24, I6 e12), (25, .pe 2000000 1 (0 + Int.toNat a3) 0), (26, .pe 2000000 1 (0 + Int.toNat a5) 0), O1 u14]) (by kernel_rfl) ?_
  obtain ⟨u17, hu17, h⟩ := bind_some h
  obtain ⟨y18, hyy18, hzy18⟩ := upd_some hu17
  refine WO.storeK 0 (id := 2000000) (e := 3) (s := 1) (j := (0 + Int.toNat a5)) (off := 0) (vs := [I6 e12]) (xs := (List.map (AV.int .i64) u14)) (zs := (List.map (AV.int .i64) u17)) (y := ((AV.int .i64)) y18) (y' := ((AV.int .i64)) e12) (by kernel_rfl) (upd_get hyy18) (by kernel_rfl) (upd_set hzy18) (e1 := [(0, S1 n2), (1, I6 a3), (2, I6 a4), (3, I6 a5), (4, .clo F_g6 C_g6), (13, S1 n2), (14, I6 a3), (15, S1 n2), (16, I6 a5), (17, S1 n2), (18, I6 a5), (19, .pe 2000000 1 (0 + Int.toNat a5) 0), (20, I6 e10), (21, S1 n2), (22, I6 a3), (23, .pe 2000000 1 (0 + Int.toNat a3) 0), (24, I6 e12), (25, .pe 2000000 1 (0 + Int.toNat a3) 0), (26, .pe 2000000 1 (0 + Int.toNat a5) 0), O1 u17]) (by kernel_rfl) ?_
  refine WO.fin [0, 1, 2, 4, 2000000] [] [] [] (e2 := [(0, S1 n2), (1, I6 a3), (2, I6 a4), (4, .clo F_g6 C_g6), O1 u17]) (by kernel_rfl) (fun _ h => h) ?_
  refine W.seq ?_
  refine W.regT [0, 1, 4, 11, 12, 2000000] [] [] [] (e2 := [(0, S1 n2), (1, I6 a3), (4, .clo F_g6 C_g6), (11, I6 (W6 (a3 + 1))), (12, I6 (W6 (a4 - 1))), O1 u17]) (by kernel_rfl) (by kernel_rfl) (fun _ h => h) ?_
  refine W.seq ?_
  refine W.join (σ := ((List Int) × Int)) (fun s => [(11, I6 s.2), (2000000, .obj 3 1 (List.map (AV.int .i64) s.1))]) (fun s => (sl_partitionEqualCmpFunc_int_j20) s.1 s.2 = some r) (fun s h => ?_) (fun hK20 => ?_)
  · obtain ⟨v60, v61⟩ := s
    have h : (sl_partitionEqualCmpFunc_int_j20) v60 v61 = some r := h
    unfold sl_partitionEqualCmpFunc_int_j20 at h
    refine W.seq ?_
    refine W.regT [10, 2000000] [] [] [] (e2 := [(10, I6 v61), O1 v60]) (by kernel_rfl) (by kernel_rfl) (fun _ h => h) ?_
    refine W.weak [10, 2000000] [] [] [] (env' := [(10, I6 v61), O1 v60]) (by kernel_rfl) ?_
    have hr : PostM Try.prog Try.f102 (I6 v61) [O1 v60] .ret [(10, I6 v61), O1 v60] := ⟨by kernel_rfl, by kernel_rfl⟩
    cases h
    exact W.ret hr
  refine W.block ?_
  refine W.weak [0, 1, 4, 11, 12, 2000000] [] [] [] (env' := [(0, S1 n2), (1, I6 a3), (4, .clo F_g6 C_g6), (11, I6 (W6 (a3 + 1))), (12, I6 (W6 (a4 - 1))), O1 u17]) (by kernel_rfl) ?_
  refine W.fuel (σ := ((List Int) × Int × Int)) (fun s => [(0, S1 n2), (1, I6 a3), (4, .clo F_g6 C_g6), (11, I6 s.2.1), (12, I6 s.2.2), (2000000, .obj 3 1 (List.map (AV.int .i64) s.1))]) (fun m0 s => sl_partitionEqualCmpFunc_int_l1 fuel n2 a3 g6 (sl_partitionEqualCmpFunc_int_j20) m0 s.1 s.2.1 s.2.2 = some r) (fun s h => ?_) (fun m1 s h hN1 => ?_) fuel (u17, (W6 (a3 + 1)), (W6 (a4 - 1))) h
  · obtain ⟨v21, v22, v23⟩ := s
    have h : sl_partitionEqualCmpFunc_int_l1 fuel n2 a3 g6 (sl_partitionEqualCmpFunc_int_j20) 0 v21 v22 v23 = some r := h
    rw [sl_partitionEqualCmpFunc_int_l1.eq_1] at h
    cases h
  · obtain ⟨v21, v22, v23⟩ := s
    have h : sl_partitionEqualCmpFunc_int_l1 fuel n2 a3 g6 (sl_partitionEqualCmpFunc_int_j20) (m1 + 1) v21 v22 v23 = some r := h
    rw [sl_partitionEqualCmpFunc_int_l1.eq_2] at h
    refine W.block ?_
    refine W.seq ?_
    refine W.join (σ := (Int)) (fun s => [(0, S1 n2), (1, I6 a3), (4, .clo F_g6 C_g6), (11, I6 s), (12, I6 v23), O1 v21]) (fun s => (sl_partitionEqualCmpFunc_int_j24 fuel n2 a3 g6 v21 v23 (sl_partitionEqualCmpFunc_int_l1 fuel n2 a3 g6 (sl_partitionEqualCmpFunc_int_j20) m1) (sl_partitionEqualCmpFunc_int_j20)) s = some r) (fun s h => ?_) (fun hK24 => ?_)
    · obtain ⟨v34, rfl⟩ : ∃ x, x = s := ⟨s, rfl⟩
      have h : (sl_partitionEqualCmpFunc_int_j24 fuel n2 a3 g6 v21 v23 (sl_partitionEqualCmpFunc_int_l1 fuel n2 a3 g6 (sl_partitionEqualCmpFunc_int_j20) m1) (sl_partitionEqualCmpFunc_int_j20)) v34 = some r := h
      unfold sl_partitionEqualCmpFunc_int_j24 at h
      refine W.seq ?_
      refine W.join (σ := (Int)) (fun s => [(0, S1 n2), (1, I6 a3), (4, .clo F_g6 C_g6), (11, I6 v34), (12, I6 s), O1 v21]) (fun s => (sl_partitionEqualCmpFunc_int_j35 n2 v21 v34 (sl_partitionEqualCmpFunc_int_l1 fuel n2 a3 g6 (sl_partitionEqualCmpFunc_int_j20) m1) (sl_partitionEqualCmpFunc_int_j20)) s = some r) (fun s h => ?_) (fun hK35 => ?_)
      · obtain ⟨v45, rfl⟩ : ∃ x, x = s := ⟨s, rfl⟩
        have h : (sl_partitionEqualCmpFunc_int_j35 n2 v21 v34 (sl_partitionEqualCmpFunc_int_l1 fuel n2 a3 g6 (sl_partitionEqualCmpFunc_int_j20) m1) (sl_partitionEqualCmpFunc_int_j20)) v45 = some r := h
        unfold sl_partitionEqualCmpFunc_int_j35 at h
        refine W.seq ?_
        refine W.seq ?_
        refine W.regT [0, 1, 4, 11, 12, 70, 2000000] [] [] [] (e2 := [(0, S1 n2), (1, I6 a3), (4, .clo F_g6 C_g6), (11, I6 v34), (12, I6 v45), (70, .bool (decide (v34 > v45))), O1 v21]) (by kernel_rfl) (by kernel_rfl) (fun _ h => h) ?_
        refine W.condB (decide (v34 > v45)) (by kernel_rfl) (fun hb => ?_) (fun hb => ?_)
        · replace h := cond_t hb h
          refine W.exit ?_
          refine W.weak [11, 2000000] [] [] [] (env' := [(11, I6 v34), O1 v21]) (by kernel_rfl) ?_
          exact hK20 (v21, v34) h
        replace h := cond_f hb h
        refine W.skip ?_
        refine W.weak [0, 1, 4, 11, 12, 2000000] [] [] [] (env' := [(0, S1 n2), (1, I6 a3), (4, .clo F_g6 C_g6), (11, I6 v34), (12, I6 v45), O1 v21]) (by kernel_rfl) ?_
        refine W.seq ?_
        refine W.region (by kernel_rfl) ?_
        obtain ⟨hc49, h⟩ := chk_some h
        refine WO.pureK 6 (if (0 : Int) ≤ v45 ∧ v45 < ((n2 : Nat) : Int) then some (.pe 2000000 1 (0 + Int.toNat v45) 0) else none) (v := .pe 2000000 1 (0 + Int.toNat v45) 0) (by kernel_rfl) (ite_some hc49) (e1 := [(0, S1 n2), (1, I6 a3), (4, .clo F_g6 C_g6), (11, I6 v34), (12, I6 v45), (71, S1 n2), (72, I6 v34), (73, S1 n2), (74, I6 v45), (75, S1 n2), (76, I6 v45), (77, .pe 2000000 1 (0 + Int.toNat v45) 0), O1 v21]) (by kernel_rfl) ?_
        obtain ⟨e50, he50, h⟩ := bind_some h
        refine WO.pureK 0 (match (List.map (AV.int .i64) v21)[(0 + Int.toNat v45)]? with | some y => cut Try.prog 3 (y.cells.map AV.strip) 0 | none => none) (v := I6 e50) (by kernel_rfl) ((pe_ld (f := (AV.int .i64)) (G := (fun y => cut Try.prog 3 (y.cells.map AV.strip) 0)) he50).trans (by kernel_rfl)) (e1 := [(0, S1 n2), (1, I6 a3), (4, .clo F_g6 C_g6), (11, I6 v34), (12, I6 v45), (71, S1 n2), (72, I6 v34), (73, S1 n2), (74, I6 v45), (75, S1 n2), (76, I6 v45), (77, .pe 2000000 1 (0 + Int.toNat v45) 0), (78, I6 e50), O1 v21]) (by kernel_rfl) ?_
        obtain ⟨hc51, h⟩ := chk_some h
        refine WO.pureK 2 (if (0 : Int) ≤ v34 ∧ v34 < ((n2 : Nat) : Int) then some (.pe 2000000 1 (0 + Int.toNat v34) 0) else none) (v := .pe 2000000 1 (0 + Int.toNat v34) 0) (by kernel_rfl) (ite_some hc51) (e1 := [(0, S1 n2), (1, I6 a3), (4, .clo F_g6 C_g6), (11, I6 v34), (12, I6 v45), (71, S1 n2), (72, I6 v34), (73, S1 n2), (74, I6 v45), (75, S1 n2), (76, I6 v45), (77, .pe 2000000 1 (0 + Int.toNat v45) 0), (78, I6 e50), (79, S1 n2), (80, I6 v34), (81, .pe 2000000 1 (0 + Int.toNat v34) 0), O1 v21]) (by kernel_rfl) ?_
        obtain ⟨e52, he52, h⟩ := bind_some h
        refine WO.pureK 0 (match (List.map (AV.int .i64) v21)[(0 + Int.toNat v34)]? with | some y => cut Try.prog 3 (y.cells.map AV.strip) 0 | none => none) (v := I6 e52) (by kernel_rfl) ((pe_ld (f := (AV.int .i64)) (G := (fun y => cut Try.prog 3 (y.cells.map AV.strip) 0)) he52).trans (by kernel_rfl)) (e1 := [(0, S1 n2), (1, I6 a3), (4, .clo F_g6 C_g6), (11, I6 v34), (12, I6 v45), (71, S1 n2), (72, I6 v34), (73, S1 n2), (74, I6 v45), (75, S1 n2), (76, I6 v45), (77, .pe 2000000 1 (0 + Int.toNat v45) 0), (78, I6 e50), (79, S1 n2), (80, I6 v34), (81, .pe 2000000 1 (0 + Int.toNat v34) 0), (82, I6 e52), O1 v21]) (by kernel_rfl) ?_
        obtain ⟨hc53, h⟩ := chk_some h
        refine WO.pureK 0 (if (0 : Int) ≤ v34 ∧ v34 < ((n2 : Nat) : Int) then some (.pe 2000000 1 (0 + Int.toNat v34) 0) else none) (v := .pe 2000000 1 (0 + Int.toNat v34) 0) (by kernel_rfl) (ite_some hc53) (e1 := [(0, S1 n2), (1, I6 a3), (4, .clo F_g6 C_g6), (11, I6 v34), (12, I6 v45), (71, S1 n2), (72, I6 v34), (73, S1 n2), (74, I6 v45), (75, S1 n2), (76, I6 v45), (77, .pe 2000000 1 (0 + Int.toNat v45) 0), (78, I6 e50), (79, S1 n2), (80, I6 v34), (81, .pe 2000000 1 (0 + Int.toNat v34) 0), (82, I6 e52), (83, .pe 2000000 1 (0 + Int.toNat v34) 0), O1 v21]) (by kernel_rfl) ?_
        obtain ⟨u54, hu54, h⟩ := bind_some h
        obtain ⟨y55, hyy55, hzy55⟩ := upd_some hu54
        refine WO.storeK 0 (id := 2000000) (e := 3) (s := 1) (j := (0 + Int.toNat v34)) (off := 0) (vs := [I6 e50]) (xs := (List.map (AV.int .i64) v21)) (zs := (List.map (AV.int .i64) u54)) (y := ((AV.int .i64)) y55) (y' := ((AV.int .i64)) e50) (by kernel_rfl) (upd_get hyy55) (by kernel_rfl) (upd_set hzy55) (e1 := [(0, S1 n2), (1, I6 a3), (4, .clo F_g6 C_g6), (11, I6 v34), (12, I6 v45), (71, S1 n2), (72, I6 v34), (73, S1 n2), (74, I6 v45), (75, S1 n2), (76, I6 v45), (77, .pe 2000000 1 (0 + Int.toNat v45) 0), (78, I6 e50), (79, S1 n2), (80, I6 v34), (81, .pe 2000000 1 (0 + Int.toNat v34) 0), (82, I6 e52), (83, .pe 2000000 1 (0 + Int.toNat v34) 0), O1 u54]) (by kernel_rfl) ?_
        obtain ⟨hc56, h⟩ := chk_some h
        refine WO.pureK 0 (if (0 : Int) ≤ v45 ∧ v45 < ((n2 : Nat) : Int) then some (.pe 2000000 1 (0 + Int.toNat v45) 0) else none) (v := .pe 2000000 1 (0 + Int.toNat v45) 0) (by kernel_rfl) (ite_some hc56) (e1 := [(0, S1 n2), (1, I6 a3), (4, .clo F_g6 C_g6), (11, I6 v34), (12, I6 v45), (71, S1 n2), (72, I6 v34), (73, S1 n2), (74, I6 v45), (75, S1 n2), (76, I6 v45), (77, .pe 2000000 1 (0 + Int.toNat v45) 0), (78, I6 e50), (79, S1 n2), (80, I6 v34), (81, .pe 2000000 1 (0 + Int.toNat v34) 0), (82, I6 e52), (83, .pe 2000000 1 (0 + Int.toNat v34) 0), (84, .pe 2000000 1 (0 + Int.toNat v45) 0), O1 u54]) (by kernel_rfl) ?_
        obtain ⟨u57, hu57, h⟩ := bind_some h
        obtain ⟨y58, hyy58, hzy58⟩ := upd_some hu57
        refine WO.storeK 0 (id := 2000000) (e := 3) (s := 1) (j := (0 + Int.toNat v45)) (off := 0) (vs := [I6 e52]) (xs := (List.map (AV.int .i64) u54)) (zs := (List.map (AV.int .i64) u57)) (y := ((AV.int .i64)) y58) (y' := ((AV.int .i64)) e52) (by kernel_rfl) (upd_get hyy58) (by kernel_rfl) (upd_set hzy58) (e1 := [(0, S1 n2), (1, I6 a3), (4, .clo F_g6 C_g6), (11, I6 v34), (12, I6 v45), (71, S1 n2), (72, I6 v34), (73, S1 n2), (74, I6 v45), (75, S1 n2), (76, I6 v45), (77, .pe 2000000 1 (0 + Int.toNat v45) 0), (78, I6 e50), (79, S1 n2), (80, I6 v34), (81, .pe 2000000 1 (0 + Int.toNat v34) 0), (82, I6 e52), (83, .pe 2000000 1 (0 + Int.toNat v34) 0), (84, .pe 2000000 1 (0 + Int.toNat v45) 0), O1 u57]) (by kernel_rfl) ?_
        refine WO.fin [0, 1, 4, 11, 12, 2000000] [] [] [] (e2 := [(0, S1 n2), (1, I6 a3), (4, .clo F_g6 C_g6), (11, I6 v34), (12, I6 v45), O1 u57]) (by kernel_rfl) (fun _ h => h) ?_
        refine W.seq ?_
        refine W.regT [0, 1, 4, 11, 12, 2000000] [] [] [] (e2 := [(0, S1 n2), (1, I6 a3), (4, .clo F_g6 C_g6), (11, I6 (W6 (v34 + 1))), (12, I6 v45), O1 u57]) (by kernel_rfl) (by kernel_rfl) (fun _ h => h) ?_
        refine W.regT [0, 1, 4, 11, 12, 2000000] [] [] [] (e2 := [(0, S1 n2), (1, I6 a3), (4, .clo F_g6 C_g6), (11, I6 (W6 (v34 + 1))), (12, I6 (W6 (v45 - 1))), O1 u57]) (by kernel_rfl) (by kernel_rfl) (fun _ h => h) ?_
        exact hN1 (u57, (W6 (v34 + 1)), (W6 (v45 - 1))) h
      refine W.block ?_
      refine W.weak [0, 1, 4, 11, 12, 2000000] [] [] [] (env' := [(0, S1 n2), (1, I6 a3), (4, .clo F_g6 C_g6), (11, I6 v34), (12, I6 v23), O1 v21]) (by kernel_rfl) ?_
      refine W.fuel (σ := (Int)) (fun s => [(0, S1 n2), (1, I6 a3), (4, .clo F_g6 C_g6), (11, I6 v34), (12, I6 s), O1 v21]) (fun m0 s => sl_partitionEqualCmpFunc_int_l3 n2 a3 g6 v21 v34 (sl_partitionEqualCmpFunc_int_j35 n2 v21 v34 (sl_partitionEqualCmpFunc_int_l1 fuel n2 a3 g6 (sl_partitionEqualCmpFunc_int_j20) m1) (sl_partitionEqualCmpFunc_int_j20)) m0 s = some r) (fun s h => ?_) (fun m3 s h hN3 => ?_) fuel v23 h
      · obtain ⟨v36, rfl⟩ : ∃ x, x = s := ⟨s, rfl⟩
        have h : sl_partitionEqualCmpFunc_int_l3 n2 a3 g6 v21 v34 (sl_partitionEqualCmpFunc_int_j35 n2 v21 v34 (sl_partitionEqualCmpFunc_int_l1 fuel n2 a3 g6 (sl_partitionEqualCmpFunc_int_j20) m1) (sl_partitionEqualCmpFunc_int_j20)) 0 v36 = some r := h
        rw [sl_partitionEqualCmpFunc_int_l3.eq_1] at h
        cases h
      · obtain ⟨v36, rfl⟩ : ∃ x, x = s := ⟨s, rfl⟩
        have h : sl_partitionEqualCmpFunc_int_l3 n2 a3 g6 v21 v34 (sl_partitionEqualCmpFunc_int_j35 n2 v21 v34 (sl_partitionEqualCmpFunc_int_l1 fuel n2 a3 g6 (sl_partitionEqualCmpFunc_int_j20) m1) (sl_partitionEqualCmpFunc_int_j20)) (m3 + 1) v36 = some r := h
        rw [sl_partitionEqualCmpFunc_int_l3.eq_2] at h
        refine W.seq ?_
        refine W.seq ?_
        refine W.join (σ := (Bool)) (fun s => [(0, S1 n2), (1, I6 a3), (4, .clo F_g6 C_g6), (11, I6 v34), (12, I6 v36), (65, .bool s), O1 v21]) (fun s => (sl_partitionEqualCmpFunc_int_j38 v36 (sl_partitionEqualCmpFunc_int_l3 n2 a3 g6 v21 v34 (sl_partitionEqualCmpFunc_int_j35 n2 v21 v34 (sl_partitionEqualCmpFunc_int_l1 fuel n2 a3 g6 (sl_partitionEqualCmpFunc_int_j20) m1) (sl_partitionEqualCmpFunc_int_j20)) m3) (sl_partitionEqualCmpFunc_int_j35 n2 v21 v34 (sl_partitionEqualCmpFunc_int_l1 fuel n2 a3 g6 (sl_partitionEqualCmpFunc_int_j20) m1) (sl_partitionEqualCmpFunc_int_j20))) s = some r) (fun s h => ?_) (fun hK38 => ?_)
        · obtain ⟨v44, rfl⟩ : ∃ x, x = s := ⟨s, rfl⟩
          have h : (sl_partitionEqualCmpFunc_int_j38 v36 (sl_partitionEqualCmpFunc_int_l3 n2 a3 g6 v21 v34 (sl_partitionEqualCmpFunc_int_j35 n2 v21 v34 (sl_partitionEqualCmpFunc_int_l1 fuel n2 a3 g6 (sl_partitionEqualCmpFunc_int_j20) m1) (sl_partitionEqualCmpFunc_int_j20)) m3) (sl_partitionEqualCmpFunc_int_j35 n2 v21 v34 (sl_partitionEqualCmpFunc_int_l1 fuel n2 a3 g6 (sl_partitionEqualCmpFunc_int_j20) m1) (sl_partitionEqualCmpFunc_int_j20))) v44 = some r := h
          unfold sl_partitionEqualCmpFunc_int_j38 at h
          refine W.condB v44 (by kernel_rfl) (fun hb => ?_) (fun hb => ?_)
          · replace h := cond_t hb h
            refine W.skip ?_
            refine W.weak [0, 1, 4, 11, 12, 2000000] [] [] [] (env' := [(0, S1 n2), (1, I6 a3), (4, .clo F_g6 C_g6), (11, I6 v34), (12, I6 v36), O1 v21]) (by kernel_rfl) ?_
            refine W.block ?_
            refine W.regT [0, 1, 4, 11, 12, 2000000] [] [] [] (e2 := [(0, S1 n2), (1, I6 a3), (4, .clo F_g6 C_g6), (11, I6 v34), (12, I6 (W6 (v36 - 1))), O1 v21]) (by kernel_rfl) (by kernel_rfl) (fun _ h => h) ?_
            exact hN3 (W6 (v36 - 1)) h
          replace h := cond_f hb h
          refine W.exit ?_
          refine W.weak [0, 1, 4, 11, 12, 2000000] [] [] [] (env' := [(0, S1 n2), (1, I6 a3), (4, .clo F_g6 C_g6), (11, I6 v34), (12, I6 v36), O1 v21]) (by kernel_rfl) ?_
          exact hK35 v36 h
        refine W.region (by kernel_rfl) ?_
        refine WO.boolK 4 (fun b => [(0, S1 n2), (1, I6 a3), (4, .clo F_g6 C_g6), (11, I6 v34), (12, I6 v36), (50, I6 v34), (51, I6 v36), (52, .bool b), (53, .bool b), O1 v21]) (decide (v34 ≤ v36)) (by kernel_rfl) (fun hb => ?_) (fun hb => ?_)
        · replace h := cond_t hb h
          obtain ⟨hc39, h⟩ := chk_some h
          refine WO.pureK 3 (if (0 : Int) ≤ a3 ∧ a3 < ((n2 : Nat) : Int) then some (.pe 2000000 1 (0 + Int.toNat a3) 0) else none) (v := .pe 2000000 1 (0 + Int.toNat a3) 0) (by kernel_rfl) (ite_some hc39) (e1 := [(0, S1 n2), (1, I6 a3), (4, .clo F_g6 C_g6), (11, I6 v34), (12, I6 v36), (50, I6 v34), (51, I6 v36), (52, .bool true), (53, .bool true), (54, .clo F_g6 C_g6), (55, S1 n2), (56, I6 a3), (57, .pe 2000000 1 (0 + Int.toNat a3) 0), O1 v21]) (by kernel_rfl) ?_
          obtain ⟨e40, he40, h⟩ := bind_some h
          refine WO.pureK 0 (match (List.map (AV.int .i64) v21)[(0 + Int.toNat a3)]? with | some y => cut Try.prog 3 (y.cells.map AV.strip) 0 | none => none) (v := I6 e40) (by kernel_rfl) ((pe_ld (f := (AV.int .i64)) (G := (fun y => cut Try.prog 3 (y.cells.map AV.strip) 0)) he40).trans (by kernel_rfl)) (e1 := [(0, S1 n2), (1, I6 a3), (4, .clo F_g6 C_g6), (11, I6 v34), (12, I6 v36), (50, I6 v34), (51, I6 v36), (52, .bool true), (53, .bool true), (54, .clo F_g6 C_g6), (55, S1 n2), (56, I6 a3), (57, .pe 2000000 1 (0 + Int.toNat a3) 0), (58, I6 e40), O1 v21]) (by kernel_rfl) ?_
          obtain ⟨hc41, h⟩ := chk_some h
          refine WO.pureK 2 (if (0 : Int) ≤ v36 ∧ v36 < ((n2 : Nat) : Int) then some (.pe 2000000 1 (0 + Int.toNat v36) 0) else none) (v := .pe 2000000 1 (0 + Int.toNat v36) 0) (by kernel_rfl) (ite_some hc41) (e1 := [(0, S1 n2), (1, I6 a3), (4, .clo F_g6 C_g6), (11, I6 v34), (12, I6 v36), (50, I6 v34), (51, I6 v36), (52, .bool true), (53, .bool true), (54, .clo F_g6 C_g6), (55, S1 n2), (56, I6 a3), (57, .pe 2000000 1 (0 + Int.toNat a3) 0), (58, I6 e40), (59, S1 n2), (60, I6 v36), (61, .pe 2000000 1 (0 + Int.toNat v36) 0), O1 v21]) (by kernel_rfl) ?_
          obtain ⟨e42, he42, h⟩ := bind_some h
          refine WO.pureK 0 (match (List.map (AV.int .i64) v21)[(0 + Int.toNat v36)]? with | some y => cut Try.prog 3 (y.cells.map AV.strip) 0 | none => none) (v := I6 e42) (by kernel_rfl) ((pe_ld (f := (AV.int .i64)) (G := (fun y => cut Try.prog 3 (y.cells.map AV.strip) 0)) he42).trans (by kernel_rfl)) (e1 := [(0, S1 n2), (1, I6 a3), (4, .clo F_g6 C_g6), (11, I6 v34), (12, I6 v36), (50, I6 v34), (51, I6 v36), (52, .bool true), (53, .bool true), (54, .clo F_g6 C_g6), (55, S1 n2), (56, I6 a3), (57, .pe 2000000 1 (0 + Int.toNat a3) 0), (58, I6 e40), (59, S1 n2), (60, I6 v36), (61, .pe 2000000 1 (0 + Int.toNat v36) 0), (62, I6 e42), O1 v21]) (by kernel_rfl) ?_
          obtain ⟨w43, hw43, h⟩ := bind_some h
          refine WO.callK 0 (F := F_g6) (l := [I6 e40, I6 e42]) (C := C_g6) (r := I6 w43) (by kernel_rfl) hok_g6 (hrun_g6 e40 e42 w43 hw43) (e1 := [(0, S1 n2), (1, I6 a3), (4, .clo F_g6 C_g6), (11, I6 v34), (12, I6 v36), (50, I6 v34), (51, I6 v36), (52, .bool true), (53, .bool true), (54, .clo F_g6 C_g6), (55, S1 n2), (56, I6 a3), (57, .pe 2000000 1 (0 + Int.toNat a3) 0), (58, I6 e40), (59, S1 n2), (60, I6 v36), (61, .pe 2000000 1 (0 + Int.toNat v36) 0), (62, I6 e42), (63, I6 w43), O1 v21]) (by kernel_rfl) ?_
          refine WO.fin [0, 1, 4, 11, 12, 65, 2000000] [] [] [] (e2 := [(0, S1 n2), (1, I6 a3), (4, .clo F_g6 C_g6), (11, I6 v34), (12, I6 v36), (65, .bool (decide (w43 < 0))), O1 v21]) (by kernel_rfl) (fun _ h => h) ?_
          exact hK38 (decide (w43 < 0)) h
        replace h := cond_f hb h
        refine WO.fin [0, 1, 4, 11, 12, 65, 2000000] [] [] [] (e2 := [(0, S1 n2), (1, I6 a3), (4, .clo F_g6 C_g6), (11, I6 v34), (12, I6 v36), (65, .bool false), O1 v21]) (by kernel_rfl) (fun _ h => h) ?_
        exact hK38 false h
    refine W.block ?_
    refine W.weak [0, 1, 4, 11, 12, 2000000] [] [] [] (env' := [(0, S1 n2), (1, I6 a3), (4, .clo F_g6 C_g6), (11, I6 v22), (12, I6 v23), O1 v21]) (by kernel_rfl) ?_
    refine W.fuel (σ := (Int)) (fun s => [(0, S1 n2), (1, I6 a3), (4, .clo F_g6 C_g6), (11, I6 s), (12, I6 v23), O1 v21]) (fun m0 s => sl_partitionEqualCmpFunc_int_l2 n2 a3 g6 v21 v23 (sl_partitionEqualCmpFunc_int_j24 fuel n2 a3 g6 v21 v23 (sl_partitionEqualCmpFunc_int_l1 fuel n2 a3 g6 (sl_partitionEqualCmpFunc_int_j20) m1) (sl_partitionEqualCmpFunc_int_j20)) m0 s = some r) (fun s h => ?_) (fun m2 s h hN2 => ?_) fuel v22 h
    · obtain ⟨v25, rfl⟩ : ∃ x, x = s := ⟨s, rfl⟩
      have h : sl_partitionEqualCmpFunc_int_l2 n2 a3 g6 v21 v23 (sl_partitionEqualCmpFunc_int_j24 fuel n2 a3 g6 v21 v23 (sl_partitionEqualCmpFunc_int_l1 fuel n2 a3 g6 (sl_partitionEqualCmpFunc_int_j20) m1) (sl_partitionEqualCmpFunc_int_j20)) 0 v25 = some r := h
      rw [sl_partitionEqualCmpFunc_int_l2.eq_1] at h
      cases h
    · obtain ⟨v25, rfl⟩ : ∃ x, x = s := ⟨s, rfl⟩
      have h : sl_partitionEqualCmpFunc_int_l2 n2 a3 g6 v21 v23 (sl_partitionEqualCmpFunc_int_j24 fuel n2 a3 g6 v21 v23 (sl_partitionEqualCmpFunc_int_l1 fuel n2 a3 g6 (sl_partitionEqualCmpFunc_int_j20) m1) (sl_partitionEqualCmpFunc_int_j20)) (m2 + 1) v25 = some r := h
      rw [sl_partitionEqualCmpFunc_int_l2.eq_2] at h
      refine W.seq ?_
      refine W.seq ?_
      refine W.join (σ := (Bool)) (fun s => [(0, S1 n2), (1, I6 a3), (4, .clo F_g6 C_g6), (11, I6 v25), (12, I6 v23), (47, .bool s), O1 v21]) (fun s => (sl_partitionEqualCmpFunc_int_j27 v25 (sl_partitionEqualCmpFunc_int_l2 n2 a3 g6 v21 v23 (sl_partitionEqualCmpFunc_int_j24 fuel n2 a3 g6 v21 v23 (sl_partitionEqualCmpFunc_int_l1 fuel n2 a3 g6 (sl_partitionEqualCmpFunc_int_j20) m1) (sl_partitionEqualCmpFunc_int_j20)) m2) (sl_partitionEqualCmpFunc_int_j24 fuel n2 a3 g6 v21 v23 (sl_partitionEqualCmpFunc_int_l1 fuel n2 a3 g6 (sl_partitionEqualCmpFunc_int_j20) m1) (sl_partitionEqualCmpFunc_int_j20))) s = some r) (fun s h => ?_) (fun hK27 => ?_)
      · obtain ⟨v33, rfl⟩ : ∃ x, x = s := ⟨s, rfl⟩
        have h : (sl_partitionEqualCmpFunc_int_j27 v25 (sl_partitionEqualCmpFunc_int_l2 n2 a3 g6 v21 v23 (sl_partitionEqualCmpFunc_int_j24 fuel n2 a3 g6 v21 v23 (sl_partitionEqualCmpFunc_int_l1 fuel n2 a3 g6 (sl_partitionEqualCmpFunc_int_j20) m1) (sl_partitionEqualCmpFunc_int_j20)) m2) (sl_partitionEqualCmpFunc_int_j24 fuel n2 a3 g6 v21 v23 (sl_partitionEqualCmpFunc_int_l1 fuel n2 a3 g6 (sl_partitionEqualCmpFunc_int_j20) m1) (sl_partitionEqualCmpFunc_int_j20))) v33 = some r := h
        unfold sl_partitionEqualCmpFunc_int_j27 at h
        refine W.condB v33 (by kernel_rfl) (fun hb => ?_) (fun hb => ?_)
        · replace h := cond_t hb h
          refine W.skip ?_
          refine W.weak [0, 1, 4, 11, 12, 2000000] [] [] [] (env' := [(0, S1 n2), (1, I6 a3), (4, .clo F_g6 C_g6), (11, I6 v25), (12, I6 v23), O1 v21]) (by kernel_rfl) ?_
          refine W.block ?_
          refine W.regT [0, 1, 4, 11, 12, 2000000] [] [] [] (e2 := [(0, S1 n2), (1, I6 a3), (4, .clo F_g6 C_g6), (11, I6 (W6 (v25 + 1))), (12, I6 v23), O1 v21]) (by kernel_rfl) (by kernel_rfl) (fun _ h => h) ?_
          exact hN2 (W6 (v25 + 1)) h
        replace h := cond_f hb h
        refine W.exit ?_
        refine W.weak [0, 1, 4, 11, 12, 2000000] [] [] [] (env' := [(0, S1 n2), (1, I6 a3), (4, .clo F_g6 C_g6), (11, I6 v25), (12, I6 v23), O1 v21]) (by kernel_rfl) ?_
        exact hK24 v25 h
      refine W.region (by kernel_rfl) ?_
      refine WO.boolK 4 (fun b => [(0, S1 n2), (1, I6 a3), (4, .clo F_g6 C_g6), (11, I6 v25), (12, I6 v23), (31, I6 v25), (32, I6 v23), (33, .bool b), (34, .bool b), O1 v21]) (decide (v25 ≤ v23)) (by kernel_rfl) (fun hb => ?_) (fun hb => ?_)
      · replace h := cond_t hb h
        obtain ⟨hc28, h⟩ := chk_some h
        refine WO.pureK 3 (if (0 : Int) ≤ a3 ∧ a3 < ((n2 : Nat) : Int) then some (.pe 2000000 1 (0 + Int.toNat a3) 0) else none) (v := .pe 2000000 1 (0 + Int.toNat a3) 0) (by kernel_rfl) (ite_some hc28) (e1 := [(0, S1 n2), (1, I6 a3), (4, .clo F_g6 C_g6), (11, I6 v25), (12, I6 v23), (31, I6 v25), (32, I6 v23), (33, .bool true), (34, .bool true), (35, .clo F_g6 C_g6), (36, S1 n2), (37, I6 a3), (38, .pe 2000000 1 (0 + Int.toNat a3) 0), O1 v21]) (by kernel_rfl) ?_
        obtain ⟨e29, he29, h⟩ := bind_some h
        refine WO.pureK 0 (match (List.map (AV.int .i64) v21)[(0 + Int.toNat a3)]? with | some y => cut Try.prog 3 (y.cells.map AV.strip) 0 | none => none) (v := I6 e29) (by kernel_rfl) ((pe_ld (f := (AV.int .i64)) (G := (fun y => cut Try.prog 3 (y.cells.map AV.strip) 0)) he29).trans (by kernel_rfl)) (e1 := [(0, S1 n2), (1, I6 a3), (4, .clo F_g6 C_g6), (11, I6 v25), (12, I6 v23), (31, I6 v25), (32, I6 v23), (33, .bool true), (34, .bool true), (35, .clo F_g6 C_g6), (36, S1 n2), (37, I6 a3), (38, .pe 2000000 1 (0 + Int.toNat a3) 0), (39, I6 e29), O1 v21]) (by kernel_rfl) ?_
        obtain ⟨hc30, h⟩ := chk_some h
        refine WO.pureK 2 (if (0 : Int) ≤ v25 ∧ v25 < ((n2 : Nat) : Int) then some (.pe 2000000 1 (0 + Int.toNat v25) 0) else none) (v := .pe 2000000 1 (0 + Int.toNat v25) 0) (by kernel_rfl) (ite_some hc30) (e1 := [(0, S1 n2), (1, I6 a3), (4, .clo F_g6 C_g6), (11, I6 v25), (12, I6 v23), (31, I6 v25), (32, I6 v23), (33, .bool true), (34, .bool true), (35, .clo F_g6 C_g6), (36, S1 n2), (37, I6 a3), (38, .pe 2000000 1 (0 + Int.toNat a3) 0), (39, I6 e29), (40, S1 n2), (41, I6 v25), (42, .pe 2000000 1 (0 + Int.toNat v25) 0), O1 v21]) (by kernel_rfl) ?_
        obtain ⟨e31, he31, h⟩ := bind_some h
        refine WO.pureK 0 (match (List.map (AV.int .i64) v21)[(0 + Int.toNat v25)]? with | some y => cut Try.prog 3 (y.cells.map AV.strip) 0 | none => none) (v := I6 e31) (by kernel_rfl) ((pe_ld (f := (AV.int .i64)) (G := (fun y => cut Try.prog 3 (y.cells.map AV.strip) 0)) he31).trans (by kernel_rfl)) (e1 := [(0, S1 n2), (1, I6 a3), (4, .clo F_g6 C_g6), (11, I6 v25), (12, I6 v23), (31, I6 v25), (32, I6 v23), (33, .bool true), (34, .bool true), (35, .clo F_g6 C_g6), (36, S1 n2), (37, I6 a3), (38, .pe 2000000 1 (0 + Int.toNat a3) 0), (39, I6 e29), (40, S1 n2), (41, I6 v25), (42, .pe 2000000 1 (0 + Int.toNat v25) 0), (43, I6 e31), O1 v21]) (by kernel_rfl) ?_
        obtain ⟨w32, hw32, h⟩ := bind_some h
        refine WO.callK 0 (F := F_g6) (l := [I6 e29, I6 e31]) (C := C_g6) (r := I6 w32) (by kernel_rfl) hok_g6 (hrun_g6 e29 e31 w32 hw32) (e1 := [(0, S1 n2), (1, I6 a3), (4, .clo F_g6 C_g6), (11, I6 v25), (12, I6 v23), (31, I6 v25), (32, I6 v23), (33, .bool true), (34, .bool true), (35, .clo F_g6 C_g6), (36, S1 n2), (37, I6 a3), (38, .pe 2000000 1 (0 + Int.toNat a3) 0), (39, I6 e29), (40, S1 n2), (41, I6 v25), (42, .pe 2000000 1 (0 + Int.toNat v25) 0), (43, I6 e31), (44, I6 w32), O1 v21]) (by kernel_rfl) ?_
        refine WO.fin [0, 1, 4, 11, 12, 47, 2000000] [] [] [] (e2 := [(0, S1 n2), (1, I6 a3), (4, .clo F_g6 C_g6), (11, I6 v25), (12, I6 v23), (47, .bool (!(decide (w32 < 0)))), O1 v21]) (by kernel_rfl) (fun _ h => h) ?_
        exact hK27 (!(decide (w32 < 0))) h
      replace h := cond_f hb h
      refine WO.fin [0, 1, 4, 11, 12, 47, 2000000] [] [] [] (e2 := [(0, S1 n2), (1, I6 a3), (4, .clo F_g6 C_g6), (11, I6 v25), (12, I6 v23), (47, .bool false), O1 v21]) (by kernel_rfl) (fun _ h => h) ?_
      exact hK27 false h

end Go.AM
