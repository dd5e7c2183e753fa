/- PRINTED by gen.py: pure functions and the proofs that the code computes them. No statement of the seat is proved here. -/
import Derived.Test.YtmfdgonjnckdhaaMT
set_option maxRecDepth 100000
set_option linter.unusedVariables false
set_option linter.unusedSimpArgs false
namespace Go.AM
open Go.Proofs
def st_Contains (a1 : ByteArray) (a2 : ByteArray) : Option Bool := chk (decide (a1.size < 4294967281)) (some (Lib.contains a1.data.toList a2.data.toList))
theorem run_st_Contains (a1 : ByteArray) (a2 : ByteArray) (r : Bool) (h : st_Contains a1 a2 = some r) : Run Try.prog (.call 44 [.str a1, .str a2] (.bool r)) := by
  unfold st_Contains at h
  obtain ⟨hp, h⟩ := chk_some h
  cases h
  refine .ext rfl rfl fun w hg => ?_
  obtain ⟨m, hm⟩ := hg 0 (by simp [globs])
  exact (Try.strings_Contains a1 a2 m w (of_decide_eq_true hp) hm).mono fun e w' hh => ⟨hh.1, hh.2 ▸ RowKit.Below.refl _ _⟩
def ix_Match_j12 (v28 : (List Int)) : Option ((List Int) × Int) :=
  (some (v28, 0))
def ix_Match_j19 (v14 : (List Int)) (N1 : ((List Int) → Int → Option ((List Int) × Int))) (v26 : Int) : Option ((List Int) × Int) :=
  (chk (capOk 8 ((v14 ++ [v26])).length) (N1 (v14 ++ [v26]) v26))
def ix_Match_j22 (v20 : Int) (N2 : (Int → Option ((List Int) × Int))) (K19 : (Int → Option ((List Int) × Int))) (v25 : Bool) : Option ((List Int) × Int) :=
  (bif v25 then (N2 (IntKind.wrap .i64 (v20 + 1))) else (K19 v20))
def ix_Match_l2 (a1 : ByteArray) (k1 : Nat) (a2 : ByteArray) (K19 : (Int → Option ((List Int) × Int))) : Nat → Int → Option ((List Int) × Int)
  | 0, _ => none
  | m2 + 1, v20 => (bif (decide ((IntKind.wrap .i64 ((k1 : Int) + v20)) < (a2.size : Int))) then ((ssub a2 (k1 : Int) (IntKind.wrap .i64 ((IntKind.wrap .i64 ((k1 : Int) + v20)) + 1))).bind fun e23 => ((st_Contains a1 e23).bind fun w24 => ((ix_Match_j22 v20 (ix_Match_l2 a1 k1 a2 K19 m2) K19) w24))) else ((ix_Match_j22 v20 (ix_Match_l2 a1 k1 a2 K19 m2) K19) false))
def ix_Match_l1 (fuel : Nat) (a1 : ByteArray) (a2 : ByteArray) (K12 : ((List Int) → Option ((List Int) × Int))) : List Nat → Nat → (List Int) → Int → Option ((List Int) × Int)
  | [], k1, v14, v15 => (K12 v14)
  | x1 :: r1, k1, v14, v15 => (ix_Match_l2 a1 k1 a2 (ix_Match_j19 v14 (ix_Match_l1 fuel a1 a2 K12 r1 (k1 + 1))) fuel (if 0 > (IntKind.wrap .i64 (v15 - 1)) then 0 else (IntKind.wrap .i64 (v15 - 1))))
def ix_Match_j5 (fuel : Nat) (a1 : ByteArray) (a2 : ByteArray) (v8 : Bool) : Option ((List Int) × Int) :=
  (bif v8 then (some (([] : (List Int)), 2)) else (chk (lenOk (List.range (Int.toNat (a2.size : Int)))) (ix_Match_l1 fuel a1 a2 (ix_Match_j12) (List.range (Int.toNat (a2.size : Int))) 0 ([] : (List Int)) 0)))
def ix_Match (fuel : Nat) (a1 : ByteArray) (a2 : ByteArray) : Option ((List Int) × Int) :=
  ((ix_valid a1).bind fun w6 => (bif (!w6) then ((ix_Match_j5 fuel a1 a2) true) else ((ix_valid a2).bind fun w7 => ((ix_Match_j5 fuel a1 a2) (!w7)))))
theorem run_ix_Match (fuel : Nat) (a1 : ByteArray) (a2 : ByteArray) (r : ((List Int) × Int)) (h : ix_Match fuel a1 a2 = some r) : Run Try.prog (.call 22 [.str a1, .str a2] (.tup [l3 none r.1, I6 r.2])) := by
  refine call_of_W Try.func22 rfl (by kernel_rfl) (env0 := [(0, .str a1), (1, .str a2)]) (by kernel_rfl) ?_
  unfold ix_Match at h
  refine W.seq ?_
  refine W.regT [0, 1] [] [] [] (e2 := [(0, .str a1), (1, .str a2)]) (by kernel_rfl) (by kernel_rfl) (fun _ h => h) ?_
  refine W.seq ?_
  refine W.seq ?_
  refine W.join (σ := (Bool)) (fun s => [(0, .str a1), (1, .str a2), (16, .bool s)]) (fun s => (ix_Match_j5 fuel a1 a2) s = some r) (fun s h => ?_) (fun hK5 => ?_)
  · obtain ⟨v8, rfl⟩ : ∃ x, x = s := ⟨s, rfl⟩
    have h : (ix_Match_j5 fuel a1 a2) v8 = some r := h
    unfold ix_Match_j5 at h
    refine W.condB v8 (by kernel_rfl) (fun hb => ?_) (fun hb => ?_)
    · replace h := cond_t hb h
      refine W.seq ?_
      refine W.regT [4, 5] [] [] [] (e2 := [(4, .nils), (5, .int .i64 2)]) (by kernel_rfl) (by kernel_rfl) (fun _ h => h) ?_
      refine W.weak [4, 5] [] [(4, 0, 3, 1, 70004)] [] (env' := [(4, l3 (some 70004) ([] : (List Int))), (5, .int .i64 2)]) (by kernel_rfl) ?_
      have hr : aresults Try.prog Try.f22 [(4, l3 (some 70004) ([] : (List Int))), (5, .int .i64 2)] = some (.tup [l3 none ([] : (List Int)), .int .i64 2]) := by kernel_rfl
      cases h
      exact W.ret hr
    replace h := cond_f hb h
    refine W.skip ?_
    refine W.weak [0, 1] [] [] [] (env' := [(0, .str a1), (1, .str a2)]) (by kernel_rfl) ?_
    refine W.seq ?_
    refine W.regT [0, 1, 6] [] [] [] (e2 := [(0, .str a1), (1, .str a2), (6, .nils)]) (by kernel_rfl) (by kernel_rfl) (fun _ h => h) ?_
    refine W.seq ?_
    refine W.regT [0, 1, 6, 7] [] [] [] (e2 := [(0, .str a1), (1, .str a2), (6, .nils), (7, .int .i64 0)]) (by kernel_rfl) (by kernel_rfl) (fun _ h => h) ?_
    refine W.seq ?_
    refine W.join (σ := ((List Int))) (fun s => [(6, l3 (some 10600) s)]) (fun s => (ix_Match_j12) s = some r) (fun s h => ?_) (fun hK12 => ?_)
    · obtain ⟨v28, rfl⟩ : ∃ x, x = s := ⟨s, rfl⟩
      have h : (ix_Match_j12) v28 = some r := h
      unfold ix_Match_j12 at h
      refine W.seq ?_
      refine W.regT [4, 5] [] [] [] (e2 := [(4, l3 (some 10600) v28), (5, .int .i64 0)]) (by kernel_rfl) (by kernel_rfl) (fun _ h => h) ?_
      refine W.weak [4, 5] [] [] [] (env' := [(4, l3 (some 10600) v28), (5, .int .i64 0)]) (by kernel_rfl) ?_
      have hr : aresults Try.prog Try.f22 [(4, l3 (some 10600) v28), (5, .int .i64 0)] = some (.tup [l3 none v28, .int .i64 0]) := by kernel_rfl
      cases h
      exact W.ret hr
    refine W.seq ?_
    refine W.regT [0, 1, 6, 7, 18, 19] [] [] [] (e2 := [(0, .str a1), (1, .str a2), (6, .nils), (7, .int .i64 0), (18, I6 (a2.size : Int)), (19, .int .i64 0)]) (by kernel_rfl) (by kernel_rfl) (fun _ h => h) ?_
    refine W.block ?_
    obtain ⟨hl1, h⟩ := chk_some h
    refine W.weak [0, 1, 6, 7, 18, 19] [] [(6, 0, 3, 1, 10600)] [] (env' := [(0, .str a1), (1, .str a2), (6, l3 (some 10600) ([] : (List Int))), (7, .int .i64 0), (18, I6 (a2.size : Int)), (19, I6 ((0 : Nat) : Int))]) (by kernel_rfl) ?_
    refine W.range (σ := ((List Int) × Int)) (List.range (Int.toNat (a2.size : Int))) (fun k1 s => [(0, .str a1), (1, .str a2), (6, l3 (some 10600) s.1), (7, I6 s.2), (18, I6 (a2.size : Int)), (19, I6 (k1 : Int))]) (fun r0 k0 s => ix_Match_l1 fuel a1 a2 (ix_Match_j12) r0 k0 s.1 s.2 = some r) (fun s h => ?_) (fun x1 r1 k1 s hx1 hk1 h hN1 => ?_) (([] : (List Int)), 0) h
    · obtain ⟨v14, v15⟩ := s
      have h : ix_Match_l1 fuel a1 a2 (ix_Match_j12) [] ((List.range (Int.toNat (a2.size : Int)))).length v14 v15 = some r := h
      rw [ix_Match_l1.eq_1] at h
      refine W.seq ?_
      refine W.region (by kernel_rfl) ?_
      refine WO.pureK 0 (some (.bool (decide ((((List.range (Int.toNat (a2.size : Int)))).length : Int) < (a2.size : Int))))) (v := .bool false) (by kernel_rfl) (by rw [ltr_false (n := (a2.size : Int))]) (e1 := [(0, .str a1), (1, .str a2), (6, l3 (some 10600) v14), (7, I6 v15), (18, I6 (a2.size : Int)), (19, I6 (((List.range (Int.toNat (a2.size : Int)))).length : Int)), (20, .bool false)]) (by kernel_rfl) ?_
      refine WO.fin ([0, 1, 6, 7, 18, 19, 20]) [] [] [] (e2 := [(0, .str a1), (1, .str a2), (6, l3 (some 10600) v14), (7, I6 v15), (18, I6 (a2.size : Int)), (19, I6 (((List.range (Int.toNat (a2.size : Int)))).length : Int)), (20, .bool false)]) (by kernel_rfl) (fun _ h => h) ?_
      refine W.seq ?_
      refine W.condB false (by kernel_rfl) (fun h => Bool.noConfusion h) (fun _ => ?_)
      refine W.exit ?_
      refine W.weak [6] [] [] [] (env' := [(6, l3 (some 10600) v14)]) (by kernel_rfl) ?_
      exact hK12 v14 h
    · obtain ⟨v14, v15⟩ := s
      have h : ix_Match_l1 fuel a1 a2 (ix_Match_j12) (x1 :: r1) k1 v14 v15 = some r := h
      rw [ix_Match_l1.eq_2] at h
      refine W.seq ?_
      refine W.region (by kernel_rfl) ?_
      refine WO.pureK 0 (some (.bool (decide ((k1 : Int) < (a2.size : Int))))) (v := .bool true) (by kernel_rfl) (by rw [ltr_true hk1]) (e1 := [(0, .str a1), (1, .str a2), (6, l3 (some 10600) v14), (7, I6 v15), (18, I6 (a2.size : Int)), (19, I6 (k1 : Int)), (20, .bool true)]) (by kernel_rfl) ?_
      refine WO.fin ([0, 1, 6, 7, 18, 19, 20]) [] [] [] (e2 := [(0, .str a1), (1, .str a2), (6, l3 (some 10600) v14), (7, I6 v15), (18, I6 (a2.size : Int)), (19, I6 (k1 : Int)), (20, .bool true)]) (by kernel_rfl) (fun _ h => h) ?_
      refine W.seq ?_
      refine W.condB true (by kernel_rfl) (fun _ => ?_) (fun h => Bool.noConfusion h)
      refine W.skip ?_
      refine W.weak [0, 1, 6, 7, 18, 19] [] [] [] (env' := [(0, .str a1), (1, .str a2), (6, l3 (some 10600) v14), (7, I6 v15), (18, I6 (a2.size : Int)), (19, I6 (k1 : Int))]) (by kernel_rfl) ?_
      refine W.seq ?_
      refine W.block ?_
      refine W.seq ?_
      refine W.regT [0, 1, 6, 7, 8, 18, 19] [] [] [] (e2 := [(0, .str a1), (1, .str a2), (6, l3 (some 10600) v14), (7, I6 v15), (8, I6 (k1 : Int)), (18, I6 (a2.size : Int)), (19, I6 (k1 : Int))]) (by kernel_rfl) (by kernel_rfl) (fun _ h => h) ?_
      refine W.seq ?_
      refine W.regT [0, 1, 6, 7, 8, 18, 19] [] [] [] (e2 := [(0, .str a1), (1, .str a2), (6, l3 (some 10600) v14), (7, I6 (if 0 > (W6 (v15 - 1)) then 0 else (W6 (v15 - 1)))), (8, I6 (k1 : Int)), (18, I6 (a2.size : Int)), (19, I6 (k1 : Int))]) (by kernel_rfl) (by kernel_rfl) (fun _ h => h) ?_
      refine W.seq ?_
      refine W.join (σ := (Int)) (fun s => [(0, .str a1), (1, .str a2), (6, l3 (some 10600) v14), (7, I6 s), (18, I6 (a2.size : Int)), (19, I6 (k1 : Int))]) (fun s => (ix_Match_j19 v14 (ix_Match_l1 fuel a1 a2 (ix_Match_j12) r1 (k1 + 1))) s = some r) (fun s h => ?_) (fun hK19 => ?_)
      · obtain ⟨v26, rfl⟩ : ∃ x, x = s := ⟨s, rfl⟩
        have h : (ix_Match_j19 v14 (ix_Match_l1 fuel a1 a2 (ix_Match_j12) r1 (k1 + 1))) v26 = some r := h
        unfold ix_Match_j19 at h
        refine W.region (by kernel_rfl) ?_
        obtain ⟨hc27, h⟩ := chk_some h
        refine WO.appendK 3 (d := 47) (e := 3) (s := 1) (bytes := 8) (xs := (List.map (AV.int .i64) v14)) (ys := (List.map (AV.int .i64) [v26])) (zs := (List.map (AV.int .i64) (v14 ++ [v26]))) (env1 := [(0, .str a1), (1, .str a2), (6, l3 none v14), (7, I6 v26), (18, I6 (a2.size : Int)), (19, I6 (k1 : Int)), (44, l3 none v14), (45, I6 v26), (46, l3 (some 46) [v26])]) (by kernel_rfl) (List.map_append.symm) (by rw [List.length_map]; exact hc27) (e1 := [(0, .str a1), (1, .str a2), (6, l3 none v14), (7, I6 v26), (18, I6 (a2.size : Int)), (19, I6 (k1 : Int)), (44, l3 none v14), (45, I6 v26), (46, l3 (some 46) [v26]), (47, l3 (some 47) (v14 ++ [v26]))]) (by kernel_rfl) ?_
        refine WO.fin [0, 1, 6, 7, 18, 19] [] [] [] (e2 := [(0, .str a1), (1, .str a2), (6, l3 (some 47) (v14 ++ [v26])), (7, I6 v26), (18, I6 (a2.size : Int)), (19, I6 (k1 : Int))]) (by kernel_rfl) (fun _ h => h) ?_
        refine W.region (by kernel_rfl) ?_
        refine WO.pureK 0 (some (I6 (IntKind.wrap .i64 ((k1 : Int) + 1)))) (v := I6 ((k1 + 1 : Nat) : Int)) (by kernel_rfl) (by rw [wrap_succ hl1 hk1]) (e1 := [(0, .str a1), (1, .str a2), (6, l3 (some 47) (v14 ++ [v26])), (7, I6 v26), (18, I6 (a2.size : Int)), (19, I6 (k1 : Int)), (48, I6 ((k1 + 1 : Nat) : Int))]) (by kernel_rfl) ?_
        refine WO.fin [0, 1, 6, 7, 18, 19] [] [] [(47, some 10600)] (e2 := [(0, .str a1), (1, .str a2), (6, l3 (some 10600) (v14 ++ [v26])), (7, I6 v26), (18, I6 (a2.size : Int)), (19, I6 ((k1 + 1 : Nat) : Int))]) (by kernel_rfl) (fun _ h => h) ?_
        exact hN1 ((v14 ++ [v26]), v26) h
      refine W.block ?_
      refine W.weak [0, 1, 6, 7, 8, 18, 19] [] [] [] (env' := [(0, .str a1), (1, .str a2), (6, l3 (some 10600) v14), (7, I6 (if 0 > (W6 (v15 - 1)) then 0 else (W6 (v15 - 1)))), (8, I6 (k1 : Int)), (18, I6 (a2.size : Int)), (19, I6 (k1 : Int))]) (by kernel_rfl) ?_
      refine W.fuel (σ := (Int)) (fun s => [(0, .str a1), (1, .str a2), (6, l3 (some 10600) v14), (7, I6 s), (8, I6 (k1 : Int)), (18, I6 (a2.size : Int)), (19, I6 (k1 : Int))]) (fun m0 s => ix_Match_l2 a1 k1 a2 (ix_Match_j19 v14 (ix_Match_l1 fuel a1 a2 (ix_Match_j12) r1 (k1 + 1))) m0 s = some r) (fun s h => ?_) (fun m2 s h hN2 => ?_) fuel (if 0 > (W6 (v15 - 1)) then 0 else (W6 (v15 - 1))) h
      · obtain ⟨v20, rfl⟩ : ∃ x, x = s := ⟨s, rfl⟩
        have h : ix_Match_l2 a1 k1 a2 (ix_Match_j19 v14 (ix_Match_l1 fuel a1 a2 (ix_Match_j12) r1 (k1 + 1))) 0 v20 = some r := h
        rw [ix_Match_l2.eq_1] at h
        cases h
      · obtain ⟨v20, rfl⟩ : ∃ x, x = s := ⟨s, rfl⟩
        have h : ix_Match_l2 a1 k1 a2 (ix_Match_j19 v14 (ix_Match_l1 fuel a1 a2 (ix_Match_j12) r1 (k1 + 1))) (m2 + 1) v20 = some r := h
        rw [ix_Match_l2.eq_2] at h
        refine W.seq ?_
        refine W.seq ?_
        refine W.join (σ := (Bool)) (fun s => [(0, .str a1), (1, .str a2), (6, l3 (some 10600) v14), (7, I6 v20), (8, I6 (k1 : Int)), (18, I6 (a2.size : Int)), (19, I6 (k1 : Int)), (41, .bool s)]) (fun s => (ix_Match_j22 v20 (ix_Match_l2 a1 k1 a2 (ix_Match_j19 v14 (ix_Match_l1 fuel a1 a2 (ix_Match_j12) r1 (k1 + 1))) m2) (ix_Match_j19 v14 (ix_Match_l1 fuel a1 a2 (ix_Match_j12) r1 (k1 + 1)))) s = some r) (fun s h => ?_) (fun hK22 => ?_)
        · obtain ⟨v25, rfl⟩ : ∃ x, x = s := ⟨s, rfl⟩
          have h : (ix_Match_j22 v20 (ix_Match_l2 a1 k1 a2 (ix_Match_j19 v14 (ix_Match_l1 fuel a1 a2 (ix_Match_j12) r1 (k1 + 1))) m2) (ix_Match_j19 v14 (ix_Match_l1 fuel a1 a2 (ix_Match_j12) r1 (k1 + 1)))) v25 = some r := h
          unfold ix_Match_j22 at h
          refine W.condB v25 (by kernel_rfl) (fun hb => ?_) (fun hb => ?_)
          · replace h := cond_t hb h
            refine W.skip ?_
            refine W.weak [0, 1, 6, 7, 8, 18, 19] [] [] [] (env' := [(0, .str a1), (1, .str a2), (6, l3 (some 10600) v14), (7, I6 v20), (8, I6 (k1 : Int)), (18, I6 (a2.size : Int)), (19, I6 (k1 : Int))]) (by kernel_rfl) ?_
            refine W.block ?_
            refine W.regT [0, 1, 6, 7, 8, 18, 19] [] [] [] (e2 := [(0, .str a1), (1, .str a2), (6, l3 (some 10600) v14), (7, I6 (W6 (v20 + 1))), (8, I6 (k1 : Int)), (18, I6 (a2.size : Int)), (19, I6 (k1 : Int))]) (by kernel_rfl) (by kernel_rfl) (fun _ h => h) ?_
            exact hN2 (W6 (v20 + 1)) h
          replace h := cond_f hb h
          refine W.exit ?_
          refine W.weak [0, 1, 6, 7, 18, 19] [] [] [] (env' := [(0, .str a1), (1, .str a2), (6, l3 (some 10600) v14), (7, I6 v20), (18, I6 (a2.size : Int)), (19, I6 (k1 : Int))]) (by kernel_rfl) ?_
          exact hK19 v20 h
        refine W.region (by kernel_rfl) ?_
        refine WO.boolK 7 (fun b => [(0, .str a1), (1, .str a2), (6, l3 (some 10600) v14), (7, I6 v20), (8, I6 (k1 : Int)), (18, I6 (a2.size : Int)), (19, I6 (k1 : Int)), (25, I6 (k1 : Int)), (26, I6 v20), (27, I6 (W6 ((k1 : Int) + v20))), (28, .str a2), (29, I6 (a2.size : Int)), (30, .bool b), (31, .bool b)]) (decide ((W6 ((k1 : Int) + v20)) < (a2.size : Int))) (by kernel_rfl) (fun hb => ?_) (fun hb => ?_)
        · replace h := cond_t hb h
          obtain ⟨e23, he23, h⟩ := bind_some h
          refine WO.pureK 7 (if (0 : Int) ≤ (k1 : Int) ∧ (k1 : Int) ≤ (W6 ((W6 ((k1 : Int) + v20)) + 1)) ∧ (W6 ((W6 ((k1 : Int) + v20)) + 1)) ≤ (a2.size : Int) then some (AV.str (a2.extract (Int.toNat (k1 : Int)) (Int.toNat (W6 ((W6 ((k1 : Int) + v20)) + 1))))) else none) (v := .str e23) (by kernel_rfl) (ssub_av he23) (e1 := [(0, .str a1), (1, .str a2), (6, l3 (some 10600) v14), (7, I6 v20), (8, I6 (k1 : Int)), (18, I6 (a2.size : Int)), (19, I6 (k1 : Int)), (25, I6 (k1 : Int)), (26, I6 v20), (27, I6 (W6 ((k1 : Int) + v20))), (28, .str a2), (29, I6 (a2.size : Int)), (30, .bool true), (31, .bool true), (32, .str a1), (33, .str a2), (34, I6 (k1 : Int)), (35, I6 (k1 : Int)), (36, I6 v20), (37, I6 (W6 ((k1 : Int) + v20))), (38, I6 (W6 ((W6 ((k1 : Int) + v20)) + 1))), (39, .str e23)]) (by kernel_rfl) ?_
          obtain ⟨w24, hw24, h⟩ := bind_some h
          refine WO.callK 0 (F := 44) (l := [.str a1, .str e23]) (C := []) (r := .bool w24) (by kernel_rfl) (by kernel_rfl) (run_st_Contains a1 e23 w24 hw24) (e1 := [(0, .str a1), (1, .str a2), (6, l3 (some 10600) v14), (7, I6 v20), (8, I6 (k1 : Int)), (18, I6 (a2.size : Int)), (19, I6 (k1 : Int)), (25, I6 (k1 : Int)), (26, I6 v20), (27, I6 (W6 ((k1 : Int) + v20))), (28, .str a2), (29, I6 (a2.size : Int)), (30, .bool true), (31, .bool true), (32, .str a1), (33, .str a2), (34, I6 (k1 : Int)), (35, I6 (k1 : Int)), (36, I6 v20), (37, I6 (W6 ((k1 : Int) + v20))), (38, I6 (W6 ((W6 ((k1 : Int) + v20)) + 1))), (39, .str e23), (40, .bool w24)]) (by kernel_rfl) ?_
          refine WO.fin [0, 1, 6, 7, 8, 18, 19, 41] [] [] [] (e2 := [(0, .str a1), (1, .str a2), (6, l3 (some 10600) v14), (7, I6 v20), (8, I6 (k1 : Int)), (18, I6 (a2.size : Int)), (19, I6 (k1 : Int)), (41, .bool w24)]) (by kernel_rfl) (fun _ h => h) ?_
          exact hK22 w24 h
        replace h := cond_f hb h
        refine WO.fin [0, 1, 6, 7, 8, 18, 19, 41] [] [] [] (e2 := [(0, .str a1), (1, .str a2), (6, l3 (some 10600) v14), (7, I6 v20), (8, I6 (k1 : Int)), (18, I6 (a2.size : Int)), (19, I6 (k1 : Int)), (41, .bool false)]) (by kernel_rfl) (fun _ h => h) ?_
        exact hK22 false h
  refine W.region (by kernel_rfl) ?_
  obtain ⟨w6, hw6, h⟩ := bind_some h
  refine WO.callK 1 (F := 40) (l := [.str a1]) (C := []) (r := .bool w6) (by kernel_rfl) (by kernel_rfl) (run_ix_valid a1 w6 hw6) (e1 := [(0, .str a1), (1, .str a2), (9, .str a1), (10, .bool w6)]) (by kernel_rfl) ?_
  refine WO.boolK 2 (fun b => [(0, .str a1), (1, .str a2), (9, .str a1), (10, .bool w6), (11, .bool b), (12, .bool b)]) (!w6) (by kernel_rfl) (fun hb => ?_) (fun hb => ?_)
  · replace h := cond_t hb h
    refine WO.fin [0, 1, 16] [] [] [] (e2 := [(0, .str a1), (1, .str a2), (16, .bool true)]) (by kernel_rfl) (fun _ h => h) ?_
    exact hK5 true h
  replace h := cond_f hb h
  obtain ⟨w7, hw7, h⟩ := bind_some h
  refine WO.callK 1 (F := 40) (l := [.str a2]) (C := []) (r := .bool w7) (by kernel_rfl) (by kernel_rfl) (run_ix_valid a2 w7 hw7) (e1 := [(0, .str a1), (1, .str a2), (9, .str a1), (10, .bool w6), (11, .bool false), (12, .bool false), (13, .str a2), (14, .bool w7)]) (by kernel_rfl) ?_
  refine WO.fin [0, 1, 16] [] [] [] (e2 := [(0, .str a1), (1, .str a2), (16, .bool (!w7))]) (by kernel_rfl) (fun _ h => h) ?_
  exact hK5 (!w7) h
def rf4_Match_j5 (v21 : (List Int)) : Option (List Int) :=
  (some v21)
def rf4_Match_j11 (v7 : (List Int)) (N1 : ((List Int) → Option (List Int))) (v19 : Int) : Option (List Int) :=
  (chk (capOk 8 ((v7 ++ [v19])).length) (N1 (v7 ++ [v19])))
def rf4_Match_l2 (fuel : Nat) (a1 : ByteArray) (k1 : Nat) (a2 : ByteArray) (K11 : (Int → Option (List Int))) : List Nat → Nat → Int → Option (List Int)
  | [], k2, v13 => (K11 v13)
  | x2 :: r2, k2, v13 => ((ssub a2 (k1 : Int) (a2.size : Int)).bind fun e16 => ((ssub a1 (k2 : Int) (a1.size : Int)).bind fun e17 => ((rf4_agree fuel e16 e17).bind fun w18 => ((rf4_Match_l2 fuel a1 k1 a2 K11 r2 (k2 + 1)) (if w18 > v13 then w18 else v13)))))
def rf4_Match_l1 (fuel : Nat) (a1 : ByteArray) (a2 : ByteArray) (K5 : ((List Int) → Option (List Int))) : List Nat → Nat → (List Int) → Option (List Int)
  | [], k1, v7 => (K5 v7)
  | x1 :: r1, k1, v7 => (chk (lenOk (List.range (Int.toNat (a1.size : Int)))) (rf4_Match_l2 fuel a1 k1 a2 (rf4_Match_j11 v7 (rf4_Match_l1 fuel a1 a2 K5 r1 (k1 + 1))) (List.range (Int.toNat (a1.size : Int))) 0 0))
def rf4_Match (fuel : Nat) (a1 : ByteArray) (a2 : ByteArray) : Option (List Int) :=
  (chk (lenOk (List.range (Int.toNat (a2.size : Int)))) (rf4_Match_l1 fuel a1 a2 (rf4_Match_j5) (List.range (Int.toNat (a2.size : Int))) 0 ([] : (List Int))))
theorem run_rf4_Match (fuel : Nat) (a1 : ByteArray) (a2 : ByteArray) (r : (List Int)) (h : rf4_Match fuel a1 a2 = some r) : Run Try.prog (.call 23 [.str a1, .str a2] (l3 (some 1) r)) := by
  refine call_of_W Try.func23 rfl (by kernel_rfl) (env0 := [(0, .str a1), (1, .str a2)]) (by kernel_rfl) ?_
  unfold rf4_Match at h
  refine W.seq ?_
  refine W.regT [0, 1] [] [] [] (e2 := [(0, .str a1), (1, .str a2)]) (by kernel_rfl) (by kernel_rfl) (fun _ h => h) ?_
  refine W.seq ?_
  refine W.regT [0, 1, 5] [] [] [] (e2 := [(0, .str a1), (1, .str a2), (5, .nils)]) (by kernel_rfl) (by kernel_rfl) (fun _ h => h) ?_
  refine W.seq ?_
  refine W.join (σ := ((List Int))) (fun s => [(5, l3 (some 10500) s)]) (fun s => (rf4_Match_j5) s = some r) (fun s h => ?_) (fun hK5 => ?_)
  · obtain ⟨v21, rfl⟩ : ∃ x, x = s := ⟨s, rfl⟩
    have h : (rf4_Match_j5) v21 = some r := h
    unfold rf4_Match_j5 at h
    refine W.seq ?_
    refine W.regT [4] [] [] [] (e2 := [(4, l3 (some 10500) v21)]) (by kernel_rfl) (by kernel_rfl) (fun _ h => h) ?_
    refine W.weak [4] [] [] [(10500, some 1)] (env' := [(4, l3 (some 1) v21)]) (by kernel_rfl) ?_
    have hr : aresults Try.prog Try.f23 [(4, l3 (some 1) v21)] = some (l3 (some 1) v21) := by kernel_rfl
    cases h
    exact W.ret hr
  refine W.seq ?_
  refine W.regT [0, 1, 5, 10, 11] [] [] [] (e2 := [(0, .str a1), (1, .str a2), (5, .nils), (10, I6 (a2.size : Int)), (11, .int .i64 0)]) (by kernel_rfl) (by kernel_rfl) (fun _ h => h) ?_
  refine W.block ?_
  obtain ⟨hl1, h⟩ := chk_some h
  refine W.weak [0, 1, 5, 10, 11] [] [(5, 0, 3, 1, 10500)] [] (env' := [(0, .str a1), (1, .str a2), (5, l3 (some 10500) ([] : (List Int))), (10, I6 (a2.size : Int)), (11, I6 ((0 : Nat) : Int))]) (by kernel_rfl) ?_
  refine W.range (σ := ((List Int))) (List.range (Int.toNat (a2.size : Int))) (fun k1 s => [(0, .str a1), (1, .str a2), (5, l3 (some 10500) s), (10, I6 (a2.size : Int)), (11, I6 (k1 : Int))]) (fun r0 k0 s => rf4_Match_l1 fuel a1 a2 (rf4_Match_j5) r0 k0 s = some r) (fun s h => ?_) (fun x1 r1 k1 s hx1 hk1 h hN1 => ?_) ([] : (List Int)) h
  · obtain ⟨v7, rfl⟩ : ∃ x, x = s := ⟨s, rfl⟩
    have h : rf4_Match_l1 fuel a1 a2 (rf4_Match_j5) [] ((List.range (Int.toNat (a2.size : Int)))).length v7 = some r := h
    rw [rf4_Match_l1.eq_1] at h
    refine W.seq ?_
    refine W.region (by kernel_rfl) ?_
    refine WO.pureK 0 (some (.bool (decide ((((List.range (Int.toNat (a2.size : Int)))).length : Int) < (a2.size : Int))))) (v := .bool false) (by kernel_rfl) (by rw [ltr_false (n := (a2.size : Int))]) (e1 := [(0, .str a1), (1, .str a2), (5, l3 (some 10500) v7), (10, I6 (a2.size : Int)), (11, I6 (((List.range (Int.toNat (a2.size : Int)))).length : Int)), (12, .bool false)]) (by kernel_rfl) ?_
    refine WO.fin ([0, 1, 5, 10, 11, 12]) [] [] [] (e2 := [(0, .str a1), (1, .str a2), (5, l3 (some 10500) v7), (10, I6 (a2.size : Int)), (11, I6 (((List.range (Int.toNat (a2.size : Int)))).length : Int)), (12, .bool false)]) (by kernel_rfl) (fun _ h => h) ?_
    refine W.seq ?_
    refine W.condB false (by kernel_rfl) (fun h => Bool.noConfusion h) (fun _ => ?_)
    refine W.exit ?_
    refine W.weak [5] [] [] [] (env' := [(5, l3 (some 10500) v7)]) (by kernel_rfl) ?_
    exact hK5 v7 h
  · obtain ⟨v7, rfl⟩ : ∃ x, x = s := ⟨s, rfl⟩
    have h : rf4_Match_l1 fuel a1 a2 (rf4_Match_j5) (x1 :: r1) k1 v7 = some r := h
    rw [rf4_Match_l1.eq_2] at h
    refine W.seq ?_
    refine W.region (by kernel_rfl) ?_
    refine WO.pureK 0 (some (.bool (decide ((k1 : Int) < (a2.size : Int))))) (v := .bool true) (by kernel_rfl) (by rw [ltr_true hk1]) (e1 := [(0, .str a1), (1, .str a2), (5, l3 (some 10500) v7), (10, I6 (a2.size : Int)), (11, I6 (k1 : Int)), (12, .bool true)]) (by kernel_rfl) ?_
    refine WO.fin ([0, 1, 5, 10, 11, 12]) [] [] [] (e2 := [(0, .str a1), (1, .str a2), (5, l3 (some 10500) v7), (10, I6 (a2.size : Int)), (11, I6 (k1 : Int)), (12, .bool true)]) (by kernel_rfl) (fun _ h => h) ?_
    refine W.seq ?_
    refine W.condB true (by kernel_rfl) (fun _ => ?_) (fun h => Bool.noConfusion h)
    refine W.skip ?_
    refine W.weak [0, 1, 5, 10, 11] [] [] [] (env' := [(0, .str a1), (1, .str a2), (5, l3 (some 10500) v7), (10, I6 (a2.size : Int)), (11, I6 (k1 : Int))]) (by kernel_rfl) ?_
    refine W.seq ?_
    refine W.block ?_
    refine W.seq ?_
    refine W.regT [0, 1, 5, 6, 10, 11] [] [] [] (e2 := [(0, .str a1), (1, .str a2), (5, l3 (some 10500) v7), (6, I6 (k1 : Int)), (10, I6 (a2.size : Int)), (11, I6 (k1 : Int))]) (by kernel_rfl) (by kernel_rfl) (fun _ h => h) ?_
    refine W.seq ?_
    refine W.regT [0, 1, 5, 6, 7, 10, 11] [] [] [] (e2 := [(0, .str a1), (1, .str a2), (5, l3 (some 10500) v7), (6, I6 (k1 : Int)), (7, .int .i64 0), (10, I6 (a2.size : Int)), (11, I6 (k1 : Int))]) (by kernel_rfl) (by kernel_rfl) (fun _ h => h) ?_
    refine W.seq ?_
    refine W.join (σ := (Int)) (fun s => [(0, .str a1), (1, .str a2), (5, l3 (some 10500) v7), (7, I6 s), (10, I6 (a2.size : Int)), (11, I6 (k1 : Int))]) (fun s => (rf4_Match_j11 v7 (rf4_Match_l1 fuel a1 a2 (rf4_Match_j5) r1 (k1 + 1))) s = some r) (fun s h => ?_) (fun hK11 => ?_)
    · obtain ⟨v19, rfl⟩ : ∃ x, x = s := ⟨s, rfl⟩
      have h : (rf4_Match_j11 v7 (rf4_Match_l1 fuel a1 a2 (rf4_Match_j5) r1 (k1 + 1))) v19 = some r := h
      unfold rf4_Match_j11 at h
      refine W.region (by kernel_rfl) ?_
      obtain ⟨hc20, h⟩ := chk_some h
      refine WO.appendK 3 (d := 32) (e := 3) (s := 1) (bytes := 8) (xs := (List.map (AV.int .i64) v7)) (ys := (List.map (AV.int .i64) [v19])) (zs := (List.map (AV.int .i64) (v7 ++ [v19]))) (env1 := [(0, .str a1), (1, .str a2), (5, l3 none v7), (7, I6 v19), (10, I6 (a2.size : Int)), (11, I6 (k1 : Int)), (29, l3 none v7), (30, I6 v19), (31, l3 (some 31) [v19])]) (by kernel_rfl) (List.map_append.symm) (by rw [List.length_map]; exact hc20) (e1 := [(0, .str a1), (1, .str a2), (5, l3 none v7), (7, I6 v19), (10, I6 (a2.size : Int)), (11, I6 (k1 : Int)), (29, l3 none v7), (30, I6 v19), (31, l3 (some 31) [v19]), (32, l3 (some 32) (v7 ++ [v19]))]) (by kernel_rfl) ?_
      refine WO.fin [0, 1, 5, 10, 11] [] [] [] (e2 := [(0, .str a1), (1, .str a2), (5, l3 (some 32) (v7 ++ [v19])), (10, I6 (a2.size : Int)), (11, I6 (k1 : Int))]) (by kernel_rfl) (fun _ h => h) ?_
      refine W.region (by kernel_rfl) ?_
      refine WO.pureK 0 (some (I6 (IntKind.wrap .i64 ((k1 : Int) + 1)))) (v := I6 ((k1 + 1 : Nat) : Int)) (by kernel_rfl) (by rw [wrap_succ hl1 hk1]) (e1 := [(0, .str a1), (1, .str a2), (5, l3 (some 32) (v7 ++ [v19])), (10, I6 (a2.size : Int)), (11, I6 (k1 : Int)), (33, I6 ((k1 + 1 : Nat) : Int))]) (by kernel_rfl) ?_
      refine WO.fin [0, 1, 5, 10, 11] [] [] [(32, some 10500)] (e2 := [(0, .str a1), (1, .str a2), (5, l3 (some 10500) (v7 ++ [v19])), (10, I6 (a2.size : Int)), (11, I6 ((k1 + 1 : Nat) : Int))]) (by kernel_rfl) (fun _ h => h) ?_
      exact hN1 (v7 ++ [v19]) h
    refine W.seq ?_
    refine W.regT [0, 1, 5, 6, 7, 10, 11, 15, 16] [] [] [] (e2 := [(0, .str a1), (1, .str a2), (5, l3 (some 10500) v7), (6, I6 (k1 : Int)), (7, .int .i64 0), (10, I6 (a2.size : Int)), (11, I6 (k1 : Int)), (15, I6 (a1.size : Int)), (16, .int .i64 0)]) (by kernel_rfl) (by kernel_rfl) (fun _ h => h) ?_
    refine W.block ?_
    obtain ⟨hl2, h⟩ := chk_some h
    refine W.weak [0, 1, 5, 6, 7, 10, 11, 15, 16] [] [] [] (env' := [(0, .str a1), (1, .str a2), (5, l3 (some 10500) v7), (6, I6 (k1 : Int)), (7, .int .i64 0), (10, I6 (a2.size : Int)), (11, I6 (k1 : Int)), (15, I6 (a1.size : Int)), (16, I6 ((0 : Nat) : Int))]) (by kernel_rfl) ?_
    refine W.range (σ := (Int)) (List.range (Int.toNat (a1.size : Int))) (fun k2 s => [(0, .str a1), (1, .str a2), (5, l3 (some 10500) v7), (6, I6 (k1 : Int)), (7, I6 s), (10, I6 (a2.size : Int)), (11, I6 (k1 : Int)), (15, I6 (a1.size : Int)), (16, I6 (k2 : Int))]) (fun r0 k0 s => rf4_Match_l2 fuel a1 k1 a2 (rf4_Match_j11 v7 (rf4_Match_l1 fuel a1 a2 (rf4_Match_j5) r1 (k1 + 1))) r0 k0 s = some r) (fun s h => ?_) (fun x2 r2 k2 s hx2 hk2 h hN2 => ?_) 0 h
    · obtain ⟨v13, rfl⟩ : ∃ x, x = s := ⟨s, rfl⟩
      have h : rf4_Match_l2 fuel a1 k1 a2 (rf4_Match_j11 v7 (rf4_Match_l1 fuel a1 a2 (rf4_Match_j5) r1 (k1 + 1))) [] ((List.range (Int.toNat (a1.size : Int)))).length v13 = some r := h
      rw [rf4_Match_l2.eq_1] at h
      refine W.seq ?_
      refine W.region (by kernel_rfl) ?_
      refine WO.pureK 0 (some (.bool (decide ((((List.range (Int.toNat (a1.size : Int)))).length : Int) < (a1.size : Int))))) (v := .bool false) (by kernel_rfl) (by rw [ltr_false (n := (a1.size : Int))]) (e1 := [(0, .str a1), (1, .str a2), (5, l3 (some 10500) v7), (6, I6 (k1 : Int)), (7, I6 v13), (10, I6 (a2.size : Int)), (11, I6 (k1 : Int)), (15, I6 (a1.size : Int)), (16, I6 (((List.range (Int.toNat (a1.size : Int)))).length : Int)), (17, .bool false)]) (by kernel_rfl) ?_
      refine WO.fin ([0, 1, 5, 6, 7, 10, 11, 15, 16, 17]) [] [] [] (e2 := [(0, .str a1), (1, .str a2), (5, l3 (some 10500) v7), (6, I6 (k1 : Int)), (7, I6 v13), (10, I6 (a2.size : Int)), (11, I6 (k1 : Int)), (15, I6 (a1.size : Int)), (16, I6 (((List.range (Int.toNat (a1.size : Int)))).length : Int)), (17, .bool false)]) (by kernel_rfl) (fun _ h => h) ?_
      refine W.seq ?_
      refine W.condB false (by kernel_rfl) (fun h => Bool.noConfusion h) (fun _ => ?_)
      refine W.exit ?_
      refine W.weak [0, 1, 5, 7, 10, 11] [] [] [] (env' := [(0, .str a1), (1, .str a2), (5, l3 (some 10500) v7), (7, I6 v13), (10, I6 (a2.size : Int)), (11, I6 (k1 : Int))]) (by kernel_rfl) ?_
      exact hK11 v13 h
    · obtain ⟨v13, rfl⟩ : ∃ x, x = s := ⟨s, rfl⟩
      have h : rf4_Match_l2 fuel a1 k1 a2 (rf4_Match_j11 v7 (rf4_Match_l1 fuel a1 a2 (rf4_Match_j5) r1 (k1 + 1))) (x2 :: r2) k2 v13 = some r := h
      rw [rf4_Match_l2.eq_2] at h
      refine W.seq ?_
      refine W.region (by kernel_rfl) ?_
      refine WO.pureK 0 (some (.bool (decide ((k2 : Int) < (a1.size : Int))))) (v := .bool true) (by kernel_rfl) (by rw [ltr_true hk2]) (e1 := [(0, .str a1), (1, .str a2), (5, l3 (some 10500) v7), (6, I6 (k1 : Int)), (7, I6 v13), (10, I6 (a2.size : Int)), (11, I6 (k1 : Int)), (15, I6 (a1.size : Int)), (16, I6 (k2 : Int)), (17, .bool true)]) (by kernel_rfl) ?_
      refine WO.fin ([0, 1, 5, 6, 7, 10, 11, 15, 16, 17]) [] [] [] (e2 := [(0, .str a1), (1, .str a2), (5, l3 (some 10500) v7), (6, I6 (k1 : Int)), (7, I6 v13), (10, I6 (a2.size : Int)), (11, I6 (k1 : Int)), (15, I6 (a1.size : Int)), (16, I6 (k2 : Int)), (17, .bool true)]) (by kernel_rfl) (fun _ h => h) ?_
      refine W.seq ?_
      refine W.condB true (by kernel_rfl) (fun _ => ?_) (fun h => Bool.noConfusion h)
      refine W.skip ?_
      refine W.weak [0, 1, 5, 6, 7, 10, 11, 15, 16] [] [] [] (env' := [(0, .str a1), (1, .str a2), (5, l3 (some 10500) v7), (6, I6 (k1 : Int)), (7, I6 v13), (10, I6 (a2.size : Int)), (11, I6 (k1 : Int)), (15, I6 (a1.size : Int)), (16, I6 (k2 : Int))]) (by kernel_rfl) ?_
      refine W.seq ?_
      refine W.block ?_
      refine W.seq ?_
      refine W.regT [0, 1, 5, 6, 7, 8, 10, 11, 15, 16] [] [] [] (e2 := [(0, .str a1), (1, .str a2), (5, l3 (some 10500) v7), (6, I6 (k1 : Int)), (7, I6 v13), (8, I6 (k2 : Int)), (10, I6 (a2.size : Int)), (11, I6 (k1 : Int)), (15, I6 (a1.size : Int)), (16, I6 (k2 : Int))]) (by kernel_rfl) (by kernel_rfl) (fun _ h => h) ?_
      refine W.region (by kernel_rfl) ?_
      obtain ⟨e16, he16, h⟩ := bind_some h
      refine WO.pureK 3 (if (0 : Int) ≤ (k1 : Int) ∧ (k1 : Int) ≤ (a2.size : Int) ∧ (a2.size : Int) ≤ (a2.size : Int) then some (AV.str (a2.extract (Int.toNat (k1 : Int)) (Int.toNat (a2.size : Int)))) else none) (v := .str e16) (by kernel_rfl) (ssub_av he16) (e1 := [(0, .str a1), (1, .str a2), (5, l3 (some 10500) v7), (6, I6 (k1 : Int)), (7, I6 v13), (8, I6 (k2 : Int)), (10, I6 (a2.size : Int)), (11, I6 (k1 : Int)), (15, I6 (a1.size : Int)), (16, I6 (k2 : Int)), (19, I6 v13), (20, .str a2), (21, I6 (k1 : Int)), (22, .str e16)]) (by kernel_rfl) ?_
      obtain ⟨e17, he17, h⟩ := bind_some h
      refine WO.pureK 2 (if (0 : Int) ≤ (k2 : Int) ∧ (k2 : Int) ≤ (a1.size : Int) ∧ (a1.size : Int) ≤ (a1.size : Int) then some (AV.str (a1.extract (Int.toNat (k2 : Int)) (Int.toNat (a1.size : Int)))) else none) (v := .str e17) (by kernel_rfl) (ssub_av he17) (e1 := [(0, .str a1), (1, .str a2), (5, l3 (some 10500) v7), (6, I6 (k1 : Int)), (7, I6 v13), (8, I6 (k2 : Int)), (10, I6 (a2.size : Int)), (11, I6 (k1 : Int)), (15, I6 (a1.size : Int)), (16, I6 (k2 : Int)), (19, I6 v13), (20, .str a2), (21, I6 (k1 : Int)), (22, .str e16), (23, .str a1), (24, I6 (k2 : Int)), (25, .str e17)]) (by kernel_rfl) ?_
      obtain ⟨w18, hw18, h⟩ := bind_some h
      refine WO.callK 0 (F := 43) (l := [.str e16, .str e17]) (C := []) (r := I6 w18) (by kernel_rfl) (by kernel_rfl) (run_rf4_agree fuel e16 e17 w18 hw18) (e1 := [(0, .str a1), (1, .str a2), (5, l3 (some 10500) v7), (6, I6 (k1 : Int)), (7, I6 v13), (8, I6 (k2 : Int)), (10, I6 (a2.size : Int)), (11, I6 (k1 : Int)), (15, I6 (a1.size : Int)), (16, I6 (k2 : Int)), (19, I6 v13), (20, .str a2), (21, I6 (k1 : Int)), (22, .str e16), (23, .str a1), (24, I6 (k2 : Int)), (25, .str e17), (26, I6 w18)]) (by kernel_rfl) ?_
      refine WO.fin [0, 1, 5, 6, 7, 10, 11, 15, 16] [] [] [] (e2 := [(0, .str a1), (1, .str a2), (5, l3 (some 10500) v7), (6, I6 (k1 : Int)), (7, I6 (if w18 > v13 then w18 else v13)), (10, I6 (a2.size : Int)), (11, I6 (k1 : Int)), (15, I6 (a1.size : Int)), (16, I6 (k2 : Int))]) (by kernel_rfl) (fun _ h => h) ?_
      refine W.region (by kernel_rfl) ?_
      refine WO.pureK 0 (some (I6 (IntKind.wrap .i64 ((k2 : Int) + 1)))) (v := I6 ((k2 + 1 : Nat) : Int)) (by kernel_rfl) (by rw [wrap_succ hl2 hk2]) (e1 := [(0, .str a1), (1, .str a2), (5, l3 (some 10500) v7), (6, I6 (k1 : Int)), (7, I6 (if w18 > v13 then w18 else v13)), (10, I6 (a2.size : Int)), (11, I6 (k1 : Int)), (15, I6 (a1.size : Int)), (16, I6 (k2 : Int)), (28, I6 ((k2 + 1 : Nat) : Int))]) (by kernel_rfl) ?_
      refine WO.fin [0, 1, 5, 6, 7, 10, 11, 15, 16] [] [] [] (e2 := [(0, .str a1), (1, .str a2), (5, l3 (some 10500) v7), (6, I6 (k1 : Int)), (7, I6 (if w18 > v13 then w18 else v13)), (10, I6 (a2.size : Int)), (11, I6 (k1 : Int)), (15, I6 (a1.size : Int)), (16, I6 ((k2 + 1 : Nat) : Int))]) (by kernel_rfl) (fun _ h => h) ?_
      exact hN2 (if w18 > v13 then w18 else v13) h
def lw4_IndexMatches_j14 (v16 : Bool) : Option Bool :=
  (some v16)
def lw4_IndexMatches_j17 (v21 : Bool) : Option Bool :=
  (some v21)
def lw4_IndexMatches_j10 (fuel : Nat) (w5 : ByteArray) (w6 : ByteArray) (w8 : ((List Int) × Int)) (v13 : Bool) : Option Bool :=
  (bif v13 then (bif ((w8.1.length : Int) == 0) then (bif (w8.2 == 2) then ((lw4_awake fuel).bind fun w15 => ((lw4_IndexMatches_j14) w15)) else ((lw4_IndexMatches_j14) false)) else ((lw4_IndexMatches_j14) false)) else ((rf4_Match fuel w5 w6).bind fun w18 => ((sl_Equal_int w8.1 w18).bind fun w19 => (bif w19 then (bif (w8.2 == 0) then ((lw4_awake fuel).bind fun w20 => ((lw4_IndexMatches_j17) w20)) else ((lw4_IndexMatches_j17) false)) else ((lw4_IndexMatches_j17) false)))))
def lw4_IndexMatches (fuel : Nat) (a1 : ByteArray) (a2 : ByteArray) : Option Bool :=
  ((lw4_few a1).bind fun w5 => ((lw4_few a2).bind fun w6 => ((ix_Match fuel w5 w6).bind fun w8 => ((rf4_Label w5).bind fun w11 => (bif (!w11) then ((lw4_IndexMatches_j10 fuel w5 w6 w8) true) else ((rf4_Label w6).bind fun w12 => ((lw4_IndexMatches_j10 fuel w5 w6 w8) (!w12))))))))
theorem run_lw4_IndexMatches (fuel : Nat) (a1 : ByteArray) (a2 : ByteArray) (r : Bool) (h : lw4_IndexMatches fuel a1 a2 = some r) : Run Try.prog (.call 4 [.str a1, .str a2] (.bool r)) := by
  refine call_of_W Try.func4 rfl (by kernel_rfl) (env0 := [(0, .str a1), (1, .str a2)]) (by kernel_rfl) ?_
  unfold lw4_IndexMatches at h
  refine W.seq ?_
  refine W.regT [0, 1] [] [] [] (e2 := [(0, .str a1), (1, .str a2)]) (by kernel_rfl) (by kernel_rfl) (fun _ h => h) ?_
  refine W.seq ?_
  refine W.region (by kernel_rfl) ?_
  obtain ⟨w5, hw5, h⟩ := bind_some h
  refine WO.callK 1 (F := 14) (l := [.str a1]) (C := []) (r := .str w5) (by kernel_rfl) (by kernel_rfl) (run_lw4_few a1 w5 hw5) (e1 := [(0, .str a1), (1, .str a2), (7, .str a1), (8, .str w5)]) (by kernel_rfl) ?_
  obtain ⟨w6, hw6, h⟩ := bind_some h
  refine WO.callK 1 (F := 14) (l := [.str a2]) (C := []) (r := .str w6) (by kernel_rfl) (by kernel_rfl) (run_lw4_few a2 w6 hw6) (e1 := [(0, .str a1), (1, .str a2), (7, .str a1), (8, .str w5), (9, .str a2), (10, .str w6)]) (by kernel_rfl) ?_
  refine WO.fin [0, 1] [] [] [] (e2 := [(0, .str w5), (1, .str w6)]) (by kernel_rfl) (fun _ h => h) ?_
  refine W.seq ?_
  refine W.region (by kernel_rfl) ?_
  obtain ⟨w8, hw8, h⟩ := bind_some h
  refine WO.callK 2 (F := 22) (l := [.str w5, .str w6]) (C := []) (r := .tup [l3 none w8.1, I6 w8.2]) (by kernel_rfl) (by kernel_rfl) (run_ix_Match fuel w5 w6 w8 hw8) (e1 := [(0, .str w5), (1, .str w6), (12, .str w5), (13, .str w6), (14, .tup [l3 none w8.1, I6 w8.2])]) (by kernel_rfl) ?_
  refine WO.fin [0, 1, 5, 6] [] [] [] (e2 := [(0, .str w5), (1, .str w6), (5, l3 none w8.1), (6, I6 w8.2)]) (by kernel_rfl) (fun _ h => h) ?_
  refine W.seq ?_
  refine W.seq ?_
  refine W.join (σ := (Bool)) (fun s => [(0, .str w5), (1, .str w6), (5, l3 none w8.1), (6, I6 w8.2), (24, .bool s)]) (fun s => (lw4_IndexMatches_j10 fuel w5 w6 w8) s = some r) (fun s h => ?_) (fun hK10 => ?_)
  · obtain ⟨v13, rfl⟩ : ∃ x, x = s := ⟨s, rfl⟩
    have h : (lw4_IndexMatches_j10 fuel w5 w6 w8) v13 = some r := h
    unfold lw4_IndexMatches_j10 at h
    refine W.condB v13 (by kernel_rfl) (fun hb => ?_) (fun hb => ?_)
    · replace h := cond_t hb h
      refine W.seq ?_
      refine W.join (σ := (Bool)) (fun s => [(4, .bool s)]) (fun s => (lw4_IndexMatches_j14) s = some r) (fun s h => ?_) (fun hK14 => ?_)
      · obtain ⟨v16, rfl⟩ : ∃ x, x = s := ⟨s, rfl⟩
        have h : (lw4_IndexMatches_j14) v16 = some r := h
        unfold lw4_IndexMatches_j14 at h
        refine W.weak [4] [] [] [] (env' := [(4, .bool v16)]) (by kernel_rfl) ?_
        have hr : aresults Try.prog Try.f4 [(4, .bool v16)] = some (.bool v16) := by kernel_rfl
        cases h
        exact W.ret hr
      refine W.region (by kernel_rfl) ?_
      refine WO.pureK 1 (some (I6 ((List.map (AV.int .i64) w8.1).length : Int))) (v := I6 (w8.1.length : Int)) (by kernel_rfl) (by rw [List.length_map]) (e1 := [(0, .str w5), (1, .str w6), (5, l3 none w8.1), (6, I6 w8.2), (24, .bool v13), (25, l3 none w8.1), (26, I6 (w8.1.length : Int))]) (by kernel_rfl) ?_
      refine WO.boolK 2 (fun b => [(0, .str w5), (1, .str w6), (5, l3 none w8.1), (6, I6 w8.2), (24, .bool v13), (25, l3 none w8.1), (26, I6 (w8.1.length : Int)), (27, .bool b), (28, .bool b)]) ((w8.1.length : Int) == 0) (by kernel_rfl) (fun hb => ?_) (fun hb => ?_)
      · replace h := cond_t hb h
        refine WO.boolK 4 (fun b => [(0, .str w5), (1, .str w6), (5, l3 none w8.1), (6, I6 w8.2), (24, .bool v13), (25, l3 none w8.1), (26, I6 (w8.1.length : Int)), (27, .bool true), (28, .bool true), (29, I6 w8.2), (30, .bool b), (31, .bool b), (32, .bool b)]) (w8.2 == 2) (by kernel_rfl) (fun hb => ?_) (fun hb => ?_)
        · replace h := cond_t hb h
          obtain ⟨w15, hw15, h⟩ := bind_some h
          refine WO.callK 0 (F := 18) (l := []) (C := []) (r := .bool w15) (by kernel_rfl) (by kernel_rfl) (run_lw4_awake fuel w15 hw15) (e1 := [(0, .str w5), (1, .str w6), (5, l3 none w8.1), (6, I6 w8.2), (24, .bool v13), (25, l3 none w8.1), (26, I6 (w8.1.length : Int)), (27, .bool true), (28, .bool true), (29, I6 w8.2), (30, .bool true), (31, .bool true), (32, .bool true), (33, .bool w15)]) (by kernel_rfl) ?_
          refine WO.fin [4] [] [] [] (e2 := [(4, .bool w15)]) (by kernel_rfl) (fun _ h => h) ?_
          exact hK14 w15 h
        replace h := cond_f hb h
        refine WO.fin [4] [] [] [] (e2 := [(4, .bool false)]) (by kernel_rfl) (fun _ h => h) ?_
        exact hK14 false h
      replace h := cond_f hb h
      refine WO.fin [4] [] [] [] (e2 := [(4, .bool false)]) (by kernel_rfl) (fun _ h => h) ?_
      exact hK14 false h
    replace h := cond_f hb h
    refine W.skip ?_
    refine W.weak [0, 1, 5, 6] [] [] [] (env' := [(0, .str w5), (1, .str w6), (5, l3 none w8.1), (6, I6 w8.2)]) (by kernel_rfl) ?_
    refine W.seq ?_
    refine W.join (σ := (Bool)) (fun s => [(4, .bool s)]) (fun s => (lw4_IndexMatches_j17) s = some r) (fun s h => ?_) (fun hK17 => ?_)
    · obtain ⟨v21, rfl⟩ : ∃ x, x = s := ⟨s, rfl⟩
      have h : (lw4_IndexMatches_j17) v21 = some r := h
      unfold lw4_IndexMatches_j17 at h
      refine W.weak [4] [] [] [] (env' := [(4, .bool v21)]) (by kernel_rfl) ?_
      have hr : aresults Try.prog Try.f4 [(4, .bool v21)] = some (.bool v21) := by kernel_rfl
      cases h
      exact W.ret hr
    refine W.region (by kernel_rfl) ?_
    obtain ⟨w18, hw18, h⟩ := bind_some h
    refine WO.callK 3 (F := 23) (l := [.str w5, .str w6]) (C := []) (r := l3 (some 1) w18) (by kernel_rfl) (by kernel_rfl) (run_rf4_Match fuel w5 w6 w18 hw18) (e1 := [(0, .str w5), (1, .str w6), (5, l3 none w8.1), (6, I6 w8.2), (35, l3 none w8.1), (36, .str w5), (37, .str w6), (38, l3 (some 38) w18)]) (by kernel_rfl) ?_
    obtain ⟨w19, hw19, h⟩ := bind_some h
    refine WO.callK 0 (F := 19) (l := [l3 none w8.1, l3 none w18]) (C := []) (r := .bool w19) (by kernel_rfl) (by kernel_rfl) (run_sl_Equal_int w8.1 w18 w19 hw19) (e1 := [(0, .str w5), (1, .str w6), (5, l3 none w8.1), (6, I6 w8.2), (35, l3 none w8.1), (36, .str w5), (37, .str w6), (38, l3 (some 38) w18), (39, .bool w19)]) (by kernel_rfl) ?_
    refine WO.boolK 1 (fun b => [(0, .str w5), (1, .str w6), (5, l3 none w8.1), (6, I6 w8.2), (35, l3 none w8.1), (36, .str w5), (37, .str w6), (38, l3 (some 38) w18), (39, .bool b), (40, .bool b)]) w19 (by kernel_rfl) (fun hb => ?_) (fun hb => ?_)
    · replace h := cond_t hb h
      refine WO.boolK 4 (fun b => [(0, .str w5), (1, .str w6), (5, l3 none w8.1), (6, I6 w8.2), (35, l3 none w8.1), (36, .str w5), (37, .str w6), (38, l3 (some 38) w18), (39, .bool true), (40, .bool true), (41, I6 w8.2), (42, .bool b), (43, .bool b), (44, .bool b)]) (w8.2 == 0) (by kernel_rfl) (fun hb => ?_) (fun hb => ?_)
      · replace h := cond_t hb h
        obtain ⟨w20, hw20, h⟩ := bind_some h
        refine WO.callK 0 (F := 18) (l := []) (C := []) (r := .bool w20) (by kernel_rfl) (by kernel_rfl) (run_lw4_awake fuel w20 hw20) (e1 := [(0, .str w5), (1, .str w6), (5, l3 none w8.1), (6, I6 w8.2), (35, l3 none w8.1), (36, .str w5), (37, .str w6), (38, l3 (some 38) w18), (39, .bool true), (40, .bool true), (41, I6 w8.2), (42, .bool true), (43, .bool true), (44, .bool true), (45, .bool w20)]) (by kernel_rfl) ?_
        refine WO.fin [4] [] [] [] (e2 := [(4, .bool w20)]) (by kernel_rfl) (fun _ h => h) ?_
        exact hK17 w20 h
      replace h := cond_f hb h
      refine WO.fin [4] [] [] [] (e2 := [(4, .bool false)]) (by kernel_rfl) (fun _ h => h) ?_
      exact hK17 false h
    replace h := cond_f hb h
    refine WO.fin [4] [] [] [] (e2 := [(4, .bool false)]) (by kernel_rfl) (fun _ h => h) ?_
    exact hK17 false h
  refine W.region (by kernel_rfl) ?_
  obtain ⟨w11, hw11, h⟩ := bind_some h
  refine WO.callK 1 (F := 17) (l := [.str w5]) (C := []) (r := .bool w11) (by kernel_rfl) (by kernel_rfl) (run_rf4_Label w5 w11 hw11) (e1 := [(0, .str w5), (1, .str w6), (5, l3 none w8.1), (6, I6 w8.2), (17, .str w5), (18, .bool w11)]) (by kernel_rfl) ?_
  refine WO.boolK 2 (fun b => [(0, .str w5), (1, .str w6), (5, l3 none w8.1), (6, I6 w8.2), (17, .str w5), (18, .bool w11), (19, .bool b), (20, .bool b)]) (!w11) (by kernel_rfl) (fun hb => ?_) (fun hb => ?_)
  · replace h := cond_t hb h
    refine WO.fin [0, 1, 5, 6, 24] [] [] [] (e2 := [(0, .str w5), (1, .str w6), (5, l3 none w8.1), (6, I6 w8.2), (24, .bool true)]) (by kernel_rfl) (fun _ h => h) ?_
    exact hK10 true h
  replace h := cond_f hb h
  obtain ⟨w12, hw12, h⟩ := bind_some h
  refine WO.callK 1 (F := 17) (l := [.str w6]) (C := []) (r := .bool w12) (by kernel_rfl) (by kernel_rfl) (run_rf4_Label w6 w12 hw12) (e1 := [(0, .str w5), (1, .str w6), (5, l3 none w8.1), (6, I6 w8.2), (17, .str w5), (18, .bool w11), (19, .bool false), (20, .bool false), (21, .str w6), (22, .bool w12)]) (by kernel_rfl) ?_
  refine WO.fin [0, 1, 5, 6, 24] [] [] [] (e2 := [(0, .str w5), (1, .str w6), (5, l3 none w8.1), (6, I6 w8.2), (24, .bool (!w12))]) (by kernel_rfl) (fun _ h => h) ?_
  exact hK10 (!w12) h

end Go.AM
