/- PRINTED by gen.py: pure functions and the proofs that the code computes them. No statement of the seat is proved here. -/
import Derived.Test.YtmfdgonjnckdhaaS1
set_option maxRecDepth 100000
set_option linter.unusedVariables false
set_option linter.unusedSimpArgs false
namespace Go.AM
open Go.Proofs
def sl_breakPatternsCmpFunc_int_j20 (n2 : Nat) (a3 : Int) (v12 : (List Int)) (v14 : Int) (w19 : (Int × Int)) (N1 : ((List Int) → Int → Int → Option (List Int))) (v22 : Int) : Option (List Int) :=
  (chk (decide ((0 : Int) ≤ (IntKind.wrap .i64 (a3 + v22)) ∧ (IntKind.wrap .i64 (a3 + v22)) < ((n2 : Nat) : Int))) ((v12[(0 + Int.toNat (IntKind.wrap .i64 (a3 + v22)))]?).bind fun e24 => (chk (decide ((0 : Int) ≤ v14 ∧ v14 < ((n2 : Nat) : Int))) ((v12[(0 + Int.toNat v14)]?).bind fun e26 => (chk (decide ((0 : Int) ≤ v14 ∧ v14 < ((n2 : Nat) : Int))) ((upd v12 (0 + Int.toNat v14) e24).bind fun u28 => (chk (decide ((0 : Int) ≤ (IntKind.wrap .i64 (a3 + v22)) ∧ (IntKind.wrap .i64 (a3 + v22)) < ((n2 : Nat) : Int))) ((upd u28 (0 + Int.toNat (IntKind.wrap .i64 (a3 + v22))) e26).bind fun u31 => (N1 u31 w19.2 (IntKind.wrap .i64 (v14 + 1)))))))))))
def sl_breakPatternsCmpFunc_int_l1 (n2 : Nat) (a3 : Int) (a4 : Int) (w10 : Int) : Nat → (List Int) → Int → Int → Option (List Int)
  | 0, _, _, _ => none
  | m1 + 1, v12, v13, v14 => (bif (decide (v14 ≤ (IntKind.wrap .i64 ((IntKind.wrap .i64 (a3 + (IntKind.wrap .i64 ((IntKind.wrap .i64 (((IntKind.wrap .i64 (a4 - a3))).tdiv 4)) * 2)))) + 1)))) then ((sl_xorshift_Next v13).bind fun w19 => (bif (decide ((IntKind.wrap .i64 (iAnd .u64 w19.1 (IntKind.wrap .u64 (w10 - 1)))) ≥ (IntKind.wrap .i64 (a4 - a3)))) then ((sl_breakPatternsCmpFunc_int_j20 n2 a3 v12 v14 w19 (sl_breakPatternsCmpFunc_int_l1 n2 a3 a4 w10 m1)) (IntKind.wrap .i64 ((IntKind.wrap .i64 (iAnd .u64 w19.1 (IntKind.wrap .u64 (w10 - 1)))) - (IntKind.wrap .i64 (a4 - a3))))) else ((sl_breakPatternsCmpFunc_int_j20 n2 a3 v12 v14 w19 (sl_breakPatternsCmpFunc_int_l1 n2 a3 a4 w10 m1)) (IntKind.wrap .i64 (iAnd .u64 w19.1 (IntKind.wrap .u64 (w10 - 1))))))) else (some v12))
def sl_breakPatternsCmpFunc_int (fuel : Nat) (a1 : (List Int)) (n2 : Nat) (a3 : Int) (a4 : Int) (g5 : (Int → Int → Option Int)) : Option (List Int) :=
  (bif (decide ((IntKind.wrap .i64 (a4 - a3)) ≥ 8)) then ((sl_nextPowerOfTwo (IntKind.wrap .i64 (a4 - a3))).bind fun w10 => (sl_breakPatternsCmpFunc_int_l1 n2 a3 a4 w10 fuel a1 (IntKind.wrap .u64 (IntKind.wrap .i64 (a4 - a3))) (IntKind.wrap .i64 ((IntKind.wrap .i64 (a3 + (IntKind.wrap .i64 ((IntKind.wrap .i64 (((IntKind.wrap .i64 (a4 - a3))).tdiv 4)) * 2)))) - 1)))) else (some a1))
theorem run_sl_breakPatternsCmpFunc_int (fuel : Nat) (a1 : (List Int)) (n2 : Nat) (a3 : Int) (a4 : Int) (g5 : (Int → Int → Option Int)) (F_g5 : Nat) (C_g5 : List AV) (hok_g5 : okFn Try.prog F_g5 = true) (hrun_g5 : ∀ (x0 : Int) (x1 : Int) r, g5 x0 x1 = some r → Run Try.prog (.call F_g5 ([I6 x0, I6 x1] ++ C_g5) (I6 r))) (r : (List Int)) (h : sl_breakPatternsCmpFunc_int fuel a1 n2 a3 a4 g5 = some r) : Run Try.prog (.callM 98 [S1 n2, I6 a3, I6 a4, .clo F_g5 C_g5] [O1 a1] (.tup []) [O1 r]) := by
  refine callM_of_W Try.func98 rfl (by kernel_rfl) (env0 := [(0, S1 n2), (1, I6 a3), (2, I6 a4), (3, .clo F_g5 C_g5), O1 a1]) (by kernel_rfl) ?_
  unfold sl_breakPatternsCmpFunc_int at h
  refine W.seq ?_
  refine W.regT [0, 1, 8, 2000000] [] [] [] (e2 := [(0, S1 n2), (1, I6 a3), (8, I6 (W6 (a4 - a3))), O1 a1]) (by kernel_rfl) (by kernel_rfl) (fun _ h => h) ?_
  refine W.seq ?_
  refine W.regT [0, 1, 8, 17, 2000000] [] [] [] (e2 := [(0, S1 n2), (1, I6 a3), (8, I6 (W6 (a4 - a3))), (17, .bool (decide ((W6 (a4 - a3)) ≥ 8))), O1 a1]) (by kernel_rfl) (by kernel_rfl) (fun _ h => h) ?_
  refine W.condB (decide ((W6 (a4 - a3)) ≥ 8)) (by kernel_rfl) (fun hb => ?_) (fun hb => ?_)
  · replace h := cond_t hb h
    refine W.seq ?_
    refine W.regT [0, 1, 8, 9, 2000000] [] [] [] (e2 := [(0, S1 n2), (1, I6 a3), (8, I6 (W6 (a4 - a3))), (9, .box [.int .u64 (IntKind.wrap .u64 (W6 (a4 - a3)))]), O1 a1]) (by kernel_rfl) (by kernel_rfl) (fun _ h => h) ?_
    refine W.seq ?_
    refine W.region (by kernel_rfl) ?_
    obtain ⟨w10, hw10, h⟩ := bind_some h
    refine WO.callK 1 (F := 88) (l := [I6 (W6 (a4 - a3))]) (C := []) (r := .int .u64 w10) (by kernel_rfl) (by kernel_rfl) (run_sl_nextPowerOfTwo (W6 (a4 - a3)) w10 hw10) (e1 := [(0, S1 n2), (1, I6 a3), (8, I6 (W6 (a4 - a3))), (9, .box [.int .u64 (IntKind.wrap .u64 (W6 (a4 - a3)))]), (20, I6 (W6 (a4 - a3))), (21, .int .u64 w10), O1 a1]) (by kernel_rfl) ?_
    refine WO.fin [0, 1, 8, 9, 10, 2000000] [] [] [] (e2 := [(0, S1 n2), (1, I6 a3), (8, I6 (W6 (a4 - a3))), (9, .box [.int .u64 (IntKind.wrap .u64 (W6 (a4 - a3)))]), (10, .int .u64 w10), O1 a1]) (by kernel_rfl) (fun _ h => h) ?_
    refine W.seq ?_
    refine W.regT [0, 1, 8, 9, 10, 11, 2000000] [] [] [] (e2 := [(0, S1 n2), (1, I6 a3), (8, I6 (W6 (a4 - a3))), (9, .box [.int .u64 (IntKind.wrap .u64 (W6 (a4 - a3)))]), (10, .int .u64 w10), (11, I6 (W6 ((W6 (a3 + (W6 ((W6 (((W6 (a4 - a3))).tdiv 4)) * 2)))) - 1))), O1 a1]) (by kernel_rfl) (by kernel_rfl) (fun _ h => h) ?_
    refine W.block ?_
    refine W.weak [0, 1, 8, 9, 10, 11, 2000000] [] [] [] (env' := [(0, S1 n2), (1, I6 a3), (8, I6 (W6 (a4 - a3))), (9, .box [.int .u64 (IntKind.wrap .u64 (W6 (a4 - a3)))]), (10, .int .u64 w10), (11, I6 (W6 ((W6 (a3 + (W6 ((W6 (((W6 (a4 - a3))).tdiv 4)) * 2)))) - 1))), O1 a1]) (by kernel_rfl) ?_
    refine W.fuel (σ := ((List Int) × Int × Int)) (fun s => [(0, S1 n2), (1, I6 a3), (8, I6 (W6 (a4 - a3))), (9, .box [.int .u64 s.2.1]), (10, .int .u64 w10), (11, I6 s.2.2), (2000000, .obj 3 1 (List.map (AV.int .i64) s.1))]) (fun m0 s => sl_breakPatternsCmpFunc_int_l1 n2 a3 a4 w10 m0 s.1 s.2.1 s.2.2 = some r) (fun s h => ?_) (fun m1 s h hN1 => ?_) fuel (a1, (IntKind.wrap .u64 (W6 (a4 - a3))), (W6 ((W6 (a3 + (W6 ((W6 (((W6 (a4 - a3))).tdiv 4)) * 2)))) - 1))) h
    · obtain ⟨v12, v13, v14⟩ := s
      have h : sl_breakPatternsCmpFunc_int_l1 n2 a3 a4 w10 0 v12 v13 v14 = some r := h
      rw [sl_breakPatternsCmpFunc_int_l1.eq_1] at h
      cases h
    · obtain ⟨v12, v13, v14⟩ := s
      have h : sl_breakPatternsCmpFunc_int_l1 n2 a3 a4 w10 (m1 + 1) v12 v13 v14 = some r := h
      rw [sl_breakPatternsCmpFunc_int_l1.eq_2] at h
      refine W.seq ?_
      refine W.seq ?_
      refine W.regT [0, 1, 8, 9, 10, 11, 35, 2000000] [] [] [] (e2 := [(0, S1 n2), (1, I6 a3), (8, I6 (W6 (a4 - a3))), (9, .box [.int .u64 v13]), (10, .int .u64 w10), (11, I6 v14), (35, .bool (decide (v14 ≤ (W6 ((W6 (a3 + (W6 ((W6 (((W6 (a4 - a3))).tdiv 4)) * 2)))) + 1))))), O1 v12]) (by kernel_rfl) (by kernel_rfl) (fun _ h => h) ?_
      refine W.condB (decide (v14 ≤ (W6 ((W6 (a3 + (W6 ((W6 (((W6 (a4 - a3))).tdiv 4)) * 2)))) + 1)))) (by kernel_rfl) (fun hb => ?_) (fun hb => ?_)
      · replace h := cond_t hb h
        refine W.skip ?_
        refine W.weak [0, 1, 8, 9, 10, 11, 2000000] [] [] [] (env' := [(0, S1 n2), (1, I6 a3), (8, I6 (W6 (a4 - a3))), (9, .box [.int .u64 v13]), (10, .int .u64 w10), (11, I6 v14), O1 v12]) (by kernel_rfl) ?_
        refine W.seq ?_
        refine W.block ?_
        refine W.seq ?_
        refine W.region (by kernel_rfl) ?_
        obtain ⟨w19, hw19, h⟩ := bind_some h
        refine WO.callMK 0 [(9, 2000000)] [] (F := 89) (args := [.pb 2000000 0]) (hp := [(2000000, .box [.int .u64 v13])]) (hp2 := [(2000000, .box [.int .u64 w19.2])]) (r := .int .u64 w19.1) (by kernel_rfl) (run_sl_xorshift_Next v13 w19 hw19) (e1 := [(0, S1 n2), (1, I6 a3), (8, I6 (W6 (a4 - a3))), (9, .box [.int .u64 w19.2]), (10, .int .u64 w10), (11, I6 v14), (38, .int .u64 w19.1), O1 v12]) (by kernel_rfl) ?_
        refine WO.fin [0, 1, 8, 9, 10, 11, 12, 2000000] [] [] [] (e2 := [(0, S1 n2), (1, I6 a3), (8, I6 (W6 (a4 - a3))), (9, .box [.int .u64 w19.2]), (10, .int .u64 w10), (11, I6 v14), (12, I6 (W6 (iAnd .u64 w19.1 (IntKind.wrap .u64 (w10 - 1))))), O1 v12]) (by kernel_rfl) (fun _ h => h) ?_
        refine W.seq ?_
        refine W.join (σ := (Int)) (fun s => [(0, S1 n2), (1, I6 a3), (8, I6 (W6 (a4 - a3))), (9, .box [.int .u64 w19.2]), (10, .int .u64 w10), (11, I6 v14), (12, I6 s), O1 v12]) (fun s => (sl_breakPatternsCmpFunc_int_j20 n2 a3 v12 v14 w19 (sl_breakPatternsCmpFunc_int_l1 n2 a3 a4 w10 m1)) s = some r) (fun s h => ?_) (fun hK20 => ?_)
        · obtain ⟨v22, rfl⟩ : ∃ x, x = s := ⟨s, rfl⟩
          have h : (sl_breakPatternsCmpFunc_int_j20 n2 a3 v12 v14 w19 (sl_breakPatternsCmpFunc_int_l1 n2 a3 a4 w10 m1)) v22 = some r := h
          unfold sl_breakPatternsCmpFunc_int_j20 at h
          refine W.region (by kernel_rfl) ?_
          obtain ⟨hc23, h⟩ := chk_some h
          refine WO.pureK 10 (if (0 : Int) ≤ (W6 (a3 + v22)) ∧ (W6 (a3 + v22)) < ((n2 : Nat) : Int) then some (.pe 2000000 1 (0 + Int.toNat (W6 (a3 + v22))) 0) else none) (v := .pe 2000000 1 (0 + Int.toNat (W6 (a3 + v22))) 0) (by kernel_rfl) (ite_some hc23) (e1 := [(0, S1 n2), (1, I6 a3), (8, I6 (W6 (a4 - a3))), (9, .box [.int .u64 w19.2]), (10, .int .u64 w10), (11, I6 v14), (12, I6 v22), (49, S1 n2), (50, I6 v14), (51, S1 n2), (52, I6 a3), (53, I6 v22), (54, I6 (W6 (a3 + v22))), (55, S1 n2), (56, I6 a3), (57, I6 v22), (58, I6 (W6 (a3 + v22))), (59, .pe 2000000 1 (0 + Int.toNat (W6 (a3 + v22))) 0), O1 v12]) (by kernel_rfl) ?_
          obtain ⟨e24, he24, h⟩ := bind_some h
          refine WO.pureK 0 (match (List.map (AV.int .i64) v12)[(0 + Int.toNat (W6 (a3 + v22)))]? with | some y => cut Try.prog 3 (y.cells.map AV.strip) 0 | none => none) (v := I6 e24) (by kernel_rfl) ((pe_ld (f := (AV.int .i64)) (G := (fun y => cut Try.prog 3 (y.cells.map AV.strip) 0)) he24).trans (by kernel_rfl)) (e1 := [(0, S1 n2), (1, I6 a3), (8, I6 (W6 (a4 - a3))), (9, .box [.int .u64 w19.2]), (10, .int .u64 w10), (11, I6 v14), (12, I6 v22), (49, S1 n2), (50, I6 v14), (51, S1 n2), (52, I6 a3), (53, I6 v22), (54, I6 (W6 (a3 + v22))), (55, S1 n2), (56, I6 a3), (57, I6 v22), (58, I6 (W6 (a3 + v22))), (59, .pe 2000000 1 (0 + Int.toNat (W6 (a3 + v22))) 0), (60, I6 e24), O1 v12]) (by kernel_rfl) ?_
          obtain ⟨hc25, h⟩ := chk_some h
          refine WO.pureK 2 (if (0 : Int) ≤ v14 ∧ v14 < ((n2 : Nat) : Int) then some (.pe 2000000 1 (0 + Int.toNat v14) 0) else none) (v := .pe 2000000 1 (0 + Int.toNat v14) 0) (by kernel_rfl) (ite_some hc25) (e1 := [(0, S1 n2), (1, I6 a3), (8, I6 (W6 (a4 - a3))), (9, .box [.int .u64 w19.2]), (10, .int .u64 w10), (11, I6 v14), (12, I6 v22), (49, S1 n2), (50, I6 v14), (51, S1 n2), (52, I6 a3), (53, I6 v22), (54, I6 (W6 (a3 + v22))), (55, S1 n2), (56, I6 a3), (57, I6 v22), (58, I6 (W6 (a3 + v22))), (59, .pe 2000000 1 (0 + Int.toNat (W6 (a3 + v22))) 0), (60, I6 e24), (61, S1 n2), (62, I6 v14), (63, .pe 2000000 1 (0 + Int.toNat v14) 0), O1 v12]) (by kernel_rfl) ?_
          obtain ⟨e26, he26, h⟩ := bind_some h
          refine WO.pureK 0 (match (List.map (AV.int .i64) v12)[(0 + Int.toNat v14)]? with | some y => cut Try.prog 3 (y.cells.map AV.strip) 0 | none => none) (v := I6 e26) (by kernel_rfl) ((pe_ld (f := (AV.int .i64)) (G := (fun y => cut Try.prog 3 (y.cells.map AV.strip) 0)) he26).trans (by kernel_rfl)) (e1 := [(0, S1 n2), (1, I6 a3), (8, I6 (W6 (a4 - a3))), (9, .box [.int .u64 w19.2]), (10, .int .u64 w10), (11, I6 v14), (12, I6 v22), (49, S1 n2), (50, I6 v14), (51, S1 n2), (52, I6 a3), (53, I6 v22), (54, I6 (W6 (a3 + v22))), (55, S1 n2), (56, I6 a3), (57, I6 v22), (58, I6 (W6 (a3 + v22))), (59, .pe 2000000 1 (0 + Int.toNat (W6 (a3 + v22))) 0), (60, I6 e24), (61, S1 n2), (62, I6 v14), (63, .pe 2000000 1 (0 + Int.toNat v14) 0), (64, I6 e26), O1 v12]) (by kernel_rfl) ?_
          obtain ⟨hc27, h⟩ := chk_some h
          refine WO.pureK 0 (if (0 : Int) ≤ v14 ∧ v14 < ((n2 : Nat) : Int) then some (.pe 2000000 1 (0 + Int.toNat v14) 0) else none) (v := .pe 2000000 1 (0 + Int.toNat v14) 0) (by kernel_rfl) (ite_some hc27) (e1 := [(0, S1 n2), (1, I6 a3), (8, I6 (W6 (a4 - a3))), (9, .box [.int .u64 w19.2]), (10, .int .u64 w10), (11, I6 v14), (12, I6 v22), (49, S1 n2), (50, I6 v14), (51, S1 n2), (52, I6 a3), (53, I6 v22), (54, I6 (W6 (a3 + v22))), (55, S1 n2), (56, I6 a3), (57, I6 v22), (58, I6 (W6 (a3 + v22))), (59, .pe 2000000 1 (0 + Int.toNat (W6 (a3 + v22))) 0), (60, I6 e24), (61, S1 n2), (62, I6 v14), (63, .pe 2000000 1 (0 + Int.toNat v14) 0), (64, I6 e26), (65, .pe 2000000 1 (0 + Int.toNat v14) 0), O1 v12]) (by kernel_rfl) ?_
          obtain ⟨u28, hu28, h⟩ := bind_some h
          obtain ⟨y29, hyy29, hzy29⟩ := upd_some hu28
          refine WO.storeK 0 (id := 2000000) (e := 3) (s := 1) (j := (0 + Int.toNat v14)) (off := 0) (vs := [I6 e24]) (xs := (List.map (AV.int .i64) v12)) (zs := (List.map (AV.int .i64) u28)) (y := ((AV.int .i64)) y29) (y' := ((AV.int .i64)) e24) (by kernel_rfl) (upd_get hyy29) (by kernel_rfl) (upd_set hzy29) (e1 := [(0, S1 n2), (1, I6 a3), (8, I6 (W6 (a4 - a3))), (9, .box [.int .u64 w19.2]), (10, .int .u64 w10), (11, I6 v14), (12, I6 v22), (49, S1 n2), (50, I6 v14), (51, S1 n2), (52, I6 a3), (53, I6 v22), (54, I6 (W6 (a3 + v22))), (55, S1 n2), (56, I6 a3), (57, I6 v22), (58, I6 (W6 (a3 + v22))), (59, .pe 2000000 1 (0 + Int.toNat (W6 (a3 + v22))) 0), (60, I6 e24), (61, S1 n2), (62, I6 v14), (63, .pe 2000000 1 (0 + Int.toNat v14) 0), (64, I6 e26), (65, .pe 2000000 1 (0 + Int.toNat v14) 0), O1 u28]) (by kernel_rfl) ?_
          obtain ⟨hc30, h⟩ := chk_some h
          refine WO.pureK 0 (if (0 : Int) ≤ (W6 (a3 + v22)) ∧ (W6 (a3 + v22)) < ((n2 : Nat) : Int) then some (.pe 2000000 1 (0 + Int.toNat (W6 (a3 + v22))) 0) else none) (v := .pe 2000000 1 (0 + Int.toNat (W6 (a3 + v22))) 0) (by kernel_rfl) (ite_some hc30) (e1 := [(0, S1 n2), (1, I6 a3), (8, I6 (W6 (a4 - a3))), (9, .box [.int .u64 w19.2]), (10, .int .u64 w10), (11, I6 v14), (12, I6 v22), (49, S1 n2), (50, I6 v14), (51, S1 n2), (52, I6 a3), (53, I6 v22), (54, I6 (W6 (a3 + v22))), (55, S1 n2), (56, I6 a3), (57, I6 v22), (58, I6 (W6 (a3 + v22))), (59, .pe 2000000 1 (0 + Int.toNat (W6 (a3 + v22))) 0), (60, I6 e24), (61, S1 n2), (62, I6 v14), (63, .pe 2000000 1 (0 + Int.toNat v14) 0), (64, I6 e26), (65, .pe 2000000 1 (0 + Int.toNat v14) 0), (66, .pe 2000000 1 (0 + Int.toNat (W6 (a3 + v22))) 0), O1 u28]) (by kernel_rfl) ?_
          obtain ⟨u31, hu31, h⟩ := bind_some h
          obtain ⟨y32, hyy32, hzy32⟩ := upd_some hu31
          refine WO.storeK 0 (id := 2000000) (e := 3) (s := 1) (j := (0 + Int.toNat (W6 (a3 + v22)))) (off := 0) (vs := [I6 e26]) (xs := (List.map (AV.int .i64) u28)) (zs := (List.map (AV.int .i64) u31)) (y := ((AV.int .i64)) y32) (y' := ((AV.int .i64)) e26) (by kernel_rfl) (upd_get hyy32) (by kernel_rfl) (upd_set hzy32) (e1 := [(0, S1 n2), (1, I6 a3), (8, I6 (W6 (a4 - a3))), (9, .box [.int .u64 w19.2]), (10, .int .u64 w10), (11, I6 v14), (12, I6 v22), (49, S1 n2), (50, I6 v14), (51, S1 n2), (52, I6 a3), (53, I6 v22), (54, I6 (W6 (a3 + v22))), (55, S1 n2), (56, I6 a3), (57, I6 v22), (58, I6 (W6 (a3 + v22))), (59, .pe 2000000 1 (0 + Int.toNat (W6 (a3 + v22))) 0), (60, I6 e24), (61, S1 n2), (62, I6 v14), (63, .pe 2000000 1 (0 + Int.toNat v14) 0), (64, I6 e26), (65, .pe 2000000 1 (0 + Int.toNat v14) 0), (66, .pe 2000000 1 (0 + Int.toNat (W6 (a3 + v22))) 0), O1 u31]) (by kernel_rfl) ?_
          refine WO.fin [0, 1, 8, 9, 10, 11, 2000000] [] [] [] (e2 := [(0, S1 n2), (1, I6 a3), (8, I6 (W6 (a4 - a3))), (9, .box [.int .u64 w19.2]), (10, .int .u64 w10), (11, I6 v14), O1 u31]) (by kernel_rfl) (fun _ h => h) ?_
          refine W.regT [0, 1, 8, 9, 10, 11, 2000000] [] [] [] (e2 := [(0, S1 n2), (1, I6 a3), (8, I6 (W6 (a4 - a3))), (9, .box [.int .u64 w19.2]), (10, .int .u64 w10), (11, I6 (W6 (v14 + 1))), O1 u31]) (by kernel_rfl) (by kernel_rfl) (fun _ h => h) ?_
          exact hN1 (u31, w19.2, (W6 (v14 + 1))) h
        refine W.seq ?_
        refine W.regT [0, 1, 8, 9, 10, 11, 12, 45, 2000000] [] [] [] (e2 := [(0, S1 n2), (1, I6 a3), (8, I6 (W6 (a4 - a3))), (9, .box [.int .u64 w19.2]), (10, .int .u64 w10), (11, I6 v14), (12, I6 (W6 (iAnd .u64 w19.1 (IntKind.wrap .u64 (w10 - 1))))), (45, .bool (decide ((W6 (iAnd .u64 w19.1 (IntKind.wrap .u64 (w10 - 1)))) ≥ (W6 (a4 - a3))))), O1 v12]) (by kernel_rfl) (by kernel_rfl) (fun _ h => h) ?_
        refine W.condB (decide ((W6 (iAnd .u64 w19.1 (IntKind.wrap .u64 (w10 - 1)))) ≥ (W6 (a4 - a3)))) (by kernel_rfl) (fun hb => ?_) (fun hb => ?_)
        · replace h := cond_t hb h
          refine W.regT [0, 1, 8, 9, 10, 11, 12, 2000000] [] [] [] (e2 := [(0, S1 n2), (1, I6 a3), (8, I6 (W6 (a4 - a3))), (9, .box [.int .u64 w19.2]), (10, .int .u64 w10), (11, I6 v14), (12, I6 (W6 ((W6 (iAnd .u64 w19.1 (IntKind.wrap .u64 (w10 - 1)))) - (W6 (a4 - a3))))), O1 v12]) (by kernel_rfl) (by kernel_rfl) (fun _ h => h) ?_
          exact hK20 (W6 ((W6 (iAnd .u64 w19.1 (IntKind.wrap .u64 (w10 - 1)))) - (W6 (a4 - a3)))) h
        replace h := cond_f hb h
        refine W.skip ?_
        refine W.weak [0, 1, 8, 9, 10, 11, 12, 2000000] [] [] [] (env' := [(0, S1 n2), (1, I6 a3), (8, I6 (W6 (a4 - a3))), (9, .box [.int .u64 w19.2]), (10, .int .u64 w10), (11, I6 v14), (12, I6 (W6 (iAnd .u64 w19.1 (IntKind.wrap .u64 (w10 - 1))))), O1 v12]) (by kernel_rfl) ?_
        exact hK20 (W6 (iAnd .u64 w19.1 (IntKind.wrap .u64 (w10 - 1)))) h
      replace h := cond_f hb h
      have hr : PostM Try.prog Try.f98 (.tup []) [O1 v12] .normal [(0, S1 n2), (1, I6 a3), (8, I6 (W6 (a4 - a3))), (9, .box [.int .u64 v13]), (10, .int .u64 w10), (11, I6 v14), (35, .bool (decide (v14 ≤ (W6 ((W6 (a3 + (W6 ((W6 (((W6 (a4 - a3))).tdiv 4)) * 2)))) + 1))))), O1 v12] := ⟨by kernel_rfl, by kernel_rfl⟩
      cases h
      exact W.exit hr
  replace h := cond_f hb h
  have hr : PostM Try.prog Try.f98 (.tup []) [O1 a1] .normal [(0, S1 n2), (1, I6 a3), (8, I6 (W6 (a4 - a3))), (17, .bool (decide ((W6 (a4 - a3)) ≥ 8))), O1 a1] := ⟨by kernel_rfl, by kernel_rfl⟩
  cases h
  exact W.skip hr
def sl_order2CmpFunc_int (a1 : (List Int)) (a2 : Int) (a3 : Int) (p4 : Int) (g5 : (Int → Int → Option Int)) : Option ((Int × Int) × Int) :=
  ((idx a1 a3).bind fun e9 => ((idx a1 a2).bind fun e10 => ((g5 e9 e10).bind fun w11 => (bif (decide (w11 < 0)) then (some ((a3, a2), (IntKind.wrap .i64 (p4 + 1)))) else (some ((a2, a3), p4))))))
theorem run_sl_order2CmpFunc_int (a1 : (List Int)) (a2 : Int) (a3 : Int) (p4 : Int) (g5 : (Int → Int → Option Int)) (F_g5 : Nat) (C_g5 : List AV) (hok_g5 : okFn Try.prog F_g5 = true) (hrun_g5 : ∀ (x0 : Int) (x1 : Int) r, g5 x0 x1 = some r → Run Try.prog (.call F_g5 ([I6 x0, I6 x1] ++ C_g5) (I6 r))) (r : ((Int × Int) × Int)) (h : sl_order2CmpFunc_int a1 a2 a3 p4 g5 = some r) : Run Try.prog (.callM 129 [l3 none a1, I6 a2, I6 a3, .pb 2000003 0, .clo F_g5 C_g5] [(2000003, .box [I6 p4])] (.tup [I6 r.1.1, I6 r.1.2]) [(2000003, .box [I6 r.2])]) := by
  refine callM_of_W Try.func129 rfl (by kernel_rfl) (env0 := [(0, l3 none a1), (1, I6 a2), (2, I6 a3), (3, .pb 2000003 0), (4, .clo F_g5 C_g5), (2000003, .box [I6 p4])]) (by kernel_rfl) ?_
  unfold sl_order2CmpFunc_int at h
  refine W.seq ?_
  refine W.regT [0, 1, 2, 3, 4, 2000003] [] [] [] (e2 := [(0, l3 none a1), (1, I6 a2), (2, I6 a3), (3, .pb 2000003 0), (4, .clo F_g5 C_g5), (2000003, .box [I6 p4])]) (by kernel_rfl) (by kernel_rfl) (fun _ h => h) ?_
  refine W.seq ?_
  refine W.seq ?_
  refine W.region (by kernel_rfl) ?_
  obtain ⟨e9, he9, h⟩ := bind_some h
  refine WO.pureK 3 (if (0 : Int) ≤ a3 then ((List.map (AV.int .i64) a1)[Int.toNat a3]?).map AV.ptr else none) (v := .ptr (I6 e9)) (by kernel_rfl) (idx_av (f := (AV.int .i64)) he9) (e1 := [(0, l3 none a1), (1, I6 a2), (2, I6 a3), (3, .pb 2000003 0), (4, .clo F_g5 C_g5), (12, .clo F_g5 C_g5), (13, l3 none a1), (14, I6 a3), (15, .ptr (I6 e9)), (2000003, .box [I6 p4])]) (by kernel_rfl) ?_
  obtain ⟨e10, he10, h⟩ := bind_some h
  refine WO.pureK 3 (if (0 : Int) ≤ a2 then ((List.map (AV.int .i64) a1)[Int.toNat a2]?).map AV.ptr else none) (v := .ptr (I6 e10)) (by kernel_rfl) (idx_av (f := (AV.int .i64)) he10) (e1 := [(0, l3 none a1), (1, I6 a2), (2, I6 a3), (3, .pb 2000003 0), (4, .clo F_g5 C_g5), (12, .clo F_g5 C_g5), (13, l3 none a1), (14, I6 a3), (15, .ptr (I6 e9)), (16, I6 e9), (17, l3 none a1), (18, I6 a2), (19, .ptr (I6 e10)), (2000003, .box [I6 p4])]) (by kernel_rfl) ?_
  obtain ⟨w11, hw11, h⟩ := bind_some h
  refine WO.callK 1 (F := F_g5) (l := [I6 e9, I6 e10]) (C := C_g5) (r := I6 w11) (by kernel_rfl) hok_g5 (hrun_g5 e9 e10 w11 hw11) (e1 := [(0, l3 none a1), (1, I6 a2), (2, I6 a3), (3, .pb 2000003 0), (4, .clo F_g5 C_g5), (12, .clo F_g5 C_g5), (13, l3 none a1), (14, I6 a3), (15, .ptr (I6 e9)), (16, I6 e9), (17, l3 none a1), (18, I6 a2), (19, .ptr (I6 e10)), (20, I6 e10), (21, I6 w11), (2000003, .box [I6 p4])]) (by kernel_rfl) ?_
  refine WO.fin [1, 2, 3, 22, 2000003] [] [] [] (e2 := [(1, I6 a2), (2, I6 a3), (3, .pb 2000003 0), (22, .bool (decide (w11 < 0))), (2000003, .box [I6 p4])]) (by kernel_rfl) (fun _ h => h) ?_
  refine W.condB (decide (w11 < 0)) (by kernel_rfl) (fun hb => ?_) (fun hb => ?_)
  · replace h := cond_t hb h
    refine W.seq ?_
    refine W.regT [1, 2, 2000003] [] [] [] (e2 := [(1, I6 a2), (2, I6 a3), (2000003, .box [I6 (W6 (p4 + 1))])]) (by kernel_rfl) (by kernel_rfl) (fun _ h => h) ?_
    refine W.seq ?_
    refine W.regT [10, 11, 2000003] [] [] [] (e2 := [(10, I6 a3), (11, I6 a2), (2000003, .box [I6 (W6 (p4 + 1))])]) (by kernel_rfl) (by kernel_rfl) (fun _ h => h) ?_
    refine W.weak [10, 11, 2000003] [] [] [] (env' := [(10, I6 a3), (11, I6 a2), (2000003, .box [I6 (W6 (p4 + 1))])]) (by kernel_rfl) ?_
    have hr : PostM Try.prog Try.f129 (.tup [I6 a3, I6 a2]) [(2000003, .box [I6 (W6 (p4 + 1))])] .ret [(10, I6 a3), (11, I6 a2), (2000003, .box [I6 (W6 (p4 + 1))])] := ⟨by kernel_rfl, by kernel_rfl⟩
    cases h
    exact W.ret hr
  replace h := cond_f hb h
  refine W.skip ?_
  refine W.weak [1, 2, 2000003] [] [] [] (env' := [(1, I6 a2), (2, I6 a3), (2000003, .box [I6 p4])]) (by kernel_rfl) ?_
  refine W.seq ?_
  refine W.regT [10, 11, 2000003] [] [] [] (e2 := [(10, I6 a2), (11, I6 a3), (2000003, .box [I6 p4])]) (by kernel_rfl) (by kernel_rfl) (fun _ h => h) ?_
  refine W.weak [10, 11, 2000003] [] [] [] (env' := [(10, I6 a2), (11, I6 a3), (2000003, .box [I6 p4])]) (by kernel_rfl) ?_
  have hr : PostM Try.prog Try.f129 (.tup [I6 a2, I6 a3]) [(2000003, .box [I6 p4])] .ret [(10, I6 a2), (11, I6 a3), (2000003, .box [I6 p4])] := ⟨by kernel_rfl, by kernel_rfl⟩
  cases h
  exact W.ret hr
def sl_medianCmpFunc_int (a1 : (List Int)) (a2 : Int) (a3 : Int) (a4 : Int) (p5 : Int) (g6 : (Int → Int → Option Int)) : Option (Int × Int) :=
  ((sl_order2CmpFunc_int a1 a2 a3 p5 g6).bind fun w9 => ((sl_order2CmpFunc_int a1 w9.1.2 a4 w9.2 g6).bind fun w11 => ((sl_order2CmpFunc_int a1 w9.1.1 w11.1.1 w11.2 g6).bind fun w13 => (some (w13.1.2, w13.2)))))
theorem run_sl_medianCmpFunc_int (a1 : (List Int)) (a2 : Int) (a3 : Int) (a4 : Int) (p5 : Int) (g6 : (Int → Int → Option Int)) (F_g6 : Nat) (C_g6 : List AV) (hok_g6 : okFn Try.prog F_g6 = true) (hrun_g6 : ∀ (x0 : Int) (x1 : Int) r, g6 x0 x1 = some r → Run Try.prog (.call F_g6 ([I6 x0, I6 x1] ++ C_g6) (I6 r))) (r : (Int × Int)) (h : sl_medianCmpFunc_int a1 a2 a3 a4 p5 g6 = some r) : Run Try.prog (.callM 122 [l3 none a1, I6 a2, I6 a3, I6 a4, .pb 2000004 0, .clo F_g6 C_g6] [(2000004, .box [I6 p5])] (I6 r.1) [(2000004, .box [I6 r.2])]) := by
  refine callM_of_W Try.func122 rfl (by kernel_rfl) (env0 := [(0, l3 none a1), (1, I6 a2), (2, I6 a3), (3, I6 a4), (4, .pb 2000004 0), (5, .clo F_g6 C_g6), (2000004, .box [I6 p5])]) (by kernel_rfl) ?_
  unfold sl_medianCmpFunc_int at h
  refine W.seq ?_
  refine W.regT [0, 1, 2, 3, 4, 5, 2000004] [] [] [] (e2 := [(0, l3 none a1), (1, I6 a2), (2, I6 a3), (3, I6 a4), (4, .pb 2000004 0), (5, .clo F_g6 C_g6), (2000004, .box [I6 p5])]) (by kernel_rfl) (by kernel_rfl) (fun _ h => h) ?_
  refine W.seq ?_
  refine W.region (by kernel_rfl) ?_
  obtain ⟨w9, hw9, h⟩ := bind_some h
  refine WO.callMK 5 [(2000004, 2000003)] [] (F := 129) (args := [l3 none a1, I6 a2, I6 a3, .pb 2000003 0, .clo F_g6 C_g6]) (hp := [(2000003, .box [I6 p5])]) (hp2 := [(2000003, .box [I6 w9.2])]) (r := .tup [I6 w9.1.1, I6 w9.1.2]) (by kernel_rfl) (run_sl_order2CmpFunc_int a1 a2 a3 p5 g6 F_g6 C_g6 hok_g6 hrun_g6 w9 hw9) (e1 := [(0, l3 none a1), (1, I6 a2), (2, I6 a3), (3, I6 a4), (4, .pb 2000004 0), (5, .clo F_g6 C_g6), (14, l3 none a1), (15, I6 a2), (16, I6 a3), (17, .pb 2000004 0), (18, .clo F_g6 C_g6), (19, .tup [I6 w9.1.1, I6 w9.1.2]), (2000004, .box [I6 w9.2])]) (by kernel_rfl) ?_
  refine WO.fin [0, 1, 2, 3, 4, 5, 2000004] [] [] [] (e2 := [(0, l3 none a1), (1, I6 w9.1.1), (2, I6 w9.1.2), (3, I6 a4), (4, .pb 2000004 0), (5, .clo F_g6 C_g6), (2000004, .box [I6 w9.2])]) (by kernel_rfl) (fun _ h => h) ?_
  refine W.seq ?_
  refine W.region (by kernel_rfl) ?_
  obtain ⟨w11, hw11, h⟩ := bind_some h
  refine WO.callMK 5 [(2000004, 2000003)] [] (F := 129) (args := [l3 none a1, I6 w9.1.2, I6 a4, .pb 2000003 0, .clo F_g6 C_g6]) (hp := [(2000003, .box [I6 w9.2])]) (hp2 := [(2000003, .box [I6 w11.2])]) (r := .tup [I6 w11.1.1, I6 w11.1.2]) (by kernel_rfl) (run_sl_order2CmpFunc_int a1 w9.1.2 a4 w9.2 g6 F_g6 C_g6 hok_g6 hrun_g6 w11 hw11) (e1 := [(0, l3 none a1), (1, I6 w9.1.1), (2, I6 w9.1.2), (3, I6 a4), (4, .pb 2000004 0), (5, .clo F_g6 C_g6), (23, l3 none a1), (24, I6 w9.1.2), (25, I6 a4), (26, .pb 2000004 0), (27, .clo F_g6 C_g6), (28, .tup [I6 w11.1.1, I6 w11.1.2]), (2000004, .box [I6 w11.2])]) (by kernel_rfl) ?_
  refine WO.fin [0, 1, 2, 4, 5, 2000004] [] [] [] (e2 := [(0, l3 none a1), (1, I6 w9.1.1), (2, I6 w11.1.1), (4, .pb 2000004 0), (5, .clo F_g6 C_g6), (2000004, .box [I6 w11.2])]) (by kernel_rfl) (fun _ h => h) ?_
  refine W.seq ?_
  refine W.region (by kernel_rfl) ?_
  obtain ⟨w13, hw13, h⟩ := bind_some h
  refine WO.callMK 5 [(2000004, 2000003)] [] (F := 129) (args := [l3 none a1, I6 w9.1.1, I6 w11.1.1, .pb 2000003 0, .clo F_g6 C_g6]) (hp := [(2000003, .box [I6 w11.2])]) (hp2 := [(2000003, .box [I6 w13.2])]) (r := .tup [I6 w13.1.1, I6 w13.1.2]) (by kernel_rfl) (run_sl_order2CmpFunc_int a1 w9.1.1 w11.1.1 w11.2 g6 F_g6 C_g6 hok_g6 hrun_g6 w13 hw13) (e1 := [(0, l3 none a1), (1, I6 w9.1.1), (2, I6 w11.1.1), (4, .pb 2000004 0), (5, .clo F_g6 C_g6), (32, l3 none a1), (33, I6 w9.1.1), (34, I6 w11.1.1), (35, .pb 2000004 0), (36, .clo F_g6 C_g6), (37, .tup [I6 w13.1.1, I6 w13.1.2]), (2000004, .box [I6 w13.2])]) (by kernel_rfl) ?_
  refine WO.fin [2, 2000004] [] [] [] (e2 := [(2, I6 w13.1.2), (2000004, .box [I6 w13.2])]) (by kernel_rfl) (fun _ h => h) ?_
  refine W.seq ?_
  refine W.regT [12, 2000004] [] [] [] (e2 := [(12, I6 w13.1.2), (2000004, .box [I6 w13.2])]) (by kernel_rfl) (by kernel_rfl) (fun _ h => h) ?_
  refine W.weak [12, 2000004] [] [] [] (env' := [(12, I6 w13.1.2), (2000004, .box [I6 w13.2])]) (by kernel_rfl) ?_
  have hr : PostM Try.prog Try.f122 (I6 w13.1.2) [(2000004, .box [I6 w13.2])] .ret [(12, I6 w13.1.2), (2000004, .box [I6 w13.2])] := ⟨by kernel_rfl, by kernel_rfl⟩
  cases h
  exact W.ret hr
def sl_medianAdjacentCmpFunc_int (a1 : (List Int)) (a2 : Int) (p3 : Int) (g4 : (Int → Int → Option Int)) : Option (Int × Int) :=
  ((sl_medianCmpFunc_int a1 (IntKind.wrap .i64 (a2 - 1)) a2 (IntKind.wrap .i64 (a2 + 1)) p3 g4).bind fun w7 => (some (w7.1, w7.2)))
theorem run_sl_medianAdjacentCmpFunc_int (a1 : (List Int)) (a2 : Int) (p3 : Int) (g4 : (Int → Int → Option Int)) (F_g4 : Nat) (C_g4 : List AV) (hok_g4 : okFn Try.prog F_g4 = true) (hrun_g4 : ∀ (x0 : Int) (x1 : Int) r, g4 x0 x1 = some r → Run Try.prog (.call F_g4 ([I6 x0, I6 x1] ++ C_g4) (I6 r))) (r : (Int × Int)) (h : sl_medianAdjacentCmpFunc_int a1 a2 p3 g4 = some r) : Run Try.prog (.callM 121 [l3 none a1, I6 a2, .pb 2000002 0, .clo F_g4 C_g4] [(2000002, .box [I6 p3])] (I6 r.1) [(2000002, .box [I6 r.2])]) := by
  refine callM_of_W Try.func121 rfl (by kernel_rfl) (env0 := [(0, l3 none a1), (1, I6 a2), (2, .pb 2000002 0), (3, .clo F_g4 C_g4), (2000002, .box [I6 p3])]) (by kernel_rfl) ?_
  unfold sl_medianAdjacentCmpFunc_int at h
  refine W.seq ?_
  refine W.regT [0, 1, 2, 3, 2000002] [] [] [] (e2 := [(0, l3 none a1), (1, I6 a2), (2, .pb 2000002 0), (3, .clo F_g4 C_g4), (2000002, .box [I6 p3])]) (by kernel_rfl) (by kernel_rfl) (fun _ h => h) ?_
  refine W.seq ?_
  refine W.region (by kernel_rfl) ?_
  obtain ⟨w7, hw7, h⟩ := bind_some h
  refine WO.callMK 8 [(2000002, 2000004)] [] (F := 122) (args := [l3 none a1, I6 (W6 (a2 - 1)), I6 a2, I6 (W6 (a2 + 1)), .pb 2000004 0, .clo F_g4 C_g4]) (hp := [(2000004, .box [I6 p3])]) (hp2 := [(2000004, .box [I6 w7.2])]) (r := I6 w7.1) (by kernel_rfl) (run_sl_medianCmpFunc_int a1 (W6 (a2 - 1)) a2 (W6 (a2 + 1)) p3 g4 F_g4 C_g4 hok_g4 hrun_g4 w7 hw7) (e1 := [(0, l3 none a1), (1, I6 a2), (2, .pb 2000002 0), (3, .clo F_g4 C_g4), (9, l3 none a1), (10, I6 a2), (11, I6 (W6 (a2 - 1))), (12, I6 a2), (13, I6 a2), (14, I6 (W6 (a2 + 1))), (15, .pb 2000002 0), (16, .clo F_g4 C_g4), (17, I6 w7.1), (2000002, .box [I6 w7.2])]) (by kernel_rfl) ?_
  refine WO.fin [8, 2000002] [] [] [] (e2 := [(8, I6 w7.1), (2000002, .box [I6 w7.2])]) (by kernel_rfl) (fun _ h => h) ?_
  refine W.weak [8, 2000002] [] [] [] (env' := [(8, I6 w7.1), (2000002, .box [I6 w7.2])]) (by kernel_rfl) ?_
  have hr : PostM Try.prog Try.f121 (I6 w7.1) [(2000002, .box [I6 w7.2])] .ret [(8, I6 w7.1), (2000002, .box [I6 w7.2])] := ⟨by kernel_rfl, by kernel_rfl⟩
  cases h
  exact W.ret hr
def sl_choosePivotCmpFunc_int_j11 (v25 : Int) (v26 : Int) : Option (Int × Int) :=
  (bif (v25 == 0) then (some (v26, 1)) else (bif (v25 == 12) then (some (v26, 2)) else (some (v26, 0))))
def sl_choosePivotCmpFunc_int_j13 (a1 : (List Int)) (g4 : (Int → Int → Option Int)) (K11 : (Int → Int → Option (Int × Int))) (v20 : Int) (v21 : Int) (v22 : Int) (v23 : Int) : Option (Int × Int) :=
  ((sl_medianCmpFunc_int a1 v21 v22 v23 v20 g4).bind fun w24 => (K11 w24.2 w24.1))
def sl_choosePivotCmpFunc_int (a1 : (List Int)) (a2 : Int) (a3 : Int) (g4 : (Int → Int → Option Int)) : Option (Int × Int) :=
  (bif (decide ((IntKind.wrap .i64 (a3 - a2)) ≥ 8)) then (bif (decide ((IntKind.wrap .i64 (a3 - a2)) ≥ 50)) then ((sl_medianAdjacentCmpFunc_int a1 (IntKind.wrap .i64 (a2 + (IntKind.wrap .i64 ((IntKind.wrap .i64 (((IntKind.wrap .i64 (a3 - a2))).tdiv 4)) * 1)))) 0 g4).bind fun w16 => ((sl_medianAdjacentCmpFunc_int a1 (IntKind.wrap .i64 (a2 + (IntKind.wrap .i64 ((IntKind.wrap .i64 (((IntKind.wrap .i64 (a3 - a2))).tdiv 4)) * 2)))) w16.2 g4).bind fun w18 => ((sl_medianAdjacentCmpFunc_int a1 (IntKind.wrap .i64 (a2 + (IntKind.wrap .i64 ((IntKind.wrap .i64 (((IntKind.wrap .i64 (a3 - a2))).tdiv 4)) * 3)))) w18.2 g4).bind fun w19 => ((sl_choosePivotCmpFunc_int_j13 a1 g4 (sl_choosePivotCmpFunc_int_j11)) w19.2 w16.1 w18.1 w19.1)))) else ((sl_choosePivotCmpFunc_int_j13 a1 g4 (sl_choosePivotCmpFunc_int_j11)) 0 (IntKind.wrap .i64 (a2 + (IntKind.wrap .i64 ((IntKind.wrap .i64 (((IntKind.wrap .i64 (a3 - a2))).tdiv 4)) * 1)))) (IntKind.wrap .i64 (a2 + (IntKind.wrap .i64 ((IntKind.wrap .i64 (((IntKind.wrap .i64 (a3 - a2))).tdiv 4)) * 2)))) (IntKind.wrap .i64 (a2 + (IntKind.wrap .i64 ((IntKind.wrap .i64 (((IntKind.wrap .i64 (a3 - a2))).tdiv 4)) * 3)))))) else ((sl_choosePivotCmpFunc_int_j11) 0 (IntKind.wrap .i64 (a2 + (IntKind.wrap .i64 ((IntKind.wrap .i64 (((IntKind.wrap .i64 (a3 - a2))).tdiv 4)) * 2))))))
theorem run_sl_choosePivotCmpFunc_int (a1 : (List Int)) (a2 : Int) (a3 : Int) (g4 : (Int → Int → Option Int)) (F_g4 : Nat) (C_g4 : List AV) (hok_g4 : okFn Try.prog F_g4 = true) (hrun_g4 : ∀ (x0 : Int) (x1 : Int) r, g4 x0 x1 = some r → Run Try.prog (.call F_g4 ([I6 x0, I6 x1] ++ C_g4) (I6 r))) (r : (Int × Int)) (h : sl_choosePivotCmpFunc_int a1 a2 a3 g4 = some r) : Run Try.prog (.call 99 [l3 none a1, I6 a2, I6 a3, .clo F_g4 C_g4] (.tup [I6 r.1, I6 r.2])) := by
  refine call_of_W Try.func99 rfl (by kernel_rfl) (env0 := [(0, l3 none a1), (1, I6 a2), (2, I6 a3), (3, .clo F_g4 C_g4)]) (by kernel_rfl) ?_
  unfold sl_choosePivotCmpFunc_int at h
  refine W.seq ?_
  refine W.regT [0, 1, 2, 3] [] [] [] (e2 := [(0, l3 none a1), (1, I6 a2), (2, I6 a3), (3, .clo F_g4 C_g4)]) (by kernel_rfl) (by kernel_rfl) (fun _ h => h) ?_
  refine W.seq ?_
  refine W.regT [0, 1, 3, 10] [] [] [] (e2 := [(0, l3 none a1), (1, I6 a2), (3, .clo F_g4 C_g4), (10, I6 (W6 (a3 - a2)))]) (by kernel_rfl) (by kernel_rfl) (fun _ h => h) ?_
  refine W.seq ?_
  refine W.regT [0, 1, 3, 10, 11] [] [] [] (e2 := [(0, l3 none a1), (1, I6 a2), (3, .clo F_g4 C_g4), (10, I6 (W6 (a3 - a2))), (11, .box [.int .i64 0])]) (by kernel_rfl) (by kernel_rfl) (fun _ h => h) ?_
  refine W.seq ?_
  refine W.regT [0, 1, 3, 10, 11, 12] [] [] [] (e2 := [(0, l3 none a1), (1, I6 a2), (3, .clo F_g4 C_g4), (10, I6 (W6 (a3 - a2))), (11, .box [.int .i64 0]), (12, I6 (W6 (a2 + (W6 ((W6 (((W6 (a3 - a2))).tdiv 4)) * 1)))))]) (by kernel_rfl) (by kernel_rfl) (fun _ h => h) ?_
  refine W.seq ?_
  refine W.regT [0, 1, 3, 10, 11, 12, 13] [] [] [] (e2 := [(0, l3 none a1), (1, I6 a2), (3, .clo F_g4 C_g4), (10, I6 (W6 (a3 - a2))), (11, .box [.int .i64 0]), (12, I6 (W6 (a2 + (W6 ((W6 (((W6 (a3 - a2))).tdiv 4)) * 1))))), (13, I6 (W6 (a2 + (W6 ((W6 (((W6 (a3 - a2))).tdiv 4)) * 2)))))]) (by kernel_rfl) (by kernel_rfl) (fun _ h => h) ?_
  refine W.seq ?_
  refine W.regT [0, 3, 10, 11, 12, 13, 14] [] [] [] (e2 := [(0, l3 none a1), (3, .clo F_g4 C_g4), (10, I6 (W6 (a3 - a2))), (11, .box [.int .i64 0]), (12, I6 (W6 (a2 + (W6 ((W6 (((W6 (a3 - a2))).tdiv 4)) * 1))))), (13, I6 (W6 (a2 + (W6 ((W6 (((W6 (a3 - a2))).tdiv 4)) * 2))))), (14, I6 (W6 (a2 + (W6 ((W6 (((W6 (a3 - a2))).tdiv 4)) * 3)))))]) (by kernel_rfl) (by kernel_rfl) (fun _ h => h) ?_
  refine W.seq ?_
  refine W.join (σ := (Int × Int)) (fun s => [(11, .ptr (I6 s.1)), (13, I6 s.2)]) (fun s => (sl_choosePivotCmpFunc_int_j11) s.1 s.2 = some r) (fun s h => ?_) (fun hK11 => ?_)
  · obtain ⟨v25, v26⟩ := s
    have h : (sl_choosePivotCmpFunc_int_j11) v25 v26 = some r := h
    unfold sl_choosePivotCmpFunc_int_j11 at h
    refine W.seq ?_
    refine W.regT [13, 55] [] [] [] (e2 := [(13, I6 v26), (55, I6 v25)]) (by kernel_rfl) (by kernel_rfl) (fun _ h => h) ?_
    refine W.block ?_
    refine W.seq ?_
    refine W.regT [13, 55, 57] [] [] [] (e2 := [(13, I6 v26), (55, I6 v25), (57, .bool (v25 == 0))]) (by kernel_rfl) (by kernel_rfl) (fun _ h => h) ?_
    refine W.condB (v25 == 0) (by kernel_rfl) (fun hb => ?_) (fun hb => ?_)
    · replace h := cond_t hb h
      refine W.seq ?_
      refine W.regT [8, 9] [] [] [] (e2 := [(8, I6 v26), (9, .int .i64 1)]) (by kernel_rfl) (by kernel_rfl) (fun _ h => h) ?_
      refine W.weak [8, 9] [] [] [] (env' := [(8, I6 v26), (9, .int .i64 1)]) (by kernel_rfl) ?_
      have hr : aresults Try.prog Try.f99 [(8, I6 v26), (9, .int .i64 1)] = some (.tup [I6 v26, .int .i64 1]) := by kernel_rfl
      cases h
      exact W.ret hr
    replace h := cond_f hb h
    refine W.seq ?_
    refine W.regT [13, 60] [] [] [] (e2 := [(13, I6 v26), (60, .bool (v25 == 12))]) (by kernel_rfl) (by kernel_rfl) (fun _ h => h) ?_
    refine W.condB (v25 == 12) (by kernel_rfl) (fun hb => ?_) (fun hb => ?_)
    · replace h := cond_t hb h
      refine W.seq ?_
      refine W.regT [8, 9] [] [] [] (e2 := [(8, I6 v26), (9, .int .i64 2)]) (by kernel_rfl) (by kernel_rfl) (fun _ h => h) ?_
      refine W.weak [8, 9] [] [] [] (env' := [(8, I6 v26), (9, .int .i64 2)]) (by kernel_rfl) ?_
      have hr : aresults Try.prog Try.f99 [(8, I6 v26), (9, .int .i64 2)] = some (.tup [I6 v26, .int .i64 2]) := by kernel_rfl
      cases h
      exact W.ret hr
    replace h := cond_f hb h
    refine W.seq ?_
    refine W.regT [8, 9] [] [] [] (e2 := [(8, I6 v26), (9, .int .i64 0)]) (by kernel_rfl) (by kernel_rfl) (fun _ h => h) ?_
    refine W.weak [8, 9] [] [] [] (env' := [(8, I6 v26), (9, .int .i64 0)]) (by kernel_rfl) ?_
    have hr : aresults Try.prog Try.f99 [(8, I6 v26), (9, .int .i64 0)] = some (.tup [I6 v26, .int .i64 0]) := by kernel_rfl
    cases h
    exact W.ret hr
  refine W.seq ?_
  refine W.regT [0, 3, 10, 11, 12, 13, 14, 34] [] [] [] (e2 := [(0, l3 none a1), (3, .clo F_g4 C_g4), (10, I6 (W6 (a3 - a2))), (11, .box [.int .i64 0]), (12, I6 (W6 (a2 + (W6 ((W6 (((W6 (a3 - a2))).tdiv 4)) * 1))))), (13, I6 (W6 (a2 + (W6 ((W6 (((W6 (a3 - a2))).tdiv 4)) * 2))))), (14, I6 (W6 (a2 + (W6 ((W6 (((W6 (a3 - a2))).tdiv 4)) * 3))))), (34, .bool (decide ((W6 (a3 - a2)) ≥ 8)))]) (by kernel_rfl) (by kernel_rfl) (fun _ h => h) ?_
  refine W.condB (decide ((W6 (a3 - a2)) ≥ 8)) (by kernel_rfl) (fun hb => ?_) (fun hb => ?_)
  · replace h := cond_t hb h
    refine W.seq ?_
    refine W.join (σ := (Int × Int × Int × Int)) (fun s => [(0, l3 none a1), (3, .clo F_g4 C_g4), (11, .box [I6 s.1]), (12, I6 s.2.1), (13, I6 s.2.2.1), (14, I6 s.2.2.2)]) (fun s => (sl_choosePivotCmpFunc_int_j13 a1 g4 (sl_choosePivotCmpFunc_int_j11)) s.1 s.2.1 s.2.2.1 s.2.2.2 = some r) (fun s h => ?_) (fun hK13 => ?_)
    · obtain ⟨v20, v21, v22, v23⟩ := s
      have h : (sl_choosePivotCmpFunc_int_j13 a1 g4 (sl_choosePivotCmpFunc_int_j11)) v20 v21 v22 v23 = some r := h
      unfold sl_choosePivotCmpFunc_int_j13 at h
      refine W.region (by kernel_rfl) ?_
      obtain ⟨w24, hw24, h⟩ := bind_some h
      refine WO.callMK 5 [(11, 2000004)] [] (F := 122) (args := [l3 none a1, I6 v21, I6 v22, I6 v23, .pb 2000004 0, .clo F_g4 C_g4]) (hp := [(2000004, .box [I6 v20])]) (hp2 := [(2000004, .box [I6 w24.2])]) (r := I6 w24.1) (by kernel_rfl) (run_sl_medianCmpFunc_int a1 v21 v22 v23 v20 g4 F_g4 C_g4 hok_g4 hrun_g4 w24 hw24) (e1 := [(0, l3 none a1), (3, .clo F_g4 C_g4), (11, .box [I6 w24.2]), (12, I6 v21), (13, I6 v22), (14, I6 v23), (49, l3 none a1), (50, I6 v21), (51, I6 v22), (52, I6 v23), (53, .clo F_g4 C_g4), (54, I6 w24.1)]) (by kernel_rfl) ?_
      refine WO.fin [11, 13] [11] [] [] (e2 := [(11, .ptr (I6 w24.2)), (13, I6 w24.1)]) (by kernel_rfl) (fun _ h => h) ?_
      exact hK11 (w24.2, w24.1) h
    refine W.seq ?_
    refine W.regT [0, 3, 11, 12, 13, 14, 36] [] [] [] (e2 := [(0, l3 none a1), (3, .clo F_g4 C_g4), (11, .box [.int .i64 0]), (12, I6 (W6 (a2 + (W6 ((W6 (((W6 (a3 - a2))).tdiv 4)) * 1))))), (13, I6 (W6 (a2 + (W6 ((W6 (((W6 (a3 - a2))).tdiv 4)) * 2))))), (14, I6 (W6 (a2 + (W6 ((W6 (((W6 (a3 - a2))).tdiv 4)) * 3))))), (36, .bool (decide ((W6 (a3 - a2)) ≥ 50)))]) (by kernel_rfl) (by kernel_rfl) (fun _ h => h) ?_
    refine W.condB (decide ((W6 (a3 - a2)) ≥ 50)) (by kernel_rfl) (fun hb => ?_) (fun hb => ?_)
    · replace h := cond_t hb h
      refine W.seq ?_
      refine W.region (by kernel_rfl) ?_
      obtain ⟨w16, hw16, h⟩ := bind_some h
      refine WO.callMK 3 [(11, 2000002)] [] (F := 121) (args := [l3 none a1, I6 (W6 (a2 + (W6 ((W6 (((W6 (a3 - a2))).tdiv 4)) * 1)))), .pb 2000002 0, .clo F_g4 C_g4]) (hp := [(2000002, .box [.int .i64 0])]) (hp2 := [(2000002, .box [I6 w16.2])]) (r := I6 w16.1) (by kernel_rfl) (run_sl_medianAdjacentCmpFunc_int a1 (W6 (a2 + (W6 ((W6 (((W6 (a3 - a2))).tdiv 4)) * 1)))) 0 g4 F_g4 C_g4 hok_g4 hrun_g4 w16 hw16) (e1 := [(0, l3 none a1), (3, .clo F_g4 C_g4), (11, .box [I6 w16.2]), (12, I6 (W6 (a2 + (W6 ((W6 (((W6 (a3 - a2))).tdiv 4)) * 1))))), (13, I6 (W6 (a2 + (W6 ((W6 (((W6 (a3 - a2))).tdiv 4)) * 2))))), (14, I6 (W6 (a2 + (W6 ((W6 (((W6 (a3 - a2))).tdiv 4)) * 3))))), (36, .bool (decide ((W6 (a3 - a2)) ≥ 50))), (37, l3 none a1), (38, I6 (W6 (a2 + (W6 ((W6 (((W6 (a3 - a2))).tdiv 4)) * 1))))), (39, .clo F_g4 C_g4), (40, I6 w16.1)]) (by kernel_rfl) ?_
      refine WO.fin [0, 3, 11, 12, 13, 14] [] [] [] (e2 := [(0, l3 none a1), (3, .clo F_g4 C_g4), (11, .box [I6 w16.2]), (12, I6 w16.1), (13, I6 (W6 (a2 + (W6 ((W6 (((W6 (a3 - a2))).tdiv 4)) * 2))))), (14, I6 (W6 (a2 + (W6 ((W6 (((W6 (a3 - a2))).tdiv 4)) * 3)))))]) (by kernel_rfl) (fun _ h => h) ?_
      refine W.seq ?_
      refine W.region (by kernel_rfl) ?_
      obtain ⟨w18, hw18, h⟩ := bind_some h
      refine WO.callMK 3 [(11, 2000002)] [] (F := 121) (args := [l3 none a1, I6 (W6 (a2 + (W6 ((W6 (((W6 (a3 - a2))).tdiv 4)) * 2)))), .pb 2000002 0, .clo F_g4 C_g4]) (hp := [(2000002, .box [I6 w16.2])]) (hp2 := [(2000002, .box [I6 w18.2])]) (r := I6 w18.1) (by kernel_rfl) (run_sl_medianAdjacentCmpFunc_int a1 (W6 (a2 + (W6 ((W6 (((W6 (a3 - a2))).tdiv 4)) * 2)))) w16.2 g4 F_g4 C_g4 hok_g4 hrun_g4 w18 hw18) (e1 := [(0, l3 none a1), (3, .clo F_g4 C_g4), (11, .box [I6 w18.2]), (12, I6 w16.1), (13, I6 (W6 (a2 + (W6 ((W6 (((W6 (a3 - a2))).tdiv 4)) * 2))))), (14, I6 (W6 (a2 + (W6 ((W6 (((W6 (a3 - a2))).tdiv 4)) * 3))))), (41, l3 none a1), (42, I6 (W6 (a2 + (W6 ((W6 (((W6 (a3 - a2))).tdiv 4)) * 2))))), (43, .clo F_g4 C_g4), (44, I6 w18.1)]) (by kernel_rfl) ?_
      refine WO.fin [0, 3, 11, 12, 13, 14] [] [] [] (e2 := [(0, l3 none a1), (3, .clo F_g4 C_g4), (11, .box [I6 w18.2]), (12, I6 w16.1), (13, I6 w18.1), (14, I6 (W6 (a2 + (W6 ((W6 (((W6 (a3 - a2))).tdiv 4)) * 3)))))]) (by kernel_rfl) (fun _ h => h) ?_
      refine W.region (by kernel_rfl) ?_
      obtain ⟨w19, hw19, h⟩ := bind_some h
      refine WO.callMK 3 [(11, 2000002)] [] (F := 121) (args := [l3 none a1, I6 (W6 (a2 + (W6 ((W6 (((W6 (a3 - a2))).tdiv 4)) * 3)))), .pb 2000002 0, .clo F_g4 C_g4]) (hp := [(2000002, .box [I6 w18.2])]) (hp2 := [(2000002, .box [I6 w19.2])]) (r := I6 w19.1) (by kernel_rfl) (run_sl_medianAdjacentCmpFunc_int a1 (W6 (a2 + (W6 ((W6 (((W6 (a3 - a2))).tdiv 4)) * 3)))) w18.2 g4 F_g4 C_g4 hok_g4 hrun_g4 w19 hw19) (e1 := [(0, l3 none a1), (3, .clo F_g4 C_g4), (11, .box [I6 w19.2]), (12, I6 w16.1), (13, I6 w18.1), (14, I6 (W6 (a2 + (W6 ((W6 (((W6 (a3 - a2))).tdiv 4)) * 3))))), (45, l3 none a1), (46, I6 (W6 (a2 + (W6 ((W6 (((W6 (a3 - a2))).tdiv 4)) * 3))))), (47, .clo F_g4 C_g4), (48, I6 w19.1)]) (by kernel_rfl) ?_
      refine WO.fin [0, 3, 11, 12, 13, 14] [] [] [] (e2 := [(0, l3 none a1), (3, .clo F_g4 C_g4), (11, .box [I6 w19.2]), (12, I6 w16.1), (13, I6 w18.1), (14, I6 w19.1)]) (by kernel_rfl) (fun _ h => h) ?_
      exact hK13 (w19.2, w16.1, w18.1, w19.1) h
    replace h := cond_f hb h
    refine W.skip ?_
    refine W.weak [0, 3, 11, 12, 13, 14] [] [] [] (env' := [(0, l3 none a1), (3, .clo F_g4 C_g4), (11, .box [.int .i64 0]), (12, I6 (W6 (a2 + (W6 ((W6 (((W6 (a3 - a2))).tdiv 4)) * 1))))), (13, I6 (W6 (a2 + (W6 ((W6 (((W6 (a3 - a2))).tdiv 4)) * 2))))), (14, I6 (W6 (a2 + (W6 ((W6 (((W6 (a3 - a2))).tdiv 4)) * 3)))))]) (by kernel_rfl) ?_
    exact hK13 (0, (W6 (a2 + (W6 ((W6 (((W6 (a3 - a2))).tdiv 4)) * 1)))), (W6 (a2 + (W6 ((W6 (((W6 (a3 - a2))).tdiv 4)) * 2)))), (W6 (a2 + (W6 ((W6 (((W6 (a3 - a2))).tdiv 4)) * 3))))) h
  replace h := cond_f hb h
  refine W.skip ?_
  refine W.weak [11, 13] [11] [] [] (env' := [(11, .ptr (.int .i64 0)), (13, I6 (W6 (a2 + (W6 ((W6 (((W6 (a3 - a2))).tdiv 4)) * 2)))))]) (by kernel_rfl) ?_
  exact hK11 (0, (W6 (a2 + (W6 ((W6 (((W6 (a3 - a2))).tdiv 4)) * 2))))) h
def sl_reverseRangeCmpFunc_int_l1 (n2 : Nat) : Nat → (List Int) → Int → Int → Option (List Int)
  | 0, _, _, _ => none
  | m1 + 1, v8, v9, v10 => (bif (decide (v9 < v10)) then (chk (decide ((0 : Int) ≤ v10 ∧ v10 < ((n2 : Nat) : Int))) ((v8[(0 + Int.toNat v10)]?).bind fun e15 => (chk (decide ((0 : Int) ≤ v9 ∧ v9 < ((n2 : Nat) : Int))) ((v8[(0 + Int.toNat v9)]?).bind fun e17 => (chk (decide ((0 : Int) ≤ v9 ∧ v9 < ((n2 : Nat) : Int))) ((upd v8 (0 + Int.toNat v9) e15).bind fun u19 => (chk (decide ((0 : Int) ≤ v10 ∧ v10 < ((n2 : Nat) : Int))) ((upd u19 (0 + Int.toNat v10) e17).bind fun u22 => ((sl_reverseRangeCmpFunc_int_l1 n2 m1) u22 (IntKind.wrap .i64 (v9 + 1)) (IntKind.wrap .i64 (v10 - 1))))))))))) else (some v8))
def sl_reverseRangeCmpFunc_int (fuel : Nat) (a1 : (List Int)) (n2 : Nat) (a3 : Int) (a4 : Int) (g5 : (Int → Int → Option Int)) : Option (List Int) :=
  (sl_reverseRangeCmpFunc_int_l1 n2 fuel a1 a3 (IntKind.wrap .i64 (a4 - 1)))
theorem run_sl_reverseRangeCmpFunc_int (fuel : Nat) (a1 : (List Int)) (n2 : Nat) (a3 : Int) (a4 : Int) (g5 : (Int → Int → Option Int)) (F_g5 : Nat) (C_g5 : List AV) (hok_g5 : okFn Try.prog F_g5 = true) (hrun_g5 : ∀ (x0 : Int) (x1 : Int) r, g5 x0 x1 = some r → Run Try.prog (.call F_g5 ([I6 x0, I6 x1] ++ C_g5) (I6 r))) (r : (List Int)) (h : sl_reverseRangeCmpFunc_int fuel a1 n2 a3 a4 g5 = some r) : Run Try.prog (.callM 100 [S1 n2, I6 a3, I6 a4, .clo F_g5 C_g5] [O1 a1] (.tup []) [O1 r]) := by
  refine callM_of_W Try.func100 rfl (by kernel_rfl) (env0 := [(0, S1 n2), (1, I6 a3), (2, I6 a4), (3, .clo F_g5 C_g5), O1 a1]) (by kernel_rfl) ?_
  unfold sl_reverseRangeCmpFunc_int at h
  refine W.seq ?_
  refine W.regT [0, 2, 8, 2000000] [] [] [] (e2 := [(0, S1 n2), (2, I6 a4), (8, I6 a3), O1 a1]) (by kernel_rfl) (by kernel_rfl) (fun _ h => h) ?_
  refine W.seq ?_
  refine W.regT [0, 8, 9, 2000000] [] [] [] (e2 := [(0, S1 n2), (8, I6 a3), (9, I6 (W6 (a4 - 1))), O1 a1]) (by kernel_rfl) (by kernel_rfl) (fun _ h => h) ?_
  refine W.block ?_
  refine W.weak [0, 8, 9, 2000000] [] [] [] (env' := [(0, S1 n2), (8, I6 a3), (9, I6 (W6 (a4 - 1))), O1 a1]) (by kernel_rfl) ?_
  refine W.fuel (σ := ((List Int) × Int × Int)) (fun s => [(0, S1 n2), (8, I6 s.2.1), (9, I6 s.2.2), (2000000, .obj 3 1 (List.map (AV.int .i64) s.1))]) (fun m0 s => sl_reverseRangeCmpFunc_int_l1 n2 m0 s.1 s.2.1 s.2.2 = some r) (fun s h => ?_) (fun m1 s h hN1 => ?_) fuel (a1, a3, (W6 (a4 - 1))) h
  · obtain ⟨v8, v9, v10⟩ := s
    have h : sl_reverseRangeCmpFunc_int_l1 n2 0 v8 v9 v10 = some r := h
    rw [sl_reverseRangeCmpFunc_int_l1.eq_1] at h
    cases h
  · obtain ⟨v8, v9, v10⟩ := s
    have h : sl_reverseRangeCmpFunc_int_l1 n2 (m1 + 1) v8 v9 v10 = some r := h
    rw [sl_reverseRangeCmpFunc_int_l1.eq_2] at h
    refine W.seq ?_
    refine W.seq ?_
    refine W.regT [0, 8, 9, 15, 2000000] [] [] [] (e2 := [(0, S1 n2), (8, I6 v9), (9, I6 v10), (15, .bool (decide (v9 < v10))), O1 v8]) (by kernel_rfl) (by kernel_rfl) (fun _ h => h) ?_
    refine W.condB (decide (v9 < v10)) (by kernel_rfl) (fun hb => ?_) (fun hb => ?_)
    · replace h := cond_t hb h
      refine W.skip ?_
      refine W.weak [0, 8, 9, 2000000] [] [] [] (env' := [(0, S1 n2), (8, I6 v9), (9, I6 v10), O1 v8]) (by kernel_rfl) ?_
      refine W.block ?_
      refine W.seq ?_
      refine W.region (by kernel_rfl) ?_
      obtain ⟨hc14, h⟩ := chk_some h
      refine WO.pureK 6 (if (0 : Int) ≤ v10 ∧ v10 < ((n2 : Nat) : Int) then some (.pe 2000000 1 (0 + Int.toNat v10) 0) else none) (v := .pe 2000000 1 (0 + Int.toNat v10) 0) (by kernel_rfl) (ite_some hc14) (e1 := [(0, S1 n2), (8, I6 v9), (9, I6 v10), (16, S1 n2), (17, I6 v9), (18, S1 n2), (19, I6 v10), (20, S1 n2), (21, I6 v10), (22, .pe 2000000 1 (0 + Int.toNat v10) 0), O1 v8]) (by kernel_rfl) ?_
      obtain ⟨e15, he15, h⟩ := bind_some h
      refine WO.pureK 0 (match (List.map (AV.int .i64) v8)[(0 + Int.toNat v10)]? with | some y => cut Try.prog 3 (y.cells.map AV.strip) 0 | none => none) (v := I6 e15) (by kernel_rfl) ((pe_ld (f := (AV.int .i64)) (G := (fun y => cut Try.prog 3 (y.cells.map AV.strip) 0)) he15).trans (by kernel_rfl)) (e1 := [(0, S1 n2), (8, I6 v9), (9, I6 v10), (16, S1 n2), (17, I6 v9), (18, S1 n2), (19, I6 v10), (20, S1 n2), (21, I6 v10), (22, .pe 2000000 1 (0 + Int.toNat v10) 0), (23, I6 e15), O1 v8]) (by kernel_rfl) ?_
      obtain ⟨hc16, h⟩ := chk_some h
      refine WO.pureK 2 (if (0 : Int) ≤ v9 ∧ v9 < ((n2 : Nat) : Int) then some (.pe 2000000 1 (0 + Int.toNat v9) 0) else none) (v := .pe 2000000 1 (0 + Int.toNat v9) 0) (by kernel_rfl) (ite_some hc16) (e1 := [(0, S1 n2), (8, I6 v9), (9, I6 v10), (16, S1 n2), (17, I6 v9), (18, S1 n2), (19, I6 v10), (20, S1 n2), (21, I6 v10), (22, .pe 2000000 1 (0 + Int.toNat v10) 0), (23, I6 e15), (24, S1 n2), (25, I6 v9), (26, .pe 2000000 1 (0 + Int.toNat v9) 0), O1 v8]) (by kernel_rfl) ?_
      obtain ⟨e17, he17, h⟩ := bind_some h
      refine WO.pureK 0 (match (List.map (AV.int .i64) v8)[(0 + Int.toNat v9)]? with | some y => cut Try.prog 3 (y.cells.map AV.strip) 0 | none => none) (v := I6 e17) (by kernel_rfl) ((pe_ld (f := (AV.int .i64)) (G := (fun y => cut Try.prog 3 (y.cells.map AV.strip) 0)) he17).trans (by kernel_rfl)) (e1 := [(0, S1 n2), (8, I6 v9), (9, I6 v10), (16, S1 n2), (17, I6 v9), (18, S1 n2), (19, I6 v10), (20, S1 n2), (21, I6 v10), (22, .pe 2000000 1 (0 + Int.toNat v10) 0), (23, I6 e15), (24, S1 n2), (25, I6 v9), (26, .pe 2000000 1 (0 + Int.toNat v9) 0), (27, I6 e17), O1 v8]) (by kernel_rfl) ?_
      obtain ⟨hc18, h⟩ := chk_some h
      refine WO.pureK 0 (if (0 : Int) ≤ v9 ∧ v9 < ((n2 : Nat) : Int) then some (.pe 2000000 1 (0 + Int.toNat v9) 0) else none) (v := .pe 2000000 1 (0 + Int.toNat v9) 0) (by kernel_rfl) (ite_some hc18) (e1 := [(0, S1 n2), (8, I6 v9), (9, I6 v10), (16, S1 n2), (17, I6 v9), (18, S1 n2), (19, I6 v10), (20, S1 n2), (21, I6 v10), (22, .pe 2000000 1 (0 + Int.toNat v10) 0), (23, I6 e15), (24, S1 n2), (25, I6 v9), (26, .pe 2000000 1 (0 + Int.toNat v9) 0), (27, I6 e17), (28, .pe 2000000 1 (0 + Int.toNat v9) 0), O1 v8]) (by kernel_rfl) ?_
      obtain ⟨u19, hu19, h⟩ := bind_some h
      obtain ⟨y20, hyy20, hzy20⟩ := upd_some hu19
      refine WO.storeK 0 (id := 2000000) (e := 3) (s := 1) (j := (0 + Int.toNat v9)) (off := 0) (vs := [I6 e15]) (xs := (List.map (AV.int .i64) v8)) (zs := (List.map (AV.int .i64) u19)) (y := ((AV.int .i64)) y20) (y' := ((AV.int .i64)) e15) (by kernel_rfl) (upd_get hyy20) (by kernel_rfl) (upd_set hzy20) (e1 := [(0, S1 n2), (8, I6 v9), (9, I6 v10), (16, S1 n2), (17, I6 v9), (18, S1 n2), (19, I6 v10), (20, S1 n2), (21, I6 v10), (22, .pe 2000000 1 (0 + Int.toNat v10) 0), (23, I6 e15), (24, S1 n2), (25, I6 v9), (26, .pe 2000000 1 (0 + Int.toNat v9) 0), (27, I6 e17), (28, .pe 2000000 1 (0 + Int.toNat v9) 0), O1 u19]) (by kernel_rfl) ?_
      obtain ⟨hc21, h⟩ := chk_some h
      refine WO.pureK 0 (if (0 : Int) ≤ v10 ∧ v10 < ((n2 : Nat) : Int) then some (.pe 2000000 1 (0 + Int.toNat v10) 0) else none) (v := .pe 2000000 1 (0 + Int.toNat v10) 0) (by kernel_rfl) (ite_some hc21) (e1 := [(0, S1 n2), (8, I6 v9), (9, I6 v10), (16, S1 n2), (17, I6 v9), (18, S1 n2), (19, I6 v10), (20, S1 n2), (21, I6 v10), (22, .pe 2000000 1 (0 + Int.toNat v10) 0), (23, I6 e15), (24, S1 n2), (25, I6 v9), (26, .pe 2000000 1 (0 + Int.toNat v9) 0), (27, I6 e17), (28, .pe 2000000 1 (0 + Int.toNat v9) 0), (29, .pe 2000000 1 (0 + Int.toNat v10) 0), O1 u19]) (by kernel_rfl) ?_
      obtain ⟨u22, hu22, h⟩ := bind_some h
      obtain ⟨y23, hyy23, hzy23⟩ := upd_some hu22
      refine WO.storeK 0 (id := 2000000) (e := 3) (s := 1) (j := (0 + Int.toNat v10)) (off := 0) (vs := [I6 e17]) (xs := (List.map (AV.int .i64) u19)) (zs := (List.map (AV.int .i64) u22)) (y := ((AV.int .i64)) y23) (y' := ((AV.int .i64)) e17) (by kernel_rfl) (upd_get hyy23) (by kernel_rfl) (upd_set hzy23) (e1 := [(0, S1 n2), (8, I6 v9), (9, I6 v10), (16, S1 n2), (17, I6 v9), (18, S1 n2), (19, I6 v10), (20, S1 n2), (21, I6 v10), (22, .pe 2000000 1 (0 + Int.toNat v10) 0), (23, I6 e15), (24, S1 n2), (25, I6 v9), (26, .pe 2000000 1 (0 + Int.toNat v9) 0), (27, I6 e17), (28, .pe 2000000 1 (0 + Int.toNat v9) 0), (29, .pe 2000000 1 (0 + Int.toNat v10) 0), O1 u22]) (by kernel_rfl) ?_
      refine WO.fin [0, 8, 9, 2000000] [] [] [] (e2 := [(0, S1 n2), (8, I6 v9), (9, I6 v10), O1 u22]) (by kernel_rfl) (fun _ h => h) ?_
      refine W.seq ?_
      refine W.regT [0, 8, 9, 2000000] [] [] [] (e2 := [(0, S1 n2), (8, I6 (W6 (v9 + 1))), (9, I6 v10), O1 u22]) (by kernel_rfl) (by kernel_rfl) (fun _ h => h) ?_
      refine W.regT [0, 8, 9, 2000000] [] [] [] (e2 := [(0, S1 n2), (8, I6 (W6 (v9 + 1))), (9, I6 (W6 (v10 - 1))), O1 u22]) (by kernel_rfl) (by kernel_rfl) (fun _ h => h) ?_
      exact hN1 (u22, (W6 (v9 + 1)), (W6 (v10 - 1))) h
    replace h := cond_f hb h
    have hr : PostM Try.prog Try.f100 (.tup []) [O1 v8] .normal [(0, S1 n2), (8, I6 v9), (9, I6 v10), (15, .bool (decide (v9 < v10))), O1 v8] := ⟨by kernel_rfl, by kernel_rfl⟩
    cases h
    exact W.exit hr

end Go.AM
