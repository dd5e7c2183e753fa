/- PRINTED by gen.py: pure functions and the proofs that the code computes them. No statement of the seat is proved here. -/
import Derived.Test.YtombfedoinhafaaK189
set_option maxRecDepth 100000
set_option linter.unusedVariables false
set_option linter.unusedSimpArgs false
namespace Go.AM
open Go.Proofs
def sl_Equal_rf1Dep_j7 : Option Bool :=
  (some true)
def sl_Equal_rf1Dep_l1 (a2 : (List rf1Dep)) (K7 : (Option Bool)) : List rf1Dep → Nat → Option Bool
  | [], k1 => K7
  | x1 :: r1, k1 => ((idx a2 (k1 : Int)).bind fun e12 => (bif (!((x1.f_From == e12.f_From) && ((x1.f_To == e12.f_To) && true))) then (some false) else (sl_Equal_rf1Dep_l1 a2 K7 r1 (k1 + 1))))
def sl_Equal_rf1Dep (a1 : (List rf1Dep)) (a2 : (List rf1Dep)) : Option Bool :=
  (bif ((a1.length : Int) != (a2.length : Int)) then (some false) else (chk (lenOk a1) (sl_Equal_rf1Dep_l1 a2 (sl_Equal_rf1Dep_j7) a1 0)))
theorem run_sl_Equal_rf1Dep (a1 : (List rf1Dep)) (a2 : (List rf1Dep)) (r : Bool) (h : sl_Equal_rf1Dep a1 a2 = some r) : Run Try.prog (.call 51 [l40 none a1, l40 none a2] (.bool r)) := by
  refine call_of_W Try.func51 rfl (by kernel_rfl) (env0 := [(0, l40 none a1), (1, l40 none a2)]) (by kernel_rfl) ?_
  unfold sl_Equal_rf1Dep at h
  refine W.seq ?_
  refine W.regT [0, 1] [] [] [] (e2 := [(0, l40 none a1), (1, l40 none a2)]) (by kernel_rfl) (by kernel_rfl) (fun _ h => h) ?_
  refine W.seq ?_
  refine W.seq ?_
  refine W.region (by kernel_rfl) ?_
  refine WO.pureK 1 (some (I6 ((List.map e_rf1Dep a1).length : Int))) (v := I6 (a1.length : Int)) (by kernel_rfl) (by rw [List.length_map]) (e1 := [(0, l40 none a1), (1, l40 none a2), (6, l40 none a1), (7, I6 (a1.length : Int))]) (by kernel_rfl) ?_
  refine WO.pureK 1 (some (I6 ((List.map e_rf1Dep a2).length : Int))) (v := I6 (a2.length : Int)) (by kernel_rfl) (by rw [List.length_map]) (e1 := [(0, l40 none a1), (1, l40 none a2), (6, l40 none a1), (7, I6 (a1.length : Int)), (8, l40 none a2), (9, I6 (a2.length : Int))]) (by kernel_rfl) ?_
  refine WO.fin [0, 1, 10] [] [] [] (e2 := [(0, l40 none a1), (1, l40 none a2), (10, .bool ((a1.length : Int) != (a2.length : Int)))]) (by kernel_rfl) (fun _ h => h) ?_
  refine W.condB ((a1.length : Int) != (a2.length : Int)) (by kernel_rfl) (fun hb => ?_) (fun hb => ?_)
  · replace h := cond_t hb h
    refine W.seq ?_
    refine W.regT [4] [] [] [] (e2 := [(4, .bool false)]) (by kernel_rfl) (by kernel_rfl) (fun _ h => h) ?_
    refine W.weak [4] [] [] [] (env' := [(4, .bool false)]) (by kernel_rfl) ?_
    have hr : aresults Try.prog Try.f51 [(4, .bool false)] = some (.bool false) := by kernel_rfl
    cases h
    exact W.ret hr
  replace h := cond_f hb h
  refine W.skip ?_
  refine W.weak [0, 1] [] [] [] (env' := [(0, l40 none a1), (1, l40 none a2)]) (by kernel_rfl) ?_
  refine W.seq ?_
  refine W.join (σ := Unit) (fun s => []) (fun s => (sl_Equal_rf1Dep_j7) = some r) (fun s h => ?_) (fun hK7 => ?_)
  · have h : (sl_Equal_rf1Dep_j7) = some r := h
    unfold sl_Equal_rf1Dep_j7 at h
    refine W.seq ?_
    refine W.regT [4] [] [] [] (e2 := [(4, .bool true)]) (by kernel_rfl) (by kernel_rfl) (fun _ h => h) ?_
    refine W.weak [4] [] [] [] (env' := [(4, .bool true)]) (by kernel_rfl) ?_
    have hr : aresults Try.prog Try.f51 [(4, .bool true)] = some (.bool true) := by kernel_rfl
    cases h
    exact W.ret hr
  refine W.seq ?_
  refine W.region (by kernel_rfl) ?_
  refine WO.pureK 1 (some (I6 ((List.map e_rf1Dep a1).length : Int))) (v := I6 (a1.length : Int)) (by kernel_rfl) (by rw [List.length_map]) (e1 := [(0, l40 none a1), (1, l40 none a2), (11, l40 none a1), (12, I6 (a1.length : Int))]) (by kernel_rfl) ?_
  refine WO.fin [0, 1, 12, 13] [] [] [] (e2 := [(0, l40 none a1), (1, l40 none a2), (12, I6 (a1.length : Int)), (13, .int .i64 0)]) (by kernel_rfl) (fun _ h => h) ?_
  refine W.block ?_
  obtain ⟨hl1, h⟩ := chk_some h
  refine W.weak [0, 1, 12, 13] [] [] [] (env' := [(0, l40 none a1), (1, l40 none a2), (12, I6 (a1.length : Int)), (13, I6 ((0 : Nat) : Int))]) (by kernel_rfl) ?_
  refine W.range (σ := Unit) a1 (fun k1 s => [(0, l40 none a1), (1, l40 none a2), (12, I6 (a1.length : Int)), (13, I6 (k1 : Int))]) (fun r0 k0 s => sl_Equal_rf1Dep_l1 a2 (sl_Equal_rf1Dep_j7) r0 k0 = some r) (fun s h => ?_) (fun x1 r1 k1 s hx1 hk1 h hN1 => ?_) () h
  · have h : sl_Equal_rf1Dep_l1 a2 (sl_Equal_rf1Dep_j7) [] (a1).length = some r := h
    rw [sl_Equal_rf1Dep_l1.eq_1] at h
    refine W.seq ?_
    refine W.region (by kernel_rfl) ?_
    refine WO.pureK 0 (some (.bool (decide (((a1).length : Int) < (a1.length : Int))))) (v := .bool false) (by kernel_rfl) (by rw [lt_false (l := a1)]) (e1 := [(0, l40 none a1), (1, l40 none a2), (12, I6 (a1.length : Int)), (13, I6 ((a1).length : Int)), (14, .bool false)]) (by kernel_rfl) ?_
    refine WO.fin ([0, 1, 12, 13, 14]) [] [] [] (e2 := [(0, l40 none a1), (1, l40 none a2), (12, I6 (a1.length : Int)), (13, I6 ((a1).length : Int)), (14, .bool false)]) (by kernel_rfl) (fun _ h => h) ?_
    refine W.seq ?_
    refine W.condB false (by kernel_rfl) (fun h => Bool.noConfusion h) (fun _ => ?_)
    refine W.exit ?_
    refine W.weak [] [] [] [] (env' := []) (by kernel_rfl) ?_
    exact hK7 () h
  · have h : sl_Equal_rf1Dep_l1 a2 (sl_Equal_rf1Dep_j7) (x1 :: r1) k1 = some r := h
    rw [sl_Equal_rf1Dep_l1.eq_2] at h
    refine W.seq ?_
    refine W.region (by kernel_rfl) ?_
    refine WO.pureK 0 (some (.bool (decide ((k1 : Int) < (a1.length : Int))))) (v := .bool true) (by kernel_rfl) (by rw [lt_true hk1]) (e1 := [(0, l40 none a1), (1, l40 none a2), (12, I6 (a1.length : Int)), (13, I6 (k1 : Int)), (14, .bool true)]) (by kernel_rfl) ?_
    refine WO.fin ([0, 1, 12, 13, 14]) [] [] [] (e2 := [(0, l40 none a1), (1, l40 none a2), (12, I6 (a1.length : Int)), (13, I6 (k1 : Int)), (14, .bool true)]) (by kernel_rfl) (fun _ h => h) ?_
    refine W.seq ?_
    refine W.condB true (by kernel_rfl) (fun _ => ?_) (fun h => Bool.noConfusion h)
    refine W.skip ?_
    refine W.weak [0, 1, 12, 13] [] [] [] (env' := [(0, l40 none a1), (1, l40 none a2), (12, I6 (a1.length : Int)), (13, I6 (k1 : Int))]) (by kernel_rfl) ?_
    refine W.seq ?_
    refine W.block ?_
    refine W.seq ?_
    refine W.regT [0, 1, 5, 12, 13] [] [] [] (e2 := [(0, l40 none a1), (1, l40 none a2), (5, I6 (k1 : Int)), (12, I6 (a1.length : Int)), (13, I6 (k1 : Int))]) (by kernel_rfl) (by kernel_rfl) (fun _ h => h) ?_
    refine W.seq ?_
    refine W.region (by kernel_rfl) ?_
    refine WO.pureK 2 (if (0 : Int) ≤ (k1 : Int) then ((List.map e_rf1Dep a1)[Int.toNat (k1 : Int)]?).map AV.ptr else none) (v := .ptr (.agg [I6 x1.f_From, I6 x1.f_To])) (by kernel_rfl) (idx_nat (f := e_rf1Dep) hx1) (e1 := [(0, l40 none a1), (1, l40 none a2), (5, I6 (k1 : Int)), (12, I6 (a1.length : Int)), (13, I6 (k1 : Int)), (16, l40 none a1), (17, I6 (k1 : Int)), (18, .ptr (.agg [I6 x1.f_From, I6 x1.f_To]))]) (by kernel_rfl) ?_
    obtain ⟨e12, he12, h⟩ := bind_some h
    refine WO.pureK 3 (if (0 : Int) ≤ (k1 : Int) then ((List.map e_rf1Dep a2)[Int.toNat (k1 : Int)]?).map AV.ptr else none) (v := .ptr (.agg [I6 e12.f_From, I6 e12.f_To])) (by kernel_rfl) (idx_av (f := e_rf1Dep) he12) (e1 := [(0, l40 none a1), (1, l40 none a2), (5, I6 (k1 : Int)), (12, I6 (a1.length : Int)), (13, I6 (k1 : Int)), (16, l40 none a1), (17, I6 (k1 : Int)), (18, .ptr (.agg [I6 x1.f_From, I6 x1.f_To])), (19, .agg [I6 x1.f_From, I6 x1.f_To]), (20, l40 none a2), (21, I6 (k1 : Int)), (22, .ptr (.agg [I6 e12.f_From, I6 e12.f_To]))]) (by kernel_rfl) ?_
    refine WO.fin [0, 1, 12, 13, 24] [] [] [] (e2 := [(0, l40 none a1), (1, l40 none a2), (12, I6 (a1.length : Int)), (13, I6 (k1 : Int)), (24, .bool (!((x1.f_From == e12.f_From) && ((x1.f_To == e12.f_To) && true))))]) (by kernel_rfl) (fun _ h => h) ?_
    refine W.condB (!((x1.f_From == e12.f_From) && ((x1.f_To == e12.f_To) && true))) (by kernel_rfl) (fun hb => ?_) (fun hb => ?_)
    · replace h := cond_t hb h
      refine W.seq ?_
      refine W.regT [4] [] [] [] (e2 := [(4, .bool false)]) (by kernel_rfl) (by kernel_rfl) (fun _ h => h) ?_
      refine W.weak [4] [] [] [] (env' := [(4, .bool false)]) (by kernel_rfl) ?_
      have hr : aresults Try.prog Try.f51 [(4, .bool false)] = some (.bool false) := by kernel_rfl
      cases h
      exact W.ret hr
    replace h := cond_f hb h
    refine W.skip ?_
    refine W.weak [0, 1, 12, 13] [] [] [] (env' := [(0, l40 none a1), (1, l40 none a2), (12, I6 (a1.length : Int)), (13, I6 (k1 : Int))]) (by kernel_rfl) ?_
    refine W.region (by kernel_rfl) ?_
    refine WO.pureK 0 (some (I6 (IntKind.wrap .i64 ((k1 : Int) + 1)))) (v := I6 ((k1 + 1 : Nat) : Int)) (by kernel_rfl) (by rw [wrap_succ hl1 hk1]) (e1 := [(0, l40 none a1), (1, l40 none a2), (12, I6 (a1.length : Int)), (13, I6 (k1 : Int)), (25, I6 ((k1 + 1 : Nat) : Int))]) (by kernel_rfl) ?_
    refine WO.fin [0, 1, 12, 13] [] [] [] (e2 := [(0, l40 none a1), (1, l40 none a2), (12, I6 (a1.length : Int)), (13, I6 ((k1 + 1 : Nat) : Int))]) (by kernel_rfl) (fun _ h => h) ?_
    exact hN1 () h
def rf1_Set_j4 (v6 : Bool) : Option Bool :=
  (some v6)
def rf1_Set (a1 : Int) (a2 : Int) : Option Bool :=
  (bif (decide (a2 ≥ 0)) then (chk (decide (0 ≤ a1)) ((rf1_Set_j4) (decide (a2 < (iShl .i64 1 a1))))) else ((rf1_Set_j4) false))
theorem run_rf1_Set (a1 : Int) (a2 : Int) (r : Bool) (h : rf1_Set a1 a2 = some r) : Run Try.prog (.call 37 [I6 a1, I6 a2] (.bool r)) := by
  refine call_of_W Try.func37 rfl (by kernel_rfl) (env0 := [(0, I6 a1), (1, I6 a2)]) (by kernel_rfl) ?_
  unfold rf1_Set at h
  refine W.seq ?_
  refine W.regT [0, 1] [] [] [] (e2 := [(0, I6 a1), (1, I6 a2)]) (by kernel_rfl) (by kernel_rfl) (fun _ h => h) ?_
  refine W.seq ?_
  refine W.join (σ := (Bool)) (fun s => [(4, .bool s)]) (fun s => (rf1_Set_j4) s = some r) (fun s h => ?_) (fun hK4 => ?_)
  · obtain ⟨v6, rfl⟩ : ∃ x, x = s := ⟨s, rfl⟩
    have h : (rf1_Set_j4) v6 = some r := h
    unfold rf1_Set_j4 at h
    refine W.weak [4] [] [] [] (env' := [(4, .bool v6)]) (by kernel_rfl) ?_
    have hr : aresults Try.prog Try.f37 [(4, .bool v6)] = some (.bool v6) := by kernel_rfl
    cases h
    exact W.ret hr
  refine W.region (by kernel_rfl) ?_
  refine WO.boolK 3 (fun b => [(0, I6 a1), (1, I6 a2), (5, I6 a2), (6, .bool b), (7, .bool b)]) (decide (a2 ≥ 0)) (by kernel_rfl) (fun hb => ?_) (fun hb => ?_)
  · replace h := cond_t hb h
    obtain ⟨hc5, h⟩ := chk_some h
    refine WO.pureK 2 (if a1 < 0 then none else some (I6 (iShl .i64 1 a1))) (v := I6 (iShl .i64 1 a1)) (by kernel_rfl) (if_neg (not_lt_of_chk hc5)) (e1 := [(0, I6 a1), (1, I6 a2), (5, I6 a2), (6, .bool true), (7, .bool true), (8, I6 a2), (9, I6 a1), (10, I6 (iShl .i64 1 a1))]) (by kernel_rfl) ?_
    refine WO.fin [4] [] [] [] (e2 := [(4, .bool (decide (a2 < (iShl .i64 1 a1))))]) (by kernel_rfl) (fun _ h => h) ?_
    exact hK4 (decide (a2 < (iShl .i64 1 a1))) h
  replace h := cond_f hb h
  refine WO.fin [4] [] [] [] (e2 := [(4, .bool false)]) (by kernel_rfl) (fun _ h => h) ?_
  exact hK4 false h
def rf1_Pair_j4 (v7 : Bool) : Option Bool :=
  (some v7)
def rf1_Pair (a1 : Int) (a2 : rf1Dep) : Option Bool :=
  ((rf1_Set a1 a2.f_From).bind fun w5 => (bif w5 then ((rf1_Set a1 a2.f_To).bind fun w6 => ((rf1_Pair_j4) w6)) else ((rf1_Pair_j4) false)))
theorem run_rf1_Pair (a1 : Int) (a2 : rf1Dep) (r : Bool) (h : rf1_Pair a1 a2 = some r) : Run Try.prog (.call 31 [I6 a1, .agg [I6 a2.f_From, I6 a2.f_To]] (.bool r)) := by
  refine call_of_W Try.func31 rfl (by kernel_rfl) (env0 := [(0, I6 a1), (1, .agg [I6 a2.f_From, I6 a2.f_To])]) (by kernel_rfl) ?_
  unfold rf1_Pair at h
  refine W.seq ?_
  refine W.regT [0, 3] [3] [] [] (e2 := [(0, I6 a1), (3, .ptr (.agg [I6 a2.f_From, I6 a2.f_To]))]) (by kernel_rfl) (by kernel_rfl) (fun _ h => h) ?_
  refine W.seq ?_
  refine W.join (σ := (Bool)) (fun s => [(4, .bool s)]) (fun s => (rf1_Pair_j4) s = some r) (fun s h => ?_) (fun hK4 => ?_)
  · obtain ⟨v7, rfl⟩ : ∃ x, x = s := ⟨s, rfl⟩
    have h : (rf1_Pair_j4) v7 = some r := h
    unfold rf1_Pair_j4 at h
    refine W.weak [4] [] [] [] (env' := [(4, .bool v7)]) (by kernel_rfl) ?_
    have hr : aresults Try.prog Try.f31 [(4, .bool v7)] = some (.bool v7) := by kernel_rfl
    cases h
    exact W.ret hr
  refine W.region (by kernel_rfl) ?_
  obtain ⟨w5, hw5, h⟩ := bind_some h
  refine WO.callK 3 (F := 37) (l := [I6 a1, I6 a2.f_From]) (C := []) (r := .bool w5) (by kernel_rfl) (by kernel_rfl) (run_rf1_Set a1 a2.f_From w5 hw5) (e1 := [(0, I6 a1), (3, .ptr (.agg [I6 a2.f_From, I6 a2.f_To])), (5, I6 a1), (6, .ptr (I6 a2.f_From)), (7, I6 a2.f_From), (8, .bool w5)]) (by kernel_rfl) ?_
  refine WO.boolK 1 (fun b => [(0, I6 a1), (3, .ptr (.agg [I6 a2.f_From, I6 a2.f_To])), (5, I6 a1), (6, .ptr (I6 a2.f_From)), (7, I6 a2.f_From), (8, .bool b), (9, .bool b)]) w5 (by kernel_rfl) (fun hb => ?_) (fun hb => ?_)
  · replace h := cond_t hb h
    obtain ⟨w6, hw6, h⟩ := bind_some h
    refine WO.callK 3 (F := 37) (l := [I6 a1, I6 a2.f_To]) (C := []) (r := .bool w6) (by kernel_rfl) (by kernel_rfl) (run_rf1_Set a1 a2.f_To w6 hw6) (e1 := [(0, I6 a1), (3, .ptr (.agg [I6 a2.f_From, I6 a2.f_To])), (5, I6 a1), (6, .ptr (I6 a2.f_From)), (7, I6 a2.f_From), (8, .bool true), (9, .bool true), (10, I6 a1), (11, .ptr (I6 a2.f_To)), (12, I6 a2.f_To), (13, .bool w6)]) (by kernel_rfl) ?_
    refine WO.fin [4] [] [] [] (e2 := [(4, .bool w6)]) (by kernel_rfl) (fun _ h => h) ?_
    exact hK4 w6 h
  replace h := cond_f hb h
  refine WO.fin [4] [] [] [] (e2 := [(4, .bool false)]) (by kernel_rfl) (fun _ h => h) ?_
  exact hK4 false h
def lw1_DependTables_j15 (v17 : Bool) : Option Bool :=
  (some v17)
def lw1_DependTables_j28 (v30 : Bool) : Option Bool :=
  (some v30)
def lw1_DependTables_j31 (v34 : Bool) : Option Bool :=
  (some v34)
def lw1_DependTables_j19 (fuel : Nat) (a1 : Int) (a2 : (List (List Int))) (a3 : rf1Dep) (w8 : (Bool × Int)) (v23 : Bool) : Option Bool :=
  (bif v23 then (some false) else ((rf1_Pair a1 a3).bind fun w27 => (bif (!w27) then (bif (!w8.1) then (bif (w8.2 == 2) then ((lw1_awake fuel).bind fun w29 => ((lw1_DependTables_j28) w29)) else ((lw1_DependTables_j28) false)) else ((lw1_DependTables_j28) false)) else ((rf1_Holds a2 a3).bind fun w32 => (bif (w8.1 == w32) then (bif (w8.2 == 0) then ((lw1_awake fuel).bind fun w33 => ((lw1_DependTables_j31) w33)) else ((lw1_DependTables_j31) false)) else ((lw1_DependTables_j31) false))))))
def lw1_DependTables (fuel : Nat) (a1 : Int) (a2 : (List (List Int))) (a3 : rf1Dep) : Option Bool :=
  ((lw1_few a2).bind fun w6 => ((lw1_dep a3).bind fun w7 => ((dp_Holds a1 w6 w7).bind fun w8 => ((lw1_few a2).bind fun w10 => ((dp_Mine fuel a1 w10).bind fun w11 => ((rf1_Table a1 a2).bind fun w14 => (bif (!w14) then (bif (!w8.1) then (bif ((w11.1.length : Int) == 0) then (bif (w8.2 == 2) then (bif (w11.2 == 2) then ((lw1_awake fuel).bind fun w16 => ((lw1_DependTables_j15) w16)) else ((lw1_DependTables_j15) false)) else ((lw1_DependTables_j15) false)) else ((lw1_DependTables_j15) false)) else ((lw1_DependTables_j15) false)) else ((lw1_own w11.1).bind fun w20 => ((rf1_Mine a1 a2).bind fun w21 => ((sl_Equal_rf1Dep w20 w21).bind fun w22 => (bif (!w22) then ((lw1_DependTables_j19 fuel a1 a2 a3 w8) true) else ((lw1_DependTables_j19 fuel a1 a2 a3 w8) (w11.2 != 0)))))))))))))
theorem run_lw1_DependTables (fuel : Nat) (a1 : Int) (a2 : (List (List Int))) (a3 : rf1Dep) (r : Bool) (h : lw1_DependTables fuel a1 a2 a3 = some r) : Run Try.prog (.call 18 [I6 a1, l35 none a2, .agg [I6 a3.f_From, I6 a3.f_To]] (.bool r)) := by
  refine call_of_W Try.func18 rfl (by kernel_rfl) (env0 := [(0, I6 a1), (1, l35 none a2), (2, .agg [I6 a3.f_From, I6 a3.f_To])]) (by kernel_rfl) ?_
  unfold lw1_DependTables at h
  refine W.seq ?_
  refine W.regT [0, 1, 5] [5] [] [] (e2 := [(0, I6 a1), (1, l35 none a2), (5, .ptr (.agg [I6 a3.f_From, I6 a3.f_To]))]) (by kernel_rfl) (by kernel_rfl) (fun _ h => h) ?_
  refine W.seq ?_
  refine W.region (by kernel_rfl) ?_
  obtain ⟨w6, hw6, h⟩ := bind_some h
  refine WO.callK 2 (F := 42) (l := [l35 none a2]) (C := []) (r := l35 (some 1) w6) (by kernel_rfl) (by kernel_rfl) (run_lw1_few a2 w6 hw6) (e1 := [(0, I6 a1), (1, l35 none a2), (5, .ptr (.agg [I6 a3.f_From, I6 a3.f_To])), (12, I6 a1), (13, l35 none a2), (14, l35 none w6)]) (by kernel_rfl) ?_
  obtain ⟨w7, hw7, h⟩ := bind_some h
  refine WO.callK 1 (F := 25) (l := [.agg [I6 a3.f_From, I6 a3.f_To]]) (C := []) (r := .agg [I6 w7.f_From, I6 w7.f_To]) (by kernel_rfl) (by kernel_rfl) (run_lw1_dep a3 w7 hw7) (e1 := [(0, I6 a1), (1, l35 none a2), (5, .ptr (.agg [I6 a3.f_From, I6 a3.f_To])), (12, I6 a1), (13, l35 none a2), (14, l35 none w6), (15, .agg [I6 a3.f_From, I6 a3.f_To]), (16, .agg [I6 w7.f_From, I6 w7.f_To])]) (by kernel_rfl) ?_
  obtain ⟨w8, hw8, h⟩ := bind_some h
  refine WO.callK 0 (F := 41) (l := [I6 a1, l35 none w6, .agg [I6 w7.f_From, I6 w7.f_To]]) (C := []) (r := .tup [.bool w8.1, I6 w8.2]) (by kernel_rfl) (by kernel_rfl) (run_dp_Holds a1 w6 w7 w8 hw8) (e1 := [(0, I6 a1), (1, l35 none a2), (5, .ptr (.agg [I6 a3.f_From, I6 a3.f_To])), (12, I6 a1), (13, l35 none a2), (14, l35 none w6), (15, .agg [I6 a3.f_From, I6 a3.f_To]), (16, .agg [I6 w7.f_From, I6 w7.f_To]), (17, .tup [.bool w8.1, I6 w8.2])]) (by kernel_rfl) ?_
  refine WO.fin [0, 1, 5, 7, 8] [] [] [] (e2 := [(0, I6 a1), (1, l35 none a2), (5, .ptr (.agg [I6 a3.f_From, I6 a3.f_To])), (7, .bool w8.1), (8, I6 w8.2)]) (by kernel_rfl) (fun _ h => h) ?_
  refine W.seq ?_
  refine W.region (by kernel_rfl) ?_
  obtain ⟨w10, hw10, h⟩ := bind_some h
  refine WO.callK 2 (F := 42) (l := [l35 none a2]) (C := []) (r := l35 (some 1) w10) (by kernel_rfl) (by kernel_rfl) (run_lw1_few a2 w10 hw10) (e1 := [(0, I6 a1), (1, l35 none a2), (5, .ptr (.agg [I6 a3.f_From, I6 a3.f_To])), (7, .bool w8.1), (8, I6 w8.2), (21, I6 a1), (22, l35 none a2), (23, l35 (some 23) w10)]) (by kernel_rfl) ?_
  obtain ⟨w11, hw11, h⟩ := bind_some h
  refine WO.callK 0 (F := 54) (l := [I6 a1, l35 none w10]) (C := []) (r := .tup [l33 none w11.1, I6 w11.2]) (by kernel_rfl) (by kernel_rfl) (run_dp_Mine fuel a1 w10 w11 hw11) (e1 := [(0, I6 a1), (1, l35 none a2), (5, .ptr (.agg [I6 a3.f_From, I6 a3.f_To])), (7, .bool w8.1), (8, I6 w8.2), (21, I6 a1), (22, l35 none a2), (23, l35 (some 23) w10), (24, .tup [l33 none w11.1, I6 w11.2])]) (by kernel_rfl) ?_
  refine WO.fin [0, 1, 5, 7, 8, 9, 10] [] [] [] (e2 := [(0, I6 a1), (1, l35 none a2), (5, .ptr (.agg [I6 a3.f_From, I6 a3.f_To])), (7, .bool w8.1), (8, I6 w8.2), (9, l33 none w11.1), (10, I6 w11.2)]) (by kernel_rfl) (fun _ h => h) ?_
  refine W.seq ?_
  refine W.seq ?_
  refine W.region (by kernel_rfl) ?_
  obtain ⟨w14, hw14, h⟩ := bind_some h
  refine WO.callK 2 (F := 40) (l := [I6 a1, l35 none a2]) (C := []) (r := .bool w14) (by kernel_rfl) (by kernel_rfl) (run_rf1_Table a1 a2 w14 hw14) (e1 := [(0, I6 a1), (1, l35 none a2), (5, .ptr (.agg [I6 a3.f_From, I6 a3.f_To])), (7, .bool w8.1), (8, I6 w8.2), (9, l33 none w11.1), (10, I6 w11.2), (27, I6 a1), (28, l35 none a2), (29, .bool w14)]) (by kernel_rfl) ?_
  refine WO.fin [0, 1, 5, 7, 8, 9, 10, 30] [] [] [] (e2 := [(0, I6 a1), (1, l35 none a2), (5, .ptr (.agg [I6 a3.f_From, I6 a3.f_To])), (7, .bool w8.1), (8, I6 w8.2), (9, l33 none w11.1), (10, I6 w11.2), (30, .bool (!w14))]) (by kernel_rfl) (fun _ h => h) ?_
  refine W.condB (!w14) (by kernel_rfl) (fun hb => ?_) (fun hb => ?_)
  · replace h := cond_t hb h
    refine W.seq ?_
    refine W.join (σ := (Bool)) (fun s => [(6, .bool s)]) (fun s => (lw1_DependTables_j15) s = some r) (fun s h => ?_) (fun hK15 => ?_)
    · obtain ⟨v17, rfl⟩ : ∃ x, x = s := ⟨s, rfl⟩
      have h : (lw1_DependTables_j15) v17 = some r := h
      unfold lw1_DependTables_j15 at h
      refine W.weak [6] [] [] [] (env' := [(6, .bool v17)]) (by kernel_rfl) ?_
      have hr : aresults Try.prog Try.f18 [(6, .bool v17)] = some (.bool v17) := by kernel_rfl
      cases h
      exact W.ret hr
    refine W.region (by kernel_rfl) ?_
    refine WO.boolK 3 (fun b => [(0, I6 a1), (1, l35 none a2), (5, .ptr (.agg [I6 a3.f_From, I6 a3.f_To])), (7, .bool w8.1), (8, I6 w8.2), (9, l33 none w11.1), (10, I6 w11.2), (30, .bool (!w14)), (31, .bool w8.1), (32, .bool b), (33, .bool b)]) (!w8.1) (by kernel_rfl) (fun hb => ?_) (fun hb => ?_)
    · replace h := cond_t hb h
      refine WO.pureK 1 (some (I6 ((List.map e_dpDep w11.1).length : Int))) (v := I6 (w11.1.length : Int)) (by kernel_rfl) (by rw [List.length_map]) (e1 := [(0, I6 a1), (1, l35 none a2), (5, .ptr (.agg [I6 a3.f_From, I6 a3.f_To])), (7, .bool w8.1), (8, I6 w8.2), (9, l33 none w11.1), (10, I6 w11.2), (30, .bool (!w14)), (31, .bool w8.1), (32, .bool true), (33, .bool true), (34, l33 none w11.1), (35, I6 (w11.1.length : Int))]) (by kernel_rfl) ?_
      refine WO.boolK 3 (fun b => [(0, I6 a1), (1, l35 none a2), (5, .ptr (.agg [I6 a3.f_From, I6 a3.f_To])), (7, .bool w8.1), (8, I6 w8.2), (9, l33 none w11.1), (10, I6 w11.2), (30, .bool (!w14)), (31, .bool w8.1), (32, .bool true), (33, .bool true), (34, l33 none w11.1), (35, I6 (w11.1.length : Int)), (36, .bool b), (37, .bool b), (38, .bool b)]) ((w11.1.length : Int) == 0) (by kernel_rfl) (fun hb => ?_) (fun hb => ?_)
      · replace h := cond_t hb h
        refine WO.boolK 4 (fun b => [(0, I6 a1), (1, l35 none a2), (5, .ptr (.agg [I6 a3.f_From, I6 a3.f_To])), (7, .bool w8.1), (8, I6 w8.2), (9, l33 none w11.1), (10, I6 w11.2), (30, .bool (!w14)), (31, .bool w8.1), (32, .bool true), (33, .bool true), (34, l33 none w11.1), (35, I6 (w11.1.length : Int)), (36, .bool true), (37, .bool true), (38, .bool true), (39, I6 w8.2), (40, .bool b), (41, .bool b), (42, .bool b)]) (w8.2 == 2) (by kernel_rfl) (fun hb => ?_) (fun hb => ?_)
        · replace h := cond_t hb h
          refine WO.boolK 4 (fun b => [(0, I6 a1), (1, l35 none a2), (5, .ptr (.agg [I6 a3.f_From, I6 a3.f_To])), (7, .bool w8.1), (8, I6 w8.2), (9, l33 none w11.1), (10, I6 w11.2), (30, .bool (!w14)), (31, .bool w8.1), (32, .bool true), (33, .bool true), (34, l33 none w11.1), (35, I6 (w11.1.length : Int)), (36, .bool true), (37, .bool true), (38, .bool true), (39, I6 w8.2), (40, .bool true), (41, .bool true), (42, .bool true), (43, I6 w11.2), (44, .bool b), (45, .bool b), (46, .bool b)]) (w11.2 == 2) (by kernel_rfl) (fun hb => ?_) (fun hb => ?_)
          · replace h := cond_t hb h
            obtain ⟨w16, hw16, h⟩ := bind_some h
            refine WO.callK 0 (F := 21) (l := []) (C := []) (r := .bool w16) (by kernel_rfl) (by kernel_rfl) (run_lw1_awake fuel w16 hw16) (e1 := [(0, I6 a1), (1, l35 none a2), (5, .ptr (.agg [I6 a3.f_From, I6 a3.f_To])), (7, .bool w8.1), (8, I6 w8.2), (9, l33 none w11.1), (10, I6 w11.2), (30, .bool (!w14)), (31, .bool w8.1), (32, .bool true), (33, .bool true), (34, l33 none w11.1), (35, I6 (w11.1.length : Int)), (36, .bool true), (37, .bool true), (38, .bool true), (39, I6 w8.2), (40, .bool true), (41, .bool true), (42, .bool true), (43, I6 w11.2), (44, .bool true), (45, .bool true), (46, .bool true), (47, .bool w16)]) (by kernel_rfl) ?_
            refine WO.fin [6] [] [] [] (e2 := [(6, .bool w16)]) (by kernel_rfl) (fun _ h => h) ?_
            exact hK15 w16 h
          replace h := cond_f hb h
          refine WO.fin [6] [] [] [] (e2 := [(6, .bool false)]) (by kernel_rfl) (fun _ h => h) ?_
          exact hK15 false h
        replace h := cond_f hb h
        refine WO.fin [6] [] [] [] (e2 := [(6, .bool false)]) (by kernel_rfl) (fun _ h => h) ?_
        exact hK15 false h
      replace h := cond_f hb h
      refine WO.fin [6] [] [] [] (e2 := [(6, .bool false)]) (by kernel_rfl) (fun _ h => h) ?_
      exact hK15 false h
    replace h := cond_f hb h
    refine WO.fin [6] [] [] [] (e2 := [(6, .bool false)]) (by kernel_rfl) (fun _ h => h) ?_
    exact hK15 false h
  replace h := cond_f hb h
  refine W.skip ?_
  refine W.weak [0, 1, 5, 7, 8, 9, 10] [] [] [] (env' := [(0, I6 a1), (1, l35 none a2), (5, .ptr (.agg [I6 a3.f_From, I6 a3.f_To])), (7, .bool w8.1), (8, I6 w8.2), (9, l33 none w11.1), (10, I6 w11.2)]) (by kernel_rfl) ?_
  refine W.seq ?_
  refine W.seq ?_
  refine W.join (σ := (Bool)) (fun s => [(0, I6 a1), (1, l35 none a2), (5, .ptr (.agg [I6 a3.f_From, I6 a3.f_To])), (7, .bool w8.1), (8, I6 w8.2), (59, .bool s)]) (fun s => (lw1_DependTables_j19 fuel a1 a2 a3 w8) s = some r) (fun s h => ?_) (fun hK19 => ?_)
  · obtain ⟨v23, rfl⟩ : ∃ x, x = s := ⟨s, rfl⟩
    have h : (lw1_DependTables_j19 fuel a1 a2 a3 w8) v23 = some r := h
    unfold lw1_DependTables_j19 at h
    refine W.condB v23 (by kernel_rfl) (fun hb => ?_) (fun hb => ?_)
    · replace h := cond_t hb h
      refine W.seq ?_
      refine W.regT [6] [] [] [] (e2 := [(6, .bool false)]) (by kernel_rfl) (by kernel_rfl) (fun _ h => h) ?_
      refine W.weak [6] [] [] [] (env' := [(6, .bool false)]) (by kernel_rfl) ?_
      have hr : aresults Try.prog Try.f18 [(6, .bool false)] = some (.bool false) := by kernel_rfl
      cases h
      exact W.ret hr
    replace h := cond_f hb h
    refine W.skip ?_
    refine W.weak [0, 1, 5, 7, 8] [] [] [] (env' := [(0, I6 a1), (1, l35 none a2), (5, .ptr (.agg [I6 a3.f_From, I6 a3.f_To])), (7, .bool w8.1), (8, I6 w8.2)]) (by kernel_rfl) ?_
    refine W.seq ?_
    refine W.seq ?_
    refine W.region (by kernel_rfl) ?_
    obtain ⟨w27, hw27, h⟩ := bind_some h
    refine WO.callK 2 (F := 31) (l := [I6 a1, .agg [I6 a3.f_From, I6 a3.f_To]]) (C := []) (r := .bool w27) (by kernel_rfl) (by kernel_rfl) (run_rf1_Pair a1 a3 w27 hw27) (e1 := [(0, I6 a1), (1, l35 none a2), (5, .ptr (.agg [I6 a3.f_From, I6 a3.f_To])), (7, .bool w8.1), (8, I6 w8.2), (60, I6 a1), (61, .agg [I6 a3.f_From, I6 a3.f_To]), (62, .bool w27)]) (by kernel_rfl) ?_
    refine WO.fin [1, 5, 7, 8, 63] [] [] [] (e2 := [(1, l35 none a2), (5, .ptr (.agg [I6 a3.f_From, I6 a3.f_To])), (7, .bool w8.1), (8, I6 w8.2), (63, .bool (!w27))]) (by kernel_rfl) (fun _ h => h) ?_
    refine W.condB (!w27) (by kernel_rfl) (fun hb => ?_) (fun hb => ?_)
    · replace h := cond_t hb h
      refine W.seq ?_
      refine W.join (σ := (Bool)) (fun s => [(6, .bool s)]) (fun s => (lw1_DependTables_j28) s = some r) (fun s h => ?_) (fun hK28 => ?_)
      · obtain ⟨v30, rfl⟩ : ∃ x, x = s := ⟨s, rfl⟩
        have h : (lw1_DependTables_j28) v30 = some r := h
        unfold lw1_DependTables_j28 at h
        refine W.weak [6] [] [] [] (env' := [(6, .bool v30)]) (by kernel_rfl) ?_
        have hr : aresults Try.prog Try.f18 [(6, .bool v30)] = some (.bool v30) := by kernel_rfl
        cases h
        exact W.ret hr
      refine W.region (by kernel_rfl) ?_
      refine WO.boolK 3 (fun b => [(1, l35 none a2), (5, .ptr (.agg [I6 a3.f_From, I6 a3.f_To])), (7, .bool w8.1), (8, I6 w8.2), (63, .bool (!w27)), (64, .bool w8.1), (65, .bool b), (66, .bool b)]) (!w8.1) (by kernel_rfl) (fun hb => ?_) (fun hb => ?_)
      · replace h := cond_t hb h
        refine WO.boolK 4 (fun b => [(1, l35 none a2), (5, .ptr (.agg [I6 a3.f_From, I6 a3.f_To])), (7, .bool w8.1), (8, I6 w8.2), (63, .bool (!w27)), (64, .bool w8.1), (65, .bool true), (66, .bool true), (67, I6 w8.2), (68, .bool b), (69, .bool b), (70, .bool b)]) (w8.2 == 2) (by kernel_rfl) (fun hb => ?_) (fun hb => ?_)
        · replace h := cond_t hb h
          obtain ⟨w29, hw29, h⟩ := bind_some h
          refine WO.callK 0 (F := 21) (l := []) (C := []) (r := .bool w29) (by kernel_rfl) (by kernel_rfl) (run_lw1_awake fuel w29 hw29) (e1 := [(1, l35 none a2), (5, .ptr (.agg [I6 a3.f_From, I6 a3.f_To])), (7, .bool w8.1), (8, I6 w8.2), (63, .bool (!w27)), (64, .bool w8.1), (65, .bool true), (66, .bool true), (67, I6 w8.2), (68, .bool true), (69, .bool true), (70, .bool true), (71, .bool w29)]) (by kernel_rfl) ?_
          refine WO.fin [6] [] [] [] (e2 := [(6, .bool w29)]) (by kernel_rfl) (fun _ h => h) ?_
          exact hK28 w29 h
        replace h := cond_f hb h
        refine WO.fin [6] [] [] [] (e2 := [(6, .bool false)]) (by kernel_rfl) (fun _ h => h) ?_
        exact hK28 false h
      replace h := cond_f hb h
      refine WO.fin [6] [] [] [] (e2 := [(6, .bool false)]) (by kernel_rfl) (fun _ h => h) ?_
      exact hK28 false h
    replace h := cond_f hb h
    refine W.skip ?_
    refine W.weak [1, 5, 7, 8] [] [] [] (env' := [(1, l35 none a2), (5, .ptr (.agg [I6 a3.f_From, I6 a3.f_To])), (7, .bool w8.1), (8, I6 w8.2)]) (by kernel_rfl) ?_
    refine W.seq ?_
    refine W.join (σ := (Bool)) (fun s => [(6, .bool s)]) (fun s => (lw1_DependTables_j31) s = some r) (fun s h => ?_) (fun hK31 => ?_)
    · obtain ⟨v34, rfl⟩ : ∃ x, x = s := ⟨s, rfl⟩
      have h : (lw1_DependTables_j31) v34 = some r := h
      unfold lw1_DependTables_j31 at h
      refine W.weak [6] [] [] [] (env' := [(6, .bool v34)]) (by kernel_rfl) ?_
      have hr : aresults Try.prog Try.f18 [(6, .bool v34)] = some (.bool v34) := by kernel_rfl
      cases h
      exact W.ret hr
    refine W.region (by kernel_rfl) ?_
    obtain ⟨w32, hw32, h⟩ := bind_some h
    refine WO.callK 3 (F := 56) (l := [l35 none a2, .agg [I6 a3.f_From, I6 a3.f_To]]) (C := []) (r := .bool w32) (by kernel_rfl) (by kernel_rfl) (run_rf1_Holds a2 a3 w32 hw32) (e1 := [(1, l35 none a2), (5, .ptr (.agg [I6 a3.f_From, I6 a3.f_To])), (7, .bool w8.1), (8, I6 w8.2), (73, .bool w8.1), (74, l35 none a2), (75, .agg [I6 a3.f_From, I6 a3.f_To]), (76, .bool w32)]) (by kernel_rfl) ?_
    refine WO.boolK 2 (fun b => [(1, l35 none a2), (5, .ptr (.agg [I6 a3.f_From, I6 a3.f_To])), (7, .bool w8.1), (8, I6 w8.2), (73, .bool w8.1), (74, l35 none a2), (75, .agg [I6 a3.f_From, I6 a3.f_To]), (76, .bool w32), (77, .bool b), (78, .bool b)]) (w8.1 == w32) (by kernel_rfl) (fun hb => ?_) (fun hb => ?_)
    · replace h := cond_t hb h
      refine WO.boolK 4 (fun b => [(1, l35 none a2), (5, .ptr (.agg [I6 a3.f_From, I6 a3.f_To])), (7, .bool w8.1), (8, I6 w8.2), (73, .bool w8.1), (74, l35 none a2), (75, .agg [I6 a3.f_From, I6 a3.f_To]), (76, .bool w32), (77, .bool true), (78, .bool true), (79, I6 w8.2), (80, .bool b), (81, .bool b), (82, .bool b)]) (w8.2 == 0) (by kernel_rfl) (fun hb => ?_) (fun hb => ?_)
      · replace h := cond_t hb h
        obtain ⟨w33, hw33, h⟩ := bind_some h
        refine WO.callK 0 (F := 21) (l := []) (C := []) (r := .bool w33) (by kernel_rfl) (by kernel_rfl) (run_lw1_awake fuel w33 hw33) (e1 := [(1, l35 none a2), (5, .ptr (.agg [I6 a3.f_From, I6 a3.f_To])), (7, .bool w8.1), (8, I6 w8.2), (73, .bool w8.1), (74, l35 none a2), (75, .agg [I6 a3.f_From, I6 a3.f_To]), (76, .bool w32), (77, .bool true), (78, .bool true), (79, I6 w8.2), (80, .bool true), (81, .bool true), (82, .bool true), (83, .bool w33)]) (by kernel_rfl) ?_
        refine WO.fin [6] [] [] [] (e2 := [(6, .bool w33)]) (by kernel_rfl) (fun _ h => h) ?_
        exact hK31 w33 h
      replace h := cond_f hb h
      refine WO.fin [6] [] [] [] (e2 := [(6, .bool false)]) (by kernel_rfl) (fun _ h => h) ?_
      exact hK31 false h
    replace h := cond_f hb h
    refine WO.fin [6] [] [] [] (e2 := [(6, .bool false)]) (by kernel_rfl) (fun _ h => h) ?_
    exact hK31 false h
  refine W.region (by kernel_rfl) ?_
  obtain ⟨w20, hw20, h⟩ := bind_some h
  refine WO.callK 1 (F := 52) (l := [l33 none w11.1]) (C := []) (r := l40 (some 1) w20) (by kernel_rfl) (by kernel_rfl) (run_lw1_own w11.1 w20 hw20) (e1 := [(0, I6 a1), (1, l35 none a2), (5, .ptr (.agg [I6 a3.f_From, I6 a3.f_To])), (7, .bool w8.1), (8, I6 w8.2), (9, l33 none w11.1), (10, I6 w11.2), (49, l33 none w11.1), (50, l40 (some 50) w20)]) (by kernel_rfl) ?_
  obtain ⟨w21, hw21, h⟩ := bind_some h
  refine WO.callK 2 (F := 55) (l := [I6 a1, l35 none a2]) (C := []) (r := l40 (some 1) w21) (by kernel_rfl) (by kernel_rfl) (run_rf1_Mine a1 a2 w21 hw21) (e1 := [(0, I6 a1), (1, l35 none a2), (5, .ptr (.agg [I6 a3.f_From, I6 a3.f_To])), (7, .bool w8.1), (8, I6 w8.2), (9, l33 none w11.1), (10, I6 w11.2), (49, l33 none w11.1), (50, l40 (some 50) w20), (51, I6 a1), (52, l35 none a2), (53, l40 (some 53) w21)]) (by kernel_rfl) ?_
  obtain ⟨w22, hw22, h⟩ := bind_some h
  refine WO.callK 0 (F := 51) (l := [l40 none w20, l40 none w21]) (C := []) (r := .bool w22) (by kernel_rfl) (by kernel_rfl) (run_sl_Equal_rf1Dep w20 w21 w22 hw22) (e1 := [(0, I6 a1), (1, l35 none a2), (5, .ptr (.agg [I6 a3.f_From, I6 a3.f_To])), (7, .bool w8.1), (8, I6 w8.2), (9, l33 none w11.1), (10, I6 w11.2), (49, l33 none w11.1), (50, l40 (some 50) w20), (51, I6 a1), (52, l35 none a2), (53, l40 (some 53) w21), (54, .bool w22)]) (by kernel_rfl) ?_
  refine WO.boolK 2 (fun b => [(0, I6 a1), (1, l35 none a2), (5, .ptr (.agg [I6 a3.f_From, I6 a3.f_To])), (7, .bool w8.1), (8, I6 w8.2), (9, l33 none w11.1), (10, I6 w11.2), (49, l33 none w11.1), (50, l40 (some 50) w20), (51, I6 a1), (52, l35 none a2), (53, l40 (some 53) w21), (54, .bool w22), (55, .bool b), (56, .bool b)]) (!w22) (by kernel_rfl) (fun hb => ?_) (fun hb => ?_)
  · replace h := cond_t hb h
    refine WO.fin [0, 1, 5, 7, 8, 59] [] [] [] (e2 := [(0, I6 a1), (1, l35 none a2), (5, .ptr (.agg [I6 a3.f_From, I6 a3.f_To])), (7, .bool w8.1), (8, I6 w8.2), (59, .bool true)]) (by kernel_rfl) (fun _ h => h) ?_
    exact hK19 true h
  replace h := cond_f hb h
  refine WO.fin [0, 1, 5, 7, 8, 59] [] [] [] (e2 := [(0, I6 a1), (1, l35 none a2), (5, .ptr (.agg [I6 a3.f_From, I6 a3.f_To])), (7, .bool w8.1), (8, I6 w8.2), (59, .bool (w11.2 != 0))]) (by kernel_rfl) (fun _ h => h) ?_
  exact hK19 (w11.2 != 0) h

end Go.AM
