/- s -/
import Derived.Test.YtoiejpkfpjingaaAWq
import Derived.Test.YtoiejpkfpjingaaChecked
import Derived.Test.YtoiejpkfpjingaaAMap
set_option maxRecDepth 100000
set_option linter.unusedVariables false
set_option linter.unusedSimpArgs false
namespace Go.AM
open Go.Proofs
abbrev I6 : Int → AV := AV.int .i64
abbrev W6 : Int → Int := IntKind.wrap .i64
abbrev O1 (l : List Int) : Nat × AV := (2000000, .obj 1000000005 1 (List.map (AV.int .u8) l))
abbrev M6 (l : List Int) : List AV := List.map (AV.int .i64) l
structure hsOp where
 f_Txn : Int
 f_Kind : Int
 f_Item : Int
def e_hsOp (x : hsOp) : AV := .agg [.int .i64 x.f_Txn, .int .i64 x.f_Kind, .int .i64 x.f_Item]
structure rf5Op where
 f_Txn : Int
 f_Kind : Int
 f_Item : Int
def l44 (c : Option Nat) (l : List hsOp) : AV := .lst 44 3 c (List.map e_hsOp l)
def e_rf5Op (x : rf5Op) : AV := .agg [.int .i64 x.f_Txn, .int .i64 x.f_Kind, .int .i64 x.f_Item]
def l43 (c : Option Nat) (l : List rf5Op) : AV := .lst 43 3 c (List.map e_rf5Op l)
end Go.AM
namespace Go.AM
open Go.Proofs
def sl_Index_hsOp_j4 : Option Int :=
 (some (-1))
def sl_Index_hsOp_l1 (a2 : hsOp) (K4 : (Option Int)) : List hsOp → Nat → Option Int
 | [], k1 => K4
 | x1 :: r1, k1 => (bif ((a2.f_Txn == x1.f_Txn) && ((a2.f_Kind == x1.f_Kind) && ((a2.f_Item == x1.f_Item) && true))) then (some (k1 : Int)) else (sl_Index_hsOp_l1 a2 K4 r1 (k1 + 1)))
def sl_Index_hsOp (a1 : (List hsOp)) (a2 : hsOp) : Option Int :=
 (chk (lenOk a1) (sl_Index_hsOp_l1 a2 (sl_Index_hsOp_j4) a1 0))
theorem run_sl_Index_hsOp (a1 : (List hsOp)) (a2 : hsOp) (r : Int) (h : sl_Index_hsOp a1 a2 = some r) : Run Try.prog (.call 74 [l44 none a1, .agg [I6 a2.f_Txn, I6 a2.f_Kind, I6 a2.f_Item]] (I6 r)) := by
 refine cW Try.func74 rfl (env0 := [(0, l44 none a1), (1, .agg [I6 a2.f_Txn, I6 a2.f_Kind, I6 a2.f_Item])]) ?_
 unfold sl_Index_hsOp at h
 refine W.seq ?_
 let z0 := fun t => EN ((0, l44 none a1) :: (3, .ptr (.agg [I6 a2.f_Txn, I6 a2.f_Kind, I6 a2.f_Item])) :: t)
 refine W.regT [0, 3] [3] [] [] (e2 := z0 []) (by kernel_rfl) (by kernel_rfl) (fun _ h => h) ?_
 refine W.seq ?_
 refine W.join (σ := Unit) (fun s => []) (fun s => (sl_Index_hsOp_j4) = some r) (fun s h => ?_) (fun hK4 => ?_)
 ·have h : (sl_Index_hsOp_j4) = some r := h
  unfold sl_Index_hsOp_j4 at h
  refine W.seq ?_
  refine W.rt (e2 := [(4, I6 (-1))]) ?_
  refine W.wk (env' := [(4, I6 (-1))]) ?_
  have hr : aresults Try.prog Try.f74 [(4, I6 (-1))] = some (I6 (-1)) := by kernel_rfl
  cases h
  exact W.ret hr
 refine W.seq ?_
 refine W.rg ?_
 refine WO.pk 1 (some (I6 ((List.map e_hsOp a1).length : Int))) (v := I6 (a1.length : Int)) (by rw [List.length_map]) (e1 := z0 [(6, l44 none a1), (7, I6 (a1.length : Int))]) ?_
 let z1 := fun t => z0 ((7, I6 (a1.length : Int)) :: t)
 refine WO.fn (e2 := z1 [(8, .int .i64 0)]) ?_
 refine W.block ?_
 obtain ⟨hl1, h⟩ := chk_some h
 refine W.wk (env' := z1 [(8, I6 ((0 : Nat) : Int))]) ?_
 refine W.range (σ := Unit) a1 (fun k1 s => z1 [(8, I6 (k1 : Int))]) (fun r0 k0 s => sl_Index_hsOp_l1 a2 (sl_Index_hsOp_j4) r0 k0 = some r) (fun s h => ?_) (fun x1 r1 k1 s hx1 hk1 h hN1 => ?_) () h
 ·have h : sl_Index_hsOp_l1 a2 (sl_Index_hsOp_j4) [] (a1).length = some r := h
  rw [sl_Index_hsOp_l1.eq_1] at h
  refine W.seq ?_
  refine W.rg ?_
  let z2 := fun t => z1 ((8, I6 ((a1).length : Int)) :: (9, .bool false) :: t)
  refine WO.pk 0 (some (.bool (decide (((a1).length : Int) < (a1.length : Int))))) (v := .bool false) (by rw [lt_false (l := a1)]) (e1 := z2 []) ?_
  refine WO.fn (e2 := z2 []) ?_
  refine W.seq ?_
  refine W.cb false (fun h => Bool.noConfusion h) (fun _ => ?_)
  refine W.exit ?_
  refine W.wk (env' := []) ?_
  exact hK4 () h
 ·have h : sl_Index_hsOp_l1 a2 (sl_Index_hsOp_j4) (x1 :: r1) k1 = some r := h
  rw [sl_Index_hsOp_l1.eq_2] at h
  refine W.seq ?_
  refine W.rg ?_
  let z3 := fun t => z1 ((8, I6 (k1 : Int)) :: t)
  refine WO.pk 0 (some (.bool (decide ((k1 : Int) < (a1.length : Int))))) (v := .bool true) (by rw [lt_true hk1]) (e1 := z3 [(9, .bool true)]) ?_
  refine WO.fn (e2 := z3 [(9, .bool true)]) ?_
  refine W.seq ?_
  refine W.cb true (fun _ => ?_) (fun h => Bool.noConfusion h)
  refine W.skip ?_
  refine W.wk (env' := z3 []) ?_
  refine W.seq ?_
  refine W.block ?_
  refine W.seq ?_
  let z4 := fun t => z0 ((5, I6 (k1 : Int)) :: (7, I6 (a1.length : Int)) :: (8, I6 (k1 : Int)) :: t)
  refine W.rt (e2 := z4 []) ?_
  refine W.seq ?_
  refine W.rg ?_
  refine WO.pk 3 (if (0 : Int) ≤ (k1 : Int) then ((List.map e_hsOp a1)[Int.toNat (k1 : Int)]?).map AV.ptr else none) (v := .ptr (.agg [I6 x1.f_Txn, I6 x1.f_Kind, I6 x1.f_Item])) (idx_nat (f := e_hsOp) hx1) (e1 := z4 [(11, .agg [I6 a2.f_Txn, I6 a2.f_Kind, I6 a2.f_Item]), (12, l44 none a1), (13, I6 (k1 : Int)), (14, .ptr (.agg [I6 x1.f_Txn, I6 x1.f_Kind, I6 x1.f_Item]))]) ?_
  refine WO.fn (e2 := z4 [(16, .bool ((a2.f_Txn == x1.f_Txn) && ((a2.f_Kind == x1.f_Kind) && ((a2.f_Item == x1.f_Item) && true))))]) ?_
  refine W.cb ((a2.f_Txn == x1.f_Txn) && ((a2.f_Kind == x1.f_Kind) && ((a2.f_Item == x1.f_Item) && true))) (fun hb => ?_) (fun hb => ?_)
  ·replace h := cond_t hb h
   refine W.seq ?_
   refine W.rt (e2 := [(4, I6 (k1 : Int))]) ?_
   refine W.wk (env' := [(4, I6 (k1 : Int))]) ?_
   have hr : aresults Try.prog Try.f74 [(4, I6 (k1 : Int))] = some (I6 (k1 : Int)) := by kernel_rfl
   cases h
   exact W.ret hr
  replace h := cond_f hb h
  refine W.skip ?_
  refine W.wk (env' := z3 []) ?_
  refine W.rg ?_
  refine WO.pk 0 (some (I6 (IntKind.wrap .i64 ((k1 : Int) + 1)))) (v := I6 ((k1 + 1 : Nat) : Int)) (by rw [wrap_succ hl1 hk1]) (e1 := z3 [(18, I6 ((k1 + 1 : Nat) : Int))]) ?_
  refine WO.fn (e2 := z1 [(8, I6 ((k1 + 1 : Nat) : Int))]) ?_
  exact hN1 () h
def hs_History_ending_j5 (v15 : (List (Int × Int))) : Option (List (Int × Int)) :=
 (some v15)
def hs_History_ending_l1 (a1 : (List hsOp)) (a2 : Int) (K5 : ((List (Int × Int)) → Option (List (Int × Int)))) : Nat → (List (Int × Int)) → Int → Option (List (Int × Int))
 | 0, _, _ => none
 | m1 + 1, v7, v8 => (bif (decide (v8 ≤ 6)) then ((sl_Index_hsOp a1 (hsOp.mk v8 a2 0)).bind fun w12 => (chk (wfI .i64 v8) (chk (Nat.blt v7.length 1000000000) ((hs_History_ending_l1 a1 a2 K5 m1) (mset keq1 v8 w12 v7) (IntKind.wrap .i64 (v8 + 1)))))) else (K5 v7))
def hs_History_ending (fuel : Nat) (a1 : (List hsOp)) (a2 : Int) : Option (List (Int × Int)) :=
 (hs_History_ending_l1 a1 a2 (hs_History_ending_j5) fuel ([] : (List (Int × Int))) 1)
theorem run_hs_History_ending (fuel : Nat) (a1 : (List hsOp)) (a2 : Int) (r : (List (Int × Int))) (h : hs_History_ending fuel a1 a2 = some r) : Run Try.prog (.call 62 [l44 none a1, I6 a2] (mpE (AV.int .i64) (AV.int .i64) r)) := by
 refine cW Try.func62 rfl (env0 := [(0, l44 none a1), (1, I6 a2)]) ?_
 unfold hs_History_ending at h
 refine W.seq ?_
 let z0 := fun t => EN ((0, l44 none a1) :: (1, I6 a2) :: t)
 refine W.rt (e2 := z0 []) ?_
 refine W.seq ?_
 let z1 := fun t => z0 ((5, .mb 0 1000007) :: t)
 refine W.rt (e2 := z1 [(1000007, hobE (AV.int .i64) (AV.int .i64) ([] : (List (Int × Int))))]) ?_
 refine W.seq ?_
 refine W.join (σ := ((List (Int × Int)))) (fun s => [(5, .mb 0 1000007), (1000007, hobE (AV.int .i64) (AV.int .i64) s)]) (fun s => (hs_History_ending_j5) s = some r) (fun s h => ?_) (fun hK5 => ?_)
 ·obtain ⟨v15, rfl⟩ : ∃ x, x = s := ⟨s, rfl⟩
  have h : (hs_History_ending_j5) v15 = some r := h
  unfold hs_History_ending_j5 at h
  refine W.seq ?_
  refine W.rt (e2 := [(4, .mb 0 1000007), (1000007, hobE (AV.int .i64) (AV.int .i64) v15)]) ?_
  refine W.mv [.frz 1000007] (env' := [(4, mpE (AV.int .i64) (AV.int .i64) v15)]) (by kernel_rfl) ?_
  refine W.wk (env' := [(4, mpE (AV.int .i64) (AV.int .i64) v15)]) ?_
  have hr : aresults Try.prog Try.f62 [(4, mpE (AV.int .i64) (AV.int .i64) v15)] = some (mpE (AV.int .i64) (AV.int .i64) v15) := by kernel_rfl
  cases h
  exact W.ret hr
 refine W.seq ?_
 let z2 := fun t => z1 ((6, .int .i64 1) :: (1000007, hobE (AV.int .i64) (AV.int .i64) ([] : (List (Int × Int)))) :: t)
 refine W.rt (e2 := z2 []) ?_
 refine W.block ?_
 refine W.wk (env' := z2 []) ?_
 refine W.fuel (σ := ((List (Int × Int)) × Int)) (fun s => z1 [(6, I6 s.2), (1000007, hobE (AV.int .i64) (AV.int .i64) s.1)]) (fun m0 s => hs_History_ending_l1 a1 a2 (hs_History_ending_j5) m0 s.1 s.2 = some r) (fun s h => ?_) (fun m1 s h hN1 => ?_) fuel (([] : (List (Int × Int))), 1) h
 ·obtain ⟨v7, v8⟩ := s
  have h : hs_History_ending_l1 a1 a2 (hs_History_ending_j5) 0 v7 v8 = some r := h
  rw [hs_History_ending_l1.eq_1] at h
  cases h
 ·obtain ⟨v7, v8⟩ := s
  have h : hs_History_ending_l1 a1 a2 (hs_History_ending_j5) (m1 + 1) v7 v8 = some r := h
  rw [hs_History_ending_l1.eq_2] at h
  refine W.seq ?_
  refine W.seq ?_
  let z3 := fun t => z1 ((6, I6 v8) :: t)
  refine W.rt (e2 := z3 [(9, .bool (decide (v8 ≤ 6))), (1000007, hobE (AV.int .i64) (AV.int .i64) v7)]) ?_
  refine W.cb (decide (v8 ≤ 6)) (fun hb => ?_) (fun hb => ?_)
  ·replace h := cond_t hb h
   refine W.skip ?_
   refine W.wk (env' := z3 [(1000007, hobE (AV.int .i64) (AV.int .i64) v7)]) ?_
   refine W.seq ?_
   refine W.block ?_
   refine W.rg ?_
   obtain ⟨w12, hw12, h⟩ := bind_some h
   let z4 := fun t => z3 ((12, .mb 0 1000007) :: (13, I6 v8) :: (14, l44 none a1) :: (15, I6 v8) :: (16, I6 a2) :: (17, .agg [I6 v8, I6 a2, .int .i64 0]) :: (18, I6 w12) :: t)
   refine WO.ck 6 (F := 74) (l := [l44 none a1, .agg [I6 v8, I6 a2, .int .i64 0]]) (C := []) (r := I6 w12) (run_sl_Index_hsOp a1 (hsOp.mk v8 a2 0) w12 hw12) (e1 := z4 [(1000007, hobE (AV.int .i64) (AV.int .i64) v7)]) ?_
   obtain ⟨hc13, h⟩ := chk_some h
   obtain ⟨hc14, h⟩ := chk_some h
   refine WO.mapK (F := (AV.int .i64)) (G := (AV.int .i64)) (eq := keq1) (l := v7) (a := v8) (b := w12) (id := 1000007) (kt := 3) 0 (keyS_int hc13) hc14 (e1 := z4 [(1000007, hobE (AV.int .i64) (AV.int .i64) (mset keq1 v8 w12 v7))]) ?_ (fun x => by kernel_rfl) (fun x y => by kernel_rfl)
   refine WO.fn (e2 := z3 [(1000007, hobE (AV.int .i64) (AV.int .i64) (mset keq1 v8 w12 v7))]) ?_
   refine W.rt (e2 := z1 [(6, I6 (W6 (v8 + 1))), (1000007, hobE (AV.int .i64) (AV.int .i64) (mset keq1 v8 w12 v7))]) ?_
   exact hN1 ((mset keq1 v8 w12 v7), (W6 (v8 + 1))) h
  replace h := cond_f hb h
  refine W.exit ?_
  refine W.wk (env' := [(5, .mb 0 1000007), (1000007, hobE (AV.int .i64) (AV.int .i64) v7)]) ?_
  exact hK5 v7 h
def lw5_of_j4 (v12 : (List hsOp)) : Option (List hsOp) :=
 (some v12)
def lw5_of_l1 (K4 : ((List hsOp) → Option (List hsOp))) : List rf5Op → Nat → (List hsOp) → Option (List hsOp)
 | [], k1, v6 => (K4 v6)
 | x1 :: r1, k1, v6 => (bif (decide ((k1 : Int) > 42)) then (K4 v6) else (chk (capOk 24 ((v6 ++ [(hsOp.mk x1.f_Txn x1.f_Kind x1.f_Item)])).length) ((lw5_of_l1 K4 r1 (k1 + 1)) (v6 ++ [(hsOp.mk x1.f_Txn x1.f_Kind x1.f_Item)]))))
def lw5_of (a1 : (List rf5Op)) : Option (List hsOp) :=
 (chk (lenOk a1) (lw5_of_l1 (lw5_of_j4) a1 0 ([] : (List hsOp))))
theorem run_lw5_of (a1 : (List rf5Op)) (r : (List hsOp)) (h : lw5_of a1 = some r) : Run Try.prog (.call 18 [l43 none a1] (l44 (some 1) r)) := by
 refine cW Try.func18 rfl (env0 := [(0, l43 none a1)]) ?_
 unfold lw5_of at h
 refine W.seq ?_
 refine W.rt (e2 := [(0, l43 none a1)]) ?_
 refine W.seq ?_
 refine W.rt (e2 := [(0, l43 none a1), (3, .nils)]) ?_
 refine W.seq ?_
 refine W.join (σ := ((List hsOp))) (fun s => [(3, l44 (some 10300) s)]) (fun s => (lw5_of_j4) s = some r) (fun s h => ?_) (fun hK4 => ?_)
 ·obtain ⟨v12, rfl⟩ : ∃ x, x = s := ⟨s, rfl⟩
  have h : (lw5_of_j4) v12 = some r := h
  unfold lw5_of_j4 at h
  refine W.seq ?_
  refine W.rt (e2 := [(2, l44 (some 10300) v12)]) ?_
  refine W.weak [2] [] [] [(10300, some 1)] (env' := [(2, l44 (some 1) v12)]) (by kernel_rfl) ?_
  have hr : aresults Try.prog Try.f18 [(2, l44 (some 1) v12)] = some (l44 (some 1) v12) := by kernel_rfl
  cases h
  exact W.ret hr
 refine W.seq ?_
 refine W.rg ?_
 refine WO.pk 1 (some (I6 ((List.map e_rf5Op a1).length : Int))) (v := I6 (a1.length : Int)) (by rw [List.length_map]) (e1 := [(0, l43 none a1), (3, .nils), (6, l43 none a1), (7, I6 (a1.length : Int))]) ?_
 refine WO.fn (e2 := [(3, .nils), (6, l43 none a1), (7, I6 (a1.length : Int)), (8, .int .i64 0)]) ?_
 refine W.block ?_
 obtain ⟨hl1, h⟩ := chk_some h
 refine W.weak [3, 6, 7, 8] [] [(3, 0, 44, 3, 10300)] [] (env' := [(3, l44 (some 10300) ([] : (List hsOp))), (6, l43 none a1), (7, I6 (a1.length : Int)), (8, I6 ((0 : Nat) : Int))]) (by kernel_rfl) ?_
 refine W.range (σ := ((List hsOp))) a1 (fun k1 s => [(3, l44 (some 10300) s), (6, l43 none a1), (7, I6 (a1.length : Int)), (8, I6 (k1 : Int))]) (fun r0 k0 s => lw5_of_l1 (lw5_of_j4) r0 k0 s = some r) (fun s h => ?_) (fun x1 r1 k1 s hx1 hk1 h hN1 => ?_) ([] : (List hsOp)) h
 ·obtain ⟨v6, rfl⟩ : ∃ x, x = s := ⟨s, rfl⟩
  have h : lw5_of_l1 (lw5_of_j4) [] (a1).length v6 = some r := h
  rw [lw5_of_l1.eq_1] at h
  refine W.seq ?_
  refine W.rg ?_
  let z0 := fun t => EN ((3, l44 (some 10300) v6) :: (6, l43 none a1) :: (7, I6 (a1.length : Int)) :: (8, I6 ((a1).length : Int)) :: (9, .bool false) :: t)
  refine WO.pk 0 (some (.bool (decide (((a1).length : Int) < (a1.length : Int))))) (v := .bool false) (by rw [lt_false (l := a1)]) (e1 := z0 []) ?_
  refine WO.fn (e2 := z0 []) ?_
  refine W.seq ?_
  refine W.cb false (fun h => Bool.noConfusion h) (fun _ => ?_)
  refine W.exit ?_
  refine W.wk (env' := [(3, l44 (some 10300) v6)]) ?_
  exact hK4 v6 h
 ·obtain ⟨v6, rfl⟩ : ∃ x, x = s := ⟨s, rfl⟩
  have h : lw5_of_l1 (lw5_of_j4) (x1 :: r1) k1 v6 = some r := h
  rw [lw5_of_l1.eq_2] at h
  refine W.seq ?_
  refine W.rg ?_
  let z1 := fun t => EN ((3, l44 (some 10300) v6) :: (6, l43 none a1) :: (7, I6 (a1.length : Int)) :: (8, I6 (k1 : Int)) :: t)
  refine WO.pk 0 (some (.bool (decide ((k1 : Int) < (a1.length : Int))))) (v := .bool true) (by rw [lt_true hk1]) (e1 := z1 [(9, .bool true)]) ?_
  refine WO.fn (e2 := z1 [(9, .bool true)]) ?_
  refine W.seq ?_
  refine W.cb true (fun _ => ?_) (fun h => Bool.noConfusion h)
  refine W.skip ?_
  refine W.wk (env' := z1 []) ?_
  refine W.seq ?_
  refine W.block ?_
  refine W.seq ?_
  refine W.rg ?_
  refine WO.pk 1 (if (0 : Int) ≤ (k1 : Int) then ((List.map e_rf5Op a1)[Int.toNat (k1 : Int)]?).map AV.ptr else none) (v := .ptr (.agg [I6 x1.f_Txn, I6 x1.f_Kind, I6 x1.f_Item])) (idx_nat (f := e_rf5Op) hx1) (e1 := z1 [(10, I6 (k1 : Int)), (11, .ptr (.agg [I6 x1.f_Txn, I6 x1.f_Kind, I6 x1.f_Item]))]) ?_
  let z2 := fun t => EN ((3, l44 (some 10300) v6) :: t)
  refine WO.fin [3, 4, 5, 6, 7, 8] [5] [] [] (e2 := z2 [(4, I6 (k1 : Int)), (5, .ptr (.agg [I6 x1.f_Txn, I6 x1.f_Kind, I6 x1.f_Item])), (6, l43 none a1), (7, I6 (a1.length : Int)), (8, I6 (k1 : Int))]) (by kernel_rfl) (fun _ h => h) ?_
  refine W.seq ?_
  refine W.seq ?_
  let z3 := fun t => z2 ((5, .ptr (.agg [I6 x1.f_Txn, I6 x1.f_Kind, I6 x1.f_Item])) :: (6, l43 none a1) :: (7, I6 (a1.length : Int)) :: (8, I6 (k1 : Int)) :: t)
  refine W.rt (e2 := z3 [(14, .bool (decide ((k1 : Int) > 42)))]) ?_
  refine W.cb (decide ((k1 : Int) > 42)) (fun hb => ?_) (fun hb => ?_)
  ·replace h := cond_t hb h
   refine W.exit ?_
   refine W.wk (env' := z2 []) ?_
   exact hK4 v6 h
  replace h := cond_f hb h
  refine W.skip ?_
  refine W.wk (env' := z3 []) ?_
  refine W.rg ?_
  obtain ⟨hc11, h⟩ := chk_some h
  refine WO.appendK 9 (d := 24) (e := 44) (s := 3) (bytes := 24) (xs := (List.map e_hsOp v6)) (ys := (List.map e_hsOp [(hsOp.mk x1.f_Txn x1.f_Kind x1.f_Item)])) (zs := (List.map e_hsOp (v6 ++ [(hsOp.mk x1.f_Txn x1.f_Kind x1.f_Item)]))) (env1 := [(3, l44 none v6), (5, .ptr (.agg [I6 x1.f_Txn, I6 x1.f_Kind, I6 x1.f_Item])), (6, l43 none a1), (7, I6 (a1.length : Int)), (8, I6 (k1 : Int)), (15, l44 none v6), (16, .ptr (I6 x1.f_Txn)), (17, I6 x1.f_Txn), (18, .ptr (I6 x1.f_Kind)), (19, I6 x1.f_Kind), (20, .ptr (I6 x1.f_Item)), (21, I6 x1.f_Item), (22, .agg [I6 x1.f_Txn, I6 x1.f_Kind, I6 x1.f_Item]), (23, l44 (some 23) [(hsOp.mk x1.f_Txn x1.f_Kind x1.f_Item)])]) (by kernel_rfl) (List.map_append.symm) (by rw [List.length_map]; exact hc11) (e1 := [(3, l44 none v6), (5, .ptr (.agg [I6 x1.f_Txn, I6 x1.f_Kind, I6 x1.f_Item])), (6, l43 none a1), (7, I6 (a1.length : Int)), (8, I6 (k1 : Int)), (15, l44 none v6), (16, .ptr (I6 x1.f_Txn)), (17, I6 x1.f_Txn), (18, .ptr (I6 x1.f_Kind)), (19, I6 x1.f_Kind), (20, .ptr (I6 x1.f_Item)), (21, I6 x1.f_Item), (22, .agg [I6 x1.f_Txn, I6 x1.f_Kind, I6 x1.f_Item]), (23, l44 (some 23) [(hsOp.mk x1.f_Txn x1.f_Kind x1.f_Item)]), (24, l44 (some 24) (v6 ++ [(hsOp.mk x1.f_Txn x1.f_Kind x1.f_Item)]))]) (by kernel_rfl) ?_
  let z4 := fun t => EN ((3, l44 (some 24) (v6 ++ [(hsOp.mk x1.f_Txn x1.f_Kind x1.f_Item)])) :: (6, l43 none a1) :: (7, I6 (a1.length : Int)) :: (8, I6 (k1 : Int)) :: t)
  refine WO.fn (e2 := z4 []) ?_
  refine W.rg ?_
  refine WO.pk 0 (some (I6 (IntKind.wrap .i64 ((k1 : Int) + 1)))) (v := I6 ((k1 + 1 : Nat) : Int)) (by rw [wrap_succ hl1 hk1]) (e1 := z4 [(25, I6 ((k1 + 1 : Nat) : Int))]) ?_
  refine WO.fin [3, 6, 7, 8] [] [] [(24, some 10300)] (e2 := [(3, l44 (some 10300) (v6 ++ [(hsOp.mk x1.f_Txn x1.f_Kind x1.f_Item)])), (6, l43 none a1), (7, I6 (a1.length : Int)), (8, I6 ((k1 + 1 : Nat) : Int))]) (by kernel_rfl) (fun _ h => h) ?_
  exact hN1 (v6 ++ [(hsOp.mk x1.f_Txn x1.f_Kind x1.f_Item)]) h
def hs_Valid_j7 : Option Bool :=
 (some true)
def hs_Valid_j15 (x1 : hsOp) (v9 : (List (Int × Bool))) (N1 : ((List (Int × Bool)) → Option Bool)) (v18 : Bool) (v19 : Bool) : Option Bool :=
 (bif v19 then (some false) else (chk (wfI .i64 x1.f_Txn) (chk (Nat.blt v9.length 1000000000) (N1 (mset keq1 x1.f_Txn v18 v9)))))
def hs_Valid_j12 (x1 : hsOp) (v9 : (List (Int × Bool))) (N1 : ((List (Int × Bool)) → Option Bool)) (v13 : Bool) : Option Bool :=
 (bif (decide (x1.f_Txn < 1)) then ((hs_Valid_j15 x1 v9 N1) v13 true) else (bif (decide (x1.f_Txn > 6)) then ((hs_Valid_j15 x1 v9 N1) v13 true) else (bif (decide (x1.f_Kind < 0)) then ((hs_Valid_j15 x1 v9 N1) v13 true) else (bif (decide (x1.f_Kind > 3)) then ((hs_Valid_j15 x1 v9 N1) v13 true) else (bif (decide (x1.f_Item < 0)) then ((hs_Valid_j15 x1 v9 N1) v13 true) else (bif (decide (x1.f_Item ≥ 6)) then ((hs_Valid_j15 x1 v9 N1) v13 true) else (bif v13 then (bif (x1.f_Item != 0) then ((hs_Valid_j15 x1 v9 N1) true true) else (chk (wfI .i64 x1.f_Txn) ((hs_Valid_j15 x1 v9 N1) true (mget keq1 false x1.f_Txn v9)))) else (chk (wfI .i64 x1.f_Txn) ((hs_Valid_j15 x1 v9 N1) false (mget keq1 false x1.f_Txn v9))))))))))
def hs_Valid_l1 (K7 : (Option Bool)) : List hsOp → Nat → (List (Int × Bool)) → Option Bool
 | [], k1, v9 => K7
 | x1 :: r1, k1, v9 => (bif (x1.f_Kind == 2) then ((hs_Valid_j12 x1 v9 (hs_Valid_l1 K7 r1 (k1 + 1))) true) else ((hs_Valid_j12 x1 v9 (hs_Valid_l1 K7 r1 (k1 + 1))) (x1.f_Kind == 3)))
def hs_Valid (a1 : (List hsOp)) : Option Bool :=
 (bif (decide ((a1.length : Int) > 40)) then (some false) else (chk (lenOk a1) (hs_Valid_l1 (hs_Valid_j7) a1 0 ([] : (List (Int × Bool))))))
theorem run_hs_Valid (a1 : (List hsOp)) (r : Bool) (h : hs_Valid a1 = some r) : Run Try.prog (.call 26 [l44 none a1] (.bool r)) := by
 refine cW Try.func26 rfl (env0 := [(0, l44 none a1)]) ?_
 unfold hs_Valid at h
 refine W.seq ?_
 let z0 := fun t => EN ((0, l44 none a1) :: t)
 refine W.rt (e2 := z0 []) ?_
 refine W.seq ?_
 let z1 := fun t => z0 ((3, .mb 0 1000007) :: (1000007, hobE (AV.int .i64) AV.bool ([] : (List (Int × Bool)))) :: t)
 refine W.rt (e2 := z1 []) ?_
 refine W.seq ?_
 refine W.seq ?_
 refine W.rg ?_
 let z2 := fun t => z0 ((3, .mb 0 1000007) :: t)
 refine WO.pk 1 (some (I6 ((List.map e_hsOp a1).length : Int))) (v := I6 (a1.length : Int)) (by rw [List.length_map]) (e1 := z2 [(8, l44 none a1), (9, I6 (a1.length : Int)), (1000007, hobE (AV.int .i64) AV.bool ([] : (List (Int × Bool))))]) ?_
 refine WO.fn (e2 := z2 [(10, .bool (decide ((a1.length : Int) > 40))), (1000007, hobE (AV.int .i64) AV.bool ([] : (List (Int × Bool))))]) ?_
 refine W.cb (decide ((a1.length : Int) > 40)) (fun hb => ?_) (fun hb => ?_)
 ·replace h := cond_t hb h
  refine W.seq ?_
  refine W.rt (e2 := [(2, .bool false)]) ?_
  refine W.wk (env' := [(2, .bool false)]) ?_
  have hr : aresults Try.prog Try.f26 [(2, .bool false)] = some (.bool false) := by kernel_rfl
  cases h
  exact W.ret hr
 replace h := cond_f hb h
 refine W.skip ?_
 refine W.wk (env' := z1 []) ?_
 refine W.seq ?_
 refine W.join (σ := Unit) (fun s => []) (fun s => (hs_Valid_j7) = some r) (fun s h => ?_) (fun hK7 => ?_)
 ·have h : (hs_Valid_j7) = some r := h
  unfold hs_Valid_j7 at h
  refine W.seq ?_
  refine W.rt (e2 := [(2, .bool true)]) ?_
  refine W.wk (env' := [(2, .bool true)]) ?_
  have hr : aresults Try.prog Try.f26 [(2, .bool true)] = some (.bool true) := by kernel_rfl
  cases h
  exact W.ret hr
 refine W.seq ?_
 refine W.rg ?_
 refine WO.pk 1 (some (I6 ((List.map e_hsOp a1).length : Int))) (v := I6 (a1.length : Int)) (by rw [List.length_map]) (e1 := z2 [(11, l44 none a1), (12, I6 (a1.length : Int)), (1000007, hobE (AV.int .i64) AV.bool ([] : (List (Int × Bool))))]) ?_
 let z3 := fun t => EN ((3, .mb 0 1000007) :: (11, l44 none a1) :: (12, I6 (a1.length : Int)) :: t)
 refine WO.fn (e2 := z3 [(13, .int .i64 0), (1000007, hobE (AV.int .i64) AV.bool ([] : (List (Int × Bool))))]) ?_
 refine W.block ?_
 obtain ⟨hl1, h⟩ := chk_some h
 refine W.wk (env' := z3 [(13, I6 ((0 : Nat) : Int)), (1000007, hobE (AV.int .i64) AV.bool ([] : (List (Int × Bool))))]) ?_
 refine W.range (σ := ((List (Int × Bool)))) a1 (fun k1 s => z3 [(13, I6 (k1 : Int)), (1000007, hobE (AV.int .i64) AV.bool s)]) (fun r0 k0 s => hs_Valid_l1 (hs_Valid_j7) r0 k0 s = some r) (fun s h => ?_) (fun x1 r1 k1 s hx1 hk1 h hN1 => ?_) ([] : (List (Int × Bool))) h
 ·obtain ⟨v9, rfl⟩ : ∃ x, x = s := ⟨s, rfl⟩
  have h : hs_Valid_l1 (hs_Valid_j7) [] (a1).length v9 = some r := h
  rw [hs_Valid_l1.eq_1] at h
  refine W.seq ?_
  refine W.rg ?_
  let z4 := fun t => z3 ((13, I6 ((a1).length : Int)) :: (14, .bool false) :: (1000007, hobE (AV.int .i64) AV.bool v9) :: t)
  refine WO.pk 0 (some (.bool (decide (((a1).length : Int) < (a1.length : Int))))) (v := .bool false) (by rw [lt_false (l := a1)]) (e1 := z4 []) ?_
  refine WO.fn (e2 := z4 []) ?_
  refine W.seq ?_
  refine W.cb false (fun h => Bool.noConfusion h) (fun _ => ?_)
  refine W.exit ?_
  refine W.wk (env' := []) ?_
  exact hK7 () h
 ·obtain ⟨v9, rfl⟩ : ∃ x, x = s := ⟨s, rfl⟩
  have h : hs_Valid_l1 (hs_Valid_j7) (x1 :: r1) k1 v9 = some r := h
  rw [hs_Valid_l1.eq_2] at h
  refine W.seq ?_
  refine W.rg ?_
  let z5 := fun t => z3 ((13, I6 (k1 : Int)) :: t)
  let z6 := fun t => z5 ((14, .bool true) :: (1000007, hobE (AV.int .i64) AV.bool v9) :: t)
  refine WO.pk 0 (some (.bool (decide ((k1 : Int) < (a1.length : Int))))) (v := .bool true) (by rw [lt_true hk1]) (e1 := z6 []) ?_
  refine WO.fn (e2 := z6 []) ?_
  refine W.seq ?_
  refine W.cb true (fun _ => ?_) (fun h => Bool.noConfusion h)
  refine W.skip ?_
  refine W.wk (env' := z5 [(1000007, hobE (AV.int .i64) AV.bool v9)]) ?_
  refine W.seq ?_
  refine W.block ?_
  refine W.seq ?_
  refine W.rg ?_
  refine WO.pk 0 (if (0 : Int) ≤ (k1 : Int) then ((List.map e_hsOp a1)[Int.toNat (k1 : Int)]?).map AV.ptr else none) (v := .ptr (.agg [I6 x1.f_Txn, I6 x1.f_Kind, I6 x1.f_Item])) (idx_nat (f := e_hsOp) hx1) (e1 := z5 [(15, .ptr (.agg [I6 x1.f_Txn, I6 x1.f_Kind, I6 x1.f_Item])), (1000007, hobE (AV.int .i64) AV.bool v9)]) ?_
  let z7 := fun t => EN ((3, .mb 0 1000007) :: (5, .ptr (.agg [I6 x1.f_Txn, I6 x1.f_Kind, I6 x1.f_Item])) :: t)
  let z8 := fun t => z7 ((11, l44 none a1) :: (12, I6 (a1.length : Int)) :: (13, I6 (k1 : Int)) :: t)
  refine WO.fin [3, 5, 11, 12, 13, 1000007] [5] [] [] (e2 := z8 [(1000007, hobE (AV.int .i64) AV.bool v9)]) (by kernel_rfl) (fun _ h => h) ?_
  refine W.seq ?_
  refine W.join (σ := (Bool)) (fun s => z7 [(6, .bool s), (11, l44 none a1), (12, I6 (a1.length : Int)), (13, I6 (k1 : Int)), (1000007, hobE (AV.int .i64) AV.bool v9)]) (fun s => (hs_Valid_j12 x1 v9 (hs_Valid_l1 (hs_Valid_j7) r1 (k1 + 1))) s = some r) (fun s h => ?_) (fun hK12 => ?_)
  ·obtain ⟨v13, rfl⟩ : ∃ x, x = s := ⟨s, rfl⟩
   have h : (hs_Valid_j12 x1 v9 (hs_Valid_l1 (hs_Valid_j7) r1 (k1 + 1))) v13 = some r := h
   unfold hs_Valid_j12 at h
   refine W.seq ?_
   refine W.seq ?_
   refine W.join (σ := (Bool × Bool)) (fun s => z7 [(6, .bool s.1), (11, l44 none a1), (12, I6 (a1.length : Int)), (13, I6 (k1 : Int)), (66, .bool s.2), (1000007, hobE (AV.int .i64) AV.bool v9)]) (fun s => (hs_Valid_j15 x1 v9 (hs_Valid_l1 (hs_Valid_j7) r1 (k1 + 1))) s.1 s.2 = some r) (fun s h => ?_) (fun hK15 => ?_)
   ·obtain ⟨v18, v19⟩ := s
    have h : (hs_Valid_j15 x1 v9 (hs_Valid_l1 (hs_Valid_j7) r1 (k1 + 1))) v18 v19 = some r := h
    unfold hs_Valid_j15 at h
    refine W.cb v19 (fun hb => ?_) (fun hb => ?_)
    ·replace h := cond_t hb h
     refine W.seq ?_
     refine W.rt (e2 := [(2, .bool false)]) ?_
     refine W.wk (env' := [(2, .bool false)]) ?_
     have hr : aresults Try.prog Try.f26 [(2, .bool false)] = some (.bool false) := by kernel_rfl
     cases h
     exact W.ret hr
    replace h := cond_f hb h
    refine W.skip ?_
    let z9 := fun t => z7 ((6, .bool v18) :: (11, l44 none a1) :: (12, I6 (a1.length : Int)) :: (13, I6 (k1 : Int)) :: t)
    refine W.wk (env' := z9 [(1000007, hobE (AV.int .i64) AV.bool v9)]) ?_
    refine W.rg ?_
    obtain ⟨hc21, h⟩ := chk_some h
    obtain ⟨hc22, h⟩ := chk_some h
    refine WO.mapK (F := (AV.int .i64)) (G := AV.bool) (eq := keq1) (l := v9) (a := x1.f_Txn) (b := v18) (id := 1000007) (kt := 3) 4 (keyS_int hc21) hc22 (e1 := z9 [(67, .mb 0 1000007), (68, .ptr (I6 x1.f_Txn)), (69, I6 x1.f_Txn), (70, .bool v18), (1000007, hobE (AV.int .i64) AV.bool (mset keq1 x1.f_Txn v18 v9))]) ?_ (fun x => by kernel_rfl) (fun x y => by kernel_rfl)
    refine WO.fn (e2 := z5 [(1000007, hobE (AV.int .i64) AV.bool (mset keq1 x1.f_Txn v18 v9))]) ?_
    refine W.rg ?_
    refine WO.pk 0 (some (I6 (IntKind.wrap .i64 ((k1 : Int) + 1)))) (v := I6 ((k1 + 1 : Nat) : Int)) (by rw [wrap_succ hl1 hk1]) (e1 := z5 [(71, I6 ((k1 + 1 : Nat) : Int)), (1000007, hobE (AV.int .i64) AV.bool (mset keq1 x1.f_Txn v18 v9))]) ?_
    refine WO.fn (e2 := z3 [(13, I6 ((k1 + 1 : Nat) : Int)), (1000007, hobE (AV.int .i64) AV.bool (mset keq1 x1.f_Txn v18 v9))]) ?_
    exact hN1 (mset keq1 x1.f_Txn v18 v9) h
   refine W.rg ?_
   let z10 := fun t => z7 ((6, .bool v13) :: (11, l44 none a1) :: (12, I6 (a1.length : Int)) :: (13, I6 (k1 : Int)) :: t)
   let z11 := fun t => z10 ((25, .ptr (I6 x1.f_Txn)) :: (26, I6 x1.f_Txn) :: t)
   refine WO.bk 4 (fun b => z11 [(27, .bool b), (28, .bool b), (1000007, hobE (AV.int .i64) AV.bool v9)]) (decide (x1.f_Txn < 1)) (fun hb => ?_) (fun hb => ?_)
   ·replace h := cond_t hb h
    refine WO.fn (e2 := z10 [(66, .bool true), (1000007, hobE (AV.int .i64) AV.bool v9)]) ?_
    exact hK15 (v13, true) h
   replace h := cond_f hb h
   let z12 := fun t => z11 ((27, .bool false) :: (28, .bool false) :: (29, .ptr (I6 x1.f_Txn)) :: (30, I6 x1.f_Txn) :: t)
   refine WO.bk 5 (fun b => z12 [(31, .bool b), (32, .bool b), (33, .bool b), (1000007, hobE (AV.int .i64) AV.bool v9)]) (decide (x1.f_Txn > 6)) (fun hb => ?_) (fun hb => ?_)
   ·replace h := cond_t hb h
    refine WO.fn (e2 := z10 [(66, .bool true), (1000007, hobE (AV.int .i64) AV.bool v9)]) ?_
    exact hK15 (v13, true) h
   replace h := cond_f hb h
   let z13 := fun t => z12 ((31, .bool false) :: (32, .bool false) :: (33, .bool false) :: (34, .ptr (I6 x1.f_Kind)) :: (35, I6 x1.f_Kind) :: t)
   refine WO.bk 5 (fun b => z13 [(36, .bool b), (37, .bool b), (38, .bool b), (1000007, hobE (AV.int .i64) AV.bool v9)]) (decide (x1.f_Kind < 0)) (fun hb => ?_) (fun hb => ?_)
   ·replace h := cond_t hb h
    refine WO.fn (e2 := z10 [(66, .bool true), (1000007, hobE (AV.int .i64) AV.bool v9)]) ?_
    exact hK15 (v13, true) h
   replace h := cond_f hb h
   let z14 := fun t => z13 ((36, .bool false) :: (37, .bool false) :: (38, .bool false) :: (39, .ptr (I6 x1.f_Kind)) :: (40, I6 x1.f_Kind) :: t)
   refine WO.bk 5 (fun b => z14 [(41, .bool b), (42, .bool b), (43, .bool b), (1000007, hobE (AV.int .i64) AV.bool v9)]) (decide (x1.f_Kind > 3)) (fun hb => ?_) (fun hb => ?_)
   ·replace h := cond_t hb h
    refine WO.fn (e2 := z10 [(66, .bool true), (1000007, hobE (AV.int .i64) AV.bool v9)]) ?_
    exact hK15 (v13, true) h
   replace h := cond_f hb h
   let z15 := fun t => z14 ((41, .bool false) :: (42, .bool false) :: (43, .bool false) :: (44, .ptr (I6 x1.f_Item)) :: (45, I6 x1.f_Item) :: t)
   refine WO.bk 5 (fun b => z15 [(46, .bool b), (47, .bool b), (48, .bool b), (1000007, hobE (AV.int .i64) AV.bool v9)]) (decide (x1.f_Item < 0)) (fun hb => ?_) (fun hb => ?_)
   ·replace h := cond_t hb h
    refine WO.fn (e2 := z10 [(66, .bool true), (1000007, hobE (AV.int .i64) AV.bool v9)]) ?_
    exact hK15 (v13, true) h
   replace h := cond_f hb h
   refine WO.bk 5 (fun b => z15 [(46, .bool false), (47, .bool false), (48, .bool false), (49, .ptr (I6 x1.f_Item)), (50, I6 x1.f_Item), (51, .bool b), (52, .bool b), (53, .bool b), (1000007, hobE (AV.int .i64) AV.bool v9)]) (decide (x1.f_Item ≥ 6)) (fun hb => ?_) (fun hb => ?_)
   ·replace h := cond_t hb h
    refine WO.fn (e2 := z10 [(66, .bool true), (1000007, hobE (AV.int .i64) AV.bool v9)]) ?_
    exact hK15 (v13, true) h
   replace h := cond_f hb h
   refine WO.bk 2 (fun b => z7 [(6, .bool b), (11, l44 none a1), (12, I6 (a1.length : Int)), (13, I6 (k1 : Int)), (25, .ptr (I6 x1.f_Txn)), (26, I6 x1.f_Txn), (27, .bool false), (28, .bool false), (29, .ptr (I6 x1.f_Txn)), (30, I6 x1.f_Txn), (31, .bool false), (32, .bool false), (33, .bool false), (34, .ptr (I6 x1.f_Kind)), (35, I6 x1.f_Kind), (36, .bool false), (37, .bool false), (38, .bool false), (39, .ptr (I6 x1.f_Kind)), (40, I6 x1.f_Kind), (41, .bool false), (42, .bool false), (43, .bool false), (44, .ptr (I6 x1.f_Item)), (45, I6 x1.f_Item), (46, .bool false), (47, .bool false), (48, .bool false), (49, .ptr (I6 x1.f_Item)), (50, I6 x1.f_Item), (51, .bool false), (52, .bool false), (53, .bool false), (54, .bool b), (55, .bool b), (1000007, hobE (AV.int .i64) AV.bool v9)]) v13 (fun hb => ?_) (fun hb => ?_)
   ·replace h := cond_t hb h
    let z16 := fun t => z7 ((6, .bool true) :: (11, l44 none a1) :: (12, I6 (a1.length : Int)) :: (13, I6 (k1 : Int)) :: (25, .ptr (I6 x1.f_Txn)) :: (26, I6 x1.f_Txn) :: (27, .bool false) :: (28, .bool false) :: (29, .ptr (I6 x1.f_Txn)) :: (30, I6 x1.f_Txn) :: (31, .bool false) :: (32, .bool false) :: (33, .bool false) :: (34, .ptr (I6 x1.f_Kind)) :: (35, I6 x1.f_Kind) :: (36, .bool false) :: (37, .bool false) :: (38, .bool false) :: (39, .ptr (I6 x1.f_Kind)) :: (40, I6 x1.f_Kind) :: (41, .bool false) :: (42, .bool false) :: (43, .bool false) :: (44, .ptr (I6 x1.f_Item)) :: (45, I6 x1.f_Item) :: (46, .bool false) :: (47, .bool false) :: (48, .bool false) :: (49, .ptr (I6 x1.f_Item)) :: (50, I6 x1.f_Item) :: (51, .bool false) :: (52, .bool false) :: (53, .bool false) :: (54, .bool true) :: (55, .bool true) :: (56, .ptr (I6 x1.f_Item)) :: (57, I6 x1.f_Item) :: t)
    refine WO.bk 6 (fun b => z16 [(58, .bool b), (59, .bool b), (60, .bool b), (61, .bool b), (1000007, hobE (AV.int .i64) AV.bool v9)]) (x1.f_Item != 0) (fun hb => ?_) (fun hb => ?_)
    ·replace h := cond_t hb h
     refine WO.fn (e2 := z7 [(6, .bool true), (11, l44 none a1), (12, I6 (a1.length : Int)), (13, I6 (k1 : Int)), (66, .bool true), (1000007, hobE (AV.int .i64) AV.bool v9)]) ?_
     exact hK15 (true, true) h
    replace h := cond_f hb h
    obtain ⟨hc16, h⟩ := chk_some h
    refine WO.pk 3 ((alookup Try.prog 83 [] (mpE (AV.int .i64) AV.bool v9) (I6 x1.f_Txn)).map AV.strip) (v := .bool (mget keq1 false x1.f_Txn v9)) (congrArg (Option.map AV.strip) (alookup_mp (F := (AV.int .i64)) (G := AV.bool) (eq := keq1) (l := v9) (k := x1.f_Txn) (z := false) (kt := 3) (e := 4) (keyS_int hc16) (by kernel_rfl) (fun x => by kernel_rfl) (fun x y => by kernel_rfl) (by kernel_rfl))) (e1 := z16 [(58, .bool false), (59, .bool false), (60, .bool false), (61, .bool false), (62, .mb 0 1000007), (63, .ptr (I6 x1.f_Txn)), (64, I6 x1.f_Txn), (65, .bool (mget keq1 false x1.f_Txn v9)), (1000007, hobE (AV.int .i64) AV.bool v9)]) ?_
    refine WO.fn (e2 := z7 [(6, .bool true), (11, l44 none a1), (12, I6 (a1.length : Int)), (13, I6 (k1 : Int)), (66, .bool (mget keq1 false x1.f_Txn v9)), (1000007, hobE (AV.int .i64) AV.bool v9)]) ?_
    exact hK15 (true, (mget keq1 false x1.f_Txn v9)) h
   replace h := cond_f hb h
   obtain ⟨hc17, h⟩ := chk_some h
   let z17 := fun t => z7 ((6, .bool false) :: (11, l44 none a1) :: (12, I6 (a1.length : Int)) :: (13, I6 (k1 : Int)) :: t)
   refine WO.pk 9 ((alookup Try.prog 83 [] (mpE (AV.int .i64) AV.bool v9) (I6 x1.f_Txn)).map AV.strip) (v := .bool (mget keq1 false x1.f_Txn v9)) (congrArg (Option.map AV.strip) (alookup_mp (F := (AV.int .i64)) (G := AV.bool) (eq := keq1) (l := v9) (k := x1.f_Txn) (z := false) (kt := 3) (e := 4) (keyS_int hc17) (by kernel_rfl) (fun x => by kernel_rfl) (fun x y => by kernel_rfl) (by kernel_rfl))) (e1 := z17 [(25, .ptr (I6 x1.f_Txn)), (26, I6 x1.f_Txn), (27, .bool false), (28, .bool false), (29, .ptr (I6 x1.f_Txn)), (30, I6 x1.f_Txn), (31, .bool false), (32, .bool false), (33, .bool false), (34, .ptr (I6 x1.f_Kind)), (35, I6 x1.f_Kind), (36, .bool false), (37, .bool false), (38, .bool false), (39, .ptr (I6 x1.f_Kind)), (40, I6 x1.f_Kind), (41, .bool false), (42, .bool false), (43, .bool false), (44, .ptr (I6 x1.f_Item)), (45, I6 x1.f_Item), (46, .bool false), (47, .bool false), (48, .bool false), (49, .ptr (I6 x1.f_Item)), (50, I6 x1.f_Item), (51, .bool false), (52, .bool false), (53, .bool false), (54, .bool false), (55, .bool false), (56, .und), (57, .und), (58, .und), (59, .bool false), (60, .bool false), (61, .bool false), (62, .mb 0 1000007), (63, .ptr (I6 x1.f_Txn)), (64, I6 x1.f_Txn), (65, .bool (mget keq1 false x1.f_Txn v9)), (1000007, hobE (AV.int .i64) AV.bool v9)]) ?_
   refine WO.fn (e2 := z17 [(66, .bool (mget keq1 false x1.f_Txn v9)), (1000007, hobE (AV.int .i64) AV.bool v9)]) ?_
   exact hK15 (false, (mget keq1 false x1.f_Txn v9)) h
  refine W.rg ?_
  refine WO.bk 4 (fun b => z8 [(17, .ptr (I6 x1.f_Kind)), (18, I6 x1.f_Kind), (19, .bool b), (20, .bool b), (1000007, hobE (AV.int .i64) AV.bool v9)]) (x1.f_Kind == 2) (fun hb => ?_) (fun hb => ?_)
  ·replace h := cond_t hb h
   refine WO.fn (e2 := z7 [(6, .bool true), (11, l44 none a1), (12, I6 (a1.length : Int)), (13, I6 (k1 : Int)), (1000007, hobE (AV.int .i64) AV.bool v9)]) ?_
   exact hK12 true h
  replace h := cond_f hb h
  refine WO.fn (e2 := z7 [(6, .bool (x1.f_Kind == 3)), (11, l44 none a1), (12, I6 (a1.length : Int)), (13, I6 (k1 : Int)), (1000007, hobE (AV.int .i64) AV.bool v9)]) ?_
  exact hK12 (x1.f_Kind == 3) h
end Go.AM
