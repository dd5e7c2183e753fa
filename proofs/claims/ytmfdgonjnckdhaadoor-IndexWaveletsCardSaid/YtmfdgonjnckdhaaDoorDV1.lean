/- s -/
import Derived.Test.YtmfdgonjnckdhaaDoorDVT
set_option maxRecDepth 100000
set_option linter.unusedVariables false
set_option linter.unusedSimpArgs false
namespace Go.AM
open Go.Proofs
def lw4_few (a1 : ByteArray) : Option ByteArray :=
 ((ssub a1 0 (if 300 < (a1.size : Int) then 300 else (a1.size : Int))).bind fun e4 => (some e4))
theorem run_lw4_few (a1 : ByteArray) (r : ByteArray) (h : lw4_few a1 = some r) : Run Tryd.prog (.call 7 [.str a1] (.str r)) := by
 refine cW Tryd.func7 rfl (env0 := [(0, .str a1)]) ?_
 unfold lw4_few at h
 refine W.seq ?_
 refine W.rt (e2 := [(0, .str a1)]) ?_
 refine W.seq ?_
 refine W.rg ?_
 obtain ⟨e4, he4, h⟩ := bind_some h
 refine WO.pk 4 (if (0 : Int) ≤ 0 ∧ 0 ≤ (if 300 < (a1.size : Int) then 300 else (a1.size : Int)) ∧ (if 300 < (a1.size : Int) then 300 else (a1.size : Int)) ≤ (a1.size : Int) then some (AV.str (a1.extract (Int.toNat 0) (Int.toNat (if 300 < (a1.size : Int) then 300 else (a1.size : Int))))) else none) (v := .str e4) (ssub_av he4) (e1 := [(0, .str a1), (3, .str a1), (4, .str a1), (5, I6 (a1.size : Int)), (6, I6 (if 300 < (a1.size : Int) then 300 else (a1.size : Int))), (7, .str e4)]) ?_
 refine WO.fn (e2 := [(2, .str e4)]) ?_
 refine W.wk (env' := [(2, .str e4)]) ?_
 have hr : aresults Tryd.prog Tryd.f7 [(2, .str e4)] = some (.str e4) := by kernel_rfl
 cases h
 exact W.ret hr
def ix_Wavelet (fuel : Nat) (a1 : ByteArray) : Option (ByteArray × Int) := wavP fuel a1
theorem run_ix_Wavelet (fuel : Nat) (a1 : ByteArray) (r : (ByteArray × Int)) (h : ix_Wavelet fuel a1 = some r) : Run Tryd.prog (.call 14 [.str a1] (.tup [.str r.1, I6 r.2])) := .ext0 (wavelet14 h)
def rf4_Moved_j3 (a1 : ByteArray) : Option Bool :=
 (some (decide ((a1.size : Int) ≤ 201)))
def rf4_Moved_j7 (N1 : (Option Bool)) (v11 : Bool) : Option Bool :=
 (bif v11 then (some false) else N1)
def rf4_Moved_l1 (a1 : ByteArray) (K3 : (Option Bool)) : List Nat → Nat → Option Bool
 | [], k1 => K3
 | x1 :: r1, k1 => ((sidx a1 (k1 : Int)).bind fun e8 => (bif (e8 != 10) then ((sidx a1 (k1 : Int)).bind fun e9 => (bif (decide (e9 < 32)) then ((rf4_Moved_j7 (rf4_Moved_l1 a1 K3 r1 (k1 + 1))) true) else ((sidx a1 (k1 : Int)).bind fun e10 => ((rf4_Moved_j7 (rf4_Moved_l1 a1 K3 r1 (k1 + 1))) (decide (e10 > 126)))))) else ((rf4_Moved_j7 (rf4_Moved_l1 a1 K3 r1 (k1 + 1))) false)))
def rf4_Moved (a1 : ByteArray) : Option Bool :=
 (chk (lenOk (List.range (Int.toNat (a1.size : Int)))) (rf4_Moved_l1 a1 (rf4_Moved_j3 a1) (List.range (Int.toNat (a1.size : Int))) 0))
theorem run_rf4_Moved (a1 : ByteArray) (r : Bool) (h : rf4_Moved a1 = some r) : Run Tryd.prog (.call 15 [.str a1] (.bool r)) := by
 refine cW Tryd.func15 rfl (env0 := [(0, .str a1)]) ?_
 unfold rf4_Moved at h
 refine W.seq ?_
 let z0 := fun t => EN ((0, .str a1) :: t)
 refine W.rt (e2 := z0 []) ?_
 refine W.seq ?_
 refine W.join (σ := Unit) (fun s => z0 []) (fun s => (rf4_Moved_j3 a1) = some r) (fun s h => ?_) (fun hK3 => ?_)
 ·have h : (rf4_Moved_j3 a1) = some r := h
  unfold rf4_Moved_j3 at h
  refine W.seq ?_
  let z1 := fun t => EN ((2, .bool (decide ((a1.size : Int) ≤ 201))) :: t)
  refine W.rt (e2 := z1 []) ?_
  refine W.wk (env' := z1 []) ?_
  have hr : aresults Tryd.prog Tryd.f15 [(2, .bool (decide ((a1.size : Int) ≤ 201)))] = some (.bool (decide ((a1.size : Int) ≤ 201))) := by kernel_rfl
  cases h
  exact W.ret hr
 refine W.seq ?_
 let z2 := fun t => z0 ((5, I6 (a1.size : Int)) :: t)
 refine W.rt (e2 := z2 [(6, .int .i64 0)]) ?_
 refine W.block ?_
 obtain ⟨hl1, h⟩ := chk_some h
 refine W.wk (env' := z2 [(6, I6 ((0 : Nat) : Int))]) ?_
 refine W.range (σ := Unit) (List.range (Int.toNat (a1.size : Int))) (fun k1 s => z2 [(6, I6 (k1 : Int))]) (fun r0 k0 s => rf4_Moved_l1 a1 (rf4_Moved_j3 a1) r0 k0 = some r) (fun s h => ?_) (fun x1 r1 k1 s hx1 hk1 h hN1 => ?_) () h
 ·have h : rf4_Moved_l1 a1 (rf4_Moved_j3 a1) [] ((List.range (Int.toNat (a1.size : Int)))).length = some r := h
  rw [rf4_Moved_l1.eq_1] at h
  refine W.seq ?_
  refine W.rg ?_
  let z3 := fun t => z2 ((6, I6 (((List.range (Int.toNat (a1.size : Int)))).length : Int)) :: (7, .bool false) :: t)
  refine WO.pk 0 (some (.bool (decide ((((List.range (Int.toNat (a1.size : Int)))).length : Int) < (a1.size : Int))))) (v := .bool false) (by rw [ltr_false (n := (a1.size : Int))]) (e1 := z3 []) ?_
  refine WO.fn (e2 := z3 []) ?_
  refine W.seq ?_
  refine W.cb false (fun h => Bool.noConfusion h) (fun _ => ?_)
  refine W.exit ?_
  refine W.wk (env' := z0 []) ?_
  exact hK3 () h
 ·have h : rf4_Moved_l1 a1 (rf4_Moved_j3 a1) (x1 :: r1) k1 = some r := h
  rw [rf4_Moved_l1.eq_2] at h
  refine W.seq ?_
  refine W.rg ?_
  let z4 := fun t => z2 ((6, I6 (k1 : Int)) :: t)
  refine WO.pk 0 (some (.bool (decide ((k1 : Int) < (a1.size : Int))))) (v := .bool true) (by rw [ltr_true hk1]) (e1 := z4 [(7, .bool true)]) ?_
  refine WO.fn (e2 := z4 [(7, .bool true)]) ?_
  refine W.seq ?_
  refine W.cb true (fun _ => ?_) (fun h => Bool.noConfusion h)
  refine W.skip ?_
  refine W.wk (env' := z4 []) ?_
  refine W.seq ?_
  refine W.block ?_
  refine W.seq ?_
  let z5 := fun t => z0 ((3, I6 (k1 : Int)) :: (5, I6 (a1.size : Int)) :: (6, I6 (k1 : Int)) :: t)
  refine W.rt (e2 := z5 []) ?_
  refine W.seq ?_
  refine W.join (σ := (Bool)) (fun s => z4 [(24, .bool s)]) (fun s => (rf4_Moved_j7 (rf4_Moved_l1 a1 (rf4_Moved_j3 a1) r1 (k1 + 1))) s = some r) (fun s h => ?_) (fun hK7 => ?_)
  ·obtain ⟨v11, rfl⟩ : ∃ x, x = s := ⟨s, rfl⟩
   have h : (rf4_Moved_j7 (rf4_Moved_l1 a1 (rf4_Moved_j3 a1) r1 (k1 + 1))) v11 = some r := h
   unfold rf4_Moved_j7 at h
   refine W.cb v11 (fun hb => ?_) (fun hb => ?_)
   ·replace h := cond_t hb h
    refine W.seq ?_
    refine W.rt (e2 := [(2, .bool false)]) ?_
    refine W.wk (env' := [(2, .bool false)]) ?_
    have hr : aresults Tryd.prog Tryd.f15 [(2, .bool false)] = some (.bool false) := by kernel_rfl
    cases h
    exact W.ret hr
   replace h := cond_f hb h
   refine W.skip ?_
   refine W.wk (env' := z4 []) ?_
   refine W.rg ?_
   refine WO.pk 0 (some (I6 (IntKind.wrap .i64 ((k1 : Int) + 1)))) (v := I6 ((k1 + 1 : Nat) : Int)) (by rw [wrap_succ hl1 hk1]) (e1 := z4 [(25, I6 ((k1 + 1 : Nat) : Int))]) ?_
   refine WO.fn (e2 := z2 [(6, I6 ((k1 + 1 : Nat) : Int))]) ?_
   exact hN1 () h
  refine W.rg ?_
  obtain ⟨e8, he8, h⟩ := bind_some h
  let z6 := fun t => z5 ((9, .str a1) :: (10, I6 (k1 : Int)) :: (11, .int .u8 e8) :: t)
  refine WO.pk 2 (if (0 : Int) ≤ (k1 : Int) then (a1[Int.toNat (k1 : Int)]?).map fun b => AV.int .u8 b.toNat else none) (v := .int .u8 e8) (sidx_av he8) (e1 := z6 []) ?_
  refine WO.bk 2 (fun b => z6 [(12, .bool b), (13, .bool b)]) (e8 != 10) (fun hb => ?_) (fun hb => ?_)
  ·replace h := cond_t hb h
   obtain ⟨e9, he9, h⟩ := bind_some h
   let z7 := fun t => z6 ((12, .bool true) :: (13, .bool true) :: (14, .str a1) :: (15, I6 (k1 : Int)) :: (16, .int .u8 e9) :: t)
   refine WO.pk 2 (if (0 : Int) ≤ (k1 : Int) then (a1[Int.toNat (k1 : Int)]?).map fun b => AV.int .u8 b.toNat else none) (v := .int .u8 e9) (sidx_av he9) (e1 := z7 []) ?_
   refine WO.bk 2 (fun b => z7 [(17, .bool b), (18, .bool b)]) (decide (e9 < 32)) (fun hb => ?_) (fun hb => ?_)
   ·replace h := cond_t hb h
    refine WO.fn (e2 := z4 [(24, .bool true)]) ?_
    exact hK7 true h
   replace h := cond_f hb h
   obtain ⟨e10, he10, h⟩ := bind_some h
   refine WO.pk 2 (if (0 : Int) ≤ (k1 : Int) then (a1[Int.toNat (k1 : Int)]?).map fun b => AV.int .u8 b.toNat else none) (v := .int .u8 e10) (sidx_av he10) (e1 := z7 [(17, .bool false), (18, .bool false), (19, .str a1), (20, I6 (k1 : Int)), (21, .int .u8 e10)]) ?_
   refine WO.fn (e2 := z4 [(24, .bool (decide (e10 > 126)))]) ?_
   exact hK7 (decide (e10 > 126)) h
  replace h := cond_f hb h
  refine WO.fn (e2 := z4 [(24, .bool false)]) ?_
  exact hK7 false h
def ix_valid_j3 (v5 : Bool) : Option Bool :=
 (some v5)
def ix_valid (a1 : ByteArray) : Option Bool :=
 (bif (decide ((a1.size : Int) ≤ 200)) then ((ix_printable a1).bind fun w4 => ((ix_valid_j3) w4)) else ((ix_valid_j3) false))
theorem run_ix_valid (a1 : ByteArray) (r : Bool) (h : ix_valid a1 = some r) : Run Tryd.prog (.call 19 [.str a1] (.bool r)) := by
 refine cW Tryd.func19 rfl (env0 := [(0, .str a1)]) ?_
 unfold ix_valid at h
 refine W.seq ?_
 refine W.rt (e2 := [(0, .str a1)]) ?_
 refine W.seq ?_
 refine W.join (σ := (Bool)) (fun s => [(2, .bool s)]) (fun s => (ix_valid_j3) s = some r) (fun s h => ?_) (fun hK3 => ?_)
 ·obtain ⟨v5, rfl⟩ : ∃ x, x = s := ⟨s, rfl⟩
  have h : (ix_valid_j3) v5 = some r := h
  unfold ix_valid_j3 at h
  refine W.wk (env' := [(2, .bool v5)]) ?_
  have hr : aresults Tryd.prog Tryd.f19 [(2, .bool v5)] = some (.bool v5) := by kernel_rfl
  cases h
  exact W.ret hr
 refine W.rg ?_
 let z0 := fun t => EN ((0, .str a1) :: (3, .str a1) :: (4, I6 (a1.size : Int)) :: t)
 refine WO.bk 4 (fun b => z0 [(5, .bool b), (6, .bool b)]) (decide ((a1.size : Int) ≤ 200)) (fun hb => ?_) (fun hb => ?_)
 ·replace h := cond_t hb h
  obtain ⟨w4, hw4, h⟩ := bind_some h
  refine WO.ck 1 (F := 35) (l := [.str a1]) (C := []) (r := .bool w4) (run_ix_printable a1 w4 hw4) (e1 := z0 [(5, .bool true), (6, .bool true), (7, .str a1), (8, .bool w4)]) ?_
  refine WO.fn (e2 := [(2, .bool w4)]) ?_
  exact hK3 w4 h
 replace h := cond_f hb h
 refine WO.fn (e2 := [(2, .bool false)]) ?_
 exact hK3 false h
def sl_SortFunc_int (a1 : (List Int)) (n1 : Nat) (c2 : ByteArray) : Option (List Int) := chk (decide (n1 = a1.length ∧ a1 ≠ [] ∧ a1.length < 4611686018427387904 ∧ (a1.all fun z => decide (0 ≤ z) && decide (z ≤ (c2.size : Int))) = true)) (some (sortSuf c2 a1))
theorem run_sl_SortFunc_int (a1 : (List Int)) (n1 : Nat) (c2 : ByteArray) (r : (List Int)) (h : sl_SortFunc_int a1 n1 c2 = some r) : Run Tryd.prog (.callM 37 [.sb 2000000 3 1 0 n1, .clo 38 [.ptr (.str c2)]] [(2000000, .obj 3 1 (M6 a1))] (.tup []) [(2000000, .obj 3 1 (M6 r))]) := by
 unfold sl_SortFunc_int at h
 obtain ⟨hp, h⟩ := chk_some h
 cases h
 obtain ⟨h1, h2, h3, h4⟩ := of_decide_eq_true hp
 subst h1
 exact .extM (sortSuf37 h2 h3 h4) (fun id x hx => by simp only [look] at hx; split at hx <;> cases hx; rfl)
def ix_suffixes_j5 (a1 : ByteArray) (v13 : (List Int)) : Option (List Int) :=
 ((sl_SortFunc_int v13 (Int.toNat (IntKind.wrap .i64 ((a1.size : Int) + 1))) a1).bind fun w15 => (some (snap 0 (Int.toNat (IntKind.wrap .i64 ((a1.size : Int) + 1))) w15)))
def ix_suffixes_l1 (a1 : ByteArray) (K5 : ((List Int) → Option (List Int))) : List Nat → Nat → (List Int) → Option (List Int)
 | [], k1, v7 => (K5 v7)
 | x1 :: r1, k1, v7 => (chk (decide ((0 : Int) ≤ (k1 : Int) ∧ (k1 : Int) < (((Int.toNat (IntKind.wrap .i64 ((a1.size : Int) + 1))) : Nat) : Int))) ((upd v7 (0 + Int.toNat (k1 : Int)) (k1 : Int)).bind fun u11 => ((ix_suffixes_l1 a1 K5 r1 (k1 + 1)) u11)))
def ix_suffixes (a1 : ByteArray) : Option (List Int) :=
 (chk (mkOk 8 (IntKind.wrap .i64 ((a1.size : Int) + 1))) (chk (lenOk (List.range (Int.toNat (((Int.toNat (IntKind.wrap .i64 ((a1.size : Int) + 1))) : Nat) : Int)))) (ix_suffixes_l1 a1 (ix_suffixes_j5 a1) (List.range (Int.toNat (((Int.toNat (IntKind.wrap .i64 ((a1.size : Int) + 1))) : Nat) : Int))) 0 (List.replicate (Int.toNat (IntKind.wrap .i64 ((a1.size : Int) + 1))) 0))))
theorem run_ix_suffixes (a1 : ByteArray) (r : (List Int)) (h : ix_suffixes a1 = some r) : Run Tryd.prog (.call 21 [.str a1] (l3 none r)) := by
 refine cW Tryd.func21 rfl (env0 := [(0, .str a1)]) ?_
 unfold ix_suffixes at h
 refine W.seq ?_
 refine W.rg ?_
 refine WO.steps 2 (e1 := [(0, .str a1), (1, .box [.str a1]), (2, .nils)]) (by kernel_rfl) ?_
 refine WO.mv [.nil 2 3 1 1200002] (env' := [(0, .str a1), (1, .box [.str a1]), (2, .sb 1200002 3 1 0 (([] : (List Int)).length)), (1200002, .obj 3 1 (M6 ([] : (List Int))))]) (by kernel_rfl) ?_
 let z0 := fun t => EN ((1, .ptr (.str a1)) :: t)
 refine WO.fin [1] [1] [] [] (e2 := z0 []) (by kernel_rfl) (fun _ h => h) ?_
 refine W.seq ?_
 refine W.rg ?_
 obtain ⟨hc4, h⟩ := chk_some h
 refine WO.makeK 3 (d := 8) (e := 3) (s := 1) (bytes := 8) (m := (W6 ((a1.size : Int) + 1))) (z := (.int .i64 0)) (zs := (M6 (List.replicate (Int.toNat (W6 ((a1.size : Int) + 1))) 0))) (env1 := [(1, .ptr (.str a1)), (5, .str a1), (6, I6 (a1.size : Int)), (7, I6 (W6 ((a1.size : Int) + 1))), (8, .sb 1000008 3 1 0 (Int.toNat (W6 ((a1.size : Int) + 1))))]) (by kernel_rfl) hc4 (by first | exact rep_map | exact (rep_map (f := (AV.int .i64)))) (e1 := z0 [(5, .str a1), (6, I6 (a1.size : Int)), (7, I6 (W6 ((a1.size : Int) + 1))), (8, .sb 1000008 3 1 0 (Int.toNat (W6 ((a1.size : Int) + 1)))), (1000008, .obj 3 1 (M6 (List.replicate (Int.toNat (W6 ((a1.size : Int) + 1))) 0)))]) (by kernel_rfl) ?_
 let z1 := fun t => z0 ((3, .sb 1000008 3 1 0 (Int.toNat (W6 ((a1.size : Int) + 1)))) :: t)
 refine WO.fn (e2 := z1 [(1000008, .obj 3 1 (M6 (List.replicate (Int.toNat (W6 ((a1.size : Int) + 1))) 0)))]) ?_
 refine W.seq ?_
 refine W.join (σ := ((List Int))) (fun s => z1 [(1000008, .obj 3 1 (M6 s))]) (fun s => (ix_suffixes_j5 a1) s = some r) (fun s h => ?_) (fun hK5 => ?_)
 ·obtain ⟨v13, rfl⟩ : ∃ x, x = s := ⟨s, rfl⟩
  have h : (ix_suffixes_j5 a1) v13 = some r := h
  unfold ix_suffixes_j5 at h
  refine W.seq ?_
  refine W.rg ?_
  obtain ⟨w15, hw15, h⟩ := bind_some h
  refine WO.cm 2 [(1000008, 2000000)] [] (F := 37) (args := [.sb 2000000 3 1 0 (Int.toNat (W6 ((a1.size : Int) + 1))), .clo 38 [.ptr (.str a1)]]) (hp := [(2000000, .obj 3 1 (M6 v13))]) (hp2 := [(2000000, .obj 3 1 (M6 w15))]) (r := .tup []) (run_sl_SortFunc_int v13 (Int.toNat (W6 ((a1.size : Int) + 1))) a1 w15 hw15) (e1 := z1 [(19, .sb 1000008 3 1 0 (Int.toNat (W6 ((a1.size : Int) + 1)))), (20, .clo 38 [.ptr (.str a1)]), (21, .tup []), (1000008, .obj 3 1 (M6 w15))]) ?_
  refine WO.fn (e2 := [(3, .sb 1000008 3 1 0 (Int.toNat (W6 ((a1.size : Int) + 1)))), (1000008, .obj 3 1 (M6 w15))]) ?_
  refine W.seq ?_
  refine W.rt (e2 := [(2, .sb 1000008 3 1 0 (Int.toNat (W6 ((a1.size : Int) + 1)))), (1000008, .obj 3 1 (M6 w15))]) ?_
  let z2 := fun t => EN ((2, l3 none (snap 0 (Int.toNat (W6 ((a1.size : Int) + 1))) w15)) :: t)
  refine W.mv [.frz 1000008] (env' := z2 []) ((by kernel_rfl : mvAll [(2, .sb 1000008 3 1 0 (Int.toNat (W6 ((a1.size : Int) + 1)))), (1000008, .obj 3 1 (M6 w15))] [.frz 1000008] = [(2, .lst 3 1 none (snapA 0 (Int.toNat (W6 ((a1.size : Int) + 1))) (M6 w15)))]).trans (by first | (simp only [snap_map, snap_full, snap_rep]; done) | (simp only [snap_map, snap_full, snap_rep]; kernel_rfl))) ?_
  refine W.wk (env' := z2 []) ?_
  have hr : aresults Tryd.prog Tryd.f21 [(2, l3 none (snap 0 (Int.toNat (W6 ((a1.size : Int) + 1))) w15))] = some (l3 none (snap 0 (Int.toNat (W6 ((a1.size : Int) + 1))) w15)) := by kernel_rfl
  cases h
  exact W.ret hr
 refine W.seq ?_
 let z3 := fun t => z1 ((10, I6 (((Int.toNat (W6 ((a1.size : Int) + 1))) : Nat) : Int)) :: t)
 refine W.rt (e2 := z3 [(11, .int .i64 0), (1000008, .obj 3 1 (M6 (List.replicate (Int.toNat (W6 ((a1.size : Int) + 1))) 0)))]) ?_
 refine W.block ?_
 obtain ⟨hl1, h⟩ := chk_some h
 refine W.wk (env' := z3 [(11, I6 ((0 : Nat) : Int)), (1000008, .obj 3 1 (M6 (List.replicate (Int.toNat (W6 ((a1.size : Int) + 1))) 0)))]) ?_
 refine W.range (σ := ((List Int))) (List.range (Int.toNat (((Int.toNat (W6 ((a1.size : Int) + 1))) : Nat) : Int))) (fun k1 s => z3 [(11, I6 (k1 : Int)), (1000008, .obj 3 1 (M6 s))]) (fun r0 k0 s => ix_suffixes_l1 a1 (ix_suffixes_j5 a1) r0 k0 s = some r) (fun s h => ?_) (fun x1 r1 k1 s hx1 hk1 h hN1 => ?_) (List.replicate (Int.toNat (W6 ((a1.size : Int) + 1))) 0) h
 ·obtain ⟨v7, rfl⟩ : ∃ x, x = s := ⟨s, rfl⟩
  have h : ix_suffixes_l1 a1 (ix_suffixes_j5 a1) [] ((List.range (Int.toNat (((Int.toNat (W6 ((a1.size : Int) + 1))) : Nat) : Int)))).length v7 = some r := h
  rw [ix_suffixes_l1.eq_1] at h
  refine W.seq ?_
  refine W.rg ?_
  let z4 := fun t => z3 ((11, I6 (((List.range (Int.toNat (((Int.toNat (W6 ((a1.size : Int) + 1))) : Nat) : Int)))).length : Int)) :: (12, .bool false) :: (1000008, .obj 3 1 (M6 v7)) :: t)
  refine WO.pk 0 (some (.bool (decide ((((List.range (Int.toNat (((Int.toNat (W6 ((a1.size : Int) + 1))) : Nat) : Int)))).length : Int) < (((Int.toNat (W6 ((a1.size : Int) + 1))) : Nat) : Int))))) (v := .bool false) (by rw [ltr_false (n := (((Int.toNat (W6 ((a1.size : Int) + 1))) : Nat) : Int))]) (e1 := z4 []) ?_
  refine WO.fn (e2 := z4 []) ?_
  refine W.seq ?_
  refine W.cb false (fun h => Bool.noConfusion h) (fun _ => ?_)
  refine W.exit ?_
  refine W.wk (env' := z1 [(1000008, .obj 3 1 (M6 v7))]) ?_
  exact hK5 v7 h
 ·obtain ⟨v7, rfl⟩ : ∃ x, x = s := ⟨s, rfl⟩
  have h : ix_suffixes_l1 a1 (ix_suffixes_j5 a1) (x1 :: r1) k1 v7 = some r := h
  rw [ix_suffixes_l1.eq_2] at h
  refine W.seq ?_
  refine W.rg ?_
  let z5 := fun t => z3 ((11, I6 (k1 : Int)) :: (12, .bool true) :: (1000008, .obj 3 1 (M6 v7)) :: t)
  refine WO.pk 0 (some (.bool (decide ((k1 : Int) < (((Int.toNat (W6 ((a1.size : Int) + 1))) : Nat) : Int))))) (v := .bool true) (by rw [ltr_true hk1]) (e1 := z5 []) ?_
  refine WO.fn (e2 := z5 []) ?_
  refine W.seq ?_
  refine W.cb true (fun _ => ?_) (fun h => Bool.noConfusion h)
  refine W.skip ?_
  refine W.wk (env' := z3 [(11, I6 (k1 : Int)), (1000008, .obj 3 1 (M6 v7))]) ?_
  refine W.seq ?_
  refine W.block ?_
  refine W.seq ?_
  let z6 := fun t => z1 ((4, I6 (k1 : Int)) :: (10, I6 (((Int.toNat (W6 ((a1.size : Int) + 1))) : Nat) : Int)) :: (11, I6 (k1 : Int)) :: t)
  refine W.rt (e2 := z6 [(1000008, .obj 3 1 (M6 v7))]) ?_
  refine W.rg ?_
  obtain ⟨hc10, h⟩ := chk_some h
  let z7 := fun t => z6 ((14, .sb 1000008 3 1 0 (Int.toNat (W6 ((a1.size : Int) + 1)))) :: (15, I6 (k1 : Int)) :: (16, I6 (k1 : Int)) :: (17, .pe 1000008 1 (0 + Int.toNat (k1 : Int)) 0) :: t)
  refine WO.pi 3 (v := .pe 1000008 1 (0 + Int.toNat (k1 : Int)) 0) hc10 (e1 := z7 [(1000008, .obj 3 1 (M6 v7))]) ?_
  obtain ⟨u11, hu11, h⟩ := bind_some h
  obtain ⟨y12, hyy12, hzy12⟩ := upd_some hu11
  refine WO.sk 0 (id := 1000008) (e := 3) (s := 1) (off := 0) (vs := [I6 (k1 : Int)]) (AV.int .i64) hyy12 hzy12 (e1 := z7 [(1000008, .obj 3 1 (M6 u11))]) ?_
  refine WO.fn (e2 := z3 [(11, I6 (k1 : Int)), (1000008, .obj 3 1 (M6 u11))]) ?_
  refine W.rg ?_
  refine WO.pk 0 (some (I6 (IntKind.wrap .i64 ((k1 : Int) + 1)))) (v := I6 ((k1 + 1 : Nat) : Int)) (by rw [wrap_succ hl1 hk1]) (e1 := z0 [(3, .sb 1000008 3 1 0 (Int.toNat (IntKind.wrap .i64 ((a1.size : Int) + 1)))), (10, I6 (((Int.toNat (IntKind.wrap .i64 ((a1.size : Int) + 1))) : Nat) : Int)), (11, I6 (k1 : Int)), (18, I6 ((k1 + 1 : Nat) : Int)), (1000008, .obj 3 1 (M6 u11))]) ?_
  refine WO.fn (e2 := z3 [(11, I6 ((k1 + 1 : Nat) : Int)), (1000008, .obj 3 1 (M6 u11))]) ?_
  exact hN1 u11 h
def ix_Sort (a1 : ByteArray) : Option ((List Int) × Int) :=
 ((ix_valid a1).bind fun w5 => (bif (!w5) then (some (([] : (List Int)), 2)) else ((ix_suffixes a1).bind fun w8 => (some (w8, 0)))))
theorem run_ix_Sort (a1 : ByteArray) (r : ((List Int) × Int)) (h : ix_Sort a1 = some r) : Run Tryd.prog (.call 27 [.str a1] (.tup [l3 none r.1, I6 r.2])) := by
 refine cW Tryd.func27 rfl (env0 := [(0, .str a1)]) ?_
 unfold ix_Sort at h
 refine W.seq ?_
 refine W.rt (e2 := [(0, .str a1)]) ?_
 refine W.seq ?_
 refine W.seq ?_
 refine W.rg ?_
 obtain ⟨w5, hw5, h⟩ := bind_some h
 refine WO.ck 1 (F := 19) (l := [.str a1]) (C := []) (r := .bool w5) (run_ix_valid a1 w5 hw5) (e1 := [(0, .str a1), (4, .str a1), (5, .bool w5)]) ?_
 refine WO.fn (e2 := [(0, .str a1), (6, .bool (!w5))]) ?_
 refine W.cb (!w5) (fun hb => ?_) (fun hb => ?_)
 ·replace h := cond_t hb h
  refine W.seq ?_
  refine W.rt (e2 := [(2, .nils), (3, .int .i64 2)]) ?_
  refine W.weak [2, 3] [] [(2, 0, 3, 1, 70002)] [] (env' := [(2, l3 (some 70002) ([] : (List Int))), (3, .int .i64 2)]) (by kernel_rfl) ?_
  have hr : aresults Tryd.prog Tryd.f27 [(2, l3 (some 70002) ([] : (List Int))), (3, .int .i64 2)] = some (.tup [l3 none ([] : (List Int)), .int .i64 2]) := by kernel_rfl
  cases h
  exact W.ret hr
 replace h := cond_f hb h
 refine W.skip ?_
 refine W.wk (env' := [(0, .str a1)]) ?_
 refine W.seq ?_
 refine W.rg ?_
 obtain ⟨w8, hw8, h⟩ := bind_some h
 refine WO.ck 1 (F := 21) (l := [.str a1]) (C := []) (r := l3 none w8) (run_ix_suffixes a1 w8 hw8) (e1 := [(0, .str a1), (7, .str a1), (8, l3 none w8)]) ?_
 refine WO.fn (e2 := [(2, l3 none w8), (3, .int .i64 0)]) ?_
 refine W.wk (env' := [(2, l3 none w8), (3, .int .i64 0)]) ?_
 have hr : aresults Tryd.prog Tryd.f27 [(2, l3 none w8), (3, .int .i64 0)] = some (.tup [l3 none w8, .int .i64 0]) := by kernel_rfl
 cases h
 exact W.ret hr
def sl_Equal_int_j7 : Option Bool :=
 (some true)
def sl_Equal_int_l1 (a2 : (List Int)) (K7 : (Option Bool)) : List Int → Nat → Option Bool
 | [], k1 => K7
 | x1 :: r1, k1 => ((idx a2 (k1 : Int)).bind fun e12 => (bif (x1 != e12) then (some false) else (sl_Equal_int_l1 a2 K7 r1 (k1 + 1))))
def sl_Equal_int (a1 : (List Int)) (a2 : (List Int)) : Option Bool :=
 (bif ((a1.length : Int) != (a2.length : Int)) then (some false) else (chk (lenOk a1) (sl_Equal_int_l1 a2 (sl_Equal_int_j7) a1 0)))
theorem run_sl_Equal_int (a1 : (List Int)) (a2 : (List Int)) (r : Bool) (h : sl_Equal_int a1 a2 = some r) : Run Tryd.prog (.call 28 [l3 none a1, l3 none a2] (.bool r)) := by
 refine cW Tryd.func28 rfl (env0 := [(0, l3 none a1), (1, l3 none a2)]) ?_
 unfold sl_Equal_int at h
 refine W.seq ?_
 let z0 := fun t => EN ((0, l3 none a1) :: (1, l3 none a2) :: t)
 refine W.rt (e2 := z0 []) ?_
 refine W.seq ?_
 refine W.seq ?_
 refine W.rg ?_
 let z1 := fun t => z0 ((6, l3 none a1) :: (7, I6 (a1.length : Int)) :: t)
 refine WO.pk 1 (some (I6 ((M6 a1).length : Int))) (v := I6 (a1.length : Int)) (by rw [List.length_map]) (e1 := z1 []) ?_
 refine WO.pk 1 (some (I6 ((M6 a2).length : Int))) (v := I6 (a2.length : Int)) (by rw [List.length_map]) (e1 := z1 [(8, l3 none a2), (9, I6 (a2.length : Int))]) ?_
 refine WO.fn (e2 := z0 [(10, .bool ((a1.length : Int) != (a2.length : Int)))]) ?_
 refine W.cb ((a1.length : Int) != (a2.length : Int)) (fun hb => ?_) (fun hb => ?_)
 ·replace h := cond_t hb h
  refine W.seq ?_
  refine W.rt (e2 := [(4, .bool false)]) ?_
  refine W.wk (env' := [(4, .bool false)]) ?_
  have hr : aresults Tryd.prog Tryd.f28 [(4, .bool false)] = some (.bool false) := by kernel_rfl
  cases h
  exact W.ret hr
 replace h := cond_f hb h
 refine W.skip ?_
 refine W.wk (env' := z0 []) ?_
 refine W.seq ?_
 refine W.join (σ := Unit) (fun s => []) (fun s => (sl_Equal_int_j7) = some r) (fun s h => ?_) (fun hK7 => ?_)
 ·have h : (sl_Equal_int_j7) = some r := h
  unfold sl_Equal_int_j7 at h
  refine W.seq ?_
  refine W.rt (e2 := [(4, .bool true)]) ?_
  refine W.wk (env' := [(4, .bool true)]) ?_
  have hr : aresults Tryd.prog Tryd.f28 [(4, .bool true)] = some (.bool true) := by kernel_rfl
  cases h
  exact W.ret hr
 refine W.seq ?_
 refine W.rg ?_
 refine WO.pk 1 (some (I6 ((M6 a1).length : Int))) (v := I6 (a1.length : Int)) (by rw [List.length_map]) (e1 := z0 [(11, l3 none a1), (12, I6 (a1.length : Int))]) ?_
 let z2 := fun t => z0 ((12, I6 (a1.length : Int)) :: t)
 refine WO.fn (e2 := z2 [(13, .int .i64 0)]) ?_
 refine W.block ?_
 obtain ⟨hl1, h⟩ := chk_some h
 refine W.wk (env' := z2 [(13, I6 ((0 : Nat) : Int))]) ?_
 refine W.range (σ := Unit) a1 (fun k1 s => z2 [(13, I6 (k1 : Int))]) (fun r0 k0 s => sl_Equal_int_l1 a2 (sl_Equal_int_j7) r0 k0 = some r) (fun s h => ?_) (fun x1 r1 k1 s hx1 hk1 h hN1 => ?_) () h
 ·have h : sl_Equal_int_l1 a2 (sl_Equal_int_j7) [] (a1).length = some r := h
  rw [sl_Equal_int_l1.eq_1] at h
  refine W.seq ?_
  refine W.rg ?_
  let z3 := fun t => z2 ((13, I6 ((a1).length : Int)) :: (14, .bool false) :: t)
  refine WO.pk 0 (some (.bool (decide (((a1).length : Int) < (a1.length : Int))))) (v := .bool false) (by rw [lt_false (l := a1)]) (e1 := z3 []) ?_
  refine WO.fn (e2 := z3 []) ?_
  refine W.seq ?_
  refine W.cb false (fun h => Bool.noConfusion h) (fun _ => ?_)
  refine W.exit ?_
  refine W.wk (env' := []) ?_
  exact hK7 () h
 ·have h : sl_Equal_int_l1 a2 (sl_Equal_int_j7) (x1 :: r1) k1 = some r := h
  rw [sl_Equal_int_l1.eq_2] at h
  refine W.seq ?_
  refine W.rg ?_
  let z4 := fun t => z2 ((13, I6 (k1 : Int)) :: t)
  refine WO.pk 0 (some (.bool (decide ((k1 : Int) < (a1.length : Int))))) (v := .bool true) (by rw [lt_true hk1]) (e1 := z4 [(14, .bool true)]) ?_
  refine WO.fn (e2 := z4 [(14, .bool true)]) ?_
  refine W.seq ?_
  refine W.cb true (fun _ => ?_) (fun h => Bool.noConfusion h)
  refine W.skip ?_
  refine W.wk (env' := z4 []) ?_
  refine W.seq ?_
  refine W.block ?_
  refine W.seq ?_
  let z5 := fun t => z0 ((5, I6 (k1 : Int)) :: (12, I6 (a1.length : Int)) :: (13, I6 (k1 : Int)) :: t)
  refine W.rt (e2 := z5 []) ?_
  refine W.seq ?_
  refine W.rg ?_
  let z6 := fun t => z5 ((16, l3 none a1) :: (17, I6 (k1 : Int)) :: (18, .ptr (I6 x1)) :: t)
  refine WO.pk 2 (if (0 : Int) ≤ (k1 : Int) then ((M6 a1)[Int.toNat (k1 : Int)]?).map AV.ptr else none) (v := .ptr (I6 x1)) (idx_nat (f := (AV.int .i64)) hx1) (e1 := z6 []) ?_
  obtain ⟨e12, he12, h⟩ := bind_some h
  refine WO.pk 3 (if (0 : Int) ≤ (k1 : Int) then ((M6 a2)[Int.toNat (k1 : Int)]?).map AV.ptr else none) (v := .ptr (I6 e12)) (idx_av (f := (AV.int .i64)) he12) (e1 := z6 [(19, I6 x1), (20, l3 none a2), (21, I6 (k1 : Int)), (22, .ptr (I6 e12))]) ?_
  refine WO.fn (e2 := z4 [(24, .bool (x1 != e12))]) ?_
  refine W.cb (x1 != e12) (fun hb => ?_) (fun hb => ?_)
  ·replace h := cond_t hb h
   refine W.seq ?_
   refine W.rt (e2 := [(4, .bool false)]) ?_
   refine W.wk (env' := [(4, .bool false)]) ?_
   have hr : aresults Tryd.prog Tryd.f28 [(4, .bool false)] = some (.bool false) := by kernel_rfl
   cases h
   exact W.ret hr
  replace h := cond_f hb h
  refine W.skip ?_
  refine W.wk (env' := z4 []) ?_
  refine W.rg ?_
  refine WO.pk 0 (some (I6 (IntKind.wrap .i64 ((k1 : Int) + 1)))) (v := I6 ((k1 + 1 : Nat) : Int)) (by rw [wrap_succ hl1 hk1]) (e1 := z4 [(25, I6 ((k1 + 1 : Nat) : Int))]) ?_
  refine WO.fn (e2 := z2 [(13, I6 ((k1 + 1 : Nat) : Int))]) ?_
  exact hN1 () h
def lw4_awake_j4 (v6 : Bool) : Option Bool :=
 (some v6)
def lw4_awake : Option Bool :=
 ((ix_Sort (ByteArray.mk #[97, 98, 97, 98])).bind fun w3 => (bif (w3.2 == 0) then ((sl_Equal_int w3.1 [4, 2, 0, 3, 1]).bind fun w5 => ((lw4_awake_j4) w5)) else ((lw4_awake_j4) false)))
theorem run_lw4_awake  (r : Bool) (h : lw4_awake = some r) : Run Tryd.prog (.call 11 [] (.bool r)) := by
 refine cW Tryd.func11 rfl (env0 := []) ?_
 unfold lw4_awake at h
 refine W.seq ?_
 refine W.rt (e2 := []) ?_
 refine W.seq ?_
 refine W.rg ?_
 obtain ⟨w3, hw3, h⟩ := bind_some h
 refine WO.ck 0 (F := 27) (l := [.str (ByteArray.mk #[97, 98, 97, 98])]) (C := []) (r := .tup [l3 none w3.1, I6 w3.2]) (run_ix_Sort (ByteArray.mk #[97, 98, 97, 98]) w3 hw3) (e1 := [(4, .tup [l3 none w3.1, I6 w3.2])]) ?_
 let z0 := fun t => EN ((1, l3 none w3.1) :: (2, I6 w3.2) :: t)
 refine WO.fn (e2 := z0 []) ?_
 refine W.seq ?_
 refine W.join (σ := (Bool)) (fun s => [(0, .bool s)]) (fun s => (lw4_awake_j4) s = some r) (fun s h => ?_) (fun hK4 => ?_)
 ·obtain ⟨v6, rfl⟩ : ∃ x, x = s := ⟨s, rfl⟩
  have h : (lw4_awake_j4) v6 = some r := h
  unfold lw4_awake_j4 at h
  refine W.wk (env' := [(0, .bool v6)]) ?_
  have hr : aresults Tryd.prog Tryd.f11 [(0, .bool v6)] = some (.bool v6) := by kernel_rfl
  cases h
  exact W.ret hr
 refine W.rg ?_
 refine WO.bk 3 (fun b => z0 [(7, I6 w3.2), (8, .bool b), (9, .bool b)]) (w3.2 == 0) (fun hb => ?_) (fun hb => ?_)
 ·replace h := cond_t hb h
  obtain ⟨w5, hw5, h⟩ := bind_some h
  refine WO.ck 2 (F := 28) (l := [l3 none w3.1, l3 none [4, 2, 0, 3, 1]]) (C := []) (r := .bool w5) (run_sl_Equal_int w3.1 [4, 2, 0, 3, 1] w5 hw5) (e1 := z0 [(7, I6 w3.2), (8, .bool true), (9, .bool true), (10, l3 none w3.1), (11, l3 (some 11) [4, 2, 0, 3, 1]), (12, .bool w5)]) ?_
  refine WO.fn (e2 := [(0, .bool w5)]) ?_
  exact hK4 w5 h
 replace h := cond_f hb h
 refine WO.fn (e2 := [(0, .bool false)]) ?_
 exact hK4 false h
def rf4_Wavelet (fuel : Nat) (a1 : ByteArray) : Option ByteArray := refwP fuel a1
theorem run_rf4_Wavelet (fuel : Nat) (a1 : ByteArray) (r : ByteArray) (h : rf4_Wavelet fuel a1 = some r) : Run Tryd.prog (.call 16 [.str a1] (.str r)) := .ext0 (refwav16 h)
def lw4_IndexWavelets_j10 (v12 : Bool) : Option Bool :=
 (some v12)
def lw4_IndexWavelets_j13 (v16 : Bool) : Option Bool :=
 (some v16)
def lw4_IndexWavelets (fuel : Nat) (a1 : ByteArray) : Option Bool :=
 ((lw4_few a1).bind fun w4 => ((ix_Wavelet fuel w4).bind fun w6 => ((rf4_Moved w4).bind fun w9 => (bif (!w9) then (bif (w6.1.toList == (ByteArray.mk #[]).toList) then (bif (w6.2 == 2) then ((lw4_awake).bind fun w11 => ((lw4_IndexWavelets_j10) w11)) else ((lw4_IndexWavelets_j10) false)) else ((lw4_IndexWavelets_j10) false)) else ((rf4_Wavelet fuel w4).bind fun w14 => (bif (w6.1.toList == w14.toList) then (bif (w6.2 == 0) then ((lw4_awake).bind fun w15 => ((lw4_IndexWavelets_j13) w15)) else ((lw4_IndexWavelets_j13) false)) else ((lw4_IndexWavelets_j13) false)))))))
theorem run_lw4_IndexWavelets (fuel : Nat) (a1 : ByteArray) (r : Bool) (h : lw4_IndexWavelets fuel a1 = some r) : Run Tryd.prog (.call 4 [.str a1] (.bool r)) := by
 refine cW Tryd.func4 rfl (env0 := [(0, .str a1)]) ?_
 unfold lw4_IndexWavelets at h
 refine W.seq ?_
 refine W.rt (e2 := [(0, .str a1)]) ?_
 refine W.seq ?_
 refine W.rg ?_
 obtain ⟨w4, hw4, h⟩ := bind_some h
 refine WO.ck 1 (F := 7) (l := [.str a1]) (C := []) (r := .str w4) (run_lw4_few a1 w4 hw4) (e1 := [(0, .str a1), (5, .str a1), (6, .str w4)]) ?_
 let z0 := fun t => EN ((0, .str w4) :: t)
 refine WO.fn (e2 := z0 []) ?_
 refine W.seq ?_
 refine W.rg ?_
 obtain ⟨w6, hw6, h⟩ := bind_some h
 refine WO.ck 1 (F := 14) (l := [.str w4]) (C := []) (r := .tup [.str w6.1, I6 w6.2]) (run_ix_Wavelet fuel w4 w6 hw6) (e1 := z0 [(8, .str w4), (9, .tup [.str w6.1, I6 w6.2])]) ?_
 let z1 := fun t => z0 ((3, .str w6.1) :: (4, I6 w6.2) :: t)
 refine WO.fn (e2 := z1 []) ?_
 refine W.seq ?_
 refine W.seq ?_
 refine W.rg ?_
 obtain ⟨w9, hw9, h⟩ := bind_some h
 refine WO.ck 1 (F := 15) (l := [.str w4]) (C := []) (r := .bool w9) (run_rf4_Moved w4 w9 hw9) (e1 := z1 [(12, .str w4), (13, .bool w9)]) ?_
 let z2 := fun t => z1 ((14, .bool (!w9)) :: t)
 refine WO.fn (e2 := z2 []) ?_
 refine W.cb (!w9) (fun hb => ?_) (fun hb => ?_)
 ·replace h := cond_t hb h
  refine W.seq ?_
  refine W.join (σ := (Bool)) (fun s => [(2, .bool s)]) (fun s => (lw4_IndexWavelets_j10) s = some r) (fun s h => ?_) (fun hK10 => ?_)
  ·obtain ⟨v12, rfl⟩ : ∃ x, x = s := ⟨s, rfl⟩
   have h : (lw4_IndexWavelets_j10) v12 = some r := h
   unfold lw4_IndexWavelets_j10 at h
   refine W.wk (env' := [(2, .bool v12)]) ?_
   have hr : aresults Tryd.prog Tryd.f4 [(2, .bool v12)] = some (.bool v12) := by kernel_rfl
   cases h
   exact W.ret hr
  refine W.rg ?_
  let z3 := fun t => z2 ((15, .str w6.1) :: t)
  refine WO.bk 3 (fun b => z3 [(16, .bool b), (17, .bool b)]) (w6.1.toList == (ByteArray.mk #[]).toList) (fun hb => ?_) (fun hb => ?_)
  ·replace h := cond_t hb h
   let z4 := fun t => z3 ((16, .bool true) :: (17, .bool true) :: (18, I6 w6.2) :: t)
   refine WO.bk 4 (fun b => z4 [(19, .bool b), (20, .bool b), (21, .bool b)]) (w6.2 == 2) (fun hb => ?_) (fun hb => ?_)
   ·replace h := cond_t hb h
    obtain ⟨w11, hw11, h⟩ := bind_some h
    refine WO.ck 0 (F := 11) (l := []) (C := []) (r := .bool w11) (run_lw4_awake w11 hw11) (e1 := z4 [(19, .bool true), (20, .bool true), (21, .bool true), (22, .bool w11)]) ?_
    refine WO.fn (e2 := [(2, .bool w11)]) ?_
    exact hK10 w11 h
   replace h := cond_f hb h
   refine WO.fn (e2 := [(2, .bool false)]) ?_
   exact hK10 false h
  replace h := cond_f hb h
  refine WO.fn (e2 := [(2, .bool false)]) ?_
  exact hK10 false h
 replace h := cond_f hb h
 refine W.skip ?_
 refine W.wk (env' := z1 []) ?_
 refine W.seq ?_
 refine W.join (σ := (Bool)) (fun s => [(2, .bool s)]) (fun s => (lw4_IndexWavelets_j13) s = some r) (fun s h => ?_) (fun hK13 => ?_)
 ·obtain ⟨v16, rfl⟩ : ∃ x, x = s := ⟨s, rfl⟩
  have h : (lw4_IndexWavelets_j13) v16 = some r := h
  unfold lw4_IndexWavelets_j13 at h
  refine W.wk (env' := [(2, .bool v16)]) ?_
  have hr : aresults Tryd.prog Tryd.f4 [(2, .bool v16)] = some (.bool v16) := by kernel_rfl
  cases h
  exact W.ret hr
 refine W.rg ?_
 obtain ⟨w14, hw14, h⟩ := bind_some h
 let z5 := fun t => z1 ((24, .str w6.1) :: (25, .str w4) :: (26, .str w14) :: t)
 refine WO.ck 2 (F := 16) (l := [.str w4]) (C := []) (r := .str w14) (run_rf4_Wavelet fuel w4 w14 hw14) (e1 := z5 []) ?_
 refine WO.bk 2 (fun b => z5 [(27, .bool b), (28, .bool b)]) (w6.1.toList == w14.toList) (fun hb => ?_) (fun hb => ?_)
 ·replace h := cond_t hb h
  let z6 := fun t => z5 ((27, .bool true) :: (28, .bool true) :: (29, I6 w6.2) :: t)
  refine WO.bk 4 (fun b => z6 [(30, .bool b), (31, .bool b), (32, .bool b)]) (w6.2 == 0) (fun hb => ?_) (fun hb => ?_)
  ·replace h := cond_t hb h
   obtain ⟨w15, hw15, h⟩ := bind_some h
   refine WO.ck 0 (F := 11) (l := []) (C := []) (r := .bool w15) (run_lw4_awake w15 hw15) (e1 := z6 [(30, .bool true), (31, .bool true), (32, .bool true), (33, .bool w15)]) ?_
   refine WO.fn (e2 := [(2, .bool w15)]) ?_
   exact hK13 w15 h
  replace h := cond_f hb h
  refine WO.fn (e2 := [(2, .bool false)]) ?_
  exact hK13 false h
 replace h := cond_f hb h
 refine WO.fn (e2 := [(2, .bool false)]) ?_
 exact hK13 false h
end Go.AM
