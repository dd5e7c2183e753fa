/- s -/
import Derived.Test.YtmfdgonjnckdhaaDoorDQT
set_option maxRecDepth 100000
set_option linter.unusedVariables false
set_option linter.unusedSimpArgs false
namespace Go.AM
open Go.Proofs
def lw4_few (a1 : ByteArray) : Option ByteArray :=
 ((ssub a1 0 (if 300 < (a1.size : Int) then 300 else (a1.size : Int))).bind fun e4 => (some e4))
theorem run_lw4_few (a1 : ByteArray) (r : ByteArray) (h : lw4_few a1 = some r) : Run Tryd.prog (.call 7 [.str a1] (.str r)) := by
 refine cW Tryd.func7 rfl (env0 := [(0, .str a1)]) ?_
 unfold lw4_few at h
 refine W.seq ?_
 refine W.rt (e2 := [(0, .str a1)]) ?_
 refine W.seq ?_
 refine W.rg ?_
 obtain ⟨e4, he4, h⟩ := bind_some h
 refine WO.pk 4 (if (0 : Int) ≤ 0 ∧ 0 ≤ (if 300 < (a1.size : Int) then 300 else (a1.size : Int)) ∧ (if 300 < (a1.size : Int) then 300 else (a1.size : Int)) ≤ (a1.size : Int) then some (AV.str (a1.extract (Int.toNat 0) (Int.toNat (if 300 < (a1.size : Int) then 300 else (a1.size : Int))))) else none) (v := .str e4) (ssub_av he4) (e1 := [(0, .str a1), (3, .str a1), (4, .str a1), (5, I6 (a1.size : Int)), (6, I6 (if 300 < (a1.size : Int) then 300 else (a1.size : Int))), (7, .str e4)]) ?_
 refine WO.fn (e2 := [(2, .str e4)]) ?_
 refine W.wk (env' := [(2, .str e4)]) ?_
 have hr : aresults Tryd.prog Tryd.f7 [(2, .str e4)] = some (.str e4) := by kernel_rfl
 cases h
 exact W.ret hr
def sl_IndexFunc_byte_j4 : Option Int :=
 (some (-1))
def sl_IndexFunc_byte_l1 (g2 : (Int → Option Bool)) (K4 : (Option Int)) : List Int → Nat → Option Int
 | [], k1 => K4
 | x1 :: r1, k1 => ((g2 x1).bind fun w9 => (bif w9 then (some (k1 : Int)) else (sl_IndexFunc_byte_l1 g2 K4 r1 (k1 + 1))))
def sl_IndexFunc_byte (a1 : (List Int)) (g2 : (Int → Option Bool)) : Option Int :=
 (chk (lenOk a1) (sl_IndexFunc_byte_l1 g2 (sl_IndexFunc_byte_j4) a1 0))
theorem run_sl_IndexFunc_byte (a1 : (List Int)) (g2 : (Int → Option Bool)) (F_g2 : Nat) (C_g2 : List AV) (hok_g2 : okFn Tryd.prog F_g2 = true) (hrun_g2 : ∀ (x0 : Int) r, g2 x0 = some r → Run Tryd.prog (.call F_g2 ([.int .u8 x0] ++ C_g2) (.bool r))) (r : Int) (h : sl_IndexFunc_byte a1 g2 = some r) : Run Tryd.prog (.call 75 [l5 none a1, .clo F_g2 C_g2] (I6 r)) := by
 refine cW Tryd.func75 rfl (env0 := [(0, l5 none a1), (1, .clo F_g2 C_g2)]) ?_
 unfold sl_IndexFunc_byte at h
 refine W.seq ?_
 let z0 := fun t => EN ((0, l5 none a1) :: (1, .clo F_g2 C_g2) :: t)
 refine W.rt (e2 := z0 []) ?_
 refine W.seq ?_
 refine W.join (σ := Unit) (fun s => []) (fun s => (sl_IndexFunc_byte_j4) = some r) (fun s h => ?_) (fun hK4 => ?_)
 ·have h : (sl_IndexFunc_byte_j4) = some r := h
  unfold sl_IndexFunc_byte_j4 at h
  refine W.seq ?_
  refine W.rt (e2 := [(4, I6 (-1))]) ?_
  refine W.wk (env' := [(4, I6 (-1))]) ?_
  have hr : aresults Tryd.prog Tryd.f75 [(4, I6 (-1))] = some (I6 (-1)) := by kernel_rfl
  cases h
  exact W.ret hr
 refine W.seq ?_
 refine W.rg ?_
 refine WO.pk 1 (some (I6 ((M8 a1).length : Int))) (v := I6 (a1.length : Int)) (by rw [List.length_map]) (e1 := z0 [(6, l5 none a1), (7, I6 (a1.length : Int))]) ?_
 let z1 := fun t => z0 ((7, I6 (a1.length : Int)) :: t)
 refine WO.fn (e2 := z1 [(8, .int .i64 0)]) ?_
 refine W.block ?_
 obtain ⟨hl1, h⟩ := chk_some h
 refine W.wk (env' := z1 [(8, I6 ((0 : Nat) : Int))]) ?_
 refine W.range (σ := Unit) a1 (fun k1 s => z1 [(8, I6 (k1 : Int))]) (fun r0 k0 s => sl_IndexFunc_byte_l1 g2 (sl_IndexFunc_byte_j4) r0 k0 = some r) (fun s h => ?_) (fun x1 r1 k1 s hx1 hk1 h hN1 => ?_) () h
 ·have h : sl_IndexFunc_byte_l1 g2 (sl_IndexFunc_byte_j4) [] (a1).length = some r := h
  rw [sl_IndexFunc_byte_l1.eq_1] at h
  refine W.seq ?_
  refine W.rg ?_
  let z2 := fun t => z1 ((8, I6 ((a1).length : Int)) :: (9, .bool false) :: t)
  refine WO.pk 0 (some (.bool (decide (((a1).length : Int) < (a1.length : Int))))) (v := .bool false) (by rw [lt_false (l := a1)]) (e1 := z2 []) ?_
  refine WO.fn (e2 := z2 []) ?_
  refine W.seq ?_
  refine W.cb false (fun h => Bool.noConfusion h) (fun _ => ?_)
  refine W.exit ?_
  refine W.wk (env' := []) ?_
  exact hK4 () h
 ·have h : sl_IndexFunc_byte_l1 g2 (sl_IndexFunc_byte_j4) (x1 :: r1) k1 = some r := h
  rw [sl_IndexFunc_byte_l1.eq_2] at h
  refine W.seq ?_
  refine W.rg ?_
  let z3 := fun t => z1 ((8, I6 (k1 : Int)) :: t)
  refine WO.pk 0 (some (.bool (decide ((k1 : Int) < (a1.length : Int))))) (v := .bool true) (by rw [lt_true hk1]) (e1 := z3 [(9, .bool true)]) ?_
  refine WO.fn (e2 := z3 [(9, .bool true)]) ?_
  refine W.seq ?_
  refine W.cb true (fun _ => ?_) (fun h => Bool.noConfusion h)
  refine W.skip ?_
  refine W.wk (env' := z3 []) ?_
  refine W.seq ?_
  refine W.block ?_
  refine W.seq ?_
  let z4 := fun t => z0 ((5, I6 (k1 : Int)) :: (7, I6 (a1.length : Int)) :: (8, I6 (k1 : Int)) :: t)
  refine W.rt (e2 := z4 []) ?_
  refine W.seq ?_
  refine W.rg ?_
  let z5 := fun t => z4 ((11, .clo F_g2 C_g2) :: (12, l5 none a1) :: (13, I6 (k1 : Int)) :: (14, .ptr (.int .u8 x1)) :: t)
  refine WO.pk 3 (if (0 : Int) ≤ (k1 : Int) then ((M8 a1)[Int.toNat (k1 : Int)]?).map AV.ptr else none) (v := .ptr (.int .u8 x1)) (idx_nat (f := (AV.int .u8)) hx1) (e1 := z5 []) ?_
  obtain ⟨w9, hw9, h⟩ := bind_some h
  refine WO.callK 1 (F := F_g2) (l := [.int .u8 x1]) (C := C_g2) (r := .bool w9) (by kernel_rfl) hok_g2 (hrun_g2 x1 w9 hw9) (e1 := z5 [(15, .int .u8 x1), (16, .bool w9)]) (by kernel_rfl) ?_
  refine WO.fn (e2 := z4 [(16, .bool w9)]) ?_
  refine W.cb w9 (fun hb => ?_) (fun hb => ?_)
  ·replace h := cond_t hb h
   refine W.seq ?_
   refine W.rt (e2 := [(4, I6 (k1 : Int))]) ?_
   refine W.wk (env' := [(4, I6 (k1 : Int))]) ?_
   have hr : aresults Tryd.prog Tryd.f75 [(4, I6 (k1 : Int))] = some (I6 (k1 : Int)) := by kernel_rfl
   cases h
   exact W.ret hr
  replace h := cond_f hb h
  refine W.skip ?_
  refine W.wk (env' := z3 []) ?_
  refine W.rg ?_
  refine WO.pk 0 (some (I6 (IntKind.wrap .i64 ((k1 : Int) + 1)))) (v := I6 ((k1 + 1 : Nat) : Int)) (by rw [wrap_succ hl1 hk1]) (e1 := z3 [(18, I6 ((k1 + 1 : Nat) : Int))]) ?_
  refine WO.fn (e2 := z1 [(8, I6 ((k1 + 1 : Nat) : Int))]) ?_
  exact hN1 () h
def sl_ContainsFunc_byte (a1 : (List Int)) (g2 : (Int → Option Bool)) : Option Bool :=
 ((sl_IndexFunc_byte a1 g2).bind fun w5 => (some (decide (w5 ≥ 0))))
theorem run_sl_ContainsFunc_byte (a1 : (List Int)) (g2 : (Int → Option Bool)) (F_g2 : Nat) (C_g2 : List AV) (hok_g2 : okFn Tryd.prog F_g2 = true) (hrun_g2 : ∀ (x0 : Int) r, g2 x0 = some r → Run Tryd.prog (.call F_g2 ([.int .u8 x0] ++ C_g2) (.bool r))) (r : Bool) (h : sl_ContainsFunc_byte a1 g2 = some r) : Run Tryd.prog (.call 59 [l5 none a1, .clo F_g2 C_g2] (.bool r)) := by
 refine cW Tryd.func59 rfl (env0 := [(0, l5 none a1), (1, .clo F_g2 C_g2)]) ?_
 unfold sl_ContainsFunc_byte at h
 refine W.seq ?_
 refine W.rt (e2 := [(0, l5 none a1), (1, .clo F_g2 C_g2)]) ?_
 refine W.seq ?_
 refine W.rg ?_
 obtain ⟨w5, hw5, h⟩ := bind_some h
 refine WO.ck 2 (F := 75) (l := [l5 none a1, .clo F_g2 C_g2]) (C := []) (r := I6 w5) (run_sl_IndexFunc_byte a1 g2 F_g2 C_g2 hok_g2 hrun_g2 w5 hw5) (e1 := [(0, l5 none a1), (1, .clo F_g2 C_g2), (5, l5 none a1), (6, .clo F_g2 C_g2), (7, I6 w5)]) ?_
 refine WO.fn (e2 := [(4, .bool (decide (w5 ≥ 0)))]) ?_
 refine W.wk (env' := [(4, .bool (decide (w5 ≥ 0)))]) ?_
 have hr : aresults Tryd.prog Tryd.f59 [(4, .bool (decide (w5 ≥ 0)))] = some (.bool (decide (w5 ≥ 0))) := by kernel_rfl
 cases h
 exact W.ret hr
def ix_printable_1_j3 (v4 : Bool) : Option Bool :=
 (some v4)
def ix_printable_1 (a1 : Int) : Option Bool :=
 (bif (decide (a1 < 32)) then ((ix_printable_1_j3) true) else ((ix_printable_1_j3) (decide (a1 > 126))))
theorem run_ix_printable_1 (a1 : Int) (r : Bool) (h : ix_printable_1 a1 = some r) : Run Tryd.prog (.call 60 [.int .u8 a1] (.bool r)) := by
 refine cW Tryd.func60 rfl (env0 := [(0, .int .u8 a1)]) ?_
 unfold ix_printable_1 at h
 refine W.seq ?_
 refine W.rt (e2 := [(0, .int .u8 a1)]) ?_
 refine W.seq ?_
 refine W.join (σ := (Bool)) (fun s => [(2, .bool s)]) (fun s => (ix_printable_1_j3) s = some r) (fun s h => ?_) (fun hK3 => ?_)
 ·obtain ⟨v4, rfl⟩ : ∃ x, x = s := ⟨s, rfl⟩
  have h : (ix_printable_1_j3) v4 = some r := h
  unfold ix_printable_1_j3 at h
  refine W.wk (env' := [(2, .bool v4)]) ?_
  have hr : aresults Tryd.prog Tryd.f60 [(2, .bool v4)] = some (.bool v4) := by kernel_rfl
  cases h
  exact W.ret hr
 refine W.rg ?_
 refine WO.bk 3 (fun b => [(0, .int .u8 a1), (3, .int .u8 a1), (4, .bool b), (5, .bool b)]) (decide (a1 < 32)) (fun hb => ?_) (fun hb => ?_)
 ·replace h := cond_t hb h
  refine WO.fn (e2 := [(2, .bool true)]) ?_
  exact hK3 true h
 replace h := cond_f hb h
 refine WO.fn (e2 := [(2, .bool (decide (a1 > 126)))]) ?_
 exact hK3 (decide (a1 > 126)) h
def ix_printable (a1 : ByteArray) : Option Bool :=
 ((sl_ContainsFunc_byte (bytesI a1) (fun y0 => ix_printable_1 y0)).bind fun w4 => (some (!w4)))
theorem run_ix_printable (a1 : ByteArray) (r : Bool) (h : ix_printable a1 = some r) : Run Tryd.prog (.call 35 [.str a1] (.bool r)) := by
 refine cW Tryd.func35 rfl (env0 := [(0, .str a1)]) ?_
 unfold ix_printable at h
 refine W.seq ?_
 refine W.rt (e2 := [(0, .str a1)]) ?_
 refine W.seq ?_
 refine W.rg ?_
 let z0 := fun t => EN ((0, .str a1) :: (3, .str a1) :: (4, l5 none (bytesI a1)) :: t)
 refine WO.pk 1 (some (AV.lst 5 1 none (bytesA a1))) (v := l5 none (bytesI a1)) (congrArg (fun l => some (AV.lst 5 1 none l)) (bytesA_map a1)) (e1 := z0 []) ?_
 obtain ⟨w4, hw4, h⟩ := bind_some h
 refine WO.ck 0 (F := 59) (l := [l5 none (bytesI a1), .clo 60 []]) (C := []) (r := .bool w4) (run_sl_ContainsFunc_byte (bytesI a1) (fun y0 => ix_printable_1 y0) 60 [] (by kernel_rfl) (fun y0 r h => run_ix_printable_1 y0 r h) w4 hw4) (e1 := z0 [(5, .bool w4)]) ?_
 refine WO.fn (e2 := [(2, .bool (!w4))]) ?_
 refine W.wk (env' := [(2, .bool (!w4))]) ?_
 have hr : aresults Tryd.prog Tryd.f35 [(2, .bool (!w4))] = some (.bool (!w4)) := by kernel_rfl
 cases h
 exact W.ret hr
def ix_valid_j3 (v5 : Bool) : Option Bool :=
 (some v5)
def ix_valid (a1 : ByteArray) : Option Bool :=
 (bif (decide ((a1.size : Int) ≤ 200)) then ((ix_printable a1).bind fun w4 => ((ix_valid_j3) w4)) else ((ix_valid_j3) false))
theorem run_ix_valid (a1 : ByteArray) (r : Bool) (h : ix_valid a1 = some r) : Run Tryd.prog (.call 19 [.str a1] (.bool r)) := by
 refine cW Tryd.func19 rfl (env0 := [(0, .str a1)]) ?_
 unfold ix_valid at h
 refine W.seq ?_
 refine W.rt (e2 := [(0, .str a1)]) ?_
 refine W.seq ?_
 refine W.join (σ := (Bool)) (fun s => [(2, .bool s)]) (fun s => (ix_valid_j3) s = some r) (fun s h => ?_) (fun hK3 => ?_)
 ·obtain ⟨v5, rfl⟩ : ∃ x, x = s := ⟨s, rfl⟩
  have h : (ix_valid_j3) v5 = some r := h
  unfold ix_valid_j3 at h
  refine W.wk (env' := [(2, .bool v5)]) ?_
  have hr : aresults Tryd.prog Tryd.f19 [(2, .bool v5)] = some (.bool v5) := by kernel_rfl
  cases h
  exact W.ret hr
 refine W.rg ?_
 let z0 := fun t => EN ((0, .str a1) :: (3, .str a1) :: (4, I6 (a1.size : Int)) :: t)
 refine WO.bk 4 (fun b => z0 [(5, .bool b), (6, .bool b)]) (decide ((a1.size : Int) ≤ 200)) (fun hb => ?_) (fun hb => ?_)
 ·replace h := cond_t hb h
  obtain ⟨w4, hw4, h⟩ := bind_some h
  refine WO.ck 1 (F := 35) (l := [.str a1]) (C := []) (r := .bool w4) (run_ix_printable a1 w4 hw4) (e1 := z0 [(5, .bool true), (6, .bool true), (7, .str a1), (8, .bool w4)]) ?_
  refine WO.fn (e2 := [(2, .bool w4)]) ?_
  exact hK3 w4 h
 replace h := cond_f hb h
 refine WO.fn (e2 := [(2, .bool false)]) ?_
 exact hK3 false h
def sl_SortFunc_int (a1 : (List Int)) (n1 : Nat) (c2 : ByteArray) : Option (List Int) := chk (decide (n1 = a1.length ∧ a1 ≠ [] ∧ a1.length < 4611686018427387904 ∧ (a1.all fun z => decide (0 ≤ z) && decide (z ≤ (c2.size : Int))) = true)) (some (sortSuf c2 a1))
theorem run_sl_SortFunc_int (a1 : (List Int)) (n1 : Nat) (c2 : ByteArray) (r : (List Int)) (h : sl_SortFunc_int a1 n1 c2 = some r) : Run Tryd.prog (.callM 37 [.sb 2000000 3 1 0 n1, .clo 38 [.ptr (.str c2)]] [(2000000, .obj 3 1 (M6 a1))] (.tup []) [(2000000, .obj 3 1 (M6 r))]) := by
 unfold sl_SortFunc_int at h
 obtain ⟨hp, h⟩ := chk_some h
 cases h
 obtain ⟨h1, h2, h3, h4⟩ := of_decide_eq_true hp
 subst h1
 exact .extM (sortSuf37 h2 h3 h4) (fun id x hx => by simp only [look] at hx; split at hx <;> cases hx; rfl)
def ix_suffixes_j5 (a1 : ByteArray) (v13 : (List Int)) : Option (List Int) :=
 ((sl_SortFunc_int v13 (Int.toNat (IntKind.wrap .i64 ((a1.size : Int) + 1))) a1).bind fun w15 => (some (snap 0 (Int.toNat (IntKind.wrap .i64 ((a1.size : Int) + 1))) w15)))
def ix_suffixes_l1 (a1 : ByteArray) (K5 : ((List Int) → Option (List Int))) : List Nat → Nat → (List Int) → Option (List Int)
 | [], k1, v7 => (K5 v7)
 | x1 :: r1, k1, v7 => (chk (decide ((0 : Int) ≤ (k1 : Int) ∧ (k1 : Int) < (((Int.toNat (IntKind.wrap .i64 ((a1.size : Int) + 1))) : Nat) : Int))) ((upd v7 (0 + Int.toNat (k1 : Int)) (k1 : Int)).bind fun u11 => ((ix_suffixes_l1 a1 K5 r1 (k1 + 1)) u11)))
def ix_suffixes (a1 : ByteArray) : Option (List Int) :=
 (chk (mkOk 8 (IntKind.wrap .i64 ((a1.size : Int) + 1))) (chk (lenOk (List.range (Int.toNat (((Int.toNat (IntKind.wrap .i64 ((a1.size : Int) + 1))) : Nat) : Int)))) (ix_suffixes_l1 a1 (ix_suffixes_j5 a1) (List.range (Int.toNat (((Int.toNat (IntKind.wrap .i64 ((a1.size : Int) + 1))) : Nat) : Int))) 0 (List.replicate (Int.toNat (IntKind.wrap .i64 ((a1.size : Int) + 1))) 0))))
theorem run_ix_suffixes (a1 : ByteArray) (r : (List Int)) (h : ix_suffixes a1 = some r) : Run Tryd.prog (.call 21 [.str a1] (l3 none r)) := by
 refine cW Tryd.func21 rfl (env0 := [(0, .str a1)]) ?_
 unfold ix_suffixes at h
 refine W.seq ?_
 refine W.rg ?_
 refine WO.steps 2 (e1 := [(0, .str a1), (1, .box [.str a1]), (2, .nils)]) (by kernel_rfl) ?_
 refine WO.mv [.nil 2 3 1 1200002] (env' := [(0, .str a1), (1, .box [.str a1]), (2, .sb 1200002 3 1 0 (([] : (List Int)).length)), (1200002, .obj 3 1 (M6 ([] : (List Int))))]) (by kernel_rfl) ?_
 let z0 := fun t => EN ((1, .ptr (.str a1)) :: t)
 refine WO.fin [1] [1] [] [] (e2 := z0 []) (by kernel_rfl) (fun _ h => h) ?_
 refine W.seq ?_
 refine W.rg ?_
 obtain ⟨hc4, h⟩ := chk_some h
 refine WO.makeK 3 (d := 8) (e := 3) (s := 1) (bytes := 8) (m := (W6 ((a1.size : Int) + 1))) (z := (.int .i64 0)) (zs := (M6 (List.replicate (Int.toNat (W6 ((a1.size : Int) + 1))) 0))) (env1 := [(1, .ptr (.str a1)), (5, .str a1), (6, I6 (a1.size : Int)), (7, I6 (W6 ((a1.size : Int) + 1))), (8, .sb 1000008 3 1 0 (Int.toNat (W6 ((a1.size : Int) + 1))))]) (by kernel_rfl) hc4 (by first | exact rep_map | exact (rep_map (f := (AV.int .i64)))) (e1 := z0 [(5, .str a1), (6, I6 (a1.size : Int)), (7, I6 (W6 ((a1.size : Int) + 1))), (8, .sb 1000008 3 1 0 (Int.toNat (W6 ((a1.size : Int) + 1)))), (1000008, .obj 3 1 (M6 (List.replicate (Int.toNat (W6 ((a1.size : Int) + 1))) 0)))]) (by kernel_rfl) ?_
 let z1 := fun t => z0 ((3, .sb 1000008 3 1 0 (Int.toNat (W6 ((a1.size : Int) + 1)))) :: t)
 refine WO.fn (e2 := z1 [(1000008, .obj 3 1 (M6 (List.replicate (Int.toNat (W6 ((a1.size : Int) + 1))) 0)))]) ?_
 refine W.seq ?_
 refine W.join (σ := ((List Int))) (fun s => z1 [(1000008, .obj 3 1 (M6 s))]) (fun s => (ix_suffixes_j5 a1) s = some r) (fun s h => ?_) (fun hK5 => ?_)
 ·obtain ⟨v13, rfl⟩ : ∃ x, x = s := ⟨s, rfl⟩
  have h : (ix_suffixes_j5 a1) v13 = some r := h
  unfold ix_suffixes_j5 at h
  refine W.seq ?_
  refine W.rg ?_
  obtain ⟨w15, hw15, h⟩ := bind_some h
  refine WO.cm 2 [(1000008, 2000000)] [] (F := 37) (args := [.sb 2000000 3 1 0 (Int.toNat (W6 ((a1.size : Int) + 1))), .clo 38 [.ptr (.str a1)]]) (hp := [(2000000, .obj 3 1 (M6 v13))]) (hp2 := [(2000000, .obj 3 1 (M6 w15))]) (r := .tup []) (run_sl_SortFunc_int v13 (Int.toNat (W6 ((a1.size : Int) + 1))) a1 w15 hw15) (e1 := z1 [(19, .sb 1000008 3 1 0 (Int.toNat (W6 ((a1.size : Int) + 1)))), (20, .clo 38 [.ptr (.str a1)]), (21, .tup []), (1000008, .obj 3 1 (M6 w15))]) ?_
  refine WO.fn (e2 := [(3, .sb 1000008 3 1 0 (Int.toNat (W6 ((a1.size : Int) + 1)))), (1000008, .obj 3 1 (M6 w15))]) ?_
  refine W.seq ?_
  refine W.rt (e2 := [(2, .sb 1000008 3 1 0 (Int.toNat (W6 ((a1.size : Int) + 1)))), (1000008, .obj 3 1 (M6 w15))]) ?_
  let z2 := fun t => EN ((2, l3 none (snap 0 (Int.toNat (W6 ((a1.size : Int) + 1))) w15)) :: t)
  refine W.mv [.frz 1000008] (env' := z2 []) ((by kernel_rfl : mvAll [(2, .sb 1000008 3 1 0 (Int.toNat (W6 ((a1.size : Int) + 1)))), (1000008, .obj 3 1 (M6 w15))] [.frz 1000008] = [(2, .lst 3 1 none (snapA 0 (Int.toNat (W6 ((a1.size : Int) + 1))) (M6 w15)))]).trans (by first | (simp only [snap_map, snap_full, snap_rep]; done) | (simp only [snap_map, snap_full, snap_rep]; kernel_rfl))) ?_
  refine W.wk (env' := z2 []) ?_
  have hr : aresults Tryd.prog Tryd.f21 [(2, l3 none (snap 0 (Int.toNat (W6 ((a1.size : Int) + 1))) w15))] = some (l3 none (snap 0 (Int.toNat (W6 ((a1.size : Int) + 1))) w15)) := by kernel_rfl
  cases h
  exact W.ret hr
 refine W.seq ?_
 let z3 := fun t => z1 ((10, I6 (((Int.toNat (W6 ((a1.size : Int) + 1))) : Nat) : Int)) :: t)
 refine W.rt (e2 := z3 [(11, .int .i64 0), (1000008, .obj 3 1 (M6 (List.replicate (Int.toNat (W6 ((a1.size : Int) + 1))) 0)))]) ?_
 refine W.block ?_
 obtain ⟨hl1, h⟩ := chk_some h
 refine W.wk (env' := z3 [(11, I6 ((0 : Nat) : Int)), (1000008, .obj 3 1 (M6 (List.replicate (Int.toNat (W6 ((a1.size : Int) + 1))) 0)))]) ?_
 refine W.range (σ := ((List Int))) (List.range (Int.toNat (((Int.toNat (W6 ((a1.size : Int) + 1))) : Nat) : Int))) (fun k1 s => z3 [(11, I6 (k1 : Int)), (1000008, .obj 3 1 (M6 s))]) (fun r0 k0 s => ix_suffixes_l1 a1 (ix_suffixes_j5 a1) r0 k0 s = some r) (fun s h => ?_) (fun x1 r1 k1 s hx1 hk1 h hN1 => ?_) (List.replicate (Int.toNat (W6 ((a1.size : Int) + 1))) 0) h
 ·obtain ⟨v7, rfl⟩ : ∃ x, x = s := ⟨s, rfl⟩
  have h : ix_suffixes_l1 a1 (ix_suffixes_j5 a1) [] ((List.range (Int.toNat (((Int.toNat (W6 ((a1.size : Int) + 1))) : Nat) : Int)))).length v7 = some r := h
  rw [ix_suffixes_l1.eq_1] at h
  refine W.seq ?_
  refine W.rg ?_
  let z4 := fun t => z3 ((11, I6 (((List.range (Int.toNat (((Int.toNat (W6 ((a1.size : Int) + 1))) : Nat) : Int)))).length : Int)) :: (12, .bool false) :: (1000008, .obj 3 1 (M6 v7)) :: t)
  refine WO.pk 0 (some (.bool (decide ((((List.range (Int.toNat (((Int.toNat (W6 ((a1.size : Int) + 1))) : Nat) : Int)))).length : Int) < (((Int.toNat (W6 ((a1.size : Int) + 1))) : Nat) : Int))))) (v := .bool false) (by rw [ltr_false (n := (((Int.toNat (W6 ((a1.size : Int) + 1))) : Nat) : Int))]) (e1 := z4 []) ?_
  refine WO.fn (e2 := z4 []) ?_
  refine W.seq ?_
  refine W.cb false (fun h => Bool.noConfusion h) (fun _ => ?_)
  refine W.exit ?_
  refine W.wk (env' := z1 [(1000008, .obj 3 1 (M6 v7))]) ?_
  exact hK5 v7 h
 ·obtain ⟨v7, rfl⟩ : ∃ x, x = s := ⟨s, rfl⟩
  have h : ix_suffixes_l1 a1 (ix_suffixes_j5 a1) (x1 :: r1) k1 v7 = some r := h
  rw [ix_suffixes_l1.eq_2] at h
  refine W.seq ?_
  refine W.rg ?_
  let z5 := fun t => z3 ((11, I6 (k1 : Int)) :: (12, .bool true) :: (1000008, .obj 3 1 (M6 v7)) :: t)
  refine WO.pk 0 (some (.bool (decide ((k1 : Int) < (((Int.toNat (W6 ((a1.size : Int) + 1))) : Nat) : Int))))) (v := .bool true) (by rw [ltr_true hk1]) (e1 := z5 []) ?_
  refine WO.fn (e2 := z5 []) ?_
  refine W.seq ?_
  refine W.cb true (fun _ => ?_) (fun h => Bool.noConfusion h)
  refine W.skip ?_
  refine W.wk (env' := z3 [(11, I6 (k1 : Int)), (1000008, .obj 3 1 (M6 v7))]) ?_
  refine W.seq ?_
  refine W.block ?_
  refine W.seq ?_
  let z6 := fun t => z1 ((4, I6 (k1 : Int)) :: (10, I6 (((Int.toNat (W6 ((a1.size : Int) + 1))) : Nat) : Int)) :: (11, I6 (k1 : Int)) :: t)
  refine W.rt (e2 := z6 [(1000008, .obj 3 1 (M6 v7))]) ?_
  refine W.rg ?_
  obtain ⟨hc10, h⟩ := chk_some h
  let z7 := fun t => z6 ((14, .sb 1000008 3 1 0 (Int.toNat (W6 ((a1.size : Int) + 1)))) :: (15, I6 (k1 : Int)) :: (16, I6 (k1 : Int)) :: (17, .pe 1000008 1 (0 + Int.toNat (k1 : Int)) 0) :: t)
  refine WO.pi 3 (v := .pe 1000008 1 (0 + Int.toNat (k1 : Int)) 0) hc10 (e1 := z7 [(1000008, .obj 3 1 (M6 v7))]) ?_
  obtain ⟨u11, hu11, h⟩ := bind_some h
  obtain ⟨y12, hyy12, hzy12⟩ := upd_some hu11
  refine WO.sk 0 (id := 1000008) (e := 3) (s := 1) (off := 0) (vs := [I6 (k1 : Int)]) (AV.int .i64) hyy12 hzy12 (e1 := z7 [(1000008, .obj 3 1 (M6 u11))]) ?_
  refine WO.fn (e2 := z3 [(11, I6 (k1 : Int)), (1000008, .obj 3 1 (M6 u11))]) ?_
  refine W.rg ?_
  refine WO.pk 0 (some (I6 (IntKind.wrap .i64 ((k1 : Int) + 1)))) (v := I6 ((k1 + 1 : Nat) : Int)) (by rw [wrap_succ hl1 hk1]) (e1 := z0 [(3, .sb 1000008 3 1 0 (Int.toNat (IntKind.wrap .i64 ((a1.size : Int) + 1)))), (10, I6 (((Int.toNat (IntKind.wrap .i64 ((a1.size : Int) + 1))) : Nat) : Int)), (11, I6 (k1 : Int)), (18, I6 ((k1 + 1 : Nat) : Int)), (1000008, .obj 3 1 (M6 u11))]) ?_
  refine WO.fn (e2 := z3 [(11, I6 ((k1 + 1 : Nat) : Int)), (1000008, .obj 3 1 (M6 u11))]) ?_
  exact hN1 u11 h
def ix_transform (a1 : ByteArray) (a2 : (List Int)) : Option ByteArray := chk (decide ((a2.all fun z => decide (0 ≤ z) && decide (z ≤ (a1.size : Int))) = true ∧ a2 ≠ [] ∧ a2.length ≤ 1000000000 ∧ a1.size ≤ 1000000000)) (some (trS a1 a2))
theorem run_ix_transform (a1 : ByteArray) (a2 : (List Int)) (r : ByteArray) (h : ix_transform a1 a2 = some r) : Run Tryd.prog (.call 20 [.str a1, l3 none a2] (.str r)) := by
 unfold ix_transform at h
 obtain ⟨hp, h⟩ := chk_some h
 cases h
 obtain ⟨h1, h2, h3, h4⟩ := of_decide_eq_true hp
 exact .ext0 (transform20 h1 h2 h3 h4)
def ix_Transform (a1 : ByteArray) : Option (ByteArray × Int) :=
 ((ix_valid a1).bind fun w5 => (bif (!w5) then (some ((ByteArray.mk #[]), 2)) else ((ix_suffixes a1).bind fun w8 => ((ix_transform a1 w8).bind fun w9 => (some (w9, 0))))))
theorem run_ix_Transform (a1 : ByteArray) (r : (ByteArray × Int)) (h : ix_Transform a1 = some r) : Run Tryd.prog (.call 8 [.str a1] (.tup [.str r.1, I6 r.2])) := by
 refine cW Tryd.func8 rfl (env0 := [(0, .str a1)]) ?_
 unfold ix_Transform at h
 refine W.seq ?_
 let z0 := fun t => EN ((0, .str a1) :: t)
 refine W.rt (e2 := z0 []) ?_
 refine W.seq ?_
 refine W.seq ?_
 refine W.rg ?_
 obtain ⟨w5, hw5, h⟩ := bind_some h
 refine WO.ck 1 (F := 19) (l := [.str a1]) (C := []) (r := .bool w5) (run_ix_valid a1 w5 hw5) (e1 := z0 [(4, .str a1), (5, .bool w5)]) ?_
 refine WO.fn (e2 := z0 [(6, .bool (!w5))]) ?_
 refine W.cb (!w5) (fun hb => ?_) (fun hb => ?_)
 ·replace h := cond_t hb h
  refine W.seq ?_
  let z1 := fun t => EN ((2, .str (ByteArray.mk #[])) :: (3, .int .i64 2) :: t)
  refine W.rt (e2 := z1 []) ?_
  refine W.wk (env' := z1 []) ?_
  have hr : aresults Tryd.prog Tryd.f8 [(2, .str (ByteArray.mk #[])), (3, .int .i64 2)] = some (.tup [.str (ByteArray.mk #[]), .int .i64 2]) := by kernel_rfl
  cases h
  exact W.ret hr
 replace h := cond_f hb h
 refine W.skip ?_
 refine W.wk (env' := z0 []) ?_
 refine W.seq ?_
 refine W.rg ?_
 obtain ⟨w8, hw8, h⟩ := bind_some h
 let z2 := fun t => z0 ((7, .str a1) :: (8, .str a1) :: (9, l3 none w8) :: t)
 refine WO.ck 2 (F := 21) (l := [.str a1]) (C := []) (r := l3 none w8) (run_ix_suffixes a1 w8 hw8) (e1 := z2 []) ?_
 obtain ⟨w9, hw9, h⟩ := bind_some h
 refine WO.ck 0 (F := 20) (l := [.str a1, l3 none w8]) (C := []) (r := .str w9) (run_ix_transform a1 w8 w9 hw9) (e1 := z2 [(10, .str w9)]) ?_
 refine WO.fn (e2 := [(2, .str w9), (3, .int .i64 0)]) ?_
 refine W.wk (env' := [(2, .str w9), (3, .int .i64 0)]) ?_
 have hr : aresults Tryd.prog Tryd.f8 [(2, .str w9), (3, .int .i64 0)] = some (.tup [.str w9, .int .i64 0]) := by kernel_rfl
 cases h
 exact W.ret hr
def st_ReplaceAll (a1 : ByteArray) (a2 : ByteArray) (a3 : ByteArray) : Option ByteArray := chk (decide (a1.size < 4294967281 ∧ 1 ≤ a2.size ∧ a3.size = 0)) (some (ByteArray.mk (Lib.replaceAll a1.data.toList a2.data.toList a3.data.toList).toArray))
theorem run_st_ReplaceAll (a1 : ByteArray) (a2 : ByteArray) (a3 : ByteArray) (r : ByteArray) (h : st_ReplaceAll a1 a2 a3 = some r) : Run Tryd.prog (.call 40 [.str a1, .str a2, .str a3] (.str r)) := by
 unfold st_ReplaceAll at h
 obtain ⟨hp, h⟩ := chk_some h
 cases h
 refine .ext rfl rfl fun w hg => ?_
 obtain ⟨m, hm⟩ := hg 0 (by simp [globs])
 obtain ⟨h1, h2, h3⟩ := of_decide_eq_true hp
 exact (Tryd.strings_ReplaceAll a1 a2 a3 m w h1 hm h2 (by rw [h3, Nat.mul_zero]; omega)).mono fun e w' hh => hh
def ix_column_j3 (v6 : Bool) : Option Bool :=
 (some v6)
def ix_column (a1 : ByteArray) : Option Bool :=
 (bif (decide ((a1.size : Int) ≤ 201)) then ((st_ReplaceAll a1 (ByteArray.mk #[10]) (ByteArray.mk #[])).bind fun w4 => ((ix_printable w4).bind fun w5 => ((ix_column_j3) w5))) else ((ix_column_j3) false))
theorem run_ix_column (a1 : ByteArray) (r : Bool) (h : ix_column a1 = some r) : Run Tryd.prog (.call 22 [.str a1] (.bool r)) := by
 refine cW Tryd.func22 rfl (env0 := [(0, .str a1)]) ?_
 unfold ix_column at h
 refine W.seq ?_
 refine W.rt (e2 := [(0, .str a1)]) ?_
 refine W.seq ?_
 refine W.join (σ := (Bool)) (fun s => [(2, .bool s)]) (fun s => (ix_column_j3) s = some r) (fun s h => ?_) (fun hK3 => ?_)
 ·obtain ⟨v6, rfl⟩ : ∃ x, x = s := ⟨s, rfl⟩
  have h : (ix_column_j3) v6 = some r := h
  unfold ix_column_j3 at h
  refine W.wk (env' := [(2, .bool v6)]) ?_
  have hr : aresults Tryd.prog Tryd.f22 [(2, .bool v6)] = some (.bool v6) := by kernel_rfl
  cases h
  exact W.ret hr
 refine W.rg ?_
 let z0 := fun t => EN ((0, .str a1) :: (3, .str a1) :: (4, I6 (a1.size : Int)) :: t)
 refine WO.bk 4 (fun b => z0 [(5, .bool b), (6, .bool b)]) (decide ((a1.size : Int) ≤ 201)) (fun hb => ?_) (fun hb => ?_)
 ·replace h := cond_t hb h
  obtain ⟨w4, hw4, h⟩ := bind_some h
  let z1 := fun t => z0 ((5, .bool true) :: (6, .bool true) :: (7, .str a1) :: (8, .str w4) :: t)
  refine WO.ck 1 (F := 40) (l := [.str a1, .str (ByteArray.mk #[10]), .str (ByteArray.mk #[])]) (C := []) (r := .str w4) (run_st_ReplaceAll a1 (ByteArray.mk #[10]) (ByteArray.mk #[]) w4 hw4) (e1 := z1 []) ?_
  obtain ⟨w5, hw5, h⟩ := bind_some h
  refine WO.ck 0 (F := 35) (l := [.str w4]) (C := []) (r := .bool w5) (run_ix_printable w4 w5 hw5) (e1 := z1 [(9, .bool w5)]) ?_
  refine WO.fn (e2 := [(2, .bool w5)]) ?_
  exact hK3 w5 h
 replace h := cond_f hb h
 refine WO.fn (e2 := [(2, .bool false)]) ?_
 exact hK3 false h
def st_Count (a1 : ByteArray) (a2 : ByteArray) : Option Int := chk (decide (a2.size = 1)) (some (Lib.countByte a1.data.toList (a2.data.toList.headD 0)))
theorem run_st_Count (a1 : ByteArray) (a2 : ByteArray) (r : Int) (h : st_Count a1 a2 = some r) : Run Tryd.prog (.call 23 [.str a1, .str a2] (I6 r)) := by
 unfold st_Count at h
 obtain ⟨hp, h⟩ := chk_some h
 cases h
 replace hp := of_decide_eq_true hp
 refine .ext rfl rfl fun w _ => ?_
 obtain ⟨⟨l⟩⟩ := a2
 rcases l with _ | ⟨c, _ | ⟨d, l⟩⟩
 ·exact absurd hp (by decide)
 ·exact (Tryd.strings_Count_one a1 c w).mono fun e w' hh => ⟨hh.1, hh.2 ▸ RowKit.Below.refl _ _⟩
 ·exact absurd (show (d :: l).length + 1 = 1 from hp) (by simp)
def sl_insertionSortCmpFunc_int_j11 (v8 : Int) (N1 : ((List Int) → Int → Option (List Int))) (v34 : (List Int)) : Option (List Int) :=
 (N1 v34 (IntKind.wrap .i64 (v8 + 1)))
def sl_insertionSortCmpFunc_int_j16 (n2 : Nat) (v13 : (List Int)) (v14 : Int) (N2 : ((List Int) → Int → Option (List Int))) (K11 : ((List Int) → Option (List Int))) (v22 : Bool) : Option (List Int) :=
 (bif v22 then (chk (decide ((0 : Int) ≤ (IntKind.wrap .i64 (v14 - 1)) ∧ (IntKind.wrap .i64 (v14 - 1)) < ((n2 : Nat) : Int))) ((v13[(0 + Int.toNat (IntKind.wrap .i64 (v14 - 1)))]?).bind fun e25 => (chk (decide ((0 : Int) ≤ v14 ∧ v14 < ((n2 : Nat) : Int))) ((v13[(0 + Int.toNat v14)]?).bind fun e27 => (chk (decide ((0 : Int) ≤ v14 ∧ v14 < ((n2 : Nat) : Int))) ((upd v13 (0 + Int.toNat v14) e25).bind fun u29 => (chk (decide ((0 : Int) ≤ (IntKind.wrap .i64 (v14 - 1)) ∧ (IntKind.wrap .i64 (v14 - 1)) < ((n2 : Nat) : Int))) ((upd u29 (0 + Int.toNat (IntKind.wrap .i64 (v14 - 1))) e27).bind fun u32 => (N2 u32 (IntKind.wrap .i64 (v14 - 1))))))))))) else (K11 v13))
def sl_insertionSortCmpFunc_int_l2 (n2 : Nat) (a3 : Int) (g5 : (Int → Int → Option Int)) (K11 : ((List Int) → Option (List Int))) : Nat → (List Int) → Int → Option (List Int)
 | 0, _, _ => none
 | m2 + 1, v13, v14 => (bif (decide (v14 > a3)) then (chk (decide ((0 : Int) ≤ v14 ∧ v14 < ((n2 : Nat) : Int))) ((v13[(0 + Int.toNat v14)]?).bind fun e18 => (chk (decide ((0 : Int) ≤ (IntKind.wrap .i64 (v14 - 1)) ∧ (IntKind.wrap .i64 (v14 - 1)) < ((n2 : Nat) : Int))) ((v13[(0 + Int.toNat (IntKind.wrap .i64 (v14 - 1)))]?).bind fun e20 => ((g5 e18 e20).bind fun w21 => ((sl_insertionSortCmpFunc_int_j16 n2 v13 v14 (sl_insertionSortCmpFunc_int_l2 n2 a3 g5 K11 m2) K11) (decide (w21 < 0)))))))) else ((sl_insertionSortCmpFunc_int_j16 n2 v13 v14 (sl_insertionSortCmpFunc_int_l2 n2 a3 g5 K11 m2) K11) false))
def sl_insertionSortCmpFunc_int_l1 (fuel : Nat) (n2 : Nat) (a3 : Int) (a4 : Int) (g5 : (Int → Int → Option Int)) : Nat → (List Int) → Int → Option (List Int)
 | 0, _, _ => none
 | m1 + 1, v7, v8 => (bif (decide (v8 < a4)) then (sl_insertionSortCmpFunc_int_l2 n2 a3 g5 (sl_insertionSortCmpFunc_int_j11 v8 (sl_insertionSortCmpFunc_int_l1 fuel n2 a3 a4 g5 m1)) fuel v7 v8) else (some v7))
def sl_insertionSortCmpFunc_int (fuel : Nat) (a1 : (List Int)) (n2 : Nat) (a3 : Int) (a4 : Int) (g5 : (Int → Int → Option Int)) : Option (List Int) :=
 (sl_insertionSortCmpFunc_int_l1 fuel n2 a3 a4 g5 fuel a1 (IntKind.wrap .i64 (a3 + 1)))
theorem run_sl_insertionSortCmpFunc_int (fuel : Nat) (a1 : (List Int)) (n2 : Nat) (a3 : Int) (a4 : Int) (g5 : (Int → Int → Option Int)) (F_g5 : Nat) (C_g5 : List AV) (hok_g5 : okFn Tryd.prog F_g5 = true) (hrun_g5 : ∀ (x0 : Int) (x1 : Int) r, g5 x0 x1 = some r → Run Tryd.prog (.call F_g5 ([I6 x0, I6 x1] ++ C_g5) (I6 r))) (r : (List Int)) (h : sl_insertionSortCmpFunc_int fuel a1 n2 a3 a4 g5 = some r) : Run Tryd.prog (.callM 66 [.sb 2000000 3 1 0 n2, I6 a3, I6 a4, .clo F_g5 C_g5] [(2000000, .obj 3 1 (M6 a1))] (.tup []) [(2000000, .obj 3 1 (M6 r))]) := by
 refine cM Tryd.func66 rfl (env0 := [(0, .sb 2000000 3 1 0 n2), (1, I6 a3), (2, I6 a4), (3, .clo F_g5 C_g5), (2000000, .obj 3 1 (M6 a1))]) ?_
 unfold sl_insertionSortCmpFunc_int at h
 refine W.seq ?_
 let z0 := fun t => EN ((0, .sb 2000000 3 1 0 n2) :: (1, I6 a3) :: (2, I6 a4) :: (3, .clo F_g5 C_g5) :: t)
 let z1 := fun t => z0 ((8, I6 (W6 (a3 + 1))) :: (2000000, .obj 3 1 (M6 a1)) :: t)
 refine W.rt (e2 := z1 []) ?_
 refine W.block ?_
 refine W.wk (env' := z1 []) ?_
 refine W.fuel (σ := ((List Int) × Int)) (fun s => z0 [(8, I6 s.2), (2000000, .obj 3 1 (M6 s.1))]) (fun m0 s => sl_insertionSortCmpFunc_int_l1 fuel n2 a3 a4 g5 m0 s.1 s.2 = some r) (fun s h => ?_) (fun m1 s h hN1 => ?_) fuel (a1, (W6 (a3 + 1))) h
 ·obtain ⟨v7, v8⟩ := s
  have h : sl_insertionSortCmpFunc_int_l1 fuel n2 a3 a4 g5 0 v7 v8 = some r := h
  rw [sl_insertionSortCmpFunc_int_l1.eq_1] at h
  cases h
 ·obtain ⟨v7, v8⟩ := s
  have h : sl_insertionSortCmpFunc_int_l1 fuel n2 a3 a4 g5 (m1 + 1) v7 v8 = some r := h
  rw [sl_insertionSortCmpFunc_int_l1.eq_2] at h
  refine W.seq ?_
  refine W.seq ?_
  let z2 := fun t => z0 ((8, I6 v8) :: t)
  let z3 := fun t => z2 ((14, .bool (decide (v8 < a4))) :: (2000000, .obj 3 1 (M6 v7)) :: t)
  refine W.rt (e2 := z3 []) ?_
  refine W.cb (decide (v8 < a4)) (fun hb => ?_) (fun hb => ?_)
  ·replace h := cond_t hb h
   refine W.skip ?_
   refine W.wk (env' := z2 [(2000000, .obj 3 1 (M6 v7))]) ?_
   refine W.seq ?_
   refine W.join (σ := ((List Int))) (fun s => z2 [(2000000, .obj 3 1 (M6 s))]) (fun s => (sl_insertionSortCmpFunc_int_j11 v8 (sl_insertionSortCmpFunc_int_l1 fuel n2 a3 a4 g5 m1)) s = some r) (fun s h => ?_) (fun hK11 => ?_)
   ·obtain ⟨v34, rfl⟩ : ∃ x, x = s := ⟨s, rfl⟩
    have h : (sl_insertionSortCmpFunc_int_j11 v8 (sl_insertionSortCmpFunc_int_l1 fuel n2 a3 a4 g5 m1)) v34 = some r := h
    unfold sl_insertionSortCmpFunc_int_j11 at h
    refine W.rt (e2 := z0 [(8, I6 (W6 (v8 + 1))), (2000000, .obj 3 1 (M6 v34))]) ?_
    exact hN1 (v34, (W6 (v8 + 1))) h
   refine W.block ?_
   refine W.seq ?_
   let z4 := fun t => z2 ((9, I6 v8) :: (2000000, .obj 3 1 (M6 v7)) :: t)
   refine W.rt (e2 := z4 []) ?_
   refine W.block ?_
   refine W.wk (env' := z4 []) ?_
   refine W.fuel (σ := ((List Int) × Int)) (fun s => z2 [(9, I6 s.2), (2000000, .obj 3 1 (M6 s.1))]) (fun m0 s => sl_insertionSortCmpFunc_int_l2 n2 a3 g5 (sl_insertionSortCmpFunc_int_j11 v8 (sl_insertionSortCmpFunc_int_l1 fuel n2 a3 a4 g5 m1)) m0 s.1 s.2 = some r) (fun s h => ?_) (fun m2 s h hN2 => ?_) fuel (v7, v8) h
   ·obtain ⟨v13, v14⟩ := s
    have h : sl_insertionSortCmpFunc_int_l2 n2 a3 g5 (sl_insertionSortCmpFunc_int_j11 v8 (sl_insertionSortCmpFunc_int_l1 fuel n2 a3 a4 g5 m1)) 0 v13 v14 = some r := h
    rw [sl_insertionSortCmpFunc_int_l2.eq_1] at h
    cases h
   ·obtain ⟨v13, v14⟩ := s
    have h : sl_insertionSortCmpFunc_int_l2 n2 a3 g5 (sl_insertionSortCmpFunc_int_j11 v8 (sl_insertionSortCmpFunc_int_l1 fuel n2 a3 a4 g5 m1)) (m2 + 1) v13 v14 = some r := h
    rw [sl_insertionSortCmpFunc_int_l2.eq_2] at h
    refine W.seq ?_
    refine W.seq ?_
    let z5 := fun t => z2 ((9, I6 v14) :: t)
    refine W.join (σ := (Bool)) (fun s => z5 [(34, .bool s), (2000000, .obj 3 1 (M6 v13))]) (fun s => (sl_insertionSortCmpFunc_int_j16 n2 v13 v14 (sl_insertionSortCmpFunc_int_l2 n2 a3 g5 (sl_insertionSortCmpFunc_int_j11 v8 (sl_insertionSortCmpFunc_int_l1 fuel n2 a3 a4 g5 m1)) m2) (sl_insertionSortCmpFunc_int_j11 v8 (sl_insertionSortCmpFunc_int_l1 fuel n2 a3 a4 g5 m1))) s = some r) (fun s h => ?_) (fun hK16 => ?_)
    ·obtain ⟨v22, rfl⟩ : ∃ x, x = s := ⟨s, rfl⟩
     have h : (sl_insertionSortCmpFunc_int_j16 n2 v13 v14 (sl_insertionSortCmpFunc_int_l2 n2 a3 g5 (sl_insertionSortCmpFunc_int_j11 v8 (sl_insertionSortCmpFunc_int_l1 fuel n2 a3 a4 g5 m1)) m2) (sl_insertionSortCmpFunc_int_j11 v8 (sl_insertionSortCmpFunc_int_l1 fuel n2 a3 a4 g5 m1))) v22 = some r := h
     unfold sl_insertionSortCmpFunc_int_j16 at h
     refine W.cb v22 (fun hb => ?_) (fun hb => ?_)
     ·replace h := cond_t hb h
      refine W.skip ?_
      refine W.wk (env' := z5 [(2000000, .obj 3 1 (M6 v13))]) ?_
      refine W.seq ?_
      refine W.block ?_
      refine W.rg ?_
      obtain ⟨hc24, h⟩ := chk_some h
      let z6 := fun t => z5 ((37, .sb 2000000 3 1 0 n2) :: (38, I6 v14) :: (39, .sb 2000000 3 1 0 n2) :: (40, I6 v14) :: (41, I6 (W6 (v14 - 1))) :: (42, .sb 2000000 3 1 0 n2) :: (43, I6 v14) :: (44, I6 (W6 (v14 - 1))) :: (45, .pe 2000000 1 (0 + Int.toNat (W6 (v14 - 1))) 0) :: t)
      refine WO.pi 8 (v := .pe 2000000 1 (0 + Int.toNat (W6 (v14 - 1))) 0) hc24 (e1 := z6 [(2000000, .obj 3 1 (M6 v13))]) ?_
      obtain ⟨e25, he25, h⟩ := bind_some h
      let z7 := fun t => z6 ((46, I6 e25) :: t)
      refine WO.pk 0 (match (M6 v13)[(0 + Int.toNat (W6 (v14 - 1)))]? with | some y => cut Tryd.prog 3 (y.cells.map AV.strip) 0 | none => none) (v := I6 e25) ((pe_ld (f := (AV.int .i64)) (G := (fun y => cut Tryd.prog 3 (y.cells.map AV.strip) 0)) he25).trans (by kernel_rfl)) (e1 := z7 [(2000000, .obj 3 1 (M6 v13))]) ?_
      obtain ⟨hc26, h⟩ := chk_some h
      let z8 := fun t => z7 ((47, .sb 2000000 3 1 0 n2) :: (48, I6 v14) :: (49, .pe 2000000 1 (0 + Int.toNat v14) 0) :: t)
      refine WO.pi 2 (v := .pe 2000000 1 (0 + Int.toNat v14) 0) hc26 (e1 := z8 [(2000000, .obj 3 1 (M6 v13))]) ?_
      obtain ⟨e27, he27, h⟩ := bind_some h
      let z9 := fun t => z8 ((50, I6 e27) :: t)
      refine WO.pk 0 (match (M6 v13)[(0 + Int.toNat v14)]? with | some y => cut Tryd.prog 3 (y.cells.map AV.strip) 0 | none => none) (v := I6 e27) ((pe_ld (f := (AV.int .i64)) (G := (fun y => cut Tryd.prog 3 (y.cells.map AV.strip) 0)) he27).trans (by kernel_rfl)) (e1 := z9 [(2000000, .obj 3 1 (M6 v13))]) ?_
      obtain ⟨hc28, h⟩ := chk_some h
      let z10 := fun t => z9 ((51, .pe 2000000 1 (0 + Int.toNat v14) 0) :: t)
      refine WO.pi 0 (v := .pe 2000000 1 (0 + Int.toNat v14) 0) hc28 (e1 := z10 [(2000000, .obj 3 1 (M6 v13))]) ?_
      obtain ⟨u29, hu29, h⟩ := bind_some h
      obtain ⟨y30, hyy30, hzy30⟩ := upd_some hu29
      refine WO.sk 0 (id := 2000000) (e := 3) (s := 1) (off := 0) (vs := [I6 e25]) (AV.int .i64) hyy30 hzy30 (e1 := z10 [(2000000, .obj 3 1 (M6 u29))]) ?_
      obtain ⟨hc31, h⟩ := chk_some h
      let z11 := fun t => z10 ((52, .pe 2000000 1 (0 + Int.toNat (W6 (v14 - 1))) 0) :: t)
      refine WO.pi 0 (v := .pe 2000000 1 (0 + Int.toNat (W6 (v14 - 1))) 0) hc31 (e1 := z11 [(2000000, .obj 3 1 (M6 u29))]) ?_
      obtain ⟨u32, hu32, h⟩ := bind_some h
      obtain ⟨y33, hyy33, hzy33⟩ := upd_some hu32
      refine WO.sk 0 (id := 2000000) (e := 3) (s := 1) (off := 0) (vs := [I6 e27]) (AV.int .i64) hyy33 hzy33 (e1 := z11 [(2000000, .obj 3 1 (M6 u32))]) ?_
      refine WO.fn (e2 := z5 [(2000000, .obj 3 1 (M6 u32))]) ?_
      refine W.rt (e2 := z2 [(9, I6 (W6 (v14 - 1))), (2000000, .obj 3 1 (M6 u32))]) ?_
      exact hN2 (u32, (W6 (v14 - 1))) h
     replace h := cond_f hb h
     refine W.exit ?_
     refine W.wk (env' := z2 [(2000000, .obj 3 1 (M6 v13))]) ?_
     exact hK11 v13 h
    refine W.rg ?_
    let z12 := fun t => z5 ((18, I6 v14) :: (19, I6 a3) :: t)
    refine WO.bk 4 (fun b => z12 [(20, .bool b), (21, .bool b), (2000000, .obj 3 1 (M6 v13))]) (decide (v14 > a3)) (fun hb => ?_) (fun hb => ?_)
    ·replace h := cond_t hb h
     obtain ⟨hc17, h⟩ := chk_some h
     let z13 := fun t => z12 ((20, .bool true) :: (21, .bool true) :: (22, .clo F_g5 C_g5) :: (23, .sb 2000000 3 1 0 n2) :: (24, I6 v14) :: (25, .pe 2000000 1 (0 + Int.toNat v14) 0) :: t)
     refine WO.pi 3 (v := .pe 2000000 1 (0 + Int.toNat v14) 0) hc17 (e1 := z13 [(2000000, .obj 3 1 (M6 v13))]) ?_
     obtain ⟨e18, he18, h⟩ := bind_some h
     refine WO.pk 0 (match (M6 v13)[(0 + Int.toNat v14)]? with | some y => cut Tryd.prog 3 (y.cells.map AV.strip) 0 | none => none) (v := I6 e18) ((pe_ld (f := (AV.int .i64)) (G := (fun y => cut Tryd.prog 3 (y.cells.map AV.strip) 0)) he18).trans (by kernel_rfl)) (e1 := z13 [(26, I6 e18), (2000000, .obj 3 1 (M6 v13))]) ?_
     obtain ⟨hc19, h⟩ := chk_some h
     let z14 := fun t => z13 ((26, I6 e18) :: (27, .sb 2000000 3 1 0 n2) :: (28, I6 v14) :: (29, I6 (W6 (v14 - 1))) :: (30, .pe 2000000 1 (0 + Int.toNat (W6 (v14 - 1))) 0) :: t)
     refine WO.pi 3 (v := .pe 2000000 1 (0 + Int.toNat (W6 (v14 - 1))) 0) hc19 (e1 := z14 [(2000000, .obj 3 1 (M6 v13))]) ?_
     obtain ⟨e20, he20, h⟩ := bind_some h
     refine WO.pk 0 (match (M6 v13)[(0 + Int.toNat (W6 (v14 - 1)))]? with | some y => cut Tryd.prog 3 (y.cells.map AV.strip) 0 | none => none) (v := I6 e20) ((pe_ld (f := (AV.int .i64)) (G := (fun y => cut Tryd.prog 3 (y.cells.map AV.strip) 0)) he20).trans (by kernel_rfl)) (e1 := z14 [(31, I6 e20), (2000000, .obj 3 1 (M6 v13))]) ?_
     obtain ⟨w21, hw21, h⟩ := bind_some h
     refine WO.callK 0 (F := F_g5) (l := [I6 e18, I6 e20]) (C := C_g5) (r := I6 w21) (by kernel_rfl) hok_g5 (hrun_g5 e18 e20 w21 hw21) (e1 := z14 [(31, I6 e20), (32, I6 w21), (2000000, .obj 3 1 (M6 v13))]) (by kernel_rfl) ?_
     refine WO.fn (e2 := z5 [(34, .bool (decide (w21 < 0))), (2000000, .obj 3 1 (M6 v13))]) ?_
     exact hK16 (decide (w21 < 0)) h
    replace h := cond_f hb h
    refine WO.fn (e2 := z5 [(34, .bool false), (2000000, .obj 3 1 (M6 v13))]) ?_
    exact hK16 false h
  replace h := cond_f hb h
  have hr : PostM Tryd.prog Tryd.f66 (.tup []) [(2000000, .obj 3 1 (M6 v7))] .normal (z3 []) := ⟨by kernel_rfl, by kernel_rfl⟩
  cases h
  exact W.exit hr
def sl_swapRangeCmpFunc_int_l1 (n2 : Nat) (a3 : Int) (a4 : Int) (a5 : Int) : Nat → (List Int) → Int → Option (List Int)
 | 0, _, _ => none
 | m1 + 1, v8, v9 => (bif (decide (v9 < a5)) then (chk (decide ((0 : Int) ≤ (IntKind.wrap .i64 (a4 + v9)) ∧ (IntKind.wrap .i64 (a4 + v9)) < ((n2 : Nat) : Int))) ((v8[(0 + Int.toNat (IntKind.wrap .i64 (a4 + v9)))]?).bind fun e14 => (chk (decide ((0 : Int) ≤ (IntKind.wrap .i64 (a3 + v9)) ∧ (IntKind.wrap .i64 (a3 + v9)) < ((n2 : Nat) : Int))) ((v8[(0 + Int.toNat (IntKind.wrap .i64 (a3 + v9)))]?).bind fun e16 => (chk (decide ((0 : Int) ≤ (IntKind.wrap .i64 (a3 + v9)) ∧ (IntKind.wrap .i64 (a3 + v9)) < ((n2 : Nat) : Int))) ((upd v8 (0 + Int.toNat (IntKind.wrap .i64 (a3 + v9))) e14).bind fun u18 => (chk (decide ((0 : Int) ≤ (IntKind.wrap .i64 (a4 + v9)) ∧ (IntKind.wrap .i64 (a4 + v9)) < ((n2 : Nat) : Int))) ((upd u18 (0 + Int.toNat (IntKind.wrap .i64 (a4 + v9))) e16).bind fun u21 => ((sl_swapRangeCmpFunc_int_l1 n2 a3 a4 a5 m1) u21 (IntKind.wrap .i64 (v9 + 1))))))))))) else (some v8))
def sl_swapRangeCmpFunc_int (fuel : Nat) (a1 : (List Int)) (n2 : Nat) (a3 : Int) (a4 : Int) (a5 : Int) (g6 : (Int → Int → Option Int)) : Option (List Int) :=
 (sl_swapRangeCmpFunc_int_l1 n2 a3 a4 a5 fuel a1 0)
theorem run_sl_swapRangeCmpFunc_int (fuel : Nat) (a1 : (List Int)) (n2 : Nat) (a3 : Int) (a4 : Int) (a5 : Int) (g6 : (Int → Int → Option Int)) (F_g6 : Nat) (C_g6 : List AV) (hok_g6 : okFn Tryd.prog F_g6 = true) (hrun_g6 : ∀ (x0 : Int) (x1 : Int) r, g6 x0 x1 = some r → Run Tryd.prog (.call F_g6 ([I6 x0, I6 x1] ++ C_g6) (I6 r))) (r : (List Int)) (h : sl_swapRangeCmpFunc_int fuel a1 n2 a3 a4 a5 g6 = some r) : Run Tryd.prog (.callM 99 [.sb 2000000 3 1 0 n2, I6 a3, I6 a4, I6 a5, .clo F_g6 C_g6] [(2000000, .obj 3 1 (M6 a1))] (.tup []) [(2000000, .obj 3 1 (M6 r))]) := by
 refine cM Tryd.func99 rfl (env0 := [(0, .sb 2000000 3 1 0 n2), (1, I6 a3), (2, I6 a4), (3, I6 a5), (4, .clo F_g6 C_g6), (2000000, .obj 3 1 (M6 a1))]) ?_
 unfold sl_swapRangeCmpFunc_int at h
 refine W.seq ?_
 let z0 := fun t => EN ((0, .sb 2000000 3 1 0 n2) :: (1, I6 a3) :: (2, I6 a4) :: (3, I6 a5) :: t)
 let z1 := fun t => z0 ((10, .int .i64 0) :: (2000000, .obj 3 1 (M6 a1)) :: t)
 refine W.rt (e2 := z1 []) ?_
 refine W.block ?_
 refine W.wk (env' := z1 []) ?_
 refine W.fuel (σ := ((List Int) × Int)) (fun s => z0 [(10, I6 s.2), (2000000, .obj 3 1 (M6 s.1))]) (fun m0 s => sl_swapRangeCmpFunc_int_l1 n2 a3 a4 a5 m0 s.1 s.2 = some r) (fun s h => ?_) (fun m1 s h hN1 => ?_) fuel (a1, 0) h
 ·obtain ⟨v8, v9⟩ := s
  have h : sl_swapRangeCmpFunc_int_l1 n2 a3 a4 a5 0 v8 v9 = some r := h
  rw [sl_swapRangeCmpFunc_int_l1.eq_1] at h
  cases h
 ·obtain ⟨v8, v9⟩ := s
  have h : sl_swapRangeCmpFunc_int_l1 n2 a3 a4 a5 (m1 + 1) v8 v9 = some r := h
  rw [sl_swapRangeCmpFunc_int_l1.eq_2] at h
  refine W.seq ?_
  refine W.seq ?_
  let z2 := fun t => z0 ((10, I6 v9) :: t)
  let z3 := fun t => z2 ((13, .bool (decide (v9 < a5))) :: (2000000, .obj 3 1 (M6 v8)) :: t)
  refine W.rt (e2 := z3 []) ?_
  refine W.cb (decide (v9 < a5)) (fun hb => ?_) (fun hb => ?_)
  ·replace h := cond_t hb h
   refine W.skip ?_
   refine W.wk (env' := z2 [(2000000, .obj 3 1 (M6 v8))]) ?_
   refine W.seq ?_
   refine W.block ?_
   refine W.rg ?_
   obtain ⟨hc13, h⟩ := chk_some h
   let z4 := fun t => z2 ((16, .sb 2000000 3 1 0 n2) :: (17, I6 a3) :: (18, I6 v9) :: (19, I6 (W6 (a3 + v9))) :: (20, .sb 2000000 3 1 0 n2) :: (21, I6 a4) :: (22, I6 v9) :: (23, I6 (W6 (a4 + v9))) :: (24, .sb 2000000 3 1 0 n2) :: (25, I6 a4) :: (26, I6 v9) :: (27, I6 (W6 (a4 + v9))) :: (28, .pe 2000000 1 (0 + Int.toNat (W6 (a4 + v9))) 0) :: t)
   refine WO.pi 12 (v := .pe 2000000 1 (0 + Int.toNat (W6 (a4 + v9))) 0) hc13 (e1 := z4 [(2000000, .obj 3 1 (M6 v8))]) ?_
   obtain ⟨e14, he14, h⟩ := bind_some h
   let z5 := fun t => z4 ((29, I6 e14) :: t)
   refine WO.pk 0 (match (M6 v8)[(0 + Int.toNat (W6 (a4 + v9)))]? with | some y => cut Tryd.prog 3 (y.cells.map AV.strip) 0 | none => none) (v := I6 e14) ((pe_ld (f := (AV.int .i64)) (G := (fun y => cut Tryd.prog 3 (y.cells.map AV.strip) 0)) he14).trans (by kernel_rfl)) (e1 := z5 [(2000000, .obj 3 1 (M6 v8))]) ?_
   obtain ⟨hc15, h⟩ := chk_some h
   let z6 := fun t => z5 ((30, .sb 2000000 3 1 0 n2) :: (31, I6 a3) :: (32, I6 v9) :: (33, I6 (W6 (a3 + v9))) :: (34, .pe 2000000 1 (0 + Int.toNat (W6 (a3 + v9))) 0) :: t)
   refine WO.pi 4 (v := .pe 2000000 1 (0 + Int.toNat (W6 (a3 + v9))) 0) hc15 (e1 := z6 [(2000000, .obj 3 1 (M6 v8))]) ?_
   obtain ⟨e16, he16, h⟩ := bind_some h
   let z7 := fun t => z6 ((35, I6 e16) :: t)
   refine WO.pk 0 (match (M6 v8)[(0 + Int.toNat (W6 (a3 + v9)))]? with | some y => cut Tryd.prog 3 (y.cells.map AV.strip) 0 | none => none) (v := I6 e16) ((pe_ld (f := (AV.int .i64)) (G := (fun y => cut Tryd.prog 3 (y.cells.map AV.strip) 0)) he16).trans (by kernel_rfl)) (e1 := z7 [(2000000, .obj 3 1 (M6 v8))]) ?_
   obtain ⟨hc17, h⟩ := chk_some h
   let z8 := fun t => z7 ((36, .pe 2000000 1 (0 + Int.toNat (W6 (a3 + v9))) 0) :: t)
   refine WO.pi 0 (v := .pe 2000000 1 (0 + Int.toNat (W6 (a3 + v9))) 0) hc17 (e1 := z8 [(2000000, .obj 3 1 (M6 v8))]) ?_
   obtain ⟨u18, hu18, h⟩ := bind_some h
   obtain ⟨y19, hyy19, hzy19⟩ := upd_some hu18
   refine WO.sk 0 (id := 2000000) (e := 3) (s := 1) (off := 0) (vs := [I6 e14]) (AV.int .i64) hyy19 hzy19 (e1 := z8 [(2000000, .obj 3 1 (M6 u18))]) ?_
   obtain ⟨hc20, h⟩ := chk_some h
   let z9 := fun t => z8 ((37, .pe 2000000 1 (0 + Int.toNat (W6 (a4 + v9))) 0) :: t)
   refine WO.pi 0 (v := .pe 2000000 1 (0 + Int.toNat (W6 (a4 + v9))) 0) hc20 (e1 := z9 [(2000000, .obj 3 1 (M6 u18))]) ?_
   obtain ⟨u21, hu21, h⟩ := bind_some h
   obtain ⟨y22, hyy22, hzy22⟩ := upd_some hu21
   refine WO.sk 0 (id := 2000000) (e := 3) (s := 1) (off := 0) (vs := [I6 e16]) (AV.int .i64) hyy22 hzy22 (e1 := z9 [(2000000, .obj 3 1 (M6 u21))]) ?_
   refine WO.fn (e2 := z2 [(2000000, .obj 3 1 (M6 u21))]) ?_
   refine W.rt (e2 := z0 [(10, I6 (W6 (v9 + 1))), (2000000, .obj 3 1 (M6 u21))]) ?_
   exact hN1 (u21, (W6 (v9 + 1))) h
  replace h := cond_f hb h
  have hr : PostM Tryd.prog Tryd.f99 (.tup []) [(2000000, .obj 3 1 (M6 v8))] .normal (z3 []) := ⟨by kernel_rfl, by kernel_rfl⟩
  cases h
  exact W.exit hr
def sl_rotateCmpFunc_int_j9 (fuel : Nat) (n2 : Nat) (a4 : Int) (g6 : (Int → Int → Option Int)) (v20 : (List Int)) (v21 : Int) : Option (List Int) :=
 ((sl_swapRangeCmpFunc_int fuel v20 n2 (IntKind.wrap .i64 (a4 - v21)) a4 v21 g6).bind fun w22 => (some w22))
def sl_rotateCmpFunc_int_l1 (fuel : Nat) (n2 : Nat) (a4 : Int) (g6 : (Int → Int → Option Int)) (K9 : ((List Int) → Int → Option (List Int))) : Nat → (List Int) → Int → Int → Option (List Int)
 | 0, _, _, _ => none
 | m1 + 1, v10, v11, v12 => (bif (v11 != v12) then (bif (decide (v11 > v12)) then ((sl_swapRangeCmpFunc_int fuel v10 n2 (IntKind.wrap .i64 (a4 - v11)) a4 v12 g6).bind fun w17 => ((sl_rotateCmpFunc_int_l1 fuel n2 a4 g6 K9 m1) w17 (IntKind.wrap .i64 (v11 - v12)) v12)) else ((sl_swapRangeCmpFunc_int fuel v10 n2 (IntKind.wrap .i64 (a4 - v11)) (IntKind.wrap .i64 ((IntKind.wrap .i64 (a4 + v12)) - v11)) v11 g6).bind fun w19 => ((sl_rotateCmpFunc_int_l1 fuel n2 a4 g6 K9 m1) w19 v11 (IntKind.wrap .i64 (v12 - v11))))) else (K9 v10 v11))
def sl_rotateCmpFunc_int (fuel : Nat) (a1 : (List Int)) (n2 : Nat) (a3 : Int) (a4 : Int) (a5 : Int) (g6 : (Int → Int → Option Int)) : Option (List Int) :=
 (sl_rotateCmpFunc_int_l1 fuel n2 a4 g6 (sl_rotateCmpFunc_int_j9 fuel n2 a4 g6) fuel a1 (IntKind.wrap .i64 (a4 - a3)) (IntKind.wrap .i64 (a5 - a4)))
theorem run_sl_rotateCmpFunc_int (fuel : Nat) (a1 : (List Int)) (n2 : Nat) (a3 : Int) (a4 : Int) (a5 : Int) (g6 : (Int → Int → Option Int)) (F_g6 : Nat) (C_g6 : List AV) (hok_g6 : okFn Tryd.prog F_g6 = true) (hrun_g6 : ∀ (x0 : Int) (x1 : Int) r, g6 x0 x1 = some r → Run Tryd.prog (.call F_g6 ([I6 x0, I6 x1] ++ C_g6) (I6 r))) (r : (List Int)) (h : sl_rotateCmpFunc_int fuel a1 n2 a3 a4 a5 g6 = some r) : Run Tryd.prog (.callM 91 [.sb 2000000 3 1 0 n2, I6 a3, I6 a4, I6 a5, .clo F_g6 C_g6] [(2000000, .obj 3 1 (M6 a1))] (.tup []) [(2000000, .obj 3 1 (M6 r))]) := by
 refine cM Tryd.func91 rfl (env0 := [(0, .sb 2000000 3 1 0 n2), (1, I6 a3), (2, I6 a4), (3, I6 a5), (4, .clo F_g6 C_g6), (2000000, .obj 3 1 (M6 a1))]) ?_
 unfold sl_rotateCmpFunc_int at h
 refine W.seq ?_
 let z0 := fun t => EN ((0, .sb 2000000 3 1 0 n2) :: (2, I6 a4) :: t)
 refine W.rt (e2 := z0 [(3, I6 a5), (4, .clo F_g6 C_g6), (10, I6 (W6 (a4 - a3))), (2000000, .obj 3 1 (M6 a1))]) ?_
 refine W.seq ?_
 let z1 := fun t => z0 ((4, .clo F_g6 C_g6) :: t)
 let z2 := fun t => z1 ((10, I6 (W6 (a4 - a3))) :: (11, I6 (W6 (a5 - a4))) :: (2000000, .obj 3 1 (M6 a1)) :: t)
 refine W.rt (e2 := z2 []) ?_
 refine W.seq ?_
 refine W.join (σ := ((List Int) × Int)) (fun s => z1 [(10, I6 s.2), (2000000, .obj 3 1 (M6 s.1))]) (fun s => (sl_rotateCmpFunc_int_j9 fuel n2 a4 g6) s.1 s.2 = some r) (fun s h => ?_) (fun hK9 => ?_)
 ·obtain ⟨v20, v21⟩ := s
  have h : (sl_rotateCmpFunc_int_j9 fuel n2 a4 g6) v20 v21 = some r := h
  unfold sl_rotateCmpFunc_int_j9 at h
  refine W.rg ?_
  obtain ⟨w22, hw22, h⟩ := bind_some h
  let z3 := fun t => z1 ((10, I6 v21) :: (50, .sb 2000000 3 1 0 n2) :: (51, I6 a4) :: (52, I6 v21) :: (53, I6 (W6 (a4 - v21))) :: (54, I6 a4) :: (55, I6 v21) :: (56, .clo F_g6 C_g6) :: (57, .tup []) :: (2000000, .obj 3 1 (M6 w22)) :: t)
  refine WO.cm 7 [(2000000, 2000000)] [] (F := 99) (args := [.sb 2000000 3 1 0 n2, I6 (W6 (a4 - v21)), I6 a4, I6 v21, .clo F_g6 C_g6]) (hp := [(2000000, .obj 3 1 (M6 v20))]) (hp2 := [(2000000, .obj 3 1 (M6 w22))]) (r := .tup []) (run_sl_swapRangeCmpFunc_int fuel v20 n2 (W6 (a4 - v21)) a4 v21 g6 F_g6 C_g6 hok_g6 hrun_g6 w22 hw22) (e1 := z3 []) ?_
  refine WO.end0 (e2 := z3 []) (by kernel_rfl) ?_
  have hr : PostM Tryd.prog Tryd.f91 (.tup []) [(2000000, .obj 3 1 (M6 w22))] .normal (z3 []) := ⟨by kernel_rfl, by kernel_rfl⟩
  cases h
  exact hr
 refine W.block ?_
 refine W.wk (env' := z2 []) ?_
 refine W.fuel (σ := ((List Int) × Int × Int)) (fun s => z1 [(10, I6 s.2.1), (11, I6 s.2.2), (2000000, .obj 3 1 (M6 s.1))]) (fun m0 s => sl_rotateCmpFunc_int_l1 fuel n2 a4 g6 (sl_rotateCmpFunc_int_j9 fuel n2 a4 g6) m0 s.1 s.2.1 s.2.2 = some r) (fun s h => ?_) (fun m1 s h hN1 => ?_) fuel (a1, (W6 (a4 - a3)), (W6 (a5 - a4))) h
 ·obtain ⟨v10, v11, v12⟩ := s
  have h : sl_rotateCmpFunc_int_l1 fuel n2 a4 g6 (sl_rotateCmpFunc_int_j9 fuel n2 a4 g6) 0 v10 v11 v12 = some r := h
  rw [sl_rotateCmpFunc_int_l1.eq_1] at h
  cases h
 ·obtain ⟨v10, v11, v12⟩ := s
  have h : sl_rotateCmpFunc_int_l1 fuel n2 a4 g6 (sl_rotateCmpFunc_int_j9 fuel n2 a4 g6) (m1 + 1) v10 v11 v12 = some r := h
  rw [sl_rotateCmpFunc_int_l1.eq_2] at h
  refine W.seq ?_
  refine W.seq ?_
  let z4 := fun t => z1 ((10, I6 v11) :: (11, I6 v12) :: t)
  refine W.rt (e2 := z4 [(20, .bool (v11 != v12)), (2000000, .obj 3 1 (M6 v10))]) ?_
  refine W.cb (v11 != v12) (fun hb => ?_) (fun hb => ?_)
  ·replace h := cond_t hb h
   refine W.skip ?_
   refine W.wk (env' := z4 [(2000000, .obj 3 1 (M6 v10))]) ?_
   refine W.block ?_
   refine W.seq ?_
   let z5 := fun t => z4 ((23, .bool (decide (v11 > v12))) :: t)
   refine W.rt (e2 := z5 [(2000000, .obj 3 1 (M6 v10))]) ?_
   refine W.cb (decide (v11 > v12)) (fun hb => ?_) (fun hb => ?_)
   ·replace h := cond_t hb h
    refine W.seq ?_
    refine W.rg ?_
    obtain ⟨w17, hw17, h⟩ := bind_some h
    refine WO.cm 7 [(2000000, 2000000)] [] (F := 99) (args := [.sb 2000000 3 1 0 n2, I6 (W6 (a4 - v11)), I6 a4, I6 v12, .clo F_g6 C_g6]) (hp := [(2000000, .obj 3 1 (M6 v10))]) (hp2 := [(2000000, .obj 3 1 (M6 w17))]) (r := .tup []) (run_sl_swapRangeCmpFunc_int fuel v10 n2 (W6 (a4 - v11)) a4 v12 g6 F_g6 C_g6 hok_g6 hrun_g6 w17 hw17) (e1 := z5 [(24, .sb 2000000 3 1 0 n2), (25, I6 a4), (26, I6 v11), (27, I6 (W6 (a4 - v11))), (28, I6 a4), (29, I6 v12), (30, .clo F_g6 C_g6), (31, .tup []), (2000000, .obj 3 1 (M6 w17))]) ?_
    refine WO.fn (e2 := z4 [(2000000, .obj 3 1 (M6 w17))]) ?_
    refine W.rt (e2 := z1 [(10, I6 (W6 (v11 - v12))), (11, I6 v12), (2000000, .obj 3 1 (M6 w17))]) ?_
    exact hN1 (w17, (W6 (v11 - v12)), v12) h
   replace h := cond_f hb h
   refine W.seq ?_
   refine W.rg ?_
   obtain ⟨w19, hw19, h⟩ := bind_some h
   refine WO.cm 11 [(2000000, 2000000)] [] (F := 99) (args := [.sb 2000000 3 1 0 n2, I6 (W6 (a4 - v11)), I6 (W6 ((W6 (a4 + v12)) - v11)), I6 v11, .clo F_g6 C_g6]) (hp := [(2000000, .obj 3 1 (M6 v10))]) (hp2 := [(2000000, .obj 3 1 (M6 w19))]) (r := .tup []) (run_sl_swapRangeCmpFunc_int fuel v10 n2 (W6 (a4 - v11)) (W6 ((W6 (a4 + v12)) - v11)) v11 g6 F_g6 C_g6 hok_g6 hrun_g6 w19 hw19) (e1 := z5 [(35, .sb 2000000 3 1 0 n2), (36, I6 a4), (37, I6 v11), (38, I6 (W6 (a4 - v11))), (39, I6 a4), (40, I6 v12), (41, I6 (W6 (a4 + v12))), (42, I6 v11), (43, I6 (W6 ((W6 (a4 + v12)) - v11))), (44, I6 v11), (45, .clo F_g6 C_g6), (46, .tup []), (2000000, .obj 3 1 (M6 w19))]) ?_
   refine WO.fn (e2 := z4 [(2000000, .obj 3 1 (M6 w19))]) ?_
   refine W.rt (e2 := z1 [(10, I6 v11), (11, I6 (W6 (v12 - v11))), (2000000, .obj 3 1 (M6 w19))]) ?_
   exact hN1 (w19, v11, (W6 (v12 - v11))) h
  replace h := cond_f hb h
  refine W.exit ?_
  refine W.wk (env' := z1 [(10, I6 v11), (2000000, .obj 3 1 (M6 v10))]) ?_
  exact hK9 (v10, v11) h
def sl_symMergeCmpFunc_int_j24 (v41 : (List Int)) : Option (List Int) :=
 (some v41)
def sl_symMergeCmpFunc_int_l2 (n2 : Nat) (v23 : Int) (K24 : ((List Int) → Option (List Int))) : Nat → (List Int) → Int → Option (List Int)
 | 0, _, _ => none
 | m2 + 1, v26, v27 => (bif (decide (v27 < (IntKind.wrap .i64 (v23 - 1)))) then (chk (decide ((0 : Int) ≤ (IntKind.wrap .i64 (v27 + 1)) ∧ (IntKind.wrap .i64 (v27 + 1)) < ((n2 : Nat) : Int))) ((v26[(0 + Int.toNat (IntKind.wrap .i64 (v27 + 1)))]?).bind fun e32 => (chk (decide ((0 : Int) ≤ v27 ∧ v27 < ((n2 : Nat) : Int))) ((v26[(0 + Int.toNat v27)]?).bind fun e34 => (chk (decide ((0 : Int) ≤ v27 ∧ v27 < ((n2 : Nat) : Int))) ((upd v26 (0 + Int.toNat v27) e32).bind fun u36 => (chk (decide ((0 : Int) ≤ (IntKind.wrap .i64 (v27 + 1)) ∧ (IntKind.wrap .i64 (v27 + 1)) < ((n2 : Nat) : Int))) ((upd u36 (0 + Int.toNat (IntKind.wrap .i64 (v27 + 1))) e34).bind fun u39 => ((sl_symMergeCmpFunc_int_l2 n2 v23 K24 m2) u39 (IntKind.wrap .i64 (v27 + 1))))))))))) else (K24 v26))
def sl_symMergeCmpFunc_int_j11 (fuel : Nat) (a1 : (List Int)) (n2 : Nat) (a3 : Int) (v23 : Int) : Option (List Int) :=
 (sl_symMergeCmpFunc_int_l2 n2 v23 (sl_symMergeCmpFunc_int_j24) fuel a1 a3)
def sl_symMergeCmpFunc_int_j59 (v76 : (List Int)) : Option (List Int) :=
 (some v76)
def sl_symMergeCmpFunc_int_l4 (n2 : Nat) (v58 : Int) (K59 : ((List Int) → Option (List Int))) : Nat → (List Int) → Int → Option (List Int)
 | 0, _, _ => none
 | m4 + 1, v61, v62 => (bif (decide (v62 > v58)) then (chk (decide ((0 : Int) ≤ (IntKind.wrap .i64 (v62 - 1)) ∧ (IntKind.wrap .i64 (v62 - 1)) < ((n2 : Nat) : Int))) ((v61[(0 + Int.toNat (IntKind.wrap .i64 (v62 - 1)))]?).bind fun e67 => (chk (decide ((0 : Int) ≤ v62 ∧ v62 < ((n2 : Nat) : Int))) ((v61[(0 + Int.toNat v62)]?).bind fun e69 => (chk (decide ((0 : Int) ≤ v62 ∧ v62 < ((n2 : Nat) : Int))) ((upd v61 (0 + Int.toNat v62) e67).bind fun u71 => (chk (decide ((0 : Int) ≤ (IntKind.wrap .i64 (v62 - 1)) ∧ (IntKind.wrap .i64 (v62 - 1)) < ((n2 : Nat) : Int))) ((upd u71 (0 + Int.toNat (IntKind.wrap .i64 (v62 - 1))) e69).bind fun u74 => ((sl_symMergeCmpFunc_int_l4 n2 v58 K59 m4) u74 (IntKind.wrap .i64 (v62 - 1))))))))))) else (K59 v61))
def sl_symMergeCmpFunc_int_j46 (fuel : Nat) (a1 : (List Int)) (n2 : Nat) (a4 : Int) (v58 : Int) : Option (List Int) :=
 (sl_symMergeCmpFunc_int_l4 n2 v58 (sl_symMergeCmpFunc_int_j59) fuel a1 a4)
def sl_symMergeCmpFunc_int_j111 (n2 : Nat) (a3 : Int) (a4 : Int) (a5 : Int) (g6 : (Int → Int → Option Int)) (v99 : Int) (v110 : (List Int)) (K0 : ((List Int) → Nat → Int → Int → Int → (Int → Int → Option Int) → Option (List Int))) (v112 : Bool) : Option (List Int) :=
 (bif v112 then ((K0 v110 n2 (IntKind.wrap .i64 (iShr .u64 (IntKind.wrap .u64 (IntKind.wrap .i64 (a3 + a5))) 1)) (IntKind.wrap .i64 ((IntKind.wrap .i64 ((IntKind.wrap .i64 (iShr .u64 (IntKind.wrap .u64 (IntKind.wrap .i64 (a3 + a5))) 1)) + a4)) - v99)) a5 g6).bind fun w113 => (some w113)) else (some v110))
def sl_symMergeCmpFunc_int_j106 (n2 : Nat) (a3 : Int) (a4 : Int) (a5 : Int) (g6 : (Int → Int → Option Int)) (v99 : Int) (K0 : ((List Int) → Nat → Int → Int → Int → (Int → Int → Option Int) → Option (List Int))) (v110 : (List Int)) : Option (List Int) :=
 (bif (decide ((IntKind.wrap .i64 (iShr .u64 (IntKind.wrap .u64 (IntKind.wrap .i64 (a3 + a5))) 1)) < (IntKind.wrap .i64 ((IntKind.wrap .i64 ((IntKind.wrap .i64 (iShr .u64 (IntKind.wrap .u64 (IntKind.wrap .i64 (a3 + a5))) 1)) + a4)) - v99)))) then ((sl_symMergeCmpFunc_int_j111 n2 a3 a4 a5 g6 v99 v110 K0) (decide ((IntKind.wrap .i64 ((IntKind.wrap .i64 ((IntKind.wrap .i64 (iShr .u64 (IntKind.wrap .u64 (IntKind.wrap .i64 (a3 + a5))) 1)) + a4)) - v99)) < a5))) else ((sl_symMergeCmpFunc_int_j111 n2 a3 a4 a5 g6 v99 v110 K0) false))
def sl_symMergeCmpFunc_int_j107 (n2 : Nat) (a3 : Int) (a5 : Int) (g6 : (Int → Int → Option Int)) (v99 : Int) (v105 : (List Int)) (K0 : ((List Int) → Nat → Int → Int → Int → (Int → Int → Option Int) → Option (List Int))) (K106 : ((List Int) → Option (List Int))) (v108 : Bool) : Option (List Int) :=
 (bif v108 then ((K0 v105 n2 a3 v99 (IntKind.wrap .i64 (iShr .u64 (IntKind.wrap .u64 (IntKind.wrap .i64 (a3 + a5))) 1)) g6).bind fun w109 => (K106 w109)) else (K106 v105))
def sl_symMergeCmpFunc_int_j101 (n2 : Nat) (a3 : Int) (a4 : Int) (a5 : Int) (g6 : (Int → Int → Option Int)) (v99 : Int) (K0 : ((List Int) → Nat → Int → Int → Int → (Int → Int → Option Int) → Option (List Int))) (v105 : (List Int)) : Option (List Int) :=
 (bif (decide (a3 < v99)) then ((sl_symMergeCmpFunc_int_j107 n2 a3 a5 g6 v99 v105 K0 (sl_symMergeCmpFunc_int_j106 n2 a3 a4 a5 g6 v99 K0)) (decide (v99 < (IntKind.wrap .i64 (iShr .u64 (IntKind.wrap .u64 (IntKind.wrap .i64 (a3 + a5))) 1))))) else ((sl_symMergeCmpFunc_int_j107 n2 a3 a5 g6 v99 v105 K0 (sl_symMergeCmpFunc_int_j106 n2 a3 a4 a5 g6 v99 K0)) false))
def sl_symMergeCmpFunc_int_j102 (fuel : Nat) (a1 : (List Int)) (n2 : Nat) (a3 : Int) (a4 : Int) (a5 : Int) (g6 : (Int → Int → Option Int)) (v99 : Int) (K101 : ((List Int) → Option (List Int))) (v103 : Bool) : Option (List Int) :=
 (bif v103 then ((sl_rotateCmpFunc_int fuel a1 n2 v99 a4 (IntKind.wrap .i64 ((IntKind.wrap .i64 ((IntKind.wrap .i64 (iShr .u64 (IntKind.wrap .u64 (IntKind.wrap .i64 (a3 + a5))) 1)) + a4)) - v99)) g6).bind fun w104 => (K101 w104)) else (K101 a1))
def sl_symMergeCmpFunc_int_j87 (fuel : Nat) (a1 : (List Int)) (n2 : Nat) (a3 : Int) (a4 : Int) (a5 : Int) (g6 : (Int → Int → Option Int)) (K0 : ((List Int) → Nat → Int → Int → Int → (Int → Int → Option Int) → Option (List Int))) (v99 : Int) : Option (List Int) :=
 (bif (decide (v99 < a4)) then ((sl_symMergeCmpFunc_int_j102 fuel a1 n2 a3 a4 a5 g6 v99 (sl_symMergeCmpFunc_int_j101 n2 a3 a4 a5 g6 v99 K0)) (decide (a4 < (IntKind.wrap .i64 ((IntKind.wrap .i64 ((IntKind.wrap .i64 (iShr .u64 (IntKind.wrap .u64 (IntKind.wrap .i64 (a3 + a5))) 1)) + a4)) - v99))))) else ((sl_symMergeCmpFunc_int_j102 fuel a1 n2 a3 a4 a5 g6 v99 (sl_symMergeCmpFunc_int_j101 n2 a3 a4 a5 g6 v99 K0)) false))
def sl_symMergeCmpFunc_int_l5 (a1 : (List Int)) (n2 : Nat) (a3 : Int) (a4 : Int) (a5 : Int) (g6 : (Int → Int → Option Int)) (K87 : (Int → Option (List Int))) : Nat → Int → Int → Option (List Int)
 | 0, _, _ => none
 | m5 + 1, v88, v89 => (bif (decide (v88 < v89)) then (chk (decide ((0 : Int) ≤ (IntKind.wrap .i64 ((IntKind.wrap .i64 ((IntKind.wrap .i64 ((IntKind.wrap .i64 (iShr .u64 (IntKind.wrap .u64 (IntKind.wrap .i64 (a3 + a5))) 1)) + a4)) - 1)) - (IntKind.wrap .i64 (iShr .u64 (IntKind.wrap .u64 (IntKind.wrap .i64 (v88 + v89))) 1)))) ∧ (IntKind.wrap .i64 ((IntKind.wrap .i64 ((IntKind.wrap .i64 ((IntKind.wrap .i64 (iShr .u64 (IntKind.wrap .u64 (IntKind.wrap .i64 (a3 + a5))) 1)) + a4)) - 1)) - (IntKind.wrap .i64 (iShr .u64 (IntKind.wrap .u64 (IntKind.wrap .i64 (v88 + v89))) 1)))) < ((n2 : Nat) : Int))) ((a1[(0 + Int.toNat (IntKind.wrap .i64 ((IntKind.wrap .i64 ((IntKind.wrap .i64 ((IntKind.wrap .i64 (iShr .u64 (IntKind.wrap .u64 (IntKind.wrap .i64 (a3 + a5))) 1)) + a4)) - 1)) - (IntKind.wrap .i64 (iShr .u64 (IntKind.wrap .u64 (IntKind.wrap .i64 (v88 + v89))) 1)))))]?).bind fun e95 => (chk (decide ((0 : Int) ≤ (IntKind.wrap .i64 (iShr .u64 (IntKind.wrap .u64 (IntKind.wrap .i64 (v88 + v89))) 1)) ∧ (IntKind.wrap .i64 (iShr .u64 (IntKind.wrap .u64 (IntKind.wrap .i64 (v88 + v89))) 1)) < ((n2 : Nat) : Int))) ((a1[(0 + Int.toNat (IntKind.wrap .i64 (iShr .u64 (IntKind.wrap .u64 (IntKind.wrap .i64 (v88 + v89))) 1)))]?).bind fun e97 => ((g6 e95 e97).bind fun w98 => (bif (!(decide (w98 < 0))) then ((sl_symMergeCmpFunc_int_l5 a1 n2 a3 a4 a5 g6 K87 m5) (IntKind.wrap .i64 ((IntKind.wrap .i64 (iShr .u64 (IntKind.wrap .u64 (IntKind.wrap .i64 (v88 + v89))) 1)) + 1)) v89) else ((sl_symMergeCmpFunc_int_l5 a1 n2 a3 a4 a5 g6 K87 m5) v88 (IntKind.wrap .i64 (iShr .u64 (IntKind.wrap .u64 (IntKind.wrap .i64 (v88 + v89))) 1))))))))) else (K87 v88))
def sl_symMergeCmpFunc_int_j80 (fuel : Nat) (a1 : (List Int)) (n2 : Nat) (a3 : Int) (a4 : Int) (a5 : Int) (g6 : (Int → Int → Option Int)) (K0 : ((List Int) → Nat → Int → Int → Int → (Int → Int → Option Int) → Option (List Int))) (v84 : Int) (v85 : Int) : Option (List Int) :=
 (sl_symMergeCmpFunc_int_l5 a1 n2 a3 a4 a5 g6 (sl_symMergeCmpFunc_int_j87 fuel a1 n2 a3 a4 a5 g6 K0) fuel v84 v85)
def sl_symMergeCmpFunc_int_l1 (a1 : (List Int)) (n2 : Nat) (a3 : Int) (g6 : (Int → Int → Option Int)) (K11 : (Int → Option (List Int))) : Nat → Int → Int → Option (List Int)
 | 0, _, _ => none
 | m1 + 1, v12, v13 => (bif (decide (v12 < v13)) then (chk (decide ((0 : Int) ≤ (IntKind.wrap .i64 (iShr .u64 (IntKind.wrap .u64 (IntKind.wrap .i64 (v12 + v13))) 1)) ∧ (IntKind.wrap .i64 (iShr .u64 (IntKind.wrap .u64 (IntKind.wrap .i64 (v12 + v13))) 1)) < ((n2 : Nat) : Int))) ((a1[(0 + Int.toNat (IntKind.wrap .i64 (iShr .u64 (IntKind.wrap .u64 (IntKind.wrap .i64 (v12 + v13))) 1)))]?).bind fun e19 => (chk (decide ((0 : Int) ≤ a3 ∧ a3 < ((n2 : Nat) : Int))) ((a1[(0 + Int.toNat a3)]?).bind fun e21 => ((g6 e19 e21).bind fun w22 => (bif (decide (w22 < 0)) then ((sl_symMergeCmpFunc_int_l1 a1 n2 a3 g6 K11 m1) (IntKind.wrap .i64 ((IntKind.wrap .i64 (iShr .u64 (IntKind.wrap .u64 (IntKind.wrap .i64 (v12 + v13))) 1)) + 1)) v13) else ((sl_symMergeCmpFunc_int_l1 a1 n2 a3 g6 K11 m1) v12 (IntKind.wrap .i64 (iShr .u64 (IntKind.wrap .u64 (IntKind.wrap .i64 (v12 + v13))) 1))))))))) else (K11 v12))
def sl_symMergeCmpFunc_int_l3 (a1 : (List Int)) (n2 : Nat) (a4 : Int) (g6 : (Int → Int → Option Int)) (K46 : (Int → Option (List Int))) : Nat → Int → Int → Option (List Int)
 | 0, _, _ => none
 | m3 + 1, v47, v48 => (bif (decide (v47 < v48)) then (chk (decide ((0 : Int) ≤ a4 ∧ a4 < ((n2 : Nat) : Int))) ((a1[(0 + Int.toNat a4)]?).bind fun e54 => (chk (decide ((0 : Int) ≤ (IntKind.wrap .i64 (iShr .u64 (IntKind.wrap .u64 (IntKind.wrap .i64 (v47 + v48))) 1)) ∧ (IntKind.wrap .i64 (iShr .u64 (IntKind.wrap .u64 (IntKind.wrap .i64 (v47 + v48))) 1)) < ((n2 : Nat) : Int))) ((a1[(0 + Int.toNat (IntKind.wrap .i64 (iShr .u64 (IntKind.wrap .u64 (IntKind.wrap .i64 (v47 + v48))) 1)))]?).bind fun e56 => ((g6 e54 e56).bind fun w57 => (bif (!(decide (w57 < 0))) then ((sl_symMergeCmpFunc_int_l3 a1 n2 a4 g6 K46 m3) (IntKind.wrap .i64 ((IntKind.wrap .i64 (iShr .u64 (IntKind.wrap .u64 (IntKind.wrap .i64 (v47 + v48))) 1)) + 1)) v48) else ((sl_symMergeCmpFunc_int_l3 a1 n2 a4 g6 K46 m3) v47 (IntKind.wrap .i64 (iShr .u64 (IntKind.wrap .u64 (IntKind.wrap .i64 (v47 + v48))) 1))))))))) else (K46 v47))
def sl_symMergeCmpFunc_int : Nat → (List Int) → Nat → Int → Int → Int → (Int → Int → Option Int) → Option (List Int)
 | 0, _, _, _, _, _, _ => none
 | fuel + 1, a1, n2, a3, a4, a5, g6 => (bif ((IntKind.wrap .i64 (a4 - a3)) == 1) then (sl_symMergeCmpFunc_int_l1 a1 n2 a3 g6 (sl_symMergeCmpFunc_int_j11 fuel a1 n2 a3) fuel a4 a5) else (bif ((IntKind.wrap .i64 (a5 - a4)) == 1) then (sl_symMergeCmpFunc_int_l3 a1 n2 a4 g6 (sl_symMergeCmpFunc_int_j46 fuel a1 n2 a4) fuel a3 a4) else (bif (decide (a4 > (IntKind.wrap .i64 (iShr .u64 (IntKind.wrap .u64 (IntKind.wrap .i64 (a3 + a5))) 1)))) then ((sl_symMergeCmpFunc_int_j80 fuel a1 n2 a3 a4 a5 g6 (sl_symMergeCmpFunc_int fuel)) (IntKind.wrap .i64 ((IntKind.wrap .i64 ((IntKind.wrap .i64 (iShr .u64 (IntKind.wrap .u64 (IntKind.wrap .i64 (a3 + a5))) 1)) + a4)) - a5)) (IntKind.wrap .i64 (iShr .u64 (IntKind.wrap .u64 (IntKind.wrap .i64 (a3 + a5))) 1))) else ((sl_symMergeCmpFunc_int_j80 fuel a1 n2 a3 a4 a5 g6 (sl_symMergeCmpFunc_int fuel)) a3 a4))))
theorem run_sl_symMergeCmpFunc_int : ∀ (fuel : Nat) (a1 : (List Int)) (n2 : Nat) (a3 : Int) (a4 : Int) (a5 : Int) (g6 : (Int → Int → Option Int)) (F_g6 : Nat) (C_g6 : List AV) (hok_g6 : okFn Tryd.prog F_g6 = true) (hrun_g6 : ∀ (x0 : Int) (x1 : Int) r, g6 x0 x1 = some r → Run Tryd.prog (.call F_g6 ([I6 x0, I6 x1] ++ C_g6) (I6 r))) (r : (List Int)) (h : sl_symMergeCmpFunc_int fuel a1 n2 a3 a4 a5 g6 = some r), Run Tryd.prog (.callM 67 [.sb 2000000 3 1 0 n2, I6 a3, I6 a4, I6 a5, .clo F_g6 C_g6] [(2000000, .obj 3 1 (M6 a1))] (.tup []) [(2000000, .obj 3 1 (M6 r))]) := by
 intro fuel
 induction fuel with
 | zero => intro a1 n2 a3 a4 a5 g6 F_g6 C_g6 hok_g6 hrun_g6 r h; cases h
 | succ fuel ih =>
  intro a1 n2 a3 a4 a5 g6 F_g6 C_g6 hok_g6 hrun_g6 r h
  refine cM Tryd.func67 rfl (env0 := [(0, .sb 2000000 3 1 0 n2), (1, I6 a3), (2, I6 a4), (3, I6 a5), (4, .clo F_g6 C_g6), (2000000, .obj 3 1 (M6 a1))]) ?_
  rw [sl_symMergeCmpFunc_int.eq_2] at h
  refine W.seq ?_
  refine W.seq ?_
  let z0 := fun t => EN ((0, .sb 2000000 3 1 0 n2) :: (1, I6 a3) :: (2, I6 a4) :: (3, I6 a5) :: (4, .clo F_g6 C_g6) :: t)
  refine W.rt (e2 := z0 [(28, .bool ((W6 (a4 - a3)) == 1)), (2000000, .obj 3 1 (M6 a1))]) ?_
  refine W.cb ((W6 (a4 - a3)) == 1) (fun hb => ?_) (fun hb => ?_)
  ·replace h := cond_t hb h
   refine W.seq ?_
   let z1 := fun t => EN ((0, .sb 2000000 3 1 0 n2) :: t)
   let z2 := fun t => z1 ((1, I6 a3) :: t)
   refine W.rt (e2 := z2 [(3, I6 a5), (4, .clo F_g6 C_g6), (10, I6 a4), (2000000, .obj 3 1 (M6 a1))]) ?_
   refine W.seq ?_
   let z3 := fun t => z2 ((4, .clo F_g6 C_g6) :: t)
   let z4 := fun t => z3 ((10, I6 a4) :: (11, I6 a5) :: (2000000, .obj 3 1 (M6 a1)) :: t)
   refine W.rt (e2 := z4 []) ?_
   refine W.seq ?_
   refine W.join (σ := (Int)) (fun s => z2 [(10, I6 s), (2000000, .obj 3 1 (M6 a1))]) (fun s => (sl_symMergeCmpFunc_int_j11 fuel a1 n2 a3) s = some r) (fun s h => ?_) (fun hK11 => ?_)
   ·obtain ⟨v23, rfl⟩ : ∃ x, x = s := ⟨s, rfl⟩
    have h : (sl_symMergeCmpFunc_int_j11 fuel a1 n2 a3) v23 = some r := h
    unfold sl_symMergeCmpFunc_int_j11 at h
    refine W.seq ?_
    refine W.join (σ := ((List Int))) (fun s => [(2000000, .obj 3 1 (M6 s))]) (fun s => (sl_symMergeCmpFunc_int_j24) s = some r) (fun s h => ?_) (fun hK24 => ?_)
    ·obtain ⟨v41, rfl⟩ : ∃ x, x = s := ⟨s, rfl⟩
     have h : (sl_symMergeCmpFunc_int_j24) v41 = some r := h
     unfold sl_symMergeCmpFunc_int_j24 at h
     refine W.wk (env' := [(2000000, .obj 3 1 (M6 v41))]) ?_
     have hr : PostM Tryd.prog Tryd.f67 (.tup []) [(2000000, .obj 3 1 (M6 v41))] .ret [(2000000, .obj 3 1 (M6 v41))] := ⟨by kernel_rfl, by kernel_rfl⟩
     cases h
     exact W.ret hr
    refine W.seq ?_
    let z5 := fun t => z1 ((10, I6 v23) :: t)
    let z6 := fun t => z5 ((13, I6 a3) :: (2000000, .obj 3 1 (M6 a1)) :: t)
    refine W.rt (e2 := z6 []) ?_
    refine W.block ?_
    refine W.wk (env' := z6 []) ?_
    refine W.fuel (σ := ((List Int) × Int)) (fun s => z5 [(13, I6 s.2), (2000000, .obj 3 1 (M6 s.1))]) (fun m0 s => sl_symMergeCmpFunc_int_l2 n2 v23 (sl_symMergeCmpFunc_int_j24) m0 s.1 s.2 = some r) (fun s h => ?_) (fun m2 s h hN2 => ?_) fuel (a1, a3) h
    ·obtain ⟨v26, v27⟩ := s
     have h : sl_symMergeCmpFunc_int_l2 n2 v23 (sl_symMergeCmpFunc_int_j24) 0 v26 v27 = some r := h
     rw [sl_symMergeCmpFunc_int_l2.eq_1] at h
     cases h
    ·obtain ⟨v26, v27⟩ := s
     have h : sl_symMergeCmpFunc_int_l2 n2 v23 (sl_symMergeCmpFunc_int_j24) (m2 + 1) v26 v27 = some r := h
     rw [sl_symMergeCmpFunc_int_l2.eq_2] at h
     refine W.seq ?_
     refine W.seq ?_
     let z7 := fun t => z5 ((13, I6 v27) :: t)
     refine W.rt (e2 := z7 [(58, .bool (decide (v27 < (W6 (v23 - 1))))), (2000000, .obj 3 1 (M6 v26))]) ?_
     refine W.cb (decide (v27 < (W6 (v23 - 1)))) (fun hb => ?_) (fun hb => ?_)
     ·replace h := cond_t hb h
      refine W.skip ?_
      refine W.wk (env' := z7 [(2000000, .obj 3 1 (M6 v26))]) ?_
      refine W.seq ?_
      refine W.block ?_
      refine W.rg ?_
      obtain ⟨hc31, h⟩ := chk_some h
      let z8 := fun t => z7 ((61, .sb 2000000 3 1 0 n2) :: (62, I6 v27) :: (63, .sb 2000000 3 1 0 n2) :: (64, I6 v27) :: (65, I6 (W6 (v27 + 1))) :: (66, .sb 2000000 3 1 0 n2) :: (67, I6 v27) :: (68, I6 (W6 (v27 + 1))) :: (69, .pe 2000000 1 (0 + Int.toNat (W6 (v27 + 1))) 0) :: t)
      refine WO.pi 8 (v := .pe 2000000 1 (0 + Int.toNat (W6 (v27 + 1))) 0) hc31 (e1 := z8 [(2000000, .obj 3 1 (M6 v26))]) ?_
      obtain ⟨e32, he32, h⟩ := bind_some h
      let z9 := fun t => z8 ((70, I6 e32) :: t)
      refine WO.pk 0 (match (M6 v26)[(0 + Int.toNat (W6 (v27 + 1)))]? with | some y => cut Tryd.prog 3 (y.cells.map AV.strip) 0 | none => none) (v := I6 e32) ((pe_ld (f := (AV.int .i64)) (G := (fun y => cut Tryd.prog 3 (y.cells.map AV.strip) 0)) he32).trans (by kernel_rfl)) (e1 := z9 [(2000000, .obj 3 1 (M6 v26))]) ?_
      obtain ⟨hc33, h⟩ := chk_some h
      let z10 := fun t => z9 ((71, .sb 2000000 3 1 0 n2) :: (72, I6 v27) :: (73, .pe 2000000 1 (0 + Int.toNat v27) 0) :: t)
      refine WO.pi 2 (v := .pe 2000000 1 (0 + Int.toNat v27) 0) hc33 (e1 := z10 [(2000000, .obj 3 1 (M6 v26))]) ?_
      obtain ⟨e34, he34, h⟩ := bind_some h
      let z11 := fun t => z10 ((74, I6 e34) :: t)
      refine WO.pk 0 (match (M6 v26)[(0 + Int.toNat v27)]? with | some y => cut Tryd.prog 3 (y.cells.map AV.strip) 0 | none => none) (v := I6 e34) ((pe_ld (f := (AV.int .i64)) (G := (fun y => cut Tryd.prog 3 (y.cells.map AV.strip) 0)) he34).trans (by kernel_rfl)) (e1 := z11 [(2000000, .obj 3 1 (M6 v26))]) ?_
      obtain ⟨hc35, h⟩ := chk_some h
      let z12 := fun t => z11 ((75, .pe 2000000 1 (0 + Int.toNat v27) 0) :: t)
      refine WO.pi 0 (v := .pe 2000000 1 (0 + Int.toNat v27) 0) hc35 (e1 := z12 [(2000000, .obj 3 1 (M6 v26))]) ?_
      obtain ⟨u36, hu36, h⟩ := bind_some h
      obtain ⟨y37, hyy37, hzy37⟩ := upd_some hu36
      refine WO.sk 0 (id := 2000000) (e := 3) (s := 1) (off := 0) (vs := [I6 e32]) (AV.int .i64) hyy37 hzy37 (e1 := z12 [(2000000, .obj 3 1 (M6 u36))]) ?_
      obtain ⟨hc38, h⟩ := chk_some h
      let z13 := fun t => z12 ((76, .pe 2000000 1 (0 + Int.toNat (W6 (v27 + 1))) 0) :: t)
      refine WO.pi 0 (v := .pe 2000000 1 (0 + Int.toNat (W6 (v27 + 1))) 0) hc38 (e1 := z13 [(2000000, .obj 3 1 (M6 u36))]) ?_
      obtain ⟨u39, hu39, h⟩ := bind_some h
      obtain ⟨y40, hyy40, hzy40⟩ := upd_some hu39
      refine WO.sk 0 (id := 2000000) (e := 3) (s := 1) (off := 0) (vs := [I6 e34]) (AV.int .i64) hyy40 hzy40 (e1 := z13 [(2000000, .obj 3 1 (M6 u39))]) ?_
      refine WO.fn (e2 := z7 [(2000000, .obj 3 1 (M6 u39))]) ?_
      refine W.rt (e2 := z5 [(13, I6 (W6 (v27 + 1))), (2000000, .obj 3 1 (M6 u39))]) ?_
      exact hN2 (u39, (W6 (v27 + 1))) h
     replace h := cond_f hb h
     refine W.exit ?_
     refine W.wk (env' := [(2000000, .obj 3 1 (M6 v26))]) ?_
     exact hK24 v26 h
   refine W.block ?_
   refine W.wk (env' := z4 []) ?_
   refine W.fuel (σ := (Int × Int)) (fun s => z3 [(10, I6 s.1), (11, I6 s.2), (2000000, .obj 3 1 (M6 a1))]) (fun m0 s => sl_symMergeCmpFunc_int_l1 a1 n2 a3 g6 (sl_symMergeCmpFunc_int_j11 fuel a1 n2 a3) m0 s.1 s.2 = some r) (fun s h => ?_) (fun m1 s h hN1 => ?_) fuel (a4, a5) h
   ·obtain ⟨v12, v13⟩ := s
    have h : sl_symMergeCmpFunc_int_l1 a1 n2 a3 g6 (sl_symMergeCmpFunc_int_j11 fuel a1 n2 a3) 0 v12 v13 = some r := h
    rw [sl_symMergeCmpFunc_int_l1.eq_1] at h
    cases h
   ·obtain ⟨v12, v13⟩ := s
    have h : sl_symMergeCmpFunc_int_l1 a1 n2 a3 g6 (sl_symMergeCmpFunc_int_j11 fuel a1 n2 a3) (m1 + 1) v12 v13 = some r := h
    rw [sl_symMergeCmpFunc_int_l1.eq_2] at h
    refine W.seq ?_
    refine W.seq ?_
    let z14 := fun t => z3 ((10, I6 v12) :: (11, I6 v13) :: t)
    refine W.rt (e2 := z14 [(33, .bool (decide (v12 < v13))), (2000000, .obj 3 1 (M6 a1))]) ?_
    refine W.cb (decide (v12 < v13)) (fun hb => ?_) (fun hb => ?_)
    ·replace h := cond_t hb h
     refine W.skip ?_
     refine W.wk (env' := z14 [(2000000, .obj 3 1 (M6 a1))]) ?_
     refine W.block ?_
     refine W.seq ?_
     let z15 := fun t => z14 ((12, I6 (W6 (iShr .u64 (IntKind.wrap .u64 (W6 (v12 + v13))) 1))) :: t)
     refine W.rt (e2 := z15 [(2000000, .obj 3 1 (M6 a1))]) ?_
     refine W.seq ?_
     refine W.rg ?_
     obtain ⟨hc18, h⟩ := chk_some h
     let z16 := fun t => z15 ((40, .clo F_g6 C_g6) :: (41, .sb 2000000 3 1 0 n2) :: (42, I6 (W6 (iShr .u64 (IntKind.wrap .u64 (W6 (v12 + v13))) 1))) :: (43, .pe 2000000 1 (0 + Int.toNat (W6 (iShr .u64 (IntKind.wrap .u64 (W6 (v12 + v13))) 1))) 0) :: t)
     refine WO.pi 3 (v := .pe 2000000 1 (0 + Int.toNat (W6 (iShr .u64 (IntKind.wrap .u64 (W6 (v12 + v13))) 1))) 0) hc18 (e1 := z16 [(2000000, .obj 3 1 (M6 a1))]) ?_
     obtain ⟨e19, he19, h⟩ := bind_some h
     refine WO.pk 0 (match (M6 a1)[(0 + Int.toNat (W6 (iShr .u64 (IntKind.wrap .u64 (W6 (v12 + v13))) 1)))]? with | some y => cut Tryd.prog 3 (y.cells.map AV.strip) 0 | none => none) (v := I6 e19) ((pe_ld (f := (AV.int .i64)) (G := (fun y => cut Tryd.prog 3 (y.cells.map AV.strip) 0)) he19).trans (by kernel_rfl)) (e1 := z16 [(44, I6 e19), (2000000, .obj 3 1 (M6 a1))]) ?_
     obtain ⟨hc20, h⟩ := chk_some h
     let z17 := fun t => z16 ((44, I6 e19) :: (45, .sb 2000000 3 1 0 n2) :: (46, I6 a3) :: (47, .pe 2000000 1 (0 + Int.toNat a3) 0) :: t)
     refine WO.pi 2 (v := .pe 2000000 1 (0 + Int.toNat a3) 0) hc20 (e1 := z17 [(2000000, .obj 3 1 (M6 a1))]) ?_
     obtain ⟨e21, he21, h⟩ := bind_some h
     refine WO.pk 0 (match (M6 a1)[(0 + Int.toNat a3)]? with | some y => cut Tryd.prog 3 (y.cells.map AV.strip) 0 | none => none) (v := I6 e21) ((pe_ld (f := (AV.int .i64)) (G := (fun y => cut Tryd.prog 3 (y.cells.map AV.strip) 0)) he21).trans (by kernel_rfl)) (e1 := z17 [(48, I6 e21), (2000000, .obj 3 1 (M6 a1))]) ?_
     obtain ⟨w22, hw22, h⟩ := bind_some h
     refine WO.callK 0 (F := F_g6) (l := [I6 e19, I6 e21]) (C := C_g6) (r := I6 w22) (by kernel_rfl) hok_g6 (hrun_g6 e19 e21 w22 hw22) (e1 := z17 [(48, I6 e21), (49, I6 w22), (2000000, .obj 3 1 (M6 a1))]) (by kernel_rfl) ?_
     refine WO.fn (e2 := z15 [(50, .bool (decide (w22 < 0))), (2000000, .obj 3 1 (M6 a1))]) ?_
     refine W.cb (decide (w22 < 0)) (fun hb => ?_) (fun hb => ?_)
     ·replace h := cond_t hb h
      refine W.rt (e2 := z3 [(10, I6 (W6 ((W6 (iShr .u64 (IntKind.wrap .u64 (W6 (v12 + v13))) 1)) + 1))), (11, I6 v13), (2000000, .obj 3 1 (M6 a1))]) ?_
      exact hN1 ((W6 ((W6 (iShr .u64 (IntKind.wrap .u64 (W6 (v12 + v13))) 1)) + 1)), v13) h
     replace h := cond_f hb h
     refine W.rt (e2 := z3 [(10, I6 v12), (11, I6 (W6 (iShr .u64 (IntKind.wrap .u64 (W6 (v12 + v13))) 1))), (2000000, .obj 3 1 (M6 a1))]) ?_
     exact hN1 (v12, (W6 (iShr .u64 (IntKind.wrap .u64 (W6 (v12 + v13))) 1))) h
    replace h := cond_f hb h
    refine W.exit ?_
    refine W.wk (env' := z2 [(10, I6 v12), (2000000, .obj 3 1 (M6 a1))]) ?_
    exact hK11 v12 h
  replace h := cond_f hb h
  refine W.skip ?_
  refine W.wk (env' := z0 [(2000000, .obj 3 1 (M6 a1))]) ?_
  refine W.seq ?_
  refine W.seq ?_
  refine W.rt (e2 := z0 [(80, .bool ((W6 (a5 - a4)) == 1)), (2000000, .obj 3 1 (M6 a1))]) ?_
  refine W.cb ((W6 (a5 - a4)) == 1) (fun hb => ?_) (fun hb => ?_)
  ·replace h := cond_t hb h
   refine W.seq ?_
   let z18 := fun t => EN ((0, .sb 2000000 3 1 0 n2) :: (2, I6 a4) :: (4, .clo F_g6 C_g6) :: t)
   refine W.rt (e2 := z18 [(14, I6 a3), (2000000, .obj 3 1 (M6 a1))]) ?_
   refine W.seq ?_
   let z19 := fun t => z18 ((14, I6 a3) :: (15, I6 a4) :: (2000000, .obj 3 1 (M6 a1)) :: t)
   refine W.rt (e2 := z19 []) ?_
   refine W.seq ?_
   let z20 := fun t => EN ((0, .sb 2000000 3 1 0 n2) :: t)
   let z21 := fun t => z20 ((2, I6 a4) :: t)
   refine W.join (σ := (Int)) (fun s => z21 [(14, I6 s), (2000000, .obj 3 1 (M6 a1))]) (fun s => (sl_symMergeCmpFunc_int_j46 fuel a1 n2 a4) s = some r) (fun s h => ?_) (fun hK46 => ?_)
   ·obtain ⟨v58, rfl⟩ : ∃ x, x = s := ⟨s, rfl⟩
    have h : (sl_symMergeCmpFunc_int_j46 fuel a1 n2 a4) v58 = some r := h
    unfold sl_symMergeCmpFunc_int_j46 at h
    refine W.seq ?_
    refine W.join (σ := ((List Int))) (fun s => [(2000000, .obj 3 1 (M6 s))]) (fun s => (sl_symMergeCmpFunc_int_j59) s = some r) (fun s h => ?_) (fun hK59 => ?_)
    ·obtain ⟨v76, rfl⟩ : ∃ x, x = s := ⟨s, rfl⟩
     have h : (sl_symMergeCmpFunc_int_j59) v76 = some r := h
     unfold sl_symMergeCmpFunc_int_j59 at h
     refine W.wk (env' := [(2000000, .obj 3 1 (M6 v76))]) ?_
     have hr : PostM Tryd.prog Tryd.f67 (.tup []) [(2000000, .obj 3 1 (M6 v76))] .ret [(2000000, .obj 3 1 (M6 v76))] := ⟨by kernel_rfl, by kernel_rfl⟩
     cases h
     exact W.ret hr
    refine W.seq ?_
    let z22 := fun t => z20 ((14, I6 v58) :: t)
    let z23 := fun t => z22 ((17, I6 a4) :: (2000000, .obj 3 1 (M6 a1)) :: t)
    refine W.rt (e2 := z23 []) ?_
    refine W.block ?_
    refine W.wk (env' := z23 []) ?_
    refine W.fuel (σ := ((List Int) × Int)) (fun s => z22 [(17, I6 s.2), (2000000, .obj 3 1 (M6 s.1))]) (fun m0 s => sl_symMergeCmpFunc_int_l4 n2 v58 (sl_symMergeCmpFunc_int_j59) m0 s.1 s.2 = some r) (fun s h => ?_) (fun m4 s h hN4 => ?_) fuel (a1, a4) h
    ·obtain ⟨v61, v62⟩ := s
     have h : sl_symMergeCmpFunc_int_l4 n2 v58 (sl_symMergeCmpFunc_int_j59) 0 v61 v62 = some r := h
     rw [sl_symMergeCmpFunc_int_l4.eq_1] at h
     cases h
    ·obtain ⟨v61, v62⟩ := s
     have h : sl_symMergeCmpFunc_int_l4 n2 v58 (sl_symMergeCmpFunc_int_j59) (m4 + 1) v61 v62 = some r := h
     rw [sl_symMergeCmpFunc_int_l4.eq_2] at h
     refine W.seq ?_
     refine W.seq ?_
     let z24 := fun t => z22 ((17, I6 v62) :: t)
     refine W.rt (e2 := z24 [(110, .bool (decide (v62 > v58))), (2000000, .obj 3 1 (M6 v61))]) ?_
     refine W.cb (decide (v62 > v58)) (fun hb => ?_) (fun hb => ?_)
     ·replace h := cond_t hb h
      refine W.skip ?_
      refine W.wk (env' := z24 [(2000000, .obj 3 1 (M6 v61))]) ?_
      refine W.seq ?_
      refine W.block ?_
      refine W.rg ?_
      obtain ⟨hc66, h⟩ := chk_some h
      let z25 := fun t => z24 ((113, .sb 2000000 3 1 0 n2) :: (114, I6 v62) :: (115, .sb 2000000 3 1 0 n2) :: (116, I6 v62) :: (117, I6 (W6 (v62 - 1))) :: (118, .sb 2000000 3 1 0 n2) :: (119, I6 v62) :: (120, I6 (W6 (v62 - 1))) :: (121, .pe 2000000 1 (0 + Int.toNat (W6 (v62 - 1))) 0) :: t)
      refine WO.pi 8 (v := .pe 2000000 1 (0 + Int.toNat (W6 (v62 - 1))) 0) hc66 (e1 := z25 [(2000000, .obj 3 1 (M6 v61))]) ?_
      obtain ⟨e67, he67, h⟩ := bind_some h
      let z26 := fun t => z25 ((122, I6 e67) :: t)
      refine WO.pk 0 (match (M6 v61)[(0 + Int.toNat (W6 (v62 - 1)))]? with | some y => cut Tryd.prog 3 (y.cells.map AV.strip) 0 | none => none) (v := I6 e67) ((pe_ld (f := (AV.int .i64)) (G := (fun y => cut Tryd.prog 3 (y.cells.map AV.strip) 0)) he67).trans (by kernel_rfl)) (e1 := z26 [(2000000, .obj 3 1 (M6 v61))]) ?_
      obtain ⟨hc68, h⟩ := chk_some h
      let z27 := fun t => z26 ((123, .sb 2000000 3 1 0 n2) :: (124, I6 v62) :: (125, .pe 2000000 1 (0 + Int.toNat v62) 0) :: t)
      refine WO.pi 2 (v := .pe 2000000 1 (0 + Int.toNat v62) 0) hc68 (e1 := z27 [(2000000, .obj 3 1 (M6 v61))]) ?_
      obtain ⟨e69, he69, h⟩ := bind_some h
      let z28 := fun t => z27 ((126, I6 e69) :: t)
      refine WO.pk 0 (match (M6 v61)[(0 + Int.toNat v62)]? with | some y => cut Tryd.prog 3 (y.cells.map AV.strip) 0 | none => none) (v := I6 e69) ((pe_ld (f := (AV.int .i64)) (G := (fun y => cut Tryd.prog 3 (y.cells.map AV.strip) 0)) he69).trans (by kernel_rfl)) (e1 := z28 [(2000000, .obj 3 1 (M6 v61))]) ?_
      obtain ⟨hc70, h⟩ := chk_some h
      let z29 := fun t => z28 ((127, .pe 2000000 1 (0 + Int.toNat v62) 0) :: t)
      refine WO.pi 0 (v := .pe 2000000 1 (0 + Int.toNat v62) 0) hc70 (e1 := z29 [(2000000, .obj 3 1 (M6 v61))]) ?_
      obtain ⟨u71, hu71, h⟩ := bind_some h
      obtain ⟨y72, hyy72, hzy72⟩ := upd_some hu71
      refine WO.sk 0 (id := 2000000) (e := 3) (s := 1) (off := 0) (vs := [I6 e67]) (AV.int .i64) hyy72 hzy72 (e1 := z29 [(2000000, .obj 3 1 (M6 u71))]) ?_
      obtain ⟨hc73, h⟩ := chk_some h
      let z30 := fun t => z29 ((128, .pe 2000000 1 (0 + Int.toNat (W6 (v62 - 1))) 0) :: t)
      refine WO.pi 0 (v := .pe 2000000 1 (0 + Int.toNat (W6 (v62 - 1))) 0) hc73 (e1 := z30 [(2000000, .obj 3 1 (M6 u71))]) ?_
      obtain ⟨u74, hu74, h⟩ := bind_some h
      obtain ⟨y75, hyy75, hzy75⟩ := upd_some hu74
      refine WO.sk 0 (id := 2000000) (e := 3) (s := 1) (off := 0) (vs := [I6 e69]) (AV.int .i64) hyy75 hzy75 (e1 := z30 [(2000000, .obj 3 1 (M6 u74))]) ?_
      refine WO.fn (e2 := z24 [(2000000, .obj 3 1 (M6 u74))]) ?_
      refine W.rt (e2 := z22 [(17, I6 (W6 (v62 - 1))), (2000000, .obj 3 1 (M6 u74))]) ?_
      exact hN4 (u74, (W6 (v62 - 1))) h
     replace h := cond_f hb h
     refine W.exit ?_
     refine W.wk (env' := [(2000000, .obj 3 1 (M6 v61))]) ?_
     exact hK59 v61 h
   refine W.block ?_
   refine W.wk (env' := z19 []) ?_
   refine W.fuel (σ := (Int × Int)) (fun s => z18 [(14, I6 s.1), (15, I6 s.2), (2000000, .obj 3 1 (M6 a1))]) (fun m0 s => sl_symMergeCmpFunc_int_l3 a1 n2 a4 g6 (sl_symMergeCmpFunc_int_j46 fuel a1 n2 a4) m0 s.1 s.2 = some r) (fun s h => ?_) (fun m3 s h hN3 => ?_) fuel (a3, a4) h
   ·obtain ⟨v47, v48⟩ := s
    have h : sl_symMergeCmpFunc_int_l3 a1 n2 a4 g6 (sl_symMergeCmpFunc_int_j46 fuel a1 n2 a4) 0 v47 v48 = some r := h
    rw [sl_symMergeCmpFunc_int_l3.eq_1] at h
    cases h
   ·obtain ⟨v47, v48⟩ := s
    have h : sl_symMergeCmpFunc_int_l3 a1 n2 a4 g6 (sl_symMergeCmpFunc_int_j46 fuel a1 n2 a4) (m3 + 1) v47 v48 = some r := h
    rw [sl_symMergeCmpFunc_int_l3.eq_2] at h
    refine W.seq ?_
    refine W.seq ?_
    let z31 := fun t => z18 ((14, I6 v47) :: (15, I6 v48) :: t)
    refine W.rt (e2 := z31 [(85, .bool (decide (v47 < v48))), (2000000, .obj 3 1 (M6 a1))]) ?_
    refine W.cb (decide (v47 < v48)) (fun hb => ?_) (fun hb => ?_)
    ·replace h := cond_t hb h
     refine W.skip ?_
     refine W.wk (env' := z31 [(2000000, .obj 3 1 (M6 a1))]) ?_
     refine W.block ?_
     refine W.seq ?_
     let z32 := fun t => z31 ((16, I6 (W6 (iShr .u64 (IntKind.wrap .u64 (W6 (v47 + v48))) 1))) :: t)
     refine W.rt (e2 := z32 [(2000000, .obj 3 1 (M6 a1))]) ?_
     refine W.seq ?_
     refine W.rg ?_
     obtain ⟨hc53, h⟩ := chk_some h
     let z33 := fun t => z32 ((92, .clo F_g6 C_g6) :: (93, .sb 2000000 3 1 0 n2) :: (94, I6 a4) :: (95, .pe 2000000 1 (0 + Int.toNat a4) 0) :: t)
     refine WO.pi 3 (v := .pe 2000000 1 (0 + Int.toNat a4) 0) hc53 (e1 := z33 [(2000000, .obj 3 1 (M6 a1))]) ?_
     obtain ⟨e54, he54, h⟩ := bind_some h
     refine WO.pk 0 (match (M6 a1)[(0 + Int.toNat a4)]? with | some y => cut Tryd.prog 3 (y.cells.map AV.strip) 0 | none => none) (v := I6 e54) ((pe_ld (f := (AV.int .i64)) (G := (fun y => cut Tryd.prog 3 (y.cells.map AV.strip) 0)) he54).trans (by kernel_rfl)) (e1 := z33 [(96, I6 e54), (2000000, .obj 3 1 (M6 a1))]) ?_
     obtain ⟨hc55, h⟩ := chk_some h
     let z34 := fun t => z33 ((96, I6 e54) :: (97, .sb 2000000 3 1 0 n2) :: (98, I6 (W6 (iShr .u64 (IntKind.wrap .u64 (W6 (v47 + v48))) 1))) :: (99, .pe 2000000 1 (0 + Int.toNat (W6 (iShr .u64 (IntKind.wrap .u64 (W6 (v47 + v48))) 1))) 0) :: t)
     refine WO.pi 2 (v := .pe 2000000 1 (0 + Int.toNat (W6 (iShr .u64 (IntKind.wrap .u64 (W6 (v47 + v48))) 1))) 0) hc55 (e1 := z34 [(2000000, .obj 3 1 (M6 a1))]) ?_
     obtain ⟨e56, he56, h⟩ := bind_some h
     refine WO.pk 0 (match (M6 a1)[(0 + Int.toNat (W6 (iShr .u64 (IntKind.wrap .u64 (W6 (v47 + v48))) 1)))]? with | some y => cut Tryd.prog 3 (y.cells.map AV.strip) 0 | none => none) (v := I6 e56) ((pe_ld (f := (AV.int .i64)) (G := (fun y => cut Tryd.prog 3 (y.cells.map AV.strip) 0)) he56).trans (by kernel_rfl)) (e1 := z34 [(100, I6 e56), (2000000, .obj 3 1 (M6 a1))]) ?_
     obtain ⟨w57, hw57, h⟩ := bind_some h
     refine WO.callK 0 (F := F_g6) (l := [I6 e54, I6 e56]) (C := C_g6) (r := I6 w57) (by kernel_rfl) hok_g6 (hrun_g6 e54 e56 w57 hw57) (e1 := z34 [(100, I6 e56), (101, I6 w57), (2000000, .obj 3 1 (M6 a1))]) (by kernel_rfl) ?_
     refine WO.fn (e2 := z32 [(103, .bool (!(decide (w57 < 0)))), (2000000, .obj 3 1 (M6 a1))]) ?_
     refine W.cb (!(decide (w57 < 0))) (fun hb => ?_) (fun hb => ?_)
     ·replace h := cond_t hb h
      refine W.rt (e2 := z18 [(14, I6 (W6 ((W6 (iShr .u64 (IntKind.wrap .u64 (W6 (v47 + v48))) 1)) + 1))), (15, I6 v48), (2000000, .obj 3 1 (M6 a1))]) ?_
      exact hN3 ((W6 ((W6 (iShr .u64 (IntKind.wrap .u64 (W6 (v47 + v48))) 1)) + 1)), v48) h
     replace h := cond_f hb h
     refine W.rt (e2 := z18 [(14, I6 v47), (15, I6 (W6 (iShr .u64 (IntKind.wrap .u64 (W6 (v47 + v48))) 1))), (2000000, .obj 3 1 (M6 a1))]) ?_
     exact hN3 (v47, (W6 (iShr .u64 (IntKind.wrap .u64 (W6 (v47 + v48))) 1))) h
    replace h := cond_f hb h
    refine W.exit ?_
    refine W.wk (env' := z21 [(14, I6 v47), (2000000, .obj 3 1 (M6 a1))]) ?_
    exact hK46 v47 h
  replace h := cond_f hb h
  refine W.skip ?_
  refine W.wk (env' := z0 [(2000000, .obj 3 1 (M6 a1))]) ?_
  refine W.seq ?_
  let z35 := fun t => z0 ((18, I6 (W6 (iShr .u64 (IntKind.wrap .u64 (W6 (a3 + a5))) 1))) :: t)
  refine W.rt (e2 := z35 [(2000000, .obj 3 1 (M6 a1))]) ?_
  refine W.seq ?_
  let z36 := fun t => z35 ((19, I6 (W6 ((W6 (iShr .u64 (IntKind.wrap .u64 (W6 (a3 + a5))) 1)) + a4))) :: t)
  refine W.rt (e2 := z36 [(2000000, .obj 3 1 (M6 a1))]) ?_
  refine W.seq ?_
  refine W.rt (e2 := z36 [(2000000, .obj 3 1 (M6 a1))]) ?_
  refine W.seq ?_
  refine W.join (σ := (Int × Int)) (fun s => z36 [(20, I6 s.1), (21, I6 s.2), (2000000, .obj 3 1 (M6 a1))]) (fun s => (sl_symMergeCmpFunc_int_j80 fuel a1 n2 a3 a4 a5 g6 (sl_symMergeCmpFunc_int fuel)) s.1 s.2 = some r) (fun s h => ?_) (fun hK80 => ?_)
  ·obtain ⟨v84, v85⟩ := s
   have h : (sl_symMergeCmpFunc_int_j80 fuel a1 n2 a3 a4 a5 g6 (sl_symMergeCmpFunc_int fuel)) v84 v85 = some r := h
   unfold sl_symMergeCmpFunc_int_j80 at h
   refine W.seq ?_
   let z37 := fun t => z36 ((20, I6 v84) :: (21, I6 v85) :: (22, I6 (W6 ((W6 ((W6 (iShr .u64 (IntKind.wrap .u64 (W6 (a3 + a5))) 1)) + a4)) - 1))) :: (2000000, .obj 3 1 (M6 a1)) :: t)
   refine W.rt (e2 := z37 []) ?_
   refine W.seq ?_
   refine W.join (σ := (Int)) (fun s => z36 [(20, I6 s), (2000000, .obj 3 1 (M6 a1))]) (fun s => (sl_symMergeCmpFunc_int_j87 fuel a1 n2 a3 a4 a5 g6 (sl_symMergeCmpFunc_int fuel)) s = some r) (fun s h => ?_) (fun hK87 => ?_)
   ·obtain ⟨v99, rfl⟩ : ∃ x, x = s := ⟨s, rfl⟩
    have h : (sl_symMergeCmpFunc_int_j87 fuel a1 n2 a3 a4 a5 g6 (sl_symMergeCmpFunc_int fuel)) v99 = some r := h
    unfold sl_symMergeCmpFunc_int_j87 at h
    refine W.seq ?_
    let z38 := fun t => z35 ((20, I6 v99) :: (24, I6 (W6 ((W6 ((W6 (iShr .u64 (IntKind.wrap .u64 (W6 (a3 + a5))) 1)) + a4)) - v99))) :: t)
    refine W.rt (e2 := z38 [(2000000, .obj 3 1 (M6 a1))]) ?_
    refine W.seq ?_
    let z39 := fun t => EN ((0, .sb 2000000 3 1 0 n2) :: (1, I6 a3) :: (3, I6 a5) :: (4, .clo F_g6 C_g6) :: (18, I6 (W6 (iShr .u64 (IntKind.wrap .u64 (W6 (a3 + a5))) 1))) :: (20, I6 v99) :: (24, I6 (W6 ((W6 ((W6 (iShr .u64 (IntKind.wrap .u64 (W6 (a3 + a5))) 1)) + a4)) - v99))) :: t)
    refine W.join (σ := ((List Int))) (fun s => z39 [(2000000, .obj 3 1 (M6 s))]) (fun s => (sl_symMergeCmpFunc_int_j101 n2 a3 a4 a5 g6 v99 (sl_symMergeCmpFunc_int fuel)) s = some r) (fun s h => ?_) (fun hK101 => ?_)
    ·obtain ⟨v105, rfl⟩ : ∃ x, x = s := ⟨s, rfl⟩
     have h : (sl_symMergeCmpFunc_int_j101 n2 a3 a4 a5 g6 v99 (sl_symMergeCmpFunc_int fuel)) v105 = some r := h
     unfold sl_symMergeCmpFunc_int_j101 at h
     refine W.seq ?_
     let z40 := fun t => EN ((0, .sb 2000000 3 1 0 n2) :: (3, I6 a5) :: (4, .clo F_g6 C_g6) :: (18, I6 (W6 (iShr .u64 (IntKind.wrap .u64 (W6 (a3 + a5))) 1))) :: (24, I6 (W6 ((W6 ((W6 (iShr .u64 (IntKind.wrap .u64 (W6 (a3 + a5))) 1)) + a4)) - v99))) :: t)
     refine W.join (σ := ((List Int))) (fun s => z40 [(2000000, .obj 3 1 (M6 s))]) (fun s => (sl_symMergeCmpFunc_int_j106 n2 a3 a4 a5 g6 v99 (sl_symMergeCmpFunc_int fuel)) s = some r) (fun s h => ?_) (fun hK106 => ?_)
     ·obtain ⟨v110, rfl⟩ : ∃ x, x = s := ⟨s, rfl⟩
      have h : (sl_symMergeCmpFunc_int_j106 n2 a3 a4 a5 g6 v99 (sl_symMergeCmpFunc_int fuel)) v110 = some r := h
      unfold sl_symMergeCmpFunc_int_j106 at h
      refine W.seq ?_
      refine W.join (σ := (Bool)) (fun s => z40 [(213, .bool s), (2000000, .obj 3 1 (M6 v110))]) (fun s => (sl_symMergeCmpFunc_int_j111 n2 a3 a4 a5 g6 v99 v110 (sl_symMergeCmpFunc_int fuel)) s = some r) (fun s h => ?_) (fun hK111 => ?_)
      ·obtain ⟨v112, rfl⟩ : ∃ x, x = s := ⟨s, rfl⟩
       have h : (sl_symMergeCmpFunc_int_j111 n2 a3 a4 a5 g6 v99 v110 (sl_symMergeCmpFunc_int fuel)) v112 = some r := h
       unfold sl_symMergeCmpFunc_int_j111 at h
       refine W.cb v112 (fun hb => ?_) (fun hb => ?_)
       ·replace h := cond_t hb h
        refine W.rg ?_
        obtain ⟨w113, hw113, h⟩ := bind_some h
        let z41 := fun t => z40 ((213, .bool v112) :: (214, .sb 2000000 3 1 0 n2) :: (215, I6 (W6 (iShr .u64 (IntKind.wrap .u64 (W6 (a3 + a5))) 1))) :: (216, I6 (W6 ((W6 ((W6 (iShr .u64 (IntKind.wrap .u64 (W6 (a3 + a5))) 1)) + a4)) - v99))) :: (217, I6 a5) :: (218, .clo F_g6 C_g6) :: (219, .tup []) :: (2000000, .obj 3 1 (M6 w113)) :: t)
        refine WO.cm 5 [(2000000, 2000000)] [] (F := 67) (args := [.sb 2000000 3 1 0 n2, I6 (W6 (iShr .u64 (IntKind.wrap .u64 (W6 (a3 + a5))) 1)), I6 (W6 ((W6 ((W6 (iShr .u64 (IntKind.wrap .u64 (W6 (a3 + a5))) 1)) + a4)) - v99)), I6 a5, .clo F_g6 C_g6]) (hp := [(2000000, .obj 3 1 (M6 v110))]) (hp2 := [(2000000, .obj 3 1 (M6 w113))]) (r := .tup []) (ih v110 n2 (W6 (iShr .u64 (IntKind.wrap .u64 (W6 (a3 + a5))) 1)) (W6 ((W6 ((W6 (iShr .u64 (IntKind.wrap .u64 (W6 (a3 + a5))) 1)) + a4)) - v99)) a5 g6 F_g6 C_g6 hok_g6 hrun_g6 w113 hw113) (e1 := z41 []) ?_
        refine WO.end0 (e2 := z41 []) (by kernel_rfl) ?_
        have hr : PostM Tryd.prog Tryd.f67 (.tup []) [(2000000, .obj 3 1 (M6 w113))] .normal (z41 []) := ⟨by kernel_rfl, by kernel_rfl⟩
        cases h
        exact hr
       replace h := cond_f hb h
       have hr : PostM Tryd.prog Tryd.f67 (.tup []) [(2000000, .obj 3 1 (M6 v110))] .normal (z40 [(213, .bool v112), (2000000, .obj 3 1 (M6 v110))]) := ⟨by kernel_rfl, by kernel_rfl⟩
       cases h
       exact W.skip hr
      refine W.rg ?_
      refine WO.bk 4 (fun b => z40 [(206, I6 (W6 (iShr .u64 (IntKind.wrap .u64 (W6 (a3 + a5))) 1))), (207, I6 (W6 ((W6 ((W6 (iShr .u64 (IntKind.wrap .u64 (W6 (a3 + a5))) 1)) + a4)) - v99))), (208, .bool b), (209, .bool b), (2000000, .obj 3 1 (M6 v110))]) (decide ((W6 (iShr .u64 (IntKind.wrap .u64 (W6 (a3 + a5))) 1)) < (W6 ((W6 ((W6 (iShr .u64 (IntKind.wrap .u64 (W6 (a3 + a5))) 1)) + a4)) - v99)))) (fun hb => ?_) (fun hb => ?_)
      ·replace h := cond_t hb h
       refine WO.fn (e2 := z40 [(213, .bool (decide ((W6 ((W6 ((W6 (iShr .u64 (IntKind.wrap .u64 (W6 (a3 + a5))) 1)) + a4)) - v99)) < a5))), (2000000, .obj 3 1 (M6 v110))]) ?_
       exact hK111 (decide ((W6 ((W6 ((W6 (iShr .u64 (IntKind.wrap .u64 (W6 (a3 + a5))) 1)) + a4)) - v99)) < a5)) h
      replace h := cond_f hb h
      refine WO.fn (e2 := z40 [(213, .bool false), (2000000, .obj 3 1 (M6 v110))]) ?_
      exact hK111 false h
     refine W.seq ?_
     refine W.join (σ := (Bool)) (fun s => z39 [(199, .bool s), (2000000, .obj 3 1 (M6 v105))]) (fun s => (sl_symMergeCmpFunc_int_j107 n2 a3 a5 g6 v99 v105 (sl_symMergeCmpFunc_int fuel) (sl_symMergeCmpFunc_int_j106 n2 a3 a4 a5 g6 v99 (sl_symMergeCmpFunc_int fuel))) s = some r) (fun s h => ?_) (fun hK107 => ?_)
     ·obtain ⟨v108, rfl⟩ : ∃ x, x = s := ⟨s, rfl⟩
      have h : (sl_symMergeCmpFunc_int_j107 n2 a3 a5 g6 v99 v105 (sl_symMergeCmpFunc_int fuel) (sl_symMergeCmpFunc_int_j106 n2 a3 a4 a5 g6 v99 (sl_symMergeCmpFunc_int fuel))) v108 = some r := h
      unfold sl_symMergeCmpFunc_int_j107 at h
      refine W.cb v108 (fun hb => ?_) (fun hb => ?_)
      ·replace h := cond_t hb h
       refine W.rg ?_
       obtain ⟨w109, hw109, h⟩ := bind_some h
       refine WO.cm 5 [(2000000, 2000000)] [] (F := 67) (args := [.sb 2000000 3 1 0 n2, I6 a3, I6 v99, I6 (W6 (iShr .u64 (IntKind.wrap .u64 (W6 (a3 + a5))) 1)), .clo F_g6 C_g6]) (hp := [(2000000, .obj 3 1 (M6 v105))]) (hp2 := [(2000000, .obj 3 1 (M6 w109))]) (r := .tup []) (ih v105 n2 a3 v99 (W6 (iShr .u64 (IntKind.wrap .u64 (W6 (a3 + a5))) 1)) g6 F_g6 C_g6 hok_g6 hrun_g6 w109 hw109) (e1 := z39 [(199, .bool v108), (200, .sb 2000000 3 1 0 n2), (201, I6 a3), (202, I6 v99), (203, I6 (W6 (iShr .u64 (IntKind.wrap .u64 (W6 (a3 + a5))) 1))), (204, .clo F_g6 C_g6), (205, .tup []), (2000000, .obj 3 1 (M6 w109))]) ?_
       refine WO.fn (e2 := z40 [(2000000, .obj 3 1 (M6 w109))]) ?_
       exact hK106 w109 h
      replace h := cond_f hb h
      refine W.skip ?_
      refine W.wk (env' := z40 [(2000000, .obj 3 1 (M6 v105))]) ?_
      exact hK106 v105 h
     refine W.rg ?_
     refine WO.bk 4 (fun b => z39 [(192, I6 a3), (193, I6 v99), (194, .bool b), (195, .bool b), (2000000, .obj 3 1 (M6 v105))]) (decide (a3 < v99)) (fun hb => ?_) (fun hb => ?_)
     ·replace h := cond_t hb h
      refine WO.fn (e2 := z39 [(199, .bool (decide (v99 < (W6 (iShr .u64 (IntKind.wrap .u64 (W6 (a3 + a5))) 1))))), (2000000, .obj 3 1 (M6 v105))]) ?_
      exact hK107 (decide (v99 < (W6 (iShr .u64 (IntKind.wrap .u64 (W6 (a3 + a5))) 1)))) h
     replace h := cond_f hb h
     refine WO.fn (e2 := z39 [(199, .bool false), (2000000, .obj 3 1 (M6 v105))]) ?_
     exact hK107 false h
    refine W.seq ?_
    refine W.join (σ := (Bool)) (fun s => z38 [(185, .bool s), (2000000, .obj 3 1 (M6 a1))]) (fun s => (sl_symMergeCmpFunc_int_j102 fuel a1 n2 a3 a4 a5 g6 v99 (sl_symMergeCmpFunc_int_j101 n2 a3 a4 a5 g6 v99 (sl_symMergeCmpFunc_int fuel))) s = some r) (fun s h => ?_) (fun hK102 => ?_)
    ·obtain ⟨v103, rfl⟩ : ∃ x, x = s := ⟨s, rfl⟩
     have h : (sl_symMergeCmpFunc_int_j102 fuel a1 n2 a3 a4 a5 g6 v99 (sl_symMergeCmpFunc_int_j101 n2 a3 a4 a5 g6 v99 (sl_symMergeCmpFunc_int fuel))) v103 = some r := h
     unfold sl_symMergeCmpFunc_int_j102 at h
     refine W.cb v103 (fun hb => ?_) (fun hb => ?_)
     ·replace h := cond_t hb h
      refine W.rg ?_
      obtain ⟨w104, hw104, h⟩ := bind_some h
      refine WO.cm 5 [(2000000, 2000000)] [] (F := 91) (args := [.sb 2000000 3 1 0 n2, I6 v99, I6 a4, I6 (W6 ((W6 ((W6 (iShr .u64 (IntKind.wrap .u64 (W6 (a3 + a5))) 1)) + a4)) - v99)), .clo F_g6 C_g6]) (hp := [(2000000, .obj 3 1 (M6 a1))]) (hp2 := [(2000000, .obj 3 1 (M6 w104))]) (r := .tup []) (run_sl_rotateCmpFunc_int fuel a1 n2 v99 a4 (W6 ((W6 ((W6 (iShr .u64 (IntKind.wrap .u64 (W6 (a3 + a5))) 1)) + a4)) - v99)) g6 F_g6 C_g6 hok_g6 hrun_g6 w104 hw104) (e1 := z38 [(185, .bool v103), (186, .sb 2000000 3 1 0 n2), (187, I6 v99), (188, I6 a4), (189, I6 (W6 ((W6 ((W6 (iShr .u64 (IntKind.wrap .u64 (W6 (a3 + a5))) 1)) + a4)) - v99))), (190, .clo F_g6 C_g6), (191, .tup []), (2000000, .obj 3 1 (M6 w104))]) ?_
      refine WO.fn (e2 := z39 [(2000000, .obj 3 1 (M6 w104))]) ?_
      exact hK101 w104 h
     replace h := cond_f hb h
     refine W.skip ?_
     refine W.wk (env' := z39 [(2000000, .obj 3 1 (M6 a1))]) ?_
     exact hK101 a1 h
    refine W.rg ?_
    refine WO.bk 4 (fun b => z38 [(178, I6 v99), (179, I6 a4), (180, .bool b), (181, .bool b), (2000000, .obj 3 1 (M6 a1))]) (decide (v99 < a4)) (fun hb => ?_) (fun hb => ?_)
    ·replace h := cond_t hb h
     refine WO.fn (e2 := z38 [(185, .bool (decide (a4 < (W6 ((W6 ((W6 (iShr .u64 (IntKind.wrap .u64 (W6 (a3 + a5))) 1)) + a4)) - v99))))), (2000000, .obj 3 1 (M6 a1))]) ?_
     exact hK102 (decide (a4 < (W6 ((W6 ((W6 (iShr .u64 (IntKind.wrap .u64 (W6 (a3 + a5))) 1)) + a4)) - v99)))) h
    replace h := cond_f hb h
    refine WO.fn (e2 := z38 [(185, .bool false), (2000000, .obj 3 1 (M6 a1))]) ?_
    exact hK102 false h
   refine W.block ?_
   refine W.wk (env' := z37 []) ?_
   refine W.fuel (σ := (Int × Int)) (fun s => z36 [(20, I6 s.1), (21, I6 s.2), (22, I6 (W6 ((W6 ((W6 (iShr .u64 (IntKind.wrap .u64 (W6 (a3 + a5))) 1)) + a4)) - 1))), (2000000, .obj 3 1 (M6 a1))]) (fun m0 s => sl_symMergeCmpFunc_int_l5 a1 n2 a3 a4 a5 g6 (sl_symMergeCmpFunc_int_j87 fuel a1 n2 a3 a4 a5 g6 (sl_symMergeCmpFunc_int fuel)) m0 s.1 s.2 = some r) (fun s h => ?_) (fun m5 s h hN5 => ?_) fuel (v84, v85) h
   ·obtain ⟨v88, v89⟩ := s
    have h : sl_symMergeCmpFunc_int_l5 a1 n2 a3 a4 a5 g6 (sl_symMergeCmpFunc_int_j87 fuel a1 n2 a3 a4 a5 g6 (sl_symMergeCmpFunc_int fuel)) 0 v88 v89 = some r := h
    rw [sl_symMergeCmpFunc_int_l5.eq_1] at h
    cases h
   ·obtain ⟨v88, v89⟩ := s
    have h : sl_symMergeCmpFunc_int_l5 a1 n2 a3 a4 a5 g6 (sl_symMergeCmpFunc_int_j87 fuel a1 n2 a3 a4 a5 g6 (sl_symMergeCmpFunc_int fuel)) (m5 + 1) v88 v89 = some r := h
    rw [sl_symMergeCmpFunc_int_l5.eq_2] at h
    refine W.seq ?_
    refine W.seq ?_
    let z42 := fun t => z36 ((20, I6 v88) :: (21, I6 v89) :: (22, I6 (W6 ((W6 ((W6 (iShr .u64 (IntKind.wrap .u64 (W6 (a3 + a5))) 1)) + a4)) - 1))) :: t)
    refine W.rt (e2 := z42 [(151, .bool (decide (v88 < v89))), (2000000, .obj 3 1 (M6 a1))]) ?_
    refine W.cb (decide (v88 < v89)) (fun hb => ?_) (fun hb => ?_)
    ·replace h := cond_t hb h
     refine W.skip ?_
     refine W.wk (env' := z42 [(2000000, .obj 3 1 (M6 a1))]) ?_
     refine W.block ?_
     refine W.seq ?_
     let z43 := fun t => z42 ((23, I6 (W6 (iShr .u64 (IntKind.wrap .u64 (W6 (v88 + v89))) 1))) :: t)
     refine W.rt (e2 := z43 [(2000000, .obj 3 1 (M6 a1))]) ?_
     refine W.seq ?_
     refine W.rg ?_
     obtain ⟨hc94, h⟩ := chk_some h
     let z44 := fun t => z43 ((158, .clo F_g6 C_g6) :: (159, .sb 2000000 3 1 0 n2) :: (160, I6 (W6 ((W6 ((W6 (iShr .u64 (IntKind.wrap .u64 (W6 (a3 + a5))) 1)) + a4)) - 1))) :: (161, I6 (W6 (iShr .u64 (IntKind.wrap .u64 (W6 (v88 + v89))) 1))) :: (162, I6 (W6 ((W6 ((W6 ((W6 (iShr .u64 (IntKind.wrap .u64 (W6 (a3 + a5))) 1)) + a4)) - 1)) - (W6 (iShr .u64 (IntKind.wrap .u64 (W6 (v88 + v89))) 1))))) :: (163, .pe 2000000 1 (0 + Int.toNat (W6 ((W6 ((W6 ((W6 (iShr .u64 (IntKind.wrap .u64 (W6 (a3 + a5))) 1)) + a4)) - 1)) - (W6 (iShr .u64 (IntKind.wrap .u64 (W6 (v88 + v89))) 1))))) 0) :: t)
     refine WO.pi 5 (v := .pe 2000000 1 (0 + Int.toNat (W6 ((W6 ((W6 ((W6 (iShr .u64 (IntKind.wrap .u64 (W6 (a3 + a5))) 1)) + a4)) - 1)) - (W6 (iShr .u64 (IntKind.wrap .u64 (W6 (v88 + v89))) 1))))) 0) hc94 (e1 := z44 [(2000000, .obj 3 1 (M6 a1))]) ?_
     obtain ⟨e95, he95, h⟩ := bind_some h
     let z45 := fun t => z44 ((164, I6 e95) :: t)
     refine WO.pk 0 (match (M6 a1)[(0 + Int.toNat (W6 ((W6 ((W6 ((W6 (iShr .u64 (IntKind.wrap .u64 (W6 (a3 + a5))) 1)) + a4)) - 1)) - (W6 (iShr .u64 (IntKind.wrap .u64 (W6 (v88 + v89))) 1)))))]? with | some y => cut Tryd.prog 3 (y.cells.map AV.strip) 0 | none => none) (v := I6 e95) ((pe_ld (f := (AV.int .i64)) (G := (fun y => cut Tryd.prog 3 (y.cells.map AV.strip) 0)) he95).trans (by kernel_rfl)) (e1 := z45 [(2000000, .obj 3 1 (M6 a1))]) ?_
     obtain ⟨hc96, h⟩ := chk_some h
     let z46 := fun t => z45 ((165, .sb 2000000 3 1 0 n2) :: (166, I6 (W6 (iShr .u64 (IntKind.wrap .u64 (W6 (v88 + v89))) 1))) :: (167, .pe 2000000 1 (0 + Int.toNat (W6 (iShr .u64 (IntKind.wrap .u64 (W6 (v88 + v89))) 1))) 0) :: t)
     refine WO.pi 2 (v := .pe 2000000 1 (0 + Int.toNat (W6 (iShr .u64 (IntKind.wrap .u64 (W6 (v88 + v89))) 1))) 0) hc96 (e1 := z46 [(2000000, .obj 3 1 (M6 a1))]) ?_
     obtain ⟨e97, he97, h⟩ := bind_some h
     refine WO.pk 0 (match (M6 a1)[(0 + Int.toNat (W6 (iShr .u64 (IntKind.wrap .u64 (W6 (v88 + v89))) 1)))]? with | some y => cut Tryd.prog 3 (y.cells.map AV.strip) 0 | none => none) (v := I6 e97) ((pe_ld (f := (AV.int .i64)) (G := (fun y => cut Tryd.prog 3 (y.cells.map AV.strip) 0)) he97).trans (by kernel_rfl)) (e1 := z46 [(168, I6 e97), (2000000, .obj 3 1 (M6 a1))]) ?_
     obtain ⟨w98, hw98, h⟩ := bind_some h
     refine WO.callK 0 (F := F_g6) (l := [I6 e95, I6 e97]) (C := C_g6) (r := I6 w98) (by kernel_rfl) hok_g6 (hrun_g6 e95 e97 w98 hw98) (e1 := z46 [(168, I6 e97), (169, I6 w98), (2000000, .obj 3 1 (M6 a1))]) (by kernel_rfl) ?_
     refine WO.fn (e2 := z43 [(171, .bool (!(decide (w98 < 0)))), (2000000, .obj 3 1 (M6 a1))]) ?_
     refine W.cb (!(decide (w98 < 0))) (fun hb => ?_) (fun hb => ?_)
     ·replace h := cond_t hb h
      refine W.rt (e2 := z36 [(20, I6 (W6 ((W6 (iShr .u64 (IntKind.wrap .u64 (W6 (v88 + v89))) 1)) + 1))), (21, I6 v89), (22, I6 (W6 ((W6 ((W6 (iShr .u64 (IntKind.wrap .u64 (W6 (a3 + a5))) 1)) + a4)) - 1))), (2000000, .obj 3 1 (M6 a1))]) ?_
      exact hN5 ((W6 ((W6 (iShr .u64 (IntKind.wrap .u64 (W6 (v88 + v89))) 1)) + 1)), v89) h
     replace h := cond_f hb h
     refine W.rt (e2 := z36 [(20, I6 v88), (21, I6 (W6 (iShr .u64 (IntKind.wrap .u64 (W6 (v88 + v89))) 1))), (22, I6 (W6 ((W6 ((W6 (iShr .u64 (IntKind.wrap .u64 (W6 (a3 + a5))) 1)) + a4)) - 1))), (2000000, .obj 3 1 (M6 a1))]) ?_
     exact hN5 (v88, (W6 (iShr .u64 (IntKind.wrap .u64 (W6 (v88 + v89))) 1))) h
    replace h := cond_f hb h
    refine W.exit ?_
    refine W.wk (env' := z36 [(20, I6 v88), (2000000, .obj 3 1 (M6 a1))]) ?_
    exact hK87 v88 h
  refine W.seq ?_
  refine W.rt (e2 := z36 [(140, .bool (decide (a4 > (W6 (iShr .u64 (IntKind.wrap .u64 (W6 (a3 + a5))) 1))))), (2000000, .obj 3 1 (M6 a1))]) ?_
  refine W.cb (decide (a4 > (W6 (iShr .u64 (IntKind.wrap .u64 (W6 (a3 + a5))) 1)))) (fun hb => ?_) (fun hb => ?_)
  ·replace h := cond_t hb h
   refine W.seq ?_
   let z47 := fun t => z36 ((20, I6 (W6 ((W6 ((W6 (iShr .u64 (IntKind.wrap .u64 (W6 (a3 + a5))) 1)) + a4)) - a5))) :: t)
   refine W.rt (e2 := z47 [(2000000, .obj 3 1 (M6 a1))]) ?_
   refine W.rt (e2 := z47 [(21, I6 (W6 (iShr .u64 (IntKind.wrap .u64 (W6 (a3 + a5))) 1))), (2000000, .obj 3 1 (M6 a1))]) ?_
   exact hK80 ((W6 ((W6 ((W6 (iShr .u64 (IntKind.wrap .u64 (W6 (a3 + a5))) 1)) + a4)) - a5)), (W6 (iShr .u64 (IntKind.wrap .u64 (W6 (a3 + a5))) 1))) h
  replace h := cond_f hb h
  refine W.seq ?_
  refine W.rt (e2 := z36 [(20, I6 a3), (2000000, .obj 3 1 (M6 a1))]) ?_
  refine W.rt (e2 := z36 [(20, I6 a3), (21, I6 a4), (2000000, .obj 3 1 (M6 a1))]) ?_
  exact hK80 (a3, a4) h
def sl_stableCmpFunc_int_j36 (v21 : Int) (N2 : ((List Int) → Int → Option (List Int))) (v40 : (List Int)) : Option (List Int) :=
 (N2 v40 (IntKind.wrap .i64 (v21 * 2)))
def sl_stableCmpFunc_int_j25 (fuel : Nat) (n2 : Nat) (a3 : Int) (g4 : (Int → Int → Option Int)) (v21 : Int) (N2 : ((List Int) → Int → Option (List Int))) (v34 : (List Int)) (v35 : Int) : Option (List Int) :=
 (bif (decide ((IntKind.wrap .i64 (v35 + v21)) < a3)) then ((sl_symMergeCmpFunc_int fuel v34 n2 v35 (IntKind.wrap .i64 (v35 + v21)) a3 g4).bind fun w39 => ((sl_stableCmpFunc_int_j36 v21 N2) w39)) else ((sl_stableCmpFunc_int_j36 v21 N2) v34))
def sl_stableCmpFunc_int_l3 (fuel : Nat) (n2 : Nat) (a3 : Int) (g4 : (Int → Int → Option Int)) (v21 : Int) (K25 : ((List Int) → Int → Option (List Int))) : Nat → (List Int) → Int → Int → Option (List Int)
 | 0, _, _, _ => none
 | m3 + 1, v26, v27, v28 => (bif (decide (v28 ≤ a3)) then ((sl_symMergeCmpFunc_int fuel v26 n2 v27 (IntKind.wrap .i64 (v27 + v21)) v28 g4).bind fun w32 => ((sl_stableCmpFunc_int_l3 fuel n2 a3 g4 v21 K25 m3) w32 v28 (IntKind.wrap .i64 (v28 + (IntKind.wrap .i64 (2 * v21)))))) else (K25 v26 v27))
def sl_stableCmpFunc_int_l2 (fuel : Nat) (n2 : Nat) (a3 : Int) (g4 : (Int → Int → Option Int)) : Nat → (List Int) → Int → Option (List Int)
 | 0, _, _ => none
 | m2 + 1, v20, v21 => (bif (decide (v21 < a3)) then (sl_stableCmpFunc_int_l3 fuel n2 a3 g4 v21 (sl_stableCmpFunc_int_j25 fuel n2 a3 g4 v21 (sl_stableCmpFunc_int_l2 fuel n2 a3 g4 m2)) fuel v20 0 (IntKind.wrap .i64 (2 * v21))) else (some v20))
def sl_stableCmpFunc_int_j7 (fuel : Nat) (n2 : Nat) (a3 : Int) (g4 : (Int → Int → Option Int)) (v16 : (List Int)) (v17 : Int) : Option (List Int) :=
 ((sl_insertionSortCmpFunc_int fuel v16 n2 v17 a3 g4).bind fun w19 => (sl_stableCmpFunc_int_l2 fuel n2 a3 g4 fuel w19 20))
def sl_stableCmpFunc_int_l1 (fuel : Nat) (n2 : Nat) (a3 : Int) (g4 : (Int → Int → Option Int)) (K7 : ((List Int) → Int → Option (List Int))) : Nat → (List Int) → Int → Int → Option (List Int)
 | 0, _, _, _ => none
 | m1 + 1, v8, v9, v10 => (bif (decide (v10 ≤ a3)) then ((sl_insertionSortCmpFunc_int fuel v8 n2 v9 v10 g4).bind fun w14 => ((sl_stableCmpFunc_int_l1 fuel n2 a3 g4 K7 m1) w14 v10 (IntKind.wrap .i64 (v10 + 20)))) else (K7 v8 v9))
def sl_stableCmpFunc_int (fuel : Nat) (a1 : (List Int)) (n2 : Nat) (a3 : Int) (g4 : (Int → Int → Option Int)) : Option (List Int) :=
 (sl_stableCmpFunc_int_l1 fuel n2 a3 g4 (sl_stableCmpFunc_int_j7 fuel n2 a3 g4) fuel a1 0 20)
theorem run_sl_stableCmpFunc_int (fuel : Nat) (a1 : (List Int)) (n2 : Nat) (a3 : Int) (g4 : (Int → Int → Option Int)) (F_g4 : Nat) (C_g4 : List AV) (hok_g4 : okFn Tryd.prog F_g4 = true) (hrun_g4 : ∀ (x0 : Int) (x1 : Int) r, g4 x0 x1 = some r → Run Tryd.prog (.call F_g4 ([I6 x0, I6 x1] ++ C_g4) (I6 r))) (r : (List Int)) (h : sl_stableCmpFunc_int fuel a1 n2 a3 g4 = some r) : Run Tryd.prog (.callM 44 [.sb 2000000 3 1 0 n2, I6 a3, .clo F_g4 C_g4] [(2000000, .obj 3 1 (M6 a1))] (.tup []) [(2000000, .obj 3 1 (M6 r))]) := by
 refine cM Tryd.func44 rfl (env0 := [(0, .sb 2000000 3 1 0 n2), (1, I6 a3), (2, .clo F_g4 C_g4), (2000000, .obj 3 1 (M6 a1))]) ?_
 unfold sl_stableCmpFunc_int at h
 refine W.seq ?_
 let z0 := fun t => EN ((0, .sb 2000000 3 1 0 n2) :: (1, I6 a3) :: (2, .clo F_g4 C_g4) :: t)
 let z1 := fun t => z0 ((6, .int .i64 20) :: t)
 refine W.rt (e2 := z1 [(2000000, .obj 3 1 (M6 a1))]) ?_
 refine W.seq ?_
 let z2 := fun t => z1 ((7, .int .i64 0) :: (8, .int .i64 20) :: (2000000, .obj 3 1 (M6 a1)) :: t)
 refine W.rt (e2 := z2 []) ?_
 refine W.seq ?_
 refine W.join (σ := ((List Int) × Int)) (fun s => z1 [(7, I6 s.2), (2000000, .obj 3 1 (M6 s.1))]) (fun s => (sl_stableCmpFunc_int_j7 fuel n2 a3 g4) s.1 s.2 = some r) (fun s h => ?_) (fun hK7 => ?_)
 ·obtain ⟨v16, v17⟩ := s
  have h : (sl_stableCmpFunc_int_j7 fuel n2 a3 g4) v16 v17 = some r := h
  unfold sl_stableCmpFunc_int_j7 at h
  refine W.seq ?_
  refine W.rg ?_
  obtain ⟨w19, hw19, h⟩ := bind_some h
  refine WO.cm 4 [(2000000, 2000000)] [] (F := 66) (args := [.sb 2000000 3 1 0 n2, I6 v17, I6 a3, .clo F_g4 C_g4]) (hp := [(2000000, .obj 3 1 (M6 v16))]) (hp2 := [(2000000, .obj 3 1 (M6 w19))]) (r := .tup []) (run_sl_insertionSortCmpFunc_int fuel v16 n2 v17 a3 g4 F_g4 C_g4 hok_g4 hrun_g4 w19 hw19) (e1 := z1 [(7, I6 v17), (23, .sb 2000000 3 1 0 n2), (24, I6 v17), (25, I6 a3), (26, .clo F_g4 C_g4), (27, .tup []), (2000000, .obj 3 1 (M6 w19))]) ?_
  refine WO.fn (e2 := z1 [(2000000, .obj 3 1 (M6 w19))]) ?_
  refine W.block ?_
  refine W.wk (env' := z1 [(2000000, .obj 3 1 (M6 w19))]) ?_
  refine W.fuel (σ := ((List Int) × Int)) (fun s => z0 [(6, I6 s.2), (2000000, .obj 3 1 (M6 s.1))]) (fun m0 s => sl_stableCmpFunc_int_l2 fuel n2 a3 g4 m0 s.1 s.2 = some r) (fun s h => ?_) (fun m2 s h hN2 => ?_) fuel (w19, 20) h
  ·obtain ⟨v20, v21⟩ := s
   have h : sl_stableCmpFunc_int_l2 fuel n2 a3 g4 0 v20 v21 = some r := h
   rw [sl_stableCmpFunc_int_l2.eq_1] at h
   cases h
  ·obtain ⟨v20, v21⟩ := s
   have h : sl_stableCmpFunc_int_l2 fuel n2 a3 g4 (m2 + 1) v20 v21 = some r := h
   rw [sl_stableCmpFunc_int_l2.eq_2] at h
   refine W.seq ?_
   refine W.seq ?_
   let z3 := fun t => z0 ((6, I6 v21) :: t)
   let z4 := fun t => z3 ((30, .bool (decide (v21 < a3))) :: (2000000, .obj 3 1 (M6 v20)) :: t)
   refine W.rt (e2 := z4 []) ?_
   refine W.cb (decide (v21 < a3)) (fun hb => ?_) (fun hb => ?_)
   ·replace h := cond_t hb h
    refine W.skip ?_
    refine W.wk (env' := z3 [(2000000, .obj 3 1 (M6 v20))]) ?_
    refine W.block ?_
    refine W.seq ?_
    let z5 := fun t => z3 ((7, .int .i64 0) :: (8, I6 (W6 (2 * v21))) :: (2000000, .obj 3 1 (M6 v20)) :: t)
    refine W.rt (e2 := z5 []) ?_
    refine W.seq ?_
    refine W.join (σ := ((List Int) × Int)) (fun s => z3 [(7, I6 s.2), (2000000, .obj 3 1 (M6 s.1))]) (fun s => (sl_stableCmpFunc_int_j25 fuel n2 a3 g4 v21 (sl_stableCmpFunc_int_l2 fuel n2 a3 g4 m2)) s.1 s.2 = some r) (fun s h => ?_) (fun hK25 => ?_)
    ·obtain ⟨v34, v35⟩ := s
     have h : (sl_stableCmpFunc_int_j25 fuel n2 a3 g4 v21 (sl_stableCmpFunc_int_l2 fuel n2 a3 g4 m2)) v34 v35 = some r := h
     unfold sl_stableCmpFunc_int_j25 at h
     refine W.seq ?_
     refine W.join (σ := ((List Int))) (fun s => z3 [(2000000, .obj 3 1 (M6 s))]) (fun s => (sl_stableCmpFunc_int_j36 v21 (sl_stableCmpFunc_int_l2 fuel n2 a3 g4 m2)) s = some r) (fun s h => ?_) (fun hK36 => ?_)
     ·obtain ⟨v40, rfl⟩ : ∃ x, x = s := ⟨s, rfl⟩
      have h : (sl_stableCmpFunc_int_j36 v21 (sl_stableCmpFunc_int_l2 fuel n2 a3 g4 m2)) v40 = some r := h
      unfold sl_stableCmpFunc_int_j36 at h
      refine W.rt (e2 := z0 [(6, I6 (W6 (v21 * 2))), (2000000, .obj 3 1 (M6 v40))]) ?_
      exact hN2 (v40, (W6 (v21 * 2))) h
     refine W.seq ?_
     let z6 := fun t => z3 ((7, I6 v35) :: (9, I6 (W6 (v35 + v21))) :: t)
     refine W.rt (e2 := z6 [(2000000, .obj 3 1 (M6 v34))]) ?_
     refine W.seq ?_
     let z7 := fun t => z6 ((54, .bool (decide ((W6 (v35 + v21)) < a3))) :: t)
     refine W.rt (e2 := z7 [(2000000, .obj 3 1 (M6 v34))]) ?_
     refine W.cb (decide ((W6 (v35 + v21)) < a3)) (fun hb => ?_) (fun hb => ?_)
     ·replace h := cond_t hb h
      refine W.rg ?_
      obtain ⟨w39, hw39, h⟩ := bind_some h
      refine WO.cm 5 [(2000000, 2000000)] [] (F := 67) (args := [.sb 2000000 3 1 0 n2, I6 v35, I6 (W6 (v35 + v21)), I6 a3, .clo F_g4 C_g4]) (hp := [(2000000, .obj 3 1 (M6 v34))]) (hp2 := [(2000000, .obj 3 1 (M6 w39))]) (r := .tup []) (run_sl_symMergeCmpFunc_int fuel v34 n2 v35 (W6 (v35 + v21)) a3 g4 F_g4 C_g4 hok_g4 hrun_g4 w39 hw39) (e1 := z7 [(55, .sb 2000000 3 1 0 n2), (56, I6 v35), (57, I6 (W6 (v35 + v21))), (58, I6 a3), (59, .clo F_g4 C_g4), (60, .tup []), (2000000, .obj 3 1 (M6 w39))]) ?_
      refine WO.fn (e2 := z3 [(2000000, .obj 3 1 (M6 w39))]) ?_
      exact hK36 w39 h
     replace h := cond_f hb h
     refine W.skip ?_
     refine W.wk (env' := z3 [(2000000, .obj 3 1 (M6 v34))]) ?_
     exact hK36 v34 h
    refine W.block ?_
    refine W.wk (env' := z5 []) ?_
    refine W.fuel (σ := ((List Int) × Int × Int)) (fun s => z3 [(7, I6 s.2.1), (8, I6 s.2.2), (2000000, .obj 3 1 (M6 s.1))]) (fun m0 s => sl_stableCmpFunc_int_l3 fuel n2 a3 g4 v21 (sl_stableCmpFunc_int_j25 fuel n2 a3 g4 v21 (sl_stableCmpFunc_int_l2 fuel n2 a3 g4 m2)) m0 s.1 s.2.1 s.2.2 = some r) (fun s h => ?_) (fun m3 s h hN3 => ?_) fuel (v20, 0, (W6 (2 * v21))) h
    ·obtain ⟨v26, v27, v28⟩ := s
     have h : sl_stableCmpFunc_int_l3 fuel n2 a3 g4 v21 (sl_stableCmpFunc_int_j25 fuel n2 a3 g4 v21 (sl_stableCmpFunc_int_l2 fuel n2 a3 g4 m2)) 0 v26 v27 v28 = some r := h
     rw [sl_stableCmpFunc_int_l3.eq_1] at h
     cases h
    ·obtain ⟨v26, v27, v28⟩ := s
     have h : sl_stableCmpFunc_int_l3 fuel n2 a3 g4 v21 (sl_stableCmpFunc_int_j25 fuel n2 a3 g4 v21 (sl_stableCmpFunc_int_l2 fuel n2 a3 g4 m2)) (m3 + 1) v26 v27 v28 = some r := h
     rw [sl_stableCmpFunc_int_l3.eq_2] at h
     refine W.seq ?_
     refine W.seq ?_
     let z8 := fun t => z3 ((7, I6 v27) :: (8, I6 v28) :: t)
     refine W.rt (e2 := z8 [(35, .bool (decide (v28 ≤ a3))), (2000000, .obj 3 1 (M6 v26))]) ?_
     refine W.cb (decide (v28 ≤ a3)) (fun hb => ?_) (fun hb => ?_)
     ·replace h := cond_t hb h
      refine W.skip ?_
      refine W.wk (env' := z8 [(2000000, .obj 3 1 (M6 v26))]) ?_
      refine W.block ?_
      refine W.seq ?_
      refine W.rg ?_
      obtain ⟨w32, hw32, h⟩ := bind_some h
      refine WO.cm 7 [(2000000, 2000000)] [] (F := 67) (args := [.sb 2000000 3 1 0 n2, I6 v27, I6 (W6 (v27 + v21)), I6 v28, .clo F_g4 C_g4]) (hp := [(2000000, .obj 3 1 (M6 v26))]) (hp2 := [(2000000, .obj 3 1 (M6 w32))]) (r := .tup []) (run_sl_symMergeCmpFunc_int fuel v26 n2 v27 (W6 (v27 + v21)) v28 g4 F_g4 C_g4 hok_g4 hrun_g4 w32 hw32) (e1 := z8 [(36, .sb 2000000 3 1 0 n2), (37, I6 v27), (38, I6 v27), (39, I6 v21), (40, I6 (W6 (v27 + v21))), (41, I6 v28), (42, .clo F_g4 C_g4), (43, .tup []), (2000000, .obj 3 1 (M6 w32))]) ?_
      refine WO.fn (e2 := z3 [(8, I6 v28), (2000000, .obj 3 1 (M6 w32))]) ?_
      refine W.seq ?_
      refine W.rt (e2 := z3 [(7, I6 v28), (8, I6 v28), (2000000, .obj 3 1 (M6 w32))]) ?_
      refine W.rt (e2 := z3 [(7, I6 v28), (8, I6 (W6 (v28 + (W6 (2 * v21))))), (2000000, .obj 3 1 (M6 w32))]) ?_
      exact hN3 (w32, v28, (W6 (v28 + (W6 (2 * v21))))) h
     replace h := cond_f hb h
     refine W.exit ?_
     refine W.wk (env' := z3 [(7, I6 v27), (2000000, .obj 3 1 (M6 v26))]) ?_
     exact hK25 (v26, v27) h
   replace h := cond_f hb h
   have hr : PostM Tryd.prog Tryd.f44 (.tup []) [(2000000, .obj 3 1 (M6 v20))] .normal (z4 []) := ⟨by kernel_rfl, by kernel_rfl⟩
   cases h
   exact W.exit hr
 refine W.block ?_
 refine W.wk (env' := z2 []) ?_
 refine W.fuel (σ := ((List Int) × Int × Int)) (fun s => z1 [(7, I6 s.2.1), (8, I6 s.2.2), (2000000, .obj 3 1 (M6 s.1))]) (fun m0 s => sl_stableCmpFunc_int_l1 fuel n2 a3 g4 (sl_stableCmpFunc_int_j7 fuel n2 a3 g4) m0 s.1 s.2.1 s.2.2 = some r) (fun s h => ?_) (fun m1 s h hN1 => ?_) fuel (a1, 0, 20) h
 ·obtain ⟨v8, v9, v10⟩ := s
  have h : sl_stableCmpFunc_int_l1 fuel n2 a3 g4 (sl_stableCmpFunc_int_j7 fuel n2 a3 g4) 0 v8 v9 v10 = some r := h
  rw [sl_stableCmpFunc_int_l1.eq_1] at h
  cases h
 ·obtain ⟨v8, v9, v10⟩ := s
  have h : sl_stableCmpFunc_int_l1 fuel n2 a3 g4 (sl_stableCmpFunc_int_j7 fuel n2 a3 g4) (m1 + 1) v8 v9 v10 = some r := h
  rw [sl_stableCmpFunc_int_l1.eq_2] at h
  refine W.seq ?_
  refine W.seq ?_
  let z9 := fun t => z1 ((7, I6 v9) :: (8, I6 v10) :: t)
  refine W.rt (e2 := z9 [(13, .bool (decide (v10 ≤ a3))), (2000000, .obj 3 1 (M6 v8))]) ?_
  refine W.cb (decide (v10 ≤ a3)) (fun hb => ?_) (fun hb => ?_)
  ·replace h := cond_t hb h
   refine W.skip ?_
   refine W.wk (env' := z9 [(2000000, .obj 3 1 (M6 v8))]) ?_
   refine W.block ?_
   refine W.seq ?_
   refine W.rg ?_
   obtain ⟨w14, hw14, h⟩ := bind_some h
   refine WO.cm 4 [(2000000, 2000000)] [] (F := 66) (args := [.sb 2000000 3 1 0 n2, I6 v9, I6 v10, .clo F_g4 C_g4]) (hp := [(2000000, .obj 3 1 (M6 v8))]) (hp2 := [(2000000, .obj 3 1 (M6 w14))]) (r := .tup []) (run_sl_insertionSortCmpFunc_int fuel v8 n2 v9 v10 g4 F_g4 C_g4 hok_g4 hrun_g4 w14 hw14) (e1 := z9 [(14, .sb 2000000 3 1 0 n2), (15, I6 v9), (16, I6 v10), (17, .clo F_g4 C_g4), (18, .tup []), (2000000, .obj 3 1 (M6 w14))]) ?_
   refine WO.fn (e2 := z1 [(8, I6 v10), (2000000, .obj 3 1 (M6 w14))]) ?_
   refine W.seq ?_
   refine W.rt (e2 := z1 [(7, I6 v10), (8, I6 v10), (2000000, .obj 3 1 (M6 w14))]) ?_
   refine W.rt (e2 := z1 [(7, I6 v10), (8, I6 (W6 (v10 + 20))), (2000000, .obj 3 1 (M6 w14))]) ?_
   exact hN1 (w14, v10, (W6 (v10 + 20))) h
  replace h := cond_f hb h
  refine W.exit ?_
  refine W.wk (env' := z1 [(7, I6 v9), (2000000, .obj 3 1 (M6 v8))]) ?_
  exact hK7 (v8, v9) h
def sl_SortStableFunc_int (fuel : Nat) (a1 : (List Int)) (n2 : Nat) (g3 : (Int → Int → Option Int)) : Option (List Int) :=
 ((sl_stableCmpFunc_int fuel a1 n2 ((n2 : Nat) : Int) g3).bind fun w4 => (some w4))
theorem run_sl_SortStableFunc_int (fuel : Nat) (a1 : (List Int)) (n2 : Nat) (g3 : (Int → Int → Option Int)) (F_g3 : Nat) (C_g3 : List AV) (hok_g3 : okFn Tryd.prog F_g3 = true) (hrun_g3 : ∀ (x0 : Int) (x1 : Int) r, g3 x0 x1 = some r → Run Tryd.prog (.call F_g3 ([I6 x0, I6 x1] ++ C_g3) (I6 r))) (r : (List Int)) (h : sl_SortStableFunc_int fuel a1 n2 g3 = some r) : Run Tryd.prog (.callM 24 [.sb 2000000 3 1 0 n2, .clo F_g3 C_g3] [(2000000, .obj 3 1 (M6 a1))] (.tup []) [(2000000, .obj 3 1 (M6 r))]) := by
 refine cM Tryd.func24 rfl (env0 := [(0, .sb 2000000 3 1 0 n2), (1, .clo F_g3 C_g3), (2000000, .obj 3 1 (M6 a1))]) ?_
 unfold sl_SortStableFunc_int at h
 refine W.rg ?_
 obtain ⟨w4, hw4, h⟩ := bind_some h
 let z0 := fun t => EN ((0, .sb 2000000 3 1 0 n2) :: (1, .clo F_g3 C_g3) :: (4, .sb 2000000 3 1 0 n2) :: (5, .sb 2000000 3 1 0 n2) :: (6, I6 ((n2 : Nat) : Int)) :: (7, .clo F_g3 C_g3) :: (8, .tup []) :: (2000000, .obj 3 1 (M6 w4)) :: t)
 refine WO.cm 4 [(2000000, 2000000)] [] (F := 44) (args := [.sb 2000000 3 1 0 n2, I6 ((n2 : Nat) : Int), .clo F_g3 C_g3]) (hp := [(2000000, .obj 3 1 (M6 a1))]) (hp2 := [(2000000, .obj 3 1 (M6 w4))]) (r := .tup []) (run_sl_stableCmpFunc_int fuel a1 n2 ((n2 : Nat) : Int) g3 F_g3 C_g3 hok_g3 hrun_g3 w4 hw4) (e1 := z0 []) ?_
 refine WO.end0 (e2 := z0 []) (by kernel_rfl) ?_
 have hr : PostM Tryd.prog Tryd.f24 (.tup []) [(2000000, .obj 3 1 (M6 w4))] .normal (z0 []) := ⟨by kernel_rfl, by kernel_rfl⟩
 cases h
 exact hr
def ix_Back_1 (a1 : Int) (a2 : Int) (c3 : ByteArray) : Option Int :=
 ((sidx c3 a1).bind fun e6 => ((sidx c3 a2).bind fun e7 => (some (IntKind.wrap .i64 ((IntKind.wrap .i64 e6) - (IntKind.wrap .i64 e7))))))
theorem run_ix_Back_1 (a1 : Int) (a2 : Int) (c3 : ByteArray) (r : Int) (h : ix_Back_1 a1 a2 c3 = some r) : Run Tryd.prog (.call 25 [I6 a1, I6 a2, .ptr (.str c3)] (I6 r)) := by
 refine cW Tryd.func25 rfl (env0 := [(0, I6 a1), (1, I6 a2), (2, .ptr (.str c3))]) ?_
 unfold ix_Back_1 at h
 refine W.seq ?_
 let z0 := fun t => EN ((0, I6 a1) :: (1, I6 a2) :: (2, .ptr (.str c3)) :: t)
 refine W.rt (e2 := z0 []) ?_
 refine W.seq ?_
 refine W.rg ?_
 obtain ⟨e6, he6, h⟩ := bind_some h
 let z1 := fun t => z0 ((6, .str c3) :: (7, I6 a1) :: (8, .int .u8 e6) :: t)
 refine WO.pk 2 (if (0 : Int) ≤ a1 then (c3[Int.toNat a1]?).map fun b => AV.int .u8 b.toNat else none) (v := .int .u8 e6) (sidx_av he6) (e1 := z1 []) ?_
 obtain ⟨e7, he7, h⟩ := bind_some h
 refine WO.pk 3 (if (0 : Int) ≤ a2 then (c3[Int.toNat a2]?).map fun b => AV.int .u8 b.toNat else none) (v := .int .u8 e7) (sidx_av he7) (e1 := z1 [(9, I6 (W6 e6)), (10, .str c3), (11, I6 a2), (12, .int .u8 e7)]) ?_
 refine WO.fn (e2 := [(5, I6 (W6 ((W6 e6) - (W6 e7))))]) ?_
 refine W.wk (env' := [(5, I6 (W6 ((W6 e6) - (W6 e7))))]) ?_
 have hr : aresults Tryd.prog Tryd.f25 [(5, I6 (W6 ((W6 e6) - (W6 e7))))] = some (I6 (W6 ((W6 e6) - (W6 e7)))) := by kernel_rfl
 cases h
 exact W.ret hr
def st_IndexByte (a1 : ByteArray) (a2 : Int) : Option Int := some (Lib.indexByte a1.data.toList a2.toNat.toUInt8)
theorem run_st_IndexByte (a1 : ByteArray) (a2 : Int) (r : Int) (h : st_IndexByte a1 a2 = some r) : Run Tryd.prog (.call 26 [.str a1, .int .u8 a2] (I6 r)) := by
 unfold st_IndexByte at h
 cases h
 exact .ext rfl rfl fun w _ => (Tryd.strings_IndexByte a1 a2 w).mono fun e w' hh => ⟨hh.1, hh.2 ▸ RowKit.Below.refl _ _⟩
def ix_Back_j40 (v37 : (List Int)) (v44 : Bool) : Option (ByteArray × Int) :=
 (bif v44 then (some ((strOfI v37), 0)) else (some ((ByteArray.mk #[]), 4)))
def ix_Back_j25 (a1 : ByteArray) (v37 : (List Int)) : Option (ByteArray × Int) :=
 ((ix_valid (strOfI v37)).bind fun w41 => (bif w41 then ((ix_suffixes (strOfI v37)).bind fun w42 => ((ix_transform (strOfI v37) w42).bind fun w43 => ((ix_Back_j40 v37) (w43.toList == a1.toList)))) else ((ix_Back_j40 v37) false)))
def ix_Back_l2 (a1 : ByteArray) (w23 : (List Int)) (K25 : ((List Int) → Option (ByteArray × Int))) : Nat → (List Int) → Int → Option (ByteArray × Int)
 | 0, _, _ => none
 | m2 + 1, v28, v29 => (bif (decide ((v28.length : Int) < (IntKind.wrap .i64 ((a1.size : Int) - 1)))) then (chk (decide ((0 : Int) ≤ v29 ∧ v29 < (((Int.toNat (a1.size : Int)) : Nat) : Int))) ((w23[(0 + Int.toNat v29)]?).bind fun e34 => ((sidx a1 e34).bind fun e35 => (chk (capOk 1 ((v28 ++ [e35])).length) ((ix_Back_l2 a1 w23 K25 m2) (v28 ++ [e35]) e34))))) else (K25 v28))
def ix_Back_j13 (fuel : Nat) (a1 : ByteArray) (v21 : (List Int)) : Option (ByteArray × Int) :=
 ((sl_SortStableFunc_int fuel v21 (Int.toNat (a1.size : Int)) (fun y0 y1 => ix_Back_1 y0 y1 a1)).bind fun w23 => ((st_IndexByte a1 10).bind fun w27 => (ix_Back_l2 a1 w23 (ix_Back_j25 a1) fuel ([] : (List Int)) w27)))
def ix_Back_l1 (a1 : ByteArray) (K13 : ((List Int) → Option (ByteArray × Int))) : List Nat → Nat → (List Int) → Option (ByteArray × Int)
 | [], k1, v15 => (K13 v15)
 | x1 :: r1, k1, v15 => (chk (decide ((0 : Int) ≤ (k1 : Int) ∧ (k1 : Int) < (((Int.toNat (a1.size : Int)) : Nat) : Int))) ((upd v15 (0 + Int.toNat (k1 : Int)) (k1 : Int)).bind fun u19 => ((ix_Back_l1 a1 K13 r1 (k1 + 1)) u19)))
def ix_Back (fuel : Nat) (a1 : ByteArray) : Option (ByteArray × Int) :=
 ((ix_column a1).bind fun w5 => (bif (!w5) then (some ((ByteArray.mk #[]), 2)) else ((st_Count a1 (ByteArray.mk #[10])).bind fun w9 => (bif (w9 != 1) then (some ((ByteArray.mk #[]), 4)) else (chk (mkOk 8 (a1.size : Int)) (chk (lenOk (List.range (Int.toNat (((Int.toNat (a1.size : Int)) : Nat) : Int)))) (ix_Back_l1 a1 (ix_Back_j13 fuel a1) (List.range (Int.toNat (((Int.toNat (a1.size : Int)) : Nat) : Int))) 0 (List.replicate (Int.toNat (a1.size : Int)) 0))))))))
theorem run_ix_Back (fuel : Nat) (a1 : ByteArray) (r : (ByteArray × Int)) (h : ix_Back fuel a1 = some r) : Run Tryd.prog (.call 9 [.str a1] (.tup [.str r.1, I6 r.2])) := by
 refine cW Tryd.func9 rfl (env0 := [(0, .str a1)]) ?_
 unfold ix_Back at h
 refine W.seq ?_
 let z0 := fun t => EN ((1, .ptr (.str a1)) :: t)
 refine W.regT [1] [1] [] [] (e2 := z0 []) (by kernel_rfl) (by kernel_rfl) (fun _ h => h) ?_
 refine W.seq ?_
 refine W.seq ?_
 refine W.rg ?_
 obtain ⟨w5, hw5, h⟩ := bind_some h
 refine WO.ck 1 (F := 22) (l := [.str a1]) (C := []) (r := .bool w5) (run_ix_column a1 w5 hw5) (e1 := z0 [(9, .str a1), (10, .bool w5)]) ?_
 refine WO.fn (e2 := z0 [(11, .bool (!w5))]) ?_
 refine W.cb (!w5) (fun hb => ?_) (fun hb => ?_)
 ·replace h := cond_t hb h
  refine W.seq ?_
  let z1 := fun t => EN ((2, .str (ByteArray.mk #[])) :: (3, .int .i64 2) :: t)
  refine W.rt (e2 := z1 []) ?_
  refine W.wk (env' := z1 []) ?_
  have hr : aresults Tryd.prog Tryd.f9 [(2, .str (ByteArray.mk #[])), (3, .int .i64 2)] = some (.tup [.str (ByteArray.mk #[]), .int .i64 2]) := by kernel_rfl
  cases h
  exact W.ret hr
 replace h := cond_f hb h
 refine W.skip ?_
 refine W.wk (env' := z0 []) ?_
 refine W.seq ?_
 refine W.seq ?_
 refine W.rg ?_
 obtain ⟨w9, hw9, h⟩ := bind_some h
 refine WO.ck 1 (F := 23) (l := [.str a1, .str (ByteArray.mk #[10])]) (C := []) (r := I6 w9) (run_st_Count a1 (ByteArray.mk #[10]) w9 hw9) (e1 := z0 [(12, .str a1), (13, I6 w9)]) ?_
 refine WO.fn (e2 := z0 [(14, .bool (w9 != 1))]) ?_
 refine W.cb (w9 != 1) (fun hb => ?_) (fun hb => ?_)
 ·replace h := cond_t hb h
  refine W.seq ?_
  let z2 := fun t => EN ((2, .str (ByteArray.mk #[])) :: (3, .int .i64 4) :: t)
  refine W.rt (e2 := z2 []) ?_
  refine W.wk (env' := z2 []) ?_
  have hr : aresults Tryd.prog Tryd.f9 [(2, .str (ByteArray.mk #[])), (3, .int .i64 4)] = some (.tup [.str (ByteArray.mk #[]), .int .i64 4]) := by kernel_rfl
  cases h
  exact W.ret hr
 replace h := cond_f hb h
 refine W.skip ?_
 refine W.wk (env' := z0 []) ?_
 refine W.seq ?_
 refine W.rg ?_
 obtain ⟨hc12, h⟩ := chk_some h
 refine WO.makeK 2 (d := 17) (e := 3) (s := 1) (bytes := 8) (m := (a1.size : Int)) (z := (.int .i64 0)) (zs := (M6 (List.replicate (Int.toNat (a1.size : Int)) 0))) (env1 := [(1, .ptr (.str a1)), (15, .str a1), (16, I6 (a1.size : Int)), (17, .sb 1000017 3 1 0 (Int.toNat (a1.size : Int)))]) (by kernel_rfl) hc12 (by first | exact rep_map | exact (rep_map (f := (AV.int .i64)))) (e1 := z0 [(15, .str a1), (16, I6 (a1.size : Int)), (17, .sb 1000017 3 1 0 (Int.toNat (a1.size : Int))), (1000017, .obj 3 1 (M6 (List.replicate (Int.toNat (a1.size : Int)) 0)))]) (by kernel_rfl) ?_
 let z3 := fun t => z0 ((4, .sb 1000017 3 1 0 (Int.toNat (a1.size : Int))) :: t)
 refine WO.fn (e2 := z3 [(1000017, .obj 3 1 (M6 (List.replicate (Int.toNat (a1.size : Int)) 0)))]) ?_
 refine W.seq ?_
 refine W.join (σ := ((List Int))) (fun s => z3 [(1000017, .obj 3 1 (M6 s))]) (fun s => (ix_Back_j13 fuel a1) s = some r) (fun s h => ?_) (fun hK13 => ?_)
 ·obtain ⟨v21, rfl⟩ : ∃ x, x = s := ⟨s, rfl⟩
  have h : (ix_Back_j13 fuel a1) v21 = some r := h
  unfold ix_Back_j13 at h
  refine W.seq ?_
  refine W.rg ?_
  obtain ⟨w23, hw23, h⟩ := bind_some h
  refine WO.cm 2 [(1000017, 2000000)] [] (F := 24) (args := [.sb 2000000 3 1 0 (Int.toNat (a1.size : Int)), .clo 25 [.ptr (.str a1)]]) (hp := [(2000000, .obj 3 1 (M6 v21))]) (hp2 := [(2000000, .obj 3 1 (M6 w23))]) (r := .tup []) (run_sl_SortStableFunc_int fuel v21 (Int.toNat (a1.size : Int)) (fun y0 y1 => ix_Back_1 y0 y1 a1) 25 [.ptr (.str a1)] (by kernel_rfl) (fun y0 y1 r h => run_ix_Back_1 y0 y1 a1 r h) w23 hw23) (e1 := z3 [(28, .sb 1000017 3 1 0 (Int.toNat (a1.size : Int))), (29, .clo 25 [.ptr (.str a1)]), (30, .tup []), (1000017, .obj 3 1 (M6 w23))]) ?_
  refine WO.fn (e2 := z3 [(1000017, .obj 3 1 (M6 w23))]) ?_
  refine W.seq ?_
  refine W.rt (e2 := z3 [(6, .nils), (1000017, .obj 3 1 (M6 w23))]) ?_
  refine W.seq ?_
  refine W.join (σ := ((List Int))) (fun s => z0 [(6, l5 (some 10600) s)]) (fun s => (ix_Back_j25 a1) s = some r) (fun s h => ?_) (fun hK25 => ?_)
  ·obtain ⟨v37, rfl⟩ : ∃ x, x = s := ⟨s, rfl⟩
   have h : (ix_Back_j25 a1) v37 = some r := h
   unfold ix_Back_j25 at h
   refine W.seq ?_
   refine W.seq ?_
   refine W.rg ?_
   refine WO.pk 1 (match true, optAll ((M8 v37).map byteOf) with | true, some ns => some (AV.str ⟨(ns.map fun n => UInt8.ofNat n.toNat).toArray⟩) | _, _ => none) (v := .str (strOfI v37)) (strOf_av (f := strOfI) v37) (e1 := z0 [(6, l5 (some 10600) v37), (49, l5 (some 10600) v37), (50, .str (strOfI v37))]) ?_
   let z4 := fun t => z0 ((8, .str (strOfI v37)) :: t)
   refine WO.fn (e2 := z4 []) ?_
   refine W.seq ?_
   refine W.join (σ := (Bool)) (fun s => [(8, .str (strOfI v37)), (60, .bool s)]) (fun s => (ix_Back_j40 v37) s = some r) (fun s h => ?_) (fun hK40 => ?_)
   ·obtain ⟨v44, rfl⟩ : ∃ x, x = s := ⟨s, rfl⟩
    have h : (ix_Back_j40 v37) v44 = some r := h
    unfold ix_Back_j40 at h
    refine W.cb v44 (fun hb => ?_) (fun hb => ?_)
    ·replace h := cond_t hb h
     refine W.seq ?_
     refine W.rt (e2 := [(2, .str (strOfI v37)), (3, .int .i64 0)]) ?_
     refine W.wk (env' := [(2, .str (strOfI v37)), (3, .int .i64 0)]) ?_
     have hr : aresults Tryd.prog Tryd.f9 [(2, .str (strOfI v37)), (3, .int .i64 0)] = some (.tup [.str (strOfI v37), .int .i64 0]) := by kernel_rfl
     cases h
     exact W.ret hr
    replace h := cond_f hb h
    refine W.skip ?_
    refine W.wk (env' := []) ?_
    refine W.seq ?_
    refine W.rt (e2 := [(2, .str (ByteArray.mk #[])), (3, .int .i64 4)]) ?_
    refine W.wk (env' := [(2, .str (ByteArray.mk #[])), (3, .int .i64 4)]) ?_
    have hr : aresults Tryd.prog Tryd.f9 [(2, .str (ByteArray.mk #[])), (3, .int .i64 4)] = some (.tup [.str (ByteArray.mk #[]), .int .i64 4]) := by kernel_rfl
    cases h
    exact W.ret hr
   refine W.rg ?_
   obtain ⟨w41, hw41, h⟩ := bind_some h
   let z5 := fun t => z4 ((51, .str (strOfI v37)) :: t)
   refine WO.ck 1 (F := 19) (l := [.str (strOfI v37)]) (C := []) (r := .bool w41) (run_ix_valid (strOfI v37) w41 hw41) (e1 := z5 [(52, .bool w41)]) ?_
   refine WO.bk 1 (fun b => z5 [(52, .bool b), (53, .bool b)]) w41 (fun hb => ?_) (fun hb => ?_)
   ·replace h := cond_t hb h
    obtain ⟨w42, hw42, h⟩ := bind_some h
    let z6 := fun t => z5 ((52, .bool true) :: (53, .bool true) :: (54, .str (strOfI v37)) :: (55, .str (strOfI v37)) :: (56, l3 none w42) :: t)
    refine WO.ck 2 (F := 21) (l := [.str (strOfI v37)]) (C := []) (r := l3 none w42) (run_ix_suffixes (strOfI v37) w42 hw42) (e1 := z6 []) ?_
    obtain ⟨w43, hw43, h⟩ := bind_some h
    refine WO.ck 0 (F := 20) (l := [.str (strOfI v37), l3 none w42]) (C := []) (r := .str w43) (run_ix_transform (strOfI v37) w42 w43 hw43) (e1 := z6 [(57, .str w43)]) ?_
    refine WO.fn (e2 := [(8, .str (strOfI v37)), (60, .bool (w43.toList == a1.toList))]) ?_
    exact hK40 (w43.toList == a1.toList) h
   replace h := cond_f hb h
   refine WO.fn (e2 := [(8, .str (strOfI v37)), (60, .bool false)]) ?_
   exact hK40 false h
  refine W.seq ?_
  refine W.rg ?_
  obtain ⟨w27, hw27, h⟩ := bind_some h
  refine WO.ck 1 (F := 26) (l := [.str a1, .int .u8 10]) (C := []) (r := I6 w27) (run_st_IndexByte a1 10 w27 hw27) (e1 := z3 [(6, .nils), (31, .str a1), (32, I6 w27), (1000017, .obj 3 1 (M6 w23))]) ?_
  refine WO.fn (e2 := z3 [(6, .nils), (7, I6 w27), (1000017, .obj 3 1 (M6 w23))]) ?_
  refine W.block ?_
  refine W.weak [1, 4, 6, 7, 1000017] [] [(6, 0, 5, 1, 10600)] [] (env' := z3 [(6, l5 (some 10600) ([] : (List Int))), (7, I6 w27), (1000017, .obj 3 1 (M6 w23))]) (by kernel_rfl) ?_
  refine W.fuel (σ := ((List Int) × Int)) (fun s => z3 [(6, l5 (some 10600) s.1), (7, I6 s.2), (1000017, .obj 3 1 (M6 w23))]) (fun m0 s => ix_Back_l2 a1 w23 (ix_Back_j25 a1) m0 s.1 s.2 = some r) (fun s h => ?_) (fun m2 s h hN2 => ?_) fuel (([] : (List Int)), w27) h
  ·obtain ⟨v28, v29⟩ := s
   have h : ix_Back_l2 a1 w23 (ix_Back_j25 a1) 0 v28 v29 = some r := h
   rw [ix_Back_l2.eq_1] at h
   cases h
  ·obtain ⟨v28, v29⟩ := s
   have h : ix_Back_l2 a1 w23 (ix_Back_j25 a1) (m2 + 1) v28 v29 = some r := h
   rw [ix_Back_l2.eq_2] at h
   refine W.seq ?_
   refine W.seq ?_
   refine W.rg ?_
   let z7 := fun t => z3 ((6, l5 (some 10600) v28) :: (7, I6 v29) :: t)
   refine WO.pk 1 (some (I6 ((M8 v28).length : Int))) (v := I6 (v28.length : Int)) (by rw [List.length_map]) (e1 := z7 [(33, l5 (some 10600) v28), (34, I6 (v28.length : Int)), (1000017, .obj 3 1 (M6 w23))]) ?_
   refine WO.fn (e2 := z7 [(38, .bool (decide ((v28.length : Int) < (W6 ((a1.size : Int) - 1))))), (1000017, .obj 3 1 (M6 w23))]) ?_
   refine W.cb (decide ((v28.length : Int) < (W6 ((a1.size : Int) - 1)))) (fun hb => ?_) (fun hb => ?_)
   ·replace h := cond_t hb h
    refine W.skip ?_
    refine W.wk (env' := z7 [(1000017, .obj 3 1 (M6 w23))]) ?_
    refine W.block ?_
    refine W.seq ?_
    refine W.rg ?_
    obtain ⟨hc33, h⟩ := chk_some h
    let z8 := fun t => z7 ((39, .sb 1000017 3 1 0 (Int.toNat (a1.size : Int))) :: (40, I6 v29) :: (41, .pe 1000017 1 (0 + Int.toNat v29) 0) :: t)
    refine WO.pi 2 (v := .pe 1000017 1 (0 + Int.toNat v29) 0) hc33 (e1 := z8 [(1000017, .obj 3 1 (M6 w23))]) ?_
    obtain ⟨e34, he34, h⟩ := bind_some h
    refine WO.pk 0 (match (M6 w23)[(0 + Int.toNat v29)]? with | some y => cut Tryd.prog 3 (y.cells.map AV.strip) 0 | none => none) (v := I6 e34) ((pe_ld (f := (AV.int .i64)) (G := (fun y => cut Tryd.prog 3 (y.cells.map AV.strip) 0)) he34).trans (by kernel_rfl)) (e1 := z8 [(42, I6 e34), (1000017, .obj 3 1 (M6 w23))]) ?_
    let z9 := fun t => z3 ((6, l5 (some 10600) v28) :: (7, I6 e34) :: t)
    refine WO.fn (e2 := z9 [(1000017, .obj 3 1 (M6 w23))]) ?_
    refine W.rg ?_
    obtain ⟨e35, he35, h⟩ := bind_some h
    refine WO.pk 3 (if (0 : Int) ≤ e34 then (a1[Int.toNat e34]?).map fun b => AV.int .u8 b.toNat else none) (v := .int .u8 e35) (sidx_av he35) (e1 := z9 [(43, l5 (some 10600) v28), (44, .str a1), (45, I6 e34), (46, .int .u8 e35), (1000017, .obj 3 1 (M6 w23))]) ?_
    obtain ⟨hc36, h⟩ := chk_some h
    refine WO.appendK 1 (d := 48) (e := 5) (s := 1) (bytes := 1) (xs := (M8 v28)) (ys := (M8 [e35])) (zs := (M8 (v28 ++ [e35]))) (env1 := [(1, .ptr (.str a1)), (4, .sb 1000017 3 1 0 (Int.toNat (a1.size : Int))), (6, l5 none v28), (7, I6 e34), (43, l5 none v28), (44, .str a1), (45, I6 e34), (46, .int .u8 e35), (47, l5 (some 47) [e35]), (1000017, .obj 3 1 (M6 w23))]) (by kernel_rfl) (List.map_append.symm) (by rw [List.length_map]; exact hc36) (e1 := z3 [(6, l5 none v28), (7, I6 e34), (43, l5 none v28), (44, .str a1), (45, I6 e34), (46, .int .u8 e35), (47, l5 (some 47) [e35]), (48, l5 (some 48) (v28 ++ [e35])), (1000017, .obj 3 1 (M6 w23))]) (by kernel_rfl) ?_
    refine WO.fin [1, 4, 6, 7, 1000017] [] [] [(48, some 10600)] (e2 := z3 [(6, l5 (some 10600) (v28 ++ [e35])), (7, I6 e34), (1000017, .obj 3 1 (M6 w23))]) (by kernel_rfl) (fun _ h => h) ?_
    exact hN2 ((v28 ++ [e35]), e34) h
   replace h := cond_f hb h
   refine W.exit ?_
   refine W.wk (env' := z0 [(6, l5 (some 10600) v28)]) ?_
   exact hK25 v28 h
 refine W.seq ?_
 let z10 := fun t => z3 ((19, I6 (((Int.toNat (a1.size : Int)) : Nat) : Int)) :: t)
 refine W.rt (e2 := z10 [(20, .int .i64 0), (1000017, .obj 3 1 (M6 (List.replicate (Int.toNat (a1.size : Int)) 0)))]) ?_
 refine W.block ?_
 obtain ⟨hl1, h⟩ := chk_some h
 refine W.wk (env' := z10 [(20, I6 ((0 : Nat) : Int)), (1000017, .obj 3 1 (M6 (List.replicate (Int.toNat (a1.size : Int)) 0)))]) ?_
 refine W.range (σ := ((List Int))) (List.range (Int.toNat (((Int.toNat (a1.size : Int)) : Nat) : Int))) (fun k1 s => z10 [(20, I6 (k1 : Int)), (1000017, .obj 3 1 (M6 s))]) (fun r0 k0 s => ix_Back_l1 a1 (ix_Back_j13 fuel a1) r0 k0 s = some r) (fun s h => ?_) (fun x1 r1 k1 s hx1 hk1 h hN1 => ?_) (List.replicate (Int.toNat (a1.size : Int)) 0) h
 ·obtain ⟨v15, rfl⟩ : ∃ x, x = s := ⟨s, rfl⟩
  have h : ix_Back_l1 a1 (ix_Back_j13 fuel a1) [] ((List.range (Int.toNat (((Int.toNat (a1.size : Int)) : Nat) : Int)))).length v15 = some r := h
  rw [ix_Back_l1.eq_1] at h
  refine W.seq ?_
  refine W.rg ?_
  let z11 := fun t => z10 ((20, I6 (((List.range (Int.toNat (((Int.toNat (a1.size : Int)) : Nat) : Int)))).length : Int)) :: (21, .bool false) :: (1000017, .obj 3 1 (M6 v15)) :: t)
  refine WO.pk 0 (some (.bool (decide ((((List.range (Int.toNat (((Int.toNat (a1.size : Int)) : Nat) : Int)))).length : Int) < (((Int.toNat (a1.size : Int)) : Nat) : Int))))) (v := .bool false) (by rw [ltr_false (n := (((Int.toNat (a1.size : Int)) : Nat) : Int))]) (e1 := z11 []) ?_
  refine WO.fn (e2 := z11 []) ?_
  refine W.seq ?_
  refine W.cb false (fun h => Bool.noConfusion h) (fun _ => ?_)
  refine W.exit ?_
  refine W.wk (env' := z3 [(1000017, .obj 3 1 (M6 v15))]) ?_
  exact hK13 v15 h
 ·obtain ⟨v15, rfl⟩ : ∃ x, x = s := ⟨s, rfl⟩
  have h : ix_Back_l1 a1 (ix_Back_j13 fuel a1) (x1 :: r1) k1 v15 = some r := h
  rw [ix_Back_l1.eq_2] at h
  refine W.seq ?_
  refine W.rg ?_
  let z12 := fun t => z10 ((20, I6 (k1 : Int)) :: t)
  let z13 := fun t => z12 ((21, .bool true) :: (1000017, .obj 3 1 (M6 v15)) :: t)
  refine WO.pk 0 (some (.bool (decide ((k1 : Int) < (((Int.toNat (a1.size : Int)) : Nat) : Int))))) (v := .bool true) (by rw [ltr_true hk1]) (e1 := z13 []) ?_
  refine WO.fn (e2 := z13 []) ?_
  refine W.seq ?_
  refine W.cb true (fun _ => ?_) (fun h => Bool.noConfusion h)
  refine W.skip ?_
  refine W.wk (env' := z12 [(1000017, .obj 3 1 (M6 v15))]) ?_
  refine W.seq ?_
  refine W.block ?_
  refine W.seq ?_
  let z14 := fun t => z3 ((5, I6 (k1 : Int)) :: (19, I6 (((Int.toNat (a1.size : Int)) : Nat) : Int)) :: (20, I6 (k1 : Int)) :: t)
  refine W.rt (e2 := z14 [(1000017, .obj 3 1 (M6 v15))]) ?_
  refine W.rg ?_
  obtain ⟨hc18, h⟩ := chk_some h
  let z15 := fun t => z14 ((23, .sb 1000017 3 1 0 (Int.toNat (a1.size : Int))) :: (24, I6 (k1 : Int)) :: (25, I6 (k1 : Int)) :: (26, .pe 1000017 1 (0 + Int.toNat (k1 : Int)) 0) :: t)
  refine WO.pi 3 (v := .pe 1000017 1 (0 + Int.toNat (k1 : Int)) 0) hc18 (e1 := z15 [(1000017, .obj 3 1 (M6 v15))]) ?_
  obtain ⟨u19, hu19, h⟩ := bind_some h
  obtain ⟨y20, hyy20, hzy20⟩ := upd_some hu19
  refine WO.sk 0 (id := 1000017) (e := 3) (s := 1) (off := 0) (vs := [I6 (k1 : Int)]) (AV.int .i64) hyy20 hzy20 (e1 := z15 [(1000017, .obj 3 1 (M6 u19))]) ?_
  refine WO.fn (e2 := z12 [(1000017, .obj 3 1 (M6 u19))]) ?_
  refine W.rg ?_
  refine WO.pk 0 (some (I6 (IntKind.wrap .i64 ((k1 : Int) + 1)))) (v := I6 ((k1 + 1 : Nat) : Int)) (by rw [wrap_succ hl1 hk1]) (e1 := z12 [(27, I6 ((k1 + 1 : Nat) : Int)), (1000017, .obj 3 1 (M6 u19))]) ?_
  refine WO.fn (e2 := z10 [(20, I6 ((k1 + 1 : Nat) : Int)), (1000017, .obj 3 1 (M6 u19))]) ?_
  exact hN1 u19 h
def ix_Sort (a1 : ByteArray) : Option ((List Int) × Int) :=
 ((ix_valid a1).bind fun w5 => (bif (!w5) then (some (([] : (List Int)), 2)) else ((ix_suffixes a1).bind fun w8 => (some (w8, 0)))))
theorem run_ix_Sort (a1 : ByteArray) (r : ((List Int) × Int)) (h : ix_Sort a1 = some r) : Run Tryd.prog (.call 27 [.str a1] (.tup [l3 none r.1, I6 r.2])) := by
 refine cW Tryd.func27 rfl (env0 := [(0, .str a1)]) ?_
 unfold ix_Sort at h
 refine W.seq ?_
 refine W.rt (e2 := [(0, .str a1)]) ?_
 refine W.seq ?_
 refine W.seq ?_
 refine W.rg ?_
 obtain ⟨w5, hw5, h⟩ := bind_some h
 refine WO.ck 1 (F := 19) (l := [.str a1]) (C := []) (r := .bool w5) (run_ix_valid a1 w5 hw5) (e1 := [(0, .str a1), (4, .str a1), (5, .bool w5)]) ?_
 refine WO.fn (e2 := [(0, .str a1), (6, .bool (!w5))]) ?_
 refine W.cb (!w5) (fun hb => ?_) (fun hb => ?_)
 ·replace h := cond_t hb h
  refine W.seq ?_
  refine W.rt (e2 := [(2, .nils), (3, .int .i64 2)]) ?_
  refine W.weak [2, 3] [] [(2, 0, 3, 1, 70002)] [] (env' := [(2, l3 (some 70002) ([] : (List Int))), (3, .int .i64 2)]) (by kernel_rfl) ?_
  have hr : aresults Tryd.prog Tryd.f27 [(2, l3 (some 70002) ([] : (List Int))), (3, .int .i64 2)] = some (.tup [l3 none ([] : (List Int)), .int .i64 2]) := by kernel_rfl
  cases h
  exact W.ret hr
 replace h := cond_f hb h
 refine W.skip ?_
 refine W.wk (env' := [(0, .str a1)]) ?_
 refine W.seq ?_
 refine W.rg ?_
 obtain ⟨w8, hw8, h⟩ := bind_some h
 refine WO.ck 1 (F := 21) (l := [.str a1]) (C := []) (r := l3 none w8) (run_ix_suffixes a1 w8 hw8) (e1 := [(0, .str a1), (7, .str a1), (8, l3 none w8)]) ?_
 refine WO.fn (e2 := [(2, l3 none w8), (3, .int .i64 0)]) ?_
 refine W.wk (env' := [(2, l3 none w8), (3, .int .i64 0)]) ?_
 have hr : aresults Tryd.prog Tryd.f27 [(2, l3 none w8), (3, .int .i64 0)] = some (.tup [l3 none w8, .int .i64 0]) := by kernel_rfl
 cases h
 exact W.ret hr
def sl_Equal_int_j7 : Option Bool :=
 (some true)
def sl_Equal_int_l1 (a2 : (List Int)) (K7 : (Option Bool)) : List Int → Nat → Option Bool
 | [], k1 => K7
 | x1 :: r1, k1 => ((idx a2 (k1 : Int)).bind fun e12 => (bif (x1 != e12) then (some false) else (sl_Equal_int_l1 a2 K7 r1 (k1 + 1))))
def sl_Equal_int (a1 : (List Int)) (a2 : (List Int)) : Option Bool :=
 (bif ((a1.length : Int) != (a2.length : Int)) then (some false) else (chk (lenOk a1) (sl_Equal_int_l1 a2 (sl_Equal_int_j7) a1 0)))
theorem run_sl_Equal_int (a1 : (List Int)) (a2 : (List Int)) (r : Bool) (h : sl_Equal_int a1 a2 = some r) : Run Tryd.prog (.call 28 [l3 none a1, l3 none a2] (.bool r)) := by
 refine cW Tryd.func28 rfl (env0 := [(0, l3 none a1), (1, l3 none a2)]) ?_
 unfold sl_Equal_int at h
 refine W.seq ?_
 let z0 := fun t => EN ((0, l3 none a1) :: (1, l3 none a2) :: t)
 refine W.rt (e2 := z0 []) ?_
 refine W.seq ?_
 refine W.seq ?_
 refine W.rg ?_
 let z1 := fun t => z0 ((6, l3 none a1) :: (7, I6 (a1.length : Int)) :: t)
 refine WO.pk 1 (some (I6 ((M6 a1).length : Int))) (v := I6 (a1.length : Int)) (by rw [List.length_map]) (e1 := z1 []) ?_
 refine WO.pk 1 (some (I6 ((M6 a2).length : Int))) (v := I6 (a2.length : Int)) (by rw [List.length_map]) (e1 := z1 [(8, l3 none a2), (9, I6 (a2.length : Int))]) ?_
 refine WO.fn (e2 := z0 [(10, .bool ((a1.length : Int) != (a2.length : Int)))]) ?_
 refine W.cb ((a1.length : Int) != (a2.length : Int)) (fun hb => ?_) (fun hb => ?_)
 ·replace h := cond_t hb h
  refine W.seq ?_
  refine W.rt (e2 := [(4, .bool false)]) ?_
  refine W.wk (env' := [(4, .bool false)]) ?_
  have hr : aresults Tryd.prog Tryd.f28 [(4, .bool false)] = some (.bool false) := by kernel_rfl
  cases h
  exact W.ret hr
 replace h := cond_f hb h
 refine W.skip ?_
 refine W.wk (env' := z0 []) ?_
 refine W.seq ?_
 refine W.join (σ := Unit) (fun s => []) (fun s => (sl_Equal_int_j7) = some r) (fun s h => ?_) (fun hK7 => ?_)
 ·have h : (sl_Equal_int_j7) = some r := h
  unfold sl_Equal_int_j7 at h
  refine W.seq ?_
  refine W.rt (e2 := [(4, .bool true)]) ?_
  refine W.wk (env' := [(4, .bool true)]) ?_
  have hr : aresults Tryd.prog Tryd.f28 [(4, .bool true)] = some (.bool true) := by kernel_rfl
  cases h
  exact W.ret hr
 refine W.seq ?_
 refine W.rg ?_
 refine WO.pk 1 (some (I6 ((M6 a1).length : Int))) (v := I6 (a1.length : Int)) (by rw [List.length_map]) (e1 := z0 [(11, l3 none a1), (12, I6 (a1.length : Int))]) ?_
 let z2 := fun t => z0 ((12, I6 (a1.length : Int)) :: t)
 refine WO.fn (e2 := z2 [(13, .int .i64 0)]) ?_
 refine W.block ?_
 obtain ⟨hl1, h⟩ := chk_some h
 refine W.wk (env' := z2 [(13, I6 ((0 : Nat) : Int))]) ?_
 refine W.range (σ := Unit) a1 (fun k1 s => z2 [(13, I6 (k1 : Int))]) (fun r0 k0 s => sl_Equal_int_l1 a2 (sl_Equal_int_j7) r0 k0 = some r) (fun s h => ?_) (fun x1 r1 k1 s hx1 hk1 h hN1 => ?_) () h
 ·have h : sl_Equal_int_l1 a2 (sl_Equal_int_j7) [] (a1).length = some r := h
  rw [sl_Equal_int_l1.eq_1] at h
  refine W.seq ?_
  refine W.rg ?_
  let z3 := fun t => z2 ((13, I6 ((a1).length : Int)) :: (14, .bool false) :: t)
  refine WO.pk 0 (some (.bool (decide (((a1).length : Int) < (a1.length : Int))))) (v := .bool false) (by rw [lt_false (l := a1)]) (e1 := z3 []) ?_
  refine WO.fn (e2 := z3 []) ?_
  refine W.seq ?_
  refine W.cb false (fun h => Bool.noConfusion h) (fun _ => ?_)
  refine W.exit ?_
  refine W.wk (env' := []) ?_
  exact hK7 () h
 ·have h : sl_Equal_int_l1 a2 (sl_Equal_int_j7) (x1 :: r1) k1 = some r := h
  rw [sl_Equal_int_l1.eq_2] at h
  refine W.seq ?_
  refine W.rg ?_
  let z4 := fun t => z2 ((13, I6 (k1 : Int)) :: t)
  refine WO.pk 0 (some (.bool (decide ((k1 : Int) < (a1.length : Int))))) (v := .bool true) (by rw [lt_true hk1]) (e1 := z4 [(14, .bool true)]) ?_
  refine WO.fn (e2 := z4 [(14, .bool true)]) ?_
  refine W.seq ?_
  refine W.cb true (fun _ => ?_) (fun h => Bool.noConfusion h)
  refine W.skip ?_
  refine W.wk (env' := z4 []) ?_
  refine W.seq ?_
  refine W.block ?_
  refine W.seq ?_
  let z5 := fun t => z0 ((5, I6 (k1 : Int)) :: (12, I6 (a1.length : Int)) :: (13, I6 (k1 : Int)) :: t)
  refine W.rt (e2 := z5 []) ?_
  refine W.seq ?_
  refine W.rg ?_
  let z6 := fun t => z5 ((16, l3 none a1) :: (17, I6 (k1 : Int)) :: (18, .ptr (I6 x1)) :: t)
  refine WO.pk 2 (if (0 : Int) ≤ (k1 : Int) then ((M6 a1)[Int.toNat (k1 : Int)]?).map AV.ptr else none) (v := .ptr (I6 x1)) (idx_nat (f := (AV.int .i64)) hx1) (e1 := z6 []) ?_
  obtain ⟨e12, he12, h⟩ := bind_some h
  refine WO.pk 3 (if (0 : Int) ≤ (k1 : Int) then ((M6 a2)[Int.toNat (k1 : Int)]?).map AV.ptr else none) (v := .ptr (I6 e12)) (idx_av (f := (AV.int .i64)) he12) (e1 := z6 [(19, I6 x1), (20, l3 none a2), (21, I6 (k1 : Int)), (22, .ptr (I6 e12))]) ?_
  refine WO.fn (e2 := z4 [(24, .bool (x1 != e12))]) ?_
  refine W.cb (x1 != e12) (fun hb => ?_) (fun hb => ?_)
  ·replace h := cond_t hb h
   refine W.seq ?_
   refine W.rt (e2 := [(4, .bool false)]) ?_
   refine W.wk (env' := [(4, .bool false)]) ?_
   have hr : aresults Tryd.prog Tryd.f28 [(4, .bool false)] = some (.bool false) := by kernel_rfl
   cases h
   exact W.ret hr
  replace h := cond_f hb h
  refine W.skip ?_
  refine W.wk (env' := z4 []) ?_
  refine W.rg ?_
  refine WO.pk 0 (some (I6 (IntKind.wrap .i64 ((k1 : Int) + 1)))) (v := I6 ((k1 + 1 : Nat) : Int)) (by rw [wrap_succ hl1 hk1]) (e1 := z4 [(25, I6 ((k1 + 1 : Nat) : Int))]) ?_
  refine WO.fn (e2 := z2 [(13, I6 ((k1 + 1 : Nat) : Int))]) ?_
  exact hN1 () h
def lw4_awake_j4 (v6 : Bool) : Option Bool :=
 (some v6)
def lw4_awake : Option Bool :=
 ((ix_Sort (ByteArray.mk #[97, 98, 97, 98])).bind fun w3 => (bif (w3.2 == 0) then ((sl_Equal_int w3.1 [4, 2, 0, 3, 1]).bind fun w5 => ((lw4_awake_j4) w5)) else ((lw4_awake_j4) false)))
theorem run_lw4_awake  (r : Bool) (h : lw4_awake = some r) : Run Tryd.prog (.call 11 [] (.bool r)) := by
 refine cW Tryd.func11 rfl (env0 := []) ?_
 unfold lw4_awake at h
 refine W.seq ?_
 refine W.rt (e2 := []) ?_
 refine W.seq ?_
 refine W.rg ?_
 obtain ⟨w3, hw3, h⟩ := bind_some h
 refine WO.ck 0 (F := 27) (l := [.str (ByteArray.mk #[97, 98, 97, 98])]) (C := []) (r := .tup [l3 none w3.1, I6 w3.2]) (run_ix_Sort (ByteArray.mk #[97, 98, 97, 98]) w3 hw3) (e1 := [(4, .tup [l3 none w3.1, I6 w3.2])]) ?_
 let z0 := fun t => EN ((1, l3 none w3.1) :: (2, I6 w3.2) :: t)
 refine WO.fn (e2 := z0 []) ?_
 refine W.seq ?_
 refine W.join (σ := (Bool)) (fun s => [(0, .bool s)]) (fun s => (lw4_awake_j4) s = some r) (fun s h => ?_) (fun hK4 => ?_)
 ·obtain ⟨v6, rfl⟩ : ∃ x, x = s := ⟨s, rfl⟩
  have h : (lw4_awake_j4) v6 = some r := h
  unfold lw4_awake_j4 at h
  refine W.wk (env' := [(0, .bool v6)]) ?_
  have hr : aresults Tryd.prog Tryd.f11 [(0, .bool v6)] = some (.bool v6) := by kernel_rfl
  cases h
  exact W.ret hr
 refine W.rg ?_
 refine WO.bk 3 (fun b => z0 [(7, I6 w3.2), (8, .bool b), (9, .bool b)]) (w3.2 == 0) (fun hb => ?_) (fun hb => ?_)
 ·replace h := cond_t hb h
  obtain ⟨w5, hw5, h⟩ := bind_some h
  refine WO.ck 2 (F := 28) (l := [l3 none w3.1, l3 none [4, 2, 0, 3, 1]]) (C := []) (r := .bool w5) (run_sl_Equal_int w3.1 [4, 2, 0, 3, 1] w5 hw5) (e1 := z0 [(7, I6 w3.2), (8, .bool true), (9, .bool true), (10, l3 none w3.1), (11, l3 (some 11) [4, 2, 0, 3, 1]), (12, .bool w5)]) ?_
  refine WO.fn (e2 := [(0, .bool w5)]) ?_
  exact hK4 w5 h
 replace h := cond_f hb h
 refine WO.fn (e2 := [(0, .bool false)]) ?_
 exact hK4 false h
def rf4_Label_j3 (a1 : ByteArray) : Option Bool :=
 (some (decide ((a1.size : Int) ≤ 200)))
def rf4_Label_j7 (N1 : (Option Bool)) (v10 : Bool) : Option Bool :=
 (bif v10 then (some false) else N1)
def rf4_Label_l1 (a1 : ByteArray) (K3 : (Option Bool)) : List Nat → Nat → Option Bool
 | [], k1 => K3
 | x1 :: r1, k1 => ((sidx a1 (k1 : Int)).bind fun e8 => (bif (decide (e8 < 32)) then ((rf4_Label_j7 (rf4_Label_l1 a1 K3 r1 (k1 + 1))) true) else ((sidx a1 (k1 : Int)).bind fun e9 => ((rf4_Label_j7 (rf4_Label_l1 a1 K3 r1 (k1 + 1))) (decide (e9 > 126))))))
def rf4_Label (a1 : ByteArray) : Option Bool :=
 (chk (lenOk (List.range (Int.toNat (a1.size : Int)))) (rf4_Label_l1 a1 (rf4_Label_j3 a1) (List.range (Int.toNat (a1.size : Int))) 0))
theorem run_rf4_Label (a1 : ByteArray) (r : Bool) (h : rf4_Label a1 = some r) : Run Tryd.prog (.call 12 [.str a1] (.bool r)) := by
 refine cW Tryd.func12 rfl (env0 := [(0, .str a1)]) ?_
 unfold rf4_Label at h
 refine W.seq ?_
 let z0 := fun t => EN ((0, .str a1) :: t)
 refine W.rt (e2 := z0 []) ?_
 refine W.seq ?_
 refine W.join (σ := Unit) (fun s => z0 []) (fun s => (rf4_Label_j3 a1) = some r) (fun s h => ?_) (fun hK3 => ?_)
 ·have h : (rf4_Label_j3 a1) = some r := h
  unfold rf4_Label_j3 at h
  refine W.seq ?_
  let z1 := fun t => EN ((2, .bool (decide ((a1.size : Int) ≤ 200))) :: t)
  refine W.rt (e2 := z1 []) ?_
  refine W.wk (env' := z1 []) ?_
  have hr : aresults Tryd.prog Tryd.f12 [(2, .bool (decide ((a1.size : Int) ≤ 200)))] = some (.bool (decide ((a1.size : Int) ≤ 200))) := by kernel_rfl
  cases h
  exact W.ret hr
 refine W.seq ?_
 let z2 := fun t => z0 ((5, I6 (a1.size : Int)) :: t)
 refine W.rt (e2 := z2 [(6, .int .i64 0)]) ?_
 refine W.block ?_
 obtain ⟨hl1, h⟩ := chk_some h
 refine W.wk (env' := z2 [(6, I6 ((0 : Nat) : Int))]) ?_
 refine W.range (σ := Unit) (List.range (Int.toNat (a1.size : Int))) (fun k1 s => z2 [(6, I6 (k1 : Int))]) (fun r0 k0 s => rf4_Label_l1 a1 (rf4_Label_j3 a1) r0 k0 = some r) (fun s h => ?_) (fun x1 r1 k1 s hx1 hk1 h hN1 => ?_) () h
 ·have h : rf4_Label_l1 a1 (rf4_Label_j3 a1) [] ((List.range (Int.toNat (a1.size : Int)))).length = some r := h
  rw [rf4_Label_l1.eq_1] at h
  refine W.seq ?_
  refine W.rg ?_
  let z3 := fun t => z2 ((6, I6 (((List.range (Int.toNat (a1.size : Int)))).length : Int)) :: (7, .bool false) :: t)
  refine WO.pk 0 (some (.bool (decide ((((List.range (Int.toNat (a1.size : Int)))).length : Int) < (a1.size : Int))))) (v := .bool false) (by rw [ltr_false (n := (a1.size : Int))]) (e1 := z3 []) ?_
  refine WO.fn (e2 := z3 []) ?_
  refine W.seq ?_
  refine W.cb false (fun h => Bool.noConfusion h) (fun _ => ?_)
  refine W.exit ?_
  refine W.wk (env' := z0 []) ?_
  exact hK3 () h
 ·have h : rf4_Label_l1 a1 (rf4_Label_j3 a1) (x1 :: r1) k1 = some r := h
  rw [rf4_Label_l1.eq_2] at h
  refine W.seq ?_
  refine W.rg ?_
  let z4 := fun t => z2 ((6, I6 (k1 : Int)) :: t)
  refine WO.pk 0 (some (.bool (decide ((k1 : Int) < (a1.size : Int))))) (v := .bool true) (by rw [ltr_true hk1]) (e1 := z4 [(7, .bool true)]) ?_
  refine WO.fn (e2 := z4 [(7, .bool true)]) ?_
  refine W.seq ?_
  refine W.cb true (fun _ => ?_) (fun h => Bool.noConfusion h)
  refine W.skip ?_
  refine W.wk (env' := z4 []) ?_
  refine W.seq ?_
  refine W.block ?_
  refine W.seq ?_
  let z5 := fun t => z0 ((3, I6 (k1 : Int)) :: (5, I6 (a1.size : Int)) :: (6, I6 (k1 : Int)) :: t)
  refine W.rt (e2 := z5 []) ?_
  refine W.seq ?_
  refine W.join (σ := (Bool)) (fun s => z4 [(18, .bool s)]) (fun s => (rf4_Label_j7 (rf4_Label_l1 a1 (rf4_Label_j3 a1) r1 (k1 + 1))) s = some r) (fun s h => ?_) (fun hK7 => ?_)
  ·obtain ⟨v10, rfl⟩ : ∃ x, x = s := ⟨s, rfl⟩
   have h : (rf4_Label_j7 (rf4_Label_l1 a1 (rf4_Label_j3 a1) r1 (k1 + 1))) v10 = some r := h
   unfold rf4_Label_j7 at h
   refine W.cb v10 (fun hb => ?_) (fun hb => ?_)
   ·replace h := cond_t hb h
    refine W.seq ?_
    refine W.rt (e2 := [(2, .bool false)]) ?_
    refine W.wk (env' := [(2, .bool false)]) ?_
    have hr : aresults Tryd.prog Tryd.f12 [(2, .bool false)] = some (.bool false) := by kernel_rfl
    cases h
    exact W.ret hr
   replace h := cond_f hb h
   refine W.skip ?_
   refine W.wk (env' := z4 []) ?_
   refine W.rg ?_
   refine WO.pk 0 (some (I6 (IntKind.wrap .i64 ((k1 : Int) + 1)))) (v := I6 ((k1 + 1 : Nat) : Int)) (by rw [wrap_succ hl1 hk1]) (e1 := z4 [(19, I6 ((k1 + 1 : Nat) : Int))]) ?_
   refine WO.fn (e2 := z2 [(6, I6 ((k1 + 1 : Nat) : Int))]) ?_
   exact hN1 () h
  refine W.rg ?_
  obtain ⟨e8, he8, h⟩ := bind_some h
  let z6 := fun t => z5 ((9, .str a1) :: (10, I6 (k1 : Int)) :: (11, .int .u8 e8) :: t)
  refine WO.pk 2 (if (0 : Int) ≤ (k1 : Int) then (a1[Int.toNat (k1 : Int)]?).map fun b => AV.int .u8 b.toNat else none) (v := .int .u8 e8) (sidx_av he8) (e1 := z6 []) ?_
  refine WO.bk 2 (fun b => z6 [(12, .bool b), (13, .bool b)]) (decide (e8 < 32)) (fun hb => ?_) (fun hb => ?_)
  ·replace h := cond_t hb h
   refine WO.fn (e2 := z4 [(18, .bool true)]) ?_
   exact hK7 true h
  replace h := cond_f hb h
  obtain ⟨e9, he9, h⟩ := bind_some h
  refine WO.pk 2 (if (0 : Int) ≤ (k1 : Int) then (a1[Int.toNat (k1 : Int)]?).map fun b => AV.int .u8 b.toNat else none) (v := .int .u8 e9) (sidx_av he9) (e1 := z6 [(12, .bool false), (13, .bool false), (14, .str a1), (15, I6 (k1 : Int)), (16, .int .u8 e9)]) ?_
  refine WO.fn (e2 := z4 [(18, .bool (decide (e9 > 126)))]) ?_
  exact hK7 (decide (e9 > 126)) h
end Go.AM
