/- s -/
import Derived.Test.YtmfdgonjnckdhaaDoorDKT
set_option maxRecDepth 100000
set_option linter.unusedVariables false
set_option linter.unusedSimpArgs false
namespace Go.AM
open Go.Proofs
def st_ReplaceAll (a1 : ByteArray) (a2 : ByteArray) (a3 : ByteArray) : Option ByteArray := chk (decide (a1.size < 4294967281 ∧ 1 ≤ a2.size ∧ a3.size = 0)) (some (ByteArray.mk (Lib.replaceAll a1.data.toList a2.data.toList a3.data.toList).toArray))
theorem run_st_ReplaceAll (a1 : ByteArray) (a2 : ByteArray) (a3 : ByteArray) (r : ByteArray) (h : st_ReplaceAll a1 a2 a3 = some r) : Run Tryd.prog (.call 40 [.str a1, .str a2, .str a3] (.str r)) := by
 unfold st_ReplaceAll at h
 obtain ⟨hp, h⟩ := chk_some h
 cases h
 refine .ext rfl rfl fun w hg => ?_
 obtain ⟨m, hm⟩ := hg 0 (by simp [globs])
 obtain ⟨h1, h2, h3⟩ := of_decide_eq_true hp
 exact (Tryd.strings_ReplaceAll a1 a2 a3 m w h1 hm h2 (by rw [h3, Nat.mul_zero]; omega)).mono fun e w' hh => hh
def sl_IndexFunc_byte_j4 : Option Int :=
 (some (-1))
def sl_IndexFunc_byte_l1 (g2 : (Int → Option Bool)) (K4 : (Option Int)) : List Int → Nat → Option Int
 | [], k1 => K4
 | x1 :: r1, k1 => ((g2 x1).bind fun w9 => (bif w9 then (some (k1 : Int)) else (sl_IndexFunc_byte_l1 g2 K4 r1 (k1 + 1))))
def sl_IndexFunc_byte (a1 : (List Int)) (g2 : (Int → Option Bool)) : Option Int :=
 (chk (lenOk a1) (sl_IndexFunc_byte_l1 g2 (sl_IndexFunc_byte_j4) a1 0))
theorem run_sl_IndexFunc_byte (a1 : (List Int)) (g2 : (Int → Option Bool)) (F_g2 : Nat) (C_g2 : List AV) (hok_g2 : okFn Tryd.prog F_g2 = true) (hrun_g2 : ∀ (x0 : Int) r, g2 x0 = some r → Run Tryd.prog (.call F_g2 ([.int .u8 x0] ++ C_g2) (.bool r))) (r : Int) (h : sl_IndexFunc_byte a1 g2 = some r) : Run Tryd.prog (.call 75 [l5 none a1, .clo F_g2 C_g2] (I6 r)) := by
 refine cW Tryd.func75 rfl (env0 := [(0, l5 none a1), (1, .clo F_g2 C_g2)]) ?_
 unfold sl_IndexFunc_byte at h
 refine W.seq ?_
 let z0 := fun t => EN ((0, l5 none a1) :: (1, .clo F_g2 C_g2) :: t)
 refine W.rt (e2 := z0 []) ?_
 refine W.seq ?_
 refine W.join (σ := Unit) (fun s => []) (fun s => (sl_IndexFunc_byte_j4) = some r) (fun s h => ?_) (fun hK4 => ?_)
 ·have h : (sl_IndexFunc_byte_j4) = some r := h
  unfold sl_IndexFunc_byte_j4 at h
  refine W.seq ?_
  refine W.rt (e2 := [(4, I6 (-1))]) ?_
  refine W.wk (env' := [(4, I6 (-1))]) ?_
  have hr : aresults Tryd.prog Tryd.f75 [(4, I6 (-1))] = some (I6 (-1)) := by kernel_rfl
  cases h
  exact W.ret hr
 refine W.seq ?_
 refine W.rg ?_
 refine WO.pk 1 (some (I6 ((M8 a1).length : Int))) (v := I6 (a1.length : Int)) (by rw [List.length_map]) (e1 := z0 [(6, l5 none a1), (7, I6 (a1.length : Int))]) ?_
 let z1 := fun t => z0 ((7, I6 (a1.length : Int)) :: t)
 refine WO.fn (e2 := z1 [(8, .int .i64 0)]) ?_
 refine W.block ?_
 obtain ⟨hl1, h⟩ := chk_some h
 refine W.wk (env' := z1 [(8, I6 ((0 : Nat) : Int))]) ?_
 refine W.range (σ := Unit) a1 (fun k1 s => z1 [(8, I6 (k1 : Int))]) (fun r0 k0 s => sl_IndexFunc_byte_l1 g2 (sl_IndexFunc_byte_j4) r0 k0 = some r) (fun s h => ?_) (fun x1 r1 k1 s hx1 hk1 h hN1 => ?_) () h
 ·have h : sl_IndexFunc_byte_l1 g2 (sl_IndexFunc_byte_j4) [] (a1).length = some r := h
  rw [sl_IndexFunc_byte_l1.eq_1] at h
  refine W.seq ?_
  refine W.rg ?_
  let z2 := fun t => z1 ((8, I6 ((a1).length : Int)) :: (9, .bool false) :: t)
  refine WO.pk 0 (some (.bool (decide (((a1).length : Int) < (a1.length : Int))))) (v := .bool false) (by rw [lt_false (l := a1)]) (e1 := z2 []) ?_
  refine WO.fn (e2 := z2 []) ?_
  refine W.seq ?_
  refine W.cb false (fun h => Bool.noConfusion h) (fun _ => ?_)
  refine W.exit ?_
  refine W.wk (env' := []) ?_
  exact hK4 () h
 ·have h : sl_IndexFunc_byte_l1 g2 (sl_IndexFunc_byte_j4) (x1 :: r1) k1 = some r := h
  rw [sl_IndexFunc_byte_l1.eq_2] at h
  refine W.seq ?_
  refine W.rg ?_
  let z3 := fun t => z1 ((8, I6 (k1 : Int)) :: t)
  refine WO.pk 0 (some (.bool (decide ((k1 : Int) < (a1.length : Int))))) (v := .bool true) (by rw [lt_true hk1]) (e1 := z3 [(9, .bool true)]) ?_
  refine WO.fn (e2 := z3 [(9, .bool true)]) ?_
  refine W.seq ?_
  refine W.cb true (fun _ => ?_) (fun h => Bool.noConfusion h)
  refine W.skip ?_
  refine W.wk (env' := z3 []) ?_
  refine W.seq ?_
  refine W.block ?_
  refine W.seq ?_
  let z4 := fun t => z0 ((5, I6 (k1 : Int)) :: (7, I6 (a1.length : Int)) :: (8, I6 (k1 : Int)) :: t)
  refine W.rt (e2 := z4 []) ?_
  refine W.seq ?_
  refine W.rg ?_
  let z5 := fun t => z4 ((11, .clo F_g2 C_g2) :: (12, l5 none a1) :: (13, I6 (k1 : Int)) :: (14, .ptr (.int .u8 x1)) :: t)
  refine WO.pk 3 (if (0 : Int) ≤ (k1 : Int) then ((M8 a1)[Int.toNat (k1 : Int)]?).map AV.ptr else none) (v := .ptr (.int .u8 x1)) (idx_nat (f := (AV.int .u8)) hx1) (e1 := z5 []) ?_
  obtain ⟨w9, hw9, h⟩ := bind_some h
  refine WO.callK 1 (F := F_g2) (l := [.int .u8 x1]) (C := C_g2) (r := .bool w9) (by kernel_rfl) hok_g2 (hrun_g2 x1 w9 hw9) (e1 := z5 [(15, .int .u8 x1), (16, .bool w9)]) (by kernel_rfl) ?_
  refine WO.fn (e2 := z4 [(16, .bool w9)]) ?_
  refine W.cb w9 (fun hb => ?_) (fun hb => ?_)
  ·replace h := cond_t hb h
   refine W.seq ?_
   refine W.rt (e2 := [(4, I6 (k1 : Int))]) ?_
   refine W.wk (env' := [(4, I6 (k1 : Int))]) ?_
   have hr : aresults Tryd.prog Tryd.f75 [(4, I6 (k1 : Int))] = some (I6 (k1 : Int)) := by kernel_rfl
   cases h
   exact W.ret hr
  replace h := cond_f hb h
  refine W.skip ?_
  refine W.wk (env' := z3 []) ?_
  refine W.rg ?_
  refine WO.pk 0 (some (I6 (IntKind.wrap .i64 ((k1 : Int) + 1)))) (v := I6 ((k1 + 1 : Nat) : Int)) (by rw [wrap_succ hl1 hk1]) (e1 := z3 [(18, I6 ((k1 + 1 : Nat) : Int))]) ?_
  refine WO.fn (e2 := z1 [(8, I6 ((k1 + 1 : Nat) : Int))]) ?_
  exact hN1 () h
def sl_ContainsFunc_byte (a1 : (List Int)) (g2 : (Int → Option Bool)) : Option Bool :=
 ((sl_IndexFunc_byte a1 g2).bind fun w5 => (some (decide (w5 ≥ 0))))
theorem run_sl_ContainsFunc_byte (a1 : (List Int)) (g2 : (Int → Option Bool)) (F_g2 : Nat) (C_g2 : List AV) (hok_g2 : okFn Tryd.prog F_g2 = true) (hrun_g2 : ∀ (x0 : Int) r, g2 x0 = some r → Run Tryd.prog (.call F_g2 ([.int .u8 x0] ++ C_g2) (.bool r))) (r : Bool) (h : sl_ContainsFunc_byte a1 g2 = some r) : Run Tryd.prog (.call 59 [l5 none a1, .clo F_g2 C_g2] (.bool r)) := by
 refine cW Tryd.func59 rfl (env0 := [(0, l5 none a1), (1, .clo F_g2 C_g2)]) ?_
 unfold sl_ContainsFunc_byte at h
 refine W.seq ?_
 refine W.rt (e2 := [(0, l5 none a1), (1, .clo F_g2 C_g2)]) ?_
 refine W.seq ?_
 refine W.rg ?_
 obtain ⟨w5, hw5, h⟩ := bind_some h
 refine WO.ck 2 (F := 75) (l := [l5 none a1, .clo F_g2 C_g2]) (C := []) (r := I6 w5) (run_sl_IndexFunc_byte a1 g2 F_g2 C_g2 hok_g2 hrun_g2 w5 hw5) (e1 := [(0, l5 none a1), (1, .clo F_g2 C_g2), (5, l5 none a1), (6, .clo F_g2 C_g2), (7, I6 w5)]) ?_
 refine WO.fn (e2 := [(4, .bool (decide (w5 ≥ 0)))]) ?_
 refine W.wk (env' := [(4, .bool (decide (w5 ≥ 0)))]) ?_
 have hr : aresults Tryd.prog Tryd.f59 [(4, .bool (decide (w5 ≥ 0)))] = some (.bool (decide (w5 ≥ 0))) := by kernel_rfl
 cases h
 exact W.ret hr
def ix_printable_1_j3 (v4 : Bool) : Option Bool :=
 (some v4)
def ix_printable_1 (a1 : Int) : Option Bool :=
 (bif (decide (a1 < 32)) then ((ix_printable_1_j3) true) else ((ix_printable_1_j3) (decide (a1 > 126))))
theorem run_ix_printable_1 (a1 : Int) (r : Bool) (h : ix_printable_1 a1 = some r) : Run Tryd.prog (.call 60 [.int .u8 a1] (.bool r)) := by
 refine cW Tryd.func60 rfl (env0 := [(0, .int .u8 a1)]) ?_
 unfold ix_printable_1 at h
 refine W.seq ?_
 refine W.rt (e2 := [(0, .int .u8 a1)]) ?_
 refine W.seq ?_
 refine W.join (σ := (Bool)) (fun s => [(2, .bool s)]) (fun s => (ix_printable_1_j3) s = some r) (fun s h => ?_) (fun hK3 => ?_)
 ·obtain ⟨v4, rfl⟩ : ∃ x, x = s := ⟨s, rfl⟩
  have h : (ix_printable_1_j3) v4 = some r := h
  unfold ix_printable_1_j3 at h
  refine W.wk (env' := [(2, .bool v4)]) ?_
  have hr : aresults Tryd.prog Tryd.f60 [(2, .bool v4)] = some (.bool v4) := by kernel_rfl
  cases h
  exact W.ret hr
 refine W.rg ?_
 refine WO.bk 3 (fun b => [(0, .int .u8 a1), (3, .int .u8 a1), (4, .bool b), (5, .bool b)]) (decide (a1 < 32)) (fun hb => ?_) (fun hb => ?_)
 ·replace h := cond_t hb h
  refine WO.fn (e2 := [(2, .bool true)]) ?_
  exact hK3 true h
 replace h := cond_f hb h
 refine WO.fn (e2 := [(2, .bool (decide (a1 > 126)))]) ?_
 exact hK3 (decide (a1 > 126)) h
def ix_printable (a1 : ByteArray) : Option Bool :=
 ((sl_ContainsFunc_byte (bytesI a1) (fun y0 => ix_printable_1 y0)).bind fun w4 => (some (!w4)))
theorem run_ix_printable (a1 : ByteArray) (r : Bool) (h : ix_printable a1 = some r) : Run Tryd.prog (.call 35 [.str a1] (.bool r)) := by
 refine cW Tryd.func35 rfl (env0 := [(0, .str a1)]) ?_
 unfold ix_printable at h
 refine W.seq ?_
 refine W.rt (e2 := [(0, .str a1)]) ?_
 refine W.seq ?_
 refine W.rg ?_
 let z0 := fun t => EN ((0, .str a1) :: (3, .str a1) :: (4, l5 none (bytesI a1)) :: t)
 refine WO.pk 1 (some (AV.lst 5 1 none (bytesA a1))) (v := l5 none (bytesI a1)) (congrArg (fun l => some (AV.lst 5 1 none l)) (bytesA_map a1)) (e1 := z0 []) ?_
 obtain ⟨w4, hw4, h⟩ := bind_some h
 refine WO.ck 0 (F := 59) (l := [l5 none (bytesI a1), .clo 60 []]) (C := []) (r := .bool w4) (run_sl_ContainsFunc_byte (bytesI a1) (fun y0 => ix_printable_1 y0) 60 [] (by kernel_rfl) (fun y0 r h => run_ix_printable_1 y0 r h) w4 hw4) (e1 := z0 [(5, .bool w4)]) ?_
 refine WO.fn (e2 := [(2, .bool (!w4))]) ?_
 refine W.wk (env' := [(2, .bool (!w4))]) ?_
 have hr : aresults Tryd.prog Tryd.f35 [(2, .bool (!w4))] = some (.bool (!w4)) := by kernel_rfl
 cases h
 exact W.ret hr
def ix_column_j3 (v6 : Bool) : Option Bool :=
 (some v6)
def ix_column (a1 : ByteArray) : Option Bool :=
 (bif (decide ((a1.size : Int) ≤ 201)) then ((st_ReplaceAll a1 (ByteArray.mk #[10]) (ByteArray.mk #[])).bind fun w4 => ((ix_printable w4).bind fun w5 => ((ix_column_j3) w5))) else ((ix_column_j3) false))
theorem run_ix_column (a1 : ByteArray) (r : Bool) (h : ix_column a1 = some r) : Run Tryd.prog (.call 22 [.str a1] (.bool r)) := by
 refine cW Tryd.func22 rfl (env0 := [(0, .str a1)]) ?_
 unfold ix_column at h
 refine W.seq ?_
 refine W.rt (e2 := [(0, .str a1)]) ?_
 refine W.seq ?_
 refine W.join (σ := (Bool)) (fun s => [(2, .bool s)]) (fun s => (ix_column_j3) s = some r) (fun s h => ?_) (fun hK3 => ?_)
 ·obtain ⟨v6, rfl⟩ : ∃ x, x = s := ⟨s, rfl⟩
  have h : (ix_column_j3) v6 = some r := h
  unfold ix_column_j3 at h
  refine W.wk (env' := [(2, .bool v6)]) ?_
  have hr : aresults Tryd.prog Tryd.f22 [(2, .bool v6)] = some (.bool v6) := by kernel_rfl
  cases h
  exact W.ret hr
 refine W.rg ?_
 let z0 := fun t => EN ((0, .str a1) :: (3, .str a1) :: (4, I6 (a1.size : Int)) :: t)
 refine WO.bk 4 (fun b => z0 [(5, .bool b), (6, .bool b)]) (decide ((a1.size : Int) ≤ 201)) (fun hb => ?_) (fun hb => ?_)
 ·replace h := cond_t hb h
  obtain ⟨w4, hw4, h⟩ := bind_some h
  let z1 := fun t => z0 ((5, .bool true) :: (6, .bool true) :: (7, .str a1) :: (8, .str w4) :: t)
  refine WO.ck 1 (F := 40) (l := [.str a1, .str (ByteArray.mk #[10]), .str (ByteArray.mk #[])]) (C := []) (r := .str w4) (run_st_ReplaceAll a1 (ByteArray.mk #[10]) (ByteArray.mk #[]) w4 hw4) (e1 := z1 []) ?_
  obtain ⟨w5, hw5, h⟩ := bind_some h
  refine WO.ck 0 (F := 35) (l := [.str w4]) (C := []) (r := .bool w5) (run_ix_printable w4 w5 hw5) (e1 := z1 [(9, .bool w5)]) ?_
  refine WO.fn (e2 := [(2, .bool w5)]) ?_
  exact hK3 w5 h
 replace h := cond_f hb h
 refine WO.fn (e2 := [(2, .bool false)]) ?_
 exact hK3 false h
def sl_Compact_byte (a1 : (List Int)) (n1 : Nat) : Option (Nat × (List Int)) := chk (decide (n1 = a1.length ∧ a1.length ≤ 4611686018427387904)) (some ((compI a1).length, compI a1 ++ List.replicate (a1.length - (compI a1).length) 0))
theorem run_sl_Compact_byte (a1 : (List Int)) (n1 : Nat) (r : (Nat × (List Int))) (h : sl_Compact_byte a1 n1 = some r) : Run Tryd.prog (.callM 47 [.sb 2000000 5 1 0 n1] [O1 a1] (.sb 2000000 5 1 0 r.1) [(2000000, .obj 1000000005 1 (M8 r.2))]) := by
 unfold sl_Compact_byte at h
 obtain ⟨hp, h⟩ := chk_some h
 cases h
 obtain ⟨h1, h3⟩ := of_decide_eq_true hp
 subst h1
 by_cases h2 : a1 = []
 ·subst h2
  exact .extM compactNone47 (fun id x hx => by simp only [look] at hx; split at hx <;> cases hx; rfl)
 exact .extM (compact47 h2 h3) (fun id x hx => by simp only [look] at hx; split at hx <;> cases hx; rfl)
def ix_grow_j10 (a2 : (List Int)) (K0 : ((List Int) → (List Int) → Option (Option ixwavelet))) (v32 : (List Int)) (v33 : (List Int)) (v34 : (List Int)) (v35 : (List Int)) (v36 : (Option ixwavelet)) (v37 : (Option ixwavelet)) : Option (Option ixwavelet) :=
 (chk (decide ((0 : Int) ≤ 0 ∧ 0 ≤ (IntKind.wrap .i64 (((IntKind.wrap .i64 ((a2.length : Int) + 1))).tdiv 2)) ∧ (IntKind.wrap .i64 (((IntKind.wrap .i64 ((a2.length : Int) + 1))).tdiv 2)) ≤ (IntKind.wrap .i64 (((IntKind.wrap .i64 ((a2.length : Int) + 1))).tdiv 2)) ∧ (IntKind.wrap .i64 (((IntKind.wrap .i64 ((a2.length : Int) + 1))).tdiv 2)) ≤ (a2.length : Int))) ((K0 v32 ((a2.take (Int.toNat (IntKind.wrap .i64 (((IntKind.wrap .i64 ((a2.length : Int) + 1))).tdiv 2)))).drop (Int.toNat 0))).bind fun w40 => ((sub a2 (IntKind.wrap .i64 (((IntKind.wrap .i64 ((a2.length : Int) + 1))).tdiv 2)) (a2.length : Int)).bind fun e42 => ((K0 v33 e42).bind fun w43 => (some (some (ixwavelet.mk v34 v35 w40 w43)))))))
def ix_grow_l1 (a2 : (List Int)) (K10 : ((List Int) → (List Int) → (List Int) → (List Int) → (Option ixwavelet) → (Option ixwavelet) → Option (Option ixwavelet))) : List Int → Nat → (List Int) → (List Int) → (List Int) → (List Int) → (Option ixwavelet) → (Option ixwavelet) → Option (Option ixwavelet)
 | [], k1, v12, v13, v14, v15, v16, v17 => (K10 v12 v13 v14 v15 v16 v17)
 | x1 :: r1, k1, v12, v13, v14, v15, v16, v17 => ((idx a2 (IntKind.wrap .i64 (((IntKind.wrap .i64 ((a2.length : Int) + 1))).tdiv 2))).bind fun e23 => (bif (decide (x1 ≥ e23)) then (chk (capOk 1 ((v13 ++ [x1])).length) ((idx v15 (IntKind.wrap .i64 ((v15.length : Int) - 1))).bind fun e26 => (chk (capOk 8 ((v15 ++ [(IntKind.wrap .i64 (e26 + 1))])).length) ((ix_grow_l1 a2 K10 r1 (k1 + 1)) v12 (v13 ++ [x1]) v14 (v15 ++ [(IntKind.wrap .i64 (e26 + 1))]) v16 v17)))) else (chk (capOk 1 ((v12 ++ [x1])).length) ((idx v15 (IntKind.wrap .i64 ((v15.length : Int) - 1))).bind fun e30 => (chk (capOk 8 ((v15 ++ [(IntKind.wrap .i64 (e30 + 0))])).length) ((ix_grow_l1 a2 K10 r1 (k1 + 1)) (v12 ++ [x1]) v13 v14 (v15 ++ [(IntKind.wrap .i64 (e30 + 0))]) v16 v17))))))
def ix_grow : Nat → (List Int) → (List Int) → Option (Option ixwavelet)
 | 0, _, _ => none
 | fuel + 1, a1, a2 => (bif (decide ((a2.length : Int) < 2)) then (some (some (ixwavelet.mk a2 [0] none none))) else (chk (lenOk a1) (ix_grow_l1 a2 (ix_grow_j10 a2 (ix_grow fuel)) a1 0 ([] : (List Int)) ([] : (List Int)) a2 [0] none none)))
theorem run_ix_grow : ∀ (fuel : Nat) (a1 : (List Int)) (a2 : (List Int)) (r : (Option ixwavelet)) (h : ix_grow fuel a1 a2 = some r), Run Tryd.prog (.call 46 [l5 none a1, l5 none a2] (ep_ixwavelet r)) := by
 intro fuel
 induction fuel with
 | zero => intro a1 a2 r h; cases h
 | succ fuel ih =>
  intro a1 a2 r h
  refine cW Tryd.func46 rfl (env0 := [(0, l5 none a1), (1, l5 none a2)]) ?_
  rw [ix_grow.eq_2] at h
  refine W.seq ?_
  let z0 := fun t => EN ((0, l5 none a1) :: (1, l5 none a2) :: t)
  refine W.rt (e2 := z0 []) ?_
  refine W.seq ?_
  refine W.rg ?_
  refine WO.agrK 2 (e1 := z0 [(11, l5 none a2), (12, l3 (some 12) [0]), (13, .agr [l5 none a2, l3 (some 12) [0], .optr true .und, .optr true .und])]) (by kernel_rfl) ?_
  let z1 := fun t => z0 ((5, .pb 14 0) :: (14, .box [l5 none a2, l3 (some 12) [0], .optr true .und, .optr true .und]) :: t)
  refine WO.fn (e2 := z1 []) ?_
  refine W.seq ?_
  refine W.seq ?_
  refine W.rg ?_
  refine WO.pk 1 (some (I6 ((M8 a2).length : Int))) (v := I6 (a2.length : Int)) (by rw [List.length_map]) (e1 := z1 [(15, l5 none a2), (16, I6 (a2.length : Int))]) ?_
  refine WO.fn (e2 := z1 [(17, .bool (decide ((a2.length : Int) < 2)))]) ?_
  refine W.cb (decide ((a2.length : Int) < 2)) (fun hb => ?_) (fun hb => ?_)
  ·replace h := cond_t hb h
   refine W.seq ?_
   refine W.rt (e2 := [(4, .pb 14 0), (14, .box [l5 none a2, l3 (some 12) [0], .optr true .und, .optr true .und])]) ?_
   refine W.mv [.frz 14] (env' := [(4, .ptr (.agg [l5 none a2, l3 none [0], .optr true .und, .optr true .und])), (14, .ptr (.agg [l5 none a2, l3 none [0], .optr true .und, .optr true .und]))]) (by kernel_rfl) ?_
   let z2 := fun t => EN ((4, .optr false (.agg [l5 none a2, l3 none [0], .optr true .und, .optr true .und])) :: t)
   refine W.mv [.cast 4] (env' := z2 [(14, .ptr (.agg [l5 none a2, l3 none [0], .optr true .und, .optr true .und]))]) (by kernel_rfl) ?_
   refine W.wk (env' := z2 []) ?_
   have hr : aresults Tryd.prog Tryd.f46 [(4, .optr false (.agg [l5 none a2, l3 none [0], .optr true .und, .optr true .und]))] = some (.optr false (.agg [l5 none a2, l3 none [0], .optr true .und, .optr true .und])) := by kernel_rfl
   cases h
   exact W.ret hr
  replace h := cond_f hb h
  refine W.skip ?_
  refine W.wk (env' := z1 []) ?_
  refine W.seq ?_
  refine W.rg ?_
  refine WO.pk 1 (some (I6 ((M8 a2).length : Int))) (v := I6 (a2.length : Int)) (by rw [List.length_map]) (e1 := z1 [(19, l5 none a2), (20, I6 (a2.length : Int))]) ?_
  let z3 := fun t => z0 ((5, .pb 14 0) :: (6, I6 (W6 (((W6 ((a2.length : Int) + 1))).tdiv 2))) :: t)
  refine WO.fn (e2 := z3 [(14, .box [l5 none a2, l3 (some 12) [0], .optr true .und, .optr true .und])]) ?_
  refine W.seq ?_
  let z4 := fun t => z3 ((7, .box [.nils, .nils]) :: (14, .box [l5 none a2, l3 (some 12) [0], .optr true .und, .optr true .und]) :: t)
  refine W.rt (e2 := z4 []) ?_
  refine W.seq ?_
  let z5 := fun t => EN ((1, l5 none a2) :: (5, .pb 14 0) :: (6, I6 (W6 (((W6 ((a2.length : Int) + 1))).tdiv 2))) :: t)
  refine W.join (σ := ((List Int) × (List Int) × (List Int) × (List Int) × (Option ixwavelet) × (Option ixwavelet))) (fun s => z5 [(7, .box [l5 (some 10700) s.1, l5 (some 10701) s.2.1]), (14, .box [l5 none s.2.2.1, l3 (some 11401) s.2.2.2.1, ep_ixwavelet s.2.2.2.2.1, ep_ixwavelet s.2.2.2.2.2])]) (fun s => (ix_grow_j10 a2 (ix_grow fuel)) s.1 s.2.1 s.2.2.1 s.2.2.2.1 s.2.2.2.2.1 s.2.2.2.2.2 = some r) (fun s h => ?_) (fun hK10 => ?_)
  ·obtain ⟨v32, v33, v34, v35, v36, v37⟩ := s
   have h : (ix_grow_j10 a2 (ix_grow fuel)) v32 v33 v34 v35 v36 v37 = some r := h
   unfold ix_grow_j10 at h
   refine W.seq ?_
   refine W.rg ?_
   obtain ⟨hc39, h⟩ := chk_some h
   let z6 := fun t => z5 ((7, .box [l5 (some 10700) v32, l5 (some 10701) v33]) :: (14, .box [l5 none v34, l3 (some 11401) v35, ep_ixwavelet v36, ep_ixwavelet v37]) :: (67, .pb 14 0) :: (68, .pb 7 0) :: (69, l5 (some 10700) v32) :: (70, l5 none a2) :: (71, I6 (W6 (((W6 ((a2.length : Int) + 1))).tdiv 2))) :: (72, I6 (W6 (((W6 ((a2.length : Int) + 1))).tdiv 2))) :: (73, l5 none ((a2.take (Int.toNat (W6 (((W6 ((a2.length : Int) + 1))).tdiv 2)))).drop (Int.toNat 0))) :: t)
   refine WO.pk 6 (if (0 : Int) ≤ 0 ∧ 0 ≤ (W6 (((W6 ((a2.length : Int) + 1))).tdiv 2)) ∧ (W6 (((W6 ((a2.length : Int) + 1))).tdiv 2)) ≤ (W6 (((W6 ((a2.length : Int) + 1))).tdiv 2)) ∧ (W6 (((W6 ((a2.length : Int) + 1))).tdiv 2)) ≤ ((M8 a2).length : Int) then some (.lst 5 1 none (((M8 a2).take (Int.toNat (W6 (((W6 ((a2.length : Int) + 1))).tdiv 2)))).drop (Int.toNat 0))) else none) (v := l5 none ((a2.take (Int.toNat (W6 (((W6 ((a2.length : Int) + 1))).tdiv 2)))).drop (Int.toNat 0))) (sub3_av (f := (AV.int .u8)) hc39) (e1 := z6 []) ?_
   obtain ⟨w40, hw40, h⟩ := bind_some h
   refine WO.ck 0 (F := 46) (l := [l5 none v32, l5 none ((a2.take (Int.toNat (W6 (((W6 ((a2.length : Int) + 1))).tdiv 2)))).drop (Int.toNat 0))]) (C := []) (r := ep_ixwavelet w40) (ih v32 ((a2.take (Int.toNat (W6 (((W6 ((a2.length : Int) + 1))).tdiv 2)))).drop (Int.toNat 0)) w40 hw40) (e1 := z6 [(74, ep_ixwavelet w40)]) ?_
   let z7 := fun t => z5 ((7, .box [l5 (some 10700) v32, l5 (some 10701) v33]) :: (14, .box [l5 none v34, l3 (some 11401) v35, ep_ixwavelet w40, ep_ixwavelet v37]) :: t)
   refine WO.fn (e2 := z7 []) ?_
   refine W.seq ?_
   refine W.rg ?_
   obtain ⟨e42, he42, h⟩ := bind_some h
   let z8 := fun t => z7 ((77, .pb 14 0) :: (78, .pb 7 1) :: (79, l5 (some 10701) v33) :: (80, l5 none a2) :: (81, I6 (W6 (((W6 ((a2.length : Int) + 1))).tdiv 2))) :: (82, l5 none e42) :: t)
   refine WO.pk 5 (if (0 : Int) ≤ (W6 (((W6 ((a2.length : Int) + 1))).tdiv 2)) ∧ (W6 (((W6 ((a2.length : Int) + 1))).tdiv 2)) ≤ ((M8 a2).length : Int) ∧ ((M8 a2).length : Int) ≤ ((M8 a2).length : Int) then some (.lst 5 1 none (((M8 a2).take (Int.toNat ((M8 a2).length : Int))).drop (Int.toNat (W6 (((W6 ((a2.length : Int) + 1))).tdiv 2))))) else none) (v := l5 none e42) (sub_av_len he42) (e1 := z8 []) ?_
   obtain ⟨w43, hw43, h⟩ := bind_some h
   refine WO.ck 0 (F := 46) (l := [l5 none v33, l5 none e42]) (C := []) (r := ep_ixwavelet w43) (ih v33 e42 w43 hw43) (e1 := z8 [(83, ep_ixwavelet w43)]) ?_
   refine WO.fn (e2 := [(5, .pb 14 0), (14, .box [l5 none v34, l3 (some 11401) v35, ep_ixwavelet w40, ep_ixwavelet w43])]) ?_
   refine W.seq ?_
   refine W.rt (e2 := [(4, .pb 14 0), (14, .box [l5 none v34, l3 (some 11401) v35, ep_ixwavelet w40, ep_ixwavelet w43])]) ?_
   refine W.mv [.frz 14] (env' := [(4, .ptr (.agg [l5 none v34, l3 none v35, ep_ixwavelet w40, ep_ixwavelet w43])), (14, .ptr (.agg [l5 none v34, l3 none v35, ep_ixwavelet w40, ep_ixwavelet w43]))]) (by kernel_rfl) ?_
   let z9 := fun t => EN ((4, .optr false (.agg [l5 none v34, l3 none v35, ep_ixwavelet w40, ep_ixwavelet w43])) :: t)
   refine W.mv [.cast 4] (env' := z9 [(14, .ptr (.agg [l5 none v34, l3 none v35, ep_ixwavelet w40, ep_ixwavelet w43]))]) (by kernel_rfl) ?_
   refine W.wk (env' := z9 []) ?_
   have hr : aresults Tryd.prog Tryd.f46 [(4, .optr false (.agg [l5 none v34, l3 none v35, ep_ixwavelet w40, ep_ixwavelet w43]))] = some (.optr false (.agg [l5 none v34, l3 none v35, ep_ixwavelet w40, ep_ixwavelet w43])) := by kernel_rfl
   cases h
   exact W.ret hr
  refine W.seq ?_
  refine W.rg ?_
  refine WO.pk 1 (some (I6 ((M8 a1).length : Int))) (v := I6 (a1.length : Int)) (by rw [List.length_map]) (e1 := z4 [(23, l5 none a1), (24, I6 (a1.length : Int))]) ?_
  refine WO.fn (e2 := z5 [(7, .box [.nils, .nils]), (14, .box [l5 none a2, l3 (some 12) [0], .optr true .und, .optr true .und]), (23, l5 none a1), (24, I6 (a1.length : Int)), (25, .int .i64 0)]) ?_
  refine W.block ?_
  obtain ⟨hl1, h⟩ := chk_some h
  refine W.weak [1, 5, 6, 7, 14, 23, 24, 25] [] [(7, 0, 5, 1, 10700), (7, 1, 5, 1, 10701)] [(12, some 11401)] (env' := z5 [(7, .box [l5 (some 10700) ([] : (List Int)), l5 (some 10701) ([] : (List Int))]), (14, .box [l5 none a2, l3 (some 11401) [0], ep_ixwavelet none, ep_ixwavelet none]), (23, l5 none a1), (24, I6 (a1.length : Int)), (25, I6 ((0 : Nat) : Int))]) (by kernel_rfl) ?_
  refine W.range (σ := ((List Int) × (List Int) × (List Int) × (List Int) × (Option ixwavelet) × (Option ixwavelet))) a1 (fun k1 s => z5 [(7, .box [l5 (some 10700) s.1, l5 (some 10701) s.2.1]), (14, .box [l5 none s.2.2.1, l3 (some 11401) s.2.2.2.1, ep_ixwavelet s.2.2.2.2.1, ep_ixwavelet s.2.2.2.2.2]), (23, l5 none a1), (24, I6 (a1.length : Int)), (25, I6 (k1 : Int))]) (fun r0 k0 s => ix_grow_l1 a2 (ix_grow_j10 a2 (ix_grow fuel)) r0 k0 s.1 s.2.1 s.2.2.1 s.2.2.2.1 s.2.2.2.2.1 s.2.2.2.2.2 = some r) (fun s h => ?_) (fun x1 r1 k1 s hx1 hk1 h hN1 => ?_) (([] : (List Int)), ([] : (List Int)), a2, [0], none, none) h
  ·obtain ⟨v12, v13, v14, v15, v16, v17⟩ := s
   have h : ix_grow_l1 a2 (ix_grow_j10 a2 (ix_grow fuel)) [] (a1).length v12 v13 v14 v15 v16 v17 = some r := h
   rw [ix_grow_l1.eq_1] at h
   refine W.seq ?_
   refine W.rg ?_
   let z10 := fun t => z5 ((7, .box [l5 (some 10700) v12, l5 (some 10701) v13]) :: (14, .box [l5 none v14, l3 (some 11401) v15, ep_ixwavelet v16, ep_ixwavelet v17]) :: t)
   let z11 := fun t => z10 ((23, l5 none a1) :: (24, I6 (a1.length : Int)) :: (25, I6 ((a1).length : Int)) :: (26, .bool false) :: t)
   refine WO.pk 0 (some (.bool (decide (((a1).length : Int) < (a1.length : Int))))) (v := .bool false) (by rw [lt_false (l := a1)]) (e1 := z11 []) ?_
   refine WO.fn (e2 := z11 []) ?_
   refine W.seq ?_
   refine W.cb false (fun h => Bool.noConfusion h) (fun _ => ?_)
   refine W.exit ?_
   refine W.wk (env' := z10 []) ?_
   exact hK10 (v12, v13, v14, v15, v16, v17) h
  ·obtain ⟨v12, v13, v14, v15, v16, v17⟩ := s
   have h : ix_grow_l1 a2 (ix_grow_j10 a2 (ix_grow fuel)) (x1 :: r1) k1 v12 v13 v14 v15 v16 v17 = some r := h
   rw [ix_grow_l1.eq_2] at h
   refine W.seq ?_
   refine W.rg ?_
   let z12 := fun t => z5 ((7, .box [l5 (some 10700) v12, l5 (some 10701) v13]) :: (14, .box [l5 none v14, l3 (some 11401) v15, ep_ixwavelet v16, ep_ixwavelet v17]) :: (23, l5 none a1) :: (24, I6 (a1.length : Int)) :: (25, I6 (k1 : Int)) :: t)
   refine WO.pk 0 (some (.bool (decide ((k1 : Int) < (a1.length : Int))))) (v := .bool true) (by rw [lt_true hk1]) (e1 := z12 [(26, .bool true)]) ?_
   refine WO.fn (e2 := z12 [(26, .bool true)]) ?_
   refine W.seq ?_
   refine W.cb true (fun _ => ?_) (fun h => Bool.noConfusion h)
   refine W.skip ?_
   refine W.wk (env' := z12 []) ?_
   refine W.seq ?_
   refine W.block ?_
   refine W.seq ?_
   refine W.rg ?_
   refine WO.pk 0 (if (0 : Int) ≤ (k1 : Int) then ((M8 a1)[Int.toNat (k1 : Int)]?).map AV.ptr else none) (v := .ptr (.int .u8 x1)) (idx_nat (f := (AV.int .u8)) hx1) (e1 := z12 [(27, .ptr (.int .u8 x1))]) ?_
   let z13 := fun t => z5 ((7, .box [l5 (some 10700) v12, l5 (some 10701) v13]) :: (9, .int .u8 x1) :: t)
   refine WO.fn (e2 := z13 [(14, .box [l5 none v14, l3 (some 11401) v15, ep_ixwavelet v16, ep_ixwavelet v17]), (23, l5 none a1), (24, I6 (a1.length : Int)), (25, I6 (k1 : Int))]) ?_
   refine W.seq ?_
   let z14 := fun t => z13 ((10, .int .i64 0) :: (14, .box [l5 none v14, l3 (some 11401) v15, ep_ixwavelet v16, ep_ixwavelet v17]) :: (23, l5 none a1) :: (24, I6 (a1.length : Int)) :: (25, I6 (k1 : Int)) :: t)
   refine W.rt (e2 := z14 []) ?_
   refine W.seq ?_
   refine W.seq ?_
   refine W.rg ?_
   obtain ⟨e23, he23, h⟩ := bind_some h
   refine WO.pk 3 (if (0 : Int) ≤ (W6 (((W6 ((a2.length : Int) + 1))).tdiv 2)) then ((M8 a2)[Int.toNat (W6 (((W6 ((a2.length : Int) + 1))).tdiv 2))]?).map AV.ptr else none) (v := .ptr (.int .u8 e23)) (idx_av (f := (AV.int .u8)) he23) (e1 := z14 [(29, .int .u8 x1), (30, l5 none a2), (31, I6 (W6 (((W6 ((a2.length : Int) + 1))).tdiv 2))), (32, .ptr (.int .u8 e23))]) ?_
   refine WO.fn (e2 := z14 [(34, .bool (decide (x1 ≥ e23)))]) ?_
   refine W.cb (decide (x1 ≥ e23)) (fun hb => ?_) (fun hb => ?_)
   ·replace h := cond_t hb h
    refine W.rt (e2 := z13 [(10, .int .i64 1), (14, .box [l5 none v14, l3 (some 11401) v15, ep_ixwavelet v16, ep_ixwavelet v17]), (23, l5 none a1), (24, I6 (a1.length : Int)), (25, I6 (k1 : Int))]) ?_
    refine W.seq ?_
    refine W.rg ?_
    obtain ⟨hc25, h⟩ := chk_some h
    refine WO.appendK 6 (d := 41) (e := 5) (s := 1) (bytes := 1) (xs := (M8 v13)) (ys := (M8 [x1])) (zs := (M8 (v13 ++ [x1]))) (env1 := [(1, l5 none a2), (5, .pb 14 0), (6, I6 (W6 (((W6 ((a2.length : Int) + 1))).tdiv 2))), (7, .box [l5 (some 10700) v12, l5 none v13]), (9, .int .u8 x1), (10, .int .i64 1), (14, .box [l5 none v14, l3 (some 11401) v15, ep_ixwavelet v16, ep_ixwavelet v17]), (23, l5 none a1), (24, I6 (a1.length : Int)), (25, I6 (k1 : Int)), (35, .int .i64 1), (36, .int .i64 1), (37, .pb 7 1), (38, l5 none v13), (39, .int .u8 x1), (40, l5 (some 40) [x1])]) (by kernel_rfl) (List.map_append.symm) (by rw [List.length_map]; exact hc25) (e1 := z5 [(7, .box [l5 (some 10700) v12, l5 none v13]), (9, .int .u8 x1), (10, .int .i64 1), (14, .box [l5 none v14, l3 (some 11401) v15, ep_ixwavelet v16, ep_ixwavelet v17]), (23, l5 none a1), (24, I6 (a1.length : Int)), (25, I6 (k1 : Int)), (35, .int .i64 1), (36, .int .i64 1), (37, .pb 7 1), (38, l5 none v13), (39, .int .u8 x1), (40, l5 (some 40) [x1]), (41, l5 (some 41) (v13 ++ [x1]))]) (by kernel_rfl) ?_
    let z15 := fun t => z5 ((7, .box [l5 (some 10700) v12, l5 (some 41) (v13 ++ [x1])]) :: (10, .int .i64 1) :: (14, .box [l5 none v14, l3 (some 11401) v15, ep_ixwavelet v16, ep_ixwavelet v17]) :: (23, l5 none a1) :: (24, I6 (a1.length : Int)) :: (25, I6 (k1 : Int)) :: t)
    refine WO.fn (e2 := z15 []) ?_
    refine W.regionP [0, 1, 2, 3, 4, 5, 6, 7, 8, 9, 10, 11, 12, 13, 14, 15, 16, 17, 18, 19, 20, 21, 22, 23] (by kernel_rfl) ?_
    let z16 := fun t => z15 ((43, .pb 14 0) :: (44, .pb 14 0) :: (45, .pb 14 0) :: (46, .pb 14 1) :: (47, l3 (some 11401) v15) :: (48, .pb 14 0) :: (49, .pb 14 0) :: (50, .pb 14 1) :: (51, l3 (some 11401) v15) :: (52, .pb 14 0) :: (53, .pb 14 0) :: (54, .pb 14 1) :: (55, l3 (some 11401) v15) :: (56, I6 (v15.length : Int)) :: t)
    refine WO.pk 13 (some (I6 ((M6 v15).length : Int))) (v := I6 (v15.length : Int)) (by rw [List.length_map]) (e1 := z16 []) ?_
    obtain ⟨e26, he26, h⟩ := bind_some h
    refine WO.pk 1 (if (0 : Int) ≤ (W6 ((v15.length : Int) - 1)) then ((M6 v15)[Int.toNat (W6 ((v15.length : Int) - 1))]?).map AV.ptr else none) (v := .ptr (I6 e26)) (idx_av (f := (AV.int .i64)) he26) (e1 := z16 [(57, I6 (W6 ((v15.length : Int) - 1))), (58, .ptr (I6 e26))]) ?_
    obtain ⟨hc27, h⟩ := chk_some h
    let z17 := fun t => z5 ((7, .box [l5 (some 10700) v12, l5 (some 41) (v13 ++ [x1])]) :: t)
    refine WO.appendK 4 (d := 63) (e := 3) (s := 1) (bytes := 8) (xs := (M6 v15)) (ys := (M6 [(W6 (e26 + 1))])) (zs := (M6 (v15 ++ [(W6 (e26 + 1))]))) (env1 := [(1, l5 none a2), (5, .pb 14 0), (6, I6 (W6 (((W6 ((a2.length : Int) + 1))).tdiv 2))), (7, .box [l5 (some 10700) v12, l5 (some 41) (v13 ++ [x1])]), (10, .int .i64 1), (14, .box [l5 none v14, l3 none v15, ep_ixwavelet v16, ep_ixwavelet v17]), (23, l5 none a1), (24, I6 (a1.length : Int)), (25, I6 (k1 : Int)), (43, .pb 14 0), (44, .pb 14 0), (45, .pb 14 0), (46, .pb 14 1), (47, l3 none v15), (48, .pb 14 0), (49, .pb 14 0), (50, .pb 14 1), (51, l3 none v15), (52, .pb 14 0), (53, .pb 14 0), (54, .pb 14 1), (55, l3 none v15), (56, I6 (v15.length : Int)), (57, I6 (W6 ((v15.length : Int) - 1))), (58, .ptr (I6 e26)), (59, I6 e26), (60, .int .i64 1), (61, I6 (W6 (e26 + 1))), (62, l3 none [(W6 (e26 + 1))])]) (by kernel_rfl) (List.map_append.symm) (by rw [List.length_map]; exact hc27) (e1 := z17 [(10, .int .i64 1), (14, .box [l5 none v14, l3 none v15, ep_ixwavelet v16, ep_ixwavelet v17]), (23, l5 none a1), (24, I6 (a1.length : Int)), (25, I6 (k1 : Int)), (43, .pb 14 0), (44, .pb 14 0), (45, .pb 14 0), (46, .pb 14 1), (47, l3 none v15), (48, .pb 14 0), (49, .pb 14 0), (50, .pb 14 1), (51, l3 none v15), (52, .pb 14 0), (53, .pb 14 0), (54, .pb 14 1), (55, l3 none v15), (56, I6 (v15.length : Int)), (57, I6 (W6 ((v15.length : Int) - 1))), (58, .ptr (I6 e26)), (59, I6 e26), (60, .int .i64 1), (61, I6 (W6 (e26 + 1))), (62, l3 none [(W6 (e26 + 1))]), (63, l3 (some 63) (v15 ++ [(W6 (e26 + 1))]))]) (by kernel_rfl) ?_
    refine WO.fn (e2 := z17 [(14, .box [l5 none v14, l3 (some 63) (v15 ++ [(W6 (e26 + 1))]), ep_ixwavelet v16, ep_ixwavelet v17]), (23, l5 none a1), (24, I6 (a1.length : Int)), (25, I6 (k1 : Int))]) ?_
    refine W.rg ?_
    refine WO.pk 0 (some (I6 (IntKind.wrap .i64 ((k1 : Int) + 1)))) (v := I6 ((k1 + 1 : Nat) : Int)) (by rw [wrap_succ hl1 hk1]) (e1 := [(1, l5 none a2), (5, .pb 14 0), (6, I6 (IntKind.wrap .i64 (((IntKind.wrap .i64 ((a2.length : Int) + 1))).tdiv 2))), (7, .box [l5 (some 10700) v12, l5 (some 41) (v13 ++ [x1])]), (14, .box [l5 none v14, l3 (some 63) (v15 ++ [(IntKind.wrap .i64 (e26 + 1))]), ep_ixwavelet v16, ep_ixwavelet v17]), (23, l5 none a1), (24, I6 (a1.length : Int)), (25, I6 (k1 : Int)), (66, I6 ((k1 + 1 : Nat) : Int))]) ?_
    refine WO.fin [1, 5, 6, 7, 14, 23, 24, 25] [] [] [(41, some 10701), (63, some 11401)] (e2 := z5 [(7, .box [l5 (some 10700) v12, l5 (some 10701) (v13 ++ [x1])]), (14, .box [l5 none v14, l3 (some 11401) (v15 ++ [(W6 (e26 + 1))]), ep_ixwavelet v16, ep_ixwavelet v17]), (23, l5 none a1), (24, I6 (a1.length : Int)), (25, I6 ((k1 + 1 : Nat) : Int))]) (by kernel_rfl) (fun _ h => h) ?_
    exact hN1 (v12, (v13 ++ [x1]), v14, (v15 ++ [(W6 (e26 + 1))]), v16, v17) h
   replace h := cond_f hb h
   refine W.skip ?_
   refine W.wk (env' := z14 []) ?_
   refine W.seq ?_
   refine W.rg ?_
   obtain ⟨hc29, h⟩ := chk_some h
   refine WO.appendK 6 (d := 41) (e := 5) (s := 1) (bytes := 1) (xs := (M8 v12)) (ys := (M8 [x1])) (zs := (M8 (v12 ++ [x1]))) (env1 := [(1, l5 none a2), (5, .pb 14 0), (6, I6 (W6 (((W6 ((a2.length : Int) + 1))).tdiv 2))), (7, .box [l5 none v12, l5 (some 10701) v13]), (9, .int .u8 x1), (10, .int .i64 0), (14, .box [l5 none v14, l3 (some 11401) v15, ep_ixwavelet v16, ep_ixwavelet v17]), (23, l5 none a1), (24, I6 (a1.length : Int)), (25, I6 (k1 : Int)), (35, .int .i64 0), (36, .int .i64 0), (37, .pb 7 0), (38, l5 none v12), (39, .int .u8 x1), (40, l5 (some 40) [x1])]) (by kernel_rfl) (List.map_append.symm) (by rw [List.length_map]; exact hc29) (e1 := z5 [(7, .box [l5 none v12, l5 (some 10701) v13]), (9, .int .u8 x1), (10, .int .i64 0), (14, .box [l5 none v14, l3 (some 11401) v15, ep_ixwavelet v16, ep_ixwavelet v17]), (23, l5 none a1), (24, I6 (a1.length : Int)), (25, I6 (k1 : Int)), (35, .int .i64 0), (36, .int .i64 0), (37, .pb 7 0), (38, l5 none v12), (39, .int .u8 x1), (40, l5 (some 40) [x1]), (41, l5 (some 41) (v12 ++ [x1]))]) (by kernel_rfl) ?_
   let z18 := fun t => z5 ((7, .box [l5 (some 41) (v12 ++ [x1]), l5 (some 10701) v13]) :: (10, .int .i64 0) :: (14, .box [l5 none v14, l3 (some 11401) v15, ep_ixwavelet v16, ep_ixwavelet v17]) :: (23, l5 none a1) :: (24, I6 (a1.length : Int)) :: (25, I6 (k1 : Int)) :: t)
   refine WO.fn (e2 := z18 []) ?_
   refine W.regionP [0, 1, 2, 3, 4, 5, 6, 7, 8, 9, 10, 11, 12, 13, 14, 15, 16, 17, 18, 19, 20, 21, 22, 23] (by kernel_rfl) ?_
   let z19 := fun t => z18 ((43, .pb 14 0) :: (44, .pb 14 0) :: (45, .pb 14 0) :: (46, .pb 14 1) :: (47, l3 (some 11401) v15) :: (48, .pb 14 0) :: (49, .pb 14 0) :: (50, .pb 14 1) :: (51, l3 (some 11401) v15) :: (52, .pb 14 0) :: (53, .pb 14 0) :: (54, .pb 14 1) :: (55, l3 (some 11401) v15) :: (56, I6 (v15.length : Int)) :: t)
   refine WO.pk 13 (some (I6 ((M6 v15).length : Int))) (v := I6 (v15.length : Int)) (by rw [List.length_map]) (e1 := z19 []) ?_
   obtain ⟨e30, he30, h⟩ := bind_some h
   refine WO.pk 1 (if (0 : Int) ≤ (W6 ((v15.length : Int) - 1)) then ((M6 v15)[Int.toNat (W6 ((v15.length : Int) - 1))]?).map AV.ptr else none) (v := .ptr (I6 e30)) (idx_av (f := (AV.int .i64)) he30) (e1 := z19 [(57, I6 (W6 ((v15.length : Int) - 1))), (58, .ptr (I6 e30))]) ?_
   obtain ⟨hc31, h⟩ := chk_some h
   let z20 := fun t => z5 ((7, .box [l5 (some 41) (v12 ++ [x1]), l5 (some 10701) v13]) :: t)
   refine WO.appendK 4 (d := 63) (e := 3) (s := 1) (bytes := 8) (xs := (M6 v15)) (ys := (M6 [(W6 (e30 + 0))])) (zs := (M6 (v15 ++ [(W6 (e30 + 0))]))) (env1 := [(1, l5 none a2), (5, .pb 14 0), (6, I6 (W6 (((W6 ((a2.length : Int) + 1))).tdiv 2))), (7, .box [l5 (some 41) (v12 ++ [x1]), l5 (some 10701) v13]), (10, .int .i64 0), (14, .box [l5 none v14, l3 none v15, ep_ixwavelet v16, ep_ixwavelet v17]), (23, l5 none a1), (24, I6 (a1.length : Int)), (25, I6 (k1 : Int)), (43, .pb 14 0), (44, .pb 14 0), (45, .pb 14 0), (46, .pb 14 1), (47, l3 none v15), (48, .pb 14 0), (49, .pb 14 0), (50, .pb 14 1), (51, l3 none v15), (52, .pb 14 0), (53, .pb 14 0), (54, .pb 14 1), (55, l3 none v15), (56, I6 (v15.length : Int)), (57, I6 (W6 ((v15.length : Int) - 1))), (58, .ptr (I6 e30)), (59, I6 e30), (60, .int .i64 0), (61, I6 (W6 (e30 + 0))), (62, l3 none [(W6 (e30 + 0))])]) (by kernel_rfl) (List.map_append.symm) (by rw [List.length_map]; exact hc31) (e1 := z20 [(10, .int .i64 0), (14, .box [l5 none v14, l3 none v15, ep_ixwavelet v16, ep_ixwavelet v17]), (23, l5 none a1), (24, I6 (a1.length : Int)), (25, I6 (k1 : Int)), (43, .pb 14 0), (44, .pb 14 0), (45, .pb 14 0), (46, .pb 14 1), (47, l3 none v15), (48, .pb 14 0), (49, .pb 14 0), (50, .pb 14 1), (51, l3 none v15), (52, .pb 14 0), (53, .pb 14 0), (54, .pb 14 1), (55, l3 none v15), (56, I6 (v15.length : Int)), (57, I6 (W6 ((v15.length : Int) - 1))), (58, .ptr (I6 e30)), (59, I6 e30), (60, .int .i64 0), (61, I6 (W6 (e30 + 0))), (62, l3 none [(W6 (e30 + 0))]), (63, l3 (some 63) (v15 ++ [(W6 (e30 + 0))]))]) (by kernel_rfl) ?_
   refine WO.fn (e2 := z20 [(14, .box [l5 none v14, l3 (some 63) (v15 ++ [(W6 (e30 + 0))]), ep_ixwavelet v16, ep_ixwavelet v17]), (23, l5 none a1), (24, I6 (a1.length : Int)), (25, I6 (k1 : Int))]) ?_
   refine W.rg ?_
   refine WO.pk 0 (some (I6 (IntKind.wrap .i64 ((k1 : Int) + 1)))) (v := I6 ((k1 + 1 : Nat) : Int)) (by rw [wrap_succ hl1 hk1]) (e1 := [(1, l5 none a2), (5, .pb 14 0), (6, I6 (IntKind.wrap .i64 (((IntKind.wrap .i64 ((a2.length : Int) + 1))).tdiv 2))), (7, .box [l5 (some 41) (v12 ++ [x1]), l5 (some 10701) v13]), (14, .box [l5 none v14, l3 (some 63) (v15 ++ [(IntKind.wrap .i64 (e30 + 0))]), ep_ixwavelet v16, ep_ixwavelet v17]), (23, l5 none a1), (24, I6 (a1.length : Int)), (25, I6 (k1 : Int)), (66, I6 ((k1 + 1 : Nat) : Int))]) ?_
   refine WO.fin [1, 5, 6, 7, 14, 23, 24, 25] [] [] [(41, some 10700), (63, some 11401)] (e2 := z5 [(7, .box [l5 (some 10700) (v12 ++ [x1]), l5 (some 10701) v13]), (14, .box [l5 none v14, l3 (some 11401) (v15 ++ [(W6 (e30 + 0))]), ep_ixwavelet v16, ep_ixwavelet v17]), (23, l5 none a1), (24, I6 (a1.length : Int)), (25, I6 ((k1 + 1 : Nat) : Int))]) (by kernel_rfl) (fun _ h => h) ?_
   exact hN1 ((v12 ++ [x1]), v13, v14, (v15 ++ [(W6 (e30 + 0))]), v16, v17) h
def ix_tree (fuel : Nat) (a1 : ByteArray) : Option (Option ixwavelet) :=
 (chk (Nat.ble a1.size maxLen) ((sl_Sort_byte fuel (bytesI a1) (((bytesI a1)).length)).bind fun w6 => ((sl_Compact_byte w6 (((bytesI a1)).length)).bind fun w8 => ((ix_grow fuel (bytesI a1) (snap 0 w8.1 w8.2)).bind fun w9 => (some w9)))))
theorem run_ix_tree (fuel : Nat) (a1 : ByteArray) (r : (Option ixwavelet)) (h : ix_tree fuel a1 = some r) : Run Tryd.prog (.call 30 [.str a1] (ep_ixwavelet r)) := by
 refine cW Tryd.func30 rfl (env0 := [(0, .str a1)]) ?_
 unfold ix_tree at h
 refine W.seq ?_
 let z0 := fun t => EN ((0, .str a1) :: t)
 refine W.rt (e2 := z0 []) ?_
 refine W.seq ?_
 refine W.rg ?_
 obtain ⟨hc4, h⟩ := chk_some h
 refine WO.convK 1 (q := a1) (d := 5) (e := 5) (n2 := ((bytesI a1)).length) (zs := (M8 (bytesI a1))) (by kernel_rfl) hc4 (bytesA_map _) (bytesI_size _) (e1 := z0 [(4, .str a1), (5, .sb 1000005 5 1 0 (((bytesI a1)).length)), (1000005, .obj 1000000005 1 (M8 (bytesI a1)))]) (by kernel_rfl) ?_
 let z1 := fun t => z0 ((3, .sb 1000005 5 1 0 (((bytesI a1)).length)) :: t)
 refine WO.fn (e2 := z1 [(1000005, .obj 1000000005 1 (M8 (bytesI a1)))]) ?_
 refine W.seq ?_
 refine W.rg ?_
 obtain ⟨w6, hw6, h⟩ := bind_some h
 refine WO.cm 1 [(1000005, 2000000)] [] (F := 17) (args := [.sb 2000000 5 1 0 (((bytesI a1)).length)]) (hp := [(2000000, .obj 1000000005 1 (M8 (bytesI a1)))]) (hp2 := [O1 w6]) (r := .tup []) (run_sl_Sort_byte fuel (bytesI a1) (((bytesI a1)).length) w6 hw6) (e1 := z1 [(6, .sb 1000005 5 1 0 (((bytesI a1)).length)), (7, .tup []), (1000005, .obj 1000000005 1 (M8 w6))]) ?_
 refine WO.fn (e2 := z1 [(1000005, .obj 1000000005 1 (M8 w6))]) ?_
 refine W.seq ?_
 refine W.rg ?_
 let z2 := fun t => z1 ((8, .str a1) :: (9, l5 none (bytesI a1)) :: t)
 refine WO.pk 1 (some (AV.lst 5 1 none (bytesA a1))) (v := l5 none (bytesI a1)) (congrArg (fun l => some (AV.lst 5 1 none l)) (bytesA_map a1)) (e1 := z2 [(1000005, .obj 1000000005 1 (M8 w6))]) ?_
 obtain ⟨w8, hw8, h⟩ := bind_some h
 refine WO.cm 1 [(1000005, 2000000)] [] (F := 47) (args := [.sb 2000000 5 1 0 (((bytesI a1)).length)]) (hp := [O1 w6]) (hp2 := [(2000000, .obj 1000000005 1 (M8 w8.2))]) (r := .sb 2000000 5 1 0 w8.1) (run_sl_Compact_byte w6 (((bytesI a1)).length) w8 hw8) (e1 := z2 [(10, .sb 1000005 5 1 0 (((bytesI a1)).length)), (11, .sb 1000005 5 1 0 w8.1), (1000005, .obj 1000000005 1 (M8 w8.2))]) ?_
 let z3 := fun t => z0 ((3, l5 none (snap 0 (((bytesI a1)).length) w8.2)) :: (8, .str a1) :: (9, l5 none (bytesI a1)) :: (10, l5 none (snap 0 (((bytesI a1)).length) w8.2)) :: (11, l5 none (snap 0 w8.1 w8.2)) :: t)
 refine WO.mv [.frz 1000005] (env' := z3 []) ((by kernel_rfl : mvAll [(0, .str a1), (3, .sb 1000005 5 1 0 (((bytesI a1)).length)), (8, .str a1), (9, l5 none (bytesI a1)), (10, .sb 1000005 5 1 0 (((bytesI a1)).length)), (11, .sb 1000005 5 1 0 w8.1), (1000005, .obj 1000000005 1 (M8 w8.2))] [.frz 1000005] = [(0, .str a1), (3, .lst 5 1 none (snapA 0 (((bytesI a1)).length) (M8 w8.2))), (8, .str a1), (9, l5 none (bytesI a1)), (10, .lst 5 1 none (snapA 0 (((bytesI a1)).length) (M8 w8.2))), (11, .lst 5 1 none (snapA 0 w8.1 (M8 w8.2)))]).trans (by first | (simp only [snap_map, snap_full, snap_rep]; done) | (simp only [snap_map, snap_full, snap_rep]; kernel_rfl))) ?_
 obtain ⟨w9, hw9, h⟩ := bind_some h
 refine WO.ck 0 (F := 46) (l := [l5 none (bytesI a1), l5 none (snap 0 w8.1 w8.2)]) (C := []) (r := ep_ixwavelet w9) (run_ix_grow fuel (bytesI a1) (snap 0 w8.1 w8.2) w9 hw9) (e1 := z3 [(12, ep_ixwavelet w9)]) ?_
 refine WO.fn (e2 := [(2, ep_ixwavelet w9)]) ?_
 refine W.wk (env' := [(2, ep_ixwavelet w9)]) ?_
 have hr : aresults Tryd.prog Tryd.f30 [(2, ep_ixwavelet w9)] = some (ep_ixwavelet w9) := by kernel_rfl
 cases h
 exact W.ret hr
end Go.AM
