/- s -/
import Derived.Test.YtmfdgonjnckdhaaCF1
set_option maxRecDepth 100000
set_option linter.unusedVariables false
set_option linter.unusedSimpArgs false
namespace Go.AM
open Go.Proofs
def sl_Reverse_byte_l1 (n2 : Nat) : Nat → (List Int) → Int → Int → Option (List Int)
 | 0, _, _, _ => none
 | m1 + 1, v4, v5, v6 => (bif (decide (v5 < v6)) then (chk (decide ((0 : Int) ≤ v6 ∧ v6 < ((n2 : Nat) : Int))) ((v4[(0 + Int.toNat v6)]?).bind fun e11 => (chk (decide ((0 : Int) ≤ v5 ∧ v5 < ((n2 : Nat) : Int))) ((v4[(0 + Int.toNat v5)]?).bind fun e13 => (chk (decide ((0 : Int) ≤ v5 ∧ v5 < ((n2 : Nat) : Int))) ((upd v4 (0 + Int.toNat v5) e11).bind fun u15 => (chk (decide ((0 : Int) ≤ v6 ∧ v6 < ((n2 : Nat) : Int))) ((upd u15 (0 + Int.toNat v6) e13).bind fun u18 => ((sl_Reverse_byte_l1 n2 m1) u18 (IntKind.wrap .i64 (v5 + 1)) (IntKind.wrap .i64 (v6 - 1))))))))))) else (some v4))
def sl_Reverse_byte (fuel : Nat) (a1 : (List Int)) (n2 : Nat) : Option (List Int) :=
 (sl_Reverse_byte_l1 n2 fuel a1 0 (IntKind.wrap .i64 (((n2 : Nat) : Int) - 1)))
theorem run_sl_Reverse_byte (fuel : Nat) (a1 : (List Int)) (n2 : Nat) (r : (List Int)) (h : sl_Reverse_byte fuel a1 n2 = some r) : Run Try.prog (.callM 55 [S1 n2] [O1 a1] (.tup []) [O1 r]) := by
 refine cM Try.func55 rfl (env0 := [(0, S1 n2), O1 a1]) ?_
 unfold sl_Reverse_byte at h
 refine W.seq ?_
 let z0 := fun t => EN ((0, S1 n2) :: t)
 let z1 := fun t => z0 ((2, .int .i64 0) :: (3, I6 (W6 (((n2 : Nat) : Int) - 1))) :: O1 a1 :: t)
 refine W.rt (e2 := z1 []) ?_
 refine W.block ?_
 refine W.wk (env' := z1 []) ?_
 refine W.fuel (σ := ((List Int) × Int × Int)) (fun s => z0 [(2, I6 s.2.1), (3, I6 s.2.2), (2000000, .obj 1000000005 1 (M8 s.1))]) (fun m0 s => sl_Reverse_byte_l1 n2 m0 s.1 s.2.1 s.2.2 = some r) (fun s h => ?_) (fun m1 s h hN1 => ?_) fuel (a1, 0, (W6 (((n2 : Nat) : Int) - 1))) h
 ·obtain ⟨v4, v5, v6⟩ := s
  have h : sl_Reverse_byte_l1 n2 0 v4 v5 v6 = some r := h
  rw [sl_Reverse_byte_l1.eq_1] at h
  cases h
 ·obtain ⟨v4, v5, v6⟩ := s
  have h : sl_Reverse_byte_l1 n2 (m1 + 1) v4 v5 v6 = some r := h
  rw [sl_Reverse_byte_l1.eq_2] at h
  refine W.seq ?_
  refine W.seq ?_
  let z2 := fun t => z0 ((2, I6 v5) :: (3, I6 v6) :: t)
  let z3 := fun t => z2 ((9, .bool (decide (v5 < v6))) :: O1 v4 :: t)
  refine W.rt (e2 := z3 []) ?_
  refine W.cb (decide (v5 < v6)) (fun hb => ?_) (fun hb => ?_)
  ·replace h := cond_t hb h
   refine W.skip ?_
   refine W.wk (env' := z2 [O1 v4]) ?_
   refine W.seq ?_
   refine W.block ?_
   refine W.rg ?_
   obtain ⟨hc10, h⟩ := chk_some h
   let z4 := fun t => z2 ((14, S1 n2) :: (15, I6 v5) :: (16, S1 n2) :: (17, I6 v6) :: (18, S1 n2) :: (19, I6 v6) :: (20, .pe 2000000 1 (0 + Int.toNat v6) 0) :: t)
   refine WO.pi 6 (v := .pe 2000000 1 (0 + Int.toNat v6) 0) hc10 (e1 := z4 [O1 v4]) ?_
   obtain ⟨e11, he11, h⟩ := bind_some h
   let z5 := fun t => z4 ((21, .int .u8 e11) :: t)
   refine WO.pl 0 (v := .int .u8 e11) (AV.int .u8) 5 0 he11 (e1 := z5 [O1 v4]) ?_
   obtain ⟨hc12, h⟩ := chk_some h
   let z6 := fun t => z5 ((22, S1 n2) :: (23, I6 v5) :: (24, .pe 2000000 1 (0 + Int.toNat v5) 0) :: t)
   refine WO.pi 2 (v := .pe 2000000 1 (0 + Int.toNat v5) 0) hc12 (e1 := z6 [O1 v4]) ?_
   obtain ⟨e13, he13, h⟩ := bind_some h
   let z7 := fun t => z6 ((25, .int .u8 e13) :: t)
   refine WO.pl 0 (v := .int .u8 e13) (AV.int .u8) 5 0 he13 (e1 := z7 [O1 v4]) ?_
   obtain ⟨hc14, h⟩ := chk_some h
   let z8 := fun t => z7 ((26, .pe 2000000 1 (0 + Int.toNat v5) 0) :: t)
   refine WO.pi 0 (v := .pe 2000000 1 (0 + Int.toNat v5) 0) hc14 (e1 := z8 [O1 v4]) ?_
   obtain ⟨u15, hu15, h⟩ := bind_some h
   obtain ⟨y16, hyy16, hzy16⟩ := upd_some hu15
   refine WO.sk 0 (id := 2000000) (e := 1000000005) (s := 1) (off := 0) (vs := [.int .u8 e11]) (AV.int .u8) hyy16 hzy16 (e1 := z8 [O1 u15]) ?_
   obtain ⟨hc17, h⟩ := chk_some h
   let z9 := fun t => z8 ((27, .pe 2000000 1 (0 + Int.toNat v6) 0) :: t)
   refine WO.pi 0 (v := .pe 2000000 1 (0 + Int.toNat v6) 0) hc17 (e1 := z9 [O1 u15]) ?_
   obtain ⟨u18, hu18, h⟩ := bind_some h
   obtain ⟨y19, hyy19, hzy19⟩ := upd_some hu18
   refine WO.sk 0 (id := 2000000) (e := 1000000005) (s := 1) (off := 0) (vs := [.int .u8 e13]) (AV.int .u8) hyy19 hzy19 (e1 := z9 [O1 u18]) ?_
   refine WO.fn (e2 := z2 [O1 u18]) ?_
   refine W.rt (e2 := z0 [(2, I6 (W6 (v5 + 1))), (3, I6 (W6 (v6 - 1))), O1 u18]) ?_
   exact hN1 (u18, (W6 (v5 + 1)), (W6 (v6 - 1))) h
  replace h := cond_f hb h
  have hr : PostM Try.prog Try.f55 (.tup []) [O1 v4] .normal (z3 []) := ⟨by kernel_rfl, by kernel_rfl⟩
  cases h
  exact W.exit hr
def lw4_turned (fuel : Nat) (a1 : ByteArray) : Option ByteArray :=
 (chk (Nat.ble a1.size maxLen) ((sl_Reverse_byte fuel (bytesI a1) (((bytesI a1)).length)).bind fun w6 => (some (strOfI (snap 0 (((bytesI a1)).length) w6)))))
theorem run_lw4_turned (fuel : Nat) (a1 : ByteArray) (r : ByteArray) (h : lw4_turned fuel a1 = some r) : Run Try.prog (.call 39 [.str a1] (.str r)) := by
 refine cW Try.func39 rfl (env0 := [(0, .str a1)]) ?_
 unfold lw4_turned at h
 refine W.seq ?_
 refine W.rt (e2 := [(0, .str a1)]) ?_
 refine W.seq ?_
 refine W.rg ?_
 obtain ⟨hc4, h⟩ := chk_some h
 refine WO.convK 1 (q := a1) (d := 5) (e := 5) (n2 := ((bytesI a1)).length) (zs := (M8 (bytesI a1))) (by kernel_rfl) hc4 (bytesA_map _) (bytesI_size _) (e1 := [(0, .str a1), (4, .str a1), (5, .sb 1000005 5 1 0 (((bytesI a1)).length)), (1000005, .obj 1000000005 1 (M8 (bytesI a1)))]) (by kernel_rfl) ?_
 let z0 := fun t => EN ((3, .sb 1000005 5 1 0 (((bytesI a1)).length)) :: t)
 refine WO.fn (e2 := z0 [(1000005, .obj 1000000005 1 (M8 (bytesI a1)))]) ?_
 refine W.seq ?_
 refine W.rg ?_
 obtain ⟨w6, hw6, h⟩ := bind_some h
 refine WO.cm 1 [(1000005, 2000000)] [] (F := 55) (args := [.sb 2000000 5 1 0 (((bytesI a1)).length)]) (hp := [(2000000, .obj 1000000005 1 (M8 (bytesI a1)))]) (hp2 := [O1 w6]) (r := .tup []) (run_sl_Reverse_byte fuel (bytesI a1) (((bytesI a1)).length) w6 hw6) (e1 := z0 [(6, .sb 1000005 5 1 0 (((bytesI a1)).length)), (7, .tup []), (1000005, .obj 1000000005 1 (M8 w6))]) ?_
 refine WO.fn (e2 := z0 [(1000005, .obj 1000000005 1 (M8 w6))]) ?_
 refine W.seq ?_
 refine W.rg ?_
 refine WO.steps 1 (e1 := z0 [(8, .sb 1000005 5 1 0 (((bytesI a1)).length)), (1000005, .obj 1000000005 1 (M8 w6))]) (by kernel_rfl) ?_
 let z1 := fun t => EN ((3, l5 none (snap 0 (((bytesI a1)).length) w6)) :: (8, l5 none (snap 0 (((bytesI a1)).length) w6)) :: t)
 refine WO.mv [.frz 1000005] (env' := z1 []) ((by kernel_rfl : mvAll [(3, .sb 1000005 5 1 0 (((bytesI a1)).length)), (8, .sb 1000005 5 1 0 (((bytesI a1)).length)), (1000005, .obj 1000000005 1 (M8 w6))] [.frz 1000005] = [(3, .lst 5 1 none (snapA 0 (((bytesI a1)).length) (M8 w6))), (8, .lst 5 1 none (snapA 0 (((bytesI a1)).length) (M8 w6)))]).trans (by first | (simp only [snap_map, snap_full, snap_rep]; done) | (simp only [snap_map, snap_full, snap_rep]; kernel_rfl))) ?_
 refine WO.pk 0 (match true, optAll ((M8 (snap 0 (((bytesI a1)).length) w6)).map byteOf) with | true, some ns => some (AV.str ⟨(ns.map fun n => UInt8.ofNat n.toNat).toArray⟩) | _, _ => none) (v := .str (strOfI (snap 0 (((bytesI a1)).length) w6))) (strOf_av (f := strOfI) (snap 0 (((bytesI a1)).length) w6)) (e1 := z1 [(9, .str (strOfI (snap 0 (((bytesI a1)).length) w6)))]) ?_
 let z2 := fun t => EN ((2, .str (strOfI (snap 0 (((bytesI a1)).length) w6))) :: t)
 refine WO.fn (e2 := z2 []) ?_
 refine W.wk (env' := z2 []) ?_
 have hr : aresults Try.prog Try.f39 [(2, .str (strOfI (snap 0 (((bytesI a1)).length) w6)))] = some (.str (strOfI (snap 0 (((bytesI a1)).length) w6))) := by kernel_rfl
 cases h
 exact W.ret hr
def rf4_Label_j3 (a1 : ByteArray) : Option Bool :=
 (some (decide ((a1.size : Int) ≤ 200)))
def rf4_Label_j7 (N1 : (Option Bool)) (v10 : Bool) : Option Bool :=
 (bif v10 then (some false) else N1)
def rf4_Label_l1 (a1 : ByteArray) (K3 : (Option Bool)) : List Nat → Nat → Option Bool
 | [], k1 => K3
 | x1 :: r1, k1 => ((sidx a1 (k1 : Int)).bind fun e8 => (bif (decide (e8 < 32)) then ((rf4_Label_j7 (rf4_Label_l1 a1 K3 r1 (k1 + 1))) true) else ((sidx a1 (k1 : Int)).bind fun e9 => ((rf4_Label_j7 (rf4_Label_l1 a1 K3 r1 (k1 + 1))) (decide (e9 > 126))))))
def rf4_Label (a1 : ByteArray) : Option Bool :=
 (chk (lenOk (List.range (Int.toNat (a1.size : Int)))) (rf4_Label_l1 a1 (rf4_Label_j3 a1) (List.range (Int.toNat (a1.size : Int))) 0))
theorem run_rf4_Label (a1 : ByteArray) (r : Bool) (h : rf4_Label a1 = some r) : Run Try.prog (.call 17 [.str a1] (.bool r)) := by
 refine cW Try.func17 rfl (env0 := [(0, .str a1)]) ?_
 unfold rf4_Label at h
 refine W.seq ?_
 let z0 := fun t => EN ((0, .str a1) :: t)
 refine W.rt (e2 := z0 []) ?_
 refine W.seq ?_
 refine W.join (σ := Unit) (fun s => z0 []) (fun s => (rf4_Label_j3 a1) = some r) (fun s h => ?_) (fun hK3 => ?_)
 ·have h : (rf4_Label_j3 a1) = some r := h
  unfold rf4_Label_j3 at h
  refine W.seq ?_
  let z1 := fun t => EN ((2, .bool (decide ((a1.size : Int) ≤ 200))) :: t)
  refine W.rt (e2 := z1 []) ?_
  refine W.wk (env' := z1 []) ?_
  have hr : aresults Try.prog Try.f17 [(2, .bool (decide ((a1.size : Int) ≤ 200)))] = some (.bool (decide ((a1.size : Int) ≤ 200))) := by kernel_rfl
  cases h
  exact W.ret hr
 refine W.seq ?_
 let z2 := fun t => z0 ((5, I6 (a1.size : Int)) :: t)
 refine W.rt (e2 := z2 [(6, .int .i64 0)]) ?_
 refine W.block ?_
 obtain ⟨hl1, h⟩ := chk_some h
 refine W.wk (env' := z2 [(6, I6 ((0 : Nat) : Int))]) ?_
 refine W.range (σ := Unit) (List.range (Int.toNat (a1.size : Int))) (fun k1 s => z2 [(6, I6 (k1 : Int))]) (fun r0 k0 s => rf4_Label_l1 a1 (rf4_Label_j3 a1) r0 k0 = some r) (fun s h => ?_) (fun x1 r1 k1 s hx1 hk1 h hN1 => ?_) () h
 ·have h : rf4_Label_l1 a1 (rf4_Label_j3 a1) [] ((List.range (Int.toNat (a1.size : Int)))).length = some r := h
  rw [rf4_Label_l1.eq_1] at h
  refine W.seq ?_
  refine W.rg ?_
  let z3 := fun t => z2 ((6, I6 (((List.range (Int.toNat (a1.size : Int)))).length : Int)) :: (7, .bool false) :: t)
  refine WO.pk 0 (some (.bool (decide ((((List.range (Int.toNat (a1.size : Int)))).length : Int) < (a1.size : Int))))) (v := .bool false) (by rw [ltr_false (n := (a1.size : Int))]) (e1 := z3 []) ?_
  refine WO.fn (e2 := z3 []) ?_
  refine W.seq ?_
  refine W.cb false (fun h => Bool.noConfusion h) (fun _ => ?_)
  refine W.exit ?_
  refine W.wk (env' := z0 []) ?_
  exact hK3 () h
 ·have h : rf4_Label_l1 a1 (rf4_Label_j3 a1) (x1 :: r1) k1 = some r := h
  rw [rf4_Label_l1.eq_2] at h
  refine W.seq ?_
  refine W.rg ?_
  let z4 := fun t => z2 ((6, I6 (k1 : Int)) :: t)
  refine WO.pk 0 (some (.bool (decide ((k1 : Int) < (a1.size : Int))))) (v := .bool true) (by rw [ltr_true hk1]) (e1 := z4 [(7, .bool true)]) ?_
  refine WO.fn (e2 := z4 [(7, .bool true)]) ?_
  refine W.seq ?_
  refine W.cb true (fun _ => ?_) (fun h => Bool.noConfusion h)
  refine W.skip ?_
  refine W.wk (env' := z4 []) ?_
  refine W.seq ?_
  refine W.block ?_
  refine W.seq ?_
  let z5 := fun t => z0 ((3, I6 (k1 : Int)) :: (5, I6 (a1.size : Int)) :: (6, I6 (k1 : Int)) :: t)
  refine W.rt (e2 := z5 []) ?_
  refine W.seq ?_
  refine W.join (σ := (Bool)) (fun s => z4 [(18, .bool s)]) (fun s => (rf4_Label_j7 (rf4_Label_l1 a1 (rf4_Label_j3 a1) r1 (k1 + 1))) s = some r) (fun s h => ?_) (fun hK7 => ?_)
  ·obtain ⟨v10, rfl⟩ : ∃ x, x = s := ⟨s, rfl⟩
   have h : (rf4_Label_j7 (rf4_Label_l1 a1 (rf4_Label_j3 a1) r1 (k1 + 1))) v10 = some r := h
   unfold rf4_Label_j7 at h
   refine W.cb v10 (fun hb => ?_) (fun hb => ?_)
   ·replace h := cond_t hb h
    refine W.seq ?_
    refine W.rt (e2 := [(2, .bool false)]) ?_
    refine W.wk (env' := [(2, .bool false)]) ?_
    have hr : aresults Try.prog Try.f17 [(2, .bool false)] = some (.bool false) := by kernel_rfl
    cases h
    exact W.ret hr
   replace h := cond_f hb h
   refine W.skip ?_
   refine W.wk (env' := z4 []) ?_
   refine W.rg ?_
   refine WO.pk 0 (some (I6 (IntKind.wrap .i64 ((k1 : Int) + 1)))) (v := I6 ((k1 + 1 : Nat) : Int)) (by rw [wrap_succ hl1 hk1]) (e1 := z4 [(19, I6 ((k1 + 1 : Nat) : Int))]) ?_
   refine WO.fn (e2 := z2 [(6, I6 ((k1 + 1 : Nat) : Int))]) ?_
   exact hN1 () h
  refine W.rg ?_
  obtain ⟨e8, he8, h⟩ := bind_some h
  let z6 := fun t => z5 ((9, .str a1) :: (10, I6 (k1 : Int)) :: (11, .int .u8 e8) :: t)
  refine WO.pk 2 (if (0 : Int) ≤ (k1 : Int) then (a1[Int.toNat (k1 : Int)]?).map fun b => AV.int .u8 b.toNat else none) (v := .int .u8 e8) (sidx_av he8) (e1 := z6 []) ?_
  refine WO.bk 2 (fun b => z6 [(12, .bool b), (13, .bool b)]) (decide (e8 < 32)) (fun hb => ?_) (fun hb => ?_)
  ·replace h := cond_t hb h
   refine WO.fn (e2 := z4 [(18, .bool true)]) ?_
   exact hK7 true h
  replace h := cond_f hb h
  obtain ⟨e9, he9, h⟩ := bind_some h
  refine WO.pk 2 (if (0 : Int) ≤ (k1 : Int) then (a1[Int.toNat (k1 : Int)]?).map fun b => AV.int .u8 b.toNat else none) (v := .int .u8 e9) (sidx_av he9) (e1 := z6 [(12, .bool false), (13, .bool false), (14, .str a1), (15, I6 (k1 : Int)), (16, .int .u8 e9)]) ?_
  refine WO.fn (e2 := z4 [(18, .bool (decide (e9 > 126)))]) ?_
  exact hK7 (decide (e9 > 126)) h
def ix_Sort (a1 : ByteArray) : Option ((List Int) × Int) :=
 ((ix_valid a1).bind fun w5 => (bif (!w5) then (some (([] : (List Int)), 2)) else ((ix_suffixes a1).bind fun w8 => (some (w8, 0)))))
theorem run_ix_Sort (a1 : ByteArray) (r : ((List Int) × Int)) (h : ix_Sort a1 = some r) : Run Try.prog (.call 15 [.str a1] (.tup [l3 none r.1, I6 r.2])) := by
 refine cW Try.func15 rfl (env0 := [(0, .str a1)]) ?_
 unfold ix_Sort at h
 refine W.seq ?_
 refine W.rt (e2 := [(0, .str a1)]) ?_
 refine W.seq ?_
 refine W.seq ?_
 refine W.rg ?_
 obtain ⟨w5, hw5, h⟩ := bind_some h
 refine WO.ck 1 (F := 40) (l := [.str a1]) (C := []) (r := .bool w5) (run_ix_valid a1 w5 hw5) (e1 := [(0, .str a1), (4, .str a1), (5, .bool w5)]) ?_
 refine WO.fn (e2 := [(0, .str a1), (6, .bool (!w5))]) ?_
 refine W.cb (!w5) (fun hb => ?_) (fun hb => ?_)
 ·replace h := cond_t hb h
  refine W.seq ?_
  refine W.rt (e2 := [(2, .nils), (3, .int .i64 2)]) ?_
  refine W.weak [2, 3] [] [(2, 0, 3, 1, 70002)] [] (env' := [(2, l3 (some 70002) ([] : (List Int))), (3, .int .i64 2)]) (by kernel_rfl) ?_
  have hr : aresults Try.prog Try.f15 [(2, l3 (some 70002) ([] : (List Int))), (3, .int .i64 2)] = some (.tup [l3 none ([] : (List Int)), .int .i64 2]) := by kernel_rfl
  cases h
  exact W.ret hr
 replace h := cond_f hb h
 refine W.skip ?_
 refine W.wk (env' := [(0, .str a1)]) ?_
 refine W.seq ?_
 refine W.rg ?_
 obtain ⟨w8, hw8, h⟩ := bind_some h
 refine WO.ck 1 (F := 41) (l := [.str a1]) (C := []) (r := l3 none w8) (run_ix_suffixes a1 w8 hw8) (e1 := [(0, .str a1), (7, .str a1), (8, l3 none w8)]) ?_
 refine WO.fn (e2 := [(2, l3 none w8), (3, .int .i64 0)]) ?_
 refine W.wk (env' := [(2, l3 none w8), (3, .int .i64 0)]) ?_
 have hr : aresults Try.prog Try.f15 [(2, l3 none w8), (3, .int .i64 0)] = some (.tup [l3 none w8, .int .i64 0]) := by kernel_rfl
 cases h
 exact W.ret hr
def sl_Equal_int_j7 : Option Bool :=
 (some true)
def sl_Equal_int_l1 (a2 : (List Int)) (K7 : (Option Bool)) : List Int → Nat → Option Bool
 | [], k1 => K7
 | x1 :: r1, k1 => ((idx a2 (k1 : Int)).bind fun e12 => (bif (x1 != e12) then (some false) else (sl_Equal_int_l1 a2 K7 r1 (k1 + 1))))
def sl_Equal_int (a1 : (List Int)) (a2 : (List Int)) : Option Bool :=
 (bif ((a1.length : Int) != (a2.length : Int)) then (some false) else (chk (lenOk a1) (sl_Equal_int_l1 a2 (sl_Equal_int_j7) a1 0)))
theorem run_sl_Equal_int (a1 : (List Int)) (a2 : (List Int)) (r : Bool) (h : sl_Equal_int a1 a2 = some r) : Run Try.prog (.call 19 [l3 none a1, l3 none a2] (.bool r)) := by
 refine cW Try.func19 rfl (env0 := [(0, l3 none a1), (1, l3 none a2)]) ?_
 unfold sl_Equal_int at h
 refine W.seq ?_
 let z0 := fun t => EN ((0, l3 none a1) :: (1, l3 none a2) :: t)
 refine W.rt (e2 := z0 []) ?_
 refine W.seq ?_
 refine W.seq ?_
 refine W.rg ?_
 let z1 := fun t => z0 ((6, l3 none a1) :: (7, I6 (a1.length : Int)) :: t)
 refine WO.pk 1 (some (I6 ((M6 a1).length : Int))) (v := I6 (a1.length : Int)) (by rw [List.length_map]) (e1 := z1 []) ?_
 refine WO.pk 1 (some (I6 ((M6 a2).length : Int))) (v := I6 (a2.length : Int)) (by rw [List.length_map]) (e1 := z1 [(8, l3 none a2), (9, I6 (a2.length : Int))]) ?_
 refine WO.fn (e2 := z0 [(10, .bool ((a1.length : Int) != (a2.length : Int)))]) ?_
 refine W.cb ((a1.length : Int) != (a2.length : Int)) (fun hb => ?_) (fun hb => ?_)
 ·replace h := cond_t hb h
  refine W.seq ?_
  refine W.rt (e2 := [(4, .bool false)]) ?_
  refine W.wk (env' := [(4, .bool false)]) ?_
  have hr : aresults Try.prog Try.f19 [(4, .bool false)] = some (.bool false) := by kernel_rfl
  cases h
  exact W.ret hr
 replace h := cond_f hb h
 refine W.skip ?_
 refine W.wk (env' := z0 []) ?_
 refine W.seq ?_
 refine W.join (σ := Unit) (fun s => []) (fun s => (sl_Equal_int_j7) = some r) (fun s h => ?_) (fun hK7 => ?_)
 ·have h : (sl_Equal_int_j7) = some r := h
  unfold sl_Equal_int_j7 at h
  refine W.seq ?_
  refine W.rt (e2 := [(4, .bool true)]) ?_
  refine W.wk (env' := [(4, .bool true)]) ?_
  have hr : aresults Try.prog Try.f19 [(4, .bool true)] = some (.bool true) := by kernel_rfl
  cases h
  exact W.ret hr
 refine W.seq ?_
 refine W.rg ?_
 refine WO.pk 1 (some (I6 ((M6 a1).length : Int))) (v := I6 (a1.length : Int)) (by rw [List.length_map]) (e1 := z0 [(11, l3 none a1), (12, I6 (a1.length : Int))]) ?_
 let z2 := fun t => z0 ((12, I6 (a1.length : Int)) :: t)
 refine WO.fn (e2 := z2 [(13, .int .i64 0)]) ?_
 refine W.block ?_
 obtain ⟨hl1, h⟩ := chk_some h
 refine W.wk (env' := z2 [(13, I6 ((0 : Nat) : Int))]) ?_
 refine W.range (σ := Unit) a1 (fun k1 s => z2 [(13, I6 (k1 : Int))]) (fun r0 k0 s => sl_Equal_int_l1 a2 (sl_Equal_int_j7) r0 k0 = some r) (fun s h => ?_) (fun x1 r1 k1 s hx1 hk1 h hN1 => ?_) () h
 ·have h : sl_Equal_int_l1 a2 (sl_Equal_int_j7) [] (a1).length = some r := h
  rw [sl_Equal_int_l1.eq_1] at h
  refine W.seq ?_
  refine W.rg ?_
  let z3 := fun t => z2 ((13, I6 ((a1).length : Int)) :: (14, .bool false) :: t)
  refine WO.pk 0 (some (.bool (decide (((a1).length : Int) < (a1.length : Int))))) (v := .bool false) (by rw [lt_false (l := a1)]) (e1 := z3 []) ?_
  refine WO.fn (e2 := z3 []) ?_
  refine W.seq ?_
  refine W.cb false (fun h => Bool.noConfusion h) (fun _ => ?_)
  refine W.exit ?_
  refine W.wk (env' := []) ?_
  exact hK7 () h
 ·have h : sl_Equal_int_l1 a2 (sl_Equal_int_j7) (x1 :: r1) k1 = some r := h
  rw [sl_Equal_int_l1.eq_2] at h
  refine W.seq ?_
  refine W.rg ?_
  let z4 := fun t => z2 ((13, I6 (k1 : Int)) :: t)
  refine WO.pk 0 (some (.bool (decide ((k1 : Int) < (a1.length : Int))))) (v := .bool true) (by rw [lt_true hk1]) (e1 := z4 [(14, .bool true)]) ?_
  refine WO.fn (e2 := z4 [(14, .bool true)]) ?_
  refine W.seq ?_
  refine W.cb true (fun _ => ?_) (fun h => Bool.noConfusion h)
  refine W.skip ?_
  refine W.wk (env' := z4 []) ?_
  refine W.seq ?_
  refine W.block ?_
  refine W.seq ?_
  let z5 := fun t => z0 ((5, I6 (k1 : Int)) :: (12, I6 (a1.length : Int)) :: (13, I6 (k1 : Int)) :: t)
  refine W.rt (e2 := z5 []) ?_
  refine W.seq ?_
  refine W.rg ?_
  let z6 := fun t => z5 ((16, l3 none a1) :: (17, I6 (k1 : Int)) :: (18, .ptr (I6 x1)) :: t)
  refine WO.pk 2 (if (0 : Int) ≤ (k1 : Int) then ((M6 a1)[Int.toNat (k1 : Int)]?).map AV.ptr else none) (v := .ptr (I6 x1)) (idx_nat (f := (AV.int .i64)) hx1) (e1 := z6 []) ?_
  obtain ⟨e12, he12, h⟩ := bind_some h
  refine WO.pk 3 (if (0 : Int) ≤ (k1 : Int) then ((M6 a2)[Int.toNat (k1 : Int)]?).map AV.ptr else none) (v := .ptr (I6 e12)) (idx_av (f := (AV.int .i64)) he12) (e1 := z6 [(19, I6 x1), (20, l3 none a2), (21, I6 (k1 : Int)), (22, .ptr (I6 e12))]) ?_
  refine WO.fn (e2 := z4 [(24, .bool (x1 != e12))]) ?_
  refine W.cb (x1 != e12) (fun hb => ?_) (fun hb => ?_)
  ·replace h := cond_t hb h
   refine W.seq ?_
   refine W.rt (e2 := [(4, .bool false)]) ?_
   refine W.wk (env' := [(4, .bool false)]) ?_
   have hr : aresults Try.prog Try.f19 [(4, .bool false)] = some (.bool false) := by kernel_rfl
   cases h
   exact W.ret hr
  replace h := cond_f hb h
  refine W.skip ?_
  refine W.wk (env' := z4 []) ?_
  refine W.rg ?_
  refine WO.pk 0 (some (I6 (IntKind.wrap .i64 ((k1 : Int) + 1)))) (v := I6 ((k1 + 1 : Nat) : Int)) (by rw [wrap_succ hl1 hk1]) (e1 := z4 [(25, I6 ((k1 + 1 : Nat) : Int))]) ?_
  refine WO.fn (e2 := z2 [(13, I6 ((k1 + 1 : Nat) : Int))]) ?_
  exact hN1 () h
def lw4_awake_j4 (v6 : Bool) : Option Bool :=
 (some v6)
def lw4_awake : Option Bool :=
 ((ix_Sort (ByteArray.mk #[97, 98, 97, 98])).bind fun w3 => (bif (w3.2 == 0) then ((sl_Equal_int w3.1 [4, 2, 0, 3, 1]).bind fun w5 => ((lw4_awake_j4) w5)) else ((lw4_awake_j4) false)))
theorem run_lw4_awake  (r : Bool) (h : lw4_awake = some r) : Run Try.prog (.call 18 [] (.bool r)) := by
 refine cW Try.func18 rfl (env0 := []) ?_
 unfold lw4_awake at h
 refine W.seq ?_
 refine W.rt (e2 := []) ?_
 refine W.seq ?_
 refine W.rg ?_
 obtain ⟨w3, hw3, h⟩ := bind_some h
 refine WO.ck 0 (F := 15) (l := [.str (ByteArray.mk #[97, 98, 97, 98])]) (C := []) (r := .tup [l3 none w3.1, I6 w3.2]) (run_ix_Sort (ByteArray.mk #[97, 98, 97, 98]) w3 hw3) (e1 := [(4, .tup [l3 none w3.1, I6 w3.2])]) ?_
 let z0 := fun t => EN ((1, l3 none w3.1) :: (2, I6 w3.2) :: t)
 refine WO.fn (e2 := z0 []) ?_
 refine W.seq ?_
 refine W.join (σ := (Bool)) (fun s => [(0, .bool s)]) (fun s => (lw4_awake_j4) s = some r) (fun s h => ?_) (fun hK4 => ?_)
 ·obtain ⟨v6, rfl⟩ : ∃ x, x = s := ⟨s, rfl⟩
  have h : (lw4_awake_j4) v6 = some r := h
  unfold lw4_awake_j4 at h
  refine W.wk (env' := [(0, .bool v6)]) ?_
  have hr : aresults Try.prog Try.f18 [(0, .bool v6)] = some (.bool v6) := by kernel_rfl
  cases h
  exact W.ret hr
 refine W.rg ?_
 refine WO.bk 3 (fun b => z0 [(7, I6 w3.2), (8, .bool b), (9, .bool b)]) (w3.2 == 0) (fun hb => ?_) (fun hb => ?_)
 ·replace h := cond_t hb h
  obtain ⟨w5, hw5, h⟩ := bind_some h
  refine WO.ck 2 (F := 19) (l := [l3 none w3.1, l3 none [4, 2, 0, 3, 1]]) (C := []) (r := .bool w5) (run_sl_Equal_int w3.1 [4, 2, 0, 3, 1] w5 hw5) (e1 := z0 [(7, I6 w3.2), (8, .bool true), (9, .bool true), (10, l3 none w3.1), (11, l3 (some 11) [4, 2, 0, 3, 1]), (12, .bool w5)]) ?_
  refine WO.fn (e2 := [(0, .bool w5)]) ?_
  exact hK4 w5 h
 replace h := cond_f hb h
 refine WO.fn (e2 := [(0, .bool false)]) ?_
 exact hK4 false h
def ix_agree_j5 (v12 : Int) : Option Int :=
 (some v12)
def ix_agree_j8 (v6 : Int) (N1 : (Int → Option Int)) (K5 : (Int → Option Int)) (v11 : Bool) : Option Int :=
 (bif v11 then (N1 (IntKind.wrap .i64 (v6 + 1))) else (K5 v6))
def ix_agree_l1 (a1 : ByteArray) (a2 : ByteArray) (K5 : (Int → Option Int)) : Nat → Int → Option Int
 | 0, _ => none
 | m1 + 1, v6 => (bif (decide (v6 < (if (a2.size : Int) < (a1.size : Int) then (a2.size : Int) else (a1.size : Int)))) then ((sidx a1 v6).bind fun e9 => ((sidx a2 v6).bind fun e10 => ((ix_agree_j8 v6 (ix_agree_l1 a1 a2 K5 m1) K5) (e9 == e10)))) else ((ix_agree_j8 v6 (ix_agree_l1 a1 a2 K5 m1) K5) false))
def ix_agree (fuel : Nat) (a1 : ByteArray) (a2 : ByteArray) : Option Int :=
 (ix_agree_l1 a1 a2 (ix_agree_j5) fuel 0)
theorem run_ix_agree (fuel : Nat) (a1 : ByteArray) (a2 : ByteArray) (r : Int) (h : ix_agree fuel a1 a2 = some r) : Run Try.prog (.call 62 [.str a1, .str a2] (I6 r)) := by
 refine cW Try.func62 rfl (env0 := [(0, .str a1), (1, .str a2)]) ?_
 unfold ix_agree at h
 refine W.seq ?_
 let z0 := fun t => EN ((0, .str a1) :: (1, .str a2) :: t)
 refine W.rt (e2 := z0 []) ?_
 refine W.seq ?_
 refine W.rt (e2 := z0 [(5, .int .i64 0)]) ?_
 refine W.seq ?_
 refine W.join (σ := (Int)) (fun s => [(5, I6 s)]) (fun s => (ix_agree_j5) s = some r) (fun s h => ?_) (fun hK5 => ?_)
 ·obtain ⟨v12, rfl⟩ : ∃ x, x = s := ⟨s, rfl⟩
  have h : (ix_agree_j5) v12 = some r := h
  unfold ix_agree_j5 at h
  refine W.seq ?_
  refine W.rt (e2 := [(4, I6 v12)]) ?_
  refine W.wk (env' := [(4, I6 v12)]) ?_
  have hr : aresults Try.prog Try.f62 [(4, I6 v12)] = some (I6 v12) := by kernel_rfl
  cases h
  exact W.ret hr
 refine W.block ?_
 refine W.wk (env' := z0 [(5, .int .i64 0)]) ?_
 refine W.fuel (σ := (Int)) (fun s => z0 [(5, I6 s)]) (fun m0 s => ix_agree_l1 a1 a2 (ix_agree_j5) m0 s = some r) (fun s h => ?_) (fun m1 s h hN1 => ?_) fuel 0 h
 ·obtain ⟨v6, rfl⟩ : ∃ x, x = s := ⟨s, rfl⟩
  have h : ix_agree_l1 a1 a2 (ix_agree_j5) 0 v6 = some r := h
  rw [ix_agree_l1.eq_1] at h
  cases h
 ·obtain ⟨v6, rfl⟩ : ∃ x, x = s := ⟨s, rfl⟩
  have h : ix_agree_l1 a1 a2 (ix_agree_j5) (m1 + 1) v6 = some r := h
  rw [ix_agree_l1.eq_2] at h
  refine W.seq ?_
  refine W.seq ?_
  let z1 := fun t => z0 ((5, I6 v6) :: t)
  refine W.join (σ := (Bool)) (fun s => z1 [(21, .bool s)]) (fun s => (ix_agree_j8 v6 (ix_agree_l1 a1 a2 (ix_agree_j5) m1) (ix_agree_j5)) s = some r) (fun s h => ?_) (fun hK8 => ?_)
  ·obtain ⟨v11, rfl⟩ : ∃ x, x = s := ⟨s, rfl⟩
   have h : (ix_agree_j8 v6 (ix_agree_l1 a1 a2 (ix_agree_j5) m1) (ix_agree_j5)) v11 = some r := h
   unfold ix_agree_j8 at h
   refine W.cb v11 (fun hb => ?_) (fun hb => ?_)
   ·replace h := cond_t hb h
    refine W.skip ?_
    refine W.wk (env' := z1 []) ?_
    refine W.block ?_
    refine W.rt (e2 := z0 [(5, I6 (W6 (v6 + 1)))]) ?_
    exact hN1 (W6 (v6 + 1)) h
   replace h := cond_f hb h
   refine W.exit ?_
   refine W.wk (env' := [(5, I6 v6)]) ?_
   exact hK5 v6 h
  refine W.rg ?_
  let z2 := fun t => z1 ((6, I6 v6) :: (7, .str a1) :: (8, I6 (a1.size : Int)) :: (9, .str a2) :: (10, I6 (a2.size : Int)) :: (11, I6 (if (a2.size : Int) < (a1.size : Int) then (a2.size : Int) else (a1.size : Int))) :: t)
  refine WO.bk 8 (fun b => z2 [(12, .bool b), (13, .bool b)]) (decide (v6 < (if (a2.size : Int) < (a1.size : Int) then (a2.size : Int) else (a1.size : Int)))) (fun hb => ?_) (fun hb => ?_)
  ·replace h := cond_t hb h
   obtain ⟨e9, he9, h⟩ := bind_some h
   let z3 := fun t => z2 ((12, .bool true) :: (13, .bool true) :: (14, .str a1) :: (15, I6 v6) :: (16, .int .u8 e9) :: t)
   refine WO.pk 2 (if (0 : Int) ≤ v6 then (a1[Int.toNat v6]?).map fun b => AV.int .u8 b.toNat else none) (v := .int .u8 e9) (sidx_av he9) (e1 := z3 []) ?_
   obtain ⟨e10, he10, h⟩ := bind_some h
   refine WO.pk 2 (if (0 : Int) ≤ v6 then (a2[Int.toNat v6]?).map fun b => AV.int .u8 b.toNat else none) (v := .int .u8 e10) (sidx_av he10) (e1 := z3 [(17, .str a2), (18, I6 v6), (19, .int .u8 e10)]) ?_
   refine WO.fn (e2 := z1 [(21, .bool (e9 == e10))]) ?_
   exact hK8 (e9 == e10) h
  replace h := cond_f hb h
  refine WO.fn (e2 := z1 [(21, .bool false)]) ?_
  exact hK8 false h
def ix_common_j6 (v19 : (List Int)) : Option (List Int) :=
 (some v19)
def ix_common_l1 (fuel : Nat) (a1 : ByteArray) (w4 : (List Int)) (K6 : ((List Int) → Option (List Int))) : Nat → (List Int) → Int → Option (List Int)
 | 0, _, _ => none
 | m1 + 1, v8, v9 => (bif (decide (v9 < (w4.length : Int))) then ((idx w4 (IntKind.wrap .i64 (v9 - 1))).bind fun e13 => ((ssub a1 e13 (a1.size : Int)).bind fun e14 => ((idx w4 v9).bind fun e15 => ((ssub a1 e15 (a1.size : Int)).bind fun e16 => ((ix_agree fuel e14 e16).bind fun w17 => (chk (capOk 8 ((v8 ++ [w17])).length) ((ix_common_l1 fuel a1 w4 K6 m1) (v8 ++ [w17]) (IntKind.wrap .i64 (v9 + 1))))))))) else (K6 v8))
def ix_common (fuel : Nat) (a1 : ByteArray) : Option (List Int) :=
 ((ix_suffixes a1).bind fun w4 => (ix_common_l1 fuel a1 w4 (ix_common_j6) fuel ([] : (List Int)) 1))
theorem run_ix_common (fuel : Nat) (a1 : ByteArray) (r : (List Int)) (h : ix_common fuel a1 = some r) : Run Try.prog (.call 42 [.str a1] (l3 (some 1) r)) := by
 refine cW Try.func42 rfl (env0 := [(0, .str a1)]) ?_
 unfold ix_common at h
 refine W.seq ?_
 let z0 := fun t => EN ((0, .str a1) :: t)
 refine W.rt (e2 := z0 []) ?_
 refine W.seq ?_
 refine W.rg ?_
 obtain ⟨w4, hw4, h⟩ := bind_some h
 refine WO.ck 1 (F := 41) (l := [.str a1]) (C := []) (r := l3 none w4) (run_ix_suffixes a1 w4 hw4) (e1 := z0 [(6, .str a1), (7, l3 none w4)]) ?_
 let z1 := fun t => z0 ((3, l3 none w4) :: t)
 refine WO.fn (e2 := z1 []) ?_
 refine W.seq ?_
 refine W.rt (e2 := z1 [(4, .nils)]) ?_
 refine W.seq ?_
 refine W.join (σ := ((List Int))) (fun s => [(4, l3 (some 10400) s)]) (fun s => (ix_common_j6) s = some r) (fun s h => ?_) (fun hK6 => ?_)
 ·obtain ⟨v19, rfl⟩ : ∃ x, x = s := ⟨s, rfl⟩
  have h : (ix_common_j6) v19 = some r := h
  unfold ix_common_j6 at h
  refine W.seq ?_
  refine W.rt (e2 := [(2, l3 (some 10400) v19)]) ?_
  refine W.weak [2] [] [] [(10400, some 1)] (env' := [(2, l3 (some 1) v19)]) (by kernel_rfl) ?_
  have hr : aresults Try.prog Try.f42 [(2, l3 (some 1) v19)] = some (l3 (some 1) v19) := by kernel_rfl
  cases h
  exact W.ret hr
 refine W.seq ?_
 refine W.rt (e2 := z1 [(4, .nils), (5, .int .i64 1)]) ?_
 refine W.block ?_
 refine W.weak [0, 3, 4, 5] [] [(4, 0, 3, 1, 10400)] [] (env' := z1 [(4, l3 (some 10400) ([] : (List Int))), (5, .int .i64 1)]) (by kernel_rfl) ?_
 refine W.fuel (σ := ((List Int) × Int)) (fun s => z1 [(4, l3 (some 10400) s.1), (5, I6 s.2)]) (fun m0 s => ix_common_l1 fuel a1 w4 (ix_common_j6) m0 s.1 s.2 = some r) (fun s h => ?_) (fun m1 s h hN1 => ?_) fuel (([] : (List Int)), 1) h
 ·obtain ⟨v8, v9⟩ := s
  have h : ix_common_l1 fuel a1 w4 (ix_common_j6) 0 v8 v9 = some r := h
  rw [ix_common_l1.eq_1] at h
  cases h
 ·obtain ⟨v8, v9⟩ := s
  have h : ix_common_l1 fuel a1 w4 (ix_common_j6) (m1 + 1) v8 v9 = some r := h
  rw [ix_common_l1.eq_2] at h
  refine W.seq ?_
  refine W.seq ?_
  refine W.rg ?_
  let z2 := fun t => z1 ((4, l3 (some 10400) v8) :: (5, I6 v9) :: t)
  refine WO.pk 2 (some (I6 ((M6 w4).length : Int))) (v := I6 (w4.length : Int)) (by rw [List.length_map]) (e1 := z2 [(8, I6 v9), (9, l3 none w4), (10, I6 (w4.length : Int))]) ?_
  refine WO.fn (e2 := z2 [(11, .bool (decide (v9 < (w4.length : Int))))]) ?_
  refine W.cb (decide (v9 < (w4.length : Int))) (fun hb => ?_) (fun hb => ?_)
  ·replace h := cond_t hb h
   refine W.skip ?_
   refine W.wk (env' := z2 []) ?_
   refine W.seq ?_
   refine W.block ?_
   refine W.rg ?_
   obtain ⟨e13, he13, h⟩ := bind_some h
   let z3 := fun t => z2 ((14, l3 (some 10400) v8) :: (15, .str a1) :: (16, l3 none w4) :: (17, I6 v9) :: (18, I6 (W6 (v9 - 1))) :: (19, .ptr (I6 e13)) :: t)
   refine WO.pk 5 (if (0 : Int) ≤ (W6 (v9 - 1)) then ((M6 w4)[Int.toNat (W6 (v9 - 1))]?).map AV.ptr else none) (v := .ptr (I6 e13)) (idx_av (f := (AV.int .i64)) he13) (e1 := z3 []) ?_
   obtain ⟨e14, he14, h⟩ := bind_some h
   let z4 := fun t => z3 ((20, I6 e13) :: (21, .str e14) :: t)
   refine WO.pk 1 (if (0 : Int) ≤ e13 ∧ e13 ≤ (a1.size : Int) ∧ (a1.size : Int) ≤ (a1.size : Int) then some (AV.str (a1.extract (Int.toNat e13) (Int.toNat (a1.size : Int)))) else none) (v := .str e14) (ssub_av he14) (e1 := z4 []) ?_
   obtain ⟨e15, he15, h⟩ := bind_some h
   let z5 := fun t => z4 ((22, .str a1) :: (23, l3 none w4) :: (24, I6 v9) :: (25, .ptr (I6 e15)) :: t)
   refine WO.pk 3 (if (0 : Int) ≤ v9 then ((M6 w4)[Int.toNat v9]?).map AV.ptr else none) (v := .ptr (I6 e15)) (idx_av (f := (AV.int .i64)) he15) (e1 := z5 []) ?_
   obtain ⟨e16, he16, h⟩ := bind_some h
   refine WO.pk 1 (if (0 : Int) ≤ e15 ∧ e15 ≤ (a1.size : Int) ∧ (a1.size : Int) ≤ (a1.size : Int) then some (AV.str (a1.extract (Int.toNat e15) (Int.toNat (a1.size : Int)))) else none) (v := .str e16) (ssub_av he16) (e1 := z5 [(26, I6 e15), (27, .str e16)]) ?_
   obtain ⟨w17, hw17, h⟩ := bind_some h
   refine WO.ck 0 (F := 62) (l := [.str e14, .str e16]) (C := []) (r := I6 w17) (run_ix_agree fuel e14 e16 w17 hw17) (e1 := z5 [(26, I6 e15), (27, .str e16), (28, I6 w17)]) ?_
   obtain ⟨hc18, h⟩ := chk_some h
   refine WO.appendK 1 (d := 30) (e := 3) (s := 1) (bytes := 8) (xs := (M6 v8)) (ys := (M6 [w17])) (zs := (M6 (v8 ++ [w17]))) (env1 := [(0, .str a1), (3, l3 none w4), (4, l3 none v8), (5, I6 v9), (14, l3 none v8), (15, .str a1), (16, l3 none w4), (17, I6 v9), (18, I6 (W6 (v9 - 1))), (19, .ptr (I6 e13)), (20, I6 e13), (21, .str e14), (22, .str a1), (23, l3 none w4), (24, I6 v9), (25, .ptr (I6 e15)), (26, I6 e15), (27, .str e16), (28, I6 w17), (29, l3 none [w17])]) (by kernel_rfl) (List.map_append.symm) (by rw [List.length_map]; exact hc18) (e1 := z1 [(4, l3 none v8), (5, I6 v9), (14, l3 none v8), (15, .str a1), (16, l3 none w4), (17, I6 v9), (18, I6 (W6 (v9 - 1))), (19, .ptr (I6 e13)), (20, I6 e13), (21, .str e14), (22, .str a1), (23, l3 none w4), (24, I6 v9), (25, .ptr (I6 e15)), (26, I6 e15), (27, .str e16), (28, I6 w17), (29, l3 none [w17]), (30, l3 (some 30) (v8 ++ [w17]))]) (by kernel_rfl) ?_
   refine WO.fn (e2 := z1 [(4, l3 (some 30) (v8 ++ [w17])), (5, I6 v9)]) ?_
   refine W.regT [0, 3, 4, 5] [] [] [(30, some 10400)] (e2 := z1 [(4, l3 (some 10400) (v8 ++ [w17])), (5, I6 (W6 (v9 + 1)))]) (by kernel_rfl) (by kernel_rfl) (fun _ h => h) ?_
   exact hN1 ((v8 ++ [w17]), (W6 (v9 + 1))) h
  replace h := cond_f hb h
  refine W.exit ?_
  refine W.wk (env' := [(4, l3 (some 10400) v8)]) ?_
  exact hK6 v8 h
def ix_Distinct_j8 (v14 : Int) : Option (Int × Int) :=
 (some (v14, 0))
def ix_Distinct_l1 (K8 : (Int → Option (Int × Int))) : List Int → Nat → Int → Option (Int × Int)
 | [], k1, v11 => (K8 v11)
 | x1 :: r1, k1, v11 => ((ix_Distinct_l1 K8 r1 (k1 + 1)) (IntKind.wrap .i64 (v11 - x1)))
def ix_Distinct (fuel : Nat) (a1 : ByteArray) : Option (Int × Int) :=
 ((ix_valid a1).bind fun w5 => (bif (!w5) then (some (0, 2)) else ((ix_common fuel a1).bind fun w10 => (chk (lenOk w10) (ix_Distinct_l1 (ix_Distinct_j8) w10 0 (IntKind.wrap .i64 (((IntKind.wrap .i64 ((a1.size : Int) * (IntKind.wrap .i64 ((a1.size : Int) + 1))))).tdiv 2)))))))
theorem run_ix_Distinct (fuel : Nat) (a1 : ByteArray) (r : (Int × Int)) (h : ix_Distinct fuel a1 = some r) : Run Try.prog (.call 26 [.str a1] (.tup [I6 r.1, I6 r.2])) := by
 refine cW Try.func26 rfl (env0 := [(0, .str a1)]) ?_
 unfold ix_Distinct at h
 refine W.seq ?_
 let z0 := fun t => EN ((0, .str a1) :: t)
 refine W.rt (e2 := z0 []) ?_
 refine W.seq ?_
 refine W.seq ?_
 refine W.rg ?_
 obtain ⟨w5, hw5, h⟩ := bind_some h
 refine WO.ck 1 (F := 40) (l := [.str a1]) (C := []) (r := .bool w5) (run_ix_valid a1 w5 hw5) (e1 := z0 [(7, .str a1), (8, .bool w5)]) ?_
 refine WO.fn (e2 := z0 [(9, .bool (!w5))]) ?_
 refine W.cb (!w5) (fun hb => ?_) (fun hb => ?_)
 ·replace h := cond_t hb h
  refine W.seq ?_
  refine W.rt (e2 := [(2, .int .i64 0), (3, .int .i64 2)]) ?_
  refine W.wk (env' := [(2, .int .i64 0), (3, .int .i64 2)]) ?_
  have hr : aresults Try.prog Try.f26 [(2, .int .i64 0), (3, .int .i64 2)] = some (.tup [.int .i64 0, .int .i64 2]) := by kernel_rfl
  cases h
  exact W.ret hr
 replace h := cond_f hb h
 refine W.skip ?_
 refine W.wk (env' := z0 []) ?_
 refine W.seq ?_
 let z1 := fun t => z0 ((4, I6 (W6 (((W6 ((a1.size : Int) * (W6 ((a1.size : Int) + 1))))).tdiv 2))) :: t)
 refine W.rt (e2 := z1 []) ?_
 refine W.seq ?_
 refine W.join (σ := (Int)) (fun s => [(4, I6 s)]) (fun s => (ix_Distinct_j8) s = some r) (fun s h => ?_) (fun hK8 => ?_)
 ·obtain ⟨v14, rfl⟩ : ∃ x, x = s := ⟨s, rfl⟩
  have h : (ix_Distinct_j8) v14 = some r := h
  unfold ix_Distinct_j8 at h
  refine W.seq ?_
  refine W.rt (e2 := [(2, I6 v14), (3, .int .i64 0)]) ?_
  refine W.wk (env' := [(2, I6 v14), (3, .int .i64 0)]) ?_
  have hr : aresults Try.prog Try.f26 [(2, I6 v14), (3, .int .i64 0)] = some (.tup [I6 v14, .int .i64 0]) := by kernel_rfl
  cases h
  exact W.ret hr
 refine W.seq ?_
 refine W.rg ?_
 obtain ⟨w10, hw10, h⟩ := bind_some h
 let z2 := fun t => z1 ((17, .str a1) :: (18, l3 (some 18) w10) :: t)
 refine WO.ck 1 (F := 42) (l := [.str a1]) (C := []) (r := l3 (some 1) w10) (run_ix_common fuel a1 w10 hw10) (e1 := z2 []) ?_
 refine WO.pk 0 (some (I6 ((M6 w10).length : Int))) (v := I6 (w10.length : Int)) (by rw [List.length_map]) (e1 := z2 [(19, I6 (w10.length : Int))]) ?_
 let z3 := fun t => EN ((4, I6 (W6 (((W6 ((a1.size : Int) * (W6 ((a1.size : Int) + 1))))).tdiv 2))) :: (18, l3 (some 18) w10) :: (19, I6 (w10.length : Int)) :: t)
 refine WO.fn (e2 := z3 [(20, .int .i64 0)]) ?_
 refine W.block ?_
 obtain ⟨hl1, h⟩ := chk_some h
 refine W.wk (env' := z3 [(20, I6 ((0 : Nat) : Int))]) ?_
 refine W.range (σ := (Int)) w10 (fun k1 s => [(4, I6 s), (18, l3 (some 18) w10), (19, I6 (w10.length : Int)), (20, I6 (k1 : Int))]) (fun r0 k0 s => ix_Distinct_l1 (ix_Distinct_j8) r0 k0 s = some r) (fun s h => ?_) (fun x1 r1 k1 s hx1 hk1 h hN1 => ?_) (W6 (((W6 ((a1.size : Int) * (W6 ((a1.size : Int) + 1))))).tdiv 2)) h
 ·obtain ⟨v11, rfl⟩ : ∃ x, x = s := ⟨s, rfl⟩
  have h : ix_Distinct_l1 (ix_Distinct_j8) [] (w10).length v11 = some r := h
  rw [ix_Distinct_l1.eq_1] at h
  refine W.seq ?_
  refine W.rg ?_
  let z4 := fun t => EN ((4, I6 v11) :: (18, l3 (some 18) w10) :: (19, I6 (w10.length : Int)) :: (20, I6 ((w10).length : Int)) :: (21, .bool false) :: t)
  refine WO.pk 0 (some (.bool (decide (((w10).length : Int) < (w10.length : Int))))) (v := .bool false) (by rw [lt_false (l := w10)]) (e1 := z4 []) ?_
  refine WO.fn (e2 := z4 []) ?_
  refine W.seq ?_
  refine W.cb false (fun h => Bool.noConfusion h) (fun _ => ?_)
  refine W.exit ?_
  refine W.wk (env' := [(4, I6 v11)]) ?_
  exact hK8 v11 h
 ·obtain ⟨v11, rfl⟩ : ∃ x, x = s := ⟨s, rfl⟩
  have h : ix_Distinct_l1 (ix_Distinct_j8) (x1 :: r1) k1 v11 = some r := h
  rw [ix_Distinct_l1.eq_2] at h
  refine W.seq ?_
  refine W.rg ?_
  let z5 := fun t => EN ((4, I6 v11) :: (18, l3 (some 18) w10) :: (19, I6 (w10.length : Int)) :: (20, I6 (k1 : Int)) :: t)
  refine WO.pk 0 (some (.bool (decide ((k1 : Int) < (w10.length : Int))))) (v := .bool true) (by rw [lt_true hk1]) (e1 := z5 [(21, .bool true)]) ?_
  refine WO.fn (e2 := z5 [(21, .bool true)]) ?_
  refine W.seq ?_
  refine W.cb true (fun _ => ?_) (fun h => Bool.noConfusion h)
  refine W.skip ?_
  refine W.wk (env' := z5 []) ?_
  refine W.seq ?_
  refine W.block ?_
  refine W.seq ?_
  refine W.rg ?_
  refine WO.pk 0 (if (0 : Int) ≤ (k1 : Int) then ((M6 w10)[Int.toNat (k1 : Int)]?).map AV.ptr else none) (v := .ptr (I6 x1)) (idx_nat (f := (AV.int .i64)) hx1) (e1 := z5 [(22, .ptr (I6 x1))]) ?_
  refine WO.fn (e2 := [(4, I6 v11), (6, I6 x1), (18, l3 (some 18) w10), (19, I6 (w10.length : Int)), (20, I6 (k1 : Int))]) ?_
  let z6 := fun t => EN ((4, I6 (W6 (v11 - x1))) :: (18, l3 (some 18) w10) :: (19, I6 (w10.length : Int)) :: t)
  refine W.rt (e2 := z6 [(20, I6 (k1 : Int))]) ?_
  refine W.rg ?_
  refine WO.pk 0 (some (I6 (IntKind.wrap .i64 ((k1 : Int) + 1)))) (v := I6 ((k1 + 1 : Nat) : Int)) (by rw [wrap_succ hl1 hk1]) (e1 := [(4, I6 (IntKind.wrap .i64 (v11 - x1))), (18, l3 (some 18) w10), (19, I6 (w10.length : Int)), (20, I6 (k1 : Int)), (27, I6 ((k1 + 1 : Nat) : Int))]) ?_
  refine WO.fn (e2 := z6 [(20, I6 ((k1 + 1 : Nat) : Int))]) ?_
  exact hN1 (W6 (v11 - x1)) h
def ix_Longest_j9 (v20 : ByteArray) : Option (ByteArray × Int) :=
 (bif (v20.toList == (ByteArray.mk #[]).toList) then (some ((ByteArray.mk #[]), 5)) else (some (v20, 0)))
def ix_Longest_j13 (N1 : (ByteArray → Option (ByteArray × Int))) (v19 : ByteArray) : Option (ByteArray × Int) :=
 (N1 v19)
def ix_Longest_l1 (a1 : ByteArray) (w8 : (List Int)) (K9 : (ByteArray → Option (ByteArray × Int))) : List Int → Nat → ByteArray → Option (ByteArray × Int)
 | [], k1, v12 => (K9 v12)
 | x1 :: r1, k1, v12 => (bif (decide (x1 > (v12.size : Int))) then ((idx w8 (k1 : Int)).bind fun e16 => ((ssub a1 e16 (a1.size : Int)).bind fun e17 => ((ssub e17 0 x1).bind fun e18 => ((ix_Longest_j13 (ix_Longest_l1 a1 w8 K9 r1 (k1 + 1))) e18)))) else ((ix_Longest_j13 (ix_Longest_l1 a1 w8 K9 r1 (k1 + 1))) v12))
def ix_Longest (fuel : Nat) (a1 : ByteArray) : Option (ByteArray × Int) :=
 ((ix_valid a1).bind fun w5 => (bif (!w5) then (some ((ByteArray.mk #[]), 2)) else ((ix_suffixes a1).bind fun w8 => ((ix_common fuel a1).bind fun w11 => (chk (lenOk w11) (ix_Longest_l1 a1 w8 (ix_Longest_j9) w11 0 (ByteArray.mk #[])))))))
theorem run_ix_Longest (fuel : Nat) (a1 : ByteArray) (r : (ByteArray × Int)) (h : ix_Longest fuel a1 = some r) : Run Try.prog (.call 24 [.str a1] (.tup [.str r.1, I6 r.2])) := by
 refine cW Try.func24 rfl (env0 := [(0, .str a1)]) ?_
 unfold ix_Longest at h
 refine W.seq ?_
 let z0 := fun t => EN ((0, .str a1) :: t)
 refine W.rt (e2 := z0 []) ?_
 refine W.seq ?_
 refine W.seq ?_
 refine W.rg ?_
 obtain ⟨w5, hw5, h⟩ := bind_some h
 refine WO.ck 1 (F := 40) (l := [.str a1]) (C := []) (r := .bool w5) (run_ix_valid a1 w5 hw5) (e1 := z0 [(8, .str a1), (9, .bool w5)]) ?_
 refine WO.fn (e2 := z0 [(10, .bool (!w5))]) ?_
 refine W.cb (!w5) (fun hb => ?_) (fun hb => ?_)
 ·replace h := cond_t hb h
  refine W.seq ?_
  let z1 := fun t => EN ((2, .str (ByteArray.mk #[])) :: (3, .int .i64 2) :: t)
  refine W.rt (e2 := z1 []) ?_
  refine W.wk (env' := z1 []) ?_
  have hr : aresults Try.prog Try.f24 [(2, .str (ByteArray.mk #[])), (3, .int .i64 2)] = some (.tup [.str (ByteArray.mk #[]), .int .i64 2]) := by kernel_rfl
  cases h
  exact W.ret hr
 replace h := cond_f hb h
 refine W.skip ?_
 refine W.wk (env' := z0 []) ?_
 refine W.seq ?_
 refine W.rg ?_
 obtain ⟨w8, hw8, h⟩ := bind_some h
 refine WO.ck 1 (F := 41) (l := [.str a1]) (C := []) (r := l3 none w8) (run_ix_suffixes a1 w8 hw8) (e1 := z0 [(11, .str a1), (12, l3 none w8)]) ?_
 let z2 := fun t => z0 ((4, .str (ByteArray.mk #[])) :: (5, l3 none w8) :: t)
 refine WO.fn (e2 := z2 []) ?_
 refine W.seq ?_
 refine W.join (σ := (ByteArray)) (fun s => [(4, .str s)]) (fun s => (ix_Longest_j9) s = some r) (fun s h => ?_) (fun hK9 => ?_)
 ·obtain ⟨v20, rfl⟩ : ∃ x, x = s := ⟨s, rfl⟩
  have h : (ix_Longest_j9) v20 = some r := h
  unfold ix_Longest_j9 at h
  refine W.seq ?_
  refine W.seq ?_
  refine W.rt (e2 := [(4, .str v20), (35, .bool (v20.toList == (ByteArray.mk #[]).toList))]) ?_
  refine W.cb (v20.toList == (ByteArray.mk #[]).toList) (fun hb => ?_) (fun hb => ?_)
  ·replace h := cond_t hb h
   refine W.seq ?_
   refine W.rt (e2 := [(2, .str (ByteArray.mk #[])), (3, .int .i64 5)]) ?_
   refine W.wk (env' := [(2, .str (ByteArray.mk #[])), (3, .int .i64 5)]) ?_
   have hr : aresults Try.prog Try.f24 [(2, .str (ByteArray.mk #[])), (3, .int .i64 5)] = some (.tup [.str (ByteArray.mk #[]), .int .i64 5]) := by kernel_rfl
   cases h
   exact W.ret hr
  replace h := cond_f hb h
  refine W.skip ?_
  refine W.wk (env' := [(4, .str v20)]) ?_
  refine W.seq ?_
  refine W.rt (e2 := [(2, .str v20), (3, .int .i64 0)]) ?_
  refine W.wk (env' := [(2, .str v20), (3, .int .i64 0)]) ?_
  have hr : aresults Try.prog Try.f24 [(2, .str v20), (3, .int .i64 0)] = some (.tup [.str v20, .int .i64 0]) := by kernel_rfl
  cases h
  exact W.ret hr
 refine W.seq ?_
 refine W.rg ?_
 obtain ⟨w11, hw11, h⟩ := bind_some h
 let z3 := fun t => z2 ((13, .str a1) :: (14, l3 (some 14) w11) :: t)
 refine WO.ck 1 (F := 42) (l := [.str a1]) (C := []) (r := l3 (some 1) w11) (run_ix_common fuel a1 w11 hw11) (e1 := z3 []) ?_
 refine WO.pk 0 (some (I6 ((M6 w11).length : Int))) (v := I6 (w11.length : Int)) (by rw [List.length_map]) (e1 := z3 [(15, I6 (w11.length : Int))]) ?_
 let z4 := fun t => z2 ((14, l3 (some 14) w11) :: (15, I6 (w11.length : Int)) :: t)
 refine WO.fn (e2 := z4 [(16, .int .i64 0)]) ?_
 refine W.block ?_
 obtain ⟨hl1, h⟩ := chk_some h
 refine W.wk (env' := z4 [(16, I6 ((0 : Nat) : Int))]) ?_
 refine W.range (σ := (ByteArray)) w11 (fun k1 s => z0 [(4, .str s), (5, l3 none w8), (14, l3 (some 14) w11), (15, I6 (w11.length : Int)), (16, I6 (k1 : Int))]) (fun r0 k0 s => ix_Longest_l1 a1 w8 (ix_Longest_j9) r0 k0 s = some r) (fun s h => ?_) (fun x1 r1 k1 s hx1 hk1 h hN1 => ?_) (ByteArray.mk #[]) h
 ·obtain ⟨v12, rfl⟩ : ∃ x, x = s := ⟨s, rfl⟩
  have h : ix_Longest_l1 a1 w8 (ix_Longest_j9) [] (w11).length v12 = some r := h
  rw [ix_Longest_l1.eq_1] at h
  refine W.seq ?_
  refine W.rg ?_
  let z5 := fun t => z0 ((4, .str v12) :: (5, l3 none w8) :: (14, l3 (some 14) w11) :: (15, I6 (w11.length : Int)) :: (16, I6 ((w11).length : Int)) :: (17, .bool false) :: t)
  refine WO.pk 0 (some (.bool (decide (((w11).length : Int) < (w11.length : Int))))) (v := .bool false) (by rw [lt_false (l := w11)]) (e1 := z5 []) ?_
  refine WO.fn (e2 := z5 []) ?_
  refine W.seq ?_
  refine W.cb false (fun h => Bool.noConfusion h) (fun _ => ?_)
  refine W.exit ?_
  refine W.wk (env' := [(4, .str v12)]) ?_
  exact hK9 v12 h
 ·obtain ⟨v12, rfl⟩ : ∃ x, x = s := ⟨s, rfl⟩
  have h : ix_Longest_l1 a1 w8 (ix_Longest_j9) (x1 :: r1) k1 v12 = some r := h
  rw [ix_Longest_l1.eq_2] at h
  refine W.seq ?_
  refine W.rg ?_
  let z6 := fun t => z0 ((4, .str v12) :: (5, l3 none w8) :: (14, l3 (some 14) w11) :: (15, I6 (w11.length : Int)) :: (16, I6 (k1 : Int)) :: t)
  refine WO.pk 0 (some (.bool (decide ((k1 : Int) < (w11.length : Int))))) (v := .bool true) (by rw [lt_true hk1]) (e1 := z6 [(17, .bool true)]) ?_
  refine WO.fn (e2 := z6 [(17, .bool true)]) ?_
  refine W.seq ?_
  refine W.cb true (fun _ => ?_) (fun h => Bool.noConfusion h)
  refine W.skip ?_
  refine W.wk (env' := z6 []) ?_
  refine W.seq ?_
  refine W.join (σ := (ByteArray)) (fun s => z0 [(4, .str s), (5, l3 none w8), (14, l3 (some 14) w11), (15, I6 (w11.length : Int)), (16, I6 (k1 : Int))]) (fun s => (ix_Longest_j13 (ix_Longest_l1 a1 w8 (ix_Longest_j9) r1 (k1 + 1))) s = some r) (fun s h => ?_) (fun hK13 => ?_)
  ·obtain ⟨v19, rfl⟩ : ∃ x, x = s := ⟨s, rfl⟩
   have h : (ix_Longest_j13 (ix_Longest_l1 a1 w8 (ix_Longest_j9) r1 (k1 + 1))) v19 = some r := h
   unfold ix_Longest_j13 at h
   refine W.rg ?_
   let z7 := fun t => z0 ((4, .str v19) :: (5, l3 none w8) :: (14, l3 (some 14) w11) :: (15, I6 (w11.length : Int)) :: t)
   refine WO.pk 0 (some (I6 (IntKind.wrap .i64 ((k1 : Int) + 1)))) (v := I6 ((k1 + 1 : Nat) : Int)) (by rw [wrap_succ hl1 hk1]) (e1 := z7 [(16, I6 (k1 : Int)), (33, I6 ((k1 + 1 : Nat) : Int))]) ?_
   refine WO.fn (e2 := z7 [(16, I6 ((k1 + 1 : Nat) : Int))]) ?_
   exact hN1 v19 h
  refine W.block ?_
  refine W.seq ?_
  refine W.rg ?_
  refine WO.pk 1 (if (0 : Int) ≤ (k1 : Int) then ((M6 w11)[Int.toNat (k1 : Int)]?).map AV.ptr else none) (v := .ptr (I6 x1)) (idx_nat (f := (AV.int .i64)) hx1) (e1 := z6 [(18, I6 (k1 : Int)), (19, .ptr (I6 x1))]) ?_
  let z8 := fun t => z0 ((4, .str v12) :: (5, l3 none w8) :: (6, I6 (k1 : Int)) :: (7, I6 x1) :: (14, l3 (some 14) w11) :: (15, I6 (w11.length : Int)) :: (16, I6 (k1 : Int)) :: t)
  refine WO.fn (e2 := z8 []) ?_
  refine W.seq ?_
  let z9 := fun t => z8 ((24, .bool (decide (x1 > (v12.size : Int)))) :: t)
  refine W.rt (e2 := z9 []) ?_
  refine W.cb (decide (x1 > (v12.size : Int))) (fun hb => ?_) (fun hb => ?_)
  ·replace h := cond_t hb h
   refine W.rg ?_
   obtain ⟨e16, he16, h⟩ := bind_some h
   let z10 := fun t => z9 ((25, .str a1) :: (26, l3 none w8) :: (27, I6 (k1 : Int)) :: (28, .ptr (I6 e16)) :: t)
   refine WO.pk 3 (if (0 : Int) ≤ (k1 : Int) then ((M6 w8)[Int.toNat (k1 : Int)]?).map AV.ptr else none) (v := .ptr (I6 e16)) (idx_av (f := (AV.int .i64)) he16) (e1 := z10 []) ?_
   obtain ⟨e17, he17, h⟩ := bind_some h
   refine WO.pk 1 (if (0 : Int) ≤ e16 ∧ e16 ≤ (a1.size : Int) ∧ (a1.size : Int) ≤ (a1.size : Int) then some (AV.str (a1.extract (Int.toNat e16) (Int.toNat (a1.size : Int)))) else none) (v := .str e17) (ssub_av he17) (e1 := z10 [(29, I6 e16), (30, .str e17)]) ?_
   obtain ⟨e18, he18, h⟩ := bind_some h
   refine WO.pk 1 (if (0 : Int) ≤ 0 ∧ 0 ≤ x1 ∧ x1 ≤ (e17.size : Int) then some (AV.str (e17.extract (Int.toNat 0) (Int.toNat x1))) else none) (v := .str e18) (ssub_av he18) (e1 := z10 [(29, I6 e16), (30, .str e17), (31, I6 x1), (32, .str e18)]) ?_
   refine WO.fn (e2 := z0 [(4, .str e18), (5, l3 none w8), (14, l3 (some 14) w11), (15, I6 (w11.length : Int)), (16, I6 (k1 : Int))]) ?_
   exact hK13 e18 h
  replace h := cond_f hb h
  refine W.skip ?_
  refine W.wk (env' := z6 []) ?_
  exact hK13 v12 h
def ix_Index_none_j3 (v5 : Bool) : Option Bool :=
 (some v5)
def ix_Index_none (a1 : (Option ixIndex)) : Option Bool :=
 (bif a1.isNone then ((ix_Index_none_j3) true) else (a1.bind fun q4 => ((ix_Index_none_j3) q4.f_w.isNone)))
theorem run_ix_Index_none (a1 : (Option ixIndex)) (r : Bool) (h : ix_Index_none a1 = some r) : Run Try.prog (.call 48 [ep e_ixIndex a1] (.bool r)) := by
 refine cW Try.func48 rfl (env0 := [(0, ep e_ixIndex a1)]) ?_
 unfold ix_Index_none at h
 refine W.seq ?_
 refine W.rt (e2 := [(0, ep e_ixIndex a1)]) ?_
 refine W.seq ?_
 refine W.join (σ := (Bool)) (fun s => [(2, .bool s)]) (fun s => (ix_Index_none_j3) s = some r) (fun s h => ?_) (fun hK3 => ?_)
 ·obtain ⟨v5, rfl⟩ : ∃ x, x = s := ⟨s, rfl⟩
  have h : (ix_Index_none_j3) v5 = some r := h
  unfold ix_Index_none_j3 at h
  refine W.wk (env' := [(2, .bool v5)]) ?_
  have hr : aresults Try.prog Try.f48 [(2, .bool v5)] = some (.bool v5) := by kernel_rfl
  cases h
  exact W.ret hr
 refine W.rg ?_
 refine WO.bk 3 (fun b => [(0, ep e_ixIndex a1), (3, ep e_ixIndex a1), (4, .bool b), (5, .bool b)]) a1.isNone (fun hb => ?_) (fun hb => ?_)
 ·replace h := cond_t hb h
  refine WO.fn (e2 := [(2, .bool true)]) ?_
  exact hK3 true h
 replace h := cond_f hb h
 obtain ⟨q4, hq4, h⟩ := bind_some h
 refine WO.pk 1 (match a1.isNone with | false => some (AV.ptr ((epx e_ixIndex) a1)) | true => none) (v := .ptr (.agg [ep_ixwavelet q4.f_w, I6 q4.f_length, l3 none q4.f_starts, l3 none q4.f_places])) (nc_av (F := (epx e_ixIndex)) hq4) (e1 := [(0, ep e_ixIndex a1), (3, ep e_ixIndex a1), (4, .bool false), (5, .bool false), (6, ep e_ixIndex a1), (7, .ptr (.agg [ep_ixwavelet q4.f_w, I6 q4.f_length, l3 none q4.f_starts, l3 none q4.f_places]))]) ?_
 refine WO.fn (e2 := [(2, .bool q4.f_w.isNone)]) ?_
 exact hK3 q4.f_w.isNone h
def sl_Index_byte_j4 : Option Int :=
 (some (-1))
def sl_Index_byte_l1 (a2 : Int) (K4 : (Option Int)) : List Int → Nat → Option Int
 | [], k1 => K4
 | x1 :: r1, k1 => (bif (a2 == x1) then (some (k1 : Int)) else (sl_Index_byte_l1 a2 K4 r1 (k1 + 1)))
def sl_Index_byte (a1 : (List Int)) (a2 : Int) : Option Int :=
 (chk (lenOk a1) (sl_Index_byte_l1 a2 (sl_Index_byte_j4) a1 0))
theorem run_sl_Index_byte (a1 : (List Int)) (a2 : Int) (r : Int) (h : sl_Index_byte a1 a2 = some r) : Run Try.prog (.call 93 [l5 none a1, .int .u8 a2] (I6 r)) := by
 refine cW Try.func93 rfl (env0 := [(0, l5 none a1), (1, .int .u8 a2)]) ?_
 unfold sl_Index_byte at h
 refine W.seq ?_
 let z0 := fun t => EN ((0, l5 none a1) :: (1, .int .u8 a2) :: t)
 refine W.rt (e2 := z0 []) ?_
 refine W.seq ?_
 refine W.join (σ := Unit) (fun s => []) (fun s => (sl_Index_byte_j4) = some r) (fun s h => ?_) (fun hK4 => ?_)
 ·have h : (sl_Index_byte_j4) = some r := h
  unfold sl_Index_byte_j4 at h
  refine W.seq ?_
  refine W.rt (e2 := [(4, I6 (-1))]) ?_
  refine W.wk (env' := [(4, I6 (-1))]) ?_
  have hr : aresults Try.prog Try.f93 [(4, I6 (-1))] = some (I6 (-1)) := by kernel_rfl
  cases h
  exact W.ret hr
 refine W.seq ?_
 refine W.rg ?_
 refine WO.pk 1 (some (I6 ((M8 a1).length : Int))) (v := I6 (a1.length : Int)) (by rw [List.length_map]) (e1 := z0 [(6, l5 none a1), (7, I6 (a1.length : Int))]) ?_
 let z1 := fun t => z0 ((7, I6 (a1.length : Int)) :: t)
 refine WO.fn (e2 := z1 [(8, .int .i64 0)]) ?_
 refine W.block ?_
 obtain ⟨hl1, h⟩ := chk_some h
 refine W.wk (env' := z1 [(8, I6 ((0 : Nat) : Int))]) ?_
 refine W.range (σ := Unit) a1 (fun k1 s => z1 [(8, I6 (k1 : Int))]) (fun r0 k0 s => sl_Index_byte_l1 a2 (sl_Index_byte_j4) r0 k0 = some r) (fun s h => ?_) (fun x1 r1 k1 s hx1 hk1 h hN1 => ?_) () h
 ·have h : sl_Index_byte_l1 a2 (sl_Index_byte_j4) [] (a1).length = some r := h
  rw [sl_Index_byte_l1.eq_1] at h
  refine W.seq ?_
  refine W.rg ?_
  let z2 := fun t => z1 ((8, I6 ((a1).length : Int)) :: (9, .bool false) :: t)
  refine WO.pk 0 (some (.bool (decide (((a1).length : Int) < (a1.length : Int))))) (v := .bool false) (by rw [lt_false (l := a1)]) (e1 := z2 []) ?_
  refine WO.fn (e2 := z2 []) ?_
  refine W.seq ?_
  refine W.cb false (fun h => Bool.noConfusion h) (fun _ => ?_)
  refine W.exit ?_
  refine W.wk (env' := []) ?_
  exact hK4 () h
 ·have h : sl_Index_byte_l1 a2 (sl_Index_byte_j4) (x1 :: r1) k1 = some r := h
  rw [sl_Index_byte_l1.eq_2] at h
  refine W.seq ?_
  refine W.rg ?_
  let z3 := fun t => z1 ((8, I6 (k1 : Int)) :: t)
  refine WO.pk 0 (some (.bool (decide ((k1 : Int) < (a1.length : Int))))) (v := .bool true) (by rw [lt_true hk1]) (e1 := z3 [(9, .bool true)]) ?_
  refine WO.fn (e2 := z3 [(9, .bool true)]) ?_
  refine W.seq ?_
  refine W.cb true (fun _ => ?_) (fun h => Bool.noConfusion h)
  refine W.skip ?_
  refine W.wk (env' := z3 []) ?_
  refine W.seq ?_
  refine W.block ?_
  refine W.seq ?_
  let z4 := fun t => z0 ((5, I6 (k1 : Int)) :: (7, I6 (a1.length : Int)) :: (8, I6 (k1 : Int)) :: t)
  refine W.rt (e2 := z4 []) ?_
  refine W.seq ?_
  refine W.rg ?_
  refine WO.pk 3 (if (0 : Int) ≤ (k1 : Int) then ((M8 a1)[Int.toNat (k1 : Int)]?).map AV.ptr else none) (v := .ptr (.int .u8 x1)) (idx_nat (f := (AV.int .u8)) hx1) (e1 := z4 [(11, .int .u8 a2), (12, l5 none a1), (13, I6 (k1 : Int)), (14, .ptr (.int .u8 x1))]) ?_
  refine WO.fn (e2 := z4 [(16, .bool (a2 == x1))]) ?_
  refine W.cb (a2 == x1) (fun hb => ?_) (fun hb => ?_)
  ·replace h := cond_t hb h
   refine W.seq ?_
   refine W.rt (e2 := [(4, I6 (k1 : Int))]) ?_
   refine W.wk (env' := [(4, I6 (k1 : Int))]) ?_
   have hr : aresults Try.prog Try.f93 [(4, I6 (k1 : Int))] = some (I6 (k1 : Int)) := by kernel_rfl
   cases h
   exact W.ret hr
  replace h := cond_f hb h
  refine W.skip ?_
  refine W.wk (env' := z3 []) ?_
  refine W.rg ?_
  refine WO.pk 0 (some (I6 (IntKind.wrap .i64 ((k1 : Int) + 1)))) (v := I6 ((k1 + 1 : Nat) : Int)) (by rw [wrap_succ hl1 hk1]) (e1 := z3 [(18, I6 ((k1 + 1 : Nat) : Int))]) ?_
  refine WO.fn (e2 := z1 [(8, I6 ((k1 + 1 : Nat) : Int))]) ?_
  exact hN1 () h
def sl_Contains_byte (a1 : (List Int)) (a2 : Int) : Option Bool :=
 ((sl_Index_byte a1 a2).bind fun w5 => (some (decide (w5 ≥ 0))))
theorem run_sl_Contains_byte (a1 : (List Int)) (a2 : Int) (r : Bool) (h : sl_Contains_byte a1 a2 = some r) : Run Try.prog (.call 77 [l5 none a1, .int .u8 a2] (.bool r)) := by
 refine cW Try.func77 rfl (env0 := [(0, l5 none a1), (1, .int .u8 a2)]) ?_
 unfold sl_Contains_byte at h
 refine W.seq ?_
 refine W.rt (e2 := [(0, l5 none a1), (1, .int .u8 a2)]) ?_
 refine W.seq ?_
 refine W.rg ?_
 obtain ⟨w5, hw5, h⟩ := bind_some h
 refine WO.ck 2 (F := 93) (l := [l5 none a1, .int .u8 a2]) (C := []) (r := I6 w5) (run_sl_Index_byte a1 a2 w5 hw5) (e1 := [(0, l5 none a1), (1, .int .u8 a2), (5, l5 none a1), (6, .int .u8 a2), (7, I6 w5)]) ?_
 refine WO.fn (e2 := [(4, .bool (decide (w5 ≥ 0)))]) ?_
 refine W.wk (env' := [(4, .bool (decide (w5 ≥ 0)))]) ?_
 have hr : aresults Try.prog Try.f77 [(4, .bool (decide (w5 ≥ 0)))] = some (.bool (decide (w5 ≥ 0))) := by kernel_rfl
 cases h
 exact W.ret hr
def ix_wavelet_rank_j14 (v60 : Int) : Option Int :=
 (some v60)
def ix_wavelet_rank_l1 (a2 : Int) (K14 : (Int → Option Int)) : Nat → (Option ixwavelet) → Int → Option Int
 | 0, _, _ => none
 | m1 + 1, v15, v16 => (v15.bind fun q19 => (ixwavelet.cs q19 (fun f20 f21 f22 f23 => (bif (!f22.isNone) then (v15.bind fun q25 => (ixwavelet.cs q25 (fun f26 f27 f28 f29 => (f29.bind fun q30 => (ixwavelet.cs q30 (fun f31 f32 f33 f34 => ((sl_Contains_byte f31 a2).bind fun w35 => (bif w35 then (v15.bind fun q37 => (ixwavelet.cs q37 (fun f38 f39 f40 f41 => ((idx f39 v16).bind fun e42 => (v15.bind fun q43 => (ixwavelet.cs q43 (fun f44 f45 f46 f47 => ((ix_wavelet_rank_l1 a2 K14 m1) f47 e42)))))))) else (v15.bind fun q49 => (ixwavelet.cs q49 (fun f50 f51 f52 f53 => ((idx f51 v16).bind fun e54 => (v15.bind fun q55 => (ixwavelet.cs q55 (fun f56 f57 f58 f59 => ((ix_wavelet_rank_l1 a2 K14 m1) f58 (IntKind.wrap .i64 (v16 - e54)))))))))))))))))) else (K14 v16)))))
def ix_wavelet_rank (fuel : Nat) (a1 : (Option ixwavelet)) (a2 : Int) (a3 : Int) : Option Int :=
 (a1.bind fun q7 => (ixwavelet.cs q7 (fun f8 f9 f10 f11 => ((sl_Contains_byte f8 a2).bind fun w12 => (bif (!w12) then (some 0) else (ix_wavelet_rank_l1 a2 (ix_wavelet_rank_j14) fuel a1 a3))))))
theorem run_ix_wavelet_rank (fuel : Nat) (a1 : (Option ixwavelet)) (a2 : Int) (a3 : Int) (r : Int) (h : ix_wavelet_rank fuel a1 a2 a3 = some r) : Run Try.prog (.call 51 [ep_ixwavelet a1, .int .u8 a2, I6 a3] (I6 r)) := by
 refine cW Try.func51 rfl (env0 := [(0, ep_ixwavelet a1), (1, .int .u8 a2), (2, I6 a3)]) ?_
 unfold ix_wavelet_rank at h
 refine W.seq ?_
 let z0 := fun t => EN ((0, ep_ixwavelet a1) :: (1, .int .u8 a2) :: (2, I6 a3) :: t)
 refine W.rt (e2 := z0 []) ?_
 refine W.seq ?_
 refine W.seq ?_
 refine W.rg ?_
 obtain ⟨q7, hq7, h⟩ := bind_some h
 obtain ⟨f8, f9, f10, f11⟩ := q7
 dsimp only [ixwavelet.cs] at h
 let z1 := fun t => z0 ((7, ep_ixwavelet a1) :: (8, .ptr (.agg [l5 none f8, l3 none f9, ep_ixwavelet f10, ep_ixwavelet f11])) :: t)
 refine WO.pk 1 (match a1.isNone with | false => some (AV.ptr (e_ixwaveletx a1)) | true => none) (v := .ptr (.agg [l5 none f8, l3 none f9, ep_ixwavelet f10, ep_ixwavelet f11])) (nc_av (F := e_ixwaveletx) hq7) (e1 := z1 []) ?_
 obtain ⟨w12, hw12, h⟩ := bind_some h
 refine WO.ck 3 (F := 77) (l := [l5 none f8, .int .u8 a2]) (C := []) (r := .bool w12) (run_sl_Contains_byte f8 a2 w12 hw12) (e1 := z1 [(9, .ptr (l5 none f8)), (10, l5 none f8), (11, .int .u8 a2), (12, .bool w12)]) ?_
 refine WO.fn (e2 := z0 [(13, .bool (!w12))]) ?_
 refine W.cb (!w12) (fun hb => ?_) (fun hb => ?_)
 ·replace h := cond_t hb h
  refine W.seq ?_
  refine W.rt (e2 := [(6, .int .i64 0)]) ?_
  refine W.wk (env' := [(6, .int .i64 0)]) ?_
  have hr : aresults Try.prog Try.f51 [(6, .int .i64 0)] = some (.int .i64 0) := by kernel_rfl
  cases h
  exact W.ret hr
 replace h := cond_f hb h
 refine W.skip ?_
 refine W.wk (env' := z0 []) ?_
 refine W.seq ?_
 refine W.join (σ := (Int)) (fun s => [(2, I6 s)]) (fun s => (ix_wavelet_rank_j14) s = some r) (fun s h => ?_) (fun hK14 => ?_)
 ·obtain ⟨v60, rfl⟩ : ∃ x, x = s := ⟨s, rfl⟩
  have h : (ix_wavelet_rank_j14) v60 = some r := h
  unfold ix_wavelet_rank_j14 at h
  refine W.seq ?_
  refine W.rt (e2 := [(6, I6 v60)]) ?_
  refine W.wk (env' := [(6, I6 v60)]) ?_
  have hr : aresults Try.prog Try.f51 [(6, I6 v60)] = some (I6 v60) := by kernel_rfl
  cases h
  exact W.ret hr
 refine W.block ?_
 refine W.wk (env' := z0 []) ?_
 refine W.fuel (σ := ((Option ixwavelet) × Int)) (fun s => [(0, ep_ixwavelet s.1), (1, .int .u8 a2), (2, I6 s.2)]) (fun m0 s => ix_wavelet_rank_l1 a2 (ix_wavelet_rank_j14) m0 s.1 s.2 = some r) (fun s h => ?_) (fun m1 s h hN1 => ?_) fuel (a1, a3) h
 ·obtain ⟨v15, v16⟩ := s
  have h : ix_wavelet_rank_l1 a2 (ix_wavelet_rank_j14) 0 v15 v16 = some r := h
  rw [ix_wavelet_rank_l1.eq_1] at h
  cases h
 ·obtain ⟨v15, v16⟩ := s
  have h : ix_wavelet_rank_l1 a2 (ix_wavelet_rank_j14) (m1 + 1) v15 v16 = some r := h
  rw [ix_wavelet_rank_l1.eq_2] at h
  refine W.seq ?_
  refine W.seq ?_
  refine W.rg ?_
  obtain ⟨q19, hq19, h⟩ := bind_some h
  obtain ⟨f20, f21, f22, f23⟩ := q19
  dsimp only [ixwavelet.cs] at h
  let z2 := fun t => EN ((0, ep_ixwavelet v15) :: (1, .int .u8 a2) :: t)
  let z3 := fun t => z2 ((2, I6 v16) :: t)
  refine WO.pk 1 (match v15.isNone with | false => some (AV.ptr (e_ixwaveletx v15)) | true => none) (v := .ptr (.agg [l5 none f20, l3 none f21, ep_ixwavelet f22, ep_ixwavelet f23])) (nc_av (F := e_ixwaveletx) hq19) (e1 := z3 [(14, ep_ixwavelet v15), (15, .ptr (.agg [l5 none f20, l3 none f21, ep_ixwavelet f22, ep_ixwavelet f23]))]) ?_
  refine WO.fn (e2 := z3 [(18, .bool (!f22.isNone))]) ?_
  refine W.cb (!f22.isNone) (fun hb => ?_) (fun hb => ?_)
  ·replace h := cond_t hb h
   refine W.skip ?_
   refine W.wk (env' := z3 []) ?_
   refine W.block ?_
   refine W.seq ?_
   refine W.rg ?_
   obtain ⟨q25, hq25, h⟩ := bind_some h
   obtain ⟨f26, f27, f28, f29⟩ := q25
   dsimp only [ixwavelet.cs] at h
   let z4 := fun t => z3 ((19, ep_ixwavelet v15) :: (20, .ptr (.agg [l5 none f26, l3 none f27, ep_ixwavelet f28, ep_ixwavelet f29])) :: t)
   refine WO.pk 1 (match v15.isNone with | false => some (AV.ptr (e_ixwaveletx v15)) | true => none) (v := .ptr (.agg [l5 none f26, l3 none f27, ep_ixwavelet f28, ep_ixwavelet f29])) (nc_av (F := e_ixwaveletx) hq25) (e1 := z4 []) ?_
   obtain ⟨q30, hq30, h⟩ := bind_some h
   obtain ⟨f31, f32, f33, f34⟩ := q30
   dsimp only [ixwavelet.cs] at h
   let z5 := fun t => z4 ((21, .ptr (ep_ixwavelet f29)) :: (22, ep_ixwavelet f29) :: (23, .ptr (.agg [l5 none f31, l3 none f32, ep_ixwavelet f33, ep_ixwavelet f34])) :: t)
   refine WO.pk 2 (match f29.isNone with | false => some (AV.ptr (e_ixwaveletx f29)) | true => none) (v := .ptr (.agg [l5 none f31, l3 none f32, ep_ixwavelet f33, ep_ixwavelet f34])) (nc_av (F := e_ixwaveletx) hq30) (e1 := z5 []) ?_
   obtain ⟨w35, hw35, h⟩ := bind_some h
   refine WO.ck 3 (F := 77) (l := [l5 none f31, .int .u8 a2]) (C := []) (r := .bool w35) (run_sl_Contains_byte f31 a2 w35 hw35) (e1 := z5 [(24, .ptr (l5 none f31)), (25, l5 none f31), (26, .int .u8 a2), (27, .bool w35)]) ?_
   let z6 := fun t => z3 ((27, .bool w35) :: t)
   refine WO.fn (e2 := z6 []) ?_
   refine W.cb w35 (fun hb => ?_) (fun hb => ?_)
   ·replace h := cond_t hb h
    refine W.seq ?_
    refine W.rg ?_
    obtain ⟨q37, hq37, h⟩ := bind_some h
    obtain ⟨f38, f39, f40, f41⟩ := q37
    dsimp only [ixwavelet.cs] at h
    let z7 := fun t => z6 ((28, ep_ixwavelet v15) :: (29, .ptr (.agg [l5 none f38, l3 none f39, ep_ixwavelet f40, ep_ixwavelet f41])) :: t)
    refine WO.pk 1 (match v15.isNone with | false => some (AV.ptr (e_ixwaveletx v15)) | true => none) (v := .ptr (.agg [l5 none f38, l3 none f39, ep_ixwavelet f40, ep_ixwavelet f41])) (nc_av (F := e_ixwaveletx) hq37) (e1 := z7 []) ?_
    obtain ⟨e42, he42, h⟩ := bind_some h
    refine WO.pk 3 (if (0 : Int) ≤ v16 then ((M6 f39)[Int.toNat v16]?).map AV.ptr else none) (v := .ptr (I6 e42)) (idx_av (f := (AV.int .i64)) he42) (e1 := z7 [(30, .ptr (l3 none f39)), (31, l3 none f39), (32, I6 v16), (33, .ptr (I6 e42))]) ?_
    refine WO.fn (e2 := z2 [(2, I6 e42)]) ?_
    refine W.rg ?_
    obtain ⟨q43, hq43, h⟩ := bind_some h
    obtain ⟨f44, f45, f46, f47⟩ := q43
    dsimp only [ixwavelet.cs] at h
    refine WO.pk 1 (match v15.isNone with | false => some (AV.ptr (e_ixwaveletx v15)) | true => none) (v := .ptr (.agg [l5 none f44, l3 none f45, ep_ixwavelet f46, ep_ixwavelet f47])) (nc_av (F := e_ixwaveletx) hq43) (e1 := z2 [(2, I6 e42), (35, ep_ixwavelet v15), (36, .ptr (.agg [l5 none f44, l3 none f45, ep_ixwavelet f46, ep_ixwavelet f47]))]) ?_
    refine WO.fn (e2 := [(0, ep_ixwavelet f47), (1, .int .u8 a2), (2, I6 e42)]) ?_
    exact hN1 (f47, e42) h
   replace h := cond_f hb h
   refine W.seq ?_
   refine W.rg ?_
   obtain ⟨q49, hq49, h⟩ := bind_some h
   obtain ⟨f50, f51, f52, f53⟩ := q49
   dsimp only [ixwavelet.cs] at h
   let z8 := fun t => z6 ((39, I6 v16) :: (40, ep_ixwavelet v15) :: (41, .ptr (.agg [l5 none f50, l3 none f51, ep_ixwavelet f52, ep_ixwavelet f53])) :: t)
   refine WO.pk 2 (match v15.isNone with | false => some (AV.ptr (e_ixwaveletx v15)) | true => none) (v := .ptr (.agg [l5 none f50, l3 none f51, ep_ixwavelet f52, ep_ixwavelet f53])) (nc_av (F := e_ixwaveletx) hq49) (e1 := z8 []) ?_
   obtain ⟨e54, he54, h⟩ := bind_some h
   refine WO.pk 3 (if (0 : Int) ≤ v16 then ((M6 f51)[Int.toNat v16]?).map AV.ptr else none) (v := .ptr (I6 e54)) (idx_av (f := (AV.int .i64)) he54) (e1 := z8 [(42, .ptr (l3 none f51)), (43, l3 none f51), (44, I6 v16), (45, .ptr (I6 e54))]) ?_
   refine WO.fn (e2 := z2 [(2, I6 (W6 (v16 - e54)))]) ?_
   refine W.rg ?_
   obtain ⟨q55, hq55, h⟩ := bind_some h
   obtain ⟨f56, f57, f58, f59⟩ := q55
   dsimp only [ixwavelet.cs] at h
   refine WO.pk 1 (match v15.isNone with | false => some (AV.ptr (e_ixwaveletx v15)) | true => none) (v := .ptr (.agg [l5 none f56, l3 none f57, ep_ixwavelet f58, ep_ixwavelet f59])) (nc_av (F := e_ixwaveletx) hq55) (e1 := z2 [(2, I6 (W6 (v16 - e54))), (48, ep_ixwavelet v15), (49, .ptr (.agg [l5 none f56, l3 none f57, ep_ixwavelet f58, ep_ixwavelet f59]))]) ?_
   refine WO.fn (e2 := [(0, ep_ixwavelet f58), (1, .int .u8 a2), (2, I6 (W6 (v16 - e54)))]) ?_
   exact hN1 (f58, (W6 (v16 - e54))) h
  replace h := cond_f hb h
  refine W.exit ?_
  refine W.wk (env' := [(2, I6 v16)]) ?_
  exact hK14 v16 h
def ix_Index_before (fuel : Nat) (a1 : (Option ixIndex)) (a2 : Int) (a3 : Int) : Option Int :=
 (a1.bind fun q6 => ((idx q6.f_starts a2).bind fun e7 => (a1.bind fun q8 => ((ix_wavelet_rank fuel q8.f_w a2 a3).bind fun w9 => (some (IntKind.wrap .i64 (e7 + w9)))))))
theorem run_ix_Index_before (fuel : Nat) (a1 : (Option ixIndex)) (a2 : Int) (a3 : Int) (r : Int) (h : ix_Index_before fuel a1 a2 a3 = some r) : Run Try.prog (.call 54 [ep e_ixIndex a1, .int .u8 a2, I6 a3] (I6 r)) := by
 refine cW Try.func54 rfl (env0 := [(0, ep e_ixIndex a1), (1, .int .u8 a2), (2, I6 a3)]) ?_
 unfold ix_Index_before at h
 refine W.seq ?_
 let z0 := fun t => EN ((0, ep e_ixIndex a1) :: (1, .int .u8 a2) :: (2, I6 a3) :: t)
 refine W.rt (e2 := z0 []) ?_
 refine W.seq ?_
 refine W.rg ?_
 obtain ⟨q6, hq6, h⟩ := bind_some h
 let z1 := fun t => z0 ((7, ep e_ixIndex a1) :: (8, .ptr (.agg [ep_ixwavelet q6.f_w, I6 q6.f_length, l3 none q6.f_starts, l3 none q6.f_places])) :: t)
 refine WO.pk 1 (match a1.isNone with | false => some (AV.ptr ((epx e_ixIndex) a1)) | true => none) (v := .ptr (.agg [ep_ixwavelet q6.f_w, I6 q6.f_length, l3 none q6.f_starts, l3 none q6.f_places])) (nc_av (F := (epx e_ixIndex)) hq6) (e1 := z1 []) ?_
 obtain ⟨e7, he7, h⟩ := bind_some h
 let z2 := fun t => z1 ((9, .ptr (l3 none q6.f_starts)) :: (10, l3 none q6.f_starts) :: (11, .int .u8 a2) :: (12, .ptr (I6 e7)) :: t)
 refine WO.pk 3 (if (0 : Int) ≤ a2 then ((M6 q6.f_starts)[Int.toNat a2]?).map AV.ptr else none) (v := .ptr (I6 e7)) (idx_av (f := (AV.int .i64)) he7) (e1 := z2 []) ?_
 obtain ⟨q8, hq8, h⟩ := bind_some h
 let z3 := fun t => z2 ((13, I6 e7) :: (14, ep e_ixIndex a1) :: (15, .ptr (.agg [ep_ixwavelet q8.f_w, I6 q8.f_length, l3 none q8.f_starts, l3 none q8.f_places])) :: t)
 refine WO.pk 2 (match a1.isNone with | false => some (AV.ptr ((epx e_ixIndex) a1)) | true => none) (v := .ptr (.agg [ep_ixwavelet q8.f_w, I6 q8.f_length, l3 none q8.f_starts, l3 none q8.f_places])) (nc_av (F := (epx e_ixIndex)) hq8) (e1 := z3 []) ?_
 obtain ⟨w9, hw9, h⟩ := bind_some h
 refine WO.ck 4 (F := 51) (l := [ep_ixwavelet q8.f_w, .int .u8 a2, I6 a3]) (C := []) (r := I6 w9) (run_ix_wavelet_rank fuel q8.f_w a2 a3 w9 hw9) (e1 := z3 [(16, .ptr (ep_ixwavelet q8.f_w)), (17, ep_ixwavelet q8.f_w), (18, .int .u8 a2), (19, I6 a3), (20, I6 w9)]) ?_
 refine WO.fn (e2 := [(6, I6 (W6 (e7 + w9)))]) ?_
 refine W.wk (env' := [(6, I6 (W6 (e7 + w9)))]) ?_
 have hr : aresults Try.prog Try.f54 [(6, I6 (W6 (e7 + w9)))] = some (I6 (W6 (e7 + w9))) := by kernel_rfl
 cases h
 exact W.ret hr
def ix_Index_find_j6 (v18 : Int) (v19 : Int) : Option (Int × Int) :=
 (some (v18, (if v19 > v18 then v19 else v18)))
def ix_Index_find_l1 (fuel : Nat) (a1 : (Option ixIndex)) (a2 : ByteArray) (K6 : (Int → Int → Option (Int × Int))) : Nat → Int → Int → Int → Option (Int × Int)
 | 0, _, _, _ => none
 | m1 + 1, v8, v9, v10 => (bif (decide (v10 ≥ 0)) then ((sidx a2 v10).bind fun e14 => ((ix_Index_before fuel a1 e14 v8).bind fun w15 => ((sidx a2 v10).bind fun e16 => ((ix_Index_before fuel a1 e16 v9).bind fun w17 => ((ix_Index_find_l1 fuel a1 a2 K6 m1) w15 w17 (IntKind.wrap .i64 (v10 - 1))))))) else (K6 v8 v9))
def ix_Index_find (fuel : Nat) (a1 : (Option ixIndex)) (a2 : ByteArray) : Option (Int × Int) :=
 (a1.bind fun q5 => (ix_Index_find_l1 fuel a1 a2 (ix_Index_find_j6) fuel 0 (IntKind.wrap .i64 (q5.f_length + 1)) (IntKind.wrap .i64 ((a2.size : Int) - 1))))
theorem run_ix_Index_find (fuel : Nat) (a1 : (Option ixIndex)) (a2 : ByteArray) (r : (Int × Int)) (h : ix_Index_find fuel a1 a2 = some r) : Run Try.prog (.call 49 [ep e_ixIndex a1, .str a2] (.tup [I6 r.1, I6 r.2])) := by
 refine cW Try.func49 rfl (env0 := [(0, ep e_ixIndex a1), (1, .str a2)]) ?_
 unfold ix_Index_find at h
 refine W.seq ?_
 let z0 := fun t => EN ((0, ep e_ixIndex a1) :: (1, .str a2) :: t)
 refine W.rt (e2 := z0 []) ?_
 refine W.seq ?_
 refine W.rg ?_
 obtain ⟨q5, hq5, h⟩ := bind_some h
 refine WO.pk 1 (match a1.isNone with | false => some (AV.ptr ((epx e_ixIndex) a1)) | true => none) (v := .ptr (.agg [ep_ixwavelet q5.f_w, I6 q5.f_length, l3 none q5.f_starts, l3 none q5.f_places])) (nc_av (F := (epx e_ixIndex)) hq5) (e1 := z0 [(7, ep e_ixIndex a1), (8, .ptr (.agg [ep_ixwavelet q5.f_w, I6 q5.f_length, l3 none q5.f_starts, l3 none q5.f_places]))]) ?_
 let z1 := fun t => z0 ((4, .int .i64 0) :: (5, I6 (W6 (q5.f_length + 1))) :: t)
 refine WO.fn (e2 := z1 []) ?_
 refine W.seq ?_
 refine W.join (σ := (Int × Int)) (fun s => [(4, I6 s.1), (5, I6 s.2)]) (fun s => (ix_Index_find_j6) s.1 s.2 = some r) (fun s h => ?_) (fun hK6 => ?_)
 ·obtain ⟨v18, v19⟩ := s
  have h : (ix_Index_find_j6) v18 v19 = some r := h
  unfold ix_Index_find_j6 at h
  refine W.seq ?_
  let z2 := fun t => EN ((4, I6 v18) :: (5, I6 (if v19 > v18 then v19 else v18)) :: t)
  refine W.rt (e2 := z2 []) ?_
  refine W.wk (env' := z2 []) ?_
  have hr : aresults Try.prog Try.f49 [(4, I6 v18), (5, I6 (if v19 > v18 then v19 else v18))] = some (.tup [I6 v18, I6 (if v19 > v18 then v19 else v18)]) := by kernel_rfl
  cases h
  exact W.ret hr
 refine W.seq ?_
 let z3 := fun t => z1 ((6, I6 (W6 ((a2.size : Int) - 1))) :: t)
 refine W.rt (e2 := z3 []) ?_
 refine W.block ?_
 refine W.wk (env' := z3 []) ?_
 refine W.fuel (σ := (Int × Int × Int)) (fun s => z0 [(4, I6 s.1), (5, I6 s.2.1), (6, I6 s.2.2)]) (fun m0 s => ix_Index_find_l1 fuel a1 a2 (ix_Index_find_j6) m0 s.1 s.2.1 s.2.2 = some r) (fun s h => ?_) (fun m1 s h hN1 => ?_) fuel (0, (W6 (q5.f_length + 1)), (W6 ((a2.size : Int) - 1))) h
 ·obtain ⟨v8, v9, v10⟩ := s
  have h : ix_Index_find_l1 fuel a1 a2 (ix_Index_find_j6) 0 v8 v9 v10 = some r := h
  rw [ix_Index_find_l1.eq_1] at h
  cases h
 ·obtain ⟨v8, v9, v10⟩ := s
  have h : ix_Index_find_l1 fuel a1 a2 (ix_Index_find_j6) (m1 + 1) v8 v9 v10 = some r := h
  rw [ix_Index_find_l1.eq_2] at h
  refine W.seq ?_
  refine W.seq ?_
  let z4 := fun t => z0 ((4, I6 v8) :: (5, I6 v9) :: (6, I6 v10) :: t)
  refine W.rt (e2 := z4 [(16, .bool (decide (v10 ≥ 0)))]) ?_
  refine W.cb (decide (v10 ≥ 0)) (fun hb => ?_) (fun hb => ?_)
  ·replace h := cond_t hb h
   refine W.skip ?_
   refine W.wk (env' := z4 []) ?_
   refine W.seq ?_
   refine W.block ?_
   refine W.rg ?_
   obtain ⟨e14, he14, h⟩ := bind_some h
   let z5 := fun t => z4 ((19, ep e_ixIndex a1) :: (20, .str a2) :: (21, I6 v10) :: (22, .int .u8 e14) :: t)
   refine WO.pk 3 (if (0 : Int) ≤ v10 then (a2[Int.toNat v10]?).map fun b => AV.int .u8 b.toNat else none) (v := .int .u8 e14) (sidx_av he14) (e1 := z5 []) ?_
   obtain ⟨w15, hw15, h⟩ := bind_some h
   let z6 := fun t => z5 ((23, I6 v8) :: (24, I6 w15) :: t)
   refine WO.ck 1 (F := 54) (l := [ep e_ixIndex a1, .int .u8 e14, I6 v8]) (C := []) (r := I6 w15) (run_ix_Index_before fuel a1 e14 v8 w15 hw15) (e1 := z6 []) ?_
   obtain ⟨e16, he16, h⟩ := bind_some h
   let z7 := fun t => z6 ((25, ep e_ixIndex a1) :: (26, .str a2) :: (27, I6 v10) :: (28, .int .u8 e16) :: t)
   refine WO.pk 3 (if (0 : Int) ≤ v10 then (a2[Int.toNat v10]?).map fun b => AV.int .u8 b.toNat else none) (v := .int .u8 e16) (sidx_av he16) (e1 := z7 []) ?_
   obtain ⟨w17, hw17, h⟩ := bind_some h
   refine WO.ck 1 (F := 54) (l := [ep e_ixIndex a1, .int .u8 e16, I6 v9]) (C := []) (r := I6 w17) (run_ix_Index_before fuel a1 e16 v9 w17 hw17) (e1 := z7 [(29, I6 v9), (30, I6 w17)]) ?_
   refine WO.fn (e2 := z0 [(4, I6 w15), (5, I6 w17), (6, I6 v10)]) ?_
   refine W.rt (e2 := z0 [(4, I6 w15), (5, I6 w17), (6, I6 (W6 (v10 - 1)))]) ?_
   exact hN1 (w15, w17, (W6 (v10 - 1))) h
  replace h := cond_f hb h
  refine W.exit ?_
  refine W.wk (env' := [(4, I6 v8), (5, I6 v9)]) ?_
  exact hK6 (v8, v9) h
def ix_Index_Count (fuel : Nat) (a1 : (Option ixIndex)) (a2 : ByteArray) : Option (Int × Int) :=
 ((ix_Index_none a1).bind fun w6 => (bif w6 then (some (0, 1)) else ((ix_valid a2).bind fun w10 => (bif (!w10) then (some (0, 2)) else ((ix_Index_find fuel a1 a2).bind fun w13 => (some ((IntKind.wrap .i64 (w13.2 - w13.1)), 0)))))))
theorem run_ix_Index_Count (fuel : Nat) (a1 : (Option ixIndex)) (a2 : ByteArray) (r : (Int × Int)) (h : ix_Index_Count fuel a1 a2 = some r) : Run Try.prog (.call 32 [ep e_ixIndex a1, .str a2] (.tup [I6 r.1, I6 r.2])) := by
 refine cW Try.func32 rfl (env0 := [(0, ep e_ixIndex a1), (1, .str a2)]) ?_
 unfold ix_Index_Count at h
 refine W.seq ?_
 let z0 := fun t => EN ((0, ep e_ixIndex a1) :: (1, .str a2) :: t)
 refine W.rt (e2 := z0 []) ?_
 refine W.seq ?_
 refine W.seq ?_
 refine W.rg ?_
 obtain ⟨w6, hw6, h⟩ := bind_some h
 refine WO.ck 1 (F := 48) (l := [ep e_ixIndex a1]) (C := []) (r := .bool w6) (run_ix_Index_none a1 w6 hw6) (e1 := z0 [(8, ep e_ixIndex a1), (9, .bool w6)]) ?_
 refine WO.fn (e2 := z0 [(9, .bool w6)]) ?_
 refine W.cb w6 (fun hb => ?_) (fun hb => ?_)
 ·replace h := cond_t hb h
  refine W.seq ?_
  refine W.rt (e2 := [(4, .int .i64 0), (5, .int .i64 1)]) ?_
  refine W.wk (env' := [(4, .int .i64 0), (5, .int .i64 1)]) ?_
  have hr : aresults Try.prog Try.f32 [(4, .int .i64 0), (5, .int .i64 1)] = some (.tup [.int .i64 0, .int .i64 1]) := by kernel_rfl
  cases h
  exact W.ret hr
 replace h := cond_f hb h
 refine W.skip ?_
 refine W.wk (env' := z0 []) ?_
 refine W.seq ?_
 refine W.seq ?_
 refine W.rg ?_
 obtain ⟨w10, hw10, h⟩ := bind_some h
 refine WO.ck 1 (F := 40) (l := [.str a2]) (C := []) (r := .bool w10) (run_ix_valid a2 w10 hw10) (e1 := z0 [(10, .str a2), (11, .bool w10)]) ?_
 refine WO.fn (e2 := z0 [(12, .bool (!w10))]) ?_
 refine W.cb (!w10) (fun hb => ?_) (fun hb => ?_)
 ·replace h := cond_t hb h
  refine W.seq ?_
  refine W.rt (e2 := [(4, .int .i64 0), (5, .int .i64 2)]) ?_
  refine W.wk (env' := [(4, .int .i64 0), (5, .int .i64 2)]) ?_
  have hr : aresults Try.prog Try.f32 [(4, .int .i64 0), (5, .int .i64 2)] = some (.tup [.int .i64 0, .int .i64 2]) := by kernel_rfl
  cases h
  exact W.ret hr
 replace h := cond_f hb h
 refine W.skip ?_
 refine W.wk (env' := z0 []) ?_
 refine W.seq ?_
 refine W.rg ?_
 obtain ⟨w13, hw13, h⟩ := bind_some h
 refine WO.ck 2 (F := 49) (l := [ep e_ixIndex a1, .str a2]) (C := []) (r := .tup [I6 w13.1, I6 w13.2]) (run_ix_Index_find fuel a1 a2 w13 hw13) (e1 := z0 [(14, ep e_ixIndex a1), (15, .str a2), (16, .tup [I6 w13.1, I6 w13.2])]) ?_
 refine WO.fn (e2 := [(6, I6 w13.1), (7, I6 w13.2)]) ?_
 refine W.seq ?_
 let z1 := fun t => EN ((4, I6 (W6 (w13.2 - w13.1))) :: (5, .int .i64 0) :: t)
 refine W.rt (e2 := z1 []) ?_
 refine W.wk (env' := z1 []) ?_
 have hr : aresults Try.prog Try.f32 [(4, I6 (W6 (w13.2 - w13.1))), (5, .int .i64 0)] = some (.tup [I6 (W6 (w13.2 - w13.1)), .int .i64 0]) := by kernel_rfl
 cases h
 exact W.ret hr
end Go.AM
