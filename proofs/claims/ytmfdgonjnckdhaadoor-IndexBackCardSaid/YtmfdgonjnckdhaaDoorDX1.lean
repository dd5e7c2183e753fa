/- s -/
import Derived.Test.YtmfdgonjnckdhaaDoorDXT
set_option maxRecDepth 100000
set_option linter.unusedVariables false
set_option linter.unusedSimpArgs false
namespace Go.AM
open Go.Proofs
def st_Count (a1 : ByteArray) (a2 : ByteArray) : Option Int := chk (decide (a2.size = 1)) (some (Lib.countByte a1.data.toList (a2.data.toList.headD 0)))
theorem run_st_Count (a1 : ByteArray) (a2 : ByteArray) (r : Int) (h : st_Count a1 a2 = some r) : Run Tryd.prog (.call 23 [.str a1, .str a2] (I6 r)) := by
 unfold st_Count at h
 obtain ⟨hp, h⟩ := chk_some h
 cases h
 replace hp := of_decide_eq_true hp
 refine .ext rfl rfl fun w _ => ?_
 obtain ⟨⟨l⟩⟩ := a2
 rcases l with _ | ⟨c, _ | ⟨d, l⟩⟩
 ·exact absurd hp (by decide)
 ·exact (Tryd.strings_Count_one a1 c w).mono fun e w' hh => ⟨hh.1, hh.2 ▸ RowKit.Below.refl _ _⟩
 ·exact absurd (show (d :: l).length + 1 = 1 from hp) (by simp)
def sl_insertionSortCmpFunc_int_j11 (v8 : Int) (N1 : ((List Int) → Int → Option (List Int))) (v34 : (List Int)) : Option (List Int) :=
 (N1 v34 (IntKind.wrap .i64 (v8 + 1)))
def sl_insertionSortCmpFunc_int_j16 (n2 : Nat) (v13 : (List Int)) (v14 : Int) (N2 : ((List Int) → Int → Option (List Int))) (K11 : ((List Int) → Option (List Int))) (v22 : Bool) : Option (List Int) :=
 (bif v22 then (chk (decide ((0 : Int) ≤ (IntKind.wrap .i64 (v14 - 1)) ∧ (IntKind.wrap .i64 (v14 - 1)) < ((n2 : Nat) : Int))) ((v13[(0 + Int.toNat (IntKind.wrap .i64 (v14 - 1)))]?).bind fun e25 => (chk (decide ((0 : Int) ≤ v14 ∧ v14 < ((n2 : Nat) : Int))) ((v13[(0 + Int.toNat v14)]?).bind fun e27 => (chk (decide ((0 : Int) ≤ v14 ∧ v14 < ((n2 : Nat) : Int))) ((upd v13 (0 + Int.toNat v14) e25).bind fun u29 => (chk (decide ((0 : Int) ≤ (IntKind.wrap .i64 (v14 - 1)) ∧ (IntKind.wrap .i64 (v14 - 1)) < ((n2 : Nat) : Int))) ((upd u29 (0 + Int.toNat (IntKind.wrap .i64 (v14 - 1))) e27).bind fun u32 => (N2 u32 (IntKind.wrap .i64 (v14 - 1))))))))))) else (K11 v13))
def sl_insertionSortCmpFunc_int_l2 (n2 : Nat) (a3 : Int) (g5 : (Int → Int → Option Int)) (K11 : ((List Int) → Option (List Int))) : Nat → (List Int) → Int → Option (List Int)
 | 0, _, _ => none
 | m2 + 1, v13, v14 => (bif (decide (v14 > a3)) then (chk (decide ((0 : Int) ≤ v14 ∧ v14 < ((n2 : Nat) : Int))) ((v13[(0 + Int.toNat v14)]?).bind fun e18 => (chk (decide ((0 : Int) ≤ (IntKind.wrap .i64 (v14 - 1)) ∧ (IntKind.wrap .i64 (v14 - 1)) < ((n2 : Nat) : Int))) ((v13[(0 + Int.toNat (IntKind.wrap .i64 (v14 - 1)))]?).bind fun e20 => ((g5 e18 e20).bind fun w21 => ((sl_insertionSortCmpFunc_int_j16 n2 v13 v14 (sl_insertionSortCmpFunc_int_l2 n2 a3 g5 K11 m2) K11) (decide (w21 < 0)))))))) else ((sl_insertionSortCmpFunc_int_j16 n2 v13 v14 (sl_insertionSortCmpFunc_int_l2 n2 a3 g5 K11 m2) K11) false))
def sl_insertionSortCmpFunc_int_l1 (fuel : Nat) (n2 : Nat) (a3 : Int) (a4 : Int) (g5 : (Int → Int → Option Int)) : Nat → (List Int) → Int → Option (List Int)
 | 0, _, _ => none
 | m1 + 1, v7, v8 => (bif (decide (v8 < a4)) then (sl_insertionSortCmpFunc_int_l2 n2 a3 g5 (sl_insertionSortCmpFunc_int_j11 v8 (sl_insertionSortCmpFunc_int_l1 fuel n2 a3 a4 g5 m1)) fuel v7 v8) else (some v7))
def sl_insertionSortCmpFunc_int (fuel : Nat) (a1 : (List Int)) (n2 : Nat) (a3 : Int) (a4 : Int) (g5 : (Int → Int → Option Int)) : Option (List Int) :=
 (sl_insertionSortCmpFunc_int_l1 fuel n2 a3 a4 g5 fuel a1 (IntKind.wrap .i64 (a3 + 1)))
theorem run_sl_insertionSortCmpFunc_int (fuel : Nat) (a1 : (List Int)) (n2 : Nat) (a3 : Int) (a4 : Int) (g5 : (Int → Int → Option Int)) (F_g5 : Nat) (C_g5 : List AV) (hok_g5 : okFn Tryd.prog F_g5 = true) (hrun_g5 : ∀ (x0 : Int) (x1 : Int) r, g5 x0 x1 = some r → Run Tryd.prog (.call F_g5 ([I6 x0, I6 x1] ++ C_g5) (I6 r))) (r : (List Int)) (h : sl_insertionSortCmpFunc_int fuel a1 n2 a3 a4 g5 = some r) : Run Tryd.prog (.callM 66 [.sb 2000000 3 1 0 n2, I6 a3, I6 a4, .clo F_g5 C_g5] [(2000000, .obj 3 1 (M6 a1))] (.tup []) [(2000000, .obj 3 1 (M6 r))]) := by
 refine cM Tryd.func66 rfl (env0 := [(0, .sb 2000000 3 1 0 n2), (1, I6 a3), (2, I6 a4), (3, .clo F_g5 C_g5), (2000000, .obj 3 1 (M6 a1))]) ?_
 unfold sl_insertionSortCmpFunc_int at h
 refine W.seq ?_
 let z0 := fun t => EN ((0, .sb 2000000 3 1 0 n2) :: (1, I6 a3) :: (2, I6 a4) :: (3, .clo F_g5 C_g5) :: t)
 let z1 := fun t => z0 ((8, I6 (W6 (a3 + 1))) :: (2000000, .obj 3 1 (M6 a1)) :: t)
 refine W.rt (e2 := z1 []) ?_
 refine W.block ?_
 refine W.wk (env' := z1 []) ?_
 refine W.fuel (σ := ((List Int) × Int)) (fun s => z0 [(8, I6 s.2), (2000000, .obj 3 1 (M6 s.1))]) (fun m0 s => sl_insertionSortCmpFunc_int_l1 fuel n2 a3 a4 g5 m0 s.1 s.2 = some r) (fun s h => ?_) (fun m1 s h hN1 => ?_) fuel (a1, (W6 (a3 + 1))) h
 ·obtain ⟨v7, v8⟩ := s
  have h : sl_insertionSortCmpFunc_int_l1 fuel n2 a3 a4 g5 0 v7 v8 = some r := h
  rw [sl_insertionSortCmpFunc_int_l1.eq_1] at h
  cases h
 ·obtain ⟨v7, v8⟩ := s
  have h : sl_insertionSortCmpFunc_int_l1 fuel n2 a3 a4 g5 (m1 + 1) v7 v8 = some r := h
  rw [sl_insertionSortCmpFunc_int_l1.eq_2] at h
  refine W.seq ?_
  refine W.seq ?_
  let z2 := fun t => z0 ((8, I6 v8) :: t)
  let z3 := fun t => z2 ((14, .bool (decide (v8 < a4))) :: (2000000, .obj 3 1 (M6 v7)) :: t)
  refine W.rt (e2 := z3 []) ?_
  refine W.cb (decide (v8 < a4)) (fun hb => ?_) (fun hb => ?_)
  ·replace h := cond_t hb h
   refine W.skip ?_
   refine W.wk (env' := z2 [(2000000, .obj 3 1 (M6 v7))]) ?_
   refine W.seq ?_
   refine W.join (σ := ((List Int))) (fun s => z2 [(2000000, .obj 3 1 (M6 s))]) (fun s => (sl_insertionSortCmpFunc_int_j11 v8 (sl_insertionSortCmpFunc_int_l1 fuel n2 a3 a4 g5 m1)) s = some r) (fun s h => ?_) (fun hK11 => ?_)
   ·obtain ⟨v34, rfl⟩ : ∃ x, x = s := ⟨s, rfl⟩
    have h : (sl_insertionSortCmpFunc_int_j11 v8 (sl_insertionSortCmpFunc_int_l1 fuel n2 a3 a4 g5 m1)) v34 = some r := h
    unfold sl_insertionSortCmpFunc_int_j11 at h
    refine W.rt (e2 := z0 [(8, I6 (W6 (v8 + 1))), (2000000, .obj 3 1 (M6 v34))]) ?_
    exact hN1 (v34, (W6 (v8 + 1))) h
   refine W.block ?_
   refine W.seq ?_
   let z4 := fun t => z2 ((9, I6 v8) :: (2000000, .obj 3 1 (M6 v7)) :: t)
   refine W.rt (e2 := z4 []) ?_
   refine W.block ?_
   refine W.wk (env' := z4 []) ?_
   refine W.fuel (σ := ((List Int) × Int)) (fun s => z2 [(9, I6 s.2), (2000000, .obj 3 1 (M6 s.1))]) (fun m0 s => sl_insertionSortCmpFunc_int_l2 n2 a3 g5 (sl_insertionSortCmpFunc_int_j11 v8 (sl_insertionSortCmpFunc_int_l1 fuel n2 a3 a4 g5 m1)) m0 s.1 s.2 = some r) (fun s h => ?_) (fun m2 s h hN2 => ?_) fuel (v7, v8) h
   ·obtain ⟨v13, v14⟩ := s
    have h : sl_insertionSortCmpFunc_int_l2 n2 a3 g5 (sl_insertionSortCmpFunc_int_j11 v8 (sl_insertionSortCmpFunc_int_l1 fuel n2 a3 a4 g5 m1)) 0 v13 v14 = some r := h
    rw [sl_insertionSortCmpFunc_int_l2.eq_1] at h
    cases h
   ·obtain ⟨v13, v14⟩ := s
    have h : sl_insertionSortCmpFunc_int_l2 n2 a3 g5 (sl_insertionSortCmpFunc_int_j11 v8 (sl_insertionSortCmpFunc_int_l1 fuel n2 a3 a4 g5 m1)) (m2 + 1) v13 v14 = some r := h
    rw [sl_insertionSortCmpFunc_int_l2.eq_2] at h
    refine W.seq ?_
    refine W.seq ?_
    let z5 := fun t => z2 ((9, I6 v14) :: t)
    refine W.join (σ := (Bool)) (fun s => z5 [(34, .bool s), (2000000, .obj 3 1 (M6 v13))]) (fun s => (sl_insertionSortCmpFunc_int_j16 n2 v13 v14 (sl_insertionSortCmpFunc_int_l2 n2 a3 g5 (sl_insertionSortCmpFunc_int_j11 v8 (sl_insertionSortCmpFunc_int_l1 fuel n2 a3 a4 g5 m1)) m2) (sl_insertionSortCmpFunc_int_j11 v8 (sl_insertionSortCmpFunc_int_l1 fuel n2 a3 a4 g5 m1))) s = some r) (fun s h => ?_) (fun hK16 => ?_)
    ·obtain ⟨v22, rfl⟩ : ∃ x, x = s := ⟨s, rfl⟩
     have h : (sl_insertionSortCmpFunc_int_j16 n2 v13 v14 (sl_insertionSortCmpFunc_int_l2 n2 a3 g5 (sl_insertionSortCmpFunc_int_j11 v8 (sl_insertionSortCmpFunc_int_l1 fuel n2 a3 a4 g5 m1)) m2) (sl_insertionSortCmpFunc_int_j11 v8 (sl_insertionSortCmpFunc_int_l1 fuel n2 a3 a4 g5 m1))) v22 = some r := h
     unfold sl_insertionSortCmpFunc_int_j16 at h
     refine W.cb v22 (fun hb => ?_) (fun hb => ?_)
     ·replace h := cond_t hb h
      refine W.skip ?_
      refine W.wk (env' := z5 [(2000000, .obj 3 1 (M6 v13))]) ?_
      refine W.seq ?_
      refine W.block ?_
      refine W.rg ?_
      obtain ⟨hc24, h⟩ := chk_some h
      let z6 := fun t => z5 ((37, .sb 2000000 3 1 0 n2) :: (38, I6 v14) :: (39, .sb 2000000 3 1 0 n2) :: (40, I6 v14) :: (41, I6 (W6 (v14 - 1))) :: (42, .sb 2000000 3 1 0 n2) :: (43, I6 v14) :: (44, I6 (W6 (v14 - 1))) :: (45, .pe 2000000 1 (0 + Int.toNat (W6 (v14 - 1))) 0) :: t)
      refine WO.pi 8 (v := .pe 2000000 1 (0 + Int.toNat (W6 (v14 - 1))) 0) hc24 (e1 := z6 [(2000000, .obj 3 1 (M6 v13))]) ?_
      obtain ⟨e25, he25, h⟩ := bind_some h
      let z7 := fun t => z6 ((46, I6 e25) :: t)
      refine WO.pk 0 (match (M6 v13)[(0 + Int.toNat (W6 (v14 - 1)))]? with | some y => cut Tryd.prog 3 (y.cells.map AV.strip) 0 | none => none) (v := I6 e25) ((pe_ld (f := (AV.int .i64)) (G := (fun y => cut Tryd.prog 3 (y.cells.map AV.strip) 0)) he25).trans (by kernel_rfl)) (e1 := z7 [(2000000, .obj 3 1 (M6 v13))]) ?_
      obtain ⟨hc26, h⟩ := chk_some h
      let z8 := fun t => z7 ((47, .sb 2000000 3 1 0 n2) :: (48, I6 v14) :: (49, .pe 2000000 1 (0 + Int.toNat v14) 0) :: t)
      refine WO.pi 2 (v := .pe 2000000 1 (0 + Int.toNat v14) 0) hc26 (e1 := z8 [(2000000, .obj 3 1 (M6 v13))]) ?_
      obtain ⟨e27, he27, h⟩ := bind_some h
      let z9 := fun t => z8 ((50, I6 e27) :: t)
      refine WO.pk 0 (match (M6 v13)[(0 + Int.toNat v14)]? with | some y => cut Tryd.prog 3 (y.cells.map AV.strip) 0 | none => none) (v := I6 e27) ((pe_ld (f := (AV.int .i64)) (G := (fun y => cut Tryd.prog 3 (y.cells.map AV.strip) 0)) he27).trans (by kernel_rfl)) (e1 := z9 [(2000000, .obj 3 1 (M6 v13))]) ?_
      obtain ⟨hc28, h⟩ := chk_some h
      let z10 := fun t => z9 ((51, .pe 2000000 1 (0 + Int.toNat v14) 0) :: t)
      refine WO.pi 0 (v := .pe 2000000 1 (0 + Int.toNat v14) 0) hc28 (e1 := z10 [(2000000, .obj 3 1 (M6 v13))]) ?_
      obtain ⟨u29, hu29, h⟩ := bind_some h
      obtain ⟨y30, hyy30, hzy30⟩ := upd_some hu29
      refine WO.sk 0 (id := 2000000) (e := 3) (s := 1) (off := 0) (vs := [I6 e25]) (AV.int .i64) hyy30 hzy30 (e1 := z10 [(2000000, .obj 3 1 (M6 u29))]) ?_
      obtain ⟨hc31, h⟩ := chk_some h
      let z11 := fun t => z10 ((52, .pe 2000000 1 (0 + Int.toNat (W6 (v14 - 1))) 0) :: t)
      refine WO.pi 0 (v := .pe 2000000 1 (0 + Int.toNat (W6 (v14 - 1))) 0) hc31 (e1 := z11 [(2000000, .obj 3 1 (M6 u29))]) ?_
      obtain ⟨u32, hu32, h⟩ := bind_some h
      obtain ⟨y33, hyy33, hzy33⟩ := upd_some hu32
      refine WO.sk 0 (id := 2000000) (e := 3) (s := 1) (off := 0) (vs := [I6 e27]) (AV.int .i64) hyy33 hzy33 (e1 := z11 [(2000000, .obj 3 1 (M6 u32))]) ?_
      refine WO.fn (e2 := z5 [(2000000, .obj 3 1 (M6 u32))]) ?_
      refine W.rt (e2 := z2 [(9, I6 (W6 (v14 - 1))), (2000000, .obj 3 1 (M6 u32))]) ?_
      exact hN2 (u32, (W6 (v14 - 1))) h
     replace h := cond_f hb h
     refine W.exit ?_
     refine W.wk (env' := z2 [(2000000, .obj 3 1 (M6 v13))]) ?_
     exact hK11 v13 h
    refine W.rg ?_
    let z12 := fun t => z5 ((18, I6 v14) :: (19, I6 a3) :: t)
    refine WO.bk 4 (fun b => z12 [(20, .bool b), (21, .bool b), (2000000, .obj 3 1 (M6 v13))]) (decide (v14 > a3)) (fun hb => ?_) (fun hb => ?_)
    ·replace h := cond_t hb h
     obtain ⟨hc17, h⟩ := chk_some h
     let z13 := fun t => z12 ((20, .bool true) :: (21, .bool true) :: (22, .clo F_g5 C_g5) :: (23, .sb 2000000 3 1 0 n2) :: (24, I6 v14) :: (25, .pe 2000000 1 (0 + Int.toNat v14) 0) :: t)
     refine WO.pi 3 (v := .pe 2000000 1 (0 + Int.toNat v14) 0) hc17 (e1 := z13 [(2000000, .obj 3 1 (M6 v13))]) ?_
     obtain ⟨e18, he18, h⟩ := bind_some h
     refine WO.pk 0 (match (M6 v13)[(0 + Int.toNat v14)]? with | some y => cut Tryd.prog 3 (y.cells.map AV.strip) 0 | none => none) (v := I6 e18) ((pe_ld (f := (AV.int .i64)) (G := (fun y => cut Tryd.prog 3 (y.cells.map AV.strip) 0)) he18).trans (by kernel_rfl)) (e1 := z13 [(26, I6 e18), (2000000, .obj 3 1 (M6 v13))]) ?_
     obtain ⟨hc19, h⟩ := chk_some h
     let z14 := fun t => z13 ((26, I6 e18) :: (27, .sb 2000000 3 1 0 n2) :: (28, I6 v14) :: (29, I6 (W6 (v14 - 1))) :: (30, .pe 2000000 1 (0 + Int.toNat (W6 (v14 - 1))) 0) :: t)
     refine WO.pi 3 (v := .pe 2000000 1 (0 + Int.toNat (W6 (v14 - 1))) 0) hc19 (e1 := z14 [(2000000, .obj 3 1 (M6 v13))]) ?_
     obtain ⟨e20, he20, h⟩ := bind_some h
     refine WO.pk 0 (match (M6 v13)[(0 + Int.toNat (W6 (v14 - 1)))]? with | some y => cut Tryd.prog 3 (y.cells.map AV.strip) 0 | none => none) (v := I6 e20) ((pe_ld (f := (AV.int .i64)) (G := (fun y => cut Tryd.prog 3 (y.cells.map AV.strip) 0)) he20).trans (by kernel_rfl)) (e1 := z14 [(31, I6 e20), (2000000, .obj 3 1 (M6 v13))]) ?_
     obtain ⟨w21, hw21, h⟩ := bind_some h
     refine WO.callK 0 (F := F_g5) (l := [I6 e18, I6 e20]) (C := C_g5) (r := I6 w21) (by kernel_rfl) hok_g5 (hrun_g5 e18 e20 w21 hw21) (e1 := z14 [(31, I6 e20), (32, I6 w21), (2000000, .obj 3 1 (M6 v13))]) (by kernel_rfl) ?_
     refine WO.fn (e2 := z5 [(34, .bool (decide (w21 < 0))), (2000000, .obj 3 1 (M6 v13))]) ?_
     exact hK16 (decide (w21 < 0)) h
    replace h := cond_f hb h
    refine WO.fn (e2 := z5 [(34, .bool false), (2000000, .obj 3 1 (M6 v13))]) ?_
    exact hK16 false h
  replace h := cond_f hb h
  have hr : PostM Tryd.prog Tryd.f66 (.tup []) [(2000000, .obj 3 1 (M6 v7))] .normal (z3 []) := ⟨by kernel_rfl, by kernel_rfl⟩
  cases h
  exact W.exit hr
def sl_swapRangeCmpFunc_int_l1 (n2 : Nat) (a3 : Int) (a4 : Int) (a5 : Int) : Nat → (List Int) → Int → Option (List Int)
 | 0, _, _ => none
 | m1 + 1, v8, v9 => (bif (decide (v9 < a5)) then (chk (decide ((0 : Int) ≤ (IntKind.wrap .i64 (a4 + v9)) ∧ (IntKind.wrap .i64 (a4 + v9)) < ((n2 : Nat) : Int))) ((v8[(0 + Int.toNat (IntKind.wrap .i64 (a4 + v9)))]?).bind fun e14 => (chk (decide ((0 : Int) ≤ (IntKind.wrap .i64 (a3 + v9)) ∧ (IntKind.wrap .i64 (a3 + v9)) < ((n2 : Nat) : Int))) ((v8[(0 + Int.toNat (IntKind.wrap .i64 (a3 + v9)))]?).bind fun e16 => (chk (decide ((0 : Int) ≤ (IntKind.wrap .i64 (a3 + v9)) ∧ (IntKind.wrap .i64 (a3 + v9)) < ((n2 : Nat) : Int))) ((upd v8 (0 + Int.toNat (IntKind.wrap .i64 (a3 + v9))) e14).bind fun u18 => (chk (decide ((0 : Int) ≤ (IntKind.wrap .i64 (a4 + v9)) ∧ (IntKind.wrap .i64 (a4 + v9)) < ((n2 : Nat) : Int))) ((upd u18 (0 + Int.toNat (IntKind.wrap .i64 (a4 + v9))) e16).bind fun u21 => ((sl_swapRangeCmpFunc_int_l1 n2 a3 a4 a5 m1) u21 (IntKind.wrap .i64 (v9 + 1))))))))))) else (some v8))
def sl_swapRangeCmpFunc_int (fuel : Nat) (a1 : (List Int)) (n2 : Nat) (a3 : Int) (a4 : Int) (a5 : Int) (g6 : (Int → Int → Option Int)) : Option (List Int) :=
 (sl_swapRangeCmpFunc_int_l1 n2 a3 a4 a5 fuel a1 0)
theorem run_sl_swapRangeCmpFunc_int (fuel : Nat) (a1 : (List Int)) (n2 : Nat) (a3 : Int) (a4 : Int) (a5 : Int) (g6 : (Int → Int → Option Int)) (F_g6 : Nat) (C_g6 : List AV) (hok_g6 : okFn Tryd.prog F_g6 = true) (hrun_g6 : ∀ (x0 : Int) (x1 : Int) r, g6 x0 x1 = some r → Run Tryd.prog (.call F_g6 ([I6 x0, I6 x1] ++ C_g6) (I6 r))) (r : (List Int)) (h : sl_swapRangeCmpFunc_int fuel a1 n2 a3 a4 a5 g6 = some r) : Run Tryd.prog (.callM 99 [.sb 2000000 3 1 0 n2, I6 a3, I6 a4, I6 a5, .clo F_g6 C_g6] [(2000000, .obj 3 1 (M6 a1))] (.tup []) [(2000000, .obj 3 1 (M6 r))]) := by
 refine cM Tryd.func99 rfl (env0 := [(0, .sb 2000000 3 1 0 n2), (1, I6 a3), (2, I6 a4), (3, I6 a5), (4, .clo F_g6 C_g6), (2000000, .obj 3 1 (M6 a1))]) ?_
 unfold sl_swapRangeCmpFunc_int at h
 refine W.seq ?_
 let z0 := fun t => EN ((0, .sb 2000000 3 1 0 n2) :: (1, I6 a3) :: (2, I6 a4) :: (3, I6 a5) :: t)
 let z1 := fun t => z0 ((10, .int .i64 0) :: (2000000, .obj 3 1 (M6 a1)) :: t)
 refine W.rt (e2 := z1 []) ?_
 refine W.block ?_
 refine W.wk (env' := z1 []) ?_
 refine W.fuel (σ := ((List Int) × Int)) (fun s => z0 [(10, I6 s.2), (2000000, .obj 3 1 (M6 s.1))]) (fun m0 s => sl_swapRangeCmpFunc_int_l1 n2 a3 a4 a5 m0 s.1 s.2 = some r) (fun s h => ?_) (fun m1 s h hN1 => ?_) fuel (a1, 0) h
 ·obtain ⟨v8, v9⟩ := s
  have h : sl_swapRangeCmpFunc_int_l1 n2 a3 a4 a5 0 v8 v9 = some r := h
  rw [sl_swapRangeCmpFunc_int_l1.eq_1] at h
  cases h
 ·obtain ⟨v8, v9⟩ := s
  have h : sl_swapRangeCmpFunc_int_l1 n2 a3 a4 a5 (m1 + 1) v8 v9 = some r := h
  rw [sl_swapRangeCmpFunc_int_l1.eq_2] at h
  refine W.seq ?_
  refine W.seq ?_
  let z2 := fun t => z0 ((10, I6 v9) :: t)
  let z3 := fun t => z2 ((13, .bool (decide (v9 < a5))) :: (2000000, .obj 3 1 (M6 v8)) :: t)
  refine W.rt (e2 := z3 []) ?_
  refine W.cb (decide (v9 < a5)) (fun hb => ?_) (fun hb => ?_)
  ·replace h := cond_t hb h
   refine W.skip ?_
   refine W.wk (env' := z2 [(2000000, .obj 3 1 (M6 v8))]) ?_
   refine W.seq ?_
   refine W.block ?_
   refine W.rg ?_
   obtain ⟨hc13, h⟩ := chk_some h
   let z4 := fun t => z2 ((16, .sb 2000000 3 1 0 n2) :: (17, I6 a3) :: (18, I6 v9) :: (19, I6 (W6 (a3 + v9))) :: (20, .sb 2000000 3 1 0 n2) :: (21, I6 a4) :: (22, I6 v9) :: (23, I6 (W6 (a4 + v9))) :: (24, .sb 2000000 3 1 0 n2) :: (25, I6 a4) :: (26, I6 v9) :: (27, I6 (W6 (a4 + v9))) :: (28, .pe 2000000 1 (0 + Int.toNat (W6 (a4 + v9))) 0) :: t)
   refine WO.pi 12 (v := .pe 2000000 1 (0 + Int.toNat (W6 (a4 + v9))) 0) hc13 (e1 := z4 [(2000000, .obj 3 1 (M6 v8))]) ?_
   obtain ⟨e14, he14, h⟩ := bind_some h
   let z5 := fun t => z4 ((29, I6 e14) :: t)
   refine WO.pk 0 (match (M6 v8)[(0 + Int.toNat (W6 (a4 + v9)))]? with | some y => cut Tryd.prog 3 (y.cells.map AV.strip) 0 | none => none) (v := I6 e14) ((pe_ld (f := (AV.int .i64)) (G := (fun y => cut Tryd.prog 3 (y.cells.map AV.strip) 0)) he14).trans (by kernel_rfl)) (e1 := z5 [(2000000, .obj 3 1 (M6 v8))]) ?_
   obtain ⟨hc15, h⟩ := chk_some h
   let z6 := fun t => z5 ((30, .sb 2000000 3 1 0 n2) :: (31, I6 a3) :: (32, I6 v9) :: (33, I6 (W6 (a3 + v9))) :: (34, .pe 2000000 1 (0 + Int.toNat (W6 (a3 + v9))) 0) :: t)
   refine WO.pi 4 (v := .pe 2000000 1 (0 + Int.toNat (W6 (a3 + v9))) 0) hc15 (e1 := z6 [(2000000, .obj 3 1 (M6 v8))]) ?_
   obtain ⟨e16, he16, h⟩ := bind_some h
   let z7 := fun t => z6 ((35, I6 e16) :: t)
   refine WO.pk 0 (match (M6 v8)[(0 + Int.toNat (W6 (a3 + v9)))]? with | some y => cut Tryd.prog 3 (y.cells.map AV.strip) 0 | none => none) (v := I6 e16) ((pe_ld (f := (AV.int .i64)) (G := (fun y => cut Tryd.prog 3 (y.cells.map AV.strip) 0)) he16).trans (by kernel_rfl)) (e1 := z7 [(2000000, .obj 3 1 (M6 v8))]) ?_
   obtain ⟨hc17, h⟩ := chk_some h
   let z8 := fun t => z7 ((36, .pe 2000000 1 (0 + Int.toNat (W6 (a3 + v9))) 0) :: t)
   refine WO.pi 0 (v := .pe 2000000 1 (0 + Int.toNat (W6 (a3 + v9))) 0) hc17 (e1 := z8 [(2000000, .obj 3 1 (M6 v8))]) ?_
   obtain ⟨u18, hu18, h⟩ := bind_some h
   obtain ⟨y19, hyy19, hzy19⟩ := upd_some hu18
   refine WO.sk 0 (id := 2000000) (e := 3) (s := 1) (off := 0) (vs := [I6 e14]) (AV.int .i64) hyy19 hzy19 (e1 := z8 [(2000000, .obj 3 1 (M6 u18))]) ?_
   obtain ⟨hc20, h⟩ := chk_some h
   let z9 := fun t => z8 ((37, .pe 2000000 1 (0 + Int.toNat (W6 (a4 + v9))) 0) :: t)
   refine WO.pi 0 (v := .pe 2000000 1 (0 + Int.toNat (W6 (a4 + v9))) 0) hc20 (e1 := z9 [(2000000, .obj 3 1 (M6 u18))]) ?_
   obtain ⟨u21, hu21, h⟩ := bind_some h
   obtain ⟨y22, hyy22, hzy22⟩ := upd_some hu21
   refine WO.sk 0 (id := 2000000) (e := 3) (s := 1) (off := 0) (vs := [I6 e16]) (AV.int .i64) hyy22 hzy22 (e1 := z9 [(2000000, .obj 3 1 (M6 u21))]) ?_
   refine WO.fn (e2 := z2 [(2000000, .obj 3 1 (M6 u21))]) ?_
   refine W.rt (e2 := z0 [(10, I6 (W6 (v9 + 1))), (2000000, .obj 3 1 (M6 u21))]) ?_
   exact hN1 (u21, (W6 (v9 + 1))) h
  replace h := cond_f hb h
  have hr : PostM Tryd.prog Tryd.f99 (.tup []) [(2000000, .obj 3 1 (M6 v8))] .normal (z3 []) := ⟨by kernel_rfl, by kernel_rfl⟩
  cases h
  exact W.exit hr
def sl_rotateCmpFunc_int_j9 (fuel : Nat) (n2 : Nat) (a4 : Int) (g6 : (Int → Int → Option Int)) (v20 : (List Int)) (v21 : Int) : Option (List Int) :=
 ((sl_swapRangeCmpFunc_int fuel v20 n2 (IntKind.wrap .i64 (a4 - v21)) a4 v21 g6).bind fun w22 => (some w22))
def sl_rotateCmpFunc_int_l1 (fuel : Nat) (n2 : Nat) (a4 : Int) (g6 : (Int → Int → Option Int)) (K9 : ((List Int) → Int → Option (List Int))) : Nat → (List Int) → Int → Int → Option (List Int)
 | 0, _, _, _ => none
 | m1 + 1, v10, v11, v12 => (bif (v11 != v12) then (bif (decide (v11 > v12)) then ((sl_swapRangeCmpFunc_int fuel v10 n2 (IntKind.wrap .i64 (a4 - v11)) a4 v12 g6).bind fun w17 => ((sl_rotateCmpFunc_int_l1 fuel n2 a4 g6 K9 m1) w17 (IntKind.wrap .i64 (v11 - v12)) v12)) else ((sl_swapRangeCmpFunc_int fuel v10 n2 (IntKind.wrap .i64 (a4 - v11)) (IntKind.wrap .i64 ((IntKind.wrap .i64 (a4 + v12)) - v11)) v11 g6).bind fun w19 => ((sl_rotateCmpFunc_int_l1 fuel n2 a4 g6 K9 m1) w19 v11 (IntKind.wrap .i64 (v12 - v11))))) else (K9 v10 v11))
def sl_rotateCmpFunc_int (fuel : Nat) (a1 : (List Int)) (n2 : Nat) (a3 : Int) (a4 : Int) (a5 : Int) (g6 : (Int → Int → Option Int)) : Option (List Int) :=
 (sl_rotateCmpFunc_int_l1 fuel n2 a4 g6 (sl_rotateCmpFunc_int_j9 fuel n2 a4 g6) fuel a1 (IntKind.wrap .i64 (a4 - a3)) (IntKind.wrap .i64 (a5 - a4)))
theorem run_sl_rotateCmpFunc_int (fuel : Nat) (a1 : (List Int)) (n2 : Nat) (a3 : Int) (a4 : Int) (a5 : Int) (g6 : (Int → Int → Option Int)) (F_g6 : Nat) (C_g6 : List AV) (hok_g6 : okFn Tryd.prog F_g6 = true) (hrun_g6 : ∀ (x0 : Int) (x1 : Int) r, g6 x0 x1 = some r → Run Tryd.prog (.call F_g6 ([I6 x0, I6 x1] ++ C_g6) (I6 r))) (r : (List Int)) (h : sl_rotateCmpFunc_int fuel a1 n2 a3 a4 a5 g6 = some r) : Run Tryd.prog (.callM 91 [.sb 2000000 3 1 0 n2, I6 a3, I6 a4, I6 a5, .clo F_g6 C_g6] [(2000000, .obj 3 1 (M6 a1))] (.tup []) [(2000000, .obj 3 1 (M6 r))]) := by
 refine cM Tryd.func91 rfl (env0 := [(0, .sb 2000000 3 1 0 n2), (1, I6 a3), (2, I6 a4), (3, I6 a5), (4, .clo F_g6 C_g6), (2000000, .obj 3 1 (M6 a1))]) ?_
 unfold sl_rotateCmpFunc_int at h
 refine W.seq ?_
 let z0 := fun t => EN ((0, .sb 2000000 3 1 0 n2) :: (2, I6 a4) :: t)
 refine W.rt (e2 := z0 [(3, I6 a5), (4, .clo F_g6 C_g6), (10, I6 (W6 (a4 - a3))), (2000000, .obj 3 1 (M6 a1))]) ?_
 refine W.seq ?_
 let z1 := fun t => z0 ((4, .clo F_g6 C_g6) :: t)
 let z2 := fun t => z1 ((10, I6 (W6 (a4 - a3))) :: (11, I6 (W6 (a5 - a4))) :: (2000000, .obj 3 1 (M6 a1)) :: t)
 refine W.rt (e2 := z2 []) ?_
 refine W.seq ?_
 refine W.join (σ := ((List Int) × Int)) (fun s => z1 [(10, I6 s.2), (2000000, .obj 3 1 (M6 s.1))]) (fun s => (sl_rotateCmpFunc_int_j9 fuel n2 a4 g6) s.1 s.2 = some r) (fun s h => ?_) (fun hK9 => ?_)
 ·obtain ⟨v20, v21⟩ := s
  have h : (sl_rotateCmpFunc_int_j9 fuel n2 a4 g6) v20 v21 = some r := h
  unfold sl_rotateCmpFunc_int_j9 at h
  refine W.rg ?_
  obtain ⟨w22, hw22, h⟩ := bind_some h
  let z3 := fun t => z1 ((10, I6 v21) :: (50, .sb 2000000 3 1 0 n2) :: (51, I6 a4) :: (52, I6 v21) :: (53, I6 (W6 (a4 - v21))) :: (54, I6 a4) :: (55, I6 v21) :: (56, .clo F_g6 C_g6) :: (57, .tup []) :: (2000000, .obj 3 1 (M6 w22)) :: t)
  refine WO.cm 7 [(2000000, 2000000)] [] (F := 99) (args := [.sb 2000000 3 1 0 n2, I6 (W6 (a4 - v21)), I6 a4, I6 v21, .clo F_g6 C_g6]) (hp := [(2000000, .obj 3 1 (M6 v20))]) (hp2 := [(2000000, .obj 3 1 (M6 w22))]) (r := .tup []) (run_sl_swapRangeCmpFunc_int fuel v20 n2 (W6 (a4 - v21)) a4 v21 g6 F_g6 C_g6 hok_g6 hrun_g6 w22 hw22) (e1 := z3 []) ?_
  refine WO.end0 (e2 := z3 []) (by kernel_rfl) ?_
  have hr : PostM Tryd.prog Tryd.f91 (.tup []) [(2000000, .obj 3 1 (M6 w22))] .normal (z3 []) := ⟨by kernel_rfl, by kernel_rfl⟩
  cases h
  exact hr
 refine W.block ?_
 refine W.wk (env' := z2 []) ?_
 refine W.fuel (σ := ((List Int) × Int × Int)) (fun s => z1 [(10, I6 s.2.1), (11, I6 s.2.2), (2000000, .obj 3 1 (M6 s.1))]) (fun m0 s => sl_rotateCmpFunc_int_l1 fuel n2 a4 g6 (sl_rotateCmpFunc_int_j9 fuel n2 a4 g6) m0 s.1 s.2.1 s.2.2 = some r) (fun s h => ?_) (fun m1 s h hN1 => ?_) fuel (a1, (W6 (a4 - a3)), (W6 (a5 - a4))) h
 ·obtain ⟨v10, v11, v12⟩ := s
  have h : sl_rotateCmpFunc_int_l1 fuel n2 a4 g6 (sl_rotateCmpFunc_int_j9 fuel n2 a4 g6) 0 v10 v11 v12 = some r := h
  rw [sl_rotateCmpFunc_int_l1.eq_1] at h
  cases h
 ·obtain ⟨v10, v11, v12⟩ := s
  have h : sl_rotateCmpFunc_int_l1 fuel n2 a4 g6 (sl_rotateCmpFunc_int_j9 fuel n2 a4 g6) (m1 + 1) v10 v11 v12 = some r := h
  rw [sl_rotateCmpFunc_int_l1.eq_2] at h
  refine W.seq ?_
  refine W.seq ?_
  let z4 := fun t => z1 ((10, I6 v11) :: (11, I6 v12) :: t)
  refine W.rt (e2 := z4 [(20, .bool (v11 != v12)), (2000000, .obj 3 1 (M6 v10))]) ?_
  refine W.cb (v11 != v12) (fun hb => ?_) (fun hb => ?_)
  ·replace h := cond_t hb h
   refine W.skip ?_
   refine W.wk (env' := z4 [(2000000, .obj 3 1 (M6 v10))]) ?_
   refine W.block ?_
   refine W.seq ?_
   let z5 := fun t => z4 ((23, .bool (decide (v11 > v12))) :: t)
   refine W.rt (e2 := z5 [(2000000, .obj 3 1 (M6 v10))]) ?_
   refine W.cb (decide (v11 > v12)) (fun hb => ?_) (fun hb => ?_)
   ·replace h := cond_t hb h
    refine W.seq ?_
    refine W.rg ?_
    obtain ⟨w17, hw17, h⟩ := bind_some h
    refine WO.cm 7 [(2000000, 2000000)] [] (F := 99) (args := [.sb 2000000 3 1 0 n2, I6 (W6 (a4 - v11)), I6 a4, I6 v12, .clo F_g6 C_g6]) (hp := [(2000000, .obj 3 1 (M6 v10))]) (hp2 := [(2000000, .obj 3 1 (M6 w17))]) (r := .tup []) (run_sl_swapRangeCmpFunc_int fuel v10 n2 (W6 (a4 - v11)) a4 v12 g6 F_g6 C_g6 hok_g6 hrun_g6 w17 hw17) (e1 := z5 [(24, .sb 2000000 3 1 0 n2), (25, I6 a4), (26, I6 v11), (27, I6 (W6 (a4 - v11))), (28, I6 a4), (29, I6 v12), (30, .clo F_g6 C_g6), (31, .tup []), (2000000, .obj 3 1 (M6 w17))]) ?_
    refine WO.fn (e2 := z4 [(2000000, .obj 3 1 (M6 w17))]) ?_
    refine W.rt (e2 := z1 [(10, I6 (W6 (v11 - v12))), (11, I6 v12), (2000000, .obj 3 1 (M6 w17))]) ?_
    exact hN1 (w17, (W6 (v11 - v12)), v12) h
   replace h := cond_f hb h
   refine W.seq ?_
   refine W.rg ?_
   obtain ⟨w19, hw19, h⟩ := bind_some h
   refine WO.cm 11 [(2000000, 2000000)] [] (F := 99) (args := [.sb 2000000 3 1 0 n2, I6 (W6 (a4 - v11)), I6 (W6 ((W6 (a4 + v12)) - v11)), I6 v11, .clo F_g6 C_g6]) (hp := [(2000000, .obj 3 1 (M6 v10))]) (hp2 := [(2000000, .obj 3 1 (M6 w19))]) (r := .tup []) (run_sl_swapRangeCmpFunc_int fuel v10 n2 (W6 (a4 - v11)) (W6 ((W6 (a4 + v12)) - v11)) v11 g6 F_g6 C_g6 hok_g6 hrun_g6 w19 hw19) (e1 := z5 [(35, .sb 2000000 3 1 0 n2), (36, I6 a4), (37, I6 v11), (38, I6 (W6 (a4 - v11))), (39, I6 a4), (40, I6 v12), (41, I6 (W6 (a4 + v12))), (42, I6 v11), (43, I6 (W6 ((W6 (a4 + v12)) - v11))), (44, I6 v11), (45, .clo F_g6 C_g6), (46, .tup []), (2000000, .obj 3 1 (M6 w19))]) ?_
   refine WO.fn (e2 := z4 [(2000000, .obj 3 1 (M6 w19))]) ?_
   refine W.rt (e2 := z1 [(10, I6 v11), (11, I6 (W6 (v12 - v11))), (2000000, .obj 3 1 (M6 w19))]) ?_
   exact hN1 (w19, v11, (W6 (v12 - v11))) h
  replace h := cond_f hb h
  refine W.exit ?_
  refine W.wk (env' := z1 [(10, I6 v11), (2000000, .obj 3 1 (M6 v10))]) ?_
  exact hK9 (v10, v11) h
end Go.AM
