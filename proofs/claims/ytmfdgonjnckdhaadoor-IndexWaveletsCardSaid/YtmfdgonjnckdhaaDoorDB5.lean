/- s -/
import Derived.Test.YtmfdgonjnckdhaaDoorDB4
set_option maxRecDepth 100000
set_option linter.unusedVariables false
set_option linter.unusedSimpArgs false
namespace Go.AM
open Go.Proofs
def sl_pdqsortOrdered_byte_j50 (fuel : Nat) (n2 : Nat) (v9 : Int) (v10 : Int) (v28 : Int) (v37 : Int) (v46 : (List Int)) (v47 : Bool) (v48 : Bool) (K0 : ((List Int) → Nat → Int → Int → Int → Option (List Int))) (N1 : ((List Int) → Int → Int → Int → Bool → Bool → Option (List Int))) (v56 : Bool) : Option (List Int) :=
 (bif v56 then ((sl_partitionEqualOrdered_byte fuel v46 n2 v9 v10 v37).bind fun w58 => (N1 w58.2 w58.1 v10 v28 v47 v48)) else ((sl_partitionOrdered_byte fuel v46 n2 v9 v10 v37).bind fun w61 => (bif (decide ((IntKind.wrap .i64 (w61.1.1 - v9)) < (IntKind.wrap .i64 (v10 - w61.1.1)))) then ((K0 w61.2 n2 v9 w61.1.1 v28).bind fun w68 => (N1 w68 (IntKind.wrap .i64 (w61.1.1 + 1)) v10 v28 (decide ((IntKind.wrap .i64 (w61.1.1 - v9)) ≥ (IntKind.wrap .i64 (((IntKind.wrap .i64 (v10 - v9))).tdiv 8)))) w61.1.2)) else ((K0 w61.2 n2 (IntKind.wrap .i64 (w61.1.1 + 1)) v10 v28).bind fun w71 => (N1 w71 v9 w61.1.1 v28 (decide ((IntKind.wrap .i64 (v10 - w61.1.1)) ≥ (IntKind.wrap .i64 (((IntKind.wrap .i64 (v10 - v9))).tdiv 8)))) w61.1.2)))))
def sl_pdqsortOrdered_byte_j39 (fuel : Nat) (n2 : Nat) (v9 : Int) (v10 : Int) (v28 : Int) (v37 : Int) (K0 : ((List Int) → Nat → Int → Int → Int → Option (List Int))) (N1 : ((List Int) → Int → Int → Int → Bool → Bool → Option (List Int))) (v46 : (List Int)) (v47 : Bool) (v48 : Bool) : Option (List Int) :=
 (bif (decide (v9 > 0)) then (chk (decide ((0 : Int) ≤ (IntKind.wrap .i64 (v9 - 1)) ∧ (IntKind.wrap .i64 (v9 - 1)) < ((n2 : Nat) : Int))) ((v46[(0 + Int.toNat (IntKind.wrap .i64 (v9 - 1)))]?).bind fun e52 => (chk (decide ((0 : Int) ≤ v37 ∧ v37 < ((n2 : Nat) : Int))) ((v46[(0 + Int.toNat v37)]?).bind fun e54 => ((cm_Less_byte e52 e54).bind fun w55 => ((sl_pdqsortOrdered_byte_j50 fuel n2 v9 v10 v28 v37 v46 v47 v48 K0 N1) (!w55))))))) else ((sl_pdqsortOrdered_byte_j50 fuel n2 v9 v10 v28 v37 v46 v47 v48 K0 N1) false))
def sl_pdqsortOrdered_byte_j40 (fuel : Nat) (n2 : Nat) (v9 : Int) (v10 : Int) (v36 : (List Int)) (K39 : ((List Int) → Bool → Bool → Option (List Int))) (v41 : Bool) (v42 : Bool) (v43 : Bool) : Option (List Int) :=
 (bif v43 then ((sl_partialInsertionSortOrdered_byte fuel v36 n2 v9 v10).bind fun w45 => (bif w45.1 then (some w45.2) else (K39 w45.2 v41 v42))) else (K39 v36 v41 v42))
def sl_pdqsortOrdered_byte_j31 (fuel : Nat) (n2 : Nat) (v9 : Int) (v10 : Int) (v12 : Bool) (v13 : Bool) (v28 : Int) (K0 : ((List Int) → Nat → Int → Int → Int → Option (List Int))) (N1 : ((List Int) → Int → Int → Int → Bool → Bool → Option (List Int))) (v36 : (List Int)) (v37 : Int) (v38 : Int) : Option (List Int) :=
 (bif v12 then (bif v13 then ((sl_pdqsortOrdered_byte_j40 fuel n2 v9 v10 v36 (sl_pdqsortOrdered_byte_j39 fuel n2 v9 v10 v28 v37 K0 N1)) true true (v38 == 1)) else ((sl_pdqsortOrdered_byte_j40 fuel n2 v9 v10 v36 (sl_pdqsortOrdered_byte_j39 fuel n2 v9 v10 v28 v37 K0 N1)) true false false)) else ((sl_pdqsortOrdered_byte_j40 fuel n2 v9 v10 v36 (sl_pdqsortOrdered_byte_j39 fuel n2 v9 v10 v28 v37 K0 N1)) false v13 false))
def sl_pdqsortOrdered_byte_j23 (fuel : Nat) (n2 : Nat) (v9 : Int) (v10 : Int) (v12 : Bool) (v13 : Bool) (K0 : ((List Int) → Nat → Int → Int → Int → Option (List Int))) (N1 : ((List Int) → Int → Int → Int → Bool → Bool → Option (List Int))) (v27 : (List Int)) (v28 : Int) : Option (List Int) :=
 ((sl_choosePivotOrdered_byte (snap 0 n2 v27) v9 v10).bind fun w30 => (bif (w30.2 == 2) then ((sl_reverseRangeOrdered_byte fuel v27 n2 v9 v10).bind fun w34 => ((sl_pdqsortOrdered_byte_j31 fuel n2 v9 v10 v12 v13 v28 K0 N1) w34 (IntKind.wrap .i64 ((IntKind.wrap .i64 (v10 - 1)) - (IntKind.wrap .i64 (w30.1 - v9)))) 1)) else ((sl_pdqsortOrdered_byte_j31 fuel n2 v9 v10 v12 v13 v28 K0 N1) v27 w30.1 w30.2)))
def sl_pdqsortOrdered_byte_l1 (fuel : Nat) (n2 : Nat) (K0 : ((List Int) → Nat → Int → Int → Int → Option (List Int))) : Nat → (List Int) → Int → Int → Int → Bool → Bool → Option (List Int)
 | 0, _, _, _, _, _, _ => none
 | m1 + 1, v8, v9, v10, v11, v12, v13 => (bif (decide ((IntKind.wrap .i64 (v10 - v9)) ≤ 12)) then ((sl_insertionSortOrdered_byte fuel v8 n2 v9 v10).bind fun w18 => (some w18)) else (bif (v11 == 0) then ((sl_heapSortOrdered_byte fuel v8 n2 v9 v10).bind fun w22 => (some w22)) else (bif (!v12) then ((sl_breakPatternsOrdered_byte fuel v8 n2 v9 v10).bind fun w26 => ((sl_pdqsortOrdered_byte_j23 fuel n2 v9 v10 v12 v13 K0 (sl_pdqsortOrdered_byte_l1 fuel n2 K0 m1)) w26 (IntKind.wrap .i64 (v11 - 1)))) else ((sl_pdqsortOrdered_byte_j23 fuel n2 v9 v10 v12 v13 K0 (sl_pdqsortOrdered_byte_l1 fuel n2 K0 m1)) v8 v11))))
def sl_pdqsortOrdered_byte : Nat → (List Int) → Nat → Int → Int → Int → Option (List Int)
 | 0, _, _, _, _, _ => none
 | fuel + 1, a1, n2, a3, a4, a5 => (sl_pdqsortOrdered_byte_l1 fuel n2 (sl_pdqsortOrdered_byte fuel) fuel a1 a3 a4 a5 true true)
theorem run_sl_pdqsortOrdered_byte : ∀ (fuel : Nat) (a1 : (List Int)) (n2 : Nat) (a3 : Int) (a4 : Int) (a5 : Int) (r : (List Int)) (h : sl_pdqsortOrdered_byte fuel a1 n2 a3 a4 a5 = some r), Run Tryd.prog (.callM 33 [S1 n2, I6 a3, I6 a4, I6 a5] [O1 a1] (.tup []) [O1 r]) := by
 intro fuel
 induction fuel with
 | zero => intro a1 n2 a3 a4 a5 r h; cases h
 | succ fuel ih =>
  intro a1 n2 a3 a4 a5 r h
  refine cM Tryd.func33 rfl (env0 := [(0, S1 n2), (1, I6 a3), (2, I6 a4), (3, I6 a5), O1 a1]) ?_
  rw [sl_pdqsortOrdered_byte.eq_2] at h
  refine W.seq ?_
  let z0 := fun t => EN ((0, S1 n2) :: t)
  let z1 := fun t => z0 ((1, I6 a3) :: (2, I6 a4) :: (3, I6 a5) :: (8, .bool true) :: t)
  refine W.rt (e2 := z1 [O1 a1]) ?_
  refine W.seq ?_
  refine W.rt (e2 := z1 [(9, .bool true), O1 a1]) ?_
  refine W.block ?_
  refine W.wk (env' := z1 [(9, .bool true), O1 a1]) ?_
  refine W.fuel (σ := ((List Int) × Int × Int × Int × Bool × Bool)) (fun s => z0 [(1, I6 s.2.1), (2, I6 s.2.2.1), (3, I6 s.2.2.2.1), (8, .bool s.2.2.2.2.1), (9, .bool s.2.2.2.2.2), (2000000, .obj 1000000005 1 (M8 s.1))]) (fun m0 s => sl_pdqsortOrdered_byte_l1 fuel n2 (sl_pdqsortOrdered_byte fuel) m0 s.1 s.2.1 s.2.2.1 s.2.2.2.1 s.2.2.2.2.1 s.2.2.2.2.2 = some r) (fun s h => ?_) (fun m1 s h hN1 => ?_) fuel (a1, a3, a4, a5, true, true) h
  ·obtain ⟨v8, v9, v10, v11, v12, v13⟩ := s
   have h : sl_pdqsortOrdered_byte_l1 fuel n2 (sl_pdqsortOrdered_byte fuel) 0 v8 v9 v10 v11 v12 v13 = some r := h
   rw [sl_pdqsortOrdered_byte_l1.eq_1] at h
   cases h
  ·obtain ⟨v8, v9, v10, v11, v12, v13⟩ := s
   have h : sl_pdqsortOrdered_byte_l1 fuel n2 (sl_pdqsortOrdered_byte fuel) (m1 + 1) v8 v9 v10 v11 v12 v13 = some r := h
   rw [sl_pdqsortOrdered_byte_l1.eq_2] at h
   refine W.block ?_
   refine W.seq ?_
   let z2 := fun t => z0 ((1, I6 v9) :: (2, I6 v10) :: t)
   let z3 := fun t => z2 ((3, I6 v11) :: (8, .bool v12) :: (9, .bool v13) :: (10, I6 (W6 (v10 - v9))) :: t)
   refine W.rt (e2 := z3 [O1 v8]) ?_
   refine W.seq ?_
   refine W.seq ?_
   let z4 := fun t => z3 ((23, .bool (decide ((W6 (v10 - v9)) ≤ 12))) :: t)
   refine W.rt (e2 := z4 [O1 v8]) ?_
   refine W.cb (decide ((W6 (v10 - v9)) ≤ 12)) (fun hb => ?_) (fun hb => ?_)
   ·replace h := cond_t hb h
    refine W.seq ?_
    refine W.rg ?_
    obtain ⟨w18, hw18, h⟩ := bind_some h
    refine WO.cm 3 [(2000000, 2000000)] [] (F := 48) (args := [S1 n2, I6 v9, I6 v10]) (hp := [O1 v8]) (hp2 := [O1 w18]) (r := .tup []) (run_sl_insertionSortOrdered_byte fuel v8 n2 v9 v10 w18 hw18) (e1 := z4 [(24, S1 n2), (25, I6 v9), (26, I6 v10), (27, .tup []), O1 w18]) ?_
    refine WO.fn (e2 := [O1 w18]) ?_
    refine W.wk (env' := [O1 w18]) ?_
    have hr : PostM Tryd.prog Tryd.f33 (.tup []) [O1 w18] .ret [O1 w18] := ⟨by kernel_rfl, by kernel_rfl⟩
    cases h
    exact W.ret hr
   replace h := cond_f hb h
   refine W.skip ?_
   refine W.wk (env' := z3 [O1 v8]) ?_
   refine W.seq ?_
   refine W.seq ?_
   refine W.rt (e2 := z3 [(29, .bool (v11 == 0)), O1 v8]) ?_
   refine W.cb (v11 == 0) (fun hb => ?_) (fun hb => ?_)
   ·replace h := cond_t hb h
    refine W.seq ?_
    refine W.rg ?_
    obtain ⟨w22, hw22, h⟩ := bind_some h
    refine WO.cm 3 [(2000000, 2000000)] [] (F := 49) (args := [S1 n2, I6 v9, I6 v10]) (hp := [O1 v8]) (hp2 := [O1 w22]) (r := .tup []) (run_sl_heapSortOrdered_byte fuel v8 n2 v9 v10 w22 hw22) (e1 := z3 [(29, .bool (v11 == 0)), (30, S1 n2), (31, I6 v9), (32, I6 v10), (33, .tup []), O1 w22]) ?_
    refine WO.fn (e2 := [O1 w22]) ?_
    refine W.wk (env' := [O1 w22]) ?_
    have hr : PostM Tryd.prog Tryd.f33 (.tup []) [O1 w22] .ret [O1 w22] := ⟨by kernel_rfl, by kernel_rfl⟩
    cases h
    exact W.ret hr
   replace h := cond_f hb h
   refine W.skip ?_
   refine W.wk (env' := z3 [O1 v8]) ?_
   refine W.seq ?_
   refine W.join (σ := ((List Int) × Int)) (fun s => z2 [(3, I6 s.2), (8, .bool v12), (9, .bool v13), (10, I6 (W6 (v10 - v9))), (2000000, .obj 1000000005 1 (M8 s.1))]) (fun s => (sl_pdqsortOrdered_byte_j23 fuel n2 v9 v10 v12 v13 (sl_pdqsortOrdered_byte fuel) (sl_pdqsortOrdered_byte_l1 fuel n2 (sl_pdqsortOrdered_byte fuel) m1)) s.1 s.2 = some r) (fun s h => ?_) (fun hK23 => ?_)
   ·obtain ⟨v27, v28⟩ := s
    have h : (sl_pdqsortOrdered_byte_j23 fuel n2 v9 v10 v12 v13 (sl_pdqsortOrdered_byte fuel) (sl_pdqsortOrdered_byte_l1 fuel n2 (sl_pdqsortOrdered_byte fuel) m1)) v27 v28 = some r := h
    unfold sl_pdqsortOrdered_byte_j23 at h
    refine W.seq ?_
    refine W.rg ?_
    obtain ⟨w30, hw30, h⟩ := bind_some h
    let z5 := fun t => z2 ((3, I6 v28) :: (8, .bool v12) :: (9, .bool v13) :: (10, I6 (W6 (v10 - v9))) :: t)
    refine WO.callRK 3 (F := 51) (l := [.lst 5 1 none (snapA 0 n2 (M8 v27)), I6 v9, I6 v10]) (C := []) (args := [l5 none (snap 0 n2 v27), I6 v9, I6 v10]) (r := .tup [I6 w30.1, I6 w30.2]) (by kernel_rfl) (by first | (simp only [snap_map, snap_full, snap_rep, List.cons_append, List.nil_append]; done) | (simp only [snap_map, snap_full, snap_rep, List.cons_append, List.nil_append]; kernel_rfl)) (by kernel_rfl) (by kernel_rfl) (run_sl_choosePivotOrdered_byte (snap 0 n2 v27) v9 v10 w30 hw30) (e1 := z5 [(43, S1 n2), (44, I6 v9), (45, I6 v10), (46, .tup [I6 w30.1, I6 w30.2]), O1 v27]) (by kernel_rfl) ?_
    let z6 := fun t => z5 ((11, I6 w30.1) :: (12, I6 w30.2) :: t)
    refine WO.fn (e2 := z6 [O1 v27]) ?_
    refine W.seq ?_
    refine W.join (σ := ((List Int) × Int × Int)) (fun s => z5 [(11, I6 s.2.1), (12, I6 s.2.2), (2000000, .obj 1000000005 1 (M8 s.1))]) (fun s => (sl_pdqsortOrdered_byte_j31 fuel n2 v9 v10 v12 v13 v28 (sl_pdqsortOrdered_byte fuel) (sl_pdqsortOrdered_byte_l1 fuel n2 (sl_pdqsortOrdered_byte fuel) m1)) s.1 s.2.1 s.2.2 = some r) (fun s h => ?_) (fun hK31 => ?_)
    ·obtain ⟨v36, v37, v38⟩ := s
     have h : (sl_pdqsortOrdered_byte_j31 fuel n2 v9 v10 v12 v13 v28 (sl_pdqsortOrdered_byte fuel) (sl_pdqsortOrdered_byte_l1 fuel n2 (sl_pdqsortOrdered_byte fuel) m1)) v36 v37 v38 = some r := h
     unfold sl_pdqsortOrdered_byte_j31 at h
     refine W.seq ?_
     let z7 := fun t => z2 ((3, I6 v28) :: t)
     refine W.join (σ := ((List Int) × Bool × Bool)) (fun s => z7 [(8, .bool s.2.1), (9, .bool s.2.2), (10, I6 (W6 (v10 - v9))), (11, I6 v37), (2000000, .obj 1000000005 1 (M8 s.1))]) (fun s => (sl_pdqsortOrdered_byte_j39 fuel n2 v9 v10 v28 v37 (sl_pdqsortOrdered_byte fuel) (sl_pdqsortOrdered_byte_l1 fuel n2 (sl_pdqsortOrdered_byte fuel) m1)) s.1 s.2.1 s.2.2 = some r) (fun s h => ?_) (fun hK39 => ?_)
     ·obtain ⟨v46, v47, v48⟩ := s
      have h : (sl_pdqsortOrdered_byte_j39 fuel n2 v9 v10 v28 v37 (sl_pdqsortOrdered_byte fuel) (sl_pdqsortOrdered_byte_l1 fuel n2 (sl_pdqsortOrdered_byte fuel) m1)) v46 v47 v48 = some r := h
      unfold sl_pdqsortOrdered_byte_j39 at h
      refine W.seq ?_
      refine W.seq ?_
      let z8 := fun t => z7 ((8, .bool v47) :: (9, .bool v48) :: (10, I6 (W6 (v10 - v9))) :: (11, I6 v37) :: t)
      refine W.join (σ := (Bool)) (fun s => z8 [(87, .bool s), O1 v46]) (fun s => (sl_pdqsortOrdered_byte_j50 fuel n2 v9 v10 v28 v37 v46 v47 v48 (sl_pdqsortOrdered_byte fuel) (sl_pdqsortOrdered_byte_l1 fuel n2 (sl_pdqsortOrdered_byte fuel) m1)) s = some r) (fun s h => ?_) (fun hK50 => ?_)
      ·obtain ⟨v56, rfl⟩ : ∃ x, x = s := ⟨s, rfl⟩
       have h : (sl_pdqsortOrdered_byte_j50 fuel n2 v9 v10 v28 v37 v46 v47 v48 (sl_pdqsortOrdered_byte fuel) (sl_pdqsortOrdered_byte_l1 fuel n2 (sl_pdqsortOrdered_byte fuel) m1)) v56 = some r := h
       unfold sl_pdqsortOrdered_byte_j50 at h
       refine W.cb v56 (fun hb => ?_) (fun hb => ?_)
       ·replace h := cond_t hb h
        refine W.seq ?_
        refine W.rg ?_
        obtain ⟨w58, hw58, h⟩ := bind_some h
        refine WO.cm 4 [(2000000, 2000000)] [] (F := 55) (args := [S1 n2, I6 v9, I6 v10, I6 v37]) (hp := [O1 v46]) (hp2 := [(2000000, .obj 1000000005 1 (M8 w58.2))]) (r := I6 w58.1) (run_sl_partitionEqualOrdered_byte fuel v46 n2 v9 v10 v37 w58 hw58) (e1 := z8 [(87, .bool v56), (88, S1 n2), (89, I6 v9), (90, I6 v10), (91, I6 v37), (92, I6 w58.1), (2000000, .obj 1000000005 1 (M8 w58.2))]) ?_
        refine WO.fn (e2 := z0 [(2, I6 v10), (3, I6 v28), (8, .bool v47), (9, .bool v48), (13, I6 w58.1), (2000000, .obj 1000000005 1 (M8 w58.2))]) ?_
        refine W.seq ?_
        let z9 := fun t => z0 ((1, I6 w58.1) :: (2, I6 v10) :: (3, I6 v28) :: (8, .bool v47) :: (9, .bool v48) :: (2000000, .obj 1000000005 1 (M8 w58.2)) :: t)
        refine W.rt (e2 := z9 []) ?_
        refine W.exit ?_
        refine W.wk (env' := z9 []) ?_
        exact hN1 (w58.2, w58.1, v10, v28, v47, v48) h
       replace h := cond_f hb h
       refine W.skip ?_
       let z10 := fun t => z7 ((10, I6 (W6 (v10 - v9))) :: t)
       refine W.wk (env' := z10 [(11, I6 v37), O1 v46]) ?_
       refine W.seq ?_
       refine W.rg ?_
       obtain ⟨w61, hw61, h⟩ := bind_some h
       refine WO.cm 4 [(2000000, 2000000)] [] (F := 56) (args := [S1 n2, I6 v9, I6 v10, I6 v37]) (hp := [O1 v46]) (hp2 := [(2000000, .obj 1000000005 1 (M8 w61.2))]) (r := .tup [I6 w61.1.1, .bool w61.1.2]) (run_sl_partitionOrdered_byte fuel v46 n2 v9 v10 v37 w61 hw61) (e1 := z10 [(11, I6 v37), (95, S1 n2), (96, I6 v9), (97, I6 v10), (98, I6 v37), (99, .tup [I6 w61.1.1, .bool w61.1.2]), (2000000, .obj 1000000005 1 (M8 w61.2))]) ?_
       refine WO.fn (e2 := z10 [(14, I6 w61.1.1), (15, .bool w61.1.2), (2000000, .obj 1000000005 1 (M8 w61.2))]) ?_
       refine W.seq ?_
       let z11 := fun t => z7 ((9, .bool w61.1.2) :: (10, I6 (W6 (v10 - v9))) :: (14, I6 w61.1.1) :: t)
       refine W.rt (e2 := z11 [(2000000, .obj 1000000005 1 (M8 w61.2))]) ?_
       refine W.seq ?_
       refine W.rt (e2 := z11 [(16, I6 (W6 (w61.1.1 - v9))), (17, I6 (W6 (v10 - w61.1.1))), (2000000, .obj 1000000005 1 (M8 w61.2))]) ?_
       refine W.seq ?_
       let z12 := fun t => z7 ((9, .bool w61.1.2) :: (14, I6 w61.1.1) :: (16, I6 (W6 (w61.1.1 - v9))) :: (17, I6 (W6 (v10 - w61.1.1))) :: (18, I6 (W6 (((W6 (v10 - v9))).tdiv 8))) :: t)
       refine W.rt (e2 := z12 [(2000000, .obj 1000000005 1 (M8 w61.2))]) ?_
       refine W.seq ?_
       refine W.rt (e2 := z12 [(113, .bool (decide ((W6 (w61.1.1 - v9)) < (W6 (v10 - w61.1.1))))), (2000000, .obj 1000000005 1 (M8 w61.2))]) ?_
       refine W.cb (decide ((W6 (w61.1.1 - v9)) < (W6 (v10 - w61.1.1)))) (fun hb => ?_) (fun hb => ?_)
       ·replace h := cond_t hb h
        refine W.seq ?_
        let z13 := fun t => z7 ((8, .bool (decide ((W6 (w61.1.1 - v9)) ≥ (W6 (((W6 (v10 - v9))).tdiv 8))))) :: (9, .bool w61.1.2) :: (14, I6 w61.1.1) :: t)
        refine W.rt (e2 := z13 [(2000000, .obj 1000000005 1 (M8 w61.2))]) ?_
        refine W.seq ?_
        refine W.rg ?_
        obtain ⟨w68, hw68, h⟩ := bind_some h
        refine WO.cm 4 [(2000000, 2000000)] [] (F := 33) (args := [S1 n2, I6 v9, I6 w61.1.1, I6 v28]) (hp := [(2000000, .obj 1000000005 1 (M8 w61.2))]) (hp2 := [O1 w68]) (r := .tup []) (ih w61.2 n2 v9 w61.1.1 v28 w68 hw68) (e1 := z13 [(117, S1 n2), (118, I6 v9), (119, I6 w61.1.1), (120, I6 v28), (121, .tup []), O1 w68]) ?_
        refine WO.fn (e2 := z0 [(2, I6 v10), (3, I6 v28), (8, .bool (decide ((W6 (w61.1.1 - v9)) ≥ (W6 (((W6 (v10 - v9))).tdiv 8))))), (9, .bool w61.1.2), (14, I6 w61.1.1), O1 w68]) ?_
        refine W.rt (e2 := z0 [(1, I6 (W6 (w61.1.1 + 1))), (2, I6 v10), (3, I6 v28), (8, .bool (decide ((W6 (w61.1.1 - v9)) ≥ (W6 (((W6 (v10 - v9))).tdiv 8))))), (9, .bool w61.1.2), O1 w68]) ?_
        exact hN1 (w68, (W6 (w61.1.1 + 1)), v10, v28, (decide ((W6 (w61.1.1 - v9)) ≥ (W6 (((W6 (v10 - v9))).tdiv 8)))), w61.1.2) h
       replace h := cond_f hb h
       refine W.seq ?_
       let z14 := fun t => z7 ((8, .bool (decide ((W6 (v10 - w61.1.1)) ≥ (W6 (((W6 (v10 - v9))).tdiv 8))))) :: (9, .bool w61.1.2) :: (14, I6 w61.1.1) :: t)
       refine W.rt (e2 := z14 [(2000000, .obj 1000000005 1 (M8 w61.2))]) ?_
       refine W.seq ?_
       refine W.rg ?_
       obtain ⟨w71, hw71, h⟩ := bind_some h
       refine WO.cm 5 [(2000000, 2000000)] [] (F := 33) (args := [S1 n2, I6 (W6 (w61.1.1 + 1)), I6 v10, I6 v28]) (hp := [(2000000, .obj 1000000005 1 (M8 w61.2))]) (hp2 := [O1 w71]) (r := .tup []) (ih w61.2 n2 (W6 (w61.1.1 + 1)) v10 v28 w71 hw71) (e1 := z14 [(127, S1 n2), (128, I6 w61.1.1), (129, I6 (W6 (w61.1.1 + 1))), (130, I6 v10), (131, I6 v28), (132, .tup []), O1 w71]) ?_
       refine WO.fn (e2 := z0 [(1, I6 v9), (3, I6 v28), (8, .bool (decide ((W6 (v10 - w61.1.1)) ≥ (W6 (((W6 (v10 - v9))).tdiv 8))))), (9, .bool w61.1.2), (14, I6 w61.1.1), O1 w71]) ?_
       refine W.rt (e2 := z0 [(1, I6 v9), (2, I6 w61.1.1), (3, I6 v28), (8, .bool (decide ((W6 (v10 - w61.1.1)) ≥ (W6 (((W6 (v10 - v9))).tdiv 8))))), (9, .bool w61.1.2), O1 w71]) ?_
       exact hN1 (w71, v9, w61.1.1, v28, (decide ((W6 (v10 - w61.1.1)) ≥ (W6 (((W6 (v10 - v9))).tdiv 8)))), w61.1.2) h
      refine W.rg ?_
      let z15 := fun t => z8 ((73, I6 v9) :: t)
      refine WO.bk 3 (fun b => z15 [(74, .bool b), (75, .bool b), O1 v46]) (decide (v9 > 0)) (fun hb => ?_) (fun hb => ?_)
      ·replace h := cond_t hb h
       obtain ⟨hc51, h⟩ := chk_some h
       let z16 := fun t => z15 ((74, .bool true) :: (75, .bool true) :: (76, S1 n2) :: (77, I6 v9) :: (78, I6 (W6 (v9 - 1))) :: (79, .pe 2000000 1 (0 + Int.toNat (W6 (v9 - 1))) 0) :: t)
       refine WO.pi 3 (v := .pe 2000000 1 (0 + Int.toNat (W6 (v9 - 1))) 0) hc51 (e1 := z16 [O1 v46]) ?_
       obtain ⟨e52, he52, h⟩ := bind_some h
       let z17 := fun t => z16 ((80, .int .u8 e52) :: t)
       refine WO.pk 0 (match (M8 v46)[(0 + Int.toNat (W6 (v9 - 1)))]? with | some y => cut Tryd.prog 5 (y.cells.map AV.strip) 0 | none => none) (v := .int .u8 e52) ((pe_ld (f := (AV.int .u8)) (G := (fun y => cut Tryd.prog 5 (y.cells.map AV.strip) 0)) he52).trans (by kernel_rfl)) (e1 := z17 [O1 v46]) ?_
       obtain ⟨hc53, h⟩ := chk_some h
       let z18 := fun t => z17 ((81, S1 n2) :: (82, I6 v37) :: (83, .pe 2000000 1 (0 + Int.toNat v37) 0) :: t)
       refine WO.pi 2 (v := .pe 2000000 1 (0 + Int.toNat v37) 0) hc53 (e1 := z18 [O1 v46]) ?_
       obtain ⟨e54, he54, h⟩ := bind_some h
       refine WO.pk 0 (match (M8 v46)[(0 + Int.toNat v37)]? with | some y => cut Tryd.prog 5 (y.cells.map AV.strip) 0 | none => none) (v := .int .u8 e54) ((pe_ld (f := (AV.int .u8)) (G := (fun y => cut Tryd.prog 5 (y.cells.map AV.strip) 0)) he54).trans (by kernel_rfl)) (e1 := z18 [(84, .int .u8 e54), O1 v46]) ?_
       obtain ⟨w55, hw55, h⟩ := bind_some h
       refine WO.ck 0 (F := 54) (l := [.int .u8 e52, .int .u8 e54]) (C := []) (r := .bool w55) (run_cm_Less_byte e52 e54 w55 hw55) (e1 := z18 [(84, .int .u8 e54), (85, .bool w55), O1 v46]) ?_
       refine WO.fn (e2 := z8 [(87, .bool (!w55)), O1 v46]) ?_
       exact hK50 (!w55) h
      replace h := cond_f hb h
      refine WO.fn (e2 := z8 [(87, .bool false), O1 v46]) ?_
      exact hK50 false h
     refine W.seq ?_
     refine W.join (σ := (Bool × Bool × Bool)) (fun s => z7 [(8, .bool s.1), (9, .bool s.2.1), (10, I6 (W6 (v10 - v9))), (11, I6 v37), (68, .bool s.2.2), O1 v36]) (fun s => (sl_pdqsortOrdered_byte_j40 fuel n2 v9 v10 v36 (sl_pdqsortOrdered_byte_j39 fuel n2 v9 v10 v28 v37 (sl_pdqsortOrdered_byte fuel) (sl_pdqsortOrdered_byte_l1 fuel n2 (sl_pdqsortOrdered_byte fuel) m1))) s.1 s.2.1 s.2.2 = some r) (fun s h => ?_) (fun hK40 => ?_)
     ·obtain ⟨v41, v42, v43⟩ := s
      have h : (sl_pdqsortOrdered_byte_j40 fuel n2 v9 v10 v36 (sl_pdqsortOrdered_byte_j39 fuel n2 v9 v10 v28 v37 (sl_pdqsortOrdered_byte fuel) (sl_pdqsortOrdered_byte_l1 fuel n2 (sl_pdqsortOrdered_byte fuel) m1))) v41 v42 v43 = some r := h
      unfold sl_pdqsortOrdered_byte_j40 at h
      refine W.cb v43 (fun hb => ?_) (fun hb => ?_)
      ·replace h := cond_t hb h
       refine W.seq ?_
       refine W.rg ?_
       obtain ⟨w45, hw45, h⟩ := bind_some h
       let z19 := fun t => z7 ((8, .bool v41) :: (9, .bool v42) :: (10, I6 (W6 (v10 - v9))) :: (11, I6 v37) :: t)
       refine WO.cm 3 [(2000000, 2000000)] [] (F := 53) (args := [S1 n2, I6 v9, I6 v10]) (hp := [O1 v36]) (hp2 := [(2000000, .obj 1000000005 1 (M8 w45.2))]) (r := .bool w45.1) (run_sl_partialInsertionSortOrdered_byte fuel v36 n2 v9 v10 w45 hw45) (e1 := z19 [(68, .bool v43), (69, S1 n2), (70, I6 v9), (71, I6 v10), (72, .bool w45.1), (2000000, .obj 1000000005 1 (M8 w45.2))]) ?_
       refine WO.fn (e2 := z19 [(72, .bool w45.1), (2000000, .obj 1000000005 1 (M8 w45.2))]) ?_
       refine W.cb w45.1 (fun hb => ?_) (fun hb => ?_)
       ·replace h := cond_t hb h
        refine W.wk (env' := [(2000000, .obj 1000000005 1 (M8 w45.2))]) ?_
        have hr : PostM Tryd.prog Tryd.f33 (.tup []) [(2000000, .obj 1000000005 1 (M8 w45.2))] .ret [(2000000, .obj 1000000005 1 (M8 w45.2))] := ⟨by kernel_rfl, by kernel_rfl⟩
        cases h
        exact W.ret hr
       replace h := cond_f hb h
       refine W.skip ?_
       refine W.wk (env' := z19 [(2000000, .obj 1000000005 1 (M8 w45.2))]) ?_
       exact hK39 (w45.2, v41, v42) h
      replace h := cond_f hb h
      refine W.skip ?_
      refine W.wk (env' := z7 [(8, .bool v41), (9, .bool v42), (10, I6 (W6 (v10 - v9))), (11, I6 v37), O1 v36]) ?_
      exact hK39 (v36, v41, v42) h
     refine W.rg ?_
     refine WO.bk 2 (fun b => z7 [(8, .bool b), (9, .bool v13), (10, I6 (W6 (v10 - v9))), (11, I6 v37), (12, I6 v38), (61, .bool b), (62, .bool b), O1 v36]) v12 (fun hb => ?_) (fun hb => ?_)
     ·replace h := cond_t hb h
      refine WO.bk 3 (fun b => z7 [(8, .bool true), (9, .bool b), (10, I6 (W6 (v10 - v9))), (11, I6 v37), (12, I6 v38), (61, .bool true), (62, .bool true), (63, .bool b), (64, .bool b), (65, .bool b), O1 v36]) v13 (fun hb => ?_) (fun hb => ?_)
      ·replace h := cond_t hb h
       refine WO.fn (e2 := z7 [(8, .bool true), (9, .bool true), (10, I6 (W6 (v10 - v9))), (11, I6 v37), (68, .bool (v38 == 1)), O1 v36]) ?_
       exact hK40 (true, true, (v38 == 1)) h
      replace h := cond_f hb h
      refine WO.fn (e2 := z7 [(8, .bool true), (9, .bool false), (10, I6 (W6 (v10 - v9))), (11, I6 v37), (68, .bool false), O1 v36]) ?_
      exact hK40 (true, false, false) h
     replace h := cond_f hb h
     refine WO.fn (e2 := z7 [(8, .bool false), (9, .bool v13), (10, I6 (W6 (v10 - v9))), (11, I6 v37), (68, .bool false), O1 v36]) ?_
     exact hK40 (false, v13, false) h
    refine W.seq ?_
    refine W.rt (e2 := z6 [(50, .bool (w30.2 == 2)), O1 v27]) ?_
    refine W.cb (w30.2 == 2) (fun hb => ?_) (fun hb => ?_)
    ·replace h := cond_t hb h
     refine W.seq ?_
     refine W.rg ?_
     obtain ⟨w34, hw34, h⟩ := bind_some h
     refine WO.cm 3 [(2000000, 2000000)] [] (F := 52) (args := [S1 n2, I6 v9, I6 v10]) (hp := [O1 v27]) (hp2 := [O1 w34]) (r := .tup []) (run_sl_reverseRangeOrdered_byte fuel v27 n2 v9 v10 w34 hw34) (e1 := z6 [(50, .bool (w30.2 == 2)), (51, S1 n2), (52, I6 v9), (53, I6 v10), (54, .tup []), O1 w34]) ?_
     refine WO.fn (e2 := z5 [(11, I6 w30.1), O1 w34]) ?_
     refine W.seq ?_
     let z20 := fun t => z5 ((11, I6 (W6 ((W6 (v10 - 1)) - (W6 (w30.1 - v9))))) :: t)
     refine W.rt (e2 := z20 [O1 w34]) ?_
     refine W.rt (e2 := z20 [(12, .int .i64 1), O1 w34]) ?_
     exact hK31 (w34, (W6 ((W6 (v10 - 1)) - (W6 (w30.1 - v9)))), 1) h
    replace h := cond_f hb h
    refine W.skip ?_
    refine W.wk (env' := z6 [O1 v27]) ?_
    exact hK31 (v27, w30.1, w30.2) h
   refine W.seq ?_
   refine W.rt (e2 := z3 [(35, .bool (!v12)), O1 v8]) ?_
   refine W.cb (!v12) (fun hb => ?_) (fun hb => ?_)
   ·replace h := cond_t hb h
    refine W.seq ?_
    refine W.rg ?_
    obtain ⟨w26, hw26, h⟩ := bind_some h
    refine WO.cm 3 [(2000000, 2000000)] [] (F := 50) (args := [S1 n2, I6 v9, I6 v10]) (hp := [O1 v8]) (hp2 := [O1 w26]) (r := .tup []) (run_sl_breakPatternsOrdered_byte fuel v8 n2 v9 v10 w26 hw26) (e1 := z3 [(35, .bool (!v12)), (36, S1 n2), (37, I6 v9), (38, I6 v10), (39, .tup []), O1 w26]) ?_
    refine WO.fn (e2 := z3 [O1 w26]) ?_
    refine W.rt (e2 := z2 [(3, I6 (W6 (v11 - 1))), (8, .bool v12), (9, .bool v13), (10, I6 (W6 (v10 - v9))), O1 w26]) ?_
    exact hK23 (w26, (W6 (v11 - 1))) h
   replace h := cond_f hb h
   refine W.skip ?_
   refine W.wk (env' := z3 [O1 v8]) ?_
   exact hK23 (v8, v11) h
def sl_Sort_byte (fuel : Nat) (a1 : (List Int)) (n2 : Nat) : Option (List Int) :=
 ((mb_Len (IntKind.wrap .u64 ((n2 : Nat) : Int))).bind fun w4 => ((sl_pdqsortOrdered_byte fuel a1 n2 0 ((n2 : Nat) : Int) w4).bind fun w5 => (some w5)))
theorem run_sl_Sort_byte (fuel : Nat) (a1 : (List Int)) (n2 : Nat) (r : (List Int)) (h : sl_Sort_byte fuel a1 n2 = some r) : Run Tryd.prog (.callM 17 [S1 n2] [O1 a1] (.tup []) [O1 r]) := by
 refine cM Tryd.func17 rfl (env0 := [(0, S1 n2), O1 a1]) ?_
 unfold sl_Sort_byte at h
 refine W.seq ?_
 let z0 := fun t => EN ((0, S1 n2) :: (2, I6 ((n2 : Nat) : Int)) :: t)
 refine W.rt (e2 := z0 [O1 a1]) ?_
 refine W.rg ?_
 obtain ⟨w4, hw4, h⟩ := bind_some h
 let z1 := fun t => z0 ((5, S1 n2) :: (6, I6 ((n2 : Nat) : Int)) :: (7, I6 ((n2 : Nat) : Int)) :: (8, .int .u64 (IntKind.wrap .u64 ((n2 : Nat) : Int))) :: (9, I6 w4) :: t)
 refine WO.ck 4 (F := 34) (l := [.int .u64 (IntKind.wrap .u64 ((n2 : Nat) : Int))]) (C := []) (r := I6 w4) (run_mb_Len (IntKind.wrap .u64 ((n2 : Nat) : Int)) w4 hw4) (e1 := z1 [O1 a1]) ?_
 obtain ⟨w5, hw5, h⟩ := bind_some h
 let z2 := fun t => z1 ((10, .tup []) :: O1 w5 :: t)
 refine WO.cm 0 [(2000000, 2000000)] [] (F := 33) (args := [S1 n2, .int .i64 0, I6 ((n2 : Nat) : Int), I6 w4]) (hp := [O1 a1]) (hp2 := [O1 w5]) (r := .tup []) (run_sl_pdqsortOrdered_byte fuel a1 n2 0 ((n2 : Nat) : Int) w4 w5 hw5) (e1 := z2 []) ?_
 refine WO.end0 (e2 := z2 []) (by kernel_rfl) ?_
 have hr : PostM Tryd.prog Tryd.f17 (.tup []) [O1 w5] .normal (z2 []) := ⟨by kernel_rfl, by kernel_rfl⟩
 cases h
 exact hr
end Go.AM
