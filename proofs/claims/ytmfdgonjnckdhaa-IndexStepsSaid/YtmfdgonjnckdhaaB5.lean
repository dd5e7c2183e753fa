/- s -/
import Derived.Test.YtmfdgonjnckdhaaB4
set_option maxRecDepth 100000
set_option linter.unusedVariables false
set_option linter.unusedSimpArgs false
namespace Go.AM
open Go.Proofs
def sl_pdqsortOrdered_byte_j50 (fuel : Nat) (n2 : Nat) (v9 : Int) (v10 : Int) (v28 : Int) (v37 : Int) (v46 : (List Int)) (v47 : Bool) (v48 : Bool) (K0 : ((List Int) → Nat → Int → Int → Int → Option (List Int))) (N1 : ((List Int) → Int → Int → Int → Bool → Bool → Option (List Int))) (v56 : Bool) : Option (List Int) :=
 (bif v56 then ((sl_partitionEqualOrdered_byte fuel v46 n2 v9 v10 v37).bind fun w58 => (N1 w58.2 w58.1 v10 v28 v47 v48)) else ((sl_partitionOrdered_byte fuel v46 n2 v9 v10 v37).bind fun w61 => (bif (decide ((IntKind.wrap .i64 (w61.1.1 - v9)) < (IntKind.wrap .i64 (v10 - w61.1.1)))) then ((K0 w61.2 n2 v9 w61.1.1 v28).bind fun w68 => (N1 w68 (IntKind.wrap .i64 (w61.1.1 + 1)) v10 v28 (decide ((IntKind.wrap .i64 (w61.1.1 - v9)) ≥ (IntKind.wrap .i64 (((IntKind.wrap .i64 (v10 - v9))).tdiv 8)))) w61.1.2)) else ((K0 w61.2 n2 (IntKind.wrap .i64 (w61.1.1 + 1)) v10 v28).bind fun w71 => (N1 w71 v9 w61.1.1 v28 (decide ((IntKind.wrap .i64 (v10 - w61.1.1)) ≥ (IntKind.wrap .i64 (((IntKind.wrap .i64 (v10 - v9))).tdiv 8)))) w61.1.2)))))
def sl_pdqsortOrdered_byte_j39 (fuel : Nat) (n2 : Nat) (v9 : Int) (v10 : Int) (v28 : Int) (v37 : Int) (K0 : ((List Int) → Nat → Int → Int → Int → Option (List Int))) (N1 : ((List Int) → Int → Int → Int → Bool → Bool → Option (List Int))) (v46 : (List Int)) (v47 : Bool) (v48 : Bool) : Option (List Int) :=
 (bif (decide (v9 > 0)) then (chk (decide ((0 : Int) ≤ (IntKind.wrap .i64 (v9 - 1)) ∧ (IntKind.wrap .i64 (v9 - 1)) < ((n2 : Nat) : Int))) ((v46[(0 + Int.toNat (IntKind.wrap .i64 (v9 - 1)))]?).bind fun e52 => (chk (decide ((0 : Int) ≤ v37 ∧ v37 < ((n2 : Nat) : Int))) ((v46[(0 + Int.toNat v37)]?).bind fun e54 => ((cm_Less_byte e52 e54).bind fun w55 => ((sl_pdqsortOrdered_byte_j50 fuel n2 v9 v10 v28 v37 v46 v47 v48 K0 N1) (!w55))))))) else ((sl_pdqsortOrdered_byte_j50 fuel n2 v9 v10 v28 v37 v46 v47 v48 K0 N1) false))
def sl_pdqsortOrdered_byte_j40 (fuel : Nat) (n2 : Nat) (v9 : Int) (v10 : Int) (v36 : (List Int)) (K39 : ((List Int) → Bool → Bool → Option (List Int))) (v41 : Bool) (v42 : Bool) (v43 : Bool) : Option (List Int) :=
 (bif v43 then ((sl_partialInsertionSortOrdered_byte fuel v36 n2 v9 v10).bind fun w45 => (bif w45.1 then (some w45.2) else (K39 w45.2 v41 v42))) else (K39 v36 v41 v42))
def sl_pdqsortOrdered_byte_j31 (fuel : Nat) (n2 : Nat) (v9 : Int) (v10 : Int) (v12 : Bool) (v13 : Bool) (v28 : Int) (K0 : ((List Int) → Nat → Int → Int → Int → Option (List Int))) (N1 : ((List Int) → Int → Int → Int → Bool → Bool → Option (List Int))) (v36 : (List Int)) (v37 : Int) (v38 : Int) : Option (List Int) :=
 (bif v12 then (bif v13 then ((sl_pdqsortOrdered_byte_j40 fuel n2 v9 v10 v36 (sl_pdqsortOrdered_byte_j39 fuel n2 v9 v10 v28 v37 K0 N1)) true true (v38 == 1)) else ((sl_pdqsortOrdered_byte_j40 fuel n2 v9 v10 v36 (sl_pdqsortOrdered_byte_j39 fuel n2 v9 v10 v28 v37 K0 N1)) true false false)) else ((sl_pdqsortOrdered_byte_j40 fuel n2 v9 v10 v36 (sl_pdqsortOrdered_byte_j39 fuel n2 v9 v10 v28 v37 K0 N1)) false v13 false))
def sl_pdqsortOrdered_byte_j23 (fuel : Nat) (n2 : Nat) (v9 : Int) (v10 : Int) (v12 : Bool) (v13 : Bool) (K0 : ((List Int) → Nat → Int → Int → Int → Option (List Int))) (N1 : ((List Int) → Int → Int → Int → Bool → Bool → Option (List Int))) (v27 : (List Int)) (v28 : Int) : Option (List Int) :=
 ((sl_choosePivotOrdered_byte (snap 0 n2 v27) v9 v10).bind fun w30 => (bif (w30.2 == 2) then ((sl_reverseRangeOrdered_byte fuel v27 n2 v9 v10).bind fun w34 => ((sl_pdqsortOrdered_byte_j31 fuel n2 v9 v10 v12 v13 v28 K0 N1) w34 (IntKind.wrap .i64 ((IntKind.wrap .i64 (v10 - 1)) - (IntKind.wrap .i64 (w30.1 - v9)))) 1)) else ((sl_pdqsortOrdered_byte_j31 fuel n2 v9 v10 v12 v13 v28 K0 N1) v27 w30.1 w30.2)))
def sl_pdqsortOrdered_byte_l1 (fuel : Nat) (n2 : Nat) (K0 : ((List Int) → Nat → Int → Int → Int → Option (List Int))) : Nat → (List Int) → Int → Int → Int → Bool → Bool → Option (List Int)
 | 0, _, _, _, _, _, _ => none
 | m1 + 1, v8, v9, v10, v11, v12, v13 => (bif (decide ((IntKind.wrap .i64 (v10 - v9)) ≤ 12)) then ((sl_insertionSortOrdered_byte fuel v8 n2 v9 v10).bind fun w18 => (some w18)) else (bif (v11 == 0) then ((sl_heapSortOrdered_byte fuel v8 n2 v9 v10).bind fun w22 => (some w22)) else (bif (!v12) then ((sl_breakPatternsOrdered_byte fuel v8 n2 v9 v10).bind fun w26 => ((sl_pdqsortOrdered_byte_j23 fuel n2 v9 v10 v12 v13 K0 (sl_pdqsortOrdered_byte_l1 fuel n2 K0 m1)) w26 (IntKind.wrap .i64 (v11 - 1)))) else ((sl_pdqsortOrdered_byte_j23 fuel n2 v9 v10 v12 v13 K0 (sl_pdqsortOrdered_byte_l1 fuel n2 K0 m1)) v8 v11))))
def sl_pdqsortOrdered_byte : Nat → (List Int) → Nat → Int → Int → Int → Option (List Int)
 | 0, _, _, _, _, _ => none
 | fuel + 1, a1, n2, a3, a4, a5 => (sl_pdqsortOrdered_byte_l1 fuel n2 (sl_pdqsortOrdered_byte fuel) fuel a1 a3 a4 a5 true true)
theorem run_sl_pdqsortOrdered_byte : ∀ (fuel : Nat) (a1 : (List Int)) (n2 : Nat) (a3 : Int) (a4 : Int) (a5 : Int) (r : (List Int)) (h : sl_pdqsortOrdered_byte fuel a1 n2 a3 a4 a5 = some r), Run Try.prog (.callM 94 [S1 n2, I6 a3, I6 a4, I6 a5] [O1 a1] (.tup []) [O1 r]) := by
 intro fuel
 induction fuel with
 | zero => intro a1 n2 a3 a4 a5 r h; cases h
 | succ fuel ih =>
  intro a1 n2 a3 a4 a5 r h
  refine callM_of_W Try.func94 rfl (by kernel_rfl) (env0 := [(0, S1 n2), (1, I6 a3), (2, I6 a4), (3, I6 a5), O1 a1]) (by kernel_rfl) ?_
  rw [sl_pdqsortOrdered_byte.eq_2] at h
  refine W.seq ?_
  refine W.regT [0, 1, 2, 3, 8, 2000000] [] [] [] (e2 := [(0, S1 n2), (1, I6 a3), (2, I6 a4), (3, I6 a5), (8, .bool true), O1 a1]) (by kernel_rfl) (by kernel_rfl) (fun _ h => h) ?_
  refine W.seq ?_
  refine W.regT [0, 1, 2, 3, 8, 9, 2000000] [] [] [] (e2 := [(0, S1 n2), (1, I6 a3), (2, I6 a4), (3, I6 a5), (8, .bool true), (9, .bool true), O1 a1]) (by kernel_rfl) (by kernel_rfl) (fun _ h => h) ?_
  refine W.block ?_
  refine W.weak [0, 1, 2, 3, 8, 9, 2000000] [] [] [] (env' := [(0, S1 n2), (1, I6 a3), (2, I6 a4), (3, I6 a5), (8, .bool true), (9, .bool true), O1 a1]) (by kernel_rfl) ?_
  refine W.fuel (σ := ((List Int) × Int × Int × Int × Bool × Bool)) (fun s => [(0, S1 n2), (1, I6 s.2.1), (2, I6 s.2.2.1), (3, I6 s.2.2.2.1), (8, .bool s.2.2.2.2.1), (9, .bool s.2.2.2.2.2), (2000000, .obj 1000000005 1 (M8 s.1))]) (fun m0 s => sl_pdqsortOrdered_byte_l1 fuel n2 (sl_pdqsortOrdered_byte fuel) m0 s.1 s.2.1 s.2.2.1 s.2.2.2.1 s.2.2.2.2.1 s.2.2.2.2.2 = some r) (fun s h => ?_) (fun m1 s h hN1 => ?_) fuel (a1, a3, a4, a5, true, true) h
  ·obtain ⟨v8, v9, v10, v11, v12, v13⟩ := s
   have h : sl_pdqsortOrdered_byte_l1 fuel n2 (sl_pdqsortOrdered_byte fuel) 0 v8 v9 v10 v11 v12 v13 = some r := h
   rw [sl_pdqsortOrdered_byte_l1.eq_1] at h
   cases h
  ·obtain ⟨v8, v9, v10, v11, v12, v13⟩ := s
   have h : sl_pdqsortOrdered_byte_l1 fuel n2 (sl_pdqsortOrdered_byte fuel) (m1 + 1) v8 v9 v10 v11 v12 v13 = some r := h
   rw [sl_pdqsortOrdered_byte_l1.eq_2] at h
   refine W.block ?_
   refine W.seq ?_
   refine W.regT [0, 1, 2, 3, 8, 9, 10, 2000000] [] [] [] (e2 := [(0, S1 n2), (1, I6 v9), (2, I6 v10), (3, I6 v11), (8, .bool v12), (9, .bool v13), (10, I6 (W6 (v10 - v9))), O1 v8]) (by kernel_rfl) (by kernel_rfl) (fun _ h => h) ?_
   refine W.seq ?_
   refine W.seq ?_
   refine W.regT [0, 1, 2, 3, 8, 9, 10, 23, 2000000] [] [] [] (e2 := [(0, S1 n2), (1, I6 v9), (2, I6 v10), (3, I6 v11), (8, .bool v12), (9, .bool v13), (10, I6 (W6 (v10 - v9))), (23, .bool (decide ((W6 (v10 - v9)) ≤ 12))), O1 v8]) (by kernel_rfl) (by kernel_rfl) (fun _ h => h) ?_
   refine W.condB (decide ((W6 (v10 - v9)) ≤ 12)) (by kernel_rfl) (fun hb => ?_) (fun hb => ?_)
   ·replace h := cond_t hb h
    refine W.seq ?_
    refine W.region (by kernel_rfl) ?_
    obtain ⟨w18, hw18, h⟩ := bind_some h
    refine WO.callMK 3 [(2000000, 2000000)] [] (F := 110) (args := [S1 n2, I6 v9, I6 v10]) (hp := [O1 v8]) (hp2 := [O1 w18]) (r := .tup []) (by kernel_rfl) (run_sl_insertionSortOrdered_byte fuel v8 n2 v9 v10 w18 hw18) (e1 := [(0, S1 n2), (1, I6 v9), (2, I6 v10), (3, I6 v11), (8, .bool v12), (9, .bool v13), (10, I6 (W6 (v10 - v9))), (23, .bool (decide ((W6 (v10 - v9)) ≤ 12))), (24, S1 n2), (25, I6 v9), (26, I6 v10), (27, .tup []), O1 w18]) (by kernel_rfl) ?_
    refine WO.fin [2000000] [] [] [] (e2 := [O1 w18]) (by kernel_rfl) (fun _ h => h) ?_
    refine W.weak [2000000] [] [] [] (env' := [O1 w18]) (by kernel_rfl) ?_
    have hr : PostM Try.prog Try.f94 (.tup []) [O1 w18] .ret [O1 w18] := ⟨by kernel_rfl, by kernel_rfl⟩
    cases h
    exact W.ret hr
   replace h := cond_f hb h
   refine W.skip ?_
   refine W.weak [0, 1, 2, 3, 8, 9, 10, 2000000] [] [] [] (env' := [(0, S1 n2), (1, I6 v9), (2, I6 v10), (3, I6 v11), (8, .bool v12), (9, .bool v13), (10, I6 (W6 (v10 - v9))), O1 v8]) (by kernel_rfl) ?_
   refine W.seq ?_
   refine W.seq ?_
   refine W.regT [0, 1, 2, 3, 8, 9, 10, 29, 2000000] [] [] [] (e2 := [(0, S1 n2), (1, I6 v9), (2, I6 v10), (3, I6 v11), (8, .bool v12), (9, .bool v13), (10, I6 (W6 (v10 - v9))), (29, .bool (v11 == 0)), O1 v8]) (by kernel_rfl) (by kernel_rfl) (fun _ h => h) ?_
   refine W.condB (v11 == 0) (by kernel_rfl) (fun hb => ?_) (fun hb => ?_)
   ·replace h := cond_t hb h
    refine W.seq ?_
    refine W.region (by kernel_rfl) ?_
    obtain ⟨w22, hw22, h⟩ := bind_some h
    refine WO.callMK 3 [(2000000, 2000000)] [] (F := 111) (args := [S1 n2, I6 v9, I6 v10]) (hp := [O1 v8]) (hp2 := [O1 w22]) (r := .tup []) (by kernel_rfl) (run_sl_heapSortOrdered_byte fuel v8 n2 v9 v10 w22 hw22) (e1 := [(0, S1 n2), (1, I6 v9), (2, I6 v10), (3, I6 v11), (8, .bool v12), (9, .bool v13), (10, I6 (W6 (v10 - v9))), (29, .bool (v11 == 0)), (30, S1 n2), (31, I6 v9), (32, I6 v10), (33, .tup []), O1 w22]) (by kernel_rfl) ?_
    refine WO.fin [2000000] [] [] [] (e2 := [O1 w22]) (by kernel_rfl) (fun _ h => h) ?_
    refine W.weak [2000000] [] [] [] (env' := [O1 w22]) (by kernel_rfl) ?_
    have hr : PostM Try.prog Try.f94 (.tup []) [O1 w22] .ret [O1 w22] := ⟨by kernel_rfl, by kernel_rfl⟩
    cases h
    exact W.ret hr
   replace h := cond_f hb h
   refine W.skip ?_
   refine W.weak [0, 1, 2, 3, 8, 9, 10, 2000000] [] [] [] (env' := [(0, S1 n2), (1, I6 v9), (2, I6 v10), (3, I6 v11), (8, .bool v12), (9, .bool v13), (10, I6 (W6 (v10 - v9))), O1 v8]) (by kernel_rfl) ?_
   refine W.seq ?_
   refine W.join (σ := ((List Int) × Int)) (fun s => [(0, S1 n2), (1, I6 v9), (2, I6 v10), (3, I6 s.2), (8, .bool v12), (9, .bool v13), (10, I6 (W6 (v10 - v9))), (2000000, .obj 1000000005 1 (M8 s.1))]) (fun s => (sl_pdqsortOrdered_byte_j23 fuel n2 v9 v10 v12 v13 (sl_pdqsortOrdered_byte fuel) (sl_pdqsortOrdered_byte_l1 fuel n2 (sl_pdqsortOrdered_byte fuel) m1)) s.1 s.2 = some r) (fun s h => ?_) (fun hK23 => ?_)
   ·obtain ⟨v27, v28⟩ := s
    have h : (sl_pdqsortOrdered_byte_j23 fuel n2 v9 v10 v12 v13 (sl_pdqsortOrdered_byte fuel) (sl_pdqsortOrdered_byte_l1 fuel n2 (sl_pdqsortOrdered_byte fuel) m1)) v27 v28 = some r := h
    unfold sl_pdqsortOrdered_byte_j23 at h
    refine W.seq ?_
    refine W.region (by kernel_rfl) ?_
    obtain ⟨w30, hw30, h⟩ := bind_some h
    refine WO.callRK 3 (F := 113) (l := [.lst 5 1 none (snapA 0 n2 (M8 v27)), I6 v9, I6 v10]) (C := []) (args := [l5 none (snap 0 n2 v27), I6 v9, I6 v10]) (r := .tup [I6 w30.1, I6 w30.2]) (by kernel_rfl) (by first | (simp only [snap_map, snap_full, snap_rep, List.cons_append, List.nil_append]; done) | (simp only [snap_map, snap_full, snap_rep, List.cons_append, List.nil_append]; kernel_rfl)) (by kernel_rfl) (by kernel_rfl) (run_sl_choosePivotOrdered_byte (snap 0 n2 v27) v9 v10 w30 hw30) (e1 := [(0, S1 n2), (1, I6 v9), (2, I6 v10), (3, I6 v28), (8, .bool v12), (9, .bool v13), (10, I6 (W6 (v10 - v9))), (43, S1 n2), (44, I6 v9), (45, I6 v10), (46, .tup [I6 w30.1, I6 w30.2]), O1 v27]) (by kernel_rfl) ?_
    refine WO.fin [0, 1, 2, 3, 8, 9, 10, 11, 12, 2000000] [] [] [] (e2 := [(0, S1 n2), (1, I6 v9), (2, I6 v10), (3, I6 v28), (8, .bool v12), (9, .bool v13), (10, I6 (W6 (v10 - v9))), (11, I6 w30.1), (12, I6 w30.2), O1 v27]) (by kernel_rfl) (fun _ h => h) ?_
    refine W.seq ?_
    refine W.join (σ := ((List Int) × Int × Int)) (fun s => [(0, S1 n2), (1, I6 v9), (2, I6 v10), (3, I6 v28), (8, .bool v12), (9, .bool v13), (10, I6 (W6 (v10 - v9))), (11, I6 s.2.1), (12, I6 s.2.2), (2000000, .obj 1000000005 1 (M8 s.1))]) (fun s => (sl_pdqsortOrdered_byte_j31 fuel n2 v9 v10 v12 v13 v28 (sl_pdqsortOrdered_byte fuel) (sl_pdqsortOrdered_byte_l1 fuel n2 (sl_pdqsortOrdered_byte fuel) m1)) s.1 s.2.1 s.2.2 = some r) (fun s h => ?_) (fun hK31 => ?_)
    ·obtain ⟨v36, v37, v38⟩ := s
     have h : (sl_pdqsortOrdered_byte_j31 fuel n2 v9 v10 v12 v13 v28 (sl_pdqsortOrdered_byte fuel) (sl_pdqsortOrdered_byte_l1 fuel n2 (sl_pdqsortOrdered_byte fuel) m1)) v36 v37 v38 = some r := h
     unfold sl_pdqsortOrdered_byte_j31 at h
     refine W.seq ?_
     refine W.join (σ := ((List Int) × Bool × Bool)) (fun s => [(0, S1 n2), (1, I6 v9), (2, I6 v10), (3, I6 v28), (8, .bool s.2.1), (9, .bool s.2.2), (10, I6 (W6 (v10 - v9))), (11, I6 v37), (2000000, .obj 1000000005 1 (M8 s.1))]) (fun s => (sl_pdqsortOrdered_byte_j39 fuel n2 v9 v10 v28 v37 (sl_pdqsortOrdered_byte fuel) (sl_pdqsortOrdered_byte_l1 fuel n2 (sl_pdqsortOrdered_byte fuel) m1)) s.1 s.2.1 s.2.2 = some r) (fun s h => ?_) (fun hK39 => ?_)
     ·obtain ⟨v46, v47, v48⟩ := s
      have h : (sl_pdqsortOrdered_byte_j39 fuel n2 v9 v10 v28 v37 (sl_pdqsortOrdered_byte fuel) (sl_pdqsortOrdered_byte_l1 fuel n2 (sl_pdqsortOrdered_byte fuel) m1)) v46 v47 v48 = some r := h
      unfold sl_pdqsortOrdered_byte_j39 at h
      refine W.seq ?_
      refine W.seq ?_
      refine W.join (σ := (Bool)) (fun s => [(0, S1 n2), (1, I6 v9), (2, I6 v10), (3, I6 v28), (8, .bool v47), (9, .bool v48), (10, I6 (W6 (v10 - v9))), (11, I6 v37), (87, .bool s), O1 v46]) (fun s => (sl_pdqsortOrdered_byte_j50 fuel n2 v9 v10 v28 v37 v46 v47 v48 (sl_pdqsortOrdered_byte fuel) (sl_pdqsortOrdered_byte_l1 fuel n2 (sl_pdqsortOrdered_byte fuel) m1)) s = some r) (fun s h => ?_) (fun hK50 => ?_)
      ·obtain ⟨v56, rfl⟩ : ∃ x, x = s := ⟨s, rfl⟩
       have h : (sl_pdqsortOrdered_byte_j50 fuel n2 v9 v10 v28 v37 v46 v47 v48 (sl_pdqsortOrdered_byte fuel) (sl_pdqsortOrdered_byte_l1 fuel n2 (sl_pdqsortOrdered_byte fuel) m1)) v56 = some r := h
       unfold sl_pdqsortOrdered_byte_j50 at h
       refine W.condB v56 (by kernel_rfl) (fun hb => ?_) (fun hb => ?_)
       ·replace h := cond_t hb h
        refine W.seq ?_
        refine W.region (by kernel_rfl) ?_
        obtain ⟨w58, hw58, h⟩ := bind_some h
        refine WO.callMK 4 [(2000000, 2000000)] [] (F := 117) (args := [S1 n2, I6 v9, I6 v10, I6 v37]) (hp := [O1 v46]) (hp2 := [(2000000, .obj 1000000005 1 (M8 w58.2))]) (r := I6 w58.1) (by kernel_rfl) (run_sl_partitionEqualOrdered_byte fuel v46 n2 v9 v10 v37 w58 hw58) (e1 := [(0, S1 n2), (1, I6 v9), (2, I6 v10), (3, I6 v28), (8, .bool v47), (9, .bool v48), (10, I6 (W6 (v10 - v9))), (11, I6 v37), (87, .bool v56), (88, S1 n2), (89, I6 v9), (90, I6 v10), (91, I6 v37), (92, I6 w58.1), (2000000, .obj 1000000005 1 (M8 w58.2))]) (by kernel_rfl) ?_
        refine WO.fin [0, 2, 3, 8, 9, 13, 2000000] [] [] [] (e2 := [(0, S1 n2), (2, I6 v10), (3, I6 v28), (8, .bool v47), (9, .bool v48), (13, I6 w58.1), (2000000, .obj 1000000005 1 (M8 w58.2))]) (by kernel_rfl) (fun _ h => h) ?_
        refine W.seq ?_
        refine W.regT [0, 1, 2, 3, 8, 9, 2000000] [] [] [] (e2 := [(0, S1 n2), (1, I6 w58.1), (2, I6 v10), (3, I6 v28), (8, .bool v47), (9, .bool v48), (2000000, .obj 1000000005 1 (M8 w58.2))]) (by kernel_rfl) (by kernel_rfl) (fun _ h => h) ?_
        refine W.exit ?_
        refine W.weak [0, 1, 2, 3, 8, 9, 2000000] [] [] [] (env' := [(0, S1 n2), (1, I6 w58.1), (2, I6 v10), (3, I6 v28), (8, .bool v47), (9, .bool v48), (2000000, .obj 1000000005 1 (M8 w58.2))]) (by kernel_rfl) ?_
        exact hN1 (w58.2, w58.1, v10, v28, v47, v48) h
       replace h := cond_f hb h
       refine W.skip ?_
       refine W.weak [0, 1, 2, 3, 10, 11, 2000000] [] [] [] (env' := [(0, S1 n2), (1, I6 v9), (2, I6 v10), (3, I6 v28), (10, I6 (W6 (v10 - v9))), (11, I6 v37), O1 v46]) (by kernel_rfl) ?_
       refine W.seq ?_
       refine W.region (by kernel_rfl) ?_
       obtain ⟨w61, hw61, h⟩ := bind_some h
       refine WO.callMK 4 [(2000000, 2000000)] [] (F := 118) (args := [S1 n2, I6 v9, I6 v10, I6 v37]) (hp := [O1 v46]) (hp2 := [(2000000, .obj 1000000005 1 (M8 w61.2))]) (r := .tup [I6 w61.1.1, .bool w61.1.2]) (by kernel_rfl) (run_sl_partitionOrdered_byte fuel v46 n2 v9 v10 v37 w61 hw61) (e1 := [(0, S1 n2), (1, I6 v9), (2, I6 v10), (3, I6 v28), (10, I6 (W6 (v10 - v9))), (11, I6 v37), (95, S1 n2), (96, I6 v9), (97, I6 v10), (98, I6 v37), (99, .tup [I6 w61.1.1, .bool w61.1.2]), (2000000, .obj 1000000005 1 (M8 w61.2))]) (by kernel_rfl) ?_
       refine WO.fin [0, 1, 2, 3, 10, 14, 15, 2000000] [] [] [] (e2 := [(0, S1 n2), (1, I6 v9), (2, I6 v10), (3, I6 v28), (10, I6 (W6 (v10 - v9))), (14, I6 w61.1.1), (15, .bool w61.1.2), (2000000, .obj 1000000005 1 (M8 w61.2))]) (by kernel_rfl) (fun _ h => h) ?_
       refine W.seq ?_
       refine W.regT [0, 1, 2, 3, 9, 10, 14, 2000000] [] [] [] (e2 := [(0, S1 n2), (1, I6 v9), (2, I6 v10), (3, I6 v28), (9, .bool w61.1.2), (10, I6 (W6 (v10 - v9))), (14, I6 w61.1.1), (2000000, .obj 1000000005 1 (M8 w61.2))]) (by kernel_rfl) (by kernel_rfl) (fun _ h => h) ?_
       refine W.seq ?_
       refine W.regT [0, 1, 2, 3, 9, 10, 14, 16, 17, 2000000] [] [] [] (e2 := [(0, S1 n2), (1, I6 v9), (2, I6 v10), (3, I6 v28), (9, .bool w61.1.2), (10, I6 (W6 (v10 - v9))), (14, I6 w61.1.1), (16, I6 (W6 (w61.1.1 - v9))), (17, I6 (W6 (v10 - w61.1.1))), (2000000, .obj 1000000005 1 (M8 w61.2))]) (by kernel_rfl) (by kernel_rfl) (fun _ h => h) ?_
       refine W.seq ?_
       refine W.regT [0, 1, 2, 3, 9, 14, 16, 17, 18, 2000000] [] [] [] (e2 := [(0, S1 n2), (1, I6 v9), (2, I6 v10), (3, I6 v28), (9, .bool w61.1.2), (14, I6 w61.1.1), (16, I6 (W6 (w61.1.1 - v9))), (17, I6 (W6 (v10 - w61.1.1))), (18, I6 (W6 (((W6 (v10 - v9))).tdiv 8))), (2000000, .obj 1000000005 1 (M8 w61.2))]) (by kernel_rfl) (by kernel_rfl) (fun _ h => h) ?_
       refine W.seq ?_
       refine W.regT [0, 1, 2, 3, 9, 14, 16, 17, 18, 113, 2000000] [] [] [] (e2 := [(0, S1 n2), (1, I6 v9), (2, I6 v10), (3, I6 v28), (9, .bool w61.1.2), (14, I6 w61.1.1), (16, I6 (W6 (w61.1.1 - v9))), (17, I6 (W6 (v10 - w61.1.1))), (18, I6 (W6 (((W6 (v10 - v9))).tdiv 8))), (113, .bool (decide ((W6 (w61.1.1 - v9)) < (W6 (v10 - w61.1.1))))), (2000000, .obj 1000000005 1 (M8 w61.2))]) (by kernel_rfl) (by kernel_rfl) (fun _ h => h) ?_
       refine W.condB (decide ((W6 (w61.1.1 - v9)) < (W6 (v10 - w61.1.1)))) (by kernel_rfl) (fun hb => ?_) (fun hb => ?_)
       ·replace h := cond_t hb h
        refine W.seq ?_
        refine W.regT [0, 1, 2, 3, 8, 9, 14, 2000000] [] [] [] (e2 := [(0, S1 n2), (1, I6 v9), (2, I6 v10), (3, I6 v28), (8, .bool (decide ((W6 (w61.1.1 - v9)) ≥ (W6 (((W6 (v10 - v9))).tdiv 8))))), (9, .bool w61.1.2), (14, I6 w61.1.1), (2000000, .obj 1000000005 1 (M8 w61.2))]) (by kernel_rfl) (by kernel_rfl) (fun _ h => h) ?_
        refine W.seq ?_
        refine W.region (by kernel_rfl) ?_
        obtain ⟨w68, hw68, h⟩ := bind_some h
        refine WO.callMK 4 [(2000000, 2000000)] [] (F := 94) (args := [S1 n2, I6 v9, I6 w61.1.1, I6 v28]) (hp := [(2000000, .obj 1000000005 1 (M8 w61.2))]) (hp2 := [O1 w68]) (r := .tup []) (by kernel_rfl) (ih w61.2 n2 v9 w61.1.1 v28 w68 hw68) (e1 := [(0, S1 n2), (1, I6 v9), (2, I6 v10), (3, I6 v28), (8, .bool (decide ((W6 (w61.1.1 - v9)) ≥ (W6 (((W6 (v10 - v9))).tdiv 8))))), (9, .bool w61.1.2), (14, I6 w61.1.1), (117, S1 n2), (118, I6 v9), (119, I6 w61.1.1), (120, I6 v28), (121, .tup []), O1 w68]) (by kernel_rfl) ?_
        refine WO.fin [0, 2, 3, 8, 9, 14, 2000000] [] [] [] (e2 := [(0, S1 n2), (2, I6 v10), (3, I6 v28), (8, .bool (decide ((W6 (w61.1.1 - v9)) ≥ (W6 (((W6 (v10 - v9))).tdiv 8))))), (9, .bool w61.1.2), (14, I6 w61.1.1), O1 w68]) (by kernel_rfl) (fun _ h => h) ?_
        refine W.regT [0, 1, 2, 3, 8, 9, 2000000] [] [] [] (e2 := [(0, S1 n2), (1, I6 (W6 (w61.1.1 + 1))), (2, I6 v10), (3, I6 v28), (8, .bool (decide ((W6 (w61.1.1 - v9)) ≥ (W6 (((W6 (v10 - v9))).tdiv 8))))), (9, .bool w61.1.2), O1 w68]) (by kernel_rfl) (by kernel_rfl) (fun _ h => h) ?_
        exact hN1 (w68, (W6 (w61.1.1 + 1)), v10, v28, (decide ((W6 (w61.1.1 - v9)) ≥ (W6 (((W6 (v10 - v9))).tdiv 8)))), w61.1.2) h
       replace h := cond_f hb h
       refine W.seq ?_
       refine W.regT [0, 1, 2, 3, 8, 9, 14, 2000000] [] [] [] (e2 := [(0, S1 n2), (1, I6 v9), (2, I6 v10), (3, I6 v28), (8, .bool (decide ((W6 (v10 - w61.1.1)) ≥ (W6 (((W6 (v10 - v9))).tdiv 8))))), (9, .bool w61.1.2), (14, I6 w61.1.1), (2000000, .obj 1000000005 1 (M8 w61.2))]) (by kernel_rfl) (by kernel_rfl) (fun _ h => h) ?_
       refine W.seq ?_
       refine W.region (by kernel_rfl) ?_
       obtain ⟨w71, hw71, h⟩ := bind_some h
       refine WO.callMK 5 [(2000000, 2000000)] [] (F := 94) (args := [S1 n2, I6 (W6 (w61.1.1 + 1)), I6 v10, I6 v28]) (hp := [(2000000, .obj 1000000005 1 (M8 w61.2))]) (hp2 := [O1 w71]) (r := .tup []) (by kernel_rfl) (ih w61.2 n2 (W6 (w61.1.1 + 1)) v10 v28 w71 hw71) (e1 := [(0, S1 n2), (1, I6 v9), (2, I6 v10), (3, I6 v28), (8, .bool (decide ((W6 (v10 - w61.1.1)) ≥ (W6 (((W6 (v10 - v9))).tdiv 8))))), (9, .bool w61.1.2), (14, I6 w61.1.1), (127, S1 n2), (128, I6 w61.1.1), (129, I6 (W6 (w61.1.1 + 1))), (130, I6 v10), (131, I6 v28), (132, .tup []), O1 w71]) (by kernel_rfl) ?_
       refine WO.fin [0, 1, 3, 8, 9, 14, 2000000] [] [] [] (e2 := [(0, S1 n2), (1, I6 v9), (3, I6 v28), (8, .bool (decide ((W6 (v10 - w61.1.1)) ≥ (W6 (((W6 (v10 - v9))).tdiv 8))))), (9, .bool w61.1.2), (14, I6 w61.1.1), O1 w71]) (by kernel_rfl) (fun _ h => h) ?_
       refine W.regT [0, 1, 2, 3, 8, 9, 2000000] [] [] [] (e2 := [(0, S1 n2), (1, I6 v9), (2, I6 w61.1.1), (3, I6 v28), (8, .bool (decide ((W6 (v10 - w61.1.1)) ≥ (W6 (((W6 (v10 - v9))).tdiv 8))))), (9, .bool w61.1.2), O1 w71]) (by kernel_rfl) (by kernel_rfl) (fun _ h => h) ?_
       exact hN1 (w71, v9, w61.1.1, v28, (decide ((W6 (v10 - w61.1.1)) ≥ (W6 (((W6 (v10 - v9))).tdiv 8)))), w61.1.2) h
      refine W.region (by kernel_rfl) ?_
      refine WO.boolK 3 (fun b => [(0, S1 n2), (1, I6 v9), (2, I6 v10), (3, I6 v28), (8, .bool v47), (9, .bool v48), (10, I6 (W6 (v10 - v9))), (11, I6 v37), (73, I6 v9), (74, .bool b), (75, .bool b), O1 v46]) (decide (v9 > 0)) (by kernel_rfl) (fun hb => ?_) (fun hb => ?_)
      ·replace h := cond_t hb h
       obtain ⟨hc51, h⟩ := chk_some h
       refine WO.pureK 3 (if (0 : Int) ≤ (W6 (v9 - 1)) ∧ (W6 (v9 - 1)) < ((n2 : Nat) : Int) then some (.pe 2000000 1 (0 + Int.toNat (W6 (v9 - 1))) 0) else none) (v := .pe 2000000 1 (0 + Int.toNat (W6 (v9 - 1))) 0) (by kernel_rfl) (ite_some hc51) (e1 := [(0, S1 n2), (1, I6 v9), (2, I6 v10), (3, I6 v28), (8, .bool v47), (9, .bool v48), (10, I6 (W6 (v10 - v9))), (11, I6 v37), (73, I6 v9), (74, .bool true), (75, .bool true), (76, S1 n2), (77, I6 v9), (78, I6 (W6 (v9 - 1))), (79, .pe 2000000 1 (0 + Int.toNat (W6 (v9 - 1))) 0), O1 v46]) (by kernel_rfl) ?_
       obtain ⟨e52, he52, h⟩ := bind_some h
       refine WO.pureK 0 (match (M8 v46)[(0 + Int.toNat (W6 (v9 - 1)))]? with | some y => cut Try.prog 5 (y.cells.map AV.strip) 0 | none => none) (v := .int .u8 e52) (by kernel_rfl) ((pe_ld (f := (AV.int .u8)) (G := (fun y => cut Try.prog 5 (y.cells.map AV.strip) 0)) he52).trans (by kernel_rfl)) (e1 := [(0, S1 n2), (1, I6 v9), (2, I6 v10), (3, I6 v28), (8, .bool v47), (9, .bool v48), (10, I6 (W6 (v10 - v9))), (11, I6 v37), (73, I6 v9), (74, .bool true), (75, .bool true), (76, S1 n2), (77, I6 v9), (78, I6 (W6 (v9 - 1))), (79, .pe 2000000 1 (0 + Int.toNat (W6 (v9 - 1))) 0), (80, .int .u8 e52), O1 v46]) (by kernel_rfl) ?_
       obtain ⟨hc53, h⟩ := chk_some h
       refine WO.pureK 2 (if (0 : Int) ≤ v37 ∧ v37 < ((n2 : Nat) : Int) then some (.pe 2000000 1 (0 + Int.toNat v37) 0) else none) (v := .pe 2000000 1 (0 + Int.toNat v37) 0) (by kernel_rfl) (ite_some hc53) (e1 := [(0, S1 n2), (1, I6 v9), (2, I6 v10), (3, I6 v28), (8, .bool v47), (9, .bool v48), (10, I6 (W6 (v10 - v9))), (11, I6 v37), (73, I6 v9), (74, .bool true), (75, .bool true), (76, S1 n2), (77, I6 v9), (78, I6 (W6 (v9 - 1))), (79, .pe 2000000 1 (0 + Int.toNat (W6 (v9 - 1))) 0), (80, .int .u8 e52), (81, S1 n2), (82, I6 v37), (83, .pe 2000000 1 (0 + Int.toNat v37) 0), O1 v46]) (by kernel_rfl) ?_
       obtain ⟨e54, he54, h⟩ := bind_some h
       refine WO.pureK 0 (match (M8 v46)[(0 + Int.toNat v37)]? with | some y => cut Try.prog 5 (y.cells.map AV.strip) 0 | none => none) (v := .int .u8 e54) (by kernel_rfl) ((pe_ld (f := (AV.int .u8)) (G := (fun y => cut Try.prog 5 (y.cells.map AV.strip) 0)) he54).trans (by kernel_rfl)) (e1 := [(0, S1 n2), (1, I6 v9), (2, I6 v10), (3, I6 v28), (8, .bool v47), (9, .bool v48), (10, I6 (W6 (v10 - v9))), (11, I6 v37), (73, I6 v9), (74, .bool true), (75, .bool true), (76, S1 n2), (77, I6 v9), (78, I6 (W6 (v9 - 1))), (79, .pe 2000000 1 (0 + Int.toNat (W6 (v9 - 1))) 0), (80, .int .u8 e52), (81, S1 n2), (82, I6 v37), (83, .pe 2000000 1 (0 + Int.toNat v37) 0), (84, .int .u8 e54), O1 v46]) (by kernel_rfl) ?_
       obtain ⟨w55, hw55, h⟩ := bind_some h
       refine WO.callK 0 (F := 116) (l := [.int .u8 e52, .int .u8 e54]) (C := []) (r := .bool w55) (by kernel_rfl) (by kernel_rfl) (run_cm_Less_byte e52 e54 w55 hw55) (e1 := [(0, S1 n2), (1, I6 v9), (2, I6 v10), (3, I6 v28), (8, .bool v47), (9, .bool v48), (10, I6 (W6 (v10 - v9))), (11, I6 v37), (73, I6 v9), (74, .bool true), (75, .bool true), (76, S1 n2), (77, I6 v9), (78, I6 (W6 (v9 - 1))), (79, .pe 2000000 1 (0 + Int.toNat (W6 (v9 - 1))) 0), (80, .int .u8 e52), (81, S1 n2), (82, I6 v37), (83, .pe 2000000 1 (0 + Int.toNat v37) 0), (84, .int .u8 e54), (85, .bool w55), O1 v46]) (by kernel_rfl) ?_
       refine WO.fin [0, 1, 2, 3, 8, 9, 10, 11, 87, 2000000] [] [] [] (e2 := [(0, S1 n2), (1, I6 v9), (2, I6 v10), (3, I6 v28), (8, .bool v47), (9, .bool v48), (10, I6 (W6 (v10 - v9))), (11, I6 v37), (87, .bool (!w55)), O1 v46]) (by kernel_rfl) (fun _ h => h) ?_
       exact hK50 (!w55) h
      replace h := cond_f hb h
      refine WO.fin [0, 1, 2, 3, 8, 9, 10, 11, 87, 2000000] [] [] [] (e2 := [(0, S1 n2), (1, I6 v9), (2, I6 v10), (3, I6 v28), (8, .bool v47), (9, .bool v48), (10, I6 (W6 (v10 - v9))), (11, I6 v37), (87, .bool false), O1 v46]) (by kernel_rfl) (fun _ h => h) ?_
      exact hK50 false h
     refine W.seq ?_
     refine W.join (σ := (Bool × Bool × Bool)) (fun s => [(0, S1 n2), (1, I6 v9), (2, I6 v10), (3, I6 v28), (8, .bool s.1), (9, .bool s.2.1), (10, I6 (W6 (v10 - v9))), (11, I6 v37), (68, .bool s.2.2), O1 v36]) (fun s => (sl_pdqsortOrdered_byte_j40 fuel n2 v9 v10 v36 (sl_pdqsortOrdered_byte_j39 fuel n2 v9 v10 v28 v37 (sl_pdqsortOrdered_byte fuel) (sl_pdqsortOrdered_byte_l1 fuel n2 (sl_pdqsortOrdered_byte fuel) m1))) s.1 s.2.1 s.2.2 = some r) (fun s h => ?_) (fun hK40 => ?_)
     ·obtain ⟨v41, v42, v43⟩ := s
      have h : (sl_pdqsortOrdered_byte_j40 fuel n2 v9 v10 v36 (sl_pdqsortOrdered_byte_j39 fuel n2 v9 v10 v28 v37 (sl_pdqsortOrdered_byte fuel) (sl_pdqsortOrdered_byte_l1 fuel n2 (sl_pdqsortOrdered_byte fuel) m1))) v41 v42 v43 = some r := h
      unfold sl_pdqsortOrdered_byte_j40 at h
      refine W.condB v43 (by kernel_rfl) (fun hb => ?_) (fun hb => ?_)
      ·replace h := cond_t hb h
       refine W.seq ?_
       refine W.region (by kernel_rfl) ?_
       obtain ⟨w45, hw45, h⟩ := bind_some h
       refine WO.callMK 3 [(2000000, 2000000)] [] (F := 115) (args := [S1 n2, I6 v9, I6 v10]) (hp := [O1 v36]) (hp2 := [(2000000, .obj 1000000005 1 (M8 w45.2))]) (r := .bool w45.1) (by kernel_rfl) (run_sl_partialInsertionSortOrdered_byte fuel v36 n2 v9 v10 w45 hw45) (e1 := [(0, S1 n2), (1, I6 v9), (2, I6 v10), (3, I6 v28), (8, .bool v41), (9, .bool v42), (10, I6 (W6 (v10 - v9))), (11, I6 v37), (68, .bool v43), (69, S1 n2), (70, I6 v9), (71, I6 v10), (72, .bool w45.1), (2000000, .obj 1000000005 1 (M8 w45.2))]) (by kernel_rfl) ?_
       refine WO.fin [0, 1, 2, 3, 8, 9, 10, 11, 72, 2000000] [] [] [] (e2 := [(0, S1 n2), (1, I6 v9), (2, I6 v10), (3, I6 v28), (8, .bool v41), (9, .bool v42), (10, I6 (W6 (v10 - v9))), (11, I6 v37), (72, .bool w45.1), (2000000, .obj 1000000005 1 (M8 w45.2))]) (by kernel_rfl) (fun _ h => h) ?_
       refine W.condB w45.1 (by kernel_rfl) (fun hb => ?_) (fun hb => ?_)
       ·replace h := cond_t hb h
        refine W.weak [2000000] [] [] [] (env' := [(2000000, .obj 1000000005 1 (M8 w45.2))]) (by kernel_rfl) ?_
        have hr : PostM Try.prog Try.f94 (.tup []) [(2000000, .obj 1000000005 1 (M8 w45.2))] .ret [(2000000, .obj 1000000005 1 (M8 w45.2))] := ⟨by kernel_rfl, by kernel_rfl⟩
        cases h
        exact W.ret hr
       replace h := cond_f hb h
       refine W.skip ?_
       refine W.weak [0, 1, 2, 3, 8, 9, 10, 11, 2000000] [] [] [] (env' := [(0, S1 n2), (1, I6 v9), (2, I6 v10), (3, I6 v28), (8, .bool v41), (9, .bool v42), (10, I6 (W6 (v10 - v9))), (11, I6 v37), (2000000, .obj 1000000005 1 (M8 w45.2))]) (by kernel_rfl) ?_
       exact hK39 (w45.2, v41, v42) h
      replace h := cond_f hb h
      refine W.skip ?_
      refine W.weak [0, 1, 2, 3, 8, 9, 10, 11, 2000000] [] [] [] (env' := [(0, S1 n2), (1, I6 v9), (2, I6 v10), (3, I6 v28), (8, .bool v41), (9, .bool v42), (10, I6 (W6 (v10 - v9))), (11, I6 v37), O1 v36]) (by kernel_rfl) ?_
      exact hK39 (v36, v41, v42) h
     refine W.region (by kernel_rfl) ?_
     refine WO.boolK 2 (fun b => [(0, S1 n2), (1, I6 v9), (2, I6 v10), (3, I6 v28), (8, .bool b), (9, .bool v13), (10, I6 (W6 (v10 - v9))), (11, I6 v37), (12, I6 v38), (61, .bool b), (62, .bool b), O1 v36]) v12 (by kernel_rfl) (fun hb => ?_) (fun hb => ?_)
     ·replace h := cond_t hb h
      refine WO.boolK 3 (fun b => [(0, S1 n2), (1, I6 v9), (2, I6 v10), (3, I6 v28), (8, .bool true), (9, .bool b), (10, I6 (W6 (v10 - v9))), (11, I6 v37), (12, I6 v38), (61, .bool true), (62, .bool true), (63, .bool b), (64, .bool b), (65, .bool b), O1 v36]) v13 (by kernel_rfl) (fun hb => ?_) (fun hb => ?_)
      ·replace h := cond_t hb h
       refine WO.fin [0, 1, 2, 3, 8, 9, 10, 11, 68, 2000000] [] [] [] (e2 := [(0, S1 n2), (1, I6 v9), (2, I6 v10), (3, I6 v28), (8, .bool true), (9, .bool true), (10, I6 (W6 (v10 - v9))), (11, I6 v37), (68, .bool (v38 == 1)), O1 v36]) (by kernel_rfl) (fun _ h => h) ?_
       exact hK40 (true, true, (v38 == 1)) h
      replace h := cond_f hb h
      refine WO.fin [0, 1, 2, 3, 8, 9, 10, 11, 68, 2000000] [] [] [] (e2 := [(0, S1 n2), (1, I6 v9), (2, I6 v10), (3, I6 v28), (8, .bool true), (9, .bool false), (10, I6 (W6 (v10 - v9))), (11, I6 v37), (68, .bool false), O1 v36]) (by kernel_rfl) (fun _ h => h) ?_
      exact hK40 (true, false, false) h
     replace h := cond_f hb h
     refine WO.fin [0, 1, 2, 3, 8, 9, 10, 11, 68, 2000000] [] [] [] (e2 := [(0, S1 n2), (1, I6 v9), (2, I6 v10), (3, I6 v28), (8, .bool false), (9, .bool v13), (10, I6 (W6 (v10 - v9))), (11, I6 v37), (68, .bool false), O1 v36]) (by kernel_rfl) (fun _ h => h) ?_
     exact hK40 (false, v13, false) h
    refine W.seq ?_
    refine W.regT [0, 1, 2, 3, 8, 9, 10, 11, 12, 50, 2000000] [] [] [] (e2 := [(0, S1 n2), (1, I6 v9), (2, I6 v10), (3, I6 v28), (8, .bool v12), (9, .bool v13), (10, I6 (W6 (v10 - v9))), (11, I6 w30.1), (12, I6 w30.2), (50, .bool (w30.2 == 2)), O1 v27]) (by kernel_rfl) (by kernel_rfl) (fun _ h => h) ?_
    refine W.condB (w30.2 == 2) (by kernel_rfl) (fun hb => ?_) (fun hb => ?_)
    ·replace h := cond_t hb h
     refine W.seq ?_
     refine W.region (by kernel_rfl) ?_
     obtain ⟨w34, hw34, h⟩ := bind_some h
     refine WO.callMK 3 [(2000000, 2000000)] [] (F := 114) (args := [S1 n2, I6 v9, I6 v10]) (hp := [O1 v27]) (hp2 := [O1 w34]) (r := .tup []) (by kernel_rfl) (run_sl_reverseRangeOrdered_byte fuel v27 n2 v9 v10 w34 hw34) (e1 := [(0, S1 n2), (1, I6 v9), (2, I6 v10), (3, I6 v28), (8, .bool v12), (9, .bool v13), (10, I6 (W6 (v10 - v9))), (11, I6 w30.1), (12, I6 w30.2), (50, .bool (w30.2 == 2)), (51, S1 n2), (52, I6 v9), (53, I6 v10), (54, .tup []), O1 w34]) (by kernel_rfl) ?_
     refine WO.fin [0, 1, 2, 3, 8, 9, 10, 11, 2000000] [] [] [] (e2 := [(0, S1 n2), (1, I6 v9), (2, I6 v10), (3, I6 v28), (8, .bool v12), (9, .bool v13), (10, I6 (W6 (v10 - v9))), (11, I6 w30.1), O1 w34]) (by kernel_rfl) (fun _ h => h) ?_
     refine W.seq ?_
     refine W.regT [0, 1, 2, 3, 8, 9, 10, 11, 2000000] [] [] [] (e2 := [(0, S1 n2), (1, I6 v9), (2, I6 v10), (3, I6 v28), (8, .bool v12), (9, .bool v13), (10, I6 (W6 (v10 - v9))), (11, I6 (W6 ((W6 (v10 - 1)) - (W6 (w30.1 - v9))))), O1 w34]) (by kernel_rfl) (by kernel_rfl) (fun _ h => h) ?_
     refine W.regT [0, 1, 2, 3, 8, 9, 10, 11, 12, 2000000] [] [] [] (e2 := [(0, S1 n2), (1, I6 v9), (2, I6 v10), (3, I6 v28), (8, .bool v12), (9, .bool v13), (10, I6 (W6 (v10 - v9))), (11, I6 (W6 ((W6 (v10 - 1)) - (W6 (w30.1 - v9))))), (12, .int .i64 1), O1 w34]) (by kernel_rfl) (by kernel_rfl) (fun _ h => h) ?_
     exact hK31 (w34, (W6 ((W6 (v10 - 1)) - (W6 (w30.1 - v9)))), 1) h
    replace h := cond_f hb h
    refine W.skip ?_
    refine W.weak [0, 1, 2, 3, 8, 9, 10, 11, 12, 2000000] [] [] [] (env' := [(0, S1 n2), (1, I6 v9), (2, I6 v10), (3, I6 v28), (8, .bool v12), (9, .bool v13), (10, I6 (W6 (v10 - v9))), (11, I6 w30.1), (12, I6 w30.2), O1 v27]) (by kernel_rfl) ?_
    exact hK31 (v27, w30.1, w30.2) h
   refine W.seq ?_
   refine W.regT [0, 1, 2, 3, 8, 9, 10, 35, 2000000] [] [] [] (e2 := [(0, S1 n2), (1, I6 v9), (2, I6 v10), (3, I6 v11), (8, .bool v12), (9, .bool v13), (10, I6 (W6 (v10 - v9))), (35, .bool (!v12)), O1 v8]) (by kernel_rfl) (by kernel_rfl) (fun _ h => h) ?_
   refine W.condB (!v12) (by kernel_rfl) (fun hb => ?_) (fun hb => ?_)
   ·replace h := cond_t hb h
    refine W.seq ?_
    refine W.region (by kernel_rfl) ?_
    obtain ⟨w26, hw26, h⟩ := bind_some h
    refine WO.callMK 3 [(2000000, 2000000)] [] (F := 112) (args := [S1 n2, I6 v9, I6 v10]) (hp := [O1 v8]) (hp2 := [O1 w26]) (r := .tup []) (by kernel_rfl) (run_sl_breakPatternsOrdered_byte fuel v8 n2 v9 v10 w26 hw26) (e1 := [(0, S1 n2), (1, I6 v9), (2, I6 v10), (3, I6 v11), (8, .bool v12), (9, .bool v13), (10, I6 (W6 (v10 - v9))), (35, .bool (!v12)), (36, S1 n2), (37, I6 v9), (38, I6 v10), (39, .tup []), O1 w26]) (by kernel_rfl) ?_
    refine WO.fin [0, 1, 2, 3, 8, 9, 10, 2000000] [] [] [] (e2 := [(0, S1 n2), (1, I6 v9), (2, I6 v10), (3, I6 v11), (8, .bool v12), (9, .bool v13), (10, I6 (W6 (v10 - v9))), O1 w26]) (by kernel_rfl) (fun _ h => h) ?_
    refine W.regT [0, 1, 2, 3, 8, 9, 10, 2000000] [] [] [] (e2 := [(0, S1 n2), (1, I6 v9), (2, I6 v10), (3, I6 (W6 (v11 - 1))), (8, .bool v12), (9, .bool v13), (10, I6 (W6 (v10 - v9))), O1 w26]) (by kernel_rfl) (by kernel_rfl) (fun _ h => h) ?_
    exact hK23 (w26, (W6 (v11 - 1))) h
   replace h := cond_f hb h
   refine W.skip ?_
   refine W.weak [0, 1, 2, 3, 8, 9, 10, 2000000] [] [] [] (env' := [(0, S1 n2), (1, I6 v9), (2, I6 v10), (3, I6 v11), (8, .bool v12), (9, .bool v13), (10, I6 (W6 (v10 - v9))), O1 v8]) (by kernel_rfl) ?_
   exact hK23 (v8, v11) h
def sl_Sort_byte (fuel : Nat) (a1 : (List Int)) (n2 : Nat) : Option (List Int) :=
 ((mb_Len (IntKind.wrap .u64 ((n2 : Nat) : Int))).bind fun w4 => ((sl_pdqsortOrdered_byte fuel a1 n2 0 ((n2 : Nat) : Int) w4).bind fun w5 => (some w5)))
theorem run_sl_Sort_byte (fuel : Nat) (a1 : (List Int)) (n2 : Nat) (r : (List Int)) (h : sl_Sort_byte fuel a1 n2 = some r) : Run Try.prog (.callM 78 [S1 n2] [O1 a1] (.tup []) [O1 r]) := by
 refine callM_of_W Try.func78 rfl (by kernel_rfl) (env0 := [(0, S1 n2), O1 a1]) (by kernel_rfl) ?_
 unfold sl_Sort_byte at h
 refine W.seq ?_
 refine W.regT [0, 2, 2000000] [] [] [] (e2 := [(0, S1 n2), (2, I6 ((n2 : Nat) : Int)), O1 a1]) (by kernel_rfl) (by kernel_rfl) (fun _ h => h) ?_
 refine W.region (by kernel_rfl) ?_
 obtain ⟨w4, hw4, h⟩ := bind_some h
 refine WO.callK 4 (F := 47) (l := [.int .u64 (IntKind.wrap .u64 ((n2 : Nat) : Int))]) (C := []) (r := I6 w4) (by kernel_rfl) (by kernel_rfl) (run_mb_Len (IntKind.wrap .u64 ((n2 : Nat) : Int)) w4 hw4) (e1 := [(0, S1 n2), (2, I6 ((n2 : Nat) : Int)), (5, S1 n2), (6, I6 ((n2 : Nat) : Int)), (7, I6 ((n2 : Nat) : Int)), (8, .int .u64 (IntKind.wrap .u64 ((n2 : Nat) : Int))), (9, I6 w4), O1 a1]) (by kernel_rfl) ?_
 obtain ⟨w5, hw5, h⟩ := bind_some h
 refine WO.callMK 0 [(2000000, 2000000)] [] (F := 94) (args := [S1 n2, .int .i64 0, I6 ((n2 : Nat) : Int), I6 w4]) (hp := [O1 a1]) (hp2 := [O1 w5]) (r := .tup []) (by kernel_rfl) (run_sl_pdqsortOrdered_byte fuel a1 n2 0 ((n2 : Nat) : Int) w4 w5 hw5) (e1 := [(0, S1 n2), (2, I6 ((n2 : Nat) : Int)), (5, S1 n2), (6, I6 ((n2 : Nat) : Int)), (7, I6 ((n2 : Nat) : Int)), (8, .int .u64 (IntKind.wrap .u64 ((n2 : Nat) : Int))), (9, I6 w4), (10, .tup []), O1 w5]) (by kernel_rfl) ?_
 refine WO.end0 (e2 := [(0, S1 n2), (2, I6 ((n2 : Nat) : Int)), (5, S1 n2), (6, I6 ((n2 : Nat) : Int)), (7, I6 ((n2 : Nat) : Int)), (8, .int .u64 (IntKind.wrap .u64 ((n2 : Nat) : Int))), (9, I6 w4), (10, .tup []), O1 w5]) (by kernel_rfl) ?_
 have hr : PostM Try.prog Try.f78 (.tup []) [O1 w5] .normal [(0, S1 n2), (2, I6 ((n2 : Nat) : Int)), (5, S1 n2), (6, I6 ((n2 : Nat) : Int)), (7, I6 ((n2 : Nat) : Int)), (8, .int .u64 (IntKind.wrap .u64 ((n2 : Nat) : Int))), (9, I6 w4), (10, .tup []), O1 w5] := ⟨by kernel_rfl, by kernel_rfl⟩
 cases h
 exact hr
end Go.AM
