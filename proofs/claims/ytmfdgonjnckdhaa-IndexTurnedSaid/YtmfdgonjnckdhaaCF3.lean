/- s -/
import Derived.Test.YtmfdgonjnckdhaaCF2
set_option maxRecDepth 100000
set_option linter.unusedVariables false
set_option linter.unusedSimpArgs false
namespace Go.AM
open Go.Proofs
def lw4_IndexTurned_j15 (v18 : Bool) : Option Bool :=
 (some v18)
def lw4_IndexTurned_j34 (v36 : Bool) : Option Bool :=
 (some v36)
def lw4_IndexTurned_j13 (fuel : Nat) (w5 : ByteArray) (w6 : ByteArray) (w8 : ((Option ixIndex) × Int)) (w11 : ((Option ixIndex) × Int)) (v14 : Bool) : Option Bool :=
 (bif v14 then (bif (w8.2 == 2) then (bif (w11.2 == 2) then ((rf4_Label w5).bind fun w16 => (bif (!w16) then ((lw4_awake).bind fun w17 => ((lw4_IndexTurned_j15) w17)) else ((lw4_IndexTurned_j15) false))) else ((lw4_IndexTurned_j15) false)) else ((lw4_IndexTurned_j15) false)) else ((ix_Distinct fuel w5).bind fun w20 => ((lw4_turned fuel w5).bind fun w22 => ((ix_Distinct fuel w22).bind fun w23 => ((ix_Longest fuel w5).bind fun w25 => ((lw4_turned fuel w5).bind fun w27 => ((ix_Longest fuel w27).bind fun w28 => ((ix_Index_Count fuel w8.1 w6).bind fun w30 => ((lw4_turned fuel w6).bind fun w32 => ((ix_Index_Count fuel w11.1 w32).bind fun w33 => (bif (w20.1 == w23.1) then (bif (w20.2 == 0) then (bif (w23.2 == 0) then (bif ((w25.1.size : Int) == (w28.1.size : Int)) then (bif (w25.2 == w28.2) then (bif (w30.1 == w33.1) then (bif (w30.2 == w33.2) then ((lw4_awake).bind fun w35 => ((lw4_IndexTurned_j34) w35)) else ((lw4_IndexTurned_j34) false)) else ((lw4_IndexTurned_j34) false)) else ((lw4_IndexTurned_j34) false)) else ((lw4_IndexTurned_j34) false)) else ((lw4_IndexTurned_j34) false)) else ((lw4_IndexTurned_j34) false)) else ((lw4_IndexTurned_j34) false))))))))))))
def lw4_IndexTurned (fuel : Nat) (a1 : ByteArray) (a2 : ByteArray) : Option Bool :=
 ((lw4_few a1).bind fun w5 => ((lw4_few a2).bind fun w6 => ((ix_New fuel w5).bind fun w8 => ((lw4_turned fuel w5).bind fun w10 => ((ix_New fuel w10).bind fun w11 => (bif (w8.2 != 0) then ((lw4_IndexTurned_j13 fuel w5 w6 w8 w11) true) else ((lw4_IndexTurned_j13 fuel w5 w6 w8 w11) (w11.2 != 0))))))))
theorem run_lw4_IndexTurned (fuel : Nat) (a1 : ByteArray) (a2 : ByteArray) (r : Bool) (h : lw4_IndexTurned fuel a1 a2 = some r) : Run Try.prog (.call 11 [.str a1, .str a2] (.bool r)) := by
 refine cW Try.func11 rfl (env0 := [(0, .str a1), (1, .str a2)]) ?_
 unfold lw4_IndexTurned at h
 refine W.seq ?_
 let z0 := fun t => EN ((0, .str a1) :: (1, .str a2) :: t)
 refine W.rt (e2 := z0 []) ?_
 refine W.seq ?_
 refine W.rg ?_
 obtain ⟨w5, hw5, h⟩ := bind_some h
 refine WO.ck 1 (F := 14) (l := [.str a1]) (C := []) (r := .str w5) (run_lw4_few a1 w5 hw5) (e1 := z0 [(19, .str a1), (20, .str w5)]) ?_
 obtain ⟨w6, hw6, h⟩ := bind_some h
 refine WO.ck 1 (F := 14) (l := [.str a2]) (C := []) (r := .str w6) (run_lw4_few a2 w6 hw6) (e1 := z0 [(19, .str a1), (20, .str w5), (21, .str a2), (22, .str w6)]) ?_
 let z1 := fun t => EN ((0, .str w5) :: (1, .str w6) :: t)
 refine WO.fn (e2 := z1 []) ?_
 refine W.seq ?_
 refine W.rg ?_
 obtain ⟨w8, hw8, h⟩ := bind_some h
 refine WO.ck 1 (F := 36) (l := [.str w5]) (C := []) (r := .tup [ep e_ixIndex w8.1, I6 w8.2]) (run_ix_New fuel w5 w8 hw8) (e1 := z1 [(24, .str w5), (25, .tup [ep e_ixIndex w8.1, I6 w8.2])]) ?_
 let z2 := fun t => z1 ((5, ep e_ixIndex w8.1) :: t)
 let z3 := fun t => z2 ((6, I6 w8.2) :: t)
 refine WO.fn (e2 := z3 []) ?_
 refine W.seq ?_
 refine W.rg ?_
 obtain ⟨w10, hw10, h⟩ := bind_some h
 refine WO.ck 1 (F := 39) (l := [.str w5]) (C := []) (r := .str w10) (run_lw4_turned fuel w5 w10 hw10) (e1 := z3 [(29, .str w5), (30, .str w10)]) ?_
 obtain ⟨w11, hw11, h⟩ := bind_some h
 refine WO.ck 0 (F := 36) (l := [.str w10]) (C := []) (r := .tup [ep e_ixIndex w11.1, I6 w11.2]) (run_ix_New fuel w10 w11 hw11) (e1 := z3 [(29, .str w5), (30, .str w10), (31, .tup [ep e_ixIndex w11.1, I6 w11.2])]) ?_
 let z4 := fun t => z3 ((7, ep e_ixIndex w11.1) :: (8, I6 w11.2) :: t)
 refine WO.fn (e2 := z4 []) ?_
 refine W.seq ?_
 refine W.seq ?_
 refine W.join (σ := (Bool)) (fun s => z4 [(39, .bool s)]) (fun s => (lw4_IndexTurned_j13 fuel w5 w6 w8 w11) s = some r) (fun s h => ?_) (fun hK13 => ?_)
 ·obtain ⟨v14, rfl⟩ : ∃ x, x = s := ⟨s, rfl⟩
  have h : (lw4_IndexTurned_j13 fuel w5 w6 w8 w11) v14 = some r := h
  unfold lw4_IndexTurned_j13 at h
  refine W.cb v14 (fun hb => ?_) (fun hb => ?_)
  ·replace h := cond_t hb h
   refine W.seq ?_
   refine W.join (σ := (Bool)) (fun s => [(4, .bool s)]) (fun s => (lw4_IndexTurned_j15) s = some r) (fun s h => ?_) (fun hK15 => ?_)
   ·obtain ⟨v18, rfl⟩ : ∃ x, x = s := ⟨s, rfl⟩
    have h : (lw4_IndexTurned_j15) v18 = some r := h
    unfold lw4_IndexTurned_j15 at h
    refine W.wk (env' := [(4, .bool v18)]) ?_
    have hr : aresults Try.prog Try.f11 [(4, .bool v18)] = some (.bool v18) := by kernel_rfl
    cases h
    exact W.ret hr
   refine W.rg ?_
   let z5 := fun t => z4 ((39, .bool v14) :: (40, I6 w8.2) :: t)
   refine WO.bk 3 (fun b => z5 [(41, .bool b), (42, .bool b)]) (w8.2 == 2) (fun hb => ?_) (fun hb => ?_)
   ·replace h := cond_t hb h
    let z6 := fun t => z5 ((41, .bool true) :: (42, .bool true) :: (43, I6 w11.2) :: t)
    refine WO.bk 4 (fun b => z6 [(44, .bool b), (45, .bool b), (46, .bool b)]) (w11.2 == 2) (fun hb => ?_) (fun hb => ?_)
    ·replace h := cond_t hb h
     obtain ⟨w16, hw16, h⟩ := bind_some h
     let z7 := fun t => z6 ((44, .bool true) :: (45, .bool true) :: (46, .bool true) :: (47, .str w5) :: (48, .bool w16) :: t)
     refine WO.ck 1 (F := 17) (l := [.str w5]) (C := []) (r := .bool w16) (run_rf4_Label w5 w16 hw16) (e1 := z7 []) ?_
     refine WO.bk 3 (fun b => z7 [(49, .bool b), (50, .bool b), (51, .bool b)]) (!w16) (fun hb => ?_) (fun hb => ?_)
     ·replace h := cond_t hb h
      obtain ⟨w17, hw17, h⟩ := bind_some h
      refine WO.ck 0 (F := 18) (l := []) (C := []) (r := .bool w17) (run_lw4_awake w17 hw17) (e1 := z7 [(49, .bool true), (50, .bool true), (51, .bool true), (52, .bool w17)]) ?_
      refine WO.fn (e2 := [(4, .bool w17)]) ?_
      exact hK15 w17 h
     replace h := cond_f hb h
     refine WO.fn (e2 := [(4, .bool false)]) ?_
     exact hK15 false h
    replace h := cond_f hb h
    refine WO.fn (e2 := [(4, .bool false)]) ?_
    exact hK15 false h
   replace h := cond_f hb h
   refine WO.fn (e2 := [(4, .bool false)]) ?_
   exact hK15 false h
  replace h := cond_f hb h
  refine W.skip ?_
  refine W.wk (env' := z2 [(7, ep e_ixIndex w11.1)]) ?_
  refine W.seq ?_
  refine W.rg ?_
  obtain ⟨w20, hw20, h⟩ := bind_some h
  refine WO.ck 1 (F := 26) (l := [.str w5]) (C := []) (r := .tup [I6 w20.1, I6 w20.2]) (run_ix_Distinct fuel w5 w20 hw20) (e1 := z2 [(7, ep e_ixIndex w11.1), (55, .str w5), (56, .tup [I6 w20.1, I6 w20.2])]) ?_
  let z8 := fun t => z2 ((6, I6 w20.2) :: (7, ep e_ixIndex w11.1) :: t)
  refine WO.fn (e2 := z8 [(9, I6 w20.1)]) ?_
  refine W.seq ?_
  refine W.rg ?_
  obtain ⟨w22, hw22, h⟩ := bind_some h
  let z9 := fun t => z8 ((9, I6 w20.1) :: (60, .str w5) :: (61, .str w22) :: t)
  refine WO.ck 1 (F := 39) (l := [.str w5]) (C := []) (r := .str w22) (run_lw4_turned fuel w5 w22 hw22) (e1 := z9 []) ?_
  obtain ⟨w23, hw23, h⟩ := bind_some h
  refine WO.ck 0 (F := 26) (l := [.str w22]) (C := []) (r := .tup [I6 w23.1, I6 w23.2]) (run_ix_Distinct fuel w22 w23 hw23) (e1 := z9 [(62, .tup [I6 w23.1, I6 w23.2])]) ?_
  let z10 := fun t => z8 ((8, I6 w23.2) :: (9, I6 w20.1) :: (10, I6 w23.1) :: t)
  refine WO.fn (e2 := z10 []) ?_
  refine W.seq ?_
  refine W.rg ?_
  obtain ⟨w25, hw25, h⟩ := bind_some h
  refine WO.ck 1 (F := 24) (l := [.str w5]) (C := []) (r := .tup [.str w25.1, I6 w25.2]) (run_ix_Longest fuel w5 w25 hw25) (e1 := z10 [(66, .str w5), (67, .tup [.str w25.1, I6 w25.2])]) ?_
  let z11 := fun t => z10 ((11, .str w25.1) :: (12, I6 w25.2) :: t)
  refine WO.fn (e2 := z11 []) ?_
  refine W.seq ?_
  refine W.rg ?_
  obtain ⟨w27, hw27, h⟩ := bind_some h
  refine WO.ck 1 (F := 39) (l := [.str w5]) (C := []) (r := .str w27) (run_lw4_turned fuel w5 w27 hw27) (e1 := z11 [(71, .str w5), (72, .str w27)]) ?_
  obtain ⟨w28, hw28, h⟩ := bind_some h
  refine WO.ck 0 (F := 24) (l := [.str w27]) (C := []) (r := .tup [.str w28.1, I6 w28.2]) (run_ix_Longest fuel w27 w28 hw28) (e1 := z11 [(71, .str w5), (72, .str w27), (73, .tup [.str w28.1, I6 w28.2])]) ?_
  let z12 := fun t => EN ((1, .str w6) :: (5, ep e_ixIndex w8.1) :: (6, I6 w20.2) :: (7, ep e_ixIndex w11.1) :: (8, I6 w23.2) :: (9, I6 w20.1) :: (10, I6 w23.1) :: (11, .str w25.1) :: (12, I6 w25.2) :: (13, .str w28.1) :: (14, I6 w28.2) :: t)
  refine WO.fn (e2 := z12 []) ?_
  refine W.seq ?_
  refine W.rg ?_
  obtain ⟨w30, hw30, h⟩ := bind_some h
  refine WO.ck 2 (F := 32) (l := [ep e_ixIndex w8.1, .str w6]) (C := []) (r := .tup [I6 w30.1, I6 w30.2]) (run_ix_Index_Count fuel w8.1 w6 w30 hw30) (e1 := z12 [(77, ep e_ixIndex w8.1), (78, .str w6), (79, .tup [I6 w30.1, I6 w30.2])]) ?_
  let z13 := fun t => EN ((1, .str w6) :: (6, I6 w20.2) :: (7, ep e_ixIndex w11.1) :: (8, I6 w23.2) :: (9, I6 w20.1) :: (10, I6 w23.1) :: (11, .str w25.1) :: (12, I6 w25.2) :: (13, .str w28.1) :: (14, I6 w28.2) :: (15, I6 w30.1) :: (16, I6 w30.2) :: t)
  refine WO.fn (e2 := z13 []) ?_
  refine W.seq ?_
  refine W.rg ?_
  obtain ⟨w32, hw32, h⟩ := bind_some h
  let z14 := fun t => z13 ((83, ep e_ixIndex w11.1) :: (84, .str w6) :: (85, .str w32) :: t)
  refine WO.ck 2 (F := 39) (l := [.str w6]) (C := []) (r := .str w32) (run_lw4_turned fuel w6 w32 hw32) (e1 := z14 []) ?_
  obtain ⟨w33, hw33, h⟩ := bind_some h
  refine WO.ck 0 (F := 32) (l := [ep e_ixIndex w11.1, .str w32]) (C := []) (r := .tup [I6 w33.1, I6 w33.2]) (run_ix_Index_Count fuel w11.1 w32 w33 hw33) (e1 := z14 [(86, .tup [I6 w33.1, I6 w33.2])]) ?_
  let z15 := fun t => EN ((6, I6 w20.2) :: (8, I6 w23.2) :: (9, I6 w20.1) :: (10, I6 w23.1) :: (11, .str w25.1) :: (12, I6 w25.2) :: (13, .str w28.1) :: (14, I6 w28.2) :: (15, I6 w30.1) :: (16, I6 w30.2) :: (17, I6 w33.1) :: (18, I6 w33.2) :: t)
  refine WO.fn (e2 := z15 []) ?_
  refine W.seq ?_
  refine W.join (σ := (Bool)) (fun s => [(4, .bool s)]) (fun s => (lw4_IndexTurned_j34) s = some r) (fun s h => ?_) (fun hK34 => ?_)
  ·obtain ⟨v36, rfl⟩ : ∃ x, x = s := ⟨s, rfl⟩
   have h : (lw4_IndexTurned_j34) v36 = some r := h
   unfold lw4_IndexTurned_j34 at h
   refine W.wk (env' := [(4, .bool v36)]) ?_
   have hr : aresults Try.prog Try.f11 [(4, .bool v36)] = some (.bool v36) := by kernel_rfl
   cases h
   exact W.ret hr
  refine W.rg ?_
  let z16 := fun t => z15 ((89, I6 w20.1) :: (90, I6 w23.1) :: t)
  refine WO.bk 4 (fun b => z16 [(91, .bool b), (92, .bool b)]) (w20.1 == w23.1) (fun hb => ?_) (fun hb => ?_)
  ·replace h := cond_t hb h
   let z17 := fun t => z16 ((91, .bool true) :: (92, .bool true) :: (93, I6 w20.2) :: t)
   refine WO.bk 4 (fun b => z17 [(94, .bool b), (95, .bool b), (96, .bool b)]) (w20.2 == 0) (fun hb => ?_) (fun hb => ?_)
   ·replace h := cond_t hb h
    let z18 := fun t => z17 ((94, .bool true) :: (95, .bool true) :: (96, .bool true) :: (97, I6 w23.2) :: t)
    refine WO.bk 4 (fun b => z18 [(98, .bool b), (99, .bool b), (100, .bool b)]) (w23.2 == 0) (fun hb => ?_) (fun hb => ?_)
    ·replace h := cond_t hb h
     let z19 := fun t => z18 ((98, .bool true) :: (99, .bool true) :: (100, .bool true) :: (101, .str w25.1) :: (102, I6 (w25.1.size : Int)) :: (103, .str w28.1) :: (104, I6 (w28.1.size : Int)) :: t)
     refine WO.bk 7 (fun b => z19 [(105, .bool b), (106, .bool b), (107, .bool b)]) ((w25.1.size : Int) == (w28.1.size : Int)) (fun hb => ?_) (fun hb => ?_)
     ·replace h := cond_t hb h
      let z20 := fun t => z19 ((105, .bool true) :: (106, .bool true) :: (107, .bool true) :: (108, I6 w25.2) :: (109, I6 w28.2) :: t)
      refine WO.bk 5 (fun b => z20 [(110, .bool b), (111, .bool b), (112, .bool b)]) (w25.2 == w28.2) (fun hb => ?_) (fun hb => ?_)
      ·replace h := cond_t hb h
       let z21 := fun t => z20 ((110, .bool true) :: (111, .bool true) :: (112, .bool true) :: (113, I6 w30.1) :: (114, I6 w33.1) :: t)
       refine WO.bk 5 (fun b => z21 [(115, .bool b), (116, .bool b), (117, .bool b)]) (w30.1 == w33.1) (fun hb => ?_) (fun hb => ?_)
       ·replace h := cond_t hb h
        let z22 := fun t => z21 ((115, .bool true) :: (116, .bool true) :: (117, .bool true) :: (118, I6 w30.2) :: (119, I6 w33.2) :: t)
        refine WO.bk 5 (fun b => z22 [(120, .bool b), (121, .bool b), (122, .bool b)]) (w30.2 == w33.2) (fun hb => ?_) (fun hb => ?_)
        ·replace h := cond_t hb h
         obtain ⟨w35, hw35, h⟩ := bind_some h
         refine WO.ck 0 (F := 18) (l := []) (C := []) (r := .bool w35) (run_lw4_awake w35 hw35) (e1 := z22 [(120, .bool true), (121, .bool true), (122, .bool true), (123, .bool w35)]) ?_
         refine WO.fn (e2 := [(4, .bool w35)]) ?_
         exact hK34 w35 h
        replace h := cond_f hb h
        refine WO.fn (e2 := [(4, .bool false)]) ?_
        exact hK34 false h
       replace h := cond_f hb h
       refine WO.fn (e2 := [(4, .bool false)]) ?_
       exact hK34 false h
      replace h := cond_f hb h
      refine WO.fn (e2 := [(4, .bool false)]) ?_
      exact hK34 false h
     replace h := cond_f hb h
     refine WO.fn (e2 := [(4, .bool false)]) ?_
     exact hK34 false h
    replace h := cond_f hb h
    refine WO.fn (e2 := [(4, .bool false)]) ?_
    exact hK34 false h
   replace h := cond_f hb h
   refine WO.fn (e2 := [(4, .bool false)]) ?_
   exact hK34 false h
  replace h := cond_f hb h
  refine WO.fn (e2 := [(4, .bool false)]) ?_
  exact hK34 false h
 refine W.rg ?_
 refine WO.bk 3 (fun b => z4 [(34, I6 w8.2), (35, .bool b), (36, .bool b)]) (w8.2 != 0) (fun hb => ?_) (fun hb => ?_)
 ·replace h := cond_t hb h
  refine WO.fn (e2 := z4 [(39, .bool true)]) ?_
  exact hK13 true h
 replace h := cond_f hb h
 refine WO.fn (e2 := z4 [(39, .bool (w11.2 != 0))]) ?_
 exact hK13 (w11.2 != 0) h
end Go.AM
