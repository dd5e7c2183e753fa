/- s -/
import Derived.Test.YtoiejpkfpjingaaAWq
import Derived.Test.YtoiejpkfpjingaaChecked
import Derived.Test.YtoiejpkfpjingaaAAny
import Derived.Test.YtoiejpkfpjingaaAMap
import Derived.Test.YtoiejpkfpjingaaCDel
import Derived.Test.YtoiejpkfpjingaaEDan
import Derived.Test.YtoiejpkfpjingaaESnap
import Derived.Test.YtoiejpkfpjingaaSD1
set_option maxRecDepth 100000
set_option linter.unusedVariables false
set_option linter.unusedSimpArgs false
namespace Go.AM
open Go.Proofs
end Go.AM
namespace Go.AM
open Go.Proofs
def hs_Danger (fuel : Nat) (a1 : (List hsOp)) : Option ((List arr3_Int) × Int) := dangerP fuel a1
theorem run_hs_Danger (fuel : Nat) (a1 : (List hsOp)) (r : ((List arr3_Int) × Int)) (h : hs_Danger fuel a1 = some r) : Run Try.prog (.call 43 [l44 none a1] (.tup [l64 none r.1, I6 r.2])) := danger43 h
def lw5_HistorySafe_j14 (v16 : Bool) : Option Bool :=
 (some v16)
def lw5_HistorySafe_j19 (v21 : Bool) : Option Bool :=
 (some v21)
def lw5_HistorySafe_j22 (v25 : Bool) : Option Bool :=
 (some v25)
def lw5_HistorySafe (fuel : Nat) (a1 : (List rf5Op)) : Option Bool :=
 ((lw5_of a1).bind fun w4 => ((hs_Snapshot fuel w4).bind fun w5 => ((lw5_of a1).bind fun w7 => ((hs_SnapshotOrder fuel w7).bind fun w8 => ((lw5_of a1).bind fun w10 => ((hs_Danger fuel w10).bind fun w11 => (bif (w5.2 != 0) then (bif (w5.2 == 2) then (bif (w8.2 == 2) then (bif (w11.2 == 2) then ((lw5_awake fuel).bind fun w15 => ((lw5_HistorySafe_j14) w15)) else ((lw5_HistorySafe_j14) false)) else ((lw5_HistorySafe_j14) false)) else ((lw5_HistorySafe_j14) false)) else (bif (!w5.1) then (bif (w8.2 == 7) then (bif (w11.2 == 7) then ((lw5_awake fuel).bind fun w20 => ((lw5_HistorySafe_j19) w20)) else ((lw5_HistorySafe_j19) false)) else ((lw5_HistorySafe_j19) false)) else (bif (w11.2 == 0) then (bif (w8.2 == 0) then ((lw5_awake fuel).bind fun w23 => ((lw5_HistorySafe_j22) w23)) else (bif (w8.2 == 5) then (bif (decide ((w11.1.length : Int) > 0)) then ((lw5_awake fuel).bind fun w24 => ((lw5_HistorySafe_j22) w24)) else ((lw5_HistorySafe_j22) false)) else ((lw5_HistorySafe_j22) false))) else ((lw5_HistorySafe_j22) false))))))))))
theorem run_lw5_HistorySafe (fuel : Nat) (a1 : (List rf5Op)) (r : Bool) (h : lw5_HistorySafe fuel a1 = some r) : Run Try.prog (.call 15 [l43 none a1] (.bool r)) := by
 refine cW Try.func15 rfl (env0 := [(0, l43 none a1)]) ?_
 unfold lw5_HistorySafe at h
 refine W.seq ?_
 let z0 := fun t => EN ((0, l43 none a1) :: t)
 refine W.rt (e2 := z0 []) ?_
 refine W.seq ?_
 refine W.rg ?_
 obtain ⟨w4, hw4, h⟩ := bind_some h
 let z1 := fun t => z0 ((10, l43 none a1) :: (11, l44 (some 11) w4) :: t)
 refine WO.ck 1 (F := 18) (l := [l43 none a1]) (C := []) (r := l44 (some 1) w4) (run_lw5_of a1 w4 hw4) (e1 := z1 []) ?_
 obtain ⟨w5, hw5, h⟩ := bind_some h
 refine WO.ck 0 (F := 41) (l := [l44 none w4]) (C := []) (r := .tup [.bool w5.1, I6 w5.2]) (run_hs_Snapshot fuel w4 w5 hw5) (e1 := z1 [(12, .tup [.bool w5.1, I6 w5.2])]) ?_
 let z2 := fun t => z0 ((3, .bool w5.1) :: (4, I6 w5.2) :: t)
 refine WO.fn (e2 := z2 []) ?_
 refine W.seq ?_
 refine W.rg ?_
 obtain ⟨w7, hw7, h⟩ := bind_some h
 let z3 := fun t => z2 ((16, l43 none a1) :: (17, l44 (some 17) w7) :: t)
 refine WO.ck 1 (F := 18) (l := [l43 none a1]) (C := []) (r := l44 (some 1) w7) (run_lw5_of a1 w7 hw7) (e1 := z3 []) ?_
 obtain ⟨w8, hw8, h⟩ := bind_some h
 refine WO.ck 0 (F := 42) (l := [l44 none w7]) (C := []) (r := .tup [l3 none w8.1, I6 w8.2]) (run_hs_SnapshotOrder fuel w7 w8 hw8) (e1 := z3 [(18, .tup [l3 none w8.1, I6 w8.2])]) ?_
 refine WO.fn (e2 := z2 [(6, I6 w8.2)]) ?_
 refine W.seq ?_
 refine W.rg ?_
 obtain ⟨w10, hw10, h⟩ := bind_some h
 let z4 := fun t => z2 ((6, I6 w8.2) :: (22, l43 none a1) :: (23, l44 (some 23) w10) :: t)
 refine WO.ck 1 (F := 18) (l := [l43 none a1]) (C := []) (r := l44 (some 1) w10) (run_lw5_of a1 w10 hw10) (e1 := z4 []) ?_
 obtain ⟨w11, hw11, h⟩ := bind_some h
 refine WO.ck 0 (F := 43) (l := [l44 none w10]) (C := []) (r := .tup [l64 none w11.1, I6 w11.2]) (run_hs_Danger fuel w10 w11 hw11) (e1 := z4 [(24, .tup [l64 none w11.1, I6 w11.2])]) ?_
 let z5 := fun t => EN ((3, .bool w5.1) :: (4, I6 w5.2) :: (6, I6 w8.2) :: (7, l64 none w11.1) :: (8, I6 w11.2) :: t)
 refine WO.fn (e2 := z5 []) ?_
 refine W.seq ?_
 refine W.seq ?_
 let z6 := fun t => z5 ((28, .bool (w5.2 != 0)) :: t)
 refine W.rt (e2 := z6 []) ?_
 refine W.cb (w5.2 != 0) (fun hb => ?_) (fun hb => ?_)
 ·replace h := cond_t hb h
  refine W.seq ?_
  refine W.join (σ := (Bool)) (fun s => [(2, .bool s)]) (fun s => (lw5_HistorySafe_j14) s = some r) (fun s h => ?_) (fun hK14 => ?_)
  ·obtain ⟨v16, rfl⟩ : ∃ x, x = s := ⟨s, rfl⟩
   have h : (lw5_HistorySafe_j14) v16 = some r := h
   unfold lw5_HistorySafe_j14 at h
   refine W.wk (env' := [(2, .bool v16)]) ?_
   have hr : aresults Try.prog Try.f15 [(2, .bool v16)] = some (.bool v16) := by kernel_rfl
   cases h
   exact W.ret hr
  refine W.rg ?_
  let z7 := fun t => z6 ((29, I6 w5.2) :: t)
  refine WO.bk 3 (fun b => z7 [(30, .bool b), (31, .bool b)]) (w5.2 == 2) (fun hb => ?_) (fun hb => ?_)
  ·replace h := cond_t hb h
   let z8 := fun t => z7 ((30, .bool true) :: (31, .bool true) :: (32, I6 w8.2) :: t)
   refine WO.bk 4 (fun b => z8 [(33, .bool b), (34, .bool b), (35, .bool b)]) (w8.2 == 2) (fun hb => ?_) (fun hb => ?_)
   ·replace h := cond_t hb h
    let z9 := fun t => z8 ((33, .bool true) :: (34, .bool true) :: (35, .bool true) :: (36, I6 w11.2) :: t)
    refine WO.bk 4 (fun b => z9 [(37, .bool b), (38, .bool b), (39, .bool b)]) (w11.2 == 2) (fun hb => ?_) (fun hb => ?_)
    ·replace h := cond_t hb h
     obtain ⟨w15, hw15, h⟩ := bind_some h
     refine WO.ck 0 (F := 21) (l := []) (C := []) (r := .bool w15) (run_lw5_awake fuel w15 hw15) (e1 := z9 [(37, .bool true), (38, .bool true), (39, .bool true), (40, .bool w15)]) ?_
     refine WO.fn (e2 := [(2, .bool w15)]) ?_
     exact hK14 w15 h
    replace h := cond_f hb h
    refine WO.fn (e2 := [(2, .bool false)]) ?_
    exact hK14 false h
   replace h := cond_f hb h
   refine WO.fn (e2 := [(2, .bool false)]) ?_
   exact hK14 false h
  replace h := cond_f hb h
  refine WO.fn (e2 := [(2, .bool false)]) ?_
  exact hK14 false h
 replace h := cond_f hb h
 refine W.skip ?_
 refine W.wk (env' := [(3, .bool w5.1), (6, I6 w8.2), (7, l64 none w11.1), (8, I6 w11.2)]) ?_
 refine W.seq ?_
 refine W.seq ?_
 let z10 := fun t => EN ((6, I6 w8.2) :: (7, l64 none w11.1) :: (8, I6 w11.2) :: t)
 let z11 := fun t => z10 ((43, .bool (!w5.1)) :: t)
 refine W.rt (e2 := z11 []) ?_
 refine W.cb (!w5.1) (fun hb => ?_) (fun hb => ?_)
 ·replace h := cond_t hb h
  refine W.seq ?_
  refine W.join (σ := (Bool)) (fun s => [(2, .bool s)]) (fun s => (lw5_HistorySafe_j19) s = some r) (fun s h => ?_) (fun hK19 => ?_)
  ·obtain ⟨v21, rfl⟩ : ∃ x, x = s := ⟨s, rfl⟩
   have h : (lw5_HistorySafe_j19) v21 = some r := h
   unfold lw5_HistorySafe_j19 at h
   refine W.wk (env' := [(2, .bool v21)]) ?_
   have hr : aresults Try.prog Try.f15 [(2, .bool v21)] = some (.bool v21) := by kernel_rfl
   cases h
   exact W.ret hr
  refine W.rg ?_
  refine WO.bk 3 (fun b => z11 [(44, I6 w8.2), (45, .bool b), (46, .bool b)]) (w8.2 == 7) (fun hb => ?_) (fun hb => ?_)
  ·replace h := cond_t hb h
   let z12 := fun t => z11 ((44, I6 w8.2) :: (45, .bool true) :: (46, .bool true) :: (47, I6 w11.2) :: t)
   refine WO.bk 4 (fun b => z12 [(48, .bool b), (49, .bool b), (50, .bool b)]) (w11.2 == 7) (fun hb => ?_) (fun hb => ?_)
   ·replace h := cond_t hb h
    obtain ⟨w20, hw20, h⟩ := bind_some h
    refine WO.ck 0 (F := 21) (l := []) (C := []) (r := .bool w20) (run_lw5_awake fuel w20 hw20) (e1 := z12 [(48, .bool true), (49, .bool true), (50, .bool true), (51, .bool w20)]) ?_
    refine WO.fn (e2 := [(2, .bool w20)]) ?_
    exact hK19 w20 h
   replace h := cond_f hb h
   refine WO.fn (e2 := [(2, .bool false)]) ?_
   exact hK19 false h
  replace h := cond_f hb h
  refine WO.fn (e2 := [(2, .bool false)]) ?_
  exact hK19 false h
 replace h := cond_f hb h
 refine W.skip ?_
 refine W.wk (env' := z10 []) ?_
 refine W.seq ?_
 refine W.join (σ := (Bool)) (fun s => [(2, .bool s)]) (fun s => (lw5_HistorySafe_j22) s = some r) (fun s h => ?_) (fun hK22 => ?_)
 ·obtain ⟨v25, rfl⟩ : ∃ x, x = s := ⟨s, rfl⟩
  have h : (lw5_HistorySafe_j22) v25 = some r := h
  unfold lw5_HistorySafe_j22 at h
  refine W.wk (env' := [(2, .bool v25)]) ?_
  have hr : aresults Try.prog Try.f15 [(2, .bool v25)] = some (.bool v25) := by kernel_rfl
  cases h
  exact W.ret hr
 refine W.rg ?_
 let z13 := fun t => z10 ((53, I6 w11.2) :: t)
 refine WO.bk 3 (fun b => z13 [(54, .bool b), (55, .bool b)]) (w11.2 == 0) (fun hb => ?_) (fun hb => ?_)
 ·replace h := cond_t hb h
  let z14 := fun t => z13 ((54, .bool true) :: (55, .bool true) :: (56, I6 w8.2) :: t)
  refine WO.bk 3 (fun b => z14 [(57, .bool b), (58, .bool b)]) (w8.2 == 0) (fun hb => ?_) (fun hb => ?_)
  ·replace h := cond_t hb h
   obtain ⟨w23, hw23, h⟩ := bind_some h
   refine WO.ck 10 (F := 21) (l := []) (C := []) (r := .bool w23) (run_lw5_awake fuel w23 hw23) (e1 := z14 [(57, .bool true), (58, .bool true), (59, .und), (60, .und), (61, .und), (62, .und), (63, .und), (64, .und), (65, .und), (66, .bool true), (67, .bool true), (68, .bool true), (69, .bool w23)]) ?_
   refine WO.fn (e2 := [(2, .bool w23)]) ?_
   exact hK22 w23 h
  replace h := cond_f hb h
  let z15 := fun t => z14 ((57, .bool false) :: (58, .bool false) :: (59, I6 w8.2) :: t)
  refine WO.bk 3 (fun b => z15 [(60, .bool b), (61, .bool b)]) (w8.2 == 5) (fun hb => ?_) (fun hb => ?_)
  ·replace h := cond_t hb h
   let z16 := fun t => z15 ((60, .bool true) :: (61, .bool true) :: (62, l64 none w11.1) :: (63, I6 (w11.1.length : Int)) :: t)
   refine WO.pk 1 (some (I6 ((List.map e_arr3_Int w11.1).length : Int))) (v := I6 (w11.1.length : Int)) (by rw [List.length_map]) (e1 := z16 []) ?_
   refine WO.bk 5 (fun b => z16 [(64, .bool b), (65, .bool b), (66, .bool b), (67, .bool b), (68, .bool b)]) (decide ((w11.1.length : Int) > 0)) (fun hb => ?_) (fun hb => ?_)
   ·replace h := cond_t hb h
    obtain ⟨w24, hw24, h⟩ := bind_some h
    refine WO.ck 0 (F := 21) (l := []) (C := []) (r := .bool w24) (run_lw5_awake fuel w24 hw24) (e1 := z16 [(64, .bool true), (65, .bool true), (66, .bool true), (67, .bool true), (68, .bool true), (69, .bool w24)]) ?_
    refine WO.fn (e2 := [(2, .bool w24)]) ?_
    exact hK22 w24 h
   replace h := cond_f hb h
   refine WO.fn (e2 := [(2, .bool false)]) ?_
   exact hK22 false h
  replace h := cond_f hb h
  refine WO.fn (e2 := [(2, .bool false)]) ?_
  exact hK22 false h
 replace h := cond_f hb h
 refine WO.fn (e2 := [(2, .bool false)]) ?_
 exact hK22 false h
end Go.AM
