/- s -/
import Derived.Test.YtmfdgonjnckdhaaDoorDRT
set_option maxRecDepth 100000
set_option linter.unusedVariables false
set_option linter.unusedSimpArgs false
namespace Go.AM
open Go.Proofs
def rf4_Back (fuel : Nat) (a1 : ByteArray) : Option (ByteArray × Int) := refBackP fuel a1.data.toList
theorem run_rf4_Back (fuel : Nat) (a1 : ByteArray) (r : (ByteArray × Int)) (h : rf4_Back fuel a1 = some r) : Run Tryd.prog (.call 10 [.str a1] (.tup [.str r.1, I6 r.2])) := .ext0 (by have e := refBack10 (show refBackP fuel a1.data.toList = some r from h); simpa using e)
def lw4_IndexTransforms_j21 (v22 : Bool) : Option Bool :=
 (some v22)
def lw4_IndexTransforms_j23 (v25 : Bool) : Option Bool :=
 (some v25)
def lw4_IndexTransforms_j14 (fuel : Nat) (w5 : ByteArray) (w8 : (ByteArray × Int)) (v16 : Bool) : Option Bool :=
 (bif v16 then (some false) else ((rf4_Label w5).bind fun w20 => (bif (!w20) then (bif (w8.1.toList == (ByteArray.mk #[]).toList) then ((lw4_IndexTransforms_j21) (w8.2 == 2)) else ((lw4_IndexTransforms_j21) false)) else ((rf4_Transform fuel w5).bind fun w24 => (bif (w8.1.toList == w24.toList) then ((lw4_IndexTransforms_j23) (w8.2 == 0)) else ((lw4_IndexTransforms_j23) false))))))
def lw4_IndexTransforms (fuel : Nat) (a1 : ByteArray) (a2 : ByteArray) : Option Bool :=
 ((lw4_few a1).bind fun w5 => ((lw4_few a2).bind fun w6 => ((ix_Transform w5).bind fun w8 => ((ix_Back fuel w6).bind fun w10 => ((rf4_Back fuel w6).bind fun w12 => (bif (!(w10.1.toList == w12.1.toList)) then ((lw4_IndexTransforms_j14 fuel w5 w8) true) else (bif (w10.2 != w12.2) then ((lw4_IndexTransforms_j14 fuel w5 w8) true) else ((lw4_awake).bind fun w15 => ((lw4_IndexTransforms_j14 fuel w5 w8) (!w15))))))))))
theorem run_lw4_IndexTransforms (fuel : Nat) (a1 : ByteArray) (a2 : ByteArray) (r : Bool) (h : lw4_IndexTransforms fuel a1 a2 = some r) : Run Tryd.prog (.call 3 [.str a1, .str a2] (.bool r)) := by
 refine cW Tryd.func3 rfl (env0 := [(0, .str a1), (1, .str a2)]) ?_
 unfold lw4_IndexTransforms at h
 refine W.seq ?_
 let z0 := fun t => EN ((0, .str a1) :: (1, .str a2) :: t)
 refine W.rt (e2 := z0 []) ?_
 refine W.seq ?_
 refine W.rg ?_
 obtain ⟨w5, hw5, h⟩ := bind_some h
 refine WO.ck 1 (F := 7) (l := [.str a1]) (C := []) (r := .str w5) (run_lw4_few a1 w5 hw5) (e1 := z0 [(11, .str a1), (12, .str w5)]) ?_
 obtain ⟨w6, hw6, h⟩ := bind_some h
 refine WO.ck 1 (F := 7) (l := [.str a2]) (C := []) (r := .str w6) (run_lw4_few a2 w6 hw6) (e1 := z0 [(11, .str a1), (12, .str w5), (13, .str a2), (14, .str w6)]) ?_
 let z1 := fun t => EN ((0, .str w5) :: t)
 let z2 := fun t => z1 ((1, .str w6) :: t)
 refine WO.fn (e2 := z2 []) ?_
 refine W.seq ?_
 refine W.rg ?_
 obtain ⟨w8, hw8, h⟩ := bind_some h
 refine WO.ck 1 (F := 8) (l := [.str w5]) (C := []) (r := .tup [.str w8.1, I6 w8.2]) (run_ix_Transform w5 w8 hw8) (e1 := z2 [(16, .str w5), (17, .tup [.str w8.1, I6 w8.2])]) ?_
 let z3 := fun t => z2 ((5, .str w8.1) :: (6, I6 w8.2) :: t)
 refine WO.fn (e2 := z3 []) ?_
 refine W.seq ?_
 refine W.rg ?_
 obtain ⟨w10, hw10, h⟩ := bind_some h
 refine WO.ck 1 (F := 9) (l := [.str w6]) (C := []) (r := .tup [.str w10.1, I6 w10.2]) (run_ix_Back fuel w6 w10 hw10) (e1 := z3 [(21, .str w6), (22, .tup [.str w10.1, I6 w10.2])]) ?_
 refine WO.fn (e2 := z3 [(7, .str w10.1), (8, I6 w10.2)]) ?_
 refine W.seq ?_
 refine W.rg ?_
 obtain ⟨w12, hw12, h⟩ := bind_some h
 refine WO.ck 1 (F := 10) (l := [.str w6]) (C := []) (r := .tup [.str w12.1, I6 w12.2]) (run_rf4_Back fuel w6 w12 hw12) (e1 := z3 [(7, .str w10.1), (8, I6 w10.2), (26, .str w6), (27, .tup [.str w12.1, I6 w12.2])]) ?_
 let z4 := fun t => z1 ((5, .str w8.1) :: (6, I6 w8.2) :: t)
 let z5 := fun t => z4 ((7, .str w10.1) :: (8, I6 w10.2) :: (9, .str w12.1) :: (10, I6 w12.2) :: t)
 refine WO.fn (e2 := z5 []) ?_
 refine W.seq ?_
 refine W.seq ?_
 refine W.join (σ := (Bool)) (fun s => z4 [(41, .bool s)]) (fun s => (lw4_IndexTransforms_j14 fuel w5 w8) s = some r) (fun s h => ?_) (fun hK14 => ?_)
 ·obtain ⟨v16, rfl⟩ : ∃ x, x = s := ⟨s, rfl⟩
  have h : (lw4_IndexTransforms_j14 fuel w5 w8) v16 = some r := h
  unfold lw4_IndexTransforms_j14 at h
  refine W.cb v16 (fun hb => ?_) (fun hb => ?_)
  ·replace h := cond_t hb h
   refine W.seq ?_
   refine W.rt (e2 := [(4, .bool false)]) ?_
   refine W.wk (env' := [(4, .bool false)]) ?_
   have hr : aresults Tryd.prog Tryd.f3 [(4, .bool false)] = some (.bool false) := by kernel_rfl
   cases h
   exact W.ret hr
  replace h := cond_f hb h
  refine W.skip ?_
  refine W.wk (env' := z4 []) ?_
  refine W.seq ?_
  refine W.seq ?_
  refine W.rg ?_
  obtain ⟨w20, hw20, h⟩ := bind_some h
  refine WO.ck 1 (F := 12) (l := [.str w5]) (C := []) (r := .bool w20) (run_rf4_Label w5 w20 hw20) (e1 := z4 [(42, .str w5), (43, .bool w20)]) ?_
  refine WO.fn (e2 := z4 [(44, .bool (!w20))]) ?_
  refine W.cb (!w20) (fun hb => ?_) (fun hb => ?_)
  ·replace h := cond_t hb h
   refine W.seq ?_
   refine W.join (σ := (Bool)) (fun s => [(4, .bool s)]) (fun s => (lw4_IndexTransforms_j21) s = some r) (fun s h => ?_) (fun hK21 => ?_)
   ·obtain ⟨v22, rfl⟩ : ∃ x, x = s := ⟨s, rfl⟩
    have h : (lw4_IndexTransforms_j21) v22 = some r := h
    unfold lw4_IndexTransforms_j21 at h
    refine W.wk (env' := [(4, .bool v22)]) ?_
    have hr : aresults Tryd.prog Tryd.f3 [(4, .bool v22)] = some (.bool v22) := by kernel_rfl
    cases h
    exact W.ret hr
   refine W.rg ?_
   refine WO.bk 3 (fun b => z4 [(44, .bool (!w20)), (45, .str w8.1), (46, .bool b), (47, .bool b)]) (w8.1.toList == (ByteArray.mk #[]).toList) (fun hb => ?_) (fun hb => ?_)
   ·replace h := cond_t hb h
    refine WO.fn (e2 := [(4, .bool (w8.2 == 2))]) ?_
    exact hK21 (w8.2 == 2) h
   replace h := cond_f hb h
   refine WO.fn (e2 := [(4, .bool false)]) ?_
   exact hK21 false h
  replace h := cond_f hb h
  refine W.skip ?_
  refine W.wk (env' := z4 []) ?_
  refine W.seq ?_
  refine W.join (σ := (Bool)) (fun s => [(4, .bool s)]) (fun s => (lw4_IndexTransforms_j23) s = some r) (fun s h => ?_) (fun hK23 => ?_)
  ·obtain ⟨v25, rfl⟩ : ∃ x, x = s := ⟨s, rfl⟩
   have h : (lw4_IndexTransforms_j23) v25 = some r := h
   unfold lw4_IndexTransforms_j23 at h
   refine W.wk (env' := [(4, .bool v25)]) ?_
   have hr : aresults Tryd.prog Tryd.f3 [(4, .bool v25)] = some (.bool v25) := by kernel_rfl
   cases h
   exact W.ret hr
  refine W.rg ?_
  obtain ⟨w24, hw24, h⟩ := bind_some h
  let z6 := fun t => z4 ((51, .str w8.1) :: (52, .str w5) :: (53, .str w24) :: t)
  refine WO.ck 2 (F := 13) (l := [.str w5]) (C := []) (r := .str w24) (run_rf4_Transform fuel w5 w24 hw24) (e1 := z6 []) ?_
  refine WO.bk 2 (fun b => z6 [(54, .bool b), (55, .bool b)]) (w8.1.toList == w24.toList) (fun hb => ?_) (fun hb => ?_)
  ·replace h := cond_t hb h
   refine WO.fn (e2 := [(4, .bool (w8.2 == 0))]) ?_
   exact hK23 (w8.2 == 0) h
  replace h := cond_f hb h
  refine WO.fn (e2 := [(4, .bool false)]) ?_
  exact hK23 false h
 refine W.rg ?_
 let z7 := fun t => z5 ((30, .str w10.1) :: (31, .str w12.1) :: t)
 refine WO.bk 4 (fun b => z7 [(32, .bool b), (33, .bool b)]) (!(w10.1.toList == w12.1.toList)) (fun hb => ?_) (fun hb => ?_)
 ·replace h := cond_t hb h
  refine WO.fn (e2 := z4 [(41, .bool true)]) ?_
  exact hK14 true h
 replace h := cond_f hb h
 let z8 := fun t => z7 ((32, .bool false) :: (33, .bool false) :: (34, I6 w10.2) :: (35, I6 w12.2) :: t)
 refine WO.bk 5 (fun b => z8 [(36, .bool b), (37, .bool b), (38, .bool b)]) (w10.2 != w12.2) (fun hb => ?_) (fun hb => ?_)
 ·replace h := cond_t hb h
  refine WO.fn (e2 := z4 [(41, .bool true)]) ?_
  exact hK14 true h
 replace h := cond_f hb h
 obtain ⟨w15, hw15, h⟩ := bind_some h
 refine WO.ck 0 (F := 11) (l := []) (C := []) (r := .bool w15) (run_lw4_awake w15 hw15) (e1 := z8 [(36, .bool false), (37, .bool false), (38, .bool false), (39, .bool w15)]) ?_
 refine WO.fn (e2 := z4 [(41, .bool (!w15))]) ?_
 exact hK14 (!w15) h
end Go.AM
