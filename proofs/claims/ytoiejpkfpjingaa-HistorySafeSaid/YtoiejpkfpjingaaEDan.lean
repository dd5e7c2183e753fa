/- s -/
import Derived.WalkKit
import Derived.BigCall
import Derived.Deep.QuietTactic
import Derived.BigQuiet
import Derived.OneCell
import Derived.Sort.Grow
import Derived.Test.YtoiejpkfpjingaaCRow
import Derived.Deep.RegionHeld3
import Derived.Test.YtoiejpkfpjingaaShelf4
import Derived.Test.YtoiejpkfpjingaaAWq
import Derived.Test.YtoiejpkfpjingaaESnap
import Derived.Test.YtoiejpkfpjingaaSD1
set_option linter.unusedVariables false
set_option linter.unusedSimpArgs false
set_option maxRecDepth 100000
set_option maxRecDepth 1000000
namespace Go.Proofs
open Go.RowKit Go.Sort
def cmpI (x y : Int) : Int := if x < y then -1 else if y < x then 1 else 0
def orI (x y z : Int) : Int := if x ≠ 0 then x else if y ≠ 0 then y else z
set_option maxHeartbeats 4000000 in
theorem Try.cmp73 (x y : Int) (W : World) : Calls Try.prog 73 #[.int .i64 x, .int .i64 y] W fun e w' => e = .returned (.int .i64 (cmpI x y)) ∧ w' = W := by
 have t3 := Try.underlying3; have a3 := Try.isAgg3; have z3 := Try.sizeOf3; have v3 := Try.zeroValue3; have u3 := run_underlying Try.underlying3
 have t4 := Try.underlying4; have a4 := Try.isAgg4; have z4 := Try.sizeOf4; have v4 := Try.zeroValue4; have u4 := run_underlying Try.underlying4
 unfold cmpI
 go_enter Try.func73, Try.ntmps73
 by_cases h1 : x < y
 ·go_wp2
  go_ret
  simp [h1]
 ·by_cases h2 : y < x
  ·go_wp2
   go_ret
   simp [h1, h2]
  ·go_wp2
   go_ret
   simp [h1, h2]
set_option maxHeartbeats 4000000 in
theorem Try.or83 (x y z : Int) (g cap : Nat) (W : World) (h0 : W.cell? ⟨g, 0, none⟩ = some (.int .i64 x)) (h1 : W.cell? ⟨g, 1, none⟩ = some (.int .i64 y)) (h2 : W.cell? ⟨g, 2, none⟩ = some (.int .i64 z)) : Calls Try.prog 83 #[.slice (some ⟨g, 0, none⟩) 3 cap] W fun e w' => e = .returned (.int .i64 (orI x y z)) ∧ w' = W := by
 have t3 := Try.underlying3; have a3 := Try.isAgg3; have z3 := Try.sizeOf3; have v3 := Try.zeroValue3; have u3 := run_underlying Try.underlying3
 have t4 := Try.underlying4; have a4 := Try.isAgg4; have z4 := Try.sizeOf4; have v4 := Try.zeroValue4; have u4 := run_underlying Try.underlying4
 have t24 := Try.underlying24; have a24 := Try.isAgg24; have z24 := Try.sizeOf24; have v24 := Try.zeroValue24; have u24 := run_underlying Try.underlying24
 obtain ⟨r, hr⟩ : ∃ r, r = orI x y z := ⟨_, rfl⟩
 rw [← hr]
 go_enter Try.func83, Try.ntmps83
 go_wp2
 go_loop [8] (fun i => ∃ k : Nat, k ≤ 3 ∧ i = .int .i64 k ∧ (1 ≤ k → x = 0) ∧ (2 ≤ k → y = 0) ∧ (3 ≤ k → z = 0)) (fun i => 3 - (RowKit.intOf i).toNat)
 case atStart => exact ⟨0, by omega, rfl, fun h => by omega, fun h => by omega, fun h => by omega⟩
 case round =>
  obtain ⟨k, hk, rfl, k1, k2, k3⟩ := hrel
  match k, hk with
  | 0, _ =>
   by_cases hx : x = 0
   ·subst hx
    go_wp2
    go_round
    case rel => exact ⟨1, by omega, rfl, by simp_all, by simp_all, by simp_all⟩
    case measure => simp [RowKit.intOf]
   ·go_wp2
    go_ret
    simp [orI, hx]
  | 1, _ =>
   have hx := k1 (by omega)
   by_cases hy : y = 0
   ·subst hy
    go_wp2
    go_round
    case rel => exact ⟨2, by omega, rfl, by simp_all, by simp_all, by simp_all⟩
    case measure => simp [RowKit.intOf]
   ·go_wp2
    go_ret
    simp [orI, hx, hy]
  | 2, _ =>
   have hx := k1 (by omega)
   have hy := k2 (by omega)
   by_cases hz : z = 0
   ·subst hz
    go_wp2
    go_round
    case rel => exact ⟨3, by omega, rfl, by simp_all, by simp_all, by simp_all⟩
    case measure => simp [RowKit.intOf]
   ·go_wp2
    go_ret
    simp [orI, hx, hy]
  | 3, _ =>
   have hx := k1 (by omega)
   have hy := k2 (by omega)
   have hz := k3 (by omega)
   go_wp2
   go_ret
   simp [orI, hx, hy, hz]
end Go.Proofs
namespace Go.Proofs
open Go.RowKit Go.Sort
theorem Try.mixedT : Try.prog.follows .mixedOrders = true := by kernel_rfl
set_option maxHeartbeats 8000000 in
theorem Try.cmp82 (x0 x1 x2 y0 y1 y2 : Int) (W : World) : Calls Try.prog 82 #[.agg #[.int .i64 x0, .int .i64 x1, .int .i64 x2], .agg #[.int .i64 y0, .int .i64 y1, .int .i64 y2]] W fun e w' => e = .returned (.int .i64 (orI (cmpI x0 y0) (cmpI x1 y1) (cmpI x2 y2))) ∧ ∃ q os, w' = grow (W.drewN q) os := by
 have mixed := Try.mixedT
 have t3 := Try.underlying3; have a3 := Try.isAgg3; have z3 := Try.sizeOf3; have v3 := Try.zeroValue3; have u3 := run_underlying Try.underlying3
 have t24 := Try.underlying24; have a24 := Try.isAgg24; have z24 := Try.sizeOf24; have v24 := Try.zeroValue24; have u24 := run_underlying Try.underlying24
 have t64 := Try.underlying64; have a64 := Try.isAgg64; have z64 := Try.sizeOf64; have v64 := Try.zeroValue64; have u64 := run_underlying Try.underlying64
 obtain ⟨c0, hc0⟩ : ∃ c, c = cmpI x0 y0 := ⟨_, rfl⟩
 obtain ⟨c1, hc1⟩ : ∃ c, c = cmpI x1 y1 := ⟨_, rfl⟩
 obtain ⟨c2, hc2⟩ : ∃ c, c = cmpI x2 y2 := ⟨_, rfl⟩
 have k0 : ∀ w, Calls Try.prog 73 #[.int .i64 x0, .int .i64 y0] w fun e w' => e = .returned (.int .i64 c0) ∧ w' = w := fun w => by rw [hc0]; exact Try.cmp73 x0 y0 w
 have k1 : ∀ w, Calls Try.prog 73 #[.int .i64 x1, .int .i64 y1] w fun e w' => e = .returned (.int .i64 c1) ∧ w' = w := fun w => by rw [hc1]; exact Try.cmp73 x1 y1 w
 have k2 : ∀ w, Calls Try.prog 73 #[.int .i64 x2, .int .i64 y2] w fun e w' => e = .returned (.int .i64 c2) ∧ w' = w := fun w => by rw [hc2]; exact Try.cmp73 x2 y2 w
 rw [← hc0, ← hc1, ← hc2]
 clear hc0 hc1 hc2
 obtain ⟨r, hr⟩ : ∃ r, r = orI c0 c1 c2 := ⟨_, rfl⟩
 rw [← hr]
 go_enter Try.func82, Try.ntmps82
 go_wp2_with fail
 obtain ⟨W2, hW2⟩ : ∃ W2, W2 = (W.alloc (.cells #[.int .i64 x0, .int .i64 x1, .int .i64 x2] 64)).alloc (.cells #[.int .i64 y0, .int .i64 y1, .int .i64 y2] 64) := ⟨_, rfl⟩
 have ha : W2.heap[W.heap.size]? = some (.cells #[.int .i64 x0, .int .i64 x1, .int .i64 x2] 64 (0, 0)) := by
  rw [hW2, heap_alloc_old _ _ (by simp)]
  exact heap_alloc_new _ _
 have hb : W2.heap[W.heap.size + 1]? = some (.cells #[.int .i64 y0, .int .i64 y1, .int .i64 y2] 64 (0, 0)) := by
  have := heap_alloc_new (W.alloc (.cells #[.int .i64 x0, .int .i64 x1, .int .i64 x2] 64)) (.cells #[.int .i64 y0, .int .i64 y1, .int .i64 y2] 64)
  rw [hW2]
  simpa using this
 have hg : ∃ os, W2 = grow W os := ⟨_, by rw [hW2, alloc_eq_grow, alloc_eq_grow, grow_grow]⟩
 rw [← hW2]
 clear hW2
 have K0 : W2.cell? ⟨W.heap.size, 0, none⟩ = some (.int .i64 x0) ∧ W2.cell? ⟨W.heap.size, 1, none⟩ = some (.int .i64 x1) ∧ W2.cell? ⟨W.heap.size, 2, none⟩ = some (.int .i64 x2) ∧ W2.cell? ⟨W.heap.size + 1, 0, none⟩ = some (.int .i64 y0) ∧ W2.cell? ⟨W.heap.size + 1, 1, none⟩ = some (.int .i64 y1) ∧ W2.cell? ⟨W.heap.size + 1, 2, none⟩ = some (.int .i64 y2) := by
  refine ⟨?_, ?_, ?_, ?_, ?_, ?_⟩ <;> simp [World.cell?, ha, hb]
 refine wp_region_held_drew (S := (fun w' => w'.cell? ⟨W.heap.size, 0, none⟩ = some (.int .i64 x0) ∧ w'.cell? ⟨W.heap.size, 1, none⟩ = some (.int .i64 x1) ∧ w'.cell? ⟨W.heap.size, 2, none⟩ = some (.int .i64 x2) ∧ w'.cell? ⟨W.heap.size + 1, 0, none⟩ = some (.int .i64 y0) ∧ w'.cell? ⟨W.heap.size + 1, 1, none⟩ = some (.int .i64 y1) ∧ w'.cell? ⟨W.heap.size + 1, 2, none⟩ = some (.int .i64 y2))) (by kernel_rfl) K0 (fun hHeld => ?_)
 refine wpAnyH_take (i := 0) (v := .pointer (some ⟨W.heap.size, 0, none⟩)) rfl (by kernel_rfl) (by kernel_rfl) (by kernel_rfl) (fun _ _ _ h => h) (Or.inl ⟨by kernel_rfl, fun w' hw' => ?_⟩) hHeld ?_
 ·obtain ⟨q0, q1, q2, q3, q4, q5⟩ := hw'; go_simp
 simp only [Act.put, List.getElem_toArray, List.getElem_cons_succ, List.getElem_cons_zero, List.setIfInBounds_toArray, List.set_cons_zero, List.set_cons_succ]
 refine wpAnyH_take (i := 1) (v := .int .i64 x0) rfl (by kernel_rfl) (by kernel_rfl) (by kernel_rfl) (fun _ _ _ h => h) (Or.inl ⟨by kernel_rfl, fun w' hw' => ?_⟩) hHeld ?_
 ·obtain ⟨q0, q1, q2, q3, q4, q5⟩ := hw'; go_simp
 simp only [Act.put, List.getElem_toArray, List.getElem_cons_succ, List.getElem_cons_zero, List.setIfInBounds_toArray, List.set_cons_zero, List.set_cons_succ]
 refine wpAnyH_take (i := 2) (v := .pointer (some ⟨W.heap.size + 1, 0, none⟩)) rfl (by kernel_rfl) (by kernel_rfl) (by kernel_rfl) (fun _ _ _ h => h) (Or.inl ⟨by kernel_rfl, fun w' hw' => ?_⟩) hHeld ?_
 ·obtain ⟨q0, q1, q2, q3, q4, q5⟩ := hw'; go_simp
 simp only [Act.put, List.getElem_toArray, List.getElem_cons_succ, List.getElem_cons_zero, List.setIfInBounds_toArray, List.set_cons_zero, List.set_cons_succ]
 refine wpAnyH_take (i := 3) (v := .int .i64 y0) rfl (by kernel_rfl) (by kernel_rfl) (by kernel_rfl) (fun _ _ _ h => h) (Or.inl ⟨by kernel_rfl, fun w' hw' => ?_⟩) hHeld ?_
 ·obtain ⟨q0, q1, q2, q3, q4, q5⟩ := hw'; go_simp
 simp only [Act.put, List.getElem_toArray, List.getElem_cons_succ, List.getElem_cons_zero, List.setIfInBounds_toArray, List.set_cons_zero, List.set_cons_succ]
 refine wpAnyH_take (i := 5) (v := .pointer (some ⟨W.heap.size, 1, none⟩)) rfl (by kernel_rfl) (by kernel_rfl) (by kernel_rfl) (fun _ _ _ h => h) (Or.inl ⟨by kernel_rfl, fun w' hw' => ?_⟩) hHeld ?_
 ·obtain ⟨q0, q1, q2, q3, q4, q5⟩ := hw'; go_simp
 simp only [Act.put, List.getElem_toArray, List.getElem_cons_succ, List.getElem_cons_zero, List.setIfInBounds_toArray, List.set_cons_zero, List.set_cons_succ]
 refine wpAnyH_take (i := 6) (v := .int .i64 x1) rfl (by kernel_rfl) (by kernel_rfl) (by kernel_rfl) (fun _ _ _ h => h) (Or.inl ⟨by kernel_rfl, fun w' hw' => ?_⟩) hHeld ?_
 ·obtain ⟨q0, q1, q2, q3, q4, q5⟩ := hw'; go_simp
 simp only [Act.put, List.getElem_toArray, List.getElem_cons_succ, List.getElem_cons_zero, List.setIfInBounds_toArray, List.set_cons_zero, List.set_cons_succ]
 refine wpAnyH_take (i := 7) (v := .pointer (some ⟨W.heap.size + 1, 1, none⟩)) rfl (by kernel_rfl) (by kernel_rfl) (by kernel_rfl) (fun _ _ _ h => h) (Or.inl ⟨by kernel_rfl, fun w' hw' => ?_⟩) hHeld ?_
 ·obtain ⟨q0, q1, q2, q3, q4, q5⟩ := hw'; go_simp
 simp only [Act.put, List.getElem_toArray, List.getElem_cons_succ, List.getElem_cons_zero, List.setIfInBounds_toArray, List.set_cons_zero, List.set_cons_succ]
 refine wpAnyH_take (i := 8) (v := .int .i64 y1) rfl (by kernel_rfl) (by kernel_rfl) (by kernel_rfl) (fun _ _ _ h => h) (Or.inl ⟨by kernel_rfl, fun w' hw' => ?_⟩) hHeld ?_
 ·obtain ⟨q0, q1, q2, q3, q4, q5⟩ := hw'; go_simp
 simp only [Act.put, List.getElem_toArray, List.getElem_cons_succ, List.getElem_cons_zero, List.setIfInBounds_toArray, List.set_cons_zero, List.set_cons_succ]
 refine wpAnyH_take (i := 10) (v := .pointer (some ⟨W.heap.size, 2, none⟩)) rfl (by kernel_rfl) (by kernel_rfl) (by kernel_rfl) (fun _ _ _ h => h) (Or.inl ⟨by kernel_rfl, fun w' hw' => ?_⟩) hHeld ?_
 ·obtain ⟨q0, q1, q2, q3, q4, q5⟩ := hw'; go_simp
 simp only [Act.put, List.getElem_toArray, List.getElem_cons_succ, List.getElem_cons_zero, List.setIfInBounds_toArray, List.set_cons_zero, List.set_cons_succ]
 refine wpAnyH_take (i := 11) (v := .int .i64 x2) rfl (by kernel_rfl) (by kernel_rfl) (by kernel_rfl) (fun _ _ _ h => h) (Or.inl ⟨by kernel_rfl, fun w' hw' => ?_⟩) hHeld ?_
 ·obtain ⟨q0, q1, q2, q3, q4, q5⟩ := hw'; go_simp
 simp only [Act.put, List.getElem_toArray, List.getElem_cons_succ, List.getElem_cons_zero, List.setIfInBounds_toArray, List.set_cons_zero, List.set_cons_succ]
 refine wpAnyH_take (i := 12) (v := .pointer (some ⟨W.heap.size + 1, 2, none⟩)) rfl (by kernel_rfl) (by kernel_rfl) (by kernel_rfl) (fun _ _ _ h => h) (Or.inl ⟨by kernel_rfl, fun w' hw' => ?_⟩) hHeld ?_
 ·obtain ⟨q0, q1, q2, q3, q4, q5⟩ := hw'; go_simp
 simp only [Act.put, List.getElem_toArray, List.getElem_cons_succ, List.getElem_cons_zero, List.setIfInBounds_toArray, List.set_cons_zero, List.set_cons_succ]
 refine wpAnyH_take (i := 13) (v := .int .i64 y2) rfl (by kernel_rfl) (by kernel_rfl) (by kernel_rfl) (fun _ _ _ h => h) (Or.inl ⟨by kernel_rfl, fun w' hw' => ?_⟩) hHeld ?_
 ·obtain ⟨q0, q1, q2, q3, q4, q5⟩ := hw'; go_simp
 simp only [Act.put, List.getElem_toArray, List.getElem_cons_succ, List.getElem_cons_zero, List.setIfInBounds_toArray, List.set_cons_zero, List.set_cons_succ]
 refine wpAnyH_ready (rs := [4]) (by kernel_rfl) (by simp) (AllReadyH.cons rfl (fun K hK => ?_) AllReadyH.nil)
 rw [if_pos (by kernel_rfl)]
 go_simp
 go_at_call 73
 refine (k0 _).mono ?_
 rintro e w5 ⟨rfl, rfl⟩
 go_wp2_with fail
 refine hK.out _ _ hHeld (fun _ => ?_)
 clear hK K
 refine wpAnyH_ready (rs := [9]) (by kernel_rfl) (by simp) (AllReadyH.cons rfl (fun K hK => ?_) AllReadyH.nil)
 rw [if_pos (by kernel_rfl)]
 go_simp
 go_at_call 73
 refine (k1 _).mono ?_
 rintro e w5 ⟨rfl, rfl⟩
 go_wp2_with fail
 refine hK.out _ _ hHeld (fun _ => ?_)
 clear hK K
 refine wpAnyH_ready (rs := [14]) (by kernel_rfl) (by simp) (AllReadyH.cons rfl (fun K hK => ?_) AllReadyH.nil)
 rw [if_pos (by kernel_rfl)]
 go_simp
 go_at_call 73
 refine (k2 _).mono ?_
 rintro e w5 ⟨rfl, rfl⟩
 go_wp2_with fail
 refine hK.out _ _ hHeld (fun _ => ?_)
 clear hK K
 refine wpAnyH_ready (rs := [15]) (by kernel_rfl) (by simp) (AllReadyH.cons rfl (fun K hK => ?_) AllReadyH.nil)
 rw [if_pos (by kernel_rfl)]
 go_simp
 obtain ⟨W3, hW3⟩ : ∃ W3, W3 = (W2.alloc (Obj.cells #[Value.int IntKind.i64 c0, Value.int IntKind.i64 c1, Value.int IntKind.i64 c2] 3)).drew := ⟨_, rfl⟩
 have e0 : W3.heap[W.heap.size]? = some (.cells #[.int .i64 x0, .int .i64 x1, .int .i64 x2] 64 (0, 0)) := by
  rw [hW3]
  exact (heap_alloc_old _ _ (lt_of_block ha)).trans ha
 have e1 : W3.heap[W.heap.size + 1]? = some (.cells #[.int .i64 y0, .int .i64 y1, .int .i64 y2] 64 (0, 0)) := by
  rw [hW3]
  exact (heap_alloc_old _ _ (lt_of_block hb)).trans hb
 have e2 : W3.heap[W2.heap.size]? = some (.cells #[.int .i64 c0, .int .i64 c1, .int .i64 c2] 3 (0, 0)) := by
  rw [hW3]
  exact heap_alloc_new _ _
 have hg3 : ∃ q os, W3 = grow (W.drewN q) os := by
  obtain ⟨os, rfl⟩ := hg
  refine ⟨1, os ++ #[Obj.cells #[Value.int IntKind.i64 c0, Value.int IntKind.i64 c1, Value.int IntKind.i64 c2] 3], ?_⟩
  rw [hW3, alloc_eq_grow, grow_grow, drew_grow]
  rfl
 have f0 : W3.cell? ⟨W2.heap.size, 0, none⟩ = some (.int .i64 c0) := by simp [World.cell?, e2]
 have f1 : W3.cell? ⟨W2.heap.size, 1, none⟩ = some (.int .i64 c1) := by simp [World.cell?, e2]
 have f2 : W3.cell? ⟨W2.heap.size, 2, none⟩ = some (.int .i64 c2) := by simp [World.cell?, e2]
 have K3 : W3.cell? ⟨W.heap.size, 0, none⟩ = some (.int .i64 x0) ∧ W3.cell? ⟨W.heap.size, 1, none⟩ = some (.int .i64 x1) ∧ W3.cell? ⟨W.heap.size, 2, none⟩ = some (.int .i64 x2) ∧ W3.cell? ⟨W.heap.size + 1, 0, none⟩ = some (.int .i64 y0) ∧ W3.cell? ⟨W.heap.size + 1, 1, none⟩ = some (.int .i64 y1) ∧ W3.cell? ⟨W.heap.size + 1, 2, none⟩ = some (.int .i64 y2) := by
  refine ⟨?_, ?_, ?_, ?_, ?_, ?_⟩ <;> simp [World.cell?, e0, e1]
 rw [← hW3]
 clear hW3 ha hb
 refine hK.out _ _ K3 (fun _ => ?_)
 clear hK K
 have kk := Try.or83 c0 c1 c2 W2.heap.size 3 W3 f0 f1 f2
 rw [← hr] at kk
 refine wpAnyH_ready (rs := [16]) (by kernel_rfl) (by simp) (AllReadyH.cons rfl (fun K hK => ?_) AllReadyH.nil)
 rw [if_pos (by kernel_rfl)]
 go_simp
 go_at_call 83
 refine kk.mono ?_
 rintro e w5 ⟨rfl, rfl⟩
 go_wp2_with fail
 refine hK.out _ _ K3 (fun _ => ?_)
 clear hK K
 refine wpAnyH_take (i := 17) (v := .int .i64 r) rfl (by kernel_rfl) (by kernel_rfl) (by kernel_rfl) (fun _ _ _ h => h) (Or.inl ⟨by kernel_rfl, fun w' hw' => ?_⟩) K3 ?_
 ·go_simp
 simp only [Act.put, List.getElem_toArray, List.getElem_cons_succ, List.getElem_cons_zero, List.setIfInBounds_toArray, List.set_cons_zero, List.set_cons_succ]
 refine wpAnyH_done (by kernel_rfl) ?_ _
 go_wp2
 go_ret
 exact ⟨rfl, hg3⟩
end Go.Proofs
namespace Go.AM
open Go.RowKit Go.Sort Go.Proofs Go.Lib
structure arr3_Int where
 f_0 : Int
 f_1 : Int
 f_2 : Int
def e_arr3_Int (x : arr3_Int) : AV := .agg [.int .i64 x.f_0, .int .i64 x.f_1, .int .i64 x.f_2]
def l64 (c : Option Nat) (l : List arr3_Int) : AV := .lst 64 3 c (List.map e_arr3_Int l)
instance : Inhabited arr3_Int := ⟨⟨0, 0, 0⟩⟩
theorem arr3_ext {x y : arr3_Int} (h0 : x.f_0 = y.f_0) (h1 : x.f_1 = y.f_1) (h2 : x.f_2 = y.f_2) : x = y := by
 cases x; cases y; cases h0; cases h1; cases h2; rfl
def cf3 (a b : arr3_Int) : Int := orI (cmpI a.f_0 b.f_0) (cmpI a.f_1 b.f_1) (cmpI a.f_2 b.f_2)
def enc3 (a : arr3_Int) : List Value := [.int .i64 a.f_0, .int .i64 a.f_1, .int .i64 a.f_2]
def sort3 (l : List arr3_Int) : List arr3_Int := l.mergeSort fun x y => !ltOf cf3 y x
theorem sort3_len (l : List arr3_Int) : (sort3 l).length = l.length := by unfold sort3; exact List.length_mergeSort l
theorem lt3 (a b : arr3_Int) : ltOf cf3 a b = true ↔ (a.f_0 < b.f_0 ∨ (a.f_0 = b.f_0 ∧ (a.f_1 < b.f_1 ∨ (a.f_1 = b.f_1 ∧ a.f_2 < b.f_2)))) := by
 have e : ltOf cf3 a b = decide (cf3 a b < 0) := rfl
 rw [e, decide_eq_true_eq]
 unfold cf3 orI cmpI
 by_cases h1 : a.f_0 < b.f_0
 ·simp [h1]
 ·by_cases h2 : b.f_0 < a.f_0
  ·simp [h1, h2]; omega
  ·have : a.f_0 = b.f_0 := by omega
   by_cases h3 : a.f_1 < b.f_1
   ·simp [h1, h2, h3, this]
   ·by_cases h4 : b.f_1 < a.f_1
    ·simp [h1, h2, h3, h4, this]; omega
    ·have h5 : a.f_1 = b.f_1 := by omega
     by_cases h6 : a.f_2 < b.f_2
     ·simp [h1, h2, h3, h4, h5, h6, this]
     ·by_cases h7 : b.f_2 < a.f_2 <;> simp [h1, h2, h3, h4, h5, h6, h7, this]
theorem lt3f (a b : arr3_Int) : ltOf cf3 a b = false ↔ ¬ (a.f_0 < b.f_0 ∨ (a.f_0 = b.f_0 ∧ (a.f_1 < b.f_1 ∨ (a.f_1 = b.f_1 ∧ a.f_2 < b.f_2)))) := by
 rw [← lt3, Bool.not_eq_true]
theorem swo3 : SWO (ltOf cf3) where
 irrefl x := by rw [lt3f]; omega
 trans x y z h1 h2 := by rw [lt3] at *; omega
 ntrans x y z h1 h2 := by rw [lt3f] at *; omega
theorem tot3 (x y : arr3_Int) (h1 : ltOf cf3 x y = false) (h2 : ltOf cf3 y x = false) : x = y := by
 rw [lt3f] at h1 h2
 exact arr3_ext (by omega) (by omega) (by omega)
theorem cells3 (l : List arr3_Int) : ∀ x, x ∈ l.map e_arr3_Int → x.cells.length = 3 := by
 intro x hx
 obtain ⟨y, _, rfl⟩ := List.mem_map.1 hx
 rfl
theorem flat3 (l : List arr3_Int) {j : Nat} {c : AV} {M : Mem} {u : Value} (hc : (flat (l.map e_arr3_Int))[j]? = some c) :
  (R M c u ↔ u = (flatK enc3 3 l.toArray)[j]!) ∧ j < l.length * 3 := by
 have hj : j < l.length * 3 := by
  have h1 := (List.getElem?_eq_some_iff.1 hc).1
  rw [flat_length (cells3 l)] at h1
  simpa using h1
 have hd : j / 3 < l.length := by omega
 have hm : j % 3 < 3 := by omega
 have h2 := flat_get (k := 3) (xs := l.map e_arr3_Int) (i := j / 3) (x := e_arr3_Int l[j / 3]) (cells3 l) (by simp [hd]) (j % 3) hm
 rw [show j / 3 * 3 + j % 3 = j by omega, hc] at h2
 refine ⟨?_, hj⟩
 rw [get_flatK _ _ _ j (by simpa using hj)]
 have e1 : l.toArray[j / 3]! = l[j / 3] := by simp [hd]
 rw [e1]
 generalize l[j / 3] = x at h2
 have : ∀ m, m < 3 → ∀ c, some c = (e_arr3_Int x).cells[m]? → (R M c u ↔ u = (enc3 x)[m]!) := fun m hm c hc => by
  match m, hm with
  | 0, _ => cases hc; exact ⟨fun h => h.int_inv, fun h => by rw [h]; exact .int _ _⟩
  | 1, _ => cases hc; exact ⟨fun h => h.int_inv, fun h => by rw [h]; exact .int _ _⟩
  | 2, _ => cases hc; exact ⟨fun h => h.int_inv, fun h => by rw [h]; exact .int _ _⟩
 exact this _ hm c h2
theorem sort81 {l : List arr3_Int} (hl : l.length < 4611686018427387904) :
  CallMOk Try.prog 81 [.sb 2000000 64 3 0 l.length, .clo 82 []] [(2000000, .obj 64 3 (l.map e_arr3_Int))] (.tup []) [(2000000, .obj 64 3 ((sort3 l).map e_arr3_Int))] := by
 intro M O w vs hG hC hlen hO hOi hR hH
 obtain ⟨v, fv, rfl⟩ : ∃ v fv, vs = [v, fv] := by
  match vs, hlen with
  | [v, fv], _ => exact ⟨v, fv, rfl⟩
 have hv := hR 0 _ v rfl rfl
 have hf := (hR 1 _ fv rfl rfl).1
 have ho := hH 2000000 (.obj 64 3 (l.map e_arr3_Int)) rfl
 obtain ⟨q1, q2⟩ := hv
 obtain ⟨k0, k1, k2, k3⟩ := ho
 obtain rfl : fv = .func (.func 82) #[] #[] := by
  generalize hx : AV.clo 82 [] = x at hf
  have hx' : x.strip = x := by rw [← hx]; rfl
  rw [hx'] at hf
  cases hf with
  | clo e1 e2 =>
   rename_i vs
   cases hx
   match vs, e1 with
   | [], _ => rfl
  | _ => cases hx
 have aE : ∀ w, (isAgg 64).run Try.prog w = .ok true w := Try.isAgg64
 have zE : ∀ w, (Go.sizeOf 64).run Try.prog w = .ok 3 w := Try.sizeOf64
 by_cases hne : l = []
 ·subst hne
  have q2' : ∃ p cap, v = .slice p 0 cap := by
   rcases q2 with ⟨_, ad, rfl⟩ | ⟨g, cap, rfl, _⟩
   ·exact ⟨_, _, rfl⟩
   ·exact ⟨_, _, rfl⟩
  obtain ⟨p, cap, rfl⟩ := q2'
  refine (Try.slices_SortFunc_none (α := Nat) p cap _ w).mono ?_
  rintro ed w' ⟨rfl, rfl⟩
  have es : sort3 [] = [] := by simp [sort3]
  refine ⟨_, M, O, rfl, BelowD.refl _ _, Sub.refl M, hC, fun _ _ _ _ => rfl, fun i c g hh => ?_, fun i i' c c' g hh hh' => ?_, fun c _ _ => Gh.Eq1.refl O c, ⟨.tup (vs := []) rfl (fun j c v hc => by simp at hc), trivial⟩, fun id x hx => ?_⟩
  ·obtain ⟨rfl, h2⟩ := hO i c g hh
   exact ⟨h2, .inr ⟨c, hh⟩⟩
  ·obtain ⟨rfl, _⟩ := hO i c g hh
   obtain ⟨rfl, _⟩ := hO i' c' g hh'
   exact ⟨rfl, hOi c c' g hh hh'⟩
  ·simp only [look] at hx
   split at hx
   ·rename_i hb
    cases hx
    obtain rfl := (Nat.eq_of_beq_eq_true hb).symm
    rw [es]
    exact ⟨k0, k1, k2, k3⟩
   ·cases hx
 have hpos : 0 < l.length := List.length_pos_iff.2 hne
 rcases q2 with ⟨h0, _⟩ | ⟨g, cap, rfl, p1, p2, p3, p4⟩
 ·omega
 rcases k3 with ⟨h0, _⟩ | ⟨g', cur, r1, r2, r3, r4, r5, r6⟩
 ·exact absurd (List.map_eq_nil_iff.1 h0) hne
 have hgg : g' = g := by rw [p1] at r1; exact (Option.some.inj r1).symm
 subst hgg
 have r4' : l.length * 3 ≤ cur.size := by simpa using r4
 have hb := r2.plain (by omega)
 have hgs : g' < w.heap.size := (hO _ _ _ p1).2
 have hcur : ∀ j, j < l.length * 3 → cur[j]? = some ((flatK enc3 3 l.toArray)[j]!) := fun j hj => by
  have hjc : j < cur.size := by omega
  have hfl : j < (flat (l.map e_arr3_Int)).length := by rw [flat_length (cells3 l)]; simpa using hj
  have h1 := r6 j _ cur[j] (List.getElem?_eq_getElem hfl) (by simp [hjc])
  rw [Array.getElem?_eq_getElem hjc]
  exact congrArg some (((flat3 l (List.getElem?_eq_getElem hfl)).1).1 h1)
 have hHd : HoldsK enc3 3 w g' 0 l.toArray := by
  intro j hj
  have hj' : j < l.length * 3 := by simpa using hj
  constructor
  ·simp only [World.cell?, hb, Nat.zero_add, Option.isSome_none, Bool.false_eq_true, if_false]
   rw [hcur j hj']
   rfl
  ·simp [World.frozen?, hb]
 have eg : ∀ args w, (callFunc 82 args).run Try.prog w = .ok (.enter 82 args) w := enters_of Try.func82 (by kernel_rfl) rfl
 have hcmp : CmpLays Try.prog 82 #[] enc3 3 cf3 g' 0 l.toArray.size w := by
  intro m os dk hs x y
  exact Try.cmp82 x.f_0 x.f_1 x.f_2 y.f_0 y.f_1 y.f_2 _
 have hcon := Try.slices_SortFunc_total (α := arr3_Int) 3 aE zE enc3 (fun _ => rfl) (fun x v hv => by simp [enc3] at hv; rcases hv with rfl | rfl | rfl <;> rfl) cf3 swo3 82 #[] g' 0 cap l.toArray w eg hcmp hHd hgs (by simpa using hl) tot3
 have hsz : l.toArray.size = l.length := by simp
 rw [hsz] at hcon
 refine hcon.mono ?_
 rintro ed w' ⟨rfl, n, os, hw⟩
 have hw2 : w' = grow (Go.Sort.putRow id (Sort.ahead w n) g' 0 (flatK enc3 3 (sort3 l).toArray)) os := hw
 have hb' : w'.heap[g']? = some (.cells (putCells id 0 (flatK enc3 3 (sort3 l).toArray) cur) 64 (0, 0)) := by
  subst hw2
  rw [heap_grow_old _ _ (by simpa using hgs)]
  simp [Go.Sort.putRow, mapBlock, Sort.ahead, Array.getElem?_modify, hb, onCells]
 have hbk : ∀ q, q < w.heap.size → q ≠ g' → w'.heap[q]? = w.heap[q]? := by
  intro q hq hne2
  subst hw2
  rw [heap_grow_old _ _ (by simpa using hq)]
  have : g' ≠ q := fun e => hne2 e.symm
  simp [Go.Sort.putRow, mapBlock, Sort.ahead, Array.getElem?_modify, this]
 have hszw : w.heap.size ≤ w'.heap.size := by subst hw2; simp [grow]
 have hps : (putCells id 0 (flatK enc3 3 (sort3 l).toArray) cur).size = cur.size := by simp [putCells]
 refine ⟨_, M, O, rfl, ⟨by subst hw2; rfl, by subst hw2; rfl, by subst hw2; rfl, hszw, fun q hq => hbk q hq.1 fun e1 => hq.2 2000000 (by rw [e1]; exact p1)⟩, Sub.refl M, ?_, fun _ _ _ _ => rfl, fun i c g hh => ?_, fun i i' c c' g hh hh' => ?_, fun c _ _ => Gh.Eq1.refl O c, ⟨.tup (vs := []) rfl (fun j c v hc => by simp at hc), trivial⟩, fun id x hx => ?_⟩
 ·intro b o u hu
  have h1 := hC b o u hu
  have hb2 := mc_lt h1
  have hne2 : b ≠ g' := fun e1 => by rw [e1, r5] at hu; cases hu
  rw [mc_block (hbk b hb2 hne2)]
  exact h1
 ·obtain ⟨rfl, h2⟩ := hO i c g hh
  exact ⟨Nat.lt_of_lt_of_le h2 hszw, .inr ⟨c, hh⟩⟩
 ·obtain ⟨rfl, _⟩ := hO i c g hh
  obtain ⟨rfl, _⟩ := hO i' c' g hh'
  exact ⟨rfl, hOi c c' g hh hh'⟩
 ·simp only [look] at hx
  split at hx
  ·rename_i hbq
   cases hx
   obtain rfl := (Nat.eq_of_beq_eq_true hbq).symm
   refine ⟨k0, fun y hy => ?_, by simpa [sort3_len] using k2, .inr ⟨g', _, p1, RowAt.of hb', by rw [hps]; exact r3, by rw [hps]; simpa [sort3_len] using r4, r5, fun j c u hc hu => ?_⟩⟩
   ·obtain ⟨z, _, rfl⟩ := List.mem_map.1 hy
    exact ⟨rfl, rfl⟩
   ·obtain ⟨f1, f2⟩ := flat3 (M := M) (u := u) (sort3 l) hc
    refine f1.2 ?_
    rw [sort3_len] at f2
    have hjc : j < cur.size := by omega
    have : (putCells id 0 (flatK enc3 3 (sort3 l).toArray) cur)[j]? = some ((flatK enc3 3 (sort3 l).toArray)[j]!) := by
     have hz : (flatK enc3 3 (sort3 l).toArray).size = l.length * 3 := by simp [sort3_len]
     simp only [putCells, Array.getElem?_mapIdx, Array.getElem?_eq_getElem hjc, Option.map_some, hz]
     rw [if_pos (by omega)]
     simp
    rw [this] at hu
    exact (Option.some.inj hu).symm
  ·cases hx
end Go.AM
namespace Go.AM
open Go.RowKit Go.Sort Go.Proofs Go.Lib
theorem Goes.wkF {n : Nat} {e e1 : Env} (keep frz : List Nat) (he : weakE keep frz [] [] e = e1) : Goes n e e1 := by
 intro bs M O a w hi
 obtain ⟨M', O', h'⟩ := hi.freezeAll frz
 obtain ⟨O2, h2⟩ := Inv.relabAll [] ((Inv.nilAll [] h').drop keep)
 have h3 : Inv bs n M' O2 e1 a w := by
  rw [← he]
  exact h2
 exact ⟨M', O2, h3⟩
theorem WO.finP {P : Program} {n : Nat} {draw : Bool} {all ops : List Oper} {Q : Env → Prop} {env e2 : Env} {c : Code} {S : Ex → Env → Prop} (keep frz : List Nat) (he : finE P n draw all ops keep frz [] [] env = some e2) (hQ : ∀ e, CodeP P n c S e → Q e) (h : CodeP P n c S e2) : WO P n draw all ops Q env := by
 unfold finE at he
 rw [Option.map_eq_some_iff] at he
 obtain ⟨e1, h1, h2⟩ := he
 refine WO.steps ops.length h1 ?_
 rw [List.drop_length]
 exact .nil (hQ _ (CodeP.goes (Goes.wkF keep frz h2) h))
abbrev sA (s : hssnapshot) : AV := .agg [l44 none s.f_h, l3 none s.f_txns, mpE (AV.int .i64) (AV.int .i64) s.f_begin, mpE (AV.int .i64) (AV.int .i64) s.f_end]
abbrev kK (l : List (arr2_Int × Bool)) : List AV := l.map fun p => e_arr2_Int p.1
abbrev kV (l : List (arr2_Int × Bool)) : List AV := l.map fun p => AV.bool p.2
abbrev tL (l : List arr3_Int) : List AV := l.map e_arr3_Int
abbrev keys2 (l : List (arr2_Int × Bool)) : List arr2_Int := l.map Prod.fst
def tri2 (ov : Int → Int → Bool) (a b : arr2_Int) : Bool := (a.f_1 == b.f_0) && (ov a.f_0 a.f_1 && ov b.f_0 b.f_1)
def triIn (ov : Int → Int → Bool) (a : arr2_Int) (l : List arr2_Int) : List arr3_Int := (l.filter (tri2 ov a)).map fun b => arr3_Int.mk a.f_0 a.f_1 b.f_1
def triAll (ov : Int → Int → Bool) (all l : List arr2_Int) : List arr3_Int := l.flatMap fun a => triIn ov a all
def ovB (s : hssnapshot) (a b : Int) : Bool := (hs_snapshot_overlap s a b).getD false
theorem next_pairs2 (rem : List (arr2_Int × Bool)) {j : Nat} (h : j < rem.length) : nextEnt (kK rem) (kV rem) j = .hob 2 (e_arr2_Int rem[j].1 :: kK (rem.eraseIdx j)) (AV.bool rem[j].2 :: kV (rem.eraseIdx j)) := by
 unfold nextEnt kK kV
 rw [erase_map, erase_map]
 have e1 : (rem.map fun p => e_arr2_Int p.1).getD j .und = e_arr2_Int rem[j].1 := by
  rw [List.getD_eq_getElem?_getD, List.getElem?_map, List.getElem?_eq_getElem h]; rfl
 have e2 : (rem.map fun p => AV.bool p.2).getD j .und = AV.bool rem[j].2 := by
  rw [List.getD_eq_getElem?_getD, List.getElem?_map, List.getElem?_eq_getElem h]; rfl
 rw [e1, e2]
theorem tri_take1 {ov : Int → Int → Bool} {all : List arr2_Int} {rem : List (arr2_Int × Bool)} {j : Nat} (h : j < rem.length) {acc T : List arr3_Int} (hp : (acc ++ triAll ov all (keys2 rem)).Perm T) :
  (acc ++ triIn ov rem[j].1 all ++ triAll ov all (keys2 (rem.eraseIdx j))).Perm T := by
 refine List.Perm.trans ?_ hp
 rw [List.append_assoc]
 refine List.Perm.append_left acc ?_
 have h1 : (keys2 rem).Perm (rem[j].1 :: keys2 (rem.eraseIdx j)) := (erase_perm rem j h).map Prod.fst
 have h2 := h1.flatMap_right (fun a => triIn ov a all)
 simpa [triAll] using h2.symm
theorem tri_take2 {ov : Int → Int → Bool} {a : arr2_Int} {rem : List (arr2_Int × Bool)} {j : Nat} (h : j < rem.length) {acc X T : List arr3_Int} (hp : (acc ++ triIn ov a (keys2 rem) ++ X).Perm T) :
  ((if tri2 ov a rem[j].1 then acc ++ [arr3_Int.mk a.f_0 a.f_1 rem[j].1.f_1] else acc) ++ triIn ov a (keys2 (rem.eraseIdx j)) ++ X).Perm T := by
 refine List.Perm.trans ?_ hp
 refine List.Perm.append_right X ?_
 have h1 : (keys2 rem).Perm (rem[j].1 :: keys2 (rem.eraseIdx j)) := (erase_perm rem j h).map Prod.fst
 have h2 : (triIn ov a (keys2 rem)).Perm (triIn ov a (rem[j].1 :: keys2 (rem.eraseIdx j))) := (h1.filter _).map _
 refine List.Perm.trans ?_ (h2.append_left acc).symm
 unfold triIn
 rw [List.filter_cons]
 by_cases hc : tri2 ov a rem[j].1 = true
 ·rw [if_pos hc, if_pos hc]; simp
 ·rw [if_neg hc, if_neg hc]
theorem cap3 {n : Nat} (h : n + 1 ≤ 1000000) {x : arr3_Int} : capOk 24 (n + (tL [x]).length) = true := by
 have : (tL [x]).length = 1 := rfl
 rw [this]
 simp only [capOk, Bool.and_eq_true, Nat.ble_eq]
 omega
theorem snap3 (acc : List arr3_Int) (x : arr3_Int) : snapA 0 acc.length (tL acc) ++ tL [x] = tL (acc ++ [x]) := by
 unfold snapA tL
 rw [List.drop_zero, List.map_append, List.take_of_length_le (by rw [List.length_map]; exact Nat.le_refl _)]
def DanO (s : hssnapshot) (anti : List (arr2_Int × Bool)) (T : List arr3_Int) (k : Nat) (e : Env) : Prop := ∃ (acc : List arr3_Int) (rem : List (arr2_Int × Bool)) (y : AV), rem.length = k ∧ (∀ p, p ∈ rem → p ∈ anti) ∧ leftE y = some (kK rem, kV rem) ∧ (acc ++ triAll (ovB s) (keys2 anti) (keys2 rem)).Perm T ∧
 Goes 69 e [(4, .ptr (sA s)), (5, mpE e_arr2_Int AV.bool anti), (7, .sb 1500007 64 3 0 acc.length), (24, .mb 1 1000024), (1000024, y), (1500007, .obj 64 3 (tL acc))]
def DanI (s : hssnapshot) (anti : List (arr2_Int × Bool)) (T : List arr3_Int) (pa : arr2_Int) (pv : Bool) (rem2 : List (arr2_Int × Bool)) (k : Nat) (e : Env) : Prop := ∃ (acc : List arr3_Int) (rem : List (arr2_Int × Bool)) (y : AV), rem.length = k ∧ (∀ p, p ∈ rem → p ∈ anti) ∧ leftE y = some (kK rem, kV rem) ∧ (acc ++ triIn (ovB s) pa (keys2 rem) ++ triAll (ovB s) (keys2 anti) (keys2 rem2)).Perm T ∧
 Goes 69 e [(4, .ptr (sA s)), (5, mpE e_arr2_Int AV.bool anti), (7, .sb 1500007 64 3 0 acc.length), (8, .box [.int .i64 pa.f_0, .int .i64 pa.f_1]), (24, .mb 1 1000024), (30, .mb 1 1000030), (1000024, .hob 2 (e_arr2_Int pa :: kK rem2) (AV.bool pv :: kV rem2)), (1000030, y), (1500007, .obj 64 3 (tL acc))]
theorem sort3_perm {l m : List arr3_Int} (h : l.Perm m) : sort3 l = sort3 m := by
 have tr : ∀ a b c : arr3_Int, (!ltOf cf3 b a) = true → (!ltOf cf3 c b) = true → (!ltOf cf3 c a) = true := fun a b c h1 h2 => by
  rw [Bool.not_eq_true'] at *
  exact swo3.ntrans _ _ _ h2 h1
 have to : ∀ a b : arr3_Int, ((!ltOf cf3 b a) || !ltOf cf3 a b) = true := fun a b => by
  cases h1 : ltOf cf3 b a
  ·rfl
  ·cases h2 : ltOf cf3 a b
   ·rfl
   ·have := swo3.trans _ _ _ h1 h2
    rw [swo3.irrefl] at this; cases this
 have h1 : ∀ l : List arr3_Int, (sort3 l).Pairwise fun a b => (!ltOf cf3 b a) = true := fun l => List.pairwise_mergeSort tr to l
 refine List.Perm.eq_of_pairwise (le := fun a b => (!ltOf cf3 b a) = true) (fun a b _ _ x y => ?_) (h1 l) (h1 m) ?_
 ·rw [Bool.not_eq_true'] at x y
  exact tot3 a b y x
 ·exact ((List.mergeSort_perm l _).trans h).trans (List.mergeSort_perm m _).symm
theorem run_sort3 {acc : List arr3_Int} (h : acc.length ≤ 1000000) : Run Try.prog (.callM 81 [.sb 2000000 64 3 0 acc.length, .clo 82 []] [(2000000, .obj 64 3 (tL acc))] (.tup []) [(2000000, .obj 64 3 (tL (sort3 acc)))]) :=
 .extM (sort81 (by omega)) (fun id x hx => by simp only [look] at hx; split at hx <;> cases hx; rfl)
theorem danger43a {fuel : Nat} {h : List hsOp} {s : hssnapshot} {anti al : List (arr2_Int × Bool)} (hv : hs_Valid h = some true) (hs : snapP fuel h = some s) (ha : hs_snapshot_allowed s = some true) (he : hs_snapshot_edges s = some (anti, al)) (hov : ∀ p, p ∈ keys2 anti → hs_snapshot_overlap s p.f_0 p.f_1 = some (ovB s p.f_0 p.f_1)) (hT : (triAll (ovB s) (keys2 anti) (keys2 anti)).length ≤ 1000000) :
  CallOk Try.prog 43 [l44 none h] (.tup [.lst 64 3 none (tL (sort3 (triAll (ovB s) (keys2 anti) (keys2 anti)))), .int .i64 0]) := by
 generalize hTT : triAll (ovB s) (keys2 anti) (keys2 anti) = T at hT ⊢
 refine callOk_of_P Try.func43 rfl (by kernel_rfl) (fun e k q xs hh => by cases hh) ?_
 refine CodeP.seq (CodeP.of mixedP (W.region (by kernel_rfl) (WO.finP [0] [] (e2 := [(0, l44 none h)]) (by kernel_rfl) (fun _ h => h) ?_)))
 refine CodeP.seq (CodeP.seq (CodeP.of mixedP (W.region (by kernel_rfl) ?_)))
 refine WO.callK 1 (F := 26) (l := [l44 none h]) (C := []) (r := .bool true) (by kernel_rfl) (by kernel_rfl) (run_hs_Valid h true hv) (e1 := [(0, l44 none h), (10, l44 none h), (11, .bool true)]) (by kernel_rfl) ?_
 refine WO.finP [0, 12] [] (e2 := [(0, l44 none h), (12, .bool false)]) (by kernel_rfl) (fun _ h => h) ?_
 refine CodeP.cond false (by kernel_rfl) (fun h => Bool.noConfusion h) (fun _ => CodeP.of mixedP (W.skip ?_))
 refine CodeP.wk (env' := [(0, l44 none h)]) ?_
 refine CodeP.seq (CodeP.of mixedP (W.region (by kernel_rfl) ?_))
 refine WO.callK 1 (F := 77) (l := [l44 none h]) (C := []) (r := (sA s)) (by kernel_rfl) (by kernel_rfl) (.ext0 (snapshot77 hs)) (e1 := [(0, l44 none h), (13, l44 none h), (14, (sA s))]) (by kernel_rfl) ?_
 refine WO.finP [4] [4] (e2 := [(4, .ptr (sA s))]) (by kernel_rfl) (fun _ h => h) ?_
 refine CodeP.seq (CodeP.seq (CodeP.of mixedP (W.region (by kernel_rfl) ?_)))
 refine WO.callK 1 (F := 78) (l := [(sA s)]) (C := []) (r := .bool true) (by kernel_rfl) (by kernel_rfl) (run_hs_snapshot_allowed s true ha) (e1 := [(4, .ptr (sA s)), (15, (sA s)), (16, .bool true)]) (by kernel_rfl) ?_
 refine WO.finP [4, 17] [] (e2 := [(4, .ptr (sA s)), (17, .bool false)]) (by kernel_rfl) (fun _ h => h) ?_
 refine CodeP.cond false (by kernel_rfl) (fun h => Bool.noConfusion h) (fun _ => CodeP.of mixedP (W.skip ?_))
 refine CodeP.wk (env' := [(4, .ptr (sA s))]) ?_
 refine CodeP.seq (CodeP.of mixedP (W.region (by kernel_rfl) ?_))
 refine WO.callK 1 (F := 79) (l := [(sA s)]) (C := []) (r := .tup [mpE e_arr2_Int AV.bool anti, mpE e_arr2_Int AV.bool al]) (by kernel_rfl) (by kernel_rfl) (run_hs_snapshot_edges s (anti, al) he) (e1 := [(4, .ptr (sA s)), (19, (sA s)), (20, .tup [mpE e_arr2_Int AV.bool anti, mpE e_arr2_Int AV.bool al])]) (by kernel_rfl) ?_
 refine WO.finP [4, 5] [] (e2 := [(4, .ptr (sA s)), (5, mpE e_arr2_Int AV.bool anti)]) (by kernel_rfl) (fun _ h => h) ?_
 refine CodeP.seq (CodeP.reg mixedP (e2 := [(4, .ptr (sA s)), (5, mpE e_arr2_Int AV.bool anti), (7, .nils)]) ?_)
 refine CodeP.mv [.nil 7 64 3 1500007] (env' := [(4, .ptr (sA s)), (5, mpE e_arr2_Int AV.bool anti), (7, .sb 1500007 64 3 0 0), (1500007, .obj 64 3 [])]) ?_
 refine CodeP.seq (CodeP.seq (CodeP.reg mixedP (e2 := [(4, .ptr (sA s)), (5, mpE e_arr2_Int AV.bool anti), (7, .sb 1500007 64 3 0 0), (23, mpE e_arr2_Int AV.bool anti), (24, .mb 1 1000024), (1000024, .hob 1 (kK anti) (kV anti)), (1500007, .obj 64 3 [])]) ?_))
 refine CodeP.wk (env' := [(4, .ptr (sA s)), (5, mpE e_arr2_Int AV.bool anti), (7, .sb 1500007 64 3 0 ([] : List arr3_Int).length), (24, .mb 1 1000024), (1000024, .hob 1 (kK anti) (kV anti)), (1500007, .obj 64 3 (tL ([] : List arr3_Int)))]) ?_
 refine CodeP.block (CodeP.loop (I := DanO s anti T) ?_ anti.length ⟨[], anti, .hob 1 (kK anti) (kV anti), rfl, fun _ h => h, rfl, by rw [hTT]; exact List.Perm.refl _, Goes.refl _⟩)
 rintro k e ⟨acc, rem, y, hk, hm1, hy, hp, hg⟩
 refine CodeP.goes hg ?_
 refine CodeP.seq ?_
 refine CodeP.next mixedP rfl rfl (by kernel_rfl) (it := 1000024) (y := y) (ks := kK rem) (vs := kV rem) rfl rfl hy (envF := [(4, .ptr (sA s)), (5, mpE e_arr2_Int AV.bool anti), (7, .sb 1500007 64 3 0 acc.length), (24, .mb 1 1000024), (25, .tup [.bool false]), (1000024, y), (1500007, .obj 64 3 (tL acc))]) (by kernel_rfl)
  (envT := fun j => [(4, .ptr (sA s)), (5, mpE e_arr2_Int AV.bool anti), (7, .sb 1500007 64 3 0 acc.length), (24, .mb 1 1000024), (25, .tup [.bool true, .top, .top]), (1000024, nextEnt (kK rem) (kV rem) j), (1500007, .obj 64 3 (tL acc))]) (fun j _ => by kernel_rfl) (fun h0 _ => ?_) (fun j hj _ => ?_)
 ·
  refine WO.end0 (e2 := [(4, .ptr (sA s)), (5, mpE e_arr2_Int AV.bool anti), (7, .sb 1500007 64 3 0 acc.length), (24, .mb 1 1000024), (25, .tup [.bool false]), (26, .bool false), (1000024, y), (1500007, .obj 64 3 (tL acc))]) (by kernel_rfl) ?_
  have hr0 : rem = [] := by simpa [kK] using h0
  subst hr0
  have hpa : acc.Perm T := by simpa [triAll] using hp
  refine CodeP.seq (CodeP.cond false (by kernel_rfl) (fun h => Bool.noConfusion h) (fun _ => CodeP.of mixedP (W.exit ?_)))
  have hla : acc.length ≤ 1000000 := by rw [hpa.length_eq]; exact hT
  refine CodeP.wk (env' := [(7, .sb 1500007 64 3 0 acc.length), (1500007, .obj 64 3 (tL acc))]) ?_
  refine CodeP.of mixedP ?_
  refine W.seq ?_
  refine W.region (by kernel_rfl) ?_
  refine WO.callMK 1 [(1500007, 2000000)] [] (F := 81) (args := [.sb 2000000 64 3 0 acc.length, .clo 82 []]) (hp := [(2000000, .obj 64 3 (tL acc))]) (hp2 := [(2000000, .obj 64 3 (tL (sort3 acc)))]) (r := .tup []) (by kernel_rfl) (run_sort3 hla) (e1 := [(7, .sb 1500007 64 3 0 acc.length), (66, .sb 1500007 64 3 0 acc.length), (67, .tup []), (1500007, .obj 64 3 (tL (sort3 acc)))]) (by kernel_rfl) ?_
  refine WO.fin [7, 1500007] [] [] [] (e2 := [(7, .sb 1500007 64 3 0 acc.length), (1500007, .obj 64 3 (tL (sort3 acc)))]) (by kernel_rfl) (fun _ h => h) ?_
  refine W.seq ?_
  refine W.regT [2, 3, 1500007] [] [] [] (e2 := [(2, .sb 1500007 64 3 0 acc.length), (3, .int .i64 0), (1500007, .obj 64 3 (tL (sort3 acc)))]) (by kernel_rfl) (by kernel_rfl) (fun _ h => h) ?_
  have hsl : (sort3 acc).length = acc.length := sort3_len acc
  have hsn : snapA 0 acc.length (tL (sort3 acc)) = tL (sort3 T) := by
   rw [sort3_perm hpa] at hsl ⊢
   unfold snapA tL
   rw [List.drop_zero, List.take_of_length_le (by rw [List.length_map, hsl]; exact Nat.le_refl _)]
  refine W.mv [.frz 1500007] (env' := [(2, .lst 64 3 none (tL (sort3 T))), (3, .int .i64 0)]) ((by kernel_rfl : mvAll [(2, .sb 1500007 64 3 0 acc.length), (3, .int .i64 0), (1500007, .obj 64 3 (tL (sort3 acc)))] [.frz 1500007] = [(2, .lst 64 3 none (snapA 0 acc.length (tL (sort3 acc)))), (3, .int .i64 0)]).trans (by rw [hsn])) ?_
  have hr : aresults Try.prog Try.f43 [(2, .lst 64 3 none (tL (sort3 T))), (3, .int .i64 0)] = some (.tup [.lst 64 3 none (tL (sort3 T)), .int .i64 0]) := by kernel_rfl
  exact W.ret hr
 ·
  have hj : j < rem.length := by simpa [kK] using hj
  show WO Try.prog _ false _ _ _ [(4, .ptr (sA s)), (5, mpE e_arr2_Int AV.bool anti), (7, .sb 1500007 64 3 0 acc.length), (24, .mb 1 1000024), (25, .tup [.bool true, .top, .top]), (1000024, nextEnt (kK rem) (kV rem) j), (1500007, .obj 64 3 (tL acc))]
  rw [next_pairs2 rem hj]
  have hpt := tri_take1 (ov := ovB s) (all := keys2 anti) hj hp
  have hel : (rem.eraseIdx j).length = rem.length - 1 := by rw [List.length_eraseIdx, if_pos hj]
  have hpm : rem[j].1 ∈ keys2 anti := List.mem_map.2 ⟨_, hm1 _ (List.getElem_mem hj), rfl⟩
  have hmr : ∀ p, p ∈ rem.eraseIdx j → p ∈ anti := fun p hp => hm1 p (List.mem_of_mem_eraseIdx hp)
  generalize hp1 : rem[j].1 = pa at hpt hpm ⊢
  generalize hp2 : rem[j].2 = pv at hpt ⊢
  generalize rem.eraseIdx j = rem2 at hpt hel hmr ⊢
  refine WO.end0 (e2 := [(4, .ptr (sA s)), (5, mpE e_arr2_Int AV.bool anti), (7, .sb 1500007 64 3 0 acc.length), (24, .mb 1 1000024), (25, .tup [.bool true, .top, .top]), (26, .bool true), (1000024, .hob 2 (e_arr2_Int pa :: kK rem2) (AV.bool pv :: kV rem2)), (1500007, .obj 64 3 (tL acc))]) (by kernel_rfl) ?_
  refine CodeP.seq (CodeP.cond true (by kernel_rfl) (fun _ => CodeP.of mixedP (W.skip ?_)) (fun h => Bool.noConfusion h))
  refine CodeP.wk (env' := [(4, .ptr (sA s)), (5, mpE e_arr2_Int AV.bool anti), (7, .sb 1500007 64 3 0 acc.length), (24, .mb 1 1000024), (1000024, .hob 2 (e_arr2_Int pa :: kK rem2) (AV.bool pv :: kV rem2)), (1500007, .obj 64 3 (tL acc))]) ?_
  refine CodeP.block (CodeP.seq (CodeP.of mixedP (W.region (by kernel_rfl) (WO.finP [4, 5, 7, 8, 24, 1000024, 1500007] [] (e2 := [(4, .ptr (sA s)), (5, mpE e_arr2_Int AV.bool anti), (7, .sb 1500007 64 3 0 acc.length), (8, .box [.int .i64 pa.f_0, .int .i64 pa.f_1]), (24, .mb 1 1000024), (1000024, .hob 2 (e_arr2_Int pa :: kK rem2) (AV.bool pv :: kV rem2)), (1500007, .obj 64 3 (tL acc))]) (by kernel_rfl) (fun _ h => h) ?_))))
  refine CodeP.seq (CodeP.reg mixedP (e2 := [(4, .ptr (sA s)), (5, mpE e_arr2_Int AV.bool anti), (7, .sb 1500007 64 3 0 acc.length), (8, .box [.int .i64 pa.f_0, .int .i64 pa.f_1]), (24, .mb 1 1000024), (29, mpE e_arr2_Int AV.bool anti), (30, .mb 1 1000030), (1000024, .hob 2 (e_arr2_Int pa :: kK rem2) (AV.bool pv :: kV rem2)), (1000030, .hob 1 (kK anti) (kV anti)), (1500007, .obj 64 3 (tL acc))]) ?_)
  refine CodeP.wk (env' := [(4, .ptr (sA s)), (5, mpE e_arr2_Int AV.bool anti), (7, .sb 1500007 64 3 0 acc.length), (8, .box [.int .i64 pa.f_0, .int .i64 pa.f_1]), (24, .mb 1 1000024), (30, .mb 1 1000030), (1000024, .hob 2 (e_arr2_Int pa :: kK rem2) (AV.bool pv :: kV rem2)), (1000030, .hob 1 (kK anti) (kV anti)), (1500007, .obj 64 3 (tL acc))]) ?_
  refine CodeP.block (CodeP.loop (I := DanI s anti T pa pv rem2) ?_ anti.length ⟨acc, anti, .hob 1 (kK anti) (kV anti), rfl, fun _ h => h, rfl, hpt, Goes.refl _⟩)
  have hlt2 : k = rem2.length + 1 := by omega
  clear hy hg hk hp
  rintro k2 e ⟨acc, rem, y, hk2, hm2, hy, hp, hg⟩
  refine CodeP.goes hg ?_
  refine CodeP.seq ?_
  refine CodeP.next mixedP rfl rfl (by kernel_rfl) (it := 1000030) (y := y) (ks := kK rem) (vs := kV rem) rfl rfl hy (envF := [(4, .ptr (sA s)), (5, mpE e_arr2_Int AV.bool anti), (7, .sb 1500007 64 3 0 acc.length), (8, .box [.int .i64 pa.f_0, .int .i64 pa.f_1]), (24, .mb 1 1000024), (30, .mb 1 1000030), (31, .tup [.bool false]), (1000024, .hob 2 (e_arr2_Int pa :: kK rem2) (AV.bool pv :: kV rem2)), (1000030, y), (1500007, .obj 64 3 (tL acc))]) (by kernel_rfl)
   (envT := fun j => [(4, .ptr (sA s)), (5, mpE e_arr2_Int AV.bool anti), (7, .sb 1500007 64 3 0 acc.length), (8, .box [.int .i64 pa.f_0, .int .i64 pa.f_1]), (24, .mb 1 1000024), (30, .mb 1 1000030), (31, .tup [.bool true, .top, .top]), (1000024, .hob 2 (e_arr2_Int pa :: kK rem2) (AV.bool pv :: kV rem2)), (1000030, nextEnt (kK rem) (kV rem) j), (1500007, .obj 64 3 (tL acc))]) (fun j _ => by kernel_rfl) (fun h0 _ => ?_) (fun j hj _ => ?_)
  ·
   refine WO.end0 (e2 := [(4, .ptr (sA s)), (5, mpE e_arr2_Int AV.bool anti), (7, .sb 1500007 64 3 0 acc.length), (8, .box [.int .i64 pa.f_0, .int .i64 pa.f_1]), (24, .mb 1 1000024), (30, .mb 1 1000030), (31, .tup [.bool false]), (32, .bool false), (1000024, .hob 2 (e_arr2_Int pa :: kK rem2) (AV.bool pv :: kV rem2)), (1000030, y), (1500007, .obj 64 3 (tL acc))]) (by kernel_rfl) ?_
   have hr0 : rem = [] := by simpa [kK] using h0
   subst hr0
   refine CodeP.seq (CodeP.cond false (by kernel_rfl) (fun h => Bool.noConfusion h) (fun _ => CodeP.of mixedP (W.exit ?_)))
   exact ⟨rem2.length, hlt2, acc, rem2, .hob 2 (e_arr2_Int pa :: kK rem2) (AV.bool pv :: kV rem2), rfl, hmr, rfl, by simpa [triIn] using hp, Goes.wk (e1 := [(4, .ptr (sA s)), (5, mpE e_arr2_Int AV.bool anti), (7, .sb 1500007 64 3 0 acc.length), (24, .mb 1 1000024), (1000024, .hob 2 (e_arr2_Int pa :: kK rem2) (AV.bool pv :: kV rem2)), (1500007, .obj 64 3 (tL acc))]) (Goes.refl _)⟩
  ·
   have hj : j < rem.length := by simpa [kK] using hj
   show WO Try.prog _ false _ _ _ [(4, .ptr (sA s)), (5, mpE e_arr2_Int AV.bool anti), (7, .sb 1500007 64 3 0 acc.length), (8, .box [.int .i64 pa.f_0, .int .i64 pa.f_1]), (24, .mb 1 1000024), (30, .mb 1 1000030), (31, .tup [.bool true, .top, .top]), (1000024, .hob 2 (e_arr2_Int pa :: kK rem2) (AV.bool pv :: kV rem2)), (1000030, nextEnt (kK rem) (kV rem) j), (1500007, .obj 64 3 (tL acc))]
   rw [next_pairs2 rem hj]
   have hpt := tri_take2 (ov := ovB s) hj hp
   have hel2 : (rem.eraseIdx j).length = rem.length - 1 := by rw [List.length_eraseIdx, if_pos hj]
   have hqm : rem[j].1 ∈ keys2 anti := List.mem_map.2 ⟨_, hm2 _ (List.getElem_mem hj), rfl⟩
   have hms : ∀ p, p ∈ rem.eraseIdx j → p ∈ anti := fun p hp => hm2 p (List.mem_of_mem_eraseIdx hp)
   generalize hq1 : rem[j].1 = qa at hpt hqm ⊢
   generalize hq2 : rem[j].2 = qv at hpt ⊢
   generalize rem.eraseIdx j = rem3 at hpt hel2 hms ⊢
   refine WO.end0 (e2 := [(4, .ptr (sA s)), (5, mpE e_arr2_Int AV.bool anti), (7, .sb 1500007 64 3 0 acc.length), (8, .box [.int .i64 pa.f_0, .int .i64 pa.f_1]), (24, .mb 1 1000024), (30, .mb 1 1000030), (31, .tup [.bool true, .top, .top]), (32, .bool true), (1000024, .hob 2 (e_arr2_Int pa :: kK rem2) (AV.bool pv :: kV rem2)), (1000030, .hob 2 (e_arr2_Int qa :: kK rem3) (AV.bool qv :: kV rem3)), (1500007, .obj 64 3 (tL acc))]) (by kernel_rfl) ?_
   refine CodeP.seq (CodeP.cond true (by kernel_rfl) (fun _ => CodeP.of mixedP (W.skip ?_)) (fun h => Bool.noConfusion h))
   refine CodeP.wk (env' := [(4, .ptr (sA s)), (5, mpE e_arr2_Int AV.bool anti), (7, .sb 1500007 64 3 0 acc.length), (8, .box [.int .i64 pa.f_0, .int .i64 pa.f_1]), (24, .mb 1 1000024), (30, .mb 1 1000030), (1000024, .hob 2 (e_arr2_Int pa :: kK rem2) (AV.bool pv :: kV rem2)), (1000030, .hob 2 (e_arr2_Int qa :: kK rem3) (AV.bool qv :: kV rem3)), (1500007, .obj 64 3 (tL acc))]) ?_
   refine CodeP.block (CodeP.seq (CodeP.of mixedP (W.region (by kernel_rfl) (WO.finP [4, 5, 7, 8, 9, 24, 30, 1000024, 1000030, 1500007] [] (e2 := [(4, .ptr (sA s)), (5, mpE e_arr2_Int AV.bool anti), (7, .sb 1500007 64 3 0 acc.length), (8, .box [.int .i64 pa.f_0, .int .i64 pa.f_1]), (9, .box [.int .i64 qa.f_0, .int .i64 qa.f_1]), (24, .mb 1 1000024), (30, .mb 1 1000030), (1000024, .hob 2 (e_arr2_Int pa :: kK rem2) (AV.bool pv :: kV rem2)), (1000030, .hob 2 (e_arr2_Int qa :: kK rem3) (AV.bool qv :: kV rem3)), (1500007, .obj 64 3 (tL acc))]) (by kernel_rfl) (fun _ h => h) ?_))))
   have hend : ∀ e, Goes 69 e [(4, .ptr (sA s)), (5, mpE e_arr2_Int AV.bool anti), (7, .sb 1500007 64 3 0 acc.length), (8, .box [.int .i64 pa.f_0, .int .i64 pa.f_1]), (24, .mb 1 1000024), (30, .mb 1 1000030), (1000024, .hob 2 (e_arr2_Int pa :: kK rem2) (AV.bool pv :: kV rem2)), (1000030, .hob 2 (e_arr2_Int qa :: kK rem3) (AV.bool qv :: kV rem3)), (1500007, .obj 64 3 (tL acc))] → (acc ++ triIn (ovB s) pa (keys2 rem3) ++ triAll (ovB s) (keys2 anti) (keys2 rem2)).Perm T → DanI s anti T pa pv rem2 rem3.length e := fun e hg hp => ⟨acc, rem3, .hob 2 (e_arr2_Int qa :: kK rem3) (AV.bool qv :: kV rem3), rfl, hms, rfl, hp, hg⟩
   refine CodeP.seq (CodeP.of mixedP (W.region (by kernel_rfl) ?_))
   refine WO.boolK 6 (fun b => [(4, .ptr (sA s)), (5, mpE e_arr2_Int AV.bool anti), (7, .sb 1500007 64 3 0 acc.length), (8, .box [.int .i64 pa.f_0, .int .i64 pa.f_1]), (9, .box [.int .i64 qa.f_0, .int .i64 qa.f_1]), (24, .mb 1 1000024), (30, .mb 1 1000030), (35, .pb 8 1), (36, .int .i64 pa.f_1), (37, .pb 9 0), (38, .int .i64 qa.f_0), (39, .bool b), (40, .bool b), (1000024, .hob 2 (e_arr2_Int pa :: kK rem2) (AV.bool pv :: kV rem2)), (1000030, .hob 2 (e_arr2_Int qa :: kK rem3) (AV.bool qv :: kV rem3)), (1500007, .obj 64 3 (tL acc))]) (pa.f_1 == qa.f_0) (by kernel_rfl) (fun hb1 => ?_) (fun hb1 => ?_)
   ·have ho1 := hov pa hpm
    refine WO.callK 5 (F := 80) (l := [(sA s), .int .i64 pa.f_0, .int .i64 pa.f_1]) (C := []) (r := .bool (ovB s pa.f_0 pa.f_1)) (by kernel_rfl) (by kernel_rfl) (run_hs_snapshot_overlap s _ _ _ ho1) (e1 := [(4, .ptr (sA s)), (5, mpE e_arr2_Int AV.bool anti), (7, .sb 1500007 64 3 0 acc.length), (8, .box [.int .i64 pa.f_0, .int .i64 pa.f_1]), (9, .box [.int .i64 qa.f_0, .int .i64 qa.f_1]), (24, .mb 1 1000024), (30, .mb 1 1000030), (35, .pb 8 1), (36, .int .i64 pa.f_1), (37, .pb 9 0), (38, .int .i64 qa.f_0), (39, .bool true), (40, .bool true), (41, (sA s)), (42, .pb 8 0), (43, .int .i64 pa.f_0), (44, .pb 8 1), (45, .int .i64 pa.f_1), (46, .bool (ovB s pa.f_0 pa.f_1)), (1000024, .hob 2 (e_arr2_Int pa :: kK rem2) (AV.bool pv :: kV rem2)), (1000030, .hob 2 (e_arr2_Int qa :: kK rem3) (AV.bool qv :: kV rem3)), (1500007, .obj 64 3 (tL acc))]) (by kernel_rfl) ?_
    refine WO.boolK 2 (fun b => [(4, .ptr (sA s)), (5, mpE e_arr2_Int AV.bool anti), (7, .sb 1500007 64 3 0 acc.length), (8, .box [.int .i64 pa.f_0, .int .i64 pa.f_1]), (9, .box [.int .i64 qa.f_0, .int .i64 qa.f_1]), (24, .mb 1 1000024), (30, .mb 1 1000030), (35, .pb 8 1), (36, .int .i64 pa.f_1), (37, .pb 9 0), (38, .int .i64 qa.f_0), (39, .bool true), (40, .bool true), (41, (sA s)), (42, .pb 8 0), (43, .int .i64 pa.f_0), (44, .pb 8 1), (45, .int .i64 pa.f_1), (46, .bool b), (47, .bool b), (48, .bool b), (1000024, .hob 2 (e_arr2_Int pa :: kK rem2) (AV.bool pv :: kV rem2)), (1000030, .hob 2 (e_arr2_Int qa :: kK rem3) (AV.bool qv :: kV rem3)), (1500007, .obj 64 3 (tL acc))]) (ovB s pa.f_0 pa.f_1) (by kernel_rfl) (fun hb2 => ?_) (fun hb2 => ?_)
    ·have ho2 := hov qa hqm
     refine WO.callK 5 (F := 80) (l := [(sA s), .int .i64 qa.f_0, .int .i64 qa.f_1]) (C := []) (r := .bool (ovB s qa.f_0 qa.f_1)) (by kernel_rfl) (by kernel_rfl) (run_hs_snapshot_overlap s _ _ _ ho2) (e1 := [(4, .ptr (sA s)), (5, mpE e_arr2_Int AV.bool anti), (7, .sb 1500007 64 3 0 acc.length), (8, .box [.int .i64 pa.f_0, .int .i64 pa.f_1]), (9, .box [.int .i64 qa.f_0, .int .i64 qa.f_1]), (24, .mb 1 1000024), (30, .mb 1 1000030), (35, .pb 8 1), (36, .int .i64 pa.f_1), (37, .pb 9 0), (38, .int .i64 qa.f_0), (39, .bool true), (40, .bool true), (41, (sA s)), (42, .pb 8 0), (43, .int .i64 pa.f_0), (44, .pb 8 1), (45, .int .i64 pa.f_1), (46, .bool true), (47, .bool true), (48, .bool true), (49, (sA s)), (50, .pb 9 0), (51, .int .i64 qa.f_0), (52, .pb 9 1), (53, .int .i64 qa.f_1), (54, .bool (ovB s qa.f_0 qa.f_1)), (1000024, .hob 2 (e_arr2_Int pa :: kK rem2) (AV.bool pv :: kV rem2)), (1000030, .hob 2 (e_arr2_Int qa :: kK rem3) (AV.bool qv :: kV rem3)), (1500007, .obj 64 3 (tL acc))]) (by kernel_rfl) ?_
     refine WO.boolK 1 (fun b => [(4, .ptr (sA s)), (5, mpE e_arr2_Int AV.bool anti), (7, .sb 1500007 64 3 0 acc.length), (8, .box [.int .i64 pa.f_0, .int .i64 pa.f_1]), (9, .box [.int .i64 qa.f_0, .int .i64 qa.f_1]), (24, .mb 1 1000024), (30, .mb 1 1000030), (35, .pb 8 1), (36, .int .i64 pa.f_1), (37, .pb 9 0), (38, .int .i64 qa.f_0), (39, .bool true), (40, .bool true), (41, (sA s)), (42, .pb 8 0), (43, .int .i64 pa.f_0), (44, .pb 8 1), (45, .int .i64 pa.f_1), (46, .bool true), (47, .bool true), (48, .bool true), (49, (sA s)), (50, .pb 9 0), (51, .int .i64 qa.f_0), (52, .pb 9 1), (53, .int .i64 qa.f_1), (54, .bool b), (55, .bool b), (1000024, .hob 2 (e_arr2_Int pa :: kK rem2) (AV.bool pv :: kV rem2)), (1000030, .hob 2 (e_arr2_Int qa :: kK rem3) (AV.bool qv :: kV rem3)), (1500007, .obj 64 3 (tL acc))]) (ovB s qa.f_0 qa.f_1) (by kernel_rfl) (fun hb3 => ?_) (fun hb3 => ?_)
     ·
      refine WO.finP [4, 5, 7, 8, 9, 24, 30, 55, 1000024, 1000030, 1500007] [] (e2 := [(4, .ptr (sA s)), (5, mpE e_arr2_Int AV.bool anti), (7, .sb 1500007 64 3 0 acc.length), (8, .box [.int .i64 pa.f_0, .int .i64 pa.f_1]), (9, .box [.int .i64 qa.f_0, .int .i64 qa.f_1]), (24, .mb 1 1000024), (30, .mb 1 1000030), (55, .bool true), (1000024, .hob 2 (e_arr2_Int pa :: kK rem2) (AV.bool pv :: kV rem2)), (1000030, .hob 2 (e_arr2_Int qa :: kK rem3) (AV.bool qv :: kV rem3)), (1500007, .obj 64 3 (tL acc))]) (by kernel_rfl) (fun _ h => h) ?_
      refine CodeP.cond true (by kernel_rfl) (fun _ => ?_) (fun h => Bool.noConfusion h)
      refine CodeP.wk (env' := [(4, .ptr (sA s)), (5, mpE e_arr2_Int AV.bool anti), (7, .sb 1500007 64 3 0 acc.length), (8, .box [.int .i64 pa.f_0, .int .i64 pa.f_1]), (9, .box [.int .i64 qa.f_0, .int .i64 qa.f_1]), (24, .mb 1 1000024), (30, .mb 1 1000030), (1000024, .hob 2 (e_arr2_Int pa :: kK rem2) (AV.bool pv :: kV rem2)), (1000030, .hob 2 (e_arr2_Int qa :: kK rem3) (AV.bool qv :: kV rem3)), (1500007, .obj 64 3 (tL acc))]) ?_
      have hlen : acc.length + 1 ≤ 1000000 := by have := hpt.length_eq; simp [tri2, hb1, hb2, hb3] at this; omega
      refine CodeP.of mixedP (W.region (by kernel_rfl) ?_)
      refine WO.appendOK 9 (d := 65) (e := 64) (s := 3) (bytes := 24) (m := acc.length) (n2 := (acc ++ [(arr3_Int.mk pa.f_0 pa.f_1 qa.f_1)]).length) (xs := tL acc) (ys := tL [(arr3_Int.mk pa.f_0 pa.f_1 qa.f_1)]) (zs := tL (acc ++ [(arr3_Int.mk pa.f_0 pa.f_1 qa.f_1)])) (env1 := [(4, .ptr (sA s)), (5, mpE e_arr2_Int AV.bool anti), (7, .top), (8, .box [.int .i64 pa.f_0, .int .i64 pa.f_1]), (9, .box [.int .i64 qa.f_0, .int .i64 qa.f_1]), (24, .mb 1 1000024), (30, .mb 1 1000030), (56, .top), (57, .pb 8 0), (58, .int .i64 pa.f_0), (59, .pb 8 1), (60, .int .i64 pa.f_1), (61, .pb 9 1), (62, .int .i64 qa.f_1), (63, e_arr3_Int (arr3_Int.mk pa.f_0 pa.f_1 qa.f_1)), (64, .lst 64 3 (some 64) (tL [(arr3_Int.mk pa.f_0 pa.f_1 qa.f_1)])), (1000024, .hob 2 (e_arr2_Int pa :: kK rem2) (AV.bool pv :: kV rem2)), (1000030, .hob 2 (e_arr2_Int qa :: kK rem3) (AV.bool qv :: kV rem3))]) (by kernel_rfl) (cap3 hlen) (snap3 acc (arr3_Int.mk pa.f_0 pa.f_1 qa.f_1)) (List.length_map _) (e1 := [(4, .ptr (sA s)), (5, mpE e_arr2_Int AV.bool anti), (7, .top), (8, .box [.int .i64 pa.f_0, .int .i64 pa.f_1]), (9, .box [.int .i64 qa.f_0, .int .i64 qa.f_1]), (24, .mb 1 1000024), (30, .mb 1 1000030), (56, .top), (57, .pb 8 0), (58, .int .i64 pa.f_0), (59, .pb 8 1), (60, .int .i64 pa.f_1), (61, .pb 9 1), (62, .int .i64 qa.f_1), (63, e_arr3_Int (arr3_Int.mk pa.f_0 pa.f_1 qa.f_1)), (64, .lst 64 3 (some 64) (tL [(arr3_Int.mk pa.f_0 pa.f_1 qa.f_1)])), (65, .sb 1000065 64 3 0 (acc ++ [(arr3_Int.mk pa.f_0 pa.f_1 qa.f_1)]).length), (1000024, .hob 2 (e_arr2_Int pa :: kK rem2) (AV.bool pv :: kV rem2)), (1000030, .hob 2 (e_arr2_Int qa :: kK rem3) (AV.bool qv :: kV rem3)), (1000065, .obj 64 3 (tL (acc ++ [(arr3_Int.mk pa.f_0 pa.f_1 qa.f_1)])))]) (by kernel_rfl) ?_
      refine WO.end0 (e2 := [(4, .ptr (sA s)), (5, mpE e_arr2_Int AV.bool anti), (7, .sb 1000065 64 3 0 (acc ++ [(arr3_Int.mk pa.f_0 pa.f_1 qa.f_1)]).length), (8, .box [.int .i64 pa.f_0, .int .i64 pa.f_1]), (9, .box [.int .i64 qa.f_0, .int .i64 qa.f_1]), (24, .mb 1 1000024), (30, .mb 1 1000030), (56, .top), (57, .pb 8 0), (58, .int .i64 pa.f_0), (59, .pb 8 1), (60, .int .i64 pa.f_1), (61, .pb 9 1), (62, .int .i64 qa.f_1), (63, e_arr3_Int (arr3_Int.mk pa.f_0 pa.f_1 qa.f_1)), (64, .lst 64 3 (some 64) (tL [(arr3_Int.mk pa.f_0 pa.f_1 qa.f_1)])), (65, .sb 1000065 64 3 0 (acc ++ [(arr3_Int.mk pa.f_0 pa.f_1 qa.f_1)]).length), (1000024, .hob 2 (e_arr2_Int pa :: kK rem2) (AV.bool pv :: kV rem2)), (1000030, .hob 2 (e_arr2_Int qa :: kK rem3) (AV.bool qv :: kV rem3)), (1000065, .obj 64 3 (tL (acc ++ [(arr3_Int.mk pa.f_0 pa.f_1 qa.f_1)])))]) (by kernel_rfl) ?_
      exact ⟨rem3.length, by omega, (acc ++ [(arr3_Int.mk pa.f_0 pa.f_1 qa.f_1)]), rem3, .hob 2 (e_arr2_Int qa :: kK rem3) (AV.bool qv :: kV rem3), rfl, hms, rfl, by simpa [tri2, hb1, hb2, hb3] using hpt, Goes.wk (e1 := [(4, .ptr (sA s)), (5, mpE e_arr2_Int AV.bool anti), (7, .sb 1000065 64 3 0 (acc ++ [(arr3_Int.mk pa.f_0 pa.f_1 qa.f_1)]).length), (8, .box [.int .i64 pa.f_0, .int .i64 pa.f_1]), (24, .mb 1 1000024), (30, .mb 1 1000030), (1000024, .hob 2 (e_arr2_Int pa :: kK rem2) (AV.bool pv :: kV rem2)), (1000030, .hob 2 (e_arr2_Int qa :: kK rem3) (AV.bool qv :: kV rem3)), (1000065, .obj 64 3 (tL (acc ++ [(arr3_Int.mk pa.f_0 pa.f_1 qa.f_1)])))]) (Goes.mv [.ren 1000065 1500007] (Goes.refl _))⟩
     ·skip
      refine WO.finP [4, 5, 7, 8, 9, 24, 30, 55, 1000024, 1000030, 1500007] [] (e2 := [(4, .ptr (sA s)), (5, mpE e_arr2_Int AV.bool anti), (7, .sb 1500007 64 3 0 acc.length), (8, .box [.int .i64 pa.f_0, .int .i64 pa.f_1]), (9, .box [.int .i64 qa.f_0, .int .i64 qa.f_1]), (24, .mb 1 1000024), (30, .mb 1 1000030), (55, .bool false), (1000024, .hob 2 (e_arr2_Int pa :: kK rem2) (AV.bool pv :: kV rem2)), (1000030, .hob 2 (e_arr2_Int qa :: kK rem3) (AV.bool qv :: kV rem3)), (1500007, .obj 64 3 (tL acc))]) (by kernel_rfl) (fun _ h => h) ?_
      refine CodeP.cond false (by kernel_rfl) (fun h => Bool.noConfusion h) (fun _ => CodeP.of mixedP (W.skip ?_))
      exact ⟨rem3.length, by omega, hend _ (Goes.wk (e1 := [(4, .ptr (sA s)), (5, mpE e_arr2_Int AV.bool anti), (7, .sb 1500007 64 3 0 acc.length), (8, .box [.int .i64 pa.f_0, .int .i64 pa.f_1]), (24, .mb 1 1000024), (30, .mb 1 1000030), (1000024, .hob 2 (e_arr2_Int pa :: kK rem2) (AV.bool pv :: kV rem2)), (1000030, .hob 2 (e_arr2_Int qa :: kK rem3) (AV.bool qv :: kV rem3)), (1500007, .obj 64 3 (tL acc))]) (Goes.refl _)) (by simpa [tri2, hb1, hb2, hb3] using hpt)⟩
    ·skip
     refine WO.finP [4, 5, 7, 8, 9, 24, 30, 55, 1000024, 1000030, 1500007] [] (e2 := [(4, .ptr (sA s)), (5, mpE e_arr2_Int AV.bool anti), (7, .sb 1500007 64 3 0 acc.length), (8, .box [.int .i64 pa.f_0, .int .i64 pa.f_1]), (9, .box [.int .i64 qa.f_0, .int .i64 qa.f_1]), (24, .mb 1 1000024), (30, .mb 1 1000030), (55, .bool false), (1000024, .hob 2 (e_arr2_Int pa :: kK rem2) (AV.bool pv :: kV rem2)), (1000030, .hob 2 (e_arr2_Int qa :: kK rem3) (AV.bool qv :: kV rem3)), (1500007, .obj 64 3 (tL acc))]) (by kernel_rfl) (fun _ h => h) ?_
     refine CodeP.cond false (by kernel_rfl) (fun h => Bool.noConfusion h) (fun _ => CodeP.of mixedP (W.skip ?_))
     exact ⟨rem3.length, by omega, hend _ (Goes.wk (e1 := [(4, .ptr (sA s)), (5, mpE e_arr2_Int AV.bool anti), (7, .sb 1500007 64 3 0 acc.length), (8, .box [.int .i64 pa.f_0, .int .i64 pa.f_1]), (24, .mb 1 1000024), (30, .mb 1 1000030), (1000024, .hob 2 (e_arr2_Int pa :: kK rem2) (AV.bool pv :: kV rem2)), (1000030, .hob 2 (e_arr2_Int qa :: kK rem3) (AV.bool qv :: kV rem3)), (1500007, .obj 64 3 (tL acc))]) (Goes.refl _)) (by simpa [tri2, hb1, hb2] using hpt)⟩
   ·skip
    refine WO.finP [4, 5, 7, 8, 9, 24, 30, 55, 1000024, 1000030, 1500007] [] (e2 := [(4, .ptr (sA s)), (5, mpE e_arr2_Int AV.bool anti), (7, .sb 1500007 64 3 0 acc.length), (8, .box [.int .i64 pa.f_0, .int .i64 pa.f_1]), (9, .box [.int .i64 qa.f_0, .int .i64 qa.f_1]), (24, .mb 1 1000024), (30, .mb 1 1000030), (55, .bool false), (1000024, .hob 2 (e_arr2_Int pa :: kK rem2) (AV.bool pv :: kV rem2)), (1000030, .hob 2 (e_arr2_Int qa :: kK rem3) (AV.bool qv :: kV rem3)), (1500007, .obj 64 3 (tL acc))]) (by kernel_rfl) (fun _ h => h) ?_
    refine CodeP.cond false (by kernel_rfl) (fun h => Bool.noConfusion h) (fun _ => CodeP.of mixedP (W.skip ?_))
    exact ⟨rem3.length, by omega, hend _ (Goes.wk (e1 := [(4, .ptr (sA s)), (5, mpE e_arr2_Int AV.bool anti), (7, .sb 1500007 64 3 0 acc.length), (8, .box [.int .i64 pa.f_0, .int .i64 pa.f_1]), (24, .mb 1 1000024), (30, .mb 1 1000030), (1000024, .hob 2 (e_arr2_Int pa :: kK rem2) (AV.bool pv :: kV rem2)), (1000030, .hob 2 (e_arr2_Int qa :: kK rem3) (AV.bool qv :: kV rem3)), (1500007, .obj 64 3 (tL acc))]) (Goes.refl _)) (by simpa [tri2, hb1] using hpt)⟩
def dangerP (fuel : Nat) (a1 : List hsOp) : Option (List arr3_Int × Int) :=
 (hs_Valid a1).bind fun v => bif !v then some ([], 2) else (snapP fuel a1).bind fun s => (hs_snapshot_allowed s).bind fun a => bif !a then some ([], 7) else (hs_snapshot_edges s).bind fun e =>
  chk ((keys2 e.1).all (fun p => (hs_snapshot_overlap s p.f_0 p.f_1).isSome) && decide ((triAll (ovB s) (keys2 e.1) (keys2 e.1)).length ≤ 1000000)) (some (sort3 (triAll (ovB s) (keys2 e.1) (keys2 e.1)), 0))
theorem danger43 {fuel : Nat} {a1 : List hsOp} {r : List arr3_Int × Int} (h : dangerP fuel a1 = some r) : Run Try.prog (.call 43 [l44 none a1] (.tup [l64 none r.1, .int .i64 r.2])) := by
 unfold dangerP at h
 obtain ⟨v, hv, h⟩ := bind_some h
 cases v with
 | false =>
  cases h
  refine call_of_W Try.func43 rfl (by kernel_rfl) (env0 := [(0, l44 none a1)]) (by kernel_rfl) ?_
  refine W.seq ?_
  refine W.regT [0] [] [] [] (e2 := [(0, l44 none a1)]) (by kernel_rfl) (by kernel_rfl) (fun _ h => h) ?_
  refine W.seq ?_
  refine W.seq ?_
  refine W.region (by kernel_rfl) ?_
  refine WO.callK 1 (F := 26) (l := [l44 none a1]) (C := []) (r := .bool false) (by kernel_rfl) (by kernel_rfl) (run_hs_Valid a1 false hv) (e1 := [(0, l44 none a1), (10, l44 none a1), (11, .bool false)]) (by kernel_rfl) ?_
  refine WO.fin [0, 12] [] [] [] (e2 := [(0, l44 none a1), (12, .bool true)]) (by kernel_rfl) (fun _ h => h) ?_
  refine W.condB true (by kernel_rfl) (fun hb => ?_) (fun hb => Bool.noConfusion hb)
  refine W.seq ?_
  refine W.regT [2, 3] [] [] [] (e2 := [(2, .nils), (3, .int .i64 2)]) (by kernel_rfl) (by kernel_rfl) (fun _ h => h) ?_
  refine W.weak [2, 3] [] [(2, 0, 64, 3, 70002)] [] (env' := [(2, l64 (some 70002) ([] : List arr3_Int)), (3, .int .i64 2)]) (by kernel_rfl) ?_
  have hr : aresults Try.prog Try.f43 [(2, l64 (some 70002) ([] : List arr3_Int)), (3, .int .i64 2)] = some (.tup [l64 none ([] : List arr3_Int), .int .i64 2]) := by kernel_rfl
  exact W.ret hr
 | true =>
  obtain ⟨s, hs, h⟩ := bind_some (show ((snapP fuel a1).bind _) = some r from h)
  obtain ⟨a, ha, h⟩ := bind_some h
  cases a with
  | false =>
   cases h
   refine call_of_W Try.func43 rfl (by kernel_rfl) (env0 := [(0, l44 none a1)]) (by kernel_rfl) ?_
   refine W.seq ?_
   refine W.regT [0] [] [] [] (e2 := [(0, l44 none a1)]) (by kernel_rfl) (by kernel_rfl) (fun _ h => h) ?_
   refine W.seq ?_
   refine W.seq ?_
   refine W.region (by kernel_rfl) ?_
   refine WO.callK 1 (F := 26) (l := [l44 none a1]) (C := []) (r := .bool true) (by kernel_rfl) (by kernel_rfl) (run_hs_Valid a1 true hv) (e1 := [(0, l44 none a1), (10, l44 none a1), (11, .bool true)]) (by kernel_rfl) ?_
   refine WO.fin [0, 12] [] [] [] (e2 := [(0, l44 none a1), (12, .bool false)]) (by kernel_rfl) (fun _ h => h) ?_
   refine W.condB false (by kernel_rfl) (fun hb => Bool.noConfusion hb) (fun hb => ?_)
   refine W.skip ?_
   refine W.weak [0] [] [] [] (env' := [(0, l44 none a1)]) (by kernel_rfl) ?_
   refine W.seq ?_
   refine W.region (by kernel_rfl) ?_
   refine WO.callK 1 (F := 77) (l := [l44 none a1]) (C := []) (r := sA s) (by kernel_rfl) (by kernel_rfl) (.ext0 (snapshot77 hs)) (e1 := [(0, l44 none a1), (13, l44 none a1), (14, sA s)]) (by kernel_rfl) ?_
   refine WO.fin [4] [4] [] [] (e2 := [(4, .ptr (sA s))]) (by kernel_rfl) (fun _ h => h) ?_
   refine W.seq ?_
   refine W.seq ?_
   refine W.region (by kernel_rfl) ?_
   refine WO.callK 1 (F := 78) (l := [sA s]) (C := []) (r := .bool false) (by kernel_rfl) (by kernel_rfl) (run_hs_snapshot_allowed s false ha) (e1 := [(4, .ptr (sA s)), (15, sA s), (16, .bool false)]) (by kernel_rfl) ?_
   refine WO.fin [4, 17] [] [] [] (e2 := [(4, .ptr (sA s)), (17, .bool true)]) (by kernel_rfl) (fun _ h => h) ?_
   refine W.condB true (by kernel_rfl) (fun hb => ?_) (fun hb => Bool.noConfusion hb)
   refine W.seq ?_
   refine W.regT [2, 3] [] [] [] (e2 := [(2, .nils), (3, .int .i64 7)]) (by kernel_rfl) (by kernel_rfl) (fun _ h => h) ?_
   refine W.weak [2, 3] [] [(2, 0, 64, 3, 70002)] [] (env' := [(2, l64 (some 70002) ([] : List arr3_Int)), (3, .int .i64 7)]) (by kernel_rfl) ?_
   have hr : aresults Try.prog Try.f43 [(2, l64 (some 70002) ([] : List arr3_Int)), (3, .int .i64 7)] = some (.tup [l64 none ([] : List arr3_Int), .int .i64 7]) := by kernel_rfl
   exact W.ret hr
  | true =>
   obtain ⟨⟨anti, al⟩, he, h⟩ := bind_some (show ((hs_snapshot_edges s).bind _) = some r from h)
   obtain ⟨hc, h⟩ := chk_some h
   cases h
   rw [Bool.and_eq_true, decide_eq_true_eq, List.all_eq_true] at hc
   refine .ext0 (danger43a hv hs ha he (fun p hp => ?_) hc.2)
   obtain ⟨b, hb⟩ := Option.isSome_iff_exists.1 (hc.1 p hp)
   unfold ovB
   rw [hb]
   rfl
end Go.AM
