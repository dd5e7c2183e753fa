/-
  Cycle: the search, walked. No statement of the seat is proved here.
-/
import Derived.Test.YtoiejpkfpjingaaECyc2
set_option maxRecDepth 100000
set_option linter.unusedVariables false
set_option linter.unusedSimpArgs false
namespace Go.Proofs
open Go.RowKit Go.AM

/-- one cell more that lasts -/
def madd (M : Mem) (b : Nat) (v : Value) : Mem := fun b' o => if b' = b ∧ o = 0 then some v else M b' o

theorem madd_at (M : Mem) (b : Nat) (v : Value) : madd M b v b 0 = some v := by simp [madd]
theorem madd_other {M : Mem} {b b' o : Nat} {v : Value} (h : b' ≠ b) : madd M b v b' o = M b' o := by simp [madd, h]
theorem madd_sub {M : Mem} {w : World} {b : Nat} {v : Value} (hC : Cons M w) (h : w.heap.size ≤ b) : Sub M (madd M b v) := fun b' o u hu => by
  have := mc_lt (hC _ _ _ hu)
  rw [madd_other (by omega)]
  exact hu
theorem madd_cons {M : Mem} {w : World} {b : Nat} {v : Value} {t : TypeId} {fz : Nat × Nat} {cs : Array Value} (hC : Cons M w) (h : w.heap[b]? = some (.cells cs t fz)) (hv : cs[0]? = some v) (ht : isTup v = false) : Cons (madd M b v) w := fun b' o u hu => by
  unfold madd at hu
  split at hu
  · rename_i e
    obtain ⟨rfl, rfl⟩ := e
    cases hu
    unfold mc
    rw [h]
    exact cellsAt_some hv ht
  · exact hC _ _ _ hu

theorem Try.clone_own {w : World} {base : Nat} {v : Value} {c : List Int} (hl : c.length ≤ 100000) (hne : c ≠ []) (h : w.ownsRow base 3 1 v c.length (intsV c)) :
    Calls Try.prog 53 #[v] w fun e w' => ∃ u N, e = .returned u ∧ Below w.heap.size w w' ∧ (∀ b o, b < w.heap.size → N b o = none) ∧ Cons N w' ∧ R N (.lst 3 1 none (cL c)) u := by
  obtain ⟨N, hN, hR, _⟩ := own_reads h
  have hcap : sl_Clone_int_own c = some c := by
    unfold sl_Clone_int_own
    have : capOk 8 (0 + c.length) = true := by
      simp only [capOk, Bool.and_eq_true, Nat.ble_eq]
      omega
    rw [this]; rfl
  have hrun := run_sound mixedP (run_sl_Clone_int_own c c hcap)
  refine (hrun.1 N ⟨fun _ _ => none, fun _ => 0, fun _ => 0⟩ w [v] (glob0 N) hN rfl (fun i c g hh => by cases hh) (fun c c' g hh => by cases hh) (fun j a b ha hb => ?_) (fun id x hx => by cases hx)).mono ?_
  · match j, ha, hb with
    | 0, ha, hb => cases ha; cases hb; exact ⟨hR, trivial⟩
  · rintro e w' ⟨u, M', O', rfl, hB, _, hC', _, hO, _, _, hv, hs⟩
    have ho := hs 1900000 _ rfl
    obtain ⟨q1, q2⟩ := hv
    obtain ⟨k0, k1, k2, k3⟩ := ho
    have hpos : 0 < c.length := List.length_pos_iff.2 hne
    rcases q2 with ⟨h0, _⟩ | ⟨g, cap, rfl, p1, p2, p3, p4⟩
    · omega
    rcases k3 with ⟨h0, _⟩ | ⟨g', cur, r1, r2, r3, r4, r5, r6⟩
    · exact absurd (List.map_eq_nil_iff.1 h0) hne
    have hgg : g' = g := by rw [p1] at r1; exact (Option.some.inj r1).symm
    subst hgg
    have hge : w.heap.size ≤ g' := by
      rcases (hO true 1900000 g' p1).2 with h | ⟨_, h⟩
      · exact h
      · cases h
    obtain ⟨el, fz, hb, _⟩ := r2
    have r4' : c.length ≤ cur.size := by simpa using r4
    have hcell : ∀ j (hj : j < c.length), cur[j]? = some (.int .i64 c[j]) := fun j hj => by
      have hjc : j < cur.size := by omega
      have h1 := r6 j (.int .i64 c[j]) cur[j] (by rw [flat_intsK]; simp [hj]) (by simp [hjc])
      rw [Array.getElem?_eq_getElem hjc, h1.int_inv]
    refine ⟨_, fun b o => if b = g' then (c[o]?).map (Value.int .i64) else none, rfl, ⟨hB.os, hB.tape, hB.output, hB.size, fun k hk => hB.block k ⟨hk, fun _ hh => by cases hh⟩⟩, fun b o hb => ?_, fun b o u hu => ?_, ?_⟩
    · have : b ≠ g' := by omega
      simp [this]
    · simp only at hu
      split at hu
      · rename_i e
        subst e
        cases hco : c[o]? with
        | none => rw [hco] at hu; cases hu
        | some x =>
          rw [hco] at hu
          cases hu
          obtain ⟨hj, rfl⟩ := List.getElem?_eq_some_iff.1 hco
          unfold mc
          rw [hb]
          exact cellsAt_some (hcell o hj) rfl
      · cases hu
    · refine ints_mk (off := 0 * 1) p3 fun j hj => ?_
      simp [hj]

/-- a list's end, by its place -/
theorem last_at {c : List Int} (hne : c ≠ []) : c[c.length - 1]? = some (c.getLastD 0) := by
  rw [← List.getLast?_eq_getElem?, List.getLast?_eq_some_getLast hne, List.getLastD_eq_getLast?, List.getLast?_eq_some_getLast hne]
  rfl

theorem own_cell {w : World} {base g cap : Nat} {c : List Int} (h : w.ownsRow base 3 1 (.slice (some ⟨g, 0, none⟩) c.length cap) c.length (intsV c)) {j : Nat} {x : Int} (hx : c[j]? = some x) : w.cell? ⟨g, j, none⟩ = some (.int .i64 x) := by
  have := h.cells (g := g) rfl j (.int .i64 x) (by simp [intsV, hx])
  rwa [addr_add0, Nat.zero_add] at this

theorem GP.store {base : Nat} {w w1 : World} {bf : Nat} {vc : Value} {c : List Int} (h : GP base w bf vc c w1) (u : Value) : GP base w bf vc c (w1.setCell ⟨bf, 0, none⟩ u) := by
  obtain ⟨fv, hf⟩ := h.box
  refine ⟨h.os, h.tape, h.output, by simpa [World.setCell] using h.size, fun k hk h1 h2 => ?_, ownsRow_setCell_other h.own (fun e => box_apart hf h.own e.symm) u, u, one_setCell hf⟩
  rw [Below.heap_setCell _ _ _ _ h1, h.block k hk h1 h2]

/-- what was made behind a world joins what lasted -/
def mjoin (M N : Mem) (B : Nat) : Mem := fun b o => if b < B then M b o else N b o

theorem mjoin_sub {M N : Mem} {w : World} {B : Nat} (hC : Cons M w) (hB : w.heap.size ≤ B) : Sub M (mjoin M N B) := fun b o u hu => by
  have := mc_lt (hC _ _ _ hu)
  unfold mjoin; rw [if_pos (by omega)]; exact hu
theorem mjoin_sub2 {M N : Mem} {B : Nat} (hN : ∀ b o, b < B → N b o = none) : Sub N (mjoin M N B) := fun b o u hu => by
  unfold mjoin
  split
  · rename_i h; rw [hN b o h] at hu; cases hu
  · exact hu
theorem mjoin_cons {M N : Mem} {w : World} {B : Nat} (hM : Cons M w) (hN : Cons N w) : Cons (mjoin M N B) w := fun b o u hu => by
  unfold mjoin at hu
  split at hu
  · exact hM _ _ _ hu
  · exact hN _ _ _ hu
theorem mjoin_old {M N : Mem} {B b o : Nat} (h : b < B) : mjoin M N B b o = M b o := by unfold mjoin; rw [if_pos h]

set_option maxHeartbeats 4000000 in
theorem Try.grow52 : ∀ n, Grow52 n := by
  intro n
  induction n with
  | zero =>
    intro E l c M w base bf be bl bg long vc hG hC hne hwc hlong hl hown hMv hbox hb
    obtain ⟨mv, e1, e2, e3⟩ := hG.e
    obtain ⟨fv, hbox⟩ := hbox
    have hpos : 0 < c.length := List.length_pos_iff.2 hne
    obtain ⟨g, cap, rfl, hbg, hgl⟩ := hown.form hpos
    have hlc : c.length = long := by omega
    subst hlc
    have hlast : wfI .i64 (c.getLastD 0) = true := hwc _ (by rw [List.getLastD_eq_getLast?, List.getLast?_eq_some_getLast hne]; exact List.getLast_mem hne)
    have hfst : wfI .i64 (c.headD 0) = true := hwc _ (by cases c with | nil => exact absurd rfl hne | cons a r => simp)
    have hE := fun w' h => e3 w' h (c.getLastD 0) (c.headD 0) hlast hfst
    obtain ⟨res, hres⟩ : ∃ res, res = growF E l 0 c := ⟨_, rfl⟩
    rw [← hres]
    have hgf : res = if E (c.getLastD 0) (c.headD 0) then some c else none := hres
    have HR := (show Hid _ from hgf)
    clear hres hgf
    have hc0 : c[0]? = some (c.headD 0) := by cases c with | nil => exact absurd rfl hne | cons a r => rfl
    have hc1 := last_at hne
    have bflt := lt_of_block hbox
    -- the worlds
    obtain ⟨m, hm⟩ : ∃ m, c.length = m + 1 := ⟨c.length - 1, by omega⟩
    have f1 : IntKind.i64.wrap ((c.length : Int) - 1) = (m : Int) := by rw [wrap_id (by omega) (by omega)]; omega
    have m0 : (0 : Int) ≤ (m : Int) := Int.natCast_nonneg _
    have m1 : (m : Int) < (c.length : Int) := by omega
    have hc1 : c[m]? = some (c.getLastD 0) := by rw [← hc1]; congr 1; omega
    have P1 : GP base w bf (.slice (some ⟨g, 0, none⟩) c.length cap) c ((w.alloc (.cells #[.slice (some ⟨g, 0, none⟩) c.length cap] 24)).alloc (.cells #[.int .i64 (c.length : Nat)] 3)) := ((GP.refl hown hbox).alloc _).alloc _
    have b1 : ((w.alloc (.cells #[.slice (some ⟨g, 0, none⟩) c.length cap] 24)).alloc (.cells #[.int .i64 (c.length : Nat)] 3)).cell? ⟨g, m, none⟩ = some (.int .i64 (c.getLastD 0)) := own_cell P1.own hc1
    have HM := (show Hid _ from hm)
    have l0 : (0 : Int) < (c.length : Int) := by omega
    clear hm
    generalize c.getLastD 0 = last at *
    generalize c.headD 0 = fst at *
    obtain ⟨w3, ew3⟩ : ∃ w3, w3 = ((w.alloc (.cells #[.slice (some ⟨g, 0, none⟩) c.length cap] 24)).alloc (.cells #[.int .i64 (c.length : Nat)] 3)).alloc (.cells #[.int .i64 last] 3) := ⟨_, rfl⟩
    have P3 : GP base w bf (.slice (some ⟨g, 0, none⟩) c.length cap) c w3 := by rw [ew3]; exact P1.alloc _
    have a6 : w3.heap[w.heap.size]? = some (.cells #[.slice (some ⟨g, 0, none⟩) c.length cap] 24 (0, 0)) := by rw [ew3, heap_alloc_old _ _ (by simp; omega), heap_alloc_old _ _ (by simp)]; exact heap_alloc_new _ _
    have a9 : w3.heap[w.heap.size + 1 + 1]? = some (.cells #[.int .i64 last] 3 (0, 0)) := by rw [ew3]; have := heap_alloc_new ((w.alloc (.cells #[.slice (some ⟨g, 0, none⟩) c.length cap] 24)).alloc (.cells #[.int .i64 (c.length : Nat)] 3)) (.cells #[.int .i64 last] 3); simpa using this
    have C3 : Cons M w3 := by rw [ew3]; exact ((hC.alloc _).alloc _).alloc _
    have HW := (show Hid (w3 = _) from ew3)
    have hclo := Try.clone_own (base := base) (by omega) hne P3.own
    rw [ew3] at hclo
    clear ew3
    have mixed := mixedP
    have t3 := Try.underlying3; have a3 := Try.isAgg3; have z3 := Try.sizeOf3; have v3 := Try.zeroValue3; have u3 := run_underlying Try.underlying3
    have t4 := Try.underlying4; have a4 := Try.isAgg4; have z4 := Try.sizeOf4; have v4 := Try.zeroValue4
    have t24 := Try.underlying24; have a24 := Try.isAgg24; have z24 := Try.sizeOf24; have v24 := Try.zeroValue24; have u24 := run_underlying Try.underlying24
    have t55 := Try.underlying55; have a55 := Try.isAgg55; have z55 := Try.sizeOf55; have v55 := Try.zeroValue55
    have t67 := Try.underlying67; have a67 := Try.isAgg67; have z67 := Try.sizeOf67; have v67 := Try.zeroValue67
    have t73 := Try.underlying73; have a73 := Try.isAgg73; have z73 := Try.sizeOf73; have v73 := Try.zeroValue73; have u73 := run_underlying Try.underlying73
    have HE := (show Hid _ from hE)
    have HG := (show Hid _ from hG)
    have HC := (show Hid _ from hclo)
    have HP := (show Hid _ from P3)
    have Ha6 := (show Hid _ from a6)
    have Ha9 := (show Hid _ from a9)
    clear hE e3 hG hclo P1 P3 a6 a9
    go_enter Try.func52, Try.ntmps52
    go_wp2_with fail
    refine Calls.mono HC.out ?_
    rw [← HW.out]
    rintro e w2 ⟨u, N, rfl, hB, hN1, hN2, hN3⟩
    obtain ⟨au, cu, rfl, hN4⟩ := ints_form hN3
    have P4 := HP.out.below hB
    obtain ⟨fv4, hb4⟩ := P4.box
    have d1 := free_of_one hb4
    have d2 := cell_of_one hb4
    have hs3 := HP.out.size
    have g6 := lt_of_block Ha6.out
    have g9 := lt_of_block Ha9.out
    have hC2 : Cons M (w2.setCell ⟨bf, 0, none⟩ (.slice au c.length cu)) := (C3.below hB).setCell HG.out.f _
    have hgb : bf ≠ g := fun e => box_apart hb4 P4.own (by rw [e]; rfl)
    have k6 : (w2.setCell ⟨bf, 0, none⟩ (.slice au c.length cu)).cell? ⟨w.heap.size, 0, none⟩ = some (.slice (some ⟨g, 0, none⟩) c.length cap) := by
      refine cell_of_one (t := 24) ?_
      rw [Below.heap_setCell _ _ _ _ (by simp; omega), hB.block _ g6]; exact Ha6.out
    have k9 : (w2.setCell ⟨bf, 0, none⟩ (.slice au c.length cu)).cell? ⟨w.heap.size + 1 + 1, 0, none⟩ = some (.int .i64 last) := by
      refine cell_of_one (t := 3) ?_
      rw [Below.heap_setCell _ _ _ _ (by simp; omega), hB.block _ g9]; exact Ha9.out
    have ke : (w2.setCell ⟨bf, 0, none⟩ (.slice au c.length cu)).cell? ⟨be, 0, none⟩ = some mv := mc_cell (hC2 _ _ _ e1) e2
    have kg : (w2.setCell ⟨bf, 0, none⟩ (.slice au c.length cu)).cell? ⟨g, 0, none⟩ = some (.int .i64 fst) := by
      rw [World.cell?_setCell_far _ _ _ _ (by simpa using hgb)]
      exact own_cell P4.own hc0
    have kl := HE.out _ hC2
    have hb5 := one_setCell (u := .slice au c.length cu) hb4
    go_wp2
    go_region_held3 (fun w' => w'.cell? ⟨w.heap.size, 0, none⟩ = some (.slice (some ⟨g, 0, none⟩) c.length cap) ∧ w'.cell? ⟨w.heap.size + 1 + 1, 0, none⟩ = some (.int .i64 last) ∧ w'.cell? ⟨be, 0, none⟩ = some mv ∧ w'.cell? ⟨g, 0, none⟩ = some (.int .i64 fst) ∧ (Instr.lookup 67 mv (.agg #[.int .i64 last, .int .i64 fst]) false).run Try.prog w' = .ok (.bool (E last fst)) w')
      (first | exact ⟨k6, k9, ke, kg, HE.out _ hC2⟩) (fail)
    all_goals go_wp2
    all_goals go_ret
    all_goals refine ⟨by rw [HR.out]; cases E last fst <;> rfl, (P4.store _).drew, fun r hr => ?_⟩
    all_goals
      have hrc : r = c := by
        rw [HR.out] at hr
        split at hr
        · exact (Option.some.inj hr).symm
        · cases hr
      subst hrc
      have hN5 : ∀ b o, b < w3.heap.size → N b o = none := hN1
      exact ⟨mjoin M N w3.heap.size, _, mjoin_sub hC hs3, mjoin_cons (M := M) hC2 (hN2.setCell (fun o => hN5 bf o (by omega)) _), fun b o hb => mjoin_old (by omega), hb5, hN3.mono (mjoin_sub2 hN5)⟩
  | succ n ih =>
    intro E l c M w base bf be bl bg long vc hG hC hne hwc hlong hl hown hMv hbox hb
    obtain ⟨lv, q1, q2, q3⟩ := hG.lv
    obtain ⟨fv, hbox⟩ := hbox
    have hpos : 0 < c.length := List.length_pos_iff.2 hne
    obtain ⟨g, cap, rfl, hbg, hgl⟩ := hown.form hpos
    have hgf : growF E l (n + 1) c = l.findSome? (stepF E l n c) := rfl
    rw [hgf]
    have hc1 := last_at hne
    have bflt := lt_of_block hbox
    -- the worlds
    obtain ⟨m, hm⟩ : ∃ m, c.length = m + 1 := ⟨c.length - 1, by omega⟩
    have f1 : IntKind.i64.wrap ((c.length : Int) - 1) = (m : Int) := by rw [wrap_id (by omega) (by omega)]; omega
    have m0 : (0 : Int) ≤ (m : Int) := Int.natCast_nonneg _
    have m1 : (m : Int) < (c.length : Int) := by omega
    obtain ⟨last, hla⟩ : ∃ last, last = c.getLastD 0 := ⟨_, rfl⟩
    have hc1 : c[m]? = some last := by rw [hla, ← hc1]; congr 1; omega
    have P1 : GP base w bf (.slice (some ⟨g, 0, none⟩) c.length cap) c ((w.alloc (.cells #[.slice (some ⟨g, 0, none⟩) c.length cap] 24)).alloc (.cells #[.int .i64 (long : Nat)] 3)) := ((GP.refl hown hbox).alloc _).alloc _
    have b1 : ((w.alloc (.cells #[.slice (some ⟨g, 0, none⟩) c.length cap] 24)).alloc (.cells #[.int .i64 (long : Nat)] 3)).cell? ⟨g, m, none⟩ = some (.int .i64 last) := own_cell P1.own hc1
    have HM := (show Hid _ from hm)
    have l0 : (c.length : Int) ≠ (long : Int) := by omega
    have l1 : ((c.length : Int) == (long : Int)) = false := by simpa using l0
    clear hm
    obtain ⟨w3, ew3⟩ : ∃ w3, w3 = ((w.alloc (.cells #[.slice (some ⟨g, 0, none⟩) c.length cap] 24)).alloc (.cells #[.int .i64 (long : Nat)] 3)).alloc (.cells #[.int .i64 last] 3) := ⟨_, rfl⟩
    have P3 : GP base w bf (.slice (some ⟨g, 0, none⟩) c.length cap) c w3 := by rw [ew3]; exact P1.alloc _
    have a6 : w3.heap[w.heap.size]? = some (.cells #[.slice (some ⟨g, 0, none⟩) c.length cap] 24 (0, 0)) := by rw [ew3, heap_alloc_old _ _ (by simp; omega), heap_alloc_old _ _ (by simp)]; exact heap_alloc_new _ _
    have a7 : w3.heap[w.heap.size + 1]? = some (.cells #[.int .i64 (long : Nat)] 3 (0, 0)) := by rw [ew3, heap_alloc_old _ _ (by simp)]; have := heap_alloc_new (w.alloc (.cells #[.slice (some ⟨g, 0, none⟩) c.length cap] 24)) (.cells #[.int .i64 (long : Nat)] 3); simpa using this
    have a9 : w3.heap[w.heap.size + 1 + 1]? = some (.cells #[.int .i64 last] 3 (0, 0)) := by rw [ew3]; have := heap_alloc_new ((w.alloc (.cells #[.slice (some ⟨g, 0, none⟩) c.length cap] 24)).alloc (.cells #[.int .i64 (long : Nat)] 3)) (.cells #[.int .i64 last] 3); simpa using this
    have C3 : Cons M w3 := by rw [ew3]; exact ((hC.alloc _).alloc _).alloc _
    have hlv : ((w.alloc (.cells #[.slice (some ⟨g, 0, none⟩) c.length cap] 24)).alloc (.cells #[.int .i64 (long : Nat)] 3)).cell? ⟨bl, 0, none⟩ = some lv := mc_cell (((hC.alloc _).alloc _) _ _ _ q1) q2
    have hlv3 : w3.cell? ⟨bl, 0, none⟩ = some lv := mc_cell (C3 _ _ _ q1) q2
    -- what lasts from here on
    obtain ⟨M3, eM3⟩ : ∃ M3, M3 = madd (madd (madd M w.heap.size (.slice (some ⟨g, 0, none⟩) c.length cap)) (w.heap.size + 1) (.int .i64 (long : Nat))) (w.heap.size + 1 + 1) (.int .i64 last) := ⟨_, rfl⟩
    have hold : ∀ b o, b < w.heap.size → M3 b o = M b o := fun b o hb => by rw [eM3, madd_other (by omega), madd_other (by omega), madd_other (by omega)]
    have k1 : M3 w.heap.size 0 = some (.slice (some ⟨g, 0, none⟩) c.length cap) := by rw [eM3, madd_other (by omega), madd_other (by omega), madd_at]
    have k2 : M3 (w.heap.size + 1 + 1) 0 = some (.int .i64 (c.getLastD 0)) := by rw [eM3, madd_at, hla]
    have k3 : M3 (w.heap.size + 1) 0 = some (.int .i64 (long : Nat)) := by rw [eM3, madd_other (by omega), madd_at]
    have C33 : Cons M3 w3 := by rw [eM3]; exact madd_cons (madd_cons (madd_cons C3 a6 rfl rfl) a7 rfl rfl) a9 rfl rfl
    have hsub : Sub M M3 := fun b o u hu => by rw [hold b o (mc_lt (hC _ _ _ hu))]; exact hu
    have hG3 : GE M3 bf be bl bg E l := by
      obtain ⟨mv, e1, e2, e3⟩ := hG.e
      exact ⟨⟨mv, hsub _ _ _ e1, e2, fun w' h => e3 w' fun b o u hu => h _ _ _ (hsub _ _ _ hu)⟩, ⟨lv, hsub _ _ _ q1, q2, q3.mono hsub⟩, hsub _ _ _ hG.g, fun o => by rw [hold bf o bflt]; exact hG.f o, hG.wf, hG.len⟩
    have hMv3 : ∀ g2, (Value.slice (some ⟨g, 0, none⟩) c.length cap).ownBlock = some g2 → ∀ o, M3 g2 o = none := fun g2 h2 o => by
      have h3 := hMv g2 h2 o
      cases h2
      rw [hold g o hgl]; exact h3
    have hst := fun t w' hwt hC' ho' hb' hsz => Try.step55 ih E l c M3 w' base bf be bl bg w.heap.size (w.heap.size + 1 + 1) (w.heap.size + 1) long (.slice (some ⟨g, 0, none⟩) c.length cap) t hG3 hC' hne hwc hwt hlong hl ho' hMv3 hb' hsz k1 k2 k3
    have hs3 := P3.size
    have hcon := Try.containsFunc 55 Try.enter55 #[.pointer (some ⟨w.heap.size, 0, none⟩), .pointer (some ⟨be, 0, none⟩), .pointer (some ⟨w.heap.size + 1 + 1, 0, none⟩), .pointer (some ⟨bg, 0, none⟩), .pointer (some ⟨w.heap.size + 1, 0, none⟩)] l lv (by have := hG.len; omega) M3 (q3.mono hsub)
      (fun i w' => Cons M3 w' ∧ GP base w3 bf (.slice (some ⟨g, 0, none⟩) c.length cap) c w' ∧ ∀ j y, j < i → l[j]? = some y → stepF E l n c y = none)
      (fun i w' => ∃ x r, l[i]? = some x ∧ (∀ j y, j < i → l[j]? = some y → stepF E l n c y = none) ∧ stepF E l n c x = some r ∧ GP base w3 bf (.slice (some ⟨g, 0, none⟩) c.length cap) c w' ∧ Found M3 w3 bf r w')
      (fun i w' h => h.1)
      (fun i x w' hx ⟨h1, h2, h3⟩ => (hst x w' (hG.wf x (List.mem_of_getElem? hx)) h1 h2.own h2.box (by have := h2.size; omega)).mono fun e w4 ⟨e1, e2, e3⟩ => by
        cases hr : stepF E l n c x with
        | none =>
          rw [hr] at e1
          exact .inr ⟨e1, e2.cons h1 hG3.f hMv3, h2.trans e2, fun j y hj hy => by
            rcases Nat.lt_succ_iff_lt_or_eq.1 hj with hj | rfl
            · exact h3 j y hj hy
            · rw [hx] at hy; cases hy; exact hr⟩
        | some r =>
          rw [hr] at e1
          exact .inl ⟨e1, x, r, hx, h3, hr, h2.trans e2, (e3 r hr).back h2.size⟩)
      w3 ⟨C33, .refl P3.own P3.box.choose_spec, fun j y hj => absurd hj (Nat.not_lt_zero _)⟩
    have HW := (show Hid (w3 = _) from ew3)
    rw [ew3] at hcon hlv3
    have HC := (show Hid _ from hcon)
    have HP := (show Hid _ from P3)
    have HG := (show Hid _ from hG3)
    have HO := (show Hid _ from hold)
    have HS := (show Hid _ from hsub)
    clear hcon ew3 P3 hG3 hG hold hsub hst a6 a7 a9 P1 hMv hMv3 eM3 hla k2
    have mixed := mixedP
    have t3 := Try.underlying3; have a3 := Try.isAgg3; have z3 := Try.sizeOf3; have v3 := Try.zeroValue3; have u3 := run_underlying Try.underlying3
    have t4 := Try.underlying4; have a4 := Try.isAgg4; have z4 := Try.sizeOf4; have v4 := Try.zeroValue4
    have t24 := Try.underlying24; have a24 := Try.isAgg24; have z24 := Try.sizeOf24; have v24 := Try.zeroValue24; have u24 := run_underlying Try.underlying24
    have t55 := Try.underlying55; have a55 := Try.isAgg55; have z55 := Try.sizeOf55; have v55 := Try.zeroValue55
    have t75 := Try.underlying75; have a75 := Try.isAgg75; have z75 := Try.sizeOf75; have v75 := Try.zeroValue75
    go_enter Try.func52, Try.ntmps52
    go_wp2_with fail
    refine Calls.mono HC.out ?_
    rintro e w' (⟨i, hi, rfl, x, r, h1, h2, h3, h4, h5⟩ | ⟨rfl, h1, h2, h3⟩)
    · go_wp2
      go_ret
      have hf := findSome_at h1 h2 h3
      rw [← HW.out] at h4 h5
      refine ⟨by rw [hf]; rfl, HP.out.trans h4, fun r' hr' => ?_⟩
      rw [hf] at hr'
      cases hr'
      obtain ⟨M', fv', s1, s2, s3, s4⟩ := h5
      exact ⟨M', fv', Sub.trans HS.out s1, s2, fun b o hb => (s3 b o (by omega)).trans (HO.out b o hb), s4⟩
    · go_wp2
      go_ret
      have hf : l.findSome? (stepF E l n c) = none := findSome_no h3
      rw [← HW.out] at h2
      exact ⟨by rw [hf]; rfl, HP.out.trans h2, fun r' hr' => by rw [hf] at hr'; cases hr'⟩

end Go.Proofs
