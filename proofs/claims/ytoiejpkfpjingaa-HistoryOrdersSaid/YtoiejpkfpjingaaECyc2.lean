/-
  Cycle: one search, walked. No statement of the seat is proved here.
-/
import Derived.Test.YtoiejpkfpjingaaECyc
set_option maxRecDepth 100000
set_option linter.unusedVariables false
set_option linter.unusedSimpArgs false
namespace Go.Proofs
open Go.RowKit Go.AM

theorem Try.enter55 : ∀ args w, (callFunc 55 args).run Try.prog w = .ok (.enter 55 args) w := fun args w => by
  have h := Try.func55
  have h1 : Try.f55.name ≠ "runtime.NumGoroutine" := of_decide_eq_true (by kernel_rfl)
  have h2 : Try.f55.body ≠ none := fun e => absurd (show Try.f55.body.isNone = false by kernel_rfl) (by rw [e]; decide)
  simp [callFunc, h, h1, h2]

theorem Try.enter52 : ∀ args w, (callFunc 52 args).run Try.prog w = .ok (.enter 52 args) w := fun args w => by
  have h := Try.func52
  have h1 : Try.f52.name ≠ "runtime.NumGoroutine" := of_decide_eq_true (by kernel_rfl)
  have h2 : Try.f52.body ≠ none := fun e => absurd (show Try.f52.body.isNone = false by kernel_rfl) (by rw [e]; decide)
  simp [callFunc, h, h1, h2]

theorem Try.containsFunc (k : Nat) (hrun : ∀ args w, (callFunc k args).run Try.prog w = .ok (.enter k args) w) (caps : Array Value) (l : List Int) (v : Value) (hlen : l.length ≤ 100000) (M : Mem) (hv : R M (.lst 3 1 none (cL l)) v) (I Q : Nat → World → Prop) (hI : ∀ i w, I i w → Cons M w)
    (step : ∀ i x w, l[i]? = some x → I i w → Calls Try.prog k (#[.int .i64 x] ++ caps) w fun e w' => (e = .returned (.bool true) ∧ Q i w') ∨ (e = .returned (.bool false) ∧ I (i + 1) w')) (w : World) (h0 : I 0 w) :
    Calls Try.prog 54 #[v, .func (.func k) #[] caps] w fun e w' => (∃ i : Nat, i < l.length ∧ e = .returned (.bool true) ∧ Q i w') ∨ (e = .returned (.bool false) ∧ I l.length w') := by
  have mixed := mixedP
  have t3 := Try.underlying3; have a3 := Try.isAgg3; have z3 := Try.sizeOf3; have v3 := Try.zeroValue3; have u3 := run_underlying Try.underlying3
  have t4 := Try.underlying4; have a4 := Try.isAgg4; have z4 := Try.sizeOf4; have v4 := Try.zeroValue4
  have hc := Try.indexFunc k hrun caps l v hlen M hv I Q hI step w h0
  clear hrun step hI hv h0
  go_enter Try.func54, Try.ntmps54
  go_wp2_with fail
  refine hc.mono ?_
  rintro e w' (⟨i, hi, rfl, hq⟩ | ⟨rfl, hq⟩)
  · have i0 : (0 : Int) ≤ (i : Int) := Int.natCast_nonneg _
    go_wp2
    go_ret
    exact .inl ⟨i, hi, rfl, hq⟩
  · go_wp2
    go_ret
    exact .inr ⟨rfl, hq⟩

/-- the first at which a function answers -/
theorem findSome_at {α β : Type} {f : α → Option β} : ∀ {l : List α} {i : Nat} {x : α} {r : β}, l[i]? = some x → (∀ j y, j < i → l[j]? = some y → f y = none) → f x = some r → l.findSome? f = some r
  | [], i, x, r, h, _, _ => by simp at h
  | a :: l, 0, x, r, h, _, hf => by
    simp at h; subst h
    rw [List.findSome?_cons, hf]
  | a :: l, i + 1, x, r, h, hn, hf => by
    rw [List.findSome?_cons, hn 0 a (by omega) rfl]
    exact findSome_at (l := l) (i := i) (by simpa using h) (fun j y hj hy => hn (j + 1) y (by omega) (by simpa using hy)) hf

theorem findSome_no {α β : Type} {f : α → Option β} {l : List α} (h : ∀ j y, j < l.length → l[j]? = some y → f y = none) : l.findSome? f = none := by
  rw [List.findSome?_eq_none_iff]
  intro x hx
  obtain ⟨j, hj⟩ := List.mem_iff_getElem?.1 hx
  exact h j x (List.getElem?_eq_some_iff.1 hj).1 hj

/-- operations of a region that are not wanted, one behind the other -/
def skipsOk (md : Region.Mode) (ops : Array Oper) : List Nat → Array Bool → Act → Bool
  | [], _, _ => true
  | i :: r, listed, a => Region.free md ops listed i && (((Region.ready md ops listed).contains i) && (match ops[i]? with
    | some o => !Region.wanted o (yielded ops a.tmps) && skipsOk md ops r (listed.setIfInBounds i true) (a.put o.dst undef)
    | none => false))

def skipL : List Nat → Array Bool → Array Bool
  | [], l => l
  | i :: r, l => skipL r (l.setIfInBounds i true)

def skipA (ops : Array Oper) : List Nat → Act → Act
  | [], a => a
  | i :: r, a => skipA ops r (match ops[i]? with | some o => a.put o.dst undef | none => a)

theorem wpAnyH_skips {P : Program} {ops : Array Oper} {Q : Exit → Act → World → Prop} {md : Region.Mode} {S : World → Prop} (hs : Region.noSelect ops = true) {w : World} (hS : S w) (hq : ∀ c a d v w, Q (.panic c) (a.put d v) w → Q (.panic c) a w) : ∀ (L : List Nat) {fuel : Nat} {listed : Array Bool} {a : Act}, skipsOk md ops L listed a = true →
    wpAnyH P md ops Q S fuel (skipL L listed) (skipA ops L a) w → wpAnyH P md ops Q S (fuel + L.length) listed a w
  | [], fuel, listed, a, _, h => h
  | i :: r, fuel, listed, a, hk, h => by
    simp only [skipsOk, Bool.and_eq_true] at hk
    obtain ⟨h1, h2, h3⟩ := hk
    cases ho : ops[i]? with
    | none => rw [ho] at h3; cases h3
    | some o =>
      rw [ho] at h3
      simp only [Bool.and_eq_true, Bool.not_eq_true'] at h3
      have h4 : wpAnyH P md ops Q S fuel (skipL r (listed.setIfInBounds i true)) (skipA ops r (a.put o.dst undef)) w := by
        have : skipA ops (i :: r) a = skipA ops r (a.put o.dst undef) := by simp only [skipA, ho]
        rw [← this]; exact h
      exact wpAnyH_take ho hs h1 h2 (fun c b w' hh => hq _ _ _ _ _ hh) (Or.inr ⟨h3.1, rfl⟩) hS (wpAnyH_skips hs hS hq r h3.2 h4)

/-- behind an append: what the next search asks for -/
theorem after_app {M : Mem} {base bf g g' cap cap' n : Nat} {w w2 w3 : World} {c : List Int} (P2 : GP base w bf (.slice (some ⟨g, 0, none⟩) c.length cap) c w2) (C2 : Cons M w2) (hMg : ∀ o, M g o = none)
    (hap : (g' = g ∧ cap' = cap ∧ w2.grownBy w3 (some g)) ∨ (g' = w2.heap.size ∧ w2.grownBy w3 none)) :
    Cons M w3 ∧ (∀ g2, (Value.slice (some ⟨g', 0, none⟩) n cap').ownBlock = some g2 → ∀ o, M g2 o = none) ∧ (∃ fv, w3.heap[bf]? = some (.cells #[fv] 24 (0, 0))) ∧ w.heap.size ≤ w3.heap.size := by
  obtain ⟨fv, hf⟩ := P2.box
  have hne : bf ≠ g := fun e => box_apart hf P2.own (by rw [e]; rfl)
  have hs := P2.size
  rcases hap with ⟨rfl, rfl, hg⟩ | ⟨rfl, hg⟩
  · refine ⟨C2.of_blocks fun b o u hu hb => hg.block b hb (fun e => by cases e; rw [hMg] at hu; cases hu), fun g2 h2 o => ?_, ⟨fv, by rw [hg.block bf (lt_of_block hf) (fun e => hne (by cases e; rfl))]; exact hf⟩, Nat.le_trans hs hg.size⟩
    cases h2; exact hMg o
  · refine ⟨C2.of_blocks fun b o u hu hb => hg.block b hb (fun e => by cases e), fun g2 h2 o => ?_, ⟨fv, by rw [hg.block bf (lt_of_block hf) (fun e => by cases e)]; exact hf⟩, Nat.le_trans hs hg.size⟩
    cases h2
    cases hm : M w2.heap.size o with
    | none => rfl
    | some u =>
      have := mc_lt (C2 _ _ _ hm)
      omega

theorem Found.back {M : Mem} {w w3 w4 : World} {bf : Nat} {r : List Int} (h : Found M w3 bf r w4) (hs : w.heap.size ≤ w3.heap.size) : Found M w bf r w4 := by
  obtain ⟨M', fv, h1, h2, h3, h4⟩ := h
  exact ⟨M', fv, h1, h2, fun b o hb => h3 b o (by omega), h4⟩

set_option maxHeartbeats 4000000 in
/-- one candidate -/
theorem Try.step55 {n : Nat} (ih : Grow52 n) (E : Int → Int → Bool) (l c : List Int) (M : Mem) (w : World) (base bf be bl bg bc bt bn long : Nat) (vc : Value) (t : Int) (hG : GE M bf be bl bg E l) (hC : Cons M w) (hne : c ≠ []) (hwc : ∀ x, x ∈ c → wfI .i64 x = true) (hwt : wfI .i64 t = true)
    (hlong : c.length + (n + 1) = long) (hl : long ≤ 1000) (hown : w.ownsRow base 3 1 vc c.length (intsV c)) (hMv : ∀ g, vc.ownBlock = some g → ∀ o, M g o = none) (hbox : ∃ fv, w.heap[bf]? = some (.cells #[fv] 24 (0, 0))) (hb : base ≤ w.heap.size)
    (k1 : M bc 0 = some vc) (k2 : M bt 0 = some (.int .i64 (c.getLastD 0))) (k3 : M bn 0 = some (.int .i64 (long : Nat))) :
    Calls Try.prog 55 #[.int .i64 t, .pointer (some ⟨bc, 0, none⟩), .pointer (some ⟨be, 0, none⟩), .pointer (some ⟨bt, 0, none⟩), .pointer (some ⟨bg, 0, none⟩), .pointer (some ⟨bn, 0, none⟩)] w (GrowPost M base w bf vc c (stepF E l n c t)) := by
  obtain ⟨mv, e1, e2, e3⟩ := hG.e
  have hg := hG.g
  obtain ⟨fv, hbox⟩ := hbox
  have hpos : 0 < c.length := List.length_pos_iff.2 hne
  have hclen : c.length ≤ 1000 := by omega
  obtain ⟨g, cap, rfl, hbg, hgl⟩ := hown.form hpos
  have hlast : wfI .i64 (c.getLastD 0) = true := hwc _ (by rw [List.getLastD_eq_getLast?, List.getLast?_eq_some_getLast hne]; exact List.getLast_mem hne)
  generalize hla : c.getLastD 0 = last at *
  have hE := fun w' h => e3 w' h last t hlast hwt
  have KS : ∀ w', Cons M w' → w'.cell? ⟨bc, 0, none⟩ = some (.slice (some ⟨g, 0, none⟩) c.length cap) ∧ w'.cell? ⟨be, 0, none⟩ = some mv ∧ w'.cell? ⟨bt, 0, none⟩ = some (.int .i64 last) ∧ w'.cell? ⟨bg, 0, none⟩ = some (.func (.func 52) #[] #[.pointer (some ⟨bf, 0, none⟩), .pointer (some ⟨be, 0, none⟩), .pointer (some ⟨bl, 0, none⟩), .pointer (some ⟨bg, 0, none⟩)]) ∧ w'.cell? ⟨bn, 0, none⟩ = some (.int .i64 (long : Nat)) ∧ (Instr.lookup 67 mv (.agg #[.int .i64 last, .int .i64 t]) false).run Try.prog w' = .ok (.bool (E last t)) w' :=
    fun w' h => ⟨mc_cell (h _ _ _ k1) rfl, mc_cell (h _ _ _ e1) e2, mc_cell (h _ _ _ k2) rfl, mc_cell (h _ _ _ hg) rfl, mc_cell (h _ _ _ k3) rfl, hE w' h⟩
  have P0 : GP base w bf (.slice (some ⟨g, 0, none⟩) c.length cap) c w := .refl hown hbox
  have mixed := mixedP
  have t3 := Try.underlying3; have a3 := Try.isAgg3; have z3 := Try.sizeOf3; have v3 := Try.zeroValue3; have u3 := run_underlying Try.underlying3
  have t4 := Try.underlying4; have a4 := Try.isAgg4; have z4 := Try.sizeOf4; have v4 := Try.zeroValue4
  have t24 := Try.underlying24; have a24 := Try.isAgg24; have z24 := Try.sizeOf24; have v24 := Try.zeroValue24; have u24 := run_underlying Try.underlying24
  have t55 := Try.underlying55; have a55 := Try.isAgg55; have z55 := Try.sizeOf55; have v55 := Try.zeroValue55
  have t67 := Try.underlying67; have a67 := Try.isAgg67; have z67 := Try.sizeOf67; have v67 := Try.zeroValue67
  have t73 := Try.underlying73; have a73 := Try.isAgg73; have z73 := Try.sizeOf73; have v73 := Try.zeroValue73; have u73 := run_underlying Try.underlying73
  have hct : Hid (∀ w1, w1.ownsRow base 3 1 (.slice (some ⟨g, 0, none⟩) c.length cap) c.length (intsV c) → Calls Try.prog 39 #[.slice (some ⟨g, 0, none⟩) c.length cap, .int .i64 t] w1 fun e w' => e = .returned (.bool (c.contains t)) ∧ Below w1.heap.size w1 w') := fun w1 h => Try.contains_own (by omega) h
  have hstep : stepF E l n c t = if c.contains t then none else if E last t then growF E l n (c ++ [t]) else none := by unfold stepF; rw [hla]
  rw [hstep]
  clear hstep hE e3 hla hlast
  cases hcc : c.contains t with
  | true =>
    rw [hcc] at hct
    have K0 := KS w.drew hC
    go_enter Try.func55, Try.ntmps55
    go_wp2
    refine wp_region_held_drew (S := fun w' => w'.cell? ⟨bc, 0, none⟩ = some (.slice (some ⟨g, 0, none⟩) c.length cap)) (by kernel_rfl) K0.1 (fun hHeld => ?_)
    refine wpAnyH_take (i := 0) (v := .slice (some ⟨g, 0, none⟩) c.length cap) rfl (by kernel_rfl) (by kernel_rfl) (by kernel_rfl) (fun _ _ _ h => h) (Or.inl ⟨by kernel_rfl, fun w' hw' => ?_⟩) hHeld ?_
    · go_simp
    simp only [Act.put, List.getElem_toArray, List.getElem_cons_succ, List.getElem_cons_zero, List.setIfInBounds_toArray, List.set_cons_zero, List.set_cons_succ]
    refine wpAnyH_take (i := 1) (v := .int .i64 t) rfl (by kernel_rfl) (by kernel_rfl) (by kernel_rfl) (fun _ _ _ h => h) (Or.inl ⟨by kernel_rfl, fun w' hw' => ?_⟩) hHeld ?_
    · go_simp
    simp only [Act.put, List.getElem_toArray, List.getElem_cons_succ, List.getElem_cons_zero, List.setIfInBounds_toArray, List.set_cons_zero, List.set_cons_succ]
    refine wpAnyH_ready (rs := [2]) (by kernel_rfl) (by simp) (AllReadyH.cons rfl (fun K hK => ?_) AllReadyH.nil)
    rw [if_pos (by kernel_rfl)]
    go_simp
    go_at_call 39
    refine (hct.out _ P0.drew.own).mono ?_
    rintro e w1 ⟨rfl, hB⟩
    have C1 : Cons M w1 := Cons.below (w := w.drew) hC hB
    have K1 := KS w1 C1
    go_wp2_with fail
    refine hK.out _ _ K1.1 (fun hHeld => ?_)
    clear hK K
    refine wpAnyH_take (i := 3) (v := .bool false) rfl (by kernel_rfl) (by kernel_rfl) (by kernel_rfl) (fun _ _ _ h => h) (Or.inl ⟨by kernel_rfl, fun w' hw' => ?_⟩) hHeld ?_
    · go_simp
    simp only [Act.put, List.getElem_toArray, List.getElem_cons_succ, List.getElem_cons_zero, List.setIfInBounds_toArray, List.set_cons_zero, List.set_cons_succ]
    refine wpAnyH_take (i := 4) (v := .bool false) rfl (by kernel_rfl) (by kernel_rfl) (by kernel_rfl) (fun _ _ _ h => h) (Or.inl ⟨by kernel_rfl, fun w' hw' => ?_⟩) hHeld ?_
    · go_simp
    simp only [Act.put, List.getElem_toArray, List.getElem_cons_succ, List.getElem_cons_zero, List.setIfInBounds_toArray, List.set_cons_zero, List.set_cons_succ]
    refine wpAnyH_skips (by kernel_rfl) hHeld (fun _ _ d _ _ h => by cases d <;> exact h) [5, 6, 7, 8, 9] (fuel := 11) (by kernel_rfl) ?_
    simp only [skipL, skipA, Act.put, List.getElem?_toArray, List.getElem?_cons_succ, List.getElem?_cons_zero, List.setIfInBounds_toArray, List.set_cons_zero, List.set_cons_succ]
    refine wpAnyH_take (i := 10) (v := .bool false) rfl (by kernel_rfl) (by kernel_rfl) (by kernel_rfl) (fun _ _ _ h => h) (Or.inl ⟨by kernel_rfl, fun w' hw' => ?_⟩) hHeld ?_
    · go_simp
    simp only [Act.put, List.getElem_toArray, List.getElem_cons_succ, List.getElem_cons_zero, List.setIfInBounds_toArray, List.set_cons_zero, List.set_cons_succ]
    refine wpAnyH_take (i := 11) (v := .bool false) rfl (by kernel_rfl) (by kernel_rfl) (by kernel_rfl) (fun _ _ _ h => h) (Or.inl ⟨by kernel_rfl, fun w' hw' => ?_⟩) hHeld ?_
    · go_simp
    simp only [Act.put, List.getElem_toArray, List.getElem_cons_succ, List.getElem_cons_zero, List.setIfInBounds_toArray, List.set_cons_zero, List.set_cons_succ]
    refine wpAnyH_skips (by kernel_rfl) hHeld (fun _ _ d _ _ h => by cases d <;> exact h) [12, 13, 14, 15, 16, 17, 18] (fuel := 2) (by kernel_rfl) ?_
    simp only [skipL, skipA, Act.put, List.getElem?_toArray, List.getElem?_cons_succ, List.getElem?_cons_zero, List.setIfInBounds_toArray, List.set_cons_zero, List.set_cons_succ]
    refine wpAnyH_take (i := 19) (v := .bool false) rfl (by kernel_rfl) (by kernel_rfl) (by kernel_rfl) (fun _ _ _ h => h) (Or.inl ⟨by kernel_rfl, fun w' hw' => ?_⟩) hHeld ?_
    · go_simp
    simp only [Act.put, List.getElem_toArray, List.getElem_cons_succ, List.getElem_cons_zero, List.setIfInBounds_toArray, List.set_cons_zero, List.set_cons_succ]
    refine wpAnyH_take (i := 20) (v := .bool false) rfl (by kernel_rfl) (by kernel_rfl) (by kernel_rfl) (fun _ _ _ h => h) (Or.inl ⟨by kernel_rfl, fun w' hw' => ?_⟩) hHeld ?_
    · go_simp
    simp only [Act.put, List.getElem_toArray, List.getElem_cons_succ, List.getElem_cons_zero, List.setIfInBounds_toArray, List.set_cons_zero, List.set_cons_succ]
    refine wpAnyH_done (by kernel_rfl) ?_ _
    go_wp2
    go_ret
    exact ⟨rfl, P0.drew.below hB, fun r h => by cases h⟩
  | false =>
    rw [hcc] at hct
    cases hE1 : E last t with
    | false =>
      rw [hE1] at KS
      have K0 := KS w.drew hC
      go_enter Try.func55, Try.ntmps55
      go_wp2
      refine wp_region_held_drew (S := fun w' => w'.cell? ⟨bc, 0, none⟩ = some (.slice (some ⟨g, 0, none⟩) c.length cap) ∧ w'.cell? ⟨be, 0, none⟩ = some mv ∧ w'.cell? ⟨bt, 0, none⟩ = some (.int .i64 last) ∧ (Instr.lookup 67 mv (.agg #[.int .i64 last, .int .i64 t]) false).run Try.prog w' = .ok (.bool false) w') (by kernel_rfl) ⟨K0.1, K0.2.1, K0.2.2.1, K0.2.2.2.2.2⟩ (fun hHeld => ?_)
      refine wpAnyH_take (i := 0) (v := .slice (some ⟨g, 0, none⟩) c.length cap) rfl (by kernel_rfl) (by kernel_rfl) (by kernel_rfl) (fun _ _ _ h => h) (Or.inl ⟨by kernel_rfl, fun w' hw' => ?_⟩) hHeld ?_
      · obtain ⟨q0, q1, q2, q3⟩ := hw'; go_simp
      simp only [Act.put, List.getElem_toArray, List.getElem_cons_succ, List.getElem_cons_zero, List.setIfInBounds_toArray, List.set_cons_zero, List.set_cons_succ]
      refine wpAnyH_take (i := 1) (v := .int .i64 t) rfl (by kernel_rfl) (by kernel_rfl) (by kernel_rfl) (fun _ _ _ h => h) (Or.inl ⟨by kernel_rfl, fun w' hw' => ?_⟩) hHeld ?_
      · obtain ⟨q0, q1, q2, q3⟩ := hw'; go_simp
      simp only [Act.put, List.getElem_toArray, List.getElem_cons_succ, List.getElem_cons_zero, List.setIfInBounds_toArray, List.set_cons_zero, List.set_cons_succ]
      refine wpAnyH_ready (rs := [2]) (by kernel_rfl) (by simp) (AllReadyH.cons rfl (fun K hK => ?_) AllReadyH.nil)
      rw [if_pos (by kernel_rfl)]
      go_simp
      go_at_call 39
      refine (hct.out _ P0.drew.own).mono ?_
      rintro e w1 ⟨rfl, hB⟩
      have C1 : Cons M w1 := Cons.below (w := w.drew) hC hB
      have K1 := KS w1 C1
      go_wp2_with fail
      refine hK.out _ _ ⟨K1.1, K1.2.1, K1.2.2.1, K1.2.2.2.2.2⟩ (fun hHeld => ?_)
      clear hK K
      refine wpAnyH_take (i := 3) (v := .bool true) rfl (by kernel_rfl) (by kernel_rfl) (by kernel_rfl) (fun _ _ _ h => h) (Or.inl ⟨by kernel_rfl, fun w' hw' => ?_⟩) hHeld ?_
      · obtain ⟨q0, q1, q2, q3⟩ := hw'; go_simp
      simp only [Act.put, List.getElem_toArray, List.getElem_cons_succ, List.getElem_cons_zero, List.setIfInBounds_toArray, List.set_cons_zero, List.set_cons_succ]
      refine wpAnyH_take (i := 4) (v := .bool true) rfl (by kernel_rfl) (by kernel_rfl) (by kernel_rfl) (fun _ _ _ h => h) (Or.inl ⟨by kernel_rfl, fun w' hw' => ?_⟩) hHeld ?_
      · obtain ⟨q0, q1, q2, q3⟩ := hw'; go_simp
      simp only [Act.put, List.getElem_toArray, List.getElem_cons_succ, List.getElem_cons_zero, List.setIfInBounds_toArray, List.set_cons_zero, List.set_cons_succ]
      refine wpAnyH_take (i := 5) (v := mv) rfl (by kernel_rfl) (by kernel_rfl) (by kernel_rfl) (fun _ _ _ h => h) (Or.inl ⟨by kernel_rfl, fun w' hw' => ?_⟩) hHeld ?_
      · obtain ⟨q0, q1, q2, q3⟩ := hw'; go_simp
      simp only [Act.put, List.getElem_toArray, List.getElem_cons_succ, List.getElem_cons_zero, List.setIfInBounds_toArray, List.set_cons_zero, List.set_cons_succ]
      refine wpAnyH_take (i := 6) (v := .int .i64 last) rfl (by kernel_rfl) (by kernel_rfl) (by kernel_rfl) (fun _ _ _ h => h) (Or.inl ⟨by kernel_rfl, fun w' hw' => ?_⟩) hHeld ?_
      · obtain ⟨q0, q1, q2, q3⟩ := hw'; go_simp
      simp only [Act.put, List.getElem_toArray, List.getElem_cons_succ, List.getElem_cons_zero, List.setIfInBounds_toArray, List.set_cons_zero, List.set_cons_succ]
      refine wpAnyH_take (i := 7) (v := .int .i64 t) rfl (by kernel_rfl) (by kernel_rfl) (by kernel_rfl) (fun _ _ _ h => h) (Or.inl ⟨by kernel_rfl, fun w' hw' => ?_⟩) hHeld ?_
      · obtain ⟨q0, q1, q2, q3⟩ := hw'; go_simp
      simp only [Act.put, List.getElem_toArray, List.getElem_cons_succ, List.getElem_cons_zero, List.setIfInBounds_toArray, List.set_cons_zero, List.set_cons_succ]
      refine wpAnyH_take (i := 8) (v := .agg #[.int .i64 last, .int .i64 t]) rfl (by kernel_rfl) (by kernel_rfl) (by kernel_rfl) (fun _ _ _ h => h) (Or.inl ⟨by kernel_rfl, fun w' hw' => ?_⟩) hHeld ?_
      · obtain ⟨q0, q1, q2, q3⟩ := hw'; go_simp
      simp only [Act.put, List.getElem_toArray, List.getElem_cons_succ, List.getElem_cons_zero, List.setIfInBounds_toArray, List.set_cons_zero, List.set_cons_succ]
      refine wpAnyH_take (i := 9) (v := .bool false) rfl (by kernel_rfl) (by kernel_rfl) (by kernel_rfl) (fun _ _ _ h => h) (Or.inl ⟨by kernel_rfl, fun w' hw' => ?_⟩) hHeld ?_
      · obtain ⟨q0, q1, q2, q3⟩ := hw'; go_simp
      simp only [Act.put, List.getElem_toArray, List.getElem_cons_succ, List.getElem_cons_zero, List.setIfInBounds_toArray, List.set_cons_zero, List.set_cons_succ]
      refine wpAnyH_take (i := 10) (v := .bool false) rfl (by kernel_rfl) (by kernel_rfl) (by kernel_rfl) (fun _ _ _ h => h) (Or.inl ⟨by kernel_rfl, fun w' hw' => ?_⟩) hHeld ?_
      · obtain ⟨q0, q1, q2, q3⟩ := hw'; go_simp
      simp only [Act.put, List.getElem_toArray, List.getElem_cons_succ, List.getElem_cons_zero, List.setIfInBounds_toArray, List.set_cons_zero, List.set_cons_succ]
      refine wpAnyH_take (i := 11) (v := .bool false) rfl (by kernel_rfl) (by kernel_rfl) (by kernel_rfl) (fun _ _ _ h => h) (Or.inl ⟨by kernel_rfl, fun w' hw' => ?_⟩) hHeld ?_
      · obtain ⟨q0, q1, q2, q3⟩ := hw'; go_simp
      simp only [Act.put, List.getElem_toArray, List.getElem_cons_succ, List.getElem_cons_zero, List.setIfInBounds_toArray, List.set_cons_zero, List.set_cons_succ]
      refine wpAnyH_skips (by kernel_rfl) hHeld (fun _ _ d _ _ h => by cases d <;> exact h) [12, 13, 14, 15, 16, 17, 18] (fuel := 2) (by kernel_rfl) ?_
      simp only [skipL, skipA, Act.put, List.getElem?_toArray, List.getElem?_cons_succ, List.getElem?_cons_zero, List.setIfInBounds_toArray, List.set_cons_zero, List.set_cons_succ]
      refine wpAnyH_take (i := 19) (v := .bool false) rfl (by kernel_rfl) (by kernel_rfl) (by kernel_rfl) (fun _ _ _ h => h) (Or.inl ⟨by kernel_rfl, fun w' hw' => ?_⟩) hHeld ?_
      · obtain ⟨q0, q1, q2, q3⟩ := hw'; go_simp
      simp only [Act.put, List.getElem_toArray, List.getElem_cons_succ, List.getElem_cons_zero, List.setIfInBounds_toArray, List.set_cons_zero, List.set_cons_succ]
      refine wpAnyH_take (i := 20) (v := .bool false) rfl (by kernel_rfl) (by kernel_rfl) (by kernel_rfl) (fun _ _ _ h => h) (Or.inl ⟨by kernel_rfl, fun w' hw' => ?_⟩) hHeld ?_
      · obtain ⟨q0, q1, q2, q3⟩ := hw'; go_simp
      simp only [Act.put, List.getElem_toArray, List.getElem_cons_succ, List.getElem_cons_zero, List.setIfInBounds_toArray, List.set_cons_zero, List.set_cons_succ]
      refine wpAnyH_done (by kernel_rfl) ?_ _
      go_wp2
      go_ret
      exact ⟨rfl, P0.drew.below hB, fun r h => by cases h⟩
    | true =>
      rw [hE1] at KS
      have K0 := KS w.drew hC
      have hwf2 : ∀ x, x ∈ c ++ [t] → wfI .i64 x = true := fun x hx => by
        rcases List.mem_append.1 hx with h | h
        · exact hwc x h
        · rw [List.mem_singleton.1 h]; exact hwt
      obtain ⟨b9, hb9⟩ : ∃ b9, b9 = (growF E l n (c ++ [t])).isSome := ⟨_, rfl⟩
      have hgr : Hid (∀ w4 vc2, Cons M w4 → w4.ownsRow base 3 1 vc2 (c.length + 1) (intsV (c ++ [t])) → (∀ g, vc2.ownBlock = some g → ∀ o, M g o = none) → (∃ fv, w4.heap[bf]? = some (.cells #[fv] 24 (0, 0))) → base ≤ w4.heap.size →
          Calls Try.prog 52 #[vc2, .int .i64 (long : Nat), .pointer (some ⟨bf, 0, none⟩), .pointer (some ⟨be, 0, none⟩), .pointer (some ⟨bl, 0, none⟩), .pointer (some ⟨bg, 0, none⟩)] w4 fun e w' => e = .returned (.bool b9) ∧ GP base w4 bf vc2 (c ++ [t]) w' ∧ ∀ r, growF E l n (c ++ [t]) = some r → Found M w4 bf r w') :=
        fun w4 vc2 h1 h2 h3 h4 h5 => ih E l (c ++ [t]) M w4 base bf be bl bg long vc2 hG h1 (by simp) hwf2 (by simp; omega) hl (by simpa using h2) h3 h4 h5 |>.mono fun e w' h => ⟨by rw [hb9]; exact h.1, h.2⟩
      have hMg := hMv g rfl
      have en52 := Try.enter52
      clear ih hwf2 hwc
      go_enter Try.func55, Try.ntmps55
      go_wp2
      go_region_held3 (fun w' => w'.cell? ⟨bc, 0, none⟩ = some (.slice (some ⟨g, 0, none⟩) c.length cap) ∧ w'.cell? ⟨be, 0, none⟩ = some mv ∧ w'.cell? ⟨bt, 0, none⟩ = some (.int .i64 last) ∧ w'.cell? ⟨bg, 0, none⟩ = some (.func (.func 52) #[] #[.pointer (some ⟨bf, 0, none⟩), .pointer (some ⟨be, 0, none⟩), .pointer (some ⟨bl, 0, none⟩), .pointer (some ⟨bg, 0, none⟩)]) ∧ w'.cell? ⟨bn, 0, none⟩ = some (.int .i64 (long : Nat)) ∧ (Instr.lookup 67 mv (.agg #[.int .i64 last, .int .i64 t]) false).run Try.prog w' = .ok (.bool true) w')
        (first | exact K0 | exact K1 | exact KS _ (C1.alloc _) | exact KS _ A.1 | exact K4)
        (first
          | (go_at_call 39; refine (hct.out _ P0.drew.own).mono ?_; rintro e w1 ⟨rfl, hB⟩; have C1 : Cons M w1 := Cons.below (w := w.drew) hC hB; have P1 := P0.drew.below hB; have K1 := KS w1 C1)
          | (refine Try.step_append_int (.tmp 21) (.tmp 23) (by rfl) base t (by rfl) (P1.alloc _).own (by rfl) (by simp [addr_add0]) (by omega) (by have := P1.size; simp; omega) (by rfl) ?_; intro g' cap' w3 ho3 hap; have A := after_app (n := c.length + 1) (P1.alloc _) (C1.alloc _) hMg hap)
          | (go_at_call 52; refine (hgr.out w3 _ A.1 ho3 A.2.1 A.2.2.1 (Nat.le_trans hb A.2.2.2)).mono ?_; rintro e w4 ⟨rfl, hP4, hF4⟩; have K4 := KS w4 (hP4.cons A.1 hG.f A.2.1)))
      all_goals go_wp2
      all_goals go_ret
      all_goals exact ⟨by simp [hb9], GP.back (P1.alloc _) hap hP4, fun r hr => (hF4 r (by simpa using hr)).back A.2.2.2⟩

end Go.Proofs
