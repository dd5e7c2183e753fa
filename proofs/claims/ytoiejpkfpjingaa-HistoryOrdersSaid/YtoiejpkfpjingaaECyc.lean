/-
  Cycle: a search that calls itself through a variable. Its parts, walked. No statement of the seat is proved here.
-/
import Derived.Test.YtoiejpkfpjingaaERaw
set_option maxRecDepth 100000
set_option linter.unusedVariables false
set_option linter.unusedSimpArgs false
namespace Go.AM

theorem contains_l1 (t : Int) : ∀ (l : List Int) (k : Nat), ∃ r : Int, sl_Index_int_l1 t sl_Index_int_j4 l k = some r ∧ (decide (r ≥ 0) = l.contains t)
  | [], k => ⟨-1, by rw [sl_Index_int_l1.eq_1]; rfl, rfl⟩
  | x :: l, k => by
    obtain ⟨r, h1, h2⟩ := contains_l1 t l (k + 1)
    rw [sl_Index_int_l1.eq_2]
    by_cases h : t = x
    · subst h
      refine ⟨(k : Int), by simp, ?_⟩
      simp
    · refine ⟨r, ?_, ?_⟩
      · rw [beq_eq_false_iff_ne.2 h, cond_false, h1]
      · rw [h2, List.contains_cons]
        simp [h]

theorem contains_val {l : List Int} (hl : l.length ≤ 100000) (t : Int) : sl_Contains_int l t = some (l.contains t) := by
  unfold sl_Contains_int sl_Index_int
  obtain ⟨r, h1, h2⟩ := contains_l1 t l 0
  have : lenOk l = true := Nat.ble_eq_true_of_le (by omega)
  rw [this]
  simp only [chk, cond_true]
  rw [h1, ← h2]
  rfl

/-- the search: a cycle that begins with c, of n more elements -/
def growF (E : Int → Int → Bool) (l : List Int) : Nat → List Int → Option (List Int)
  | 0, c => if E (c.getLastD 0) (c.headD 0) then some c else none
  | n + 1, c => l.findSome? fun t => if c.contains t then none else if E (c.getLastD 0) t then growF E l n (c ++ [t]) else none

/-- one step of it -/
def stepF (E : Int → Int → Bool) (l : List Int) (n : Nat) (c : List Int) (t : Int) : Option (List Int) := if c.contains t then none else if E (c.getLastD 0) t then growF E l n (c ++ [t]) else none

end Go.AM

namespace Go.Proofs
open Go.RowKit Go.AM

theorem Try.infoInt : (Try.prog.info? 3).map (fun i => (i.zero, i.size, i.bytes)) = some (some (.int .i64 0), 1, 8) := by kernel_rfl

/-- the search of the first element that a function takes: the function may write -/
theorem Try.indexFunc (k : Nat) (hrun : ∀ args w, (callFunc k args).run Try.prog w = .ok (.enter k args) w) (caps : Array Value) (l : List Int) (v : Value) (hlen : l.length ≤ 100000) (M : Mem) (hv : R M (.lst 3 1 none (cL l)) v) (I Q : Nat → World → Prop) (hI : ∀ i w, I i w → Cons M w)
    (step : ∀ i x w, l[i]? = some x → I i w → Calls Try.prog k (#[.int .i64 x] ++ caps) w fun e w' => (e = .returned (.bool true) ∧ Q i w') ∨ (e = .returned (.bool false) ∧ I (i + 1) w')) (w : World) (h0 : I 0 w) :
    Calls Try.prog 88 #[v, .func (.func k) #[] caps] w fun e w' => (∃ i : Nat, i < l.length ∧ e = .returned (.int .i64 i) ∧ Q i w') ∨ (e = .returned (.int .i64 (-1)) ∧ I l.length w') := by
  obtain ⟨a, cap, rfl, hcell⟩ := ints_form hv
  clear hv
  have mixed := mixedP
  have t3 := Try.underlying3; have a3 := Try.isAgg3; have z3 := Try.sizeOf3; have v3 := Try.zeroValue3; have u3 := run_underlying Try.underlying3
  have t4 := Try.underlying4; have a4 := Try.isAgg4; have z4 := Try.sizeOf4; have v4 := Try.zeroValue4
  have t24 := Try.underlying24; have a24 := Try.isAgg24; have z24 := Try.sizeOf24; have v24 := Try.zeroValue24
  go_enter Try.func88, Try.ntmps88
  go_wp2
  go_loopw [8] (fun i wr => ∃ k : Nat, k ≤ l.length ∧ i = .int .i64 k ∧ I k wr) (fun i _ => l.length - (RowKit.intOf i).toNat)
  case atStart => exact ⟨0, Nat.zero_le _, rfl, h0⟩
  case round =>
    obtain ⟨j, hj, rfl, hIj⟩ := hrel
    rcases Nat.lt_or_ge j l.length with h1 | h1
    · obtain ⟨b, off, rfl, hM⟩ := hcell j h1
      have hc : wr.cell? ⟨b, off + j, none⟩ = some (.int .i64 l[j]) := mc_cell (hI _ _ hIj _ _ _ hM) rfl
      have j0 : (0 : Int) ≤ (j : Int) := Int.natCast_nonneg _
      have j1 : (j : Int) < (l.length : Int) := by omega
      have hs := step j l[j] wr (List.getElem?_eq_getElem h1) hIj
      clear hcell
      go_wp2_with fail
      refine hs.mono ?_
      rintro e w' (⟨rfl, hq⟩ | ⟨rfl, hq⟩)
      · go_wp2
        go_ret
        exact .inl ⟨j, h1, rfl, hq⟩
      · go_wp2
        go_roundw
        case rel => exact ⟨j + 1, h1, by go_num, hq⟩
        case measure => simp [RowKit.intOf]; omega
    · have hkl : j = l.length := by omega
      subst hkl
      go_wp2
      go_ret
      exact .inr ⟨rfl, hIj⟩

end Go.Proofs

namespace Go.Proofs
open Go.RowKit Go.AM

/-- append to a row of numbers: in its place, or to a new block, the old row kept -/
theorem Try.run_append_int (w : World) (base : Nat) {g cap : Nat} {c : List Int} (x : Int) {ad : Addr} {c0 : Nat} {ty : TypeId} (hown : w.ownsRow base 3 1 (.slice (some ⟨g, 0, none⟩) c.length cap) c.length (intsV c)) (hx : w.cell? (ad.add 0) = some (.int .i64 x)) (hlen : c.length ≤ 1000000) (hb : base ≤ w.heap.size) :
    ∃ g' cap' w', (Builtin.append_ #[24, 24] ty #[.slice (some ⟨g, 0, none⟩) c.length cap, .slice (some ad) 1 c0]).run Try.prog w = .ok (.slice (some ⟨g', 0, none⟩) (c.length + 1) cap') w' ∧ w'.ownsRow base 3 1 (.slice (some ⟨g', 0, none⟩) (c.length + 1) cap') (c.length + 1) (intsV (c ++ [x])) ∧
      ((g' = g ∧ cap' = cap ∧ w.grownBy w' (some g)) ∨ (g' = w.heap.size ∧ w.grownBy w' none)) := by
  obtain ⟨i, hi, hz, hs1, hby⟩ := info_parts Try.infoInt
  have hnews : ∀ (j : Nat) u, [Value.int .i64 x][j]? = some u → w.cell? (ad.add j) = some u := by
    intro j u hj
    match j, hj with
    | 0, hj => simp at hj; subst hj; exact hx
  have h1 : ∀ u, u ∈ [Value.int .i64 x] → u.oneCell' = true := by intro u hu; simp at hu; subst hu; rfl
  have hap : intsV (c ++ [x]) = intsV c ++ [.int .i64 x] := by simp [intsV]
  rw [hap]
  by_cases hroom : c.length + 1 ≤ cap
  · obtain ⟨w', hr, ho, hg⟩ := run_append_fits (P := Try.prog) w base 24 ty 3 i 1 Try.underlying24 hi hs1 g c.length cap (intsV c) hown ad 1 c0 [.int .i64 x] rfl hnews h1 hroom
    exact ⟨g, cap, w', hr, ho, .inl ⟨rfl, rfl, hg⟩⟩
  · have hrow := hown
    rcases hrow.2 with ⟨hv, h0⟩ | ⟨g', cap', cur, hv, hbg, hg, hnc, hcm, hcs, htake⟩
    · cases hv
    · cases hv
      have holds : ∀ (j : Nat) u, (intsV c)[j]? = some u → w.cell? ((⟨g, 0, none⟩ : Addr).add j) = some u := hown.cells (g := g) rfl
      have hr := run_append_grow (P := Try.prog) w 24 ty 3 i (.int .i64 0) Try.underlying24 hi hz ⟨g, 0, none⟩ c.length cap (intsV c) (by rw [hs1]; exact hown.1) holds ad 1 c0 [.int .i64 x] (by rw [hs1]; rfl) hnews (by omega) (by omega) (growslice_fits (by omega) (by rw [hby]; omega))
      refine ⟨_, _, _, hr, ⟨by simp [intsV], .inr ⟨w.heap.size, _, _, rfl, hb, Go.heap_alloc_new w.drew _, grownCap_ge w (c.length + 1) cap 3, grownCap_le_maxLen w (c.length + 1) cap 3 (by unfold maxLen; omega), ?_, ?_⟩⟩, .inr ⟨rfl, ⟨rfl, rfl, rfl, by simp, fun k hk _ => heap_alloc_old w.drew _ hk⟩⟩⟩
      · have hge := grownCap_ge w (c.length + 1) cap 3
        have hzs : (Value.int IntKind.i64 0).cells.size = 1 := rfl
        simp only [Array.size_append, List.size_toArray, size_zeroCells, hzs, List.length_map, List.length_cons, List.length_nil]
        omega
      · simp only [Array.toList_append, List.append_assoc]
        rw [← List.append_assoc]
        have : (c.length + 1) * 1 = (intsV c ++ [Value.int .i64 x]).length := by simp [intsV]
        rw [this]
        exact List.take_left

/-- the same, at a step of a region that draws -/
theorem Try.step_append_int {ops : Array Oper} {o : Oper} {a : Act} {w : World} {K : Act → World → Prop} {Q : Exit → Act → World → Prop} {Z : Prop} (s x : Operand) (ho : o.op = .call { callee := .builtin .append, args := #[s, x], argTypes := #[24, 24] }) (base : Nat) {g cap : Nat} {c : List Int} (t : Int) {ad : Addr} {c0 : Nat}
    (hs : a.eval s = .slice (some ⟨g, 0, none⟩) c.length cap) (hown : w.ownsRow base 3 1 (.slice (some ⟨g, 0, none⟩) c.length cap) c.length (intsV c)) (hx : a.eval x = .slice (some ad) 1 c0) (hc : w.cell? (ad.add 0) = some (.int .i64 t)) (hlen : c.length ≤ 1000000) (hb : base ≤ w.heap.size)
    (hw : Region.wanted o (yielded ops a.tmps) = true)
    (h : ∀ g' cap' w', w'.ownsRow base 3 1 (.slice (some ⟨g', 0, none⟩) (c.length + 1) cap') (c.length + 1) (intsV (c ++ [t])) → ((g' = g ∧ cap' = cap ∧ w.grownBy w' (some g)) ∨ (g' = w.heap.size ∧ w.grownBy w' none)) → K (a.put o.dst (.slice (some ⟨g', 0, none⟩) (c.length + 1) cap')) w') :
    if Region.wanted o (yielded ops a.tmps) = true then Oper.wp Try.prog o a w K Q else Z := by
  rw [if_pos hw]
  obtain ⟨g', cap', w', hr, h2, h3⟩ := Try.run_append_int w base t (ty := o.type) (c0 := c0) hown hc hlen hb
  unfold Oper.wp execOp
  simp only [ho, resolve, invoke, builtin, Sem.run_bind, Sem.run_pure, Result.andThen_ok, List.map_toArray, List.map_cons, List.map_nil, hs, hx, hr]
  exact h g' cap' w' h2 h3

/-- the world but for a box of a slice and for one row, whose first cells stay -/
structure GP (base : Nat) (w : World) (bf : Nat) (vc : Value) (c : List Int) (w' : World) : Prop where
  os : w'.os = w.os
  tape : w'.tape = w.tape
  output : w'.output = w.output
  size : w.heap.size ≤ w'.heap.size
  block : ∀ k, k < w.heap.size → k ≠ bf → some k ≠ vc.ownBlock → w'.heap[k]? = w.heap[k]?
  own : w'.ownsRow base 3 1 vc c.length (intsV c)
  box : ∃ fv, w'.heap[bf]? = some (.cells #[fv] 24 (0, 0))

/-- the box of a slice is not the row of numbers -/
theorem box_apart {w : World} {base bf : Nat} {fv vc : Value} {c : List Int} (hb : w.heap[bf]? = some (.cells #[fv] 24 (0, 0))) (ho : w.ownsRow base 3 1 vc c.length (intsV c)) : some bf ≠ vc.ownBlock := by
  rcases ho.2 with ⟨rfl, _⟩ | ⟨g, cap, cur, rfl, _, hg, _⟩
  · intro e; cases e
  · intro e
    simp only [Value.ownBlock, Option.some.injEq] at e
    subst e
    rw [hb] at hg
    simp at hg

section
variable {base : Nat} {w w1 w2 : World} {bf : Nat} {vc : Value} {c : List Int}

theorem GP.refl {fv : Value} (ho : w.ownsRow base 3 1 vc c.length (intsV c)) (hb : w.heap[bf]? = some (.cells #[fv] 24 (0, 0))) : GP base w bf vc c w := ⟨rfl, rfl, rfl, Nat.le_refl _, fun _ _ _ _ => rfl, ho, fv, hb⟩

theorem GP.below (h : GP base w bf vc c w1) (hB : Below w1.heap.size w1 w2) : GP base w bf vc c w2 := by
  obtain ⟨fv, hf⟩ := h.box
  refine ⟨hB.os.trans h.os, hB.tape.trans h.tape, hB.output.trans h.output, Nat.le_trans h.size hB.size, fun k hk h1 h2 => ?_, World.ownsRow.kept h.own (below_of_tup hB) ?_, fv, ?_⟩
  · have := h.size
    rw [hB.block k (by omega), h.block k hk h1 h2]
  · cases vc.ownBlock with
    | none => exact .inl rfl
    | some k => exact .inr (by intro e; cases e)
  · rw [hB.block bf (lt_of_block hf)]; exact hf

theorem GP.alloc (h : GP base w bf vc c w1) (o : Obj) : GP base w bf vc c (w1.alloc o) := h.below ((Below.refl _ _).alloc (Nat.le_refl _) o)
theorem GP.drew (h : GP base w bf vc c w1) : GP base w bf vc c w1.drew := h.below ⟨rfl, rfl, rfl, Nat.le_refl _, fun _ _ => rfl⟩

theorem GP.trans (h : GP base w bf vc c w1) (k : GP base w1 bf vc c w2) : GP base w bf vc c w2 :=
  ⟨k.os.trans h.os, k.tape.trans h.tape, k.output.trans h.output, Nat.le_trans h.size k.size, fun j hj h1 h2 => by
    have := h.size
    rw [k.block j (by omega) h1 h2, h.block j hj h1 h2], k.own, k.box⟩

theorem GP.cons {M : Mem} (h : GP base w bf vc c w1) (hC : Cons M w) (hf : ∀ o, M bf o = none) (hv : ∀ g, vc.ownBlock = some g → ∀ o, M g o = none) : Cons M w1 :=
  hC.of_blocks fun b o u hu hb => h.block b hb (fun e => by rw [e, hf] at hu; cases hu) (fun e => by rw [hv b e.symm] at hu; cases hu)

/-- seen from a world before, of which the row was grown -/
theorem GP.back {t : Int} {g g' cap cap' : Nat} {v3 w4 : World} (h : GP base w bf (.slice (some ⟨g, 0, none⟩) c.length cap) c v3)  {v4 : World}
    (hap : (g' = g ∧ cap' = cap ∧ v3.grownBy v4 (some g)) ∨ (g' = v3.heap.size ∧ v3.grownBy v4 none)) (hk : GP base v4 bf (.slice (some ⟨g', 0, none⟩) (c.length + 1) cap') (c ++ [t]) w4) : GP base w bf (.slice (some ⟨g, 0, none⟩) c.length cap) c w4 := by
  have hs := h.size
  have hgl := (h.own.lt g rfl).2
  obtain ⟨fv, hf⟩ := h.box
  have hne : bf ≠ g := fun e => box_apart hf h.own (by rw [e]; rfl)
  rcases hap with ⟨rfl, rfl, hg⟩ | ⟨rfl, hg⟩
  · refine ⟨hk.os.trans (hg.os.trans h.os), hk.tape.trans (hg.tape.trans h.tape), hk.output.trans (hg.output.trans h.output), Nat.le_trans hs (Nat.le_trans hg.size hk.size), fun k hk1 hk2 hk3 => ?_, ?_, hk.box⟩
    · have := hg.size
      rw [hk.block k (by omega) hk2 hk3, hg.block k (by omega) hk3, h.block k hk1 hk2 hk3]
    · obtain ⟨e1, e2⟩ := hk.own
      refine ⟨by simp [intsV], .inr ?_⟩
      rcases e2 with ⟨hv, _⟩ | ⟨g2, cap2, cur, hv, k1, k2, k3, k4, k5, k6⟩
      · cases hv
      · obtain ⟨e3, e4⟩ : g' = g2 ∧ cap' = cap2 := by
          simp only [Value.slice.injEq, Option.some.injEq, Addr.mk.injEq] at hv
          exact ⟨hv.1.1, hv.2.2⟩
        subst e3; subst e4
        rw [List.length_append, List.length_singleton] at k6
        refine ⟨g', cap', cur, rfl, k1, k2, by rw [List.length_append] at k3; simp at k3; omega, k4, k5, ?_⟩
        have h1 := congrArg (List.take c.length) k6
        rw [List.take_take] at h1
        rw [Nat.min_eq_left (by omega)] at h1
        rw [Nat.mul_one, h1]
        simp [intsV]
  · have hneq : g ≠ v3.heap.size := by omega
    refine ⟨hk.os.trans (hg.os.trans h.os), hk.tape.trans (hg.tape.trans h.tape), hk.output.trans (hg.output.trans h.output), Nat.le_trans hs (Nat.le_trans hg.size hk.size), fun k hk1 hk2 hk3 => ?_, ?_, hk.box⟩
    · have := hg.size
      rw [hk.block k (by omega) hk2 (by intro e; simp [Value.ownBlock] at e; omega), hg.block k (by omega) (by intro e; cases e), h.block k hk1 hk2 hk3]
    · obtain ⟨e1, e2⟩ := h.own
      refine ⟨e1, ?_⟩
      rcases e2 with ⟨hv, _⟩ | ⟨g2, cap2, cur, hv, k1, k2, k3⟩
      · cases hv
      · cases hv
        have := hg.size
        exact .inr ⟨g, cap, cur, rfl, k1, by rw [hk.block g (by omega) (fun e => hne e.symm) (by intro e; simp [Value.ownBlock] at e; omega), hg.block g (by omega) (by intro e; cases e)]; exact k2, k3⟩

end

/-- what was found stands in the box -/
def Found (M : Mem) (w : World) (bf : Nat) (r : List Int) (w' : World) : Prop :=
  ∃ M' fv, Sub M M' ∧ Cons M' w' ∧ (∀ b o, b < w.heap.size → M' b o = M b o) ∧ w'.heap[bf]? = some (.cells #[fv] 24 (0, 0)) ∧ R M' (.lst 3 1 none (cL r)) fv

/-- what a search does -/
def GrowPost (M : Mem) (base : Nat) (w : World) (bf : Nat) (vc : Value) (c : List Int) (res : Option (List Int)) (e : Ending) (w' : World) : Prop :=
  e = .returned (.bool res.isSome) ∧ GP base w bf vc c w' ∧ ∀ r, res = some r → Found M w bf r w'

def growV (bf be bl bg : Nat) : Value := .func (.func 52) #[] #[.pointer (some ⟨bf, 0, none⟩), .pointer (some ⟨be, 0, none⟩), .pointer (some ⟨bl, 0, none⟩), .pointer (some ⟨bg, 0, none⟩)]

/-- what the search finds in memory that lasts -/
structure GE (M : Mem) (bf be bl bg : Nat) (E : Int → Int → Bool) (l : List Int) : Prop where
  e : ∃ mv, M be 0 = some mv ∧ isTup mv = false ∧ ∀ w, Cons M w → ∀ a b, wfI .i64 a = true → wfI .i64 b = true → (Instr.lookup 67 mv (.agg #[.int .i64 a, .int .i64 b]) false).run Try.prog w = .ok (.bool (E a b)) w
  lv : ∃ lv, M bl 0 = some lv ∧ isTup lv = false ∧ R M (.lst 3 1 none (cL l)) lv
  g : M bg 0 = some (growV bf be bl bg)
  f : ∀ o, M bf o = none
  wf : ∀ x, x ∈ l → wfI .i64 x = true
  len : l.length ≤ 1000

/-- one search, of n more elements -/
def Grow52 (n : Nat) : Prop := ∀ (E : Int → Int → Bool) (l c : List Int) (M : Mem) (w : World) (base bf be bl bg long : Nat) (vc : Value), GE M bf be bl bg E l → Cons M w → c ≠ [] → (∀ x, x ∈ c → wfI .i64 x = true) → c.length + n = long → long ≤ 1000 →
  w.ownsRow base 3 1 vc c.length (intsV c) → (∀ g, vc.ownBlock = some g → ∀ o, M g o = none) → (∃ fv, w.heap[bf]? = some (.cells #[fv] 24 (0, 0))) → base ≤ w.heap.size →
  Calls Try.prog 52 #[vc, .int .i64 (long : Nat), .pointer (some ⟨bf, 0, none⟩), .pointer (some ⟨be, 0, none⟩), .pointer (some ⟨bl, 0, none⟩), .pointer (some ⟨bg, 0, none⟩)] w (GrowPost M base w bf vc c (growF E l n c))

theorem Try.contains_own {w : World} {base : Nat} {v : Value} {c : List Int} {t : Int} (hl : c.length ≤ 100000) (h : w.ownsRow base 3 1 v c.length (intsV c)) : Calls Try.prog 39 #[v, .int .i64 t] w fun e w' => e = .returned (.bool (c.contains t)) ∧ Below w.heap.size w w' := by
  obtain ⟨N, hN, hR, _⟩ := own_reads h
  refine (run_ok (run_sl_Contains_int c t _ (contains_val hl t)) N w [v, .int .i64 t] (glob0 N) hN rfl (fun j a b ha hb => ?_)).mono ?_
  · match j, ha, hb with
    | 0, ha, hb => cases ha; cases hb; exact hR
    | 1, ha, hb => cases ha; cases hb; exact .int _ _
  · rintro e w' ⟨v', M', rfl, hB, _, _, _, hr, _⟩
    cases hr
    exact ⟨rfl, hB⟩

end Go.Proofs
