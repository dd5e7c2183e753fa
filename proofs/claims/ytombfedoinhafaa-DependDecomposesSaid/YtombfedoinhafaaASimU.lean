/-
  THE ABSTRACT MACHINE AND THE MODEL: rows are renamed, cut, frozen. No statement of the seat is proved here.
-/
import Derived.Test.YtombfedoinhafaaASimT
set_option linter.unusedVariables false
set_option linter.unusedSimpArgs false
namespace Go.AM
open Go.RowKit

section
variable {bs : Base} {n : Nat} {M : Mem} {O : Gh} {env : Env} {a : Act} {w : World} {P : Program}

/-- another word for the same value -/
theorem Inv.setVal (h : Inv bs n M O env a w) {t : Nat} {x : AV} (hx : Sat O M w t x (a.tmps.getD t undef)) : Inv bs n M O (ins t x env) a w := by
  refine ⟨h.size, h.defers, h.below, h.hB, h.cons, h.ext, h.old, h.own, h.inj, h.fix, fun s y hy => ?_⟩
  rw [look_ins] at hy
  split at hy
  · rename_i e; subst e
    cases hy
    exact hx
  · exact h.slots s y hy

theorem usable_lt {s : Nat} (h : s < 2000000) : usable s = true := by
  unfold usable
  have : Nat.blt s 2000000 = true := Nat.ble_eq_true_of_le h
  rw [this]; rfl

theorem Inv.nilObj (h : Inv bs n M O env a w) (q : Nat × Nat × Nat × Nat) : ∃ O', Inv bs n M O' (nilObj env q) a w := by
  obtain ⟨t, e, k, id⟩ := q
  unfold AM.nilObj
  simp only
  split
  · rename_i hl hc
    simp only [Bool.and_eq_true] at hc
    obtain ⟨⟨⟨hc, hc1⟩, hc2⟩, hc3⟩ := hc
    have hc1 := Nat.le_of_ble_eq_true hc1
    have hc2 : id < 2000000 := Nat.le_of_ble_eq_true hc2
    have hc3 : 0 < k := Nat.le_of_ble_eq_true hc3
    obtain ⟨c1, c2⟩ := clearOf_spec hc
    have hne : id ≠ t := fun e => c1 .nils (by rw [e]; exact hl)
    have hv : a.tmps.getD t undef = .slice none 0 0 := by
      have := (h.slots t _ hl).1
      generalize a.tmps.getD t undef = v at this
      cases this; rfl
    have h1 := h.claim (t := id) (x := .obj e k []) c2 hc2 none 0 0 (fun g e => by cases e) ⟨hc3, by simp, by simp [setR], .inl ⟨rfl, by simp [setR_o]⟩⟩
    have h2 := h1.setVal (t := t) (x := .sb id e k 0 0) ⟨by simp, .inl ⟨rfl, none, hv⟩⟩
    exact ⟨_, h2.looks fun s => put_comm_ins hne env s⟩
  · exact ⟨O, h⟩

theorem renId_cases (s s' : Nat) (y : AV) : (y.refs s = false ∧ renId s s' y = y) ∨ (∃ o, y = .pb s o ∧ renId s s' y = .pb s' o) ∨ (∃ e k off m, y = .sb s e k off m ∧ renId s s' y = .sb s' e k off m) ∨ (∃ k j o, y = .pe s k j o ∧ renId s s' y = .pe s' k j o) ∨ renId s s' y = .top := by
  cases y with
  | pb t o =>
    by_cases h : Nat.beq t s = true
    · have := Nat.eq_of_beq_eq_true h
      subst this
      exact .inr (.inl ⟨o, rfl, by simp [renId]⟩)
    · have h' : Nat.beq t s = false := Bool.eq_false_iff.2 h
      exact .inl ⟨h', by simp only [renId]; rw [h']⟩
  | sb t e k off m =>
    by_cases h : Nat.beq t s = true
    · have := Nat.eq_of_beq_eq_true h
      subst this
      exact .inr (.inr (.inl ⟨e, k, off, m, rfl, by simp [renId]⟩))
    · have h' : Nat.beq t s = false := Bool.eq_false_iff.2 h
      exact .inl ⟨h', by simp only [renId]; rw [h']⟩
  | pe t k j o =>
    by_cases h : Nat.beq t s = true
    · have := Nat.eq_of_beq_eq_true h
      subst this
      exact .inr (.inr (.inr (.inl ⟨k, j, o, rfl, by simp [renId]⟩)))
    · have h' : Nat.beq t s = false := Bool.eq_false_iff.2 h
      exact .inl ⟨h', by simp only [renId]; rw [h']⟩
  | tpr t e k off m rest =>
    by_cases h : Nat.beq t s = true
    · exact .inr (.inr (.inr (.inr (by simp only [renId]; rw [h]))))
    · have h' : Nat.beq t s = false := Bool.eq_false_iff.2 h
      exact .inl ⟨h', by simp only [renId]; rw [h']⟩
  | _ => exact .inl ⟨rfl, rfl⟩

theorem look_map_filter {f : AV → AV} {s t : Nat} {x : AV} (h : look ((env.filter fun p => !Nat.beq p.1 s).map fun p => (p.1, f p.2)) t = some x) : t ≠ s ∧ ∃ y, look env t = some y ∧ f y = x := by
  rw [look_map f] at h
  cases hy : look (env.filter fun p => !Nat.beq p.1 s) t with
  | none => rw [hy] at h; cases h
  | some y =>
    rw [hy] at h
    obtain ⟨h1, h2⟩ := look_filter_ne hy
    exact ⟨h1, y, h2, by simpa using h⟩

theorem Inv.renObj (h : Inv bs n M O env a w) (q : Nat × Nat) : ∃ O', Inv bs n M O' (renObj env q) a w := by
  obtain ⟨s, s'⟩ := q
  unfold AM.renObj
  simp only
  split
  · rename_i e k xs hl hc
    simp only [Bool.and_eq_true] at hc
    obtain ⟨⟨⟨⟨hc, hc1⟩, hc2⟩, hc3⟩, hc4⟩ := hc
    have hc2 : s < 2000000 := Nat.le_of_ble_eq_true hc2
    have hc4 : s' < 2000000 := Nat.le_of_ble_eq_true hc4
    obtain ⟨c1, c2⟩ := clearOf_spec hc
    have hne : s ≠ s' := fun e => c1 _ (by rw [← e]; exact hl)
    -- first nobody stands on the row, then the new name does
    have h1 : Inv bs n M (setO O true s none) ((env.filter fun p => !Nat.beq p.1 s).map fun p => (p.1, killRef s p.2)) a w := h.forget (usable_lt hc2)
    obtain ⟨k0, k1, k2, k3⟩ := h.slots s _ hl
    have hS : ObjOk (setR (setO O true s none) s' (O.o true s) (O.len s) (O.siz s)) M w s' e k xs := by
      refine ⟨k0, k1, by simp [setR]; exact k2, ?_⟩
      simp only [setR_o, and_self, if_true]
      have : (setR (setO O true s none) s' (O.o true s) (O.len s) (O.siz s)).siz s' = O.siz s := by simp [setR]
      rw [this]
      exact k3
    have h2 := h1.claim (t := s') (x := .obj e k xs) (fun t x hx => by
      obtain ⟨_, y, hy, hyx⟩ := look_map_filter (f := killRef s) hx
      have := c2 t y hy
      rw [← hyx]
      unfold killRef
      split
      · rfl
      · exact this) hc4 (O.o true s) (O.len s) (O.siz s) (fun g hg => ⟨(h.own _ _ _ hg).1, (h.own _ _ _ hg).2, fun i c hh => by
        exfalso
        rw [setO_o] at hh
        split at hh
        · cases hh
        · rename_i hn
          exact hn (h.inj _ _ _ _ g hh hg)⟩) hS
    refine ⟨_, ⟨h2.size, h2.defers, h2.below, h2.hB, h2.cons, h2.ext, h2.old, h2.own, h2.inj, h2.fix, fun t x hx => ?_⟩⟩
    rw [look_ins] at hx
    split at hx
    · rename_i e1; subst e1
      cases hx
      exact hS
    · rename_i hts
      obtain ⟨hts', y, hy, hyx⟩ := look_map_filter hx
      have hnr := c2 t y hy
      rcases renId_cases s s' y with ⟨r1, r2⟩ | ⟨o, rfl, r2⟩ | ⟨e', k', off, m, rfl, r2⟩ | ⟨k', j, o, rfl, r2⟩ | r2
      · rw [r2] at hyx
        subst hyx
        have hEq : ∀ c, c ≠ s → c ≠ s' → Gh.Eq1 O (setR (setO O true s none) s' (O.o true s) (O.len s) (O.siz s)) c := fun c e1 e2 => by
          obtain ⟨f1, f2, f3⟩ := setO_ne (O := O) (v := none) e1
          obtain ⟨g1, g2, g3⟩ := setR_ne (O := setO O true s none) (v := O.o true s) (len := O.len s) (siz := O.siz s) e2
          exact ⟨g1.trans f1, g2.trans f2, g3.trans f3⟩
        refine (h.slots t _ hy).change2 (Sub.refl M) (fun _ => hEq t hts' hts) (fun c hcc => hEq c (fun e => by rw [e, r1] at hcc; cases hcc) (fun e => by rw [e, hnr] at hcc; cases hcc)) (fun g _ _ => ⟨rfl, fun _ hm => hm⟩) fun c g hg => ⟨by simp [setR_o, setO_o, hg], rfl, fun _ hm => hm⟩
      · rw [r2] at hyx
        subst hyx
        obtain ⟨g, p1, p2⟩ := h.slots t _ hy
        exact ⟨g, p1, by simp [setR_o]; exact p2⟩
      · rw [r2] at hyx
        subst hyx
        exact SbOk.ren (h.slots t _ hy) (by simp [setR_o]) (by simp [setR]) (by simp [setR])
      · rw [r2] at hyx
        subst hyx
        obtain ⟨g, p1, p2⟩ := h.slots t _ hy
        exact ⟨g, p1, by simp [setR_o]; exact p2⟩
      · rw [r2] at hyx
        subst hyx
        exact ⟨.top _, trivial⟩
  · exact ⟨O, h⟩

theorem flat_snap0 {k m : Nat} {xs : List AV} (h : ∀ x, x ∈ xs → x.cells.length = k) : flat (snapA 0 m xs) = (flat xs).take (m * k) := by
  unfold snapA
  rw [List.drop_zero, flat_take m h]

theorem Inv.trimObj (h : Inv bs n M O env a w) (q : Nat × Nat) : ∃ O', Inv bs n M O' (trimObj env q) a w := by
  obtain ⟨t, s⟩ := q
  unfold AM.trimObj
  simp only
  split
  · rename_i id e k m e' k' xs hlt hls hus
    split
    · rename_i hc
      simp only [Bool.and_eq_true] at hc
      obtain ⟨hc1, hc2⟩ := hc
      have hc1 := Nat.eq_of_beq_eq_true hc1
      have hc2 := Nat.eq_of_beq_eq_true hc2
      subst hc1; subst hc2
      obtain ⟨k0, k1, k2, k3⟩ := h.slots id _ hls
      obtain ⟨q1, q2⟩ := h.slots t _ hlt
      have hlen : (snapA 0 m xs).length = m := by unfold snapA; simp; omega
      have hne : id ≠ t := fun e1 => by rw [e1, hlt] at hls; cases hls
      have hty : ∀ x, x ∈ xs → x.cells.length = k := fun x hx => (k1 x hx).1
      have hsub : ∀ x, x ∈ snapA 0 m xs → x ∈ xs := fun x hx => by
        unfold snapA at hx
        exact List.mem_of_mem_drop (List.mem_of_mem_take hx)
      obtain ⟨O1, hO1⟩ : ∃ O1, O1 = setR O id (O.o true id) m (O.siz id) := ⟨_, rfl⟩
      have hO : ∀ i c, O1.o i c = O.o i c := by
        intro i c
        rw [hO1, setR_o]
        split
        · rename_i hh; rw [hh.1, hh.2]
        · rfl
      have hL : O1.len id = m := by rw [hO1]; simp [setR]
      have hZ : ∀ c, O1.siz c = O.siz c := by
        intro c
        rw [hO1]
        simp only [setR]
        split
        · rename_i hh; rw [hh]
        · rfl
      have hEq : ∀ c, c ≠ id → Gh.Eq1 O O1 c := fun c hc => by rw [hO1]; exact setR_ne hc
      refine ⟨O1, h.size, h.defers, h.below, h.hB, h.cons, h.ext, h.old, fun i c g hg => h.own i c g (by rw [← hO]; exact hg), fun i i' c c' g h1 h2 => h.inj i i' c c' g (by rw [← hO]; exact h1) (by rw [← hO]; exact h2), ⟨h.fix.1, fun c g1 g2 => ?_⟩, fun r x hx => ?_⟩
      · obtain ⟨e1, e2, e3⟩ := h.fix.2 c g1 g2
        obtain ⟨f1, f2, f3⟩ := hEq c fun e => usable_spec hus ⟨by omega, by omega⟩
        exact ⟨f1.trans e1, f2.trans e2, f3.trans e3⟩
      · rw [look_ins] at hx
        split at hx
        · rename_i e1; subst e1
          cases hx
          refine ⟨k0, fun x hx => k1 x (hsub x hx), by rw [hL, hlen], ?_⟩
          rw [hO, hZ]
          rcases k3 with ⟨rfl, hn⟩ | ⟨g, cur, f1, f2, f3, f4, f5, f6⟩
          · exact .inl ⟨by simp [snapA], hn⟩
          · refine .inr ⟨g, cur, f1, f2, f3, ?_, f5, fun j c u hc hu => ?_⟩
            · rw [hlen]
              have : m * k ≤ xs.length * k := Nat.mul_le_mul_right _ (by omega)
              omega
            · rw [flat_snap0 hty, List.getElem?_take] at hc
              split at hc
              · exact f6 j c u hc hu
              · cases hc
        · rename_i hr
          rw [look_ins] at hx
          split at hx
          · rename_i e1; subst e1
            cases hx
            refine ⟨by rw [hL, hlen]; omega, ?_⟩
            rw [hlen, hO, hZ]
            exact q2
          · obtain ⟨hrs, y, hy, hcase⟩ := look_forget hx
            rcases hcase with rfl | ⟨rfl, hnr⟩
            · exact ⟨.top _, trivial⟩
            · refine (h.slots r _ hy).change2 (Sub.refl M) (fun _ => hEq r hrs) (fun c hcc => hEq c fun e => by rw [e, hnr] at hcc; cases hcc) (fun g _ _ => ⟨rfl, fun _ hm => hm⟩) fun c g hg => ⟨by rw [hO]; exact hg, rfl, fun _ hm => hm⟩
    · exact ⟨O, h⟩
  · exact ⟨O, h⟩

theorem thaw_cases (s k : Nat) (xs : List AV) (y : AV) : thaw s k xs y = .top ∨ (y.refs s = false ∧ thaw s k xs y = y) ∨ ∃ e off m, y = .sb s e k off m ∧ thaw s k xs y = .lst e k none (snapA off m xs) := by
  cases y with
  | sb id e k' off m =>
    simp only [thaw]
    by_cases h : Nat.beq id s = true
    · rw [h]
      have := Nat.eq_of_beq_eq_true h
      subst this
      by_cases h2 : Nat.beq k' k = true
      · have := Nat.eq_of_beq_eq_true h2
        subst this
        exact .inr (.inr ⟨e, off, m, rfl, by simp⟩)
      · have h2' : Nat.beq k' k = false := Bool.eq_false_iff.2 h2
        exact .inl (by rw [h2'])
    · have h' : Nat.beq id s = false := Bool.eq_false_iff.2 h
      exact .inr (.inl ⟨h', by rw [h']⟩)
  | pe id k' j o =>
    simp only [thaw]
    by_cases h : Nat.beq id s = true
    · exact .inl (by rw [h])
    · have h' : Nat.beq id s = false := Bool.eq_false_iff.2 h
      exact .inr (.inl ⟨h', by rw [h']⟩)
  | pb id o =>
    simp only [thaw]
    by_cases h : Nat.beq id s = true
    · exact .inl (by rw [h])
    · have h' : Nat.beq id s = false := Bool.eq_false_iff.2 h
      exact .inr (.inl ⟨h', by rw [h']⟩)
  | tpr id e k' off m rest =>
    simp only [thaw]
    by_cases h : Nat.beq id s = true
    · exact .inl (by rw [h])
    · have h' : Nat.beq id s = false := Bool.eq_false_iff.2 h
      exact .inr (.inl ⟨h', by rw [h']⟩)
  | _ => exact .inr (.inl ⟨rfl, rfl⟩)

theorem Inv.freezeObj (h : Inv bs n M O env a w) {s e k : Nat} {xs : List AV} (hl : look env s = some (.obj e k xs)) (hus : usable s = true) :
    ∃ M' O', Inv bs n M' O' ((env.filter fun p => !Nat.beq p.1 s).map fun p => (p.1, thaw s k xs p.2)) a w := by
  obtain ⟨k0, k1, k2, k3⟩ := h.slots s _ hl
  have hty : ∀ x, x ∈ xs → x.cells.length = k := fun x hx => (k1 x hx).1
  -- what M' is to be
  obtain ⟨M', hsub, hM', hcell⟩ : ∃ M' : Mem, Sub M M' ∧ (∀ b o, O.o true s ≠ some b → M' b o = M b o) ∧ Cons M' w ∧ ∀ g, O.o true s = some g → ∃ cur : Array Value, cur.size = O.siz s ∧ xs.length * k ≤ cur.size ∧ (∀ o, M' g o = cur[o]?) ∧ ∀ (j : Nat) c u, (flat xs)[j]? = some c → cur[j]? = some u → R M c u := by
    rcases k3 with ⟨_, hn⟩ | ⟨g, cur, f1, f2, f3, f4, f5, f6⟩
    · exact ⟨M, Sub.refl M, fun _ _ _ => rfl, h.cons, fun g hg => by rw [hn] at hg; cases hg⟩
    · refine ⟨addRow M g cur, ?_, fun b o hb => ?_, ?_, fun g' hg => ?_⟩
      · intro b o u hu
        unfold addRow
        split
        · rename_i e1
          subst e1
          rw [f5] at hu; cases hu
        · exact hu
      · unfold addRow
        rw [if_neg fun e1 => hb (by rw [e1]; exact f1)]
      · intro b o u hu
        unfold addRow at hu
        split at hu
        · rename_i e1
          subst e1
          rw [cellRow f2]
          exact hu
        · exact h.cons b o u hu
      · have : g' = g := by rw [f1] at hg; exact (Option.some.inj hg).symm
        subst this
        exact ⟨cur, f3, f4, fun o => by simp [addRow], f6⟩
  obtain ⟨hC, hcell⟩ := hcell
  have hOO : ∀ i c g, (setO O true s none) i c = some g → O i c = some g ∧ ¬ (i = true ∧ c = s) := by
    intro i c g hg
    rw [setO_o] at hg
    split at hg
    · cases hg
    · rename_i hne
      exact ⟨hg, hne⟩
  refine ⟨M', setO O true s none, h.size, h.defers, h.below, h.hB, hC, h.ext.trans hsub, fun b o hb => ?_, fun i c g hg => h.own i c g (hOO i c g hg).1, fun i i' c c' g h1 h2 => h.inj i i' c c' g (hOO _ _ _ h1).1 (hOO _ _ _ h2).1, ⟨h.fix.1, fun c g1 g2 => ?_⟩, fun t x hx => ?_⟩
  · rw [hM' b o fun hh => (h.own _ _ _ hh).1 hb]
    exact h.old b o hb
  · obtain ⟨e1, e2, e3⟩ := h.fix.2 c g1 g2
    exact ⟨(setO_ne (O := O) (v := none) (fun e => usable_spec hus ⟨by omega, by omega⟩ : c ≠ s)).1.trans e1, e2, e3⟩
  · obtain ⟨hts, y, hy, hyx⟩ := look_map_filter hx
    rcases thaw_cases s k xs y with hh | ⟨hnr, hh⟩ | ⟨e', off, m, rfl, hh⟩
    · rw [hh] at hyx; subst hyx; exact ⟨.top _, trivial⟩
    · rw [hh] at hyx
      subst hyx
      have hrow : ∀ i c g, O i c = some g → ¬ (i = true ∧ c = s) → ∀ o, M g o = none → M' g o = none := by
        intro i c g hg hne o hm
        rw [hM' g o fun e1 => hne (h.inj _ _ _ _ g hg e1)]
        exact hm
      refine (h.slots t _ hy).change2 hsub (fun _ => setO_ne hts) (fun c hcc => setO_ne fun e => by rw [e, hnr] at hcc; cases hcc) (fun g _ hg => ⟨rfl, hrow true t g hg fun e => hts e.2⟩) fun c g hg => ⟨by simp [setO_o, hg], rfl, hrow false c g hg fun e => by cases e.1⟩
    · rw [hh] at hyx
      subst hyx
      obtain ⟨q1, q2⟩ := h.slots t _ hy
      have hlen : (snapA off m xs).length = m := by unfold snapA; simp; omega
      have hsubx : ∀ x, x ∈ snapA off m xs → x ∈ xs := fun x hx => List.mem_of_mem_drop (List.mem_of_mem_take hx)
      rcases q2 with ⟨rfl, ad, e1⟩ | ⟨g, cap, e1, r1, r2, r3, r4⟩
      · rw [e1]
        have : snapA off 0 xs = [] := by simp [snapA]
        rw [this]
        cases ad with
        | none => exact ⟨.lstn _ _ _, trivial⟩
        | some ad => exact ⟨.lste _ _ _ _ _, trivial⟩
      · obtain ⟨cur, c1, c2, c3, c4⟩ := hcell g r1
        have hj2 : ∀ (j : Nat) c, (flat (snapA off m xs))[j]? = some c → (flat xs)[off * k + j]? = some c := by
          intro j c hj
          unfold snapA at hj
          rw [flat_take (k := k) m (fun y hy => hty y (List.mem_of_mem_drop hy)), flat_drop off hty, List.getElem?_take] at hj
          split at hj
          · rw [List.getElem?_drop] at hj; exact hj
          · cases hj
        have hcur : ∀ (j : Nat) c, (flat (snapA off m xs))[j]? = some c → cur[off * k + j]? = some (cur.getD (off * k + j) undef) := by
          intro j c hj
          have hlt := (List.getElem?_eq_some_iff.1 (hj2 j c hj)).1
          rw [flat_length hty] at hlt
          have : off * k + j < cur.size := by omega
          simp [this]
        rw [e1]
        have := R.lst (M := M') (e := e') (k := k) (l := none) (xs := snapA off m xs) (b := g) (off := off * k) (cap := cap) (fun j => cur.getD (off * k + j) undef) (by rw [hlen]; exact r3) (fun y hy => hty y (hsubx y hy)) (fun y hy => (k1 y (hsubx y hy)).2)
          (fun j c hj => by rw [c3]; exact hcur j c hj) (fun j c hj => (c4 _ _ _ (hj2 j c hj) (hcur j c hj)).mono hsub)
        rw [hlen] at this
        exact ⟨this, trivial⟩

end
end Go.AM
