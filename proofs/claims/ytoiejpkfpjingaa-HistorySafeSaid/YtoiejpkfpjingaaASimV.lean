/- s -/
import Derived.Test.YtoiejpkfpjingaaASimC
set_option linter.unusedVariables false
set_option linter.unusedSimpArgs false
namespace Go.AM
open Go.RowKit Go.WideShapes
section
variable {P : Program} {M : Mem} {w : World}
theorem wfI_eq {k : IntKind} {n : Int} (h : wfI k n = true) : (Lit.int k n).wf = true := h
theorem kbeq_refl (k : IntKind) : kbeq k k = true := by cases k <;> rfl
theorem keyV_int {k : IntKind} {n : Int} {x : Value} (h : (AV.int k n).keyV = some x) : x = .int k n ∧ wfI k n = true := by
 simp only [AV.keyV] at h
 split at h
 ·rename_i hw; cases h; exact ⟨rfl, hw⟩
 ·cases h
theorem keyVs_cons {k : IntKind} {n : Int} {r : List AV} {l : List Value} (h : keyVs (.int k n :: r) = some l) : ∃ l', l = .int k n :: l' ∧ keyVs r = some l' ∧ wfI k n = true := by
 simp only [keyVs] at h
 split at h
 ·rename_i l' hw hl; cases h; exact ⟨l', rfl, hl, hw⟩
 ·cases h
theorem keyV_agg {cs : List AV} {x : Value} (h : (AV.agg cs).keyV = some x) : ∃ l, x = .agg l.toArray ∧ keyVs cs = some l := by
 simp only [AV.keyV] at h
 split at h
 ·rename_i l hl; cases h; exact ⟨l, rfl, hl⟩
 ·cases h
theorem keyed_fits {kt : TypeId} {k : AV} {x : Value} (hk : keyFits P kt k = true) (hx : k.keyV = some x) : Maps.Keyed P kt ∧ ∃ l, keyOf P kt x = some l := by
 unfold keyFits at hk
 split at hk
 ·rename_i q q' n hu
  have := kbeq_spec hk
  subst this
  obtain ⟨rfl, hw⟩ := keyV_int hx
  exact ⟨Maps.int_keyed hu, _, Maps.keyOf_int_mk hu hw⟩
 ·rename_i n e q a q' b hu
  simp only [Bool.and_eq_true] at hk
  obtain ⟨hn, hq, hA⟩ := hk
  have := Nat.eq_of_beq_eq_true hn
  subst this
  have := kbeq_spec hq
  subst this
  unfold arrKey at hA
  simp only [Bool.and_eq_true] at hA
  obtain ⟨h0, h1, h2, h3, h4⟩ := hA
  have A : WideMaps.ArrKey P kt e 2 := ⟨hu, h1, Nat.eq_of_beq_eq_true h2, Nat.eq_of_beq_eq_true h3⟩
  obtain ⟨l, rfl, hl⟩ := keyV_agg hx
  obtain ⟨l1, rfl, hl1, w1⟩ := keyVs_cons hl
  obtain ⟨l2, rfl, hl2, w2⟩ := keyVs_cons hl1
  cases hl2
  refine ⟨Maps.Keyed.of_law A.law, ?_⟩
  have hsz : ∃ m, P.types.size = m + 1 := ⟨P.types.size - 1, by have := Nat.le_of_ble_eq_true h0; omega⟩
  obtain ⟨m, hm⟩ := hsz
  have hue : P.underlying e = some (.int q') := by
   split at h4
   ·rename_i q'' hqq; have := kbeq_spec h4; subst this; exact hqq
   ·cases h4
  have hkt := A.keyType ⟨m, hm⟩
  have one := A.one
  have two := A.size
  unfold keyOf
  rw [hu]
  simp only
  have hf : Value.formed P kt (.agg #[.int q' a, .int q' b]) = true := by
   simp only [Value.formed, hu, two]; rfl
  rw [if_pos (by rw [hkt, hf]; rfl), hm]
  have hl : P.keyLits (m + 1 + 1) kt [.int q' a, .int q' b] = some [.int q' a, .int q' b] := by
   unfold Program.keyLits
   rw [hu]
   simp only
   rw [if_pos (by rw [two]; rfl), one]
   have e0 : P.keyLits (m + 1) e [.int q' a] = some [.int q' a] := by
    unfold Program.keyLits; rw [hue]; simp only; simp [wfI_eq w1]
   have e1 : P.keyLits (m + 1) e [.int q' b] = some [.int q' b] := by
    unfold Program.keyLits; rw [hue]; simp only; simp [wfI_eq w2]
   simp [List.range, List.range.loop, e0, e1]
  exact ⟨_, by simp only [Value.cells]; rw [hl]; rfl⟩
 ·cases hk
theorem ieqL_keyVs : ∀ {xs ys : List AV}, ieqL xs ys = true → keyVs xs = keyVs ys
 | [], [], _ => rfl
 | .int k a :: r, y :: r', h => by
  cases y <;> simp only [ieqL] at h <;> try cases h
  rename_i k' b
  simp only [Bool.and_eq_true, beq_iff_eq] at h
  obtain ⟨⟨h1, h2⟩, h3⟩ := h
  have := kbeq_spec h1
  subst this; subst h2
  simp only [keyVs, ieqL_keyVs h3]
 | .int _ _ :: _, [], h => by cases h
theorem keyVs_ieqL : ∀ {xs ys : List AV} {l : List Value}, keyVs xs = some l → keyVs ys = some l → ieqL xs ys = true
 | [], ys, l, h1, h2 => by
  cases h1
  cases ys with
  | nil => rfl
  | cons y r =>
   cases y <;> simp only [keyVs] at h2 <;> try cases h2
   rename_i k n
   split at h2 <;> cases h2
 | x :: r, ys, l, h1, h2 => by
  cases x <;> try (simp only [keyVs] at h1; cases h1; done)
  rename_i k n
  obtain ⟨l', rfl, e1, _⟩ := keyVs_cons h1
  cases ys with
  | nil => cases h2
  | cons y r' =>
   cases y <;> try (simp only [keyVs] at h2; cases h2; done)
   rename_i k' n'
   obtain ⟨l2, e2, e3, _⟩ := keyVs_cons h2
   cases e2
   simp only [ieqL, keyVs_ieqL e1 e3, kbeq_refl, beq_self_eq_true, Bool.and_self]
theorem akeq_spec {a b : AV} {x y : Value} (ha : a.keyV = some x) (hb : b.keyV = some y) : akeq a b = true ↔ x = y := by
 constructor
 ·intro h
  unfold akeq at h
  split at h
  ·simp only [Bool.and_eq_true, beq_iff_eq] at h
   have := kbeq_spec h.1
   rw [(keyV_int ha).1, (keyV_int hb).1, this, h.2]
  ·obtain ⟨l, rfl, e1⟩ := keyV_agg ha
   obtain ⟨l', rfl, e2⟩ := keyV_agg hb
   rw [ieqL_keyVs h, e2] at e1
   cases e1; rfl
  ·cases h
 ·rintro rfl
  cases a <;> try (simp only [AV.keyV] at ha; cases ha; done)
  ·rename_i k n
   obtain ⟨rfl, _⟩ := keyV_int ha
   cases b <;> try (simp only [AV.keyV] at hb; cases hb; done)
   ·rename_i k' n'
    obtain ⟨e, _⟩ := keyV_int hb
    cases e
    simp only [akeq, kbeq_refl, beq_self_eq_true, Bool.and_self]
   ·obtain ⟨l, e, _⟩ := keyV_agg hb
    cases e
  ·obtain ⟨l, rfl, e1⟩ := keyV_agg ha
   cases b <;> try (simp only [AV.keyV] at hb; cases hb; done)
   ·obtain ⟨e, _⟩ := keyV_int hb
    cases e
   ·obtain ⟨l', e, e2⟩ := keyV_agg hb
    have e3 : l = l' := by simpa using congrArg (fun v => match v with | Value.agg c => c.toList | _ => []) e
    rw [← e3] at e2
    exact keyVs_ieqL e1 e2
theorem findA_none {k : AV} : ∀ {ks : List AV}, findA k ks = none → ∀ y, y ∈ ks → akeq y k = false
 | [], _, y, hy => by cases hy
 | x :: r, h, y, hy => by
  simp only [findA] at h
  split at h
  ·cases h
  ·rename_i hx
   split at h
   ·cases h
   ·rename_i hr
    rcases List.mem_cons.1 hy with rfl | hy
    ·exact hx
    ·exact findA_none hr y hy
theorem findA_some {k : AV} : ∀ {ks : List AV} {j : Nat}, findA k ks = some j → ∃ y, ks[j]? = some y ∧ akeq y k = true
 | [], j, h => by cases h
 | x :: r, j, h => by
  simp only [findA] at h
  split at h
  ·rename_i hx; cases h; exact ⟨x, rfl, hx⟩
  ·split at h
   ·rename_i i hr
    cases h
    obtain ⟨y, h1, h2⟩ := findA_some hr
    exact ⟨y, by simpa using h1, h2⟩
   ·cases h
theorem keyVs_r : ∀ {cs : List AV} {l : List Value}, keyVs cs = some l → cs.length = l.length ∧ ∀ (j : Nat) c v, cs[j]? = some c → l[j]? = some v → R M c v
 | [], l, h => by cases h; exact ⟨rfl, fun j c v hc => by cases hc⟩
 | c :: r, l, h => by
  cases c <;> try (simp only [keyVs] at h; cases h; done)
  rename_i k n
  obtain ⟨l', rfl, h1, _⟩ := keyVs_cons h
  obtain ⟨h2, h3⟩ := keyVs_r h1
  refine ⟨by simp [h2], fun j c v hc hv => ?_⟩
  cases j with
  | zero => cases hc; cases hv; exact .int _ _
  | succ j => exact h3 j c v (by simpa using hc) (by simpa using hv)
theorem key_r {k : AV} {x : Value} (h : k.keyV = some x) : R M k x := by
 cases k <;> try (simp only [AV.keyV] at h; cases h; done)
 ·rw [(keyV_int h).1]; exact .int _ _
 ·obtain ⟨l, rfl, h1⟩ := keyV_agg h
  obtain ⟨h2, h3⟩ := keyVs_r (M := M) h1
  exact .agg h2 h3
theorem keyVs_u {cs : List AV} : ∀ {l : List Value} {us : List Value}, keyVs cs = some l → cs.length = us.length → (∀ (j : Nat) c v, cs[j]? = some c → us[j]? = some v → R M c v) → us = l := by
 induction cs with
 | nil => intro l us h h1 _; cases h; cases us with | nil => rfl | cons u us => simp at h1
 | cons c r ih =>
  intro l us h h1 h2
  cases c <;> try (simp only [keyVs] at h; cases h; done)
  rename_i k n
  obtain ⟨l', rfl, h3, _⟩ := keyVs_cons h
  cases us with
  | nil => simp at h1
  | cons u us =>
   have h4 := h2 0 _ u rfl rfl
   cases h4
   have e1 := ih h3 (by simpa using h1) fun j c v hc hv => h2 (j + 1) c v (by simpa using hc) (by simpa using hv)
   rw [e1]
theorem key_value {O : Gh} {k : AV} {v x : Value} (h : ValOk O M w k v) (hx : k.keyV = some x) : v = x := by
 cases k <;> try (simp only [AV.keyV] at hx; cases hx; done)
 ·rw [(keyV_int hx).1]
  have := h.1
  cases this
  rfl
 ·obtain ⟨l, rfl, h1⟩ := keyV_agg hx
  have := h.1
  cases this with
  | agg h2 h3 => rw [keyVs_u h1 h2 h3]
theorem find_sound {kt : TypeId} {k : AV} {x : Value} {ks vs : List AV} {es : Array MapEntry} {clock : Nat} (hk : keyFits P kt k = true) (hx : k.keyV = some x) (hall : ks.all (keyFits P kt) = true) (E : EntOk M es clock ks vs) :
  (∀ em, (Instr.checkKey em 10000 kt x).run P w = .ok () w) ∧ ((Instr.keyThatStays x x).run P w = .ok x w) ∧
   ((findA k ks = none ∧ (Instr.findKey kt x es.toList).run P w = .ok none w ∧ ∀ e ∈ es.toList, e.key ≠ x) ∨
    ∃ j e, findA k ks = some j ∧ (Instr.findKey kt x es.toList).run P w = .ok (some (j, e.val)) w ∧ es.toList[j]? = some e ∧ e.key = x) := by
 obtain ⟨K, l, hl⟩ := keyed_fits hk hx
 obtain ⟨hst, hsz, hkl, hvl, hke, hve⟩ := E
 refine ⟨fun em => K.check w em hl, K.stays w hl, ?_⟩
 have hks : ∀ e, e ∈ es.toList → ∃ l, keyOf P kt e.key = some l := by
  intro e he
  obtain ⟨j, hj⟩ := List.mem_iff_getElem?.1 he
  have hjl : j < ks.length := by
   have := (List.getElem?_eq_some_iff.1 hj).1
   simp at this; omega
  have h1 := hke j _ e (List.getElem?_eq_getElem hjl) (by simpa using hj)
  exact (keyed_fits (List.all_eq_true.1 hall _ (List.getElem_mem hjl)) h1).2
 rcases K.find w hl es.toList hks with ⟨h1, h2⟩ | ⟨j, e, h1, h2, h3⟩
 ·refine .inl ⟨?_, h1, h2⟩
  cases hf : findA k ks with
  | none => rfl
  | some j =>
   obtain ⟨y, k1, k2⟩ := findA_some hf
   have hjl := (List.getElem?_eq_some_iff.1 k1).1
   have hje : es[j]? = some es[j] := Array.getElem?_eq_getElem (by omega)
   have h4 := hke j y _ k1 hje
   exact absurd ((akeq_spec h4 hx).1 k2) (h2 _ (by simp))
 ·refine .inr ⟨j, e, ?_, h1, h2, h3⟩
  have hje : es[j]? = some e := by simpa using h2
  have hjl : j < ks.length := by
   have := (Array.getElem?_eq_some_iff.1 hje).1
   omega
  have h4 := hke j _ e (List.getElem?_eq_getElem hjl) hje
  cases hf : findA k ks with
  | none =>
   have := findA_none hf _ (List.getElem_mem hjl)
   rw [(akeq_spec h4 hx).2 h3] at this
   cases this
  | some i =>
   obtain ⟨y, k1, k2⟩ := findA_some hf
   have hil := (List.getElem?_eq_some_iff.1 k1).1
   have hie : es[i]? = some es[i] := Array.getElem?_eq_getElem (by omega)
   have h5 := hke i y _ k1 hie
   have h6 := (akeq_spec h5 hx).1 k2
   have hpw := ((MapKept.stamped_iff es clock).1 hst).2.2
   congr 1
   refine Classical.byContradiction fun hne => ?_
   have hes : ∀ a b : Nat, a < b → ∀ p q, es.toList[a]? = some p → es.toList[b]? = some q → p.key ≠ q.key := by
    intro a b hab p q hp hq
    obtain ⟨ha', rfl⟩ := List.getElem?_eq_some_iff.1 hp
    obtain ⟨hb', rfl⟩ := List.getElem?_eq_some_iff.1 hq
    exact List.pairwise_iff_getElem.1 hpw a b ha' hb' hab
   rcases Nat.lt_or_gt_of_ne hne with hlt | hlt
   ·exact hes i j hlt _ e (by rw [Array.getElem?_toList]; exact hie) h2 (h6.trans h3.symm)
   ·exact hes j i hlt e _ h2 (by rw [Array.getElem?_toList]; exact hie) (h3.trans h6.symm)
end
end Go.AM
