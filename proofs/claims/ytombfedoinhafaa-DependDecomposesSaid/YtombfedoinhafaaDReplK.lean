/-
  slices.Replace at []int, of one element of a row of the call's own by two: one contract out of the four roads. No statement of the seat is proved here.
-/
import Derived.Test.YtombfedoinhafaaDRepl
import Derived.Test.YtombfedoinhafaaAMach
set_option linter.unusedVariables false
namespace Go.AM
open Go.Proofs

/-- what is laid into a block, cell by cell -/
theorem setCells_row (b : Nat) {e : TypeId} {fr : Nat × Nat} : ∀ (vs : List Value) (o : Nat) (w : World) (cur : Array Value), w.heap[b]? = some (.cells cur e fr) → o + vs.length ≤ cur.size →
    ∃ cur', (w.setCells b o vs).heap[b]? = some (.cells cur' e fr) ∧ cur'.size = cur.size ∧ (∀ j : Nat, cur'[j]? = if o ≤ j ∧ j < o + vs.length then vs[j - o]? else cur[j]?) ∧
      (∀ k : Nat, k ≠ b → (w.setCells b o vs).heap[k]? = w.heap[k]?) ∧ (w.setCells b o vs).heap.size = w.heap.size ∧ (w.setCells b o vs).os = w.os ∧ (w.setCells b o vs).tape = w.tape ∧ (w.setCells b o vs).output = w.output
  | [], o, w, cur, h, hs => ⟨cur, h, rfl, fun j => by rw [if_neg (by simp only [List.length_nil]; omega)], fun _ _ => rfl, rfl, rfl, rfl, rfl⟩
  | v :: r, o, w, cur, h, hs => by
    simp only [List.length_cons] at hs
    have h1 : (w.setCell ⟨b, o, none⟩ v).heap[b]? = some (.cells (cur.setIfInBounds o v) e fr) := by
      simp [World.setCell, Array.getElem?_modify, h]
    obtain ⟨cur', k1, k2, k3, k4, k5, k6, k7, k8⟩ := setCells_row b r (o + 1) (w.setCell ⟨b, o, none⟩ v) (cur.setIfInBounds o v) h1 (by simp; omega)
    refine ⟨cur', k1, by rw [k2]; simp, fun j => ?_, fun k hk => ?_, ?_, k6, k7, k8⟩
    · rw [k3 j]
      by_cases hj : o ≤ j ∧ j < o + (v :: r).length
      · rw [if_pos hj]
        simp only [List.length_cons] at hj
        by_cases hjo : j = o
        · subst hjo
          rw [if_neg (by omega)]
          rw [Array.getElem?_setIfInBounds_self_of_lt (by omega)]
          simp
        · rw [if_pos (by omega)]
          have e1 : j - o = (j - (o + 1)) + 1 := by omega
          rw [e1, List.getElem?_cons_succ]
      · rw [if_neg hj]
        simp only [List.length_cons] at hj
        rw [if_neg (by omega), Array.getElem?_setIfInBounds_ne (by omega)]
    · rw [World.setCells, k4 k hk]
      simp [World.setCell, Array.getElem?_modify, Ne.symm hk]
    · rw [World.setCells, k5]
      simp [World.setCell]

theorem take_repl {cur' : Array Value} {l : List Int} (hs : l.length ≤ cur'.size) (h : ∀ j : Nat, j < l.length → cur'[j]? = (l[j]?).map (Value.int .i64)) : cur'.toList.take l.length = l.map (Value.int .i64) := by
  apply List.ext_getElem?
  intro j
  by_cases hj : j < l.length
  · rw [List.getElem?_take_of_lt hj, Array.getElem?_toList, h j hj, List.getElem?_map]
  · rw [List.getElem?_take_eq_none (by omega), List.getElem?_eq_none (by rw [List.length_map]; omega)]

/-- the list that stands there then, place by place -/
theorem repl_at {zs : List Int} {i : Nat} {x y : Int} (hi : i < zs.length) (j : Nat) : (zs.take i ++ [x, y] ++ zs.drop (i + 1))[j]? = if j < i then zs[j]? else if j = i then some x else if j = i + 1 then some y else zs[j - 1]? := by
  have hl : (zs.take i).length = i := by rw [List.length_take]; omega
  rw [List.append_assoc]
  by_cases h1 : j < i
  · rw [if_pos h1, List.getElem?_append_left (by omega), List.getElem?_take_of_lt h1]
  · rw [if_neg h1, List.getElem?_append_right (by omega), hl]
    by_cases h2 : j = i
    · subst h2; simp
    · rw [if_neg h2]
      by_cases h3 : j = i + 1
      · subst h3; simp
      · rw [if_neg h3, List.getElem?_append_right (by simp; omega), List.getElem?_drop]
        congr 1
        simp
        omega

theorem repl_len {zs : List Int} {i : Nat} {x y : Int} (hi : i < zs.length) : (zs.take i ++ [x, y] ++ zs.drop (i + 1)).length = zs.length + 1 := by
  simp
  omega

theorem vs_at {x y : Int} {i j : Nat} (h1 : i ≤ j) (h2 : j < i + 2) : ([Value.int .i64 x, Value.int .i64 y] : List Value)[j - i]? = (if j = i then some x else some y).map (Value.int .i64) := by
  by_cases h : j = i
  · subst h; simp
  · have e : j - i = 1 := by omega
    rw [e, if_neg h]
    rfl

theorem al_new (w : World) (o : Obj) : (w.drew.alloc o).heap[w.heap.size]? = some o := heap_alloc_new w.drew o
theorem al_size (w : World) (o : Obj) : (w.drew.alloc o).heap.size = w.heap.size + 1 := by
  have : (w.drew.alloc o).heap.size = w.drew.heap.size + 1 := by simp
  exact this
theorem al_old (w : World) (o : Obj) (k : Nat) (hk : k < w.heap.size) : (w.drew.alloc o).heap[k]? = w.heap[k]? := by
  obtain ⟨_, _, _, _, h⟩ := World.grownBy_alloc w.drew o none
  exact h k hk (by simp)

set_option maxHeartbeats 1000000 in
theorem knownRepl69 : KnownRepl Try.prog 69 3 := by
  intro zs i x y w g cap gv voff vc cur hg hsz hlc hcm htk hi hbig hne hx hy
  have hl := repl_len (x := x) (y := y) hi
  have hcur : ∀ j : Nat, j < zs.length → cur[j]? = (zs[j]?).map (Value.int .i64) := fun j hj => by
    have h1 : (cur.toList.take zs.length)[j]? = (zs.map (Value.int .i64))[j]? := by rw [htk]
    rw [List.getElem?_take_of_lt hj, Array.getElem?_toList, List.getElem?_map] at h1
    exact h1
  have hcell : ∀ j : Nat, w.cell? ⟨g, j, none⟩ = cur[j]? := fun j => by simp [World.cell?, hg]
  have hcs : ∀ (j : Nat) v, (zs.map (Value.int .i64))[j]? = some v → w.cell? ⟨g, j, none⟩ = some v := fun j v hv => by
    have hj := (List.getElem?_eq_some_iff.1 hv).1
    rw [List.length_map] at hj
    rw [hcell, hcur j hj, ← List.getElem?_map]
    exact hv
  have hfz : ∀ j : Nat, w.frozen? ⟨g, j, none⟩ = false := fun j => by simp [World.frozen?, hg]
  have hsp : ∀ j : Nat, j < cap → (w.cell? ⟨g, j, none⟩).isSome = true := fun j hj => by
    rw [hcell, Array.getElem?_eq_getElem (by omega)]
    rfl
  have hvs : ∀ (j : Nat) v, ([Value.int .i64 x, Value.int .i64 y] : List Value)[j]? = some v → w.cell? ⟨gv, voff + j, none⟩ = some v := fun j v hv => by
    match j, hv with
    | 0, hv => cases hv; exact hx
    | 1, hv => cases hv; exact hy
    | j + 2, hv => simp at hv
  have h1v : ∀ v ∈ ([Value.int .i64 x, Value.int .i64 y] : List Value), v.oneCell' = true := by
    intro v hv
    simp at hv
    rcases hv with rfl | rfl <;> rfl
  have h1c : ∀ v ∈ zs.map (Value.int .i64), v.oneCell' = true := by
    intro v hv
    obtain ⟨z, _, rfl⟩ := List.mem_map.1 hv
    rfl
  have hgw : g < w.heap.size := (Array.getElem?_eq_some_iff.1 hg).1
  have hm : maxLen = maxLen := rfl
  by_cases hin : i + 1 = zs.length
  · by_cases hroom : zs.length + 1 ≤ cap
    · rw [← hin]
      refine (Try.replace_end_room g cap i gv voff vc [.int .i64 x, .int .i64 y] w (by omega) (by unfold maxLen at hcm; omega) rfl (fun j hj => hsp _ (by omega)) (fun j _ => hfz _) hvs h1v).mono ?_
      rintro ed w' ⟨rfl, rfl⟩
      obtain ⟨cur', k1, k2, k3, k4, k5, k6, k7, k8⟩ := setCells_row g [.int .i64 x, .int .i64 y] i w cur hg (by simp; omega)
      refine ⟨g, cap, cur', rfl, k6, k7, k8, by omega, fun k _ hk => k4 k hk, .inl rfl, by omega, k1, by omega, by omega, hcm, ?_⟩
      rw [show i + 1 + 1 = (zs.take i ++ [x, y] ++ zs.drop (i + 1)).length by omega]
      refine take_repl (by omega) fun j hj => ?_
      rw [k3 j, repl_at hi]
      simp only [List.length_cons, List.length_nil]
      by_cases h1 : j < i
      · rw [if_neg (by omega), if_pos h1, hcur j (by omega)]
      · rw [if_pos (by omega), if_neg h1, vs_at (by omega) (by omega)]
        by_cases h2 : j = i
        · rw [if_pos h2, if_pos h2]
        · rw [if_neg h2, if_neg h2, if_pos (by omega)]
    · rw [← hin]
      refine (Try.replace_end_grow g cap i gv voff vc (zs.map (Value.int .i64)) [.int .i64 x, .int .i64 y] w (by omega) (by omega) (by omega) (by simp; omega) rfl hcs hvs h1v).mono ?_
      rintro ed w' ⟨rfl, rfl⟩
      have hG := grownCap_ge w (i + 2) cap 3
      have hGm := grownCap_le_maxLen w (i + 2) cap 3 (by unfold maxLen; omega)
      generalize grownCap w (i + 2) cap 3 = G at hG hGm ⊢
      obtain ⟨ROW, hROW⟩ : ∃ ROW : Array Value, ROW = ((zs.map (Value.int .i64)).take i ++ [Value.int .i64 x, Value.int .i64 y]).toArray ++ Builtin.zeroCells (Value.int .i64 0).cells (G - (i + 2)) := ⟨_, rfl⟩
      rw [← hROW]
      have hsz' : ROW.size = G := by
        rw [hROW]
        simp [Builtin.zeroCells, Value.cells]
        omega
      refine ⟨w.heap.size, G, ROW, rfl, rfl, rfl, rfl, by rw [al_size]; omega, fun k hk _ => al_old w _ k hk, .inr (Nat.le_refl _), by rw [al_size]; omega, al_new w _, hsz', by omega, hGm, ?_⟩
      rw [show i + 1 + 1 = (zs.take i ++ [x, y] ++ zs.drop (i + 1)).length by omega]
      refine take_repl (by omega) fun j hj => ?_
      have hlt : ((zs.map (Value.int .i64)).take i).length = i := by simp; omega
      rw [repl_at hi, hROW, Array.getElem?_append_left (by simp; omega), List.getElem?_toArray]
      by_cases h1 : j < i
      · rw [if_pos h1, List.getElem?_append_left (by omega), List.getElem?_take_of_lt h1, List.getElem?_map]
      · rw [if_neg h1, List.getElem?_append_right (by omega), hlt, vs_at (by omega) (by omega)]
        by_cases h2 : j = i
        · rw [if_pos h2, if_pos h2]
        · rw [if_neg h2, if_neg h2, if_pos (by omega)]
  · by_cases hroom : zs.length + 1 ≤ cap
    · obtain ⟨tB, kB, hsb, hkB⟩ : ∃ tB kB, w.shape? gv = some (tB, kB) ∧ kB ≠ 0 := by
        unfold World.cell? at hx
        split at hx
        · rename_i c1 e1 f1 hh
          refine ⟨e1, c1.size, by simp [World.shape?, hh], ?_⟩
          simp only [Option.isSome_none, Bool.false_eq_true, if_false] at hx
          have := (Array.getElem?_eq_some_iff.1 hx).1
          omega
        · cases hx
      refine (Try.replace_shift g zs.length cap i gv voff vc (zs.map (Value.int .i64)) [.int .i64 x, .int .i64 y] w (by omega) hroom (by unfold maxLen at hcm; omega) (Ne.symm hne) (by simp) rfl hcs (fun j hj => hsp j (by omega)) hfz hvs h1c h1v 3 tB cur.size kB (by simp [World.shape?, hg]) hsb hkB).mono ?_
      rintro ed w' ⟨rfl, rfl⟩
      obtain ⟨c1, k1, k2, k3, k4, k5, k6, k7, k8⟩ := setCells_row g ((zs.map (Value.int .i64)).drop (i + 1)) (i + 2) w.drew.drew cur hg (by simp; omega)
      obtain ⟨c2, m1, m2, m3, m4, m5, m6, m7, m8⟩ := setCells_row g [.int .i64 x, .int .i64 y] i _ c1 k1 (by simp; omega)
      refine ⟨g, cap, c2, rfl, m6.trans k6, m7.trans k7, m8.trans k8, by rw [m5, k5]; exact Nat.le_refl _, fun k _ hk => (m4 k hk).trans (k4 k hk), .inl rfl, by rw [m5, k5]; exact hgw, m1, by omega, by omega, hcm, ?_⟩
      rw [← hl]
      refine take_repl (by omega) fun j hj => ?_
      rw [m3 j, repl_at hi]
      simp only [List.length_cons, List.length_nil]
      by_cases h1 : j < i
      · rw [if_neg (by omega), if_pos h1, k3 j, if_neg (by omega), hcur j (by omega)]
      · rw [if_neg h1]
        by_cases h2 : j < i + 2
        · rw [if_pos (by omega), vs_at (by omega) h2]
          by_cases h3 : j = i
          · rw [if_pos h3, if_pos h3]
          · rw [if_neg h3, if_neg h3, if_pos (by omega)]
        · rw [if_neg (by omega), if_neg (by omega), if_neg (by omega), k3 j, if_pos (by simp; omega), List.getElem?_drop, List.getElem?_map]
          congr 2
          omega
    · refine (Try.replace_grow g zs.length cap i gv voff vc (zs.map (Value.int .i64)) [.int .i64 x, .int .i64 y] w (by omega) hlc (by omega) hbig (by simp) rfl hcs hvs h1c h1v).mono ?_
      rintro ed w' ⟨rfl, rfl⟩
      have hG := grownCap_ge w.drew (zs.length + 1) cap 3
      have hGm := grownCap_le_maxLen w.drew (zs.length + 1) cap 3 (by unfold maxLen; omega)
      generalize grownCap w.drew (zs.length + 1) cap 3 = G at hG hGm ⊢
      obtain ⟨ROW, hROW⟩ : ∃ ROW : Array Value, ROW = ((zs.map (Value.int .i64)).take i).toArray ++ Builtin.zeroCells (Value.int .i64 0).cells (zs.length + 1 - i) ++ Builtin.zeroCells (Value.int .i64 0).cells (G - (zs.length + 1)) := ⟨_, rfl⟩
      rw [← hROW]
      have hlt : ((zs.map (Value.int .i64)).take i).length = i := by simp; omega
      have hRs : ROW.size = G := by
        rw [hROW]
        simp [Builtin.zeroCells, Value.cells]
        omega
      have hnew : (w.drew.alloc (.cells ROW 3)).drew.heap[w.heap.size]? = some (.cells ROW 3 (0, 0)) := al_new w _
      obtain ⟨c1, k1, k2, k3, k4, k5, k6, k7, k8⟩ := setCells_row w.heap.size [.int .i64 x, .int .i64 y] i _ ROW hnew (by simp; omega)
      obtain ⟨c2, m1, m2, m3, m4, m5, m6, m7, m8⟩ := setCells_row w.heap.size ((zs.map (Value.int .i64)).drop (i + 1)) (i + 2) (((w.drew.alloc (.cells ROW 3)).drew.setCells w.heap.size i [.int .i64 x, .int .i64 y]).drew) c1 k1 (by simp; omega)
      have hsize : (w.drew.alloc (.cells ROW 3)).drew.heap.size = w.heap.size + 1 := al_size w _
      have hold : ∀ k, k < w.heap.size → (w.drew.alloc (.cells ROW 3)).drew.heap[k]? = w.heap[k]? := fun k hk => al_old w _ k hk
      have k5' : (((w.drew.alloc (.cells ROW 3)).drew.setCells w.heap.size i [.int .i64 x, .int .i64 y]).drew).heap.size = w.heap.size + 1 := k5.trans hsize
      refine ⟨w.heap.size, G, c2, rfl, m6.trans k6, m7.trans k7, m8.trans k8, by rw [m5, k5']; omega, fun k hk _ => (m4 k (Nat.ne_of_lt hk)).trans ((k4 k (Nat.ne_of_lt hk)).trans (hold k hk)), .inr (Nat.le_refl _), by rw [m5, k5']; omega, m1, by omega, by omega, hGm, ?_⟩
      rw [← hl]
      refine take_repl (by omega) fun j hj => ?_
      rw [m3 j, repl_at hi]
      by_cases h1 : j < i
      · rw [if_neg (by omega), if_pos h1, k3 j, if_neg (by omega), hROW, Array.getElem?_append_left (by simp; omega), Array.getElem?_append_left (by simp; omega), List.getElem?_toArray, List.getElem?_take_of_lt h1, List.getElem?_map]
      · rw [if_neg h1]
        by_cases h2 : j < i + 2
        · rw [if_neg (by omega), k3 j, if_pos (by simp; omega), vs_at (by omega) h2]
          by_cases h3 : j = i
          · rw [if_pos h3, if_pos h3]
          · rw [if_neg h3, if_neg h3, if_pos (by omega)]
        · rw [if_pos (by simp; omega), if_neg (by omega), if_neg (by omega), List.getElem?_drop, List.getElem?_map]
          congr 2
          omega
end Go.AM
