/- s -/
import Derived.Sort.Grow
import Derived.Test.YtoiejpkfpjingaaAClose
import Derived.Test.YtoiejpkfpjingaaChecked
set_option linter.unusedVariables false
set_option linter.unusedSimpArgs false
namespace Go.AM
open Go.RowKit Go.Sort Go.Proofs
theorem flat_intsK (zs : List Int) (k : IntKind) : flat (zs.map (AV.int k)) = zs.map (AV.int k) := by
 unfold flat
 rw [List.flatMap_map]
 simp only [AV.cells]
 exact List.map_eq_flatMap.symm
theorem row_holds {O : Gh} {M : Mem} {w : World} {e e' : Nat} {k : IntKind} {zs : List Int} {v : Value} (hne : zs ≠ []) (ho : Sat O M w 2000000 (.obj e 1 (zs.map (AV.int k))) undef) (hv : ValOk O M w (.sb 2000000 e' 1 0 zs.length) v) :
  ∃ g cap cur, v = .slice (some ⟨g, 0, none⟩) zs.length cap ∧ O true 2000000 = some g ∧ RowAt w g cur e ∧ zs.length ≤ cap ∧ cap ≤ maxLen ∧ cur.size = O.siz 2000000 ∧ zs.length ≤ cur.size ∧ (∀ o, M g o = none) ∧ Holds (Value.int k) w g 0 zs.toArray := by
 obtain ⟨k0, k1, k2, k3⟩ := ho
 obtain ⟨q1, q2⟩ := hv
 have hpos : 0 < zs.length := List.length_pos_iff.2 hne
 rcases q2 with ⟨h0, _⟩ | ⟨g, cap, rfl, p1, p2, p3, p4⟩
 ·omega
 rcases k3 with ⟨h0, _⟩ | ⟨g', cur, r1, r2, r3, r4, r5, r6⟩
 ·exact absurd (List.map_eq_nil_iff.1 h0) hne
 have hgg : g' = g := by rw [p1] at r1; exact (Option.some.inj r1).symm
 subst hgg
 rw [flat_intsK] at r6
 have r4' : zs.length ≤ cur.size := by simpa using r4
 refine ⟨g', cap, cur, rfl, p1, r2, p3, by omega, r3, r4', r5, fun j hj => ?_⟩
 have hj : j < zs.length := by simpa using hj
 have hjc : j < cur.size := by omega
 have h1 := r6 j (.int k zs[j]) cur[j] (by simp [hj]) (by simp [hjc])
 have h2 : cur[j] = Value.int k zs[j] := h1.int_inv
 obtain ⟨el, fz, hb, hfz⟩ := r2
 constructor
 ·simp only [World.cell?, hb, Nat.zero_add, Option.isSome_none, Bool.false_eq_true, if_false]
  rw [Array.getElem?_eq_getElem hjc, h2]
  simp [hj]
 ·simp only [World.frozen?, hb, Nat.zero_add, Bool.and_eq_false_iff, decide_eq_false_iff_not]
  rcases hfz with ⟨_, rfl⟩ | ⟨_, hf⟩
  ·exact .inr (by simp)
  ·exact .inl (by omega)
theorem row_behind {O : Gh} {M : Mem} {w w' : World} {e g n : Nat} {k : IntKind} {zs ys : List Int} {os : Array Obj} {cur : Array Value} (hlen : ys.length = zs.length) (hne : zs ≠ []) (ho : Sat O M w 2000000 (.obj e 1 (zs.map (AV.int k))) undef)
  (hC : Cons M w) (hO : ∀ i c g, O i c = some g → i = true ∧ g < w.heap.size) (hOi : ∀ c c' g, O true c = some g → O true c' = some g → c = c') (hg : O true 2000000 = some g)
  (hw : w' = grow (Go.Sort.putRow (Value.int k) (Sort.ahead w n) g 0 ys.toArray) os) :
  BelowD (fun k => k < w.heap.size ∧ ∀ c, O true c ≠ some k) w w' ∧ Cons M w' ∧ (∀ i c g, O i c = some g → g < w'.heap.size ∧ (w.heap.size ≤ g ∨ ∃ c', O true c' = some g)) ∧ (∀ i i' c c' g, O i c = some g → O i' c' = some g → i = i' ∧ c = c') ∧
   Sat O M w' 2000000 (.obj e 1 (ys.map (AV.int k))) undef := by
 obtain ⟨k0, k1, k2, k3⟩ := ho
 rcases k3 with ⟨h0, _⟩ | ⟨g', cur, r1, r2, r3, r4, r5, r6⟩
 ·exact absurd (List.map_eq_nil_iff.1 h0) hne
 have hgg : g' = g := by rw [hg] at r1; exact (Option.some.inj r1).symm
 subst hgg
 have hgs : g' < w.heap.size := (hO _ _ _ hg).2
 obtain ⟨el, fz, hb, hfz⟩ := r2
 have hb' : w'.heap[g']? = some (.cells (putCells (Value.int k) 0 ys.toArray cur) el fz) := by
  subst hw
  rw [heap_grow_old _ _ (by simpa using hgs)]
  simp [Go.Sort.putRow, mapBlock, Sort.ahead, Array.getElem?_modify, hb, onCells]
 have hbk : ∀ q, q < w.heap.size → q ≠ g' → w'.heap[q]? = w.heap[q]? := by
  intro q hq hne2
  subst hw
  rw [heap_grow_old _ _ (by simpa using hq)]
  have : g' ≠ q := fun e => hne2 e.symm
  simp [Go.Sort.putRow, mapBlock, Sort.ahead, Array.getElem?_modify, this]
 have hsz : w.heap.size ≤ w'.heap.size := by subst hw; simp [grow]
 have hps : (putCells (Value.int k) 0 ys.toArray cur).size = cur.size := by simp [putCells]
 refine ⟨⟨by subst hw; rfl, by subst hw; rfl, by subst hw; rfl, hsz, fun q hq => hbk q hq.1 fun e1 => hq.2 2000000 (by rw [e1]; exact hg)⟩, ?_, fun i c g hh => ?_, fun i i' c c' g hh hh' => ?_, ?_⟩
 ·intro b o u hu
  have h1 := hC b o u hu
  have hb2 := mc_lt h1
  have hne2 : b ≠ g' := fun e1 => by rw [e1, r5] at hu; cases hu
  rw [mc_block (hbk b hb2 hne2)]
  exact h1
 ·obtain ⟨rfl, h2⟩ := hO i c g hh
  exact ⟨Nat.lt_of_lt_of_le h2 hsz, .inr ⟨c, hh⟩⟩
 ·obtain ⟨rfl, _⟩ := hO i c g hh
  obtain ⟨rfl, _⟩ := hO i' c' g hh'
  exact ⟨rfl, hOi c c' g hh hh'⟩
 ·refine ⟨k0, fun y hy => ?_, by simpa [hlen] using k2, .inr ⟨g', _, hg, ⟨el, fz, hb', ?_⟩, by rw [hps]; exact r3, by rw [hps]; simpa [hlen] using r4, r5, fun j c u hc hu => ?_⟩⟩
  ·obtain ⟨z, _, rfl⟩ := List.mem_map.1 hy
   exact ⟨rfl, rfl⟩
  ·rcases hfz with hf | ⟨h1, h2⟩
   ·exact .inl hf
   ·exact .inr ⟨h1, by rw [hps]; exact h2⟩
  ·rw [flat_intsK] at hc
   have hj := (List.getElem?_eq_some_iff.1 hc).1
   rw [List.length_map] at hj
   have hjc : j < cur.size := by
    have : zs.length ≤ cur.size := by simpa using r4
    omega
   rw [List.getElem?_map, List.getElem?_eq_getElem hj] at hc
   cases hc
   have : (putCells (Value.int k) 0 ys.toArray cur)[j]? = some (Value.int k ys[j]) := by
    simp [putCells, hjc, hj]
   rw [this] at hu
   cases hu
   exact .int _ _
end Go.AM
