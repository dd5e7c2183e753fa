/-
  WALKS BY HAND BESIDE THE ABSTRACT MACHINE: its values in a world, its contracts at a call. No statement of the seat is proved here.
-/
import Derived.Test.YtoiejpkfpjingaaHA1
import Derived.Test.YtoiejpkfpjingaaCRow
import Derived.WalkKit
import Derived.BigCall
import Derived.Deep.RegionHeld3
import Derived.Deep.RegionHeldLaw
import Derived.Deep.AppendLies
import Derived.Deep.OwnRows
import Derived.OneCell
import Derived.Laws.Rows
set_option maxRecDepth 100000
set_option linter.unusedVariables false
set_option linter.unusedSimpArgs false
namespace Go.AM
open Go.RowKit Go.Proofs

theorem glob0 (M : Mem) : Glob M := fun g hg => by cases hg

theorem Cons.below {M : Mem} {w w' : World} (h : Cons M w) (hB : Below w.heap.size w w') : Cons M w' := cons_below h hB

theorem Cons.of_blocks {M : Mem} {w w' : World} (h : Cons M w) (hb : ∀ b o u, M b o = some u → b < w.heap.size → w'.heap[b]? = w.heap[b]?) : Cons M w' := fun b o u hu => by
  have h1 := h b o u hu
  rw [mc_block (hb b o u hu (mc_lt h1))]
  exact h1

theorem Cons.alloc {M : Mem} {w : World} (h : Cons M w) (o : Obj) : Cons M (w.alloc o) := h.of_blocks fun b _ _ _ hb => heap_alloc_old w o hb

theorem Cons.setCell {M : Mem} {w : World} (h : Cons M w) {a : Addr} (ha : ∀ o, M a.block o = none) (v : Value) : Cons M (w.setCell a v) :=
  h.of_blocks fun b o u hu hb => Below.heap_setCell w a v b fun e => by rw [e, ha] at hu; cases hu

theorem flat_ints (l : List Int) : flat (cL l) = cL l := flat_intsK l .i64

/-- what a slice of numbers looks like -/
theorem ints_form {M : Mem} {l : List Int} {v : Value} (h : R M (.lst 3 1 none (cL l)) v) : ∃ a cap, v = .slice a l.length cap ∧ ∀ j (hj : j < l.length), ∃ b off, a = some ⟨b, off, none⟩ ∧ M b (off + j) = some (.int .i64 l[j]) := by
  generalize hx : cL l = xs at h
  cases h with
  | lstn =>
    have : l = [] := by simpa [cL] using hx
    subst this; exact ⟨none, 0, rfl, fun j hj => absurd hj (by simp)⟩
  | lste _ _ _ ad cap =>
    have : l = [] := by simpa [cL] using hx
    subst this; exact ⟨some ad, cap, rfl, fun j hj => absurd hj (by simp)⟩
  | lst us h1 h2 h5 h3 h4 =>
    subst hx
    rename_i b off cap
    refine ⟨some ⟨b, off, none⟩, cap, by simp [cL], fun j hj => ⟨b, off, rfl, ?_⟩⟩
    have hf : (flat (cL l))[j]? = some (.int .i64 l[j]) := by rw [flat_ints]; simp [cL, hj]
    rw [h3 j _ hf, (h4 j _ hf).int_inv]

theorem ints_mk {M : Mem} {c : List Int} {g off cap : Nat} (hcap : c.length ≤ cap) (hM : ∀ j (hj : j < c.length), M g (off + j) = some (.int .i64 c[j])) : R M (.lst 3 1 none (cL c)) (.slice (some ⟨g, off, none⟩) c.length cap) := by
  have hl : (cL c).length = c.length := by simp [cL]
  have hf : ∀ (j : Nat) x, (flat (cL c))[j]? = some x → ∃ h : j < c.length, x = .int .i64 c[j] := by
    intro j x hx
    rw [flat_ints] at hx
    have hj := (List.getElem?_eq_some_iff.1 hx).1
    rw [hl] at hj
    refine ⟨hj, ?_⟩
    simpa [cL, hj] using hx.symm
  rw [← hl]
  refine .lst (fun j => .int .i64 (c.getD j 0)) (by rw [hl]; exact hcap) (fun x hx => ?_) (fun x hx => ?_) (fun j x hx => ?_) (fun j x hx => ?_)
  · obtain ⟨z, _, rfl⟩ := List.mem_map.1 hx; rfl
  · obtain ⟨z, _, rfl⟩ := List.mem_map.1 hx; rfl
  · obtain ⟨hj, rfl⟩ := hf j x hx
    rw [hM j hj, List.getD_eq_getElem?_getD, List.getElem?_eq_getElem hj]; rfl
  · obtain ⟨hj, rfl⟩ := hf j x hx
    rw [List.getD_eq_getElem?_getD, List.getElem?_eq_getElem hj]; exact .int _ _

/-- the cells of numbers -/
abbrev intsV (l : List Int) : List Value := l.map (Value.int .i64)

/-- an owned row as a value that can be read -/
theorem own_reads {w : World} {base : Nat} {v : Value} {c : List Int} (h : w.ownsRow base 3 1 v c.length (intsV c)) : ∃ N : Mem, Cons N w ∧ R N (.lst 3 1 none (cL c)) v ∧ ∀ b o u, N b o = some u → v.ownBlock = some b := by
  rcases h.2 with ⟨rfl, h0⟩ | ⟨g, cap, cur, rfl, hb, hg, hn, hm, hs, ht⟩
  · have : c = [] := List.eq_nil_of_length_eq_zero h0
    subst this
    exact ⟨fun _ _ => none, fun _ _ _ hu => (by cases hu), .lstn _ _ _, fun _ _ _ hu => (by cases hu)⟩
  · have hcell : ∀ j (hj : j < c.length), cur[j]? = some (.int .i64 c[j]) := by
      intro j hj
      have h1 := congrArg (fun l => l[j]?) ht
      simp only [List.getElem?_take, Array.getElem?_toList] at h1
      rw [if_pos (by omega)] at h1
      rw [h1]; simp [hj]
    refine ⟨fun b o => if b = g then (c[o]?).map (Value.int .i64) else none, fun b o u hu => ?_, ?_, fun b o u hu => ?_⟩
    · simp only at hu
      split at hu
      · rename_i e
        subst e
        cases ho : c[o]? with
        | none => rw [ho] at hu; cases hu
        | some x =>
          rw [ho] at hu
          cases hu
          obtain ⟨hj, rfl⟩ := List.getElem?_eq_some_iff.1 ho
          unfold mc
          rw [hg]
          exact cellsAt_some (hcell o hj) rfl
      · cases hu
    · refine ints_mk hn fun j hj => ?_
      simp [hj]
    · simp only at hu
      split at hu
      · rename_i e; subst e; rfl
      · cases hu

theorem run_ok {f : Nat} {args : List AV} {r : AV} (h : Run Try.prog (.call f args r)) : CallOk Try.prog f args r := run_sound mixedP h

theorem below_of_tup {w w' : World} (h : Below w.heap.size w w') : w.grownBy w' none := ⟨h.os, h.tape, h.output, h.size, fun k hk _ => h.block k hk⟩

/-- a lookup in a map that lasts -/
theorem lookup_r {M : Mem} {w : World} {t kt e : TypeId} {ks vs : List AV} {mv kv : Value} {k r : AV} (hC : Cons M w) (hm : R M (.mpv ks vs) mv) (ht : mapTypes Try.prog t = some (kt, e)) (hkv : k.keyV = some kv) (hr : alookup Try.prog t [] (.mpv ks vs) k = some r) :
    ∃ v, (Instr.lookup t mv kv false).run Try.prog w = .ok v w ∧ R M r v := by
  unfold alookup at hr
  rw [ht] at hr
  simp only [entries?] at hr
  split at hr
  case h_2 => cases hr
  rename_i hc
  simp only [Bool.and_eq_true] at hc
  obtain ⟨⟨hfit, hks⟩, hall⟩ := hc
  have ht := mapTypes_spec ht
  obtain ⟨K, l, hl⟩ := keyed_fits hfit hkv
  have hz : ∀ z, zeroA1 Try.prog e = some z → ∃ v, (zeroValue e).run Try.prog w = .ok v w ∧ R M z v := fun z hz => by
    obtain ⟨v, h1, h2, _⟩ := zeroA1_sound (M := M) (O := ⟨fun _ _ => none, fun _ => 0, fun _ => 0⟩) (w := w) hz
    exact ⟨v, h1, h2⟩
  cases hm with
  | mpvn =>
    simp only [findA] at hr
    obtain ⟨z, hz, hz2⟩ := hz _ hr
    refine ⟨z, ?_, hz2⟩
    have hfind : (Instr.findKey kt kv (#[] : Array MapEntry).toList).run Try.prog w = .ok none w := by
      rcases K.find w hl [] (by simp) with ⟨h1, _⟩ | ⟨j, e, _, h2, _⟩
      · exact h1
      · simp at h2
    simp [Instr.lookup, run_underlying ht, K.check w true hl, hfind, hz, Result.andThen]
  | mpv h1 h2 h3 h4 h5 h6 h7 =>
    have hb := mc_map (hC _ _ _ h1)
    obtain ⟨hck, hst, hfd⟩ := find_sound (w := w) hfit hkv hall ⟨h2, h3, h4, h5, h6, h7⟩
    rcases hfd with ⟨k1, k2, k3⟩ | ⟨j, e0, k1, k2, k3, k4⟩
    · rw [k1] at hr
      obtain ⟨z, hz, hz2⟩ := hz _ hr
      refine ⟨z, ?_, hz2⟩
      simp [Instr.lookup, run_underlying ht, MapKept.run_getObj_map hb, hck, k2, hz, Result.andThen]
    · rw [k1] at hr
      refine ⟨e0.val, ?_, h7 j r e0 hr (by simpa using k3)⟩
      simp [Instr.lookup, run_underlying ht, MapKept.run_getObj_map hb, hck, k2, Result.andThen]

end Go.AM
