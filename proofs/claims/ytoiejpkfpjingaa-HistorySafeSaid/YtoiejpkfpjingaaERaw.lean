/- s -/
import Derived.Test.YtoiejpkfpjingaaHA1
import Derived.Test.YtoiejpkfpjingaaCRow
import Derived.WalkKit
import Derived.BigCall
import Derived.Deep.RegionHeld3
import Derived.Deep.RegionHeldLaw
import Derived.Deep.AppendLies
import Derived.Deep.OwnRows
import Derived.OneCell
import Derived.Laws.Rows
set_option maxRecDepth 100000
set_option linter.unusedVariables false
set_option linter.unusedSimpArgs false
namespace Go.AM
open Go.RowKit Go.Proofs
theorem glob0 (M : Mem) : Glob M := fun g hg => by cases hg
theorem Cons.below {M : Mem} {w w' : World} (h : Cons M w) (hB : Below w.heap.size w w') : Cons M w' := cons_below h hB
theorem Cons.of_blocks {M : Mem} {w w' : World} (h : Cons M w) (hb : ∀ b o u, M b o = some u → b < w.heap.size → w'.heap[b]? = w.heap[b]?) : Cons M w' := fun b o u hu => by
 have h1 := h b o u hu
 rw [mc_block (hb b o u hu (mc_lt h1))]
 exact h1
theorem Cons.alloc {M : Mem} {w : World} (h : Cons M w) (o : Obj) : Cons M (w.alloc o) := h.of_blocks fun b _ _ _ hb => heap_alloc_old w o hb
theorem Cons.setCell {M : Mem} {w : World} (h : Cons M w) {a : Addr} (ha : ∀ o, M a.block o = none) (v : Value) : Cons M (w.setCell a v) :=
 h.of_blocks fun b o u hu hb => Below.heap_setCell w a v b fun e => by rw [e, ha] at hu; cases hu
theorem flat_ints (l : List Int) : flat (cL l) = cL l := flat_intsK l .i64
theorem ints_form {M : Mem} {l : List Int} {v : Value} (h : R M (.lst 3 1 none (cL l)) v) : ∃ a cap, v = .slice a l.length cap ∧ ∀ j (hj : j < l.length), ∃ b off, a = some ⟨b, off, none⟩ ∧ M b (off + j) = some (.int .i64 l[j]) := by
 generalize hx : cL l = xs at h
 cases h with
 | lstn =>
  have : l = [] := by simpa [cL] using hx
  subst this; exact ⟨none, 0, rfl, fun j hj => absurd hj (by simp)⟩
 | lste _ _ _ ad cap =>
  have : l = [] := by simpa [cL] using hx
  subst this; exact ⟨some ad, cap, rfl, fun j hj => absurd hj (by simp)⟩
 | lst us h1 h2 h5 h3 h4 =>
  subst hx
  rename_i b off cap
  refine ⟨some ⟨b, off, none⟩, cap, by simp [cL], fun j hj => ⟨b, off, rfl, ?_⟩⟩
  have hf : (flat (cL l))[j]? = some (.int .i64 l[j]) := by rw [flat_ints]; simp [cL, hj]
  rw [h3 j _ hf, (h4 j _ hf).int_inv]
theorem run_ok {f : Nat} {args : List AV} {r : AV} (h : Run Try.prog (.call f args r)) : CallOk Try.prog f args r := run_sound mixedP h
def madd (M : Mem) (b : Nat) (v : Value) : Mem := fun b' o => if b' = b ∧ o = 0 then some v else M b' o
theorem madd_at (M : Mem) (b : Nat) (v : Value) : madd M b v b 0 = some v := by simp [madd]
theorem madd_other {M : Mem} {b b' o : Nat} {v : Value} (h : b' ≠ b) : madd M b v b' o = M b' o := by simp [madd, h]
theorem madd_sub {M : Mem} {w : World} {b : Nat} {v : Value} (hC : Cons M w) (h : w.heap.size ≤ b) : Sub M (madd M b v) := fun b' o u hu => by
 have := mc_lt (hC _ _ _ hu)
 rw [madd_other (by omega)]
 exact hu
theorem madd_cons {M : Mem} {w : World} {b : Nat} {v : Value} {t : TypeId} {fz : Nat × Nat} {cs : Array Value} (hC : Cons M w) (h : w.heap[b]? = some (.cells cs t fz)) (hv : cs[0]? = some v) (ht : isTup v = false) : Cons (madd M b v) w := fun b' o u hu => by
 unfold madd at hu
 split at hu
 ·rename_i e
  obtain ⟨rfl, rfl⟩ := e
  cases hu
  unfold mc
  rw [h]
  exact cellsAt_some hv ht
 ·exact hC _ _ _ hu
end Go.AM
