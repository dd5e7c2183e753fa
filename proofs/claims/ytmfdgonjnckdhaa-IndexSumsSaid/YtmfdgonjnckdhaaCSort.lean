import Derived.Sort.OwnSortedInts
import Derived.Test.YtmfdgonjnckdhaaAClose
import Derived.Test.YtmfdgonjnckdhaaShelf2
set_option maxRecDepth 100000
namespace Go.AM
open Go Go.Sort Go.Proofs

/-- slices.Sort of numbers, by the kit's contract -/
theorem knownSort31 : KnownSort Try.prog 31 3 := by
  intro zs w g cap cur hg hsz hlt htake
  have hlen : (sortI zs).length = zs.length := by simp [sortI]
  refine (Try.slices_Sort_int g 0 cap zs w (holds_of_blockI hg htake) (Array.getElem?_eq_some_iff.1 hg).1 hlt).mono ?_
  rintro e w' ⟨rfl, n, os, rfl⟩
  obtain ⟨h1, h2, h3, h4, h5⟩ := grownBy_sortedI (w := w) (g := g) (n := n) (os := os) (zs.mergeSort fun x y => decide (x ≤ y)).toArray
  refine ⟨rfl, h1, h2, h3, h4, fun k hk hne => h5 k hk (fun e => hne (Option.some.inj e)), _, heap_sortedI _ hg, by simp [putCells], ?_⟩
  have := take_putCellsI cur (sortI zs) (by omega)
  rw [hlen] at this
  exact this

end Go.AM
