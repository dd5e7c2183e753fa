/- s -/
import Derived.Sort.OwnSortedInts
import Derived.Test.YtoiejpkfpjingaaAClose
import Derived.Test.YtoiejpkfpjingaaShelf2
set_option maxRecDepth 100000
namespace Go.AM
open Go Go.Sort Go.Proofs
theorem knownSort92 : KnownSort Try.prog 92 3 := by
 intro zs w g cap cur hg hsz hlt htake
 have hlen : (sortI zs).length = zs.length := by simp [sortI]
 refine (Try.slices_Sort_int g 0 cap zs w (holds_of_blockI hg htake) (Array.getElem?_eq_some_iff.1 hg).1 hlt).mono ?_
 rintro e w' ⟨rfl, n, os, rfl⟩
 obtain ⟨h1, h2, h3, h4, h5⟩ := grownBy_sortedI (w := w) (g := g) (n := n) (os := os) (zs.mergeSort fun x y => decide (x ≤ y)).toArray
 refine ⟨rfl, h1, h2, h3, h4, fun k hk hne => h5 k hk (fun e => hne (Option.some.inj e)), _, heap_sortedI _ hg, by simp [putCells], ?_⟩
 have := take_putCellsI cur (sortI zs) (by omega)
 rw [hlen] at this
 exact this
end Go.AM
namespace Go.AM
open Go Go.Sort Go.Proofs
theorem sortNone92 : CallMOk Try.prog 92 [.sb 2000000 3 1 0 0] [(2000000, .obj 3 1 [])] (.tup []) [(2000000, .obj 3 1 [])] := by
 intro M O w vs hG hC hlen hO hOi hR hH
 obtain ⟨v, rfl⟩ : ∃ v, vs = [v] := by
  match vs, hlen with
  | [v], _ => exact ⟨v, rfl⟩
 obtain ⟨q1, q2⟩ := hR 0 _ v rfl rfl
 obtain ⟨p, cap, rfl⟩ : ∃ p cap, v = .slice p 0 cap := by
  rcases q2 with ⟨_, ad, rfl⟩ | ⟨g, cap, rfl, _⟩
  ·exact ⟨ad, 0, rfl⟩
  ·exact ⟨_, cap, rfl⟩
 refine (Try.slices_Sort_int_none p cap w).mono ?_
 rintro e w' ⟨rfl, rfl⟩
 refine ⟨_, M, O, rfl, ⟨rfl, rfl, rfl, Nat.le_refl _, fun _ _ => rfl⟩, Sub.refl M, hC, fun _ _ _ _ => rfl, fun i c g hg => ?_, fun i i' c c' g hg hg' => ?_, fun c _ _ => Gh.Eq1.refl O c, ⟨.tup (vs := []) rfl (fun j c v hc => by simp at hc), trivial⟩, hH⟩
 ·obtain ⟨rfl, h2⟩ := hO i c g hg
  exact ⟨h2, .inr ⟨c, hg⟩⟩
 ·obtain ⟨rfl, _⟩ := hO i c g hg
  obtain ⟨rfl, _⟩ := hO i' c' g hg'
  exact ⟨rfl, hOi c c' g hg hg'⟩
end Go.AM
