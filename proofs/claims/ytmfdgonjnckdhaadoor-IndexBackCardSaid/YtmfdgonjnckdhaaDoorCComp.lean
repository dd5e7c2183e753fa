/- s -/
import Derived.Test.YtmfdgonjnckdhaaDoorCRow
import Derived.WalkKit
import Derived.BigCall
import Derived.Test.YtmfdgonjnckdhaaDoorShelf3
set_option linter.unusedVariables false
namespace Go.AM
open Go.RowKit Go.Sort Go.Proofs Go.Lib
def compI (l : List Int) : List Int := compactUpTo l.toArray l.length
theorem compI_len (l : List Int) : (compI l).length ≤ l.length := by
 unfold compI compactUpTo
 rw [List.length_map]
 exact Nat.le_trans (List.length_filter_le _ _) (by simp)
theorem compact47 {a1 : List Int} (h0 : a1 ≠ []) (hl : a1.length ≤ 4611686018427387904) :
  CallMOk Tryd.prog 47 [.sb 2000000 5 1 0 a1.length] [(2000000, .obj 1000000005 1 (a1.map (AV.int .u8)))] (.sb 2000000 5 1 0 (compI a1).length) [(2000000, .obj 1000000005 1 ((compI a1 ++ List.replicate (a1.length - (compI a1).length) 0).map (AV.int .u8)))] := by
 intro M O w vs hG hC hlen hO hOi hR hH
 obtain ⟨v, rfl⟩ : ∃ v, vs = [v] := by
  match vs, hlen with
  | [v], _ => exact ⟨v, rfl⟩
 have hv := hR 0 _ v rfl rfl
 have ho := hH 2000000 (.obj 1000000005 1 (a1.map (AV.int .u8))) rfl
 obtain ⟨g, cap, cur, rfl, p1, p2, p3, p4, p5, p6, p7, p8⟩ := row_holds h0 ho hv
 have hsz : a1.toArray.size = a1.length := by simp
 have hcon := AnyE.slices_Compact Tryd.lComp (Value.int .u8) (fun _ => rfl) (EqlAt.intD _ _ .u8) (NeqAt.intD _ _ .u8) (0 : Int) Tryd.zeroValue5 g 0 cap a1.toArray w p8 (by rw [hsz]; omega) (by rw [hsz]; omega)
 change Calls Tryd.prog 47 _ _ _ at hcon
 rw [hsz] at hcon
 refine hcon.mono ?_
 rintro ed w' ⟨rfl, q, hw⟩
 have hys : (compI a1 ++ List.replicate (a1.length - (compI a1).length) 0).length = a1.length := by
  have := compI_len a1
  simp
  omega
 obtain ⟨b1, b2, b3, b4, b5⟩ := row_behind (cur := cur) hys h0 ho hC hO hOi p1 (n := q) (os := #[]) (w' := w') (by rw [grow_empty]; exact hw)
 refine ⟨_, M, O, rfl, b1, Sub.refl M, b2, fun _ _ _ _ => rfl, b3, b4, fun c _ _ => Gh.Eq1.refl O c, ?_, fun id x hx => ?_⟩
 ·obtain ⟨q1, q2⟩ := hv
  have := compI_len a1
  refine ⟨by omega, ?_⟩
  rcases q2 with ⟨h1, _⟩ | ⟨g', cap', hvv, s1, s2, s3, s4⟩
  ·exact absurd (List.length_eq_zero_iff.1 h1) h0
  ·cases hvv
   exact .inr ⟨g, cap, rfl, p1, s2, by show (compI a1).length ≤ cap; omega, s4⟩
 ·simp only [look] at hx
  split at hx
  ·rename_i hb
   cases hx
   obtain rfl := (Nat.eq_of_beq_eq_true hb).symm
   exact b5
  ·cases hx
end Go.AM
namespace Go.Proofs
open Go.Shelf Go.RowKit Go.Lib
set_option maxRecDepth 100000
theorem Tryd.compact_none (ad : Option Addr) (cap : Nat) (w : World) : Calls Tryd.prog 47 #[.slice ad 0 cap] w fun e w' => e = .returned (.slice ad 0 cap) ∧ w' = w := by
 have mixed : Tryd.prog.follows .mixedOrders = true := by kernel_rfl
 have t3 := Tryd.underlying3; have a3 := Tryd.isAgg3; have z3 := Tryd.sizeOf3; have v3 := Tryd.zeroValue3
 have t29 := Tryd.underlying29; have a29 := Tryd.isAgg29; have z29 := Tryd.sizeOf29; have v29 := Tryd.zeroValue29
 have t4 := Tryd.underlying4; have a4 := Tryd.isAgg4
 go_enter Tryd.func47, Tryd.ntmps47
 go_wp2
 go_ret
 exact ⟨rfl, rfl⟩
end Go.Proofs
namespace Go.AM
open Go.RowKit Go.Sort Go.Proofs Go.Lib
theorem compactNone47 : CallMOk Tryd.prog 47 [.sb 2000000 5 1 0 0] [(2000000, .obj 1000000005 1 [])] (.sb 2000000 5 1 0 0) [(2000000, .obj 1000000005 1 [])] := by
 intro M O w vs hG hC hlen hO hOi hR hH
 obtain ⟨v, rfl⟩ : ∃ v, vs = [v] := by
  match vs, hlen with
  | [v], _ => exact ⟨v, rfl⟩
 have hv := hR 0 _ v rfl rfl
 have ho := hH 2000000 (.obj 1000000005 1 []) rfl
 obtain ⟨ad, cap, rfl⟩ : ∃ ad cap, v = .slice ad 0 cap := by
  rcases hv.2 with ⟨_, ad, rfl⟩ | ⟨g, cap, rfl, _⟩
  ·exact ⟨_, _, rfl⟩
  ·exact ⟨_, _, rfl⟩
 refine (Tryd.compact_none ad cap w).mono ?_
 rintro e w' ⟨rfl, rfl⟩
 refine ⟨_, M, O, rfl, BelowD.refl _ _, Sub.refl M, hC, fun _ _ _ _ => rfl, fun i c g hg => ⟨(hO i c g hg).2, .inr ⟨c, by obtain ⟨rfl, _⟩ := hO i c g hg; exact hg⟩⟩, fun i i' c c' g h1 h2 => ?_, fun c _ _ => Gh.Eq1.refl O c, hv, fun id x hx => ?_⟩
 ·obtain ⟨rfl, _⟩ := hO i c g h1
  obtain ⟨rfl, _⟩ := hO i' c' g h2
  exact ⟨rfl, hOi c c' g h1 h2⟩
 ·simp only [look] at hx
  split at hx
  ·rename_i hb
   cases hx
   obtain rfl := (Nat.eq_of_beq_eq_true hb).symm
   exact ho
  ·cases hx
end Go.AM
