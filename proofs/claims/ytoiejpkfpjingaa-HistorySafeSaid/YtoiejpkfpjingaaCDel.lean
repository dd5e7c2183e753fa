/- s -/
import Derived.Shelf.SlGeneric
import Derived.Ground.SlgnProg
import Derived.Shelf.SlicesE.Delete
import Derived.Test.YtoiejpkfpjingaaCRow
set_option linter.unusedVariables false
namespace Go.Proofs
open Go.Shelf
def Try.lDel_ren : Go.Shelf.Ren := ⟨fun | 45 => 91 | n => n, fun | 22 => 24 | 23 => 3 | 3 => 3 | 4 => 4 | 0 => 0 | n => n, fun | n => n⟩
theorem Try.lDel : Go.Proofs.SlLaysE.n45 Try.prog Try.lDel_ren := {
 mixed := by kernel_rfl
 f45 := ⟨Try.f91.name, by decide, Try.func91.trans (congrArg some (by kernel_rfl))⟩
 t0 := Try.underlying0
 a0 := Try.isAgg0
 z0 := Try.sizeOf0
 v0 := Try.zeroValue0
 t3 := Try.underlying3
 a3 := Try.isAgg3
 z3 := Try.sizeOf3
 v3 := Try.zeroValue3
 t4 := Try.underlying4
 a4 := Try.isAgg4
 z4 := Try.sizeOf4
 v4 := Try.zeroValue4
 t22 := Try.underlying24
 a22 := Try.isAgg24
 z22 := Try.sizeOf24
 v22 := Try.zeroValue24
 a23 := Try.isAgg3
 z23 := Try.sizeOf3 }
end Go.Proofs
namespace Go.AM
open Go.RowKit Go.Sort Go.Proofs Go.Lib
theorem delInfo : ∃ i0, Try.prog.info? 3 = some i0 ∧ i0.size = 1 := by
 have h : (Try.prog.info? 3).map (·.size) = some 1 := by kernel_rfl
 cases hi : Try.prog.info? 3 with
 | none => rw [hi] at h; cases h
 | some i0 => rw [hi] at h; exact ⟨i0, rfl, Option.some.inj h⟩
theorem delete1 {a1 : List Int} {i : Nat} (hi : i < a1.length) (hl : a1.length ≤ 4611686018427387904) :
  CallMOk Try.prog 91 [.sb 2000000 3 1 0 a1.length, .int .i64 (i : Nat), .int .i64 ((i : Nat) + 1)] [(2000000, .obj 3 1 (a1.map (AV.int .i64)))] (.sb 2000000 3 1 0 (a1.length - 1)) [(2000000, .obj 3 1 ((a1.take i ++ a1.drop (i + 1) ++ [0]).map (AV.int .i64)))] := by
 intro M O w vs hG hC hlen hO hOi hR hH
 have h0 : a1 ≠ [] := fun e => by rw [e] at hi; cases hi
 obtain ⟨v, v1, v2, rfl⟩ : ∃ v v1 v2, vs = [v, v1, v2] := by
  match vs, hlen with
  | [v, v1, v2], _ => exact ⟨v, v1, v2, rfl⟩
 have hv := hR 0 _ v rfl rfl
 obtain rfl : v1 = .int .i64 (i : Nat) := (hR 1 _ v1 rfl rfl).1.int_inv
 obtain rfl : v2 = .int .i64 ((i : Nat) + 1) := (hR 2 _ v2 rfl rfl).1.int_inv
 have ho := hH 2000000 (.obj 3 1 (a1.map (AV.int .i64))) rfl
 obtain ⟨g, cap, cur, rfl, p1, p2, p3, p4, p5, p6, p7, p8⟩ := row_holds h0 ho hv
 have hsz : a1.toArray.size = a1.length := by simp
 obtain ⟨i0, hi0, hz1⟩ := delInfo
 have hcon := AnyE.slices_Delete Try.lDel (Value.int .i64) (fun _ => rfl) (0 : Int) Try.zeroValue3 i0 hi0 hz1 g 0 cap i (i + 1) a1.toArray w p8 (by rw [hsz]; omega) (by unfold maxLen at p4; omega) (by omega) (by rw [hsz]; omega)
 change Calls Try.prog 91 _ _ _ at hcon
 rw [hsz] at hcon
 have e1 : ((i + 1 : Nat) : Int) = (i : Int) + 1 := by omega
 rw [e1] at hcon
 refine hcon.mono ?_
 rintro ed w' ⟨rfl, q, hw⟩
 have e2 : i + 1 - i = 1 := by omega
 rw [e2] at hw ⊢
 have hys : (a1.take i ++ a1.drop (i + 1) ++ [0]).length = a1.length := by
  simp
  omega
 obtain ⟨b1, b2, b3, b4, b5⟩ := row_behind (cur := cur) hys h0 ho hC hO hOi p1 (n := q) (os := #[]) (w' := w') (by rw [grow_empty]; exact hw)
 refine ⟨_, M, O, rfl, b1, Sub.refl M, b2, fun _ _ _ _ => rfl, b3, b4, fun c _ _ => Gh.Eq1.refl O c, ?_, fun id x hx => ?_⟩
 ·obtain ⟨q1, q2⟩ := hv
  refine ⟨by omega, ?_⟩
  rcases q2 with ⟨h1, _⟩ | ⟨g', cap', hvv, s1, s2, s3, s4⟩
  ·exact absurd (List.length_eq_zero_iff.1 h1) h0
  ·cases hvv
   exact .inr ⟨g, cap, rfl, p1, s2, by show a1.length - 1 ≤ cap; omega, s4⟩
 ·simp only [look] at hx
  split at hx
  ·rename_i hb
   cases hx
   obtain rfl := (Nat.eq_of_beq_eq_true hb).symm
   exact b5
  ·cases hx
end Go.AM
