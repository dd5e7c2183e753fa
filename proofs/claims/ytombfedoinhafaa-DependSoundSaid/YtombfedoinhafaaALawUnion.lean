/-
  CHAPTER 1, PLAIN: DependUnion's function returns true. No statement of the seat is proved here.
-/
import Derived.Test.YtombfedoinhafaaALaw2
set_option linter.unusedVariables false
namespace Go.AM

/-- the program's Follows -/
theorem Follows_eq {n : Int} {ds : List dpDep} {x y : Int} (hl : lenOk ds = true) (hx : wf64 x) {fuel : Nat} (hf : bigFuel ≤ fuel) :
    ((okArgs n ds && (isSet n x && isSet n y)) = false ∧ dp_Follows fuel n ds ⟨x, y⟩ = some (false, 2)) ∨ (okArgs n ds = true ∧ isSet n x = true ∧ isSet n y = true ∧ ∃ r, IsClosure ds x r ∧ dp_Follows fuel n ds ⟨x, y⟩ = some (iAndNot .i64 y r == 0, 0)) := by
  obtain ⟨r, h1, h2⟩ := closure_spec hl hx hf
  unfold dp_Follows dp_Follows_j6 dp_closure
  rw [valid_eq hl]
  cases ho : okArgs n ds with
  | false => left; simp
  | true =>
    have hn : 0 ≤ n := by
      simp only [okArgs, Bool.and_eq_true, decide_eq_true_eq] at ho; omega
    simp only [Option.bind_some, Bool.not_true, cond_false]
    rw [sets_eq hn (by rfl)]
    cases hs : isSet n x with
    | false => left; simp [hs]
    | true =>
      cases hy : isSet n y with
      | false => left; simp [hs, hy]
      | true =>
        right
        refine ⟨by first | rfl | trivial, by first | rfl | trivial, by first | rfl | trivial, r, h2, ?_⟩
        simp [hs, hy, h1]

theorem bits_or_iff {a b c : Int} : Bits (iOr .i64 a b) c ↔ Bits a c ∧ Bits b c :=
  ⟨fun h => ⟨(sub_or_left a b).trans h, (sub_or_right a b).trans h⟩, fun h => or_sub h.1 h.2⟩

/-- r contains y -/
def has (y r : Int) : Bool := iAndNot .i64 y r == 0
theorem has_iff {y r : Int} : has y r = true ↔ Bits y r := andNot_zero
theorem has_or {y z r : Int} : has (iOr .i64 y z) r = (has y r && has z r) := by
  rw [Bool.eq_iff_iff, Bool.and_eq_true, has_iff, has_iff, has_iff]
  exact bits_or_iff

theorem dependUnion_true {n x y z : Int} {l : List rf1Dep} (hl : lenOk l = true) (hx : wf64 x) (hy : wf64 y) (hz : wf64 z) {fuel : Nat} (hf : bigFuel ≤ fuel) :
    lw1_DependUnion fuel n l x y z = some true := by
  obtain ⟨ds, hds⟩ : ∃ ds, ds = (l.take 14).map toDep := ⟨_, rfl⟩
  have hlen : lenOk ds = true := hds ▸ lenOk_take
  unfold lw1_DependUnion
  rw [deps_eq hl, ← hds]
  simp only [Option.bind_some]
  rcases Follows_eq (n := n) (y := y) hlen hx hf with ⟨h1, e1⟩ | ⟨o1, s1, sy, a, c1, e1⟩
  · rcases Follows_eq (n := n) (y := z) hlen hx hf with ⟨h2, e2⟩ | ⟨o2, s2, sz, b, c2, e2⟩
    all_goals
      rw [e1, e2]
      simp [lw1_DependUnion_j14, awake_eq hf, lw1_DependUnion_j16]
  · rcases Follows_eq (n := n) (y := z) hlen hx hf with ⟨h2, e2⟩ | ⟨o2, s2, sz, b, c2, e2⟩
    · rw [e1, e2]
      simp [lw1_DependUnion_j14, awake_eq hf, lw1_DependUnion_j16]
    · obtain ⟨p1, p2, _⟩ := ok_parts o1
      have syz := or_isSet p1 p2 hy hz sy sz
      have sxz := or_isSet p1 p2 hx hz s1 sz
      have hba : b = a := c2.unique c1
      subst hba
      rcases Follows_eq (n := n) (x := x) (y := iOr .i64 y z) hlen hx hf with ⟨h3, _⟩ | ⟨_, _, _, c, c3, e3⟩
      · rw [o1, s1, syz] at h3; cases h3
      rcases Follows_eq (n := n) (x := iOr .i64 x z) (y := iOr .i64 y z) hlen (wf_or _ _) hf with ⟨h4, _⟩ | ⟨_, _, _, d, c4, e4⟩
      · rw [o1, sxz, syz] at h4; cases h4
      have hca : c = b := c3.unique c1
      subst hca
      have key : has y c = true → has (iOr .i64 y z) d = true := by
        intro h
        rw [has_iff] at h ⊢
        exact or_sub (h.trans (c1.least d c4.closed ((sub_or_left x z).trans c4.sup))) ((sub_or_right x z).trans c4.sup)
      rw [e1, e2]
      simp only [bne_self_eq_false, cond_false, Option.bind_some]
      unfold lw1_DependUnion_j14
      rw [deps_eq hl, ← hds]
      simp only [Option.bind_some, e3, e4]
      have q1 : (iAndNot .i64 y c == 0) = has y c := rfl
      have q2 : (iAndNot .i64 z c == 0) = has z c := rfl
      have q3 : (iAndNot .i64 (iOr .i64 y z) c == 0) = (has y c && has z c) := has_or
      have q4 : (iAndNot .i64 (iOr .i64 y z) d == 0) = has (iOr .i64 y z) d := rfl
      rw [q1, q2, q3, q4]
      simp only [awake_eq hf, lw1_DependUnion_j26]
      cases h1 : has y c with
      | false => simp
      | true => simp [key h1]

end Go.AM
