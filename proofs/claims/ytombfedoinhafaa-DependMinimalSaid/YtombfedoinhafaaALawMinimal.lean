/-
  CHAPTER 1, PLAIN: DependMinimal's function returns true. No statement of the seat is proved here.
-/
import Derived.Test.YtombfedoinhafaaALaw3
import Derived.Test.YtombfedoinhafaaG2
set_option linter.unusedVariables false
set_option linter.unusedSimpArgs false
namespace Go.AM

/-- a number cut to n bits -/
def cut64 (n x : Int) : Int := IntKind.wrap .i64 ((IntKind.wrap .u64 x).tmod (iShl .u64 1 (IntKind.wrap .u64 n)))

theorem u64_one {n : Int} (h1 : 1 ≤ n) (h2 : n ≤ 8) : iShl .u64 1 (IntKind.wrap .u64 n) = ((2 ^ n.toNat : Nat) : Int) ∧ 0 ≤ IntKind.wrap .u64 n := by
  obtain ⟨m, rfl⟩ := Int.eq_ofNat_of_zero_le (show 0 ≤ n by omega)
  have : m = 1 ∨ m = 2 ∨ m = 3 ∨ m = 4 ∨ m = 5 ∨ m = 6 ∨ m = 7 ∨ m = 8 := by omega
  rcases this with rfl | rfl | rfl | rfl | rfl | rfl | rfl | rfl <;> exact ⟨by decide +kernel, by decide +kernel⟩

theorem cut64_range {n x : Int} (h1 : 1 ≤ n) (h2 : n ≤ 8) : 0 ≤ cut64 n x ∧ cut64 n x < ((2 ^ n.toNat : Nat) : Int) := by
  unfold cut64
  rw [(u64_one h1 h2).1]
  have hp := pow_le h1 h2
  have hp0 : 0 < 2 ^ n.toNat := Nat.two_pow_pos _
  have h0 : 0 ≤ IntKind.wrap .u64 x := by
    simp [IntKind.wrap, IntKind.signed, IntKind.bits]; omega
  have a1 := Int.tmod_nonneg ((2 ^ n.toNat : Nat) : Int) h0
  have a2 := Int.tmod_lt_of_pos (IntKind.wrap .u64 x) (show (0 : Int) < ((2 ^ n.toNat : Nat) : Int) by exact_mod_cast hp0)
  rw [wrap_id (by omega) (by omega)]
  exact ⟨a1, a2⟩

theorem keyIsSet {n : Int} {ds : List dpDep} (h1 : 1 ≤ n) (h2 : n ≤ 8) {y : Int} (hy : y ∈ keysOf n ds) : isSet n y = true ∧ wf64 y ∧ cl ds y = full n ∧ 0 ≤ y ∧ y < 256 := by
  obtain ⟨a, b, c⟩ := (keysOf_to n ds).below y hy
  have hp := pow_le h1 h2
  have hb : y < 256 := by omega
  exact ⟨(isSet_range h1 h2).2 ⟨a, b⟩, by unfold wf64; omega, c, a, hb⟩

theorem min_l2 (x : Int) (K : Option Bool) : ∀ (l : List Int) (k : Nat), (∀ y, y ∈ l → has x y = false ∧ has y x = false) → lw1_DependMinimal_l2 x K l k = K
  | [], k, _ => rfl
  | y :: l, k, h => by
    rw [lw1_DependMinimal_l2.eq_2]
    obtain ⟨a, b⟩ := h y (by simp)
    have e1 : (iAndNot .i64 x y == 0) = false := a
    have e2 : (iAndNot .i64 y x == 0) = false := b
    rw [e1, e2]
    simp only [cond_false, lw1_DependMinimal_j39]
    exact min_l2 x K l (k + 1) (fun y hy => h y (by simp [hy]))

theorem sub_take {l : List Int} {k : Nat} (h : k ≤ l.length) : sub l 0 (k : Int) = some (l.take k) := by
  unfold sub
  rw [if_pos ⟨Int.le_refl 0, Int.natCast_nonneg k, by exact_mod_cast h⟩]
  simp

theorem min_l1 {n x : Int} {l : List rf1Dep} {ds : List dpDep} (hl : lenOk l = true) (hds : (l.take 14).map toDep = ds) (ho : okArgs n ds = true) (K : Bool → Option Bool) {fuel : Nat} (hf : bigFuel ≤ fuel) {e : Int} :
    ∀ (r : List Int) (k : Nat) (b : Bool), (keysOf n ds).drop k = r → k + r.length = (keysOf n ds).length →
    lw1_DependMinimal_l1 fuel n l x (keysOf n ds, e) K r k b = K (b || r.any fun y => has y (cut64 n x))
  | [], k, b, _, _ => by rw [lw1_DependMinimal_l1.eq_1]; simp
  | y :: r, k, b, hd, hk => by
    obtain ⟨h1, h2, _⟩ := ok_parts ho
    have hmem : y ∈ keysOf n ds := List.mem_of_mem_drop (hd ▸ List.mem_cons_self)
    obtain ⟨ys, yw, yc, y0, y1⟩ := keyIsSet h1 h2 hmem
    have hlen : lenOk ds = true := hds ▸ lenOk_take
    have hn : decide (0 ≤ n) = true := by simpa using (show 0 ≤ n by omega)
    rw [lw1_DependMinimal_l1.eq_2, deps_eq hl, hds]
    simp only [Option.bind_some]
    rw [Closure_val hlen yw hf, ho, ys, yc, full_eq h1 h2]
    simp only [Bool.and_true, cond_true, Option.bind_some, bne_self_eq_false, cond_false, hn, chk]
    unfold lw1_DependMinimal_j30
    simp only [List.length_cons] at hk
    have hap := (keysOf_to n ds).apart
    have hri := (keysOf_to n ds).rise
    have hsplit : keysOf n ds = (keysOf n ds).take k ++ y :: r := by rw [← hd, List.take_append_drop]
    rw [hsplit, List.pairwise_append] at hap hri
    have hkl : k ≤ (keysOf n ds).length := by omega
    have hsub : sub (keysOf n ds, e).1 0 (k : Int) = some ((keysOf n ds).take k) := sub_take hkl
    rw [hsub]
    have hlt : lenOk ((keysOf n ds).take k) = true := by
      have hb : (keysOf n ds).length ≤ 256 := by
        have : ∀ (l : List Int), l.Pairwise (· < ·) → (∀ y, y ∈ l → 0 ≤ y ∧ y < 256) → l.length ≤ 256 := by
          intro l hp hb
          have key : ∀ (l : List Int) (a : Int), l.Pairwise (· < ·) → (∀ y, y ∈ l → a ≤ y ∧ y < 256) → a ≤ 256 → (l.length : Int) ≤ 256 - a := by
            intro l
            induction l with
            | nil => intro a _ _ ha; simp; omega
            | cons z l ih =>
              intro a hp hb ha
              rw [List.pairwise_cons] at hp
              obtain ⟨z1, z2⟩ := hb z (by simp)
              have := ih (z + 1) hp.2 (fun y hy => ⟨by have := hp.1 y hy; omega, (hb y (by simp [hy])).2⟩) (by omega)
              simp; omega
          have := key l 0 hp hb (by omega)
          omega
        exact this _ (keysOf_to n ds).rise (fun y hy => (keyIsSet h1 h2 hy).2.2.2)
      exact lenOk_of (by simp; omega)
    simp only [Option.bind_some, hlt, chk, cond_true]
    rw [min_l2]
    · unfold lw1_DependMinimal_j34 lw1_DependMinimal_j24
      have hr := min_l1 (x := x) hl hds ho K hf (e := e) r (k + 1)
      have hd' : (keysOf n ds).drop (k + 1) = r := by
        have : (keysOf n ds).drop (k + 1) = ((keysOf n ds).drop k).drop 1 := by rw [List.drop_drop]
        rw [this, hd]; rfl
      cases b with
      | true => simp only [cond_true]; rw [hr true hd' (by omega)]; simp
      | false =>
        simp only [cond_false]
        have hc : (iAndNot .i64 y (IntKind.wrap .i64 ((IntKind.wrap .u64 x).tmod (iShl .u64 1 (IntKind.wrap .u64 n)))) == 0) = has y (cut64 n x) := rfl
        rw [hc, hr _ hd' (by omega)]
        simp
    · intro z hz
      have hzm : z ∈ keysOf n ds := List.mem_of_mem_take hz
      obtain ⟨_, _, _, z0, z1⟩ := keyIsSet h1 h2 hzm
      have hlt := hri.2.2 z hz y (by simp)
      refine ⟨?_, hap.2.2 z hz y (by simp)⟩
      cases hh : has y z with
      | false => rfl
      | true =>
        have := le_of_bits y0 y1 z0 z1 (has_iff.1 hh)
        omega

theorem cl_full {n x : Int} {ds : List dpDep} (hl : lenOk ds = true) (ho : okArgs n ds = true) (hwf : ∀ d, d ∈ ds → wf64 d.f_From ∧ wf64 d.f_To) {y : Int} (hx : wf64 x) (hy : wf64 y) (hxy : Bits y x) (hs : isSet n x = true) (hf : cl ds y = full n) : cl ds x = full n := by
  obtain ⟨h1, h2, _⟩ := ok_parts ho
  have cx := cl_spec hl hx
  have cy := cl_spec hl hy
  have hsx := closure_isSet ho (fun d hd => (hwf d hd).2) hx hs cx
  refine Bits.antisymm cx.wf (hf ▸ cy.wf) ((isSet_iff h1 h2 cx.wf).1 hsx) ?_
  rw [← hf]
  exact cy.least _ cx.closed (hxy.trans cx.sup)

theorem dependMinimal_true {n x : Int} {l : List rf1Dep} (hl : lenOk l = true) (hd : ∀ d, d ∈ l → wf64 d.f_From ∧ wf64 d.f_To) (hx : wf64 x) {fuel : Nat} (hf : bigFuel ≤ fuel) :
    lw1_DependMinimal fuel n l x = some true := by
  obtain ⟨ds, hds⟩ : ∃ ds, (l.take 14).map toDep = ds := ⟨_, rfl⟩
  have hlen : lenOk ds = true := hds ▸ lenOk_take
  have hwf : ∀ d, d ∈ ds → wf64 d.f_From ∧ wf64 d.f_To := hds ▸ wf_take hd
  unfold lw1_DependMinimal
  rw [deps_eq hl, hds]
  simp only [Option.bind_some]
  rw [Keys_val hlen hf]
  cases ho : okArgs n ds with
  | false => simp [lw1_DependMinimal_j9, awake_eq hf, lw1_DependMinimal_j11]
  | true =>
    obtain ⟨h1, h2, _⟩ := ok_parts ho
    have n1 : decide (n < 1) = false := by simp; omega
    have n2 : decide (n > 8) = false := by simp; omega
    simp only [cond_true, Option.bind_some, bne_self_eq_false, cond_false, n1, n2]
    unfold lw1_DependMinimal_j9
    obtain ⟨u1, u2⟩ := u64_one h1 h2
    have hp0 : 0 < 2 ^ n.toNat := Nat.two_pow_pos _
    have u3 : decide (iShl .u64 1 (IntKind.wrap .u64 n) ≠ 0) = true := by rw [u1]; exact decide_eq_true (by omega)
    have u4 : decide (0 ≤ IntKind.wrap .u64 n) = true := by simpa using u2
    have hn : decide (0 ≤ n) = true := by simpa using (show 0 ≤ n by omega)
    rw [deps_eq hl, hds]
    simp only [cond_false, u3, u4, chk, cond_true, Option.bind_some]
    have hc : IntKind.wrap .i64 ((IntKind.wrap .u64 x).tmod (iShl .u64 1 (IntKind.wrap .u64 n))) = cut64 n x := rfl
    rw [hc]
    obtain ⟨c0, c1⟩ := cut64_range (x := x) h1 h2
    have hp := pow_le h1 h2
    have cw : wf64 (cut64 n x) := by unfold wf64; omega
    have cs : isSet n (cut64 n x) = true := (isSet_range h1 h2).2 ⟨c0, c1⟩
    rw [Closure_val hlen cw hf, ho, cs]
    simp only [Bool.and_true, cond_true, Option.bind_some]
    have hkl : lenOk (keysOf n ds) = true := by
      have hb : ∀ (l : List Int) (a : Int), l.Pairwise (· < ·) → (∀ y, y ∈ l → a ≤ y ∧ y < 256) → a ≤ 256 → (l.length : Int) ≤ 256 - a := by
        intro l
        induction l with
        | nil => intro a _ _ ha; simp; omega
        | cons z l ih =>
          intro a hp hb ha
          rw [List.pairwise_cons] at hp
          obtain ⟨z1, z2⟩ := hb z (by simp)
          have := ih (z + 1) hp.2 (fun y hy => ⟨by have := hp.1 y hy; omega, (hb y (by simp [hy])).2⟩) (by omega)
          simp; omega
      have := hb _ 0 (keysOf_to n ds).rise (fun y hy => (keyIsSet h1 h2 hy).2.2.2) (by omega)
      exact lenOk_of (by omega)
    rw [hkl]
    simp only [cond_true]
    rw [min_l1 hl hds ho _ hf (keysOf n ds) 0 false (List.drop_zero) (by simp)]
    unfold lw1_DependMinimal_j21
    simp only [hn, chk, cond_true, beq_self_eq_true, Bool.false_or, full_eq h1 h2, awake_eq hf, lw1_DependMinimal_j44, Option.bind_some]
    have key : ((keysOf n ds).any fun y => has y (cut64 n x)) = (cl ds (cut64 n x) == full n) := by
      rw [Bool.eq_iff_iff, List.any_eq_true, beq_iff_eq]
      constructor
      · rintro ⟨y, hy, hyx⟩
        obtain ⟨_, yw, yc, _, _⟩ := keyIsSet h1 h2 hy
        exact cl_full hlen ho hwf cw yw (has_iff.1 hyx) cs yc
      · intro h
        obtain ⟨m, hm⟩ := Int.eq_ofNat_of_zero_le c0
        rw [hm] at h c1 ⊢
        exact (keysOf_to n ds).all m (by exact_mod_cast c1) h
    rw [key]
    simp

end Go.AM
