/-
  CHAPTER 1, PLAIN: DependRows's function returns true. No statement of the seat is proved here.
-/
import Derived.Test.YtombfedoinhafaaALaw8
set_option linter.unusedVariables false
set_option linter.unusedSimpArgs false
namespace Go.AM

theorem rise_len {m : Nat} : ∀ {l : List Int} (lo : Nat), l.Pairwise (· < ·) → (∀ y, y ∈ l → (lo : Int) ≤ y ∧ y < (m : Int)) → lo ≤ m → l.length + lo ≤ m
  | [], lo, _, _, h => by simpa using h
  | x :: r, lo, hp, hb, h => by
    rw [List.pairwise_cons] at hp
    obtain ⟨a, b⟩ := hb x (by simp)
    have := rise_len (m := m) (l := r) (x.toNat + 1) hp.2 (fun y hy => ⟨by have := hp.1 y hy; omega, (hb y (by simp [hy])).2⟩) (by omega)
    simp only [List.length_cons]
    omega

theorem keysOf_ne {n : Int} {ds : List dpDep} (hl : lenOk ds = true) (ho : okArgs n ds = true) (hwf : ∀ d, d ∈ ds → wf64 d.f_From ∧ wf64 d.f_To) : keysOf n ds ≠ [] := by
  obtain ⟨h1, h2, _⟩ := ok_parts ho
  have hp := pow_le h1 h2
  have hpos : 0 < 2 ^ n.toNat := Nat.two_pow_pos _
  have hw : wf64 (full n) := by unfold full wf64; omega
  have hs : isSet n (full n) = true := (isSet_iff h1 h2 hw).2 (Bits.refl _)
  have c := cl_spec hl hw
  have hc : cl ds (full n) = full n :=
    Bits.antisymm c.wf hw ((isSet_iff h1 h2 c.wf).1 (closure_isSet ho (fun d hd => (hwf d hd).2) hw hs c)) c.sup
  obtain ⟨y, hy, _⟩ := (keysOf_to n ds).all (2 ^ n.toNat - 1) (by omega) hc
  exact List.ne_nil_of_mem hy

theorem dependRows_true {n : Int} {l : List rf1Dep} {rows : List (List Int)} (hl : lenOk l = true) (hd : ∀ d, d ∈ l → wf64 d.f_From ∧ wf64 d.f_To) (hr : lenOk rows = true) {fuel : Nat} (hf : bigFuel ≤ fuel) :
    lw1_DependRows fuel n l rows = some true := by
  obtain ⟨ds, hds⟩ : ∃ ds, (l.take 14).map toDep = ds := ⟨_, rfl⟩
  have hlen : lenOk ds = true := hds ▸ lenOk_take
  have hwf : ∀ d, d ∈ ds → wf64 d.f_From ∧ wf64 d.f_To := hds ▸ wf_take hd
  unfold lw1_DependRows
  rw [deps_eq hl, hds]
  simp only [Option.bind_some]
  rw [Keys_val hlen hf]
  cases ho : okArgs n ds with
  | false => simp [lw1_DependRows_j9, awake_eq hf, lw1_DependRows_j12]
  | true =>
    obtain ⟨h1, h2, h3⟩ := ok_parts ho
    simp only [Option.bind_some, cond_true, bne_self_eq_false, cond_false]
    rw [rTable_val hr]
    cases ht : tableOk n rows with
    | false => simp [lw1_DependRows_j9, awake_eq hf, lw1_DependRows_j12]
    | true =>
      simp only [Option.bind_some, Bool.not_true]
      unfold lw1_DependRows_j9
      rw [deps_eq hl, hds]
      simp only [Option.bind_some, cond_false, hlen, chk, cond_true]
      have k1 : ∀ (r : List dpDep) (k : Nat) (K : Option Bool), (∀ e, e ∈ r → e ∈ ds) → ((∀ e, e ∈ r → pairsFine e [] rows = true) → K = some true) → lw1_DependRows_l1 fuel n rows K r k = some true := by
        intro r
        induction r with
        | nil => intro k K _ h; rw [lw1_DependRows_l1.eq_1]; exact h (fun e he => absurd he List.not_mem_nil)
        | cons e r ih =>
          intro k K hm hK
          have he := hm e (by simp)
          rw [lw1_DependRows_l1.eq_2, few_val hr, few_table ht]
          simp only [Option.bind_some]
          rw [Holds_val hr, ht, (h3 e he).1, (h3 e he).2]
          simp only [Bool.and_self, cond_true, Option.bind_some, bne_self_eq_false, cond_false, lw1_DependRows_j24]
          cases hp : pairsFine e [] rows with
          | false => simp [awake_eq hf, lw1_DependRows_j26]
          | true =>
            simp only [Bool.not_true, cond_false]
            refine ih (k + 1) K (fun e he => hm e (by simp [he])) (fun h => hK fun e' he' => ?_)
            rcases List.mem_cons.1 he' with rfl | he'
            · exact hp
            · exact h e' he'
      refine k1 ds 0 _ (fun e he => he) fun hall => ?_
      unfold lw1_DependRows_j16
      have hp := pow_le h1 h2
      have hn : decide (0 ≤ n) = true := by simpa using (show 0 ≤ n by omega)
      have hkt := keysOf_to n ds
      have hfull : wf64 (full n) := by unfold full wf64; omega
      have sfull : isSet n (full n) = true := (isSet_iff h1 h2 hfull).2 (Bits.refl _)
      have hkl : lenOk (keysOf n ds) = true := by
        have := rise_len (m := 2 ^ n.toNat) 0 hkt.rise (fun y hy => ⟨(hkt.below y hy).1, (hkt.below y hy).2.1⟩) (Nat.zero_le _)
        exact lenOk_of (by omega)
      simp only [hkl, cond_true, chk]
      have k2 : ∀ (r : List Int) (k : Nat) (K : Option Bool), (∀ e, e ∈ r → e ∈ keysOf n ds) → lw1_DependRows_l2 n rows K r k = K := by
        intro r
        induction r with
        | nil => intro k K _; rw [lw1_DependRows_l2.eq_1]
        | cons e r ih =>
          intro k K hm
          obtain ⟨a, b, c⟩ := hkt.below e (hm e (by simp))
          have hw : wf64 e := by unfold wf64; omega
          rw [lw1_DependRows_l2.eq_2, few_val hr, few_table ht]
          simp only [Option.bind_some, hn, chk, cond_true]
          rw [full_eq h1 h2, Holds_val hr, ht]
          have se : isSet n e = true := (isSet_range h1 h2).2 ⟨a, b⟩
          rw [show (dpDep.mk e (full n)).f_From = e from rfl, show (dpDep.mk e (full n)).f_To = full n from rfl, se, sfull]
          have hq : pairsFine ⟨e, full n⟩ [] rows = true := pairs_cl hlen hw (by rw [c]; exact Bits.refl _) rows [] hall
          simp only [hq, Bool.and_self, cond_true, Option.bind_some, Bool.not_true, cond_false, bne_self_eq_false, lw1_DependRows_j37]
          exact ih (k + 1) K (fun e he => hm e (by simp [he]))
      rw [k2 _ _ _ (fun e he => he)]
      unfold lw1_DependRows_j29
      have hne := List.length_pos_iff.2 (keysOf_ne hlen ho hwf)
      have : decide (((keysOf n ds).length : Int) > 0) = true := decide_eq_true (by omega)
      rw [this, awake_eq hf]
      rfl

end Go.AM
