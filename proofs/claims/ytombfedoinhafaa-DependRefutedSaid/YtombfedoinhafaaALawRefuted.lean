/-
  CHAPTER 1, PLAIN: DependRefuted's function returns true. No statement of the seat is proved here.
-/
import Derived.Test.YtombfedoinhafaaALaw6
set_option linter.unusedVariables false
set_option linter.unusedSimpArgs false
namespace Go.AM

/-- the two rows of a set that is closed -/
theorem agr_two {n : Nat} (hn : n ≤ 8) {C : Int} (hC : wf64 C) (hs : Bits C ((2 ^ n - 1 : Nat) : Int)) (z : Int) : agr (rowF n C 1) (rowF n z 0) = C := by
  obtain ⟨_, h2, h3⟩ := agree_val (x := rowF n C 1) (y := rowF n z 0) (by simp [rowF]) (by simp [rowF]; exact hn)
  have key : ∀ a, bit (agr (rowF n C 1) (rowF n z 0)) a = bit C a := by
    intro a
    rw [h3 a]
    by_cases ha : a < n
    · simp [rowF, ha]
      cases bit C a <;> simp
    · have hb : bit C a = false := by
        cases hb : bit C a with
        | false => rfl
        | true =>
          have := hs a hb
          have hV : V ((2 ^ n - 1 : Nat) : Int) = BitVec.ofNat 64 (2 ^ n - 1) := by unfold V; exact BitVec.ofInt_natCast _ _
          rw [hV, BitVec.getLsbD_ofNat] at this
          simp only [Bool.and_eq_true, Nat.testBit_two_pow_sub_one, decide_eq_true_eq] at this
          exact absurd this.2 ha
      rw [hb]
      simp [rowF, ha]
  exact Bits.antisymm h2 hC (fun a h => by have := key a; unfold bit at this; rw [← this]; exact h) (fun a h => by have := key a; unfold bit at this; rw [this]; exact h)

theorem dependRefuted_true {n : Int} {l : List rf1Dep} {d : rf1Dep} (hl : lenOk l = true) (hd : ∀ d, d ∈ l → wf64 d.f_From ∧ wf64 d.f_To) (hF : wf64 d.f_From) (hT : wf64 d.f_To) {fuel : Nat} (hf : bigFuel ≤ fuel) :
    lw1_DependRefuted fuel n l d = some true := by
  obtain ⟨F, T⟩ := d
  simp only at hF hT
  obtain ⟨ds, hds⟩ : ∃ ds, (l.take 14).map toDep = ds := ⟨_, rfl⟩
  have hlen : lenOk ds = true := hds ▸ lenOk_take
  have hwf : ∀ d, d ∈ ds → wf64 d.f_From ∧ wf64 d.f_To := hds ▸ wf_take hd
  unfold lw1_DependRefuted dp_Refute
  rw [deps_eq hl, hds]
  simp only [Option.bind_some, lw1_dep]
  rw [Follows_val hlen (d := dpDep.mk F T) hF hf]
  cases hv : okArgs n ds && (isSet n F && isSet n T) with
  | false => simp [awake_eq hf, lw1_DependRefuted_j11]
  | true =>
    have hv' := hv
    simp only [Bool.and_eq_true] at hv'
    obtain ⟨ho, sF, sT⟩ := hv'
    obtain ⟨h1, h2, h3⟩ := ok_parts ho
    simp only [cond_true, Option.bind_some, bne_self_eq_false, cond_false]
    cases hfo : has T (cl ds F) with
    | true => simp [awake_eq hf, lw1_DependRefuted_j11]
    | false =>
      have cf := cl_spec hlen hF
      have sC := closure_isSet ho (fun d hd => (hwf d hd).2) hF sF cf
      simp only [cond_false, dp_closure, Option.bind_some]
      rw [row_val h1 h2 (by unfold wf64; omega) (by omega), cl_eq hlen hF hf]
      simp only [Option.bind_some]
      rw [row_val h1 h2 cf.wf (by omega)]
      simp only [Option.bind_some, bne_self_eq_false, cond_false, hlen, chk, cond_true]
      have htab : tableOk n [rowF n.toNat 0 0, rowF n.toNat (cl ds F) 1] = true := by
        simp only [tableOk, Bool.and_eq_true, decide_eq_true_eq]
        refine ⟨h1, h2, by simp, ?_⟩
        simp [rowF]; omega
      have hag : agr (rowF n.toNat (cl ds F) 1) (rowF n.toNat 0 0) = cl ds F := agr_two (by omega) cf.wf ((isSet_iff h1 h2 cf.wf).1 sC) 0
      have hpf : ∀ e : dpDep, pairsFine e [] [rowF n.toNat 0 0, rowF n.toNat (cl ds F) 1] = (!has e.f_From (cl ds F) || has e.f_To (cl ds F)) := by
        intro e
        simp [pairsFine, fine, hag]
      have hl2 : lenOk [rowF n.toNat 0 0, rowF n.toNat (cl ds F) 1] = true := by rfl
      have key : ∀ (r : List dpDep) (k : Nat) (K : Option Bool), (∀ e, e ∈ r → e ∈ ds) → lw1_DependRefuted_l1 n ([rowF n.toNat 0 0, rowF n.toNat (cl ds F) 1], 0) K r k = K := by
        intro r
        induction r with
        | nil => intro k K _; rfl
        | cons e r ih =>
          intro k K hm
          have he := hm e (by simp)
          rw [lw1_DependRefuted_l1.eq_2]
          simp only
          rw [Holds_val hl2, htab, (h3 e he).1, (h3 e he).2, hpf]
          have hh : (!has e.f_From (cl ds F) || has e.f_To (cl ds F)) = true := by
            cases hx : has e.f_From (cl ds F) with
            | false => rfl
            | true => rw [has_iff.2 (cf.closed e he (has_iff.1 hx))]; rfl
          rw [hh]
          simp only [Bool.and_self, cond_true, Option.bind_some, Bool.not_true, cond_false, bne_self_eq_false, lw1_DependRefuted_j22]
          exact ih (k + 1) K (fun e he => hm e (by simp [he]))
      rw [key ds 0 _ (fun e he => he)]
      unfold lw1_DependRefuted_j15
      simp only [lw1_dep, Option.bind_some]
      rw [Holds_val hl2, htab]
      simp only [sF, sT, hpf, hfo, has_iff.2 cf.sup, Bool.and_self, cond_true, Option.bind_some]
      simp [awake_eq hf, lw1_DependRefuted_j28]

end Go.AM
