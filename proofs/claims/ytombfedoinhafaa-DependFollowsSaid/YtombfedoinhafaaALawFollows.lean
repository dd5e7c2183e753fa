/-
  CHAPTER 1, PLAIN: DependFollows's function returns true. No statement of the seat is proved here.
-/
import Derived.Test.YtombfedoinhafaaALaw7
import Derived.Test.YtombfedoinhafaaALaw6
set_option linter.unusedVariables false
set_option linter.unusedSimpArgs false
namespace Go.AM

theorem dependFollows_true {n : Int} {l : List rf1Dep} {d : rf1Dep} (hl : lenOk l = true) (hd : ∀ d, d ∈ l → wf64 d.f_From ∧ wf64 d.f_To) (hF : wf64 d.f_From) (hT : wf64 d.f_To) {fuel : Nat} (hf : bigFuel ≤ fuel) :
    lw1_DependFollows fuel n l d = some true := by
  obtain ⟨ds, hds⟩ : ∃ ds, (l.take 14).map toDep = ds := ⟨_, rfl⟩
  have hlen : lenOk ds = true := hds ▸ lenOk_take
  have hwf : ∀ d, d ∈ ds → wf64 d.f_From ∧ wf64 d.f_To := hds ▸ wf_take hd
  unfold lw1_DependFollows dp_Refute
  rw [deps_eq hl, hds]
  simp only [Option.bind_some, lw1_dep]
  rw [Closure_val hlen hF hf, Follows_val hlen (d := dpDep.mk d.f_From d.f_To) hF hf, rValid_val hl, hds, awake_eq hf]
  cases ho : okArgs n ds with
  | false => simp [lw1_DependFollows_j21, lw1_DependFollows_j25]
  | true =>
    obtain ⟨h1, h2, _⟩ := ok_parts ho
    obtain ⟨he, _⟩ := ok_take (n := n) (l := l) (by rw [hds]; exact ho)
    have hrl : l.map toDep = ds := by rw [← he, hds]
    simp only [Option.bind_some, Bool.not_true, cond_false, Bool.true_and]
    rw [rSet_val (by omega)]
    cases sF : isSet n d.f_From with
    | false => simp [lw1_DependFollows_j21, lw1_DependFollows_j25]
    | true =>
      have cf := cl_spec hlen hF
      simp only [Option.bind_some, Bool.true_and, cond_true]
      unfold lw1_DependFollows_j21 lw1_DependFollows_j28 lw1_DependFollows_j38
      rw [rClosure_val hl hF, rPair_val (by omega), rFollows_val hl hF, hrl, sF]
      simp only [Option.bind_some, Bool.not_true, cond_false, cond_true, Bool.true_and, bne_self_eq_false]
      cases sT : isSet n d.f_To with
      | false => simp [lw1_DependFollows_j35]
      | true =>
        simp only [Option.bind_some, Bool.not_true, cond_false, cond_true, bne_self_eq_false, beq_self_eq_true]
        cases hfo : has d.f_To (cl ds d.f_From) with
        | true => simp [lw1_DependFollows_j44]
        | false =>
          simp only [cond_false, dp_closure, Option.bind_some]
          rw [row_val h1 h2 (by unfold wf64; omega) (by omega), cl_eq hlen hF hf]
          simp only [Option.bind_some]
          rw [row_val h1 h2 cf.wf (by omega), rRefute_val h1 h2 hl hF, hrl]
          simp only [Option.bind_some]
          rw [same_refl (lenOk_of (by simp)) (by
            intro x hx
            simp only [List.mem_cons, List.not_mem_nil, or_false] at hx
            rcases hx with rfl | rfl <;> exact lenOk_rowF (by omega))]
          simp [lw1_DependFollows_j46]

end Go.AM
