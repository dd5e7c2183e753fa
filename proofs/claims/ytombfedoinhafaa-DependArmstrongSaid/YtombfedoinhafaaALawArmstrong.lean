/-
  CHAPTER 1, PLAIN: DependArmstrong's function returns true. No statement of the seat is proved here.
-/
import Derived.Test.YtombfedoinhafaaALaw7
set_option linter.unusedVariables false
set_option linter.unusedSimpArgs false
namespace Go.AM

theorem dependArmstrong_true {n : Int} {l : List rf1Dep} (hl : lenOk l = true) {fuel : Nat} (hf : bigFuel ≤ fuel) :
    lw1_DependArmstrong fuel n l = some true := by
  obtain ⟨ds, hds⟩ : ∃ ds, (l.take 14).map toDep = ds := ⟨_, rfl⟩
  have hlen : lenOk ds = true := hds ▸ lenOk_take
  unfold lw1_DependArmstrong
  rw [deps_eq hl, hds]
  simp only [Option.bind_some]
  rw [Armstrong_val hlen hf, rValid_val hl, hds]
  cases ho : okArgs n ds with
  | false => simp [awake_eq hf, lw1_DependArmstrong_j10]
  | true =>
    obtain ⟨h1, h2, _⟩ := ok_parts ho
    obtain ⟨he, _⟩ := ok_take (n := n) (l := l) (by rw [hds]; exact ho)
    have hSl : (armSets n ds).length ≤ 256 := by
      have := armSets_length (ds := ds) (List.range (2 ^ n.toNat - 1)) 0 [full n]
      have hp := pow_le h1 h2
      simp at this
      unfold armSets
      omega
    simp only [cond_true, Option.bind_some, Bool.not_true, cond_false]
    rw [rArmstrong_val h1 h2 hl, ← he, hds]
    simp only [Option.bind_some]
    rw [same_refl (lenOk_of (by simp [tab]; omega)) (lenOk_tab (by omega))]
    simp [awake_eq hf, lw1_DependArmstrong_j13]

end Go.AM
