/-
  CHAPTER 1, PLAIN: DependChecks' function returns true. No statement of the seat is proved here.
-/
import Derived.Test.YtombfedoinhafaaALaw3
import Derived.Test.YtombfedoinhafaaG4
set_option linter.unusedVariables false
set_option linter.unusedSimpArgs false
namespace Go.AM

theorem rSet_val {n x : Int} (hn : 0 ≤ n) : rf1_Set n x = some (isSet n x) := by
  unfold rf1_Set rf1_Set_j4 isSet
  have h0 : decide (0 ≤ n) = true := by simpa using hn
  by_cases h : 0 ≤ x
  · have h1 : x ≥ 0 := h
    simp [h, h1, h0, chk]
  · have h1 : ¬ x ≥ 0 := h
    simp [h, h1]

theorem rPair_val {n : Int} {d : rf1Dep} (hn : 0 ≤ n) : rf1_Pair n d = some (isSet n d.f_From && isSet n d.f_To) := by
  unfold rf1_Pair rf1_Pair_j4
  rw [rSet_val hn]
  cases h : isSet n d.f_From with
  | true => simp [h, rSet_val hn]
  | false => simp [h]

theorem rValid_val {n : Int} {l : List rf1Dep} (hl : lenOk l = true) : rf1_Valid n l = some (okArgs n ((l.take 14).map toDep)) := by
  unfold rf1_Valid rf1_Valid_j5 okArgs
  by_cases h1 : n < 1
  · have : ¬ 1 ≤ n := by omega
    simp [h1, this]
  · by_cases h2 : n > 8
    · have : ¬ n ≤ 8 := by omega
      simp [h1, h2, this]
    · have h3 : 1 ≤ n := by omega
      have h4 : n ≤ 8 := by omega
      by_cases h5 : l.length ≤ 12
      · have h6 : ¬ (l.length : Int) > 12 := by omega
        have ht : l.take 14 = l := List.take_of_length_le (by omega)
        have h7 : (l.map toDep).length ≤ 12 := by simpa using h5
        rw [ht]
        simp only [h1, h2, h3, h4, h6, h7, decide_true, decide_false, cond_false, cond_true, Bool.true_and, hl, chk]
        have key : ∀ (r : List rf1Dep) (k : Nat), rf1_Valid_l1 n rf1_Valid_j8 r k = some ((r.map toDep).all fun d => isSet n d.f_From && isSet n d.f_To) := by
          intro r
          induction r with
          | nil => intro k; rfl
          | cons x r ih =>
            intro k
            rw [rf1_Valid_l1.eq_2, rPair_val (by omega)]
            simp only [Option.bind_some, List.map_cons, List.all_cons, toDep]
            cases hx : isSet n x.f_From && isSet n x.f_To with
            | true => simp only [Bool.not_true, cond_false, Bool.true_and]; exact ih _
            | false => simp
        exact key l 0
      · have h6 : (l.length : Int) > 12 := by omega
        have h7 : ¬ ((l.take 14).map toDep).length ≤ 12 := by simp; omega
        simp only [h1, h2, h3, h4, h6, h7, decide_true, decide_false, cond_false, cond_true, Bool.true_and, Bool.false_and]

theorem toDep_from (d : rf1Dep) : (toDep d).f_From = d.f_From := rfl
theorem toDep_to (d : rf1Dep) : (toDep d).f_To = d.f_To := rfl

def toStep (s : rf1Step) : dpStep := ⟨s.f_Rule, s.f_I, s.f_J, toDep s.f_Dep⟩

def gs (p : List rf1Step) (i : Int) : rf1Step := (p[i.toNat]?).getD ⟨0, 0, 0, ⟨0, 0⟩⟩
def gd (p : List rf1Dep) (i : Int) : rf1Dep := (p[i.toNat]?).getD ⟨0, 0⟩

theorem idx_gs {p : List rf1Step} {i : Int} (h0 : 0 ≤ i) (h1 : i < p.length) : idx p i = some (gs p i) := by
  unfold idx gs
  rw [if_pos h0]
  have : i.toNat < p.length := by omega
  simp [this]
theorem idx_gd {p : List rf1Dep} {i : Int} (h0 : 0 ≤ i) (h1 : i < p.length) : idx p i = some (gd p i) := by
  unfold idx gd
  rw [if_pos h0]
  have : i.toNat < p.length := by omega
  simp [this]
theorem idx_map {α β : Type} {f : α → β} {l : List α} {i : Int} {x : α} (h : idx l i = some x) : idx (l.map f) i = some (f x) := by
  unfold idx at h ⊢
  split at h
  · rename_i h0; rw [if_pos h0, List.getElem?_map, h]; rfl
  · cases h
theorem idx_take {α : Type} {l : List α} {i : Int} {k : Nat} (h1 : i < k) : idx (l.take k) i = idx l i := by
  unfold idx
  split
  · rw [List.getElem?_take]; simp; omega
  · rfl

/-- step s, the k-th of p, is right -/
def rightB (n : Int) (l : List rf1Dep) (p : List rf1Step) (k : Nat) (s : rf1Step) : Bool :=
  (isSet n s.f_Dep.f_From && isSet n s.f_Dep.f_To) &&
  (bif s.f_Rule == 0 then decide (0 ≤ s.f_I) && (decide (s.f_I < (l.length : Int)) && ((s.f_J == 0) && ((s.f_Dep.f_From == (gd l s.f_I).f_From) && (s.f_Dep.f_To == (gd l s.f_I).f_To))))
   else bif s.f_Rule == 1 then (s.f_I == 0) && ((s.f_J == 0) && has s.f_Dep.f_To s.f_Dep.f_From)
   else bif s.f_Rule == 2 then decide (0 ≤ s.f_I) && (decide (s.f_I < (k : Int)) && (isSet n s.f_J && ((s.f_Dep.f_From == iOr .i64 (gs p s.f_I).f_Dep.f_From s.f_J) && (s.f_Dep.f_To == iOr .i64 (gs p s.f_I).f_Dep.f_To s.f_J))))
   else bif s.f_Rule == 3 then decide (0 ≤ s.f_I) && (decide (s.f_I < (k : Int)) && (decide (0 ≤ s.f_J) && (decide (s.f_J < (k : Int)) && (((gs p s.f_I).f_Dep.f_To == (gs p s.f_J).f_Dep.f_From) && ((s.f_Dep.f_From == (gs p s.f_I).f_Dep.f_From) && (s.f_Dep.f_To == (gs p s.f_J).f_Dep.f_To))))))
   else false)

theorem right_val {n : Int} (hn : 0 ≤ n) {l : List rf1Dep} {p : List rf1Step} {k : Nat} (hk : k ≤ p.length) (s : rf1Step) :
    dp_Step_right (toStep s) n (l.map toDep) ((p.take k).map toStep) = some (rightB n l p k s) := by
  unfold dp_Step_right
  rw [sets_eq hn (by rfl)]
  have hlen : (((p.take k).map toStep).length : Int) = (k : Int) := by simp; omega
  have hll : ((l.map toDep).length : Int) = (l.length : Int) := by simp
  have hg : ∀ i : Int, 0 ≤ i → i < (k : Int) → idx ((p.take k).map toStep) i = some (toStep (gs p i)) := fun i h0 h1 => idx_map (by rw [idx_take h1]; exact idx_gs h0 (by omega))
  have hgl : ∀ i : Int, 0 ≤ i → i < (l.length : Int) → idx (l.map toDep) i = some (toDep (gd l i)) := fun i h0 h1 => idx_map (idx_gd h0 h1)
  have hin : ∀ i : Int, dp_Step_right_1 i ((p.take k).map toStep) = some (decide (0 ≤ i) && decide (i < (k : Int))) := by
    intro i
    unfold dp_Step_right_1 dp_Step_right_1_j4
    rw [hlen]
    by_cases h : 0 ≤ i
    · have h1 : i ≥ 0 := h
      simp [h, h1]
    · have h1 : ¬ i ≥ 0 := h
      simp [h, h1]
  have q1 : (toStep s).f_Rule = s.f_Rule := rfl
  have q2 : (toStep s).f_I = s.f_I := rfl
  have q3 : (toStep s).f_J = s.f_J := rfl
  have q4 : (toStep s).f_Dep = toDep s.f_Dep := rfl
  have q5 : ∀ s, (toStep s).f_Dep = toDep s.f_Dep := fun _ => rfl
  simp only [Option.bind_some, hll, hin, q1, q2, q3, q4, toDep_from, toDep_to, dp_Step_right_j14, dp_Step_right_j18, dp_Step_right_j21, dp_Step_right_j28, List.all_cons, List.all_nil, Bool.and_true, sets_eq hn (show lenOk [s.f_J] = true from rfl)]
  unfold rightB
  cases hset : isSet n s.f_Dep.f_From && isSet n s.f_Dep.f_To with
  | false => simp
  | true =>
    simp only [Bool.not_true, cond_false, Bool.true_and]
    cases r0 : (s.f_Rule == 0) with
    | true =>
      simp only [cond_true]
      by_cases h1 : 0 ≤ s.f_I
      · by_cases h2 : s.f_I < (l.length : Int)
        · simp only [ge_iff_le, h1, h2, decide_true, cond_true, Bool.true_and, hgl _ h1 h2, Option.bind_some, toDep_from, toDep_to]
          cases hJ : (s.f_J == 0) <;> simp
        · simp [ge_iff_le, h1, h2]
      · simp [ge_iff_le, h1]
    | false =>
      simp only [cond_false]
      cases r1 : (s.f_Rule == 1) with
      | true =>
        simp only [cond_true]
        cases hI : (s.f_I == 0) <;> cases hJ : (s.f_J == 0) <;> simp [has]
      | false =>
        simp only [cond_false]
        cases r2 : (s.f_Rule == 2) with
        | true =>
          simp only [cond_true]
          by_cases h1 : 0 ≤ s.f_I
          · by_cases h2 : s.f_I < (k : Int)
            · simp only [h1, h2, decide_true, cond_true, Bool.true_and, hg _ h1 h2, Option.bind_some, q5, toDep_from, toDep_to]
              cases hJ : isSet n s.f_J <;> simp
            · simp [h1, h2]
          · simp [h1]
        | false =>
          simp only [cond_false]
          cases r3 : (s.f_Rule == 3) with
          | true =>
            simp only [cond_true]
            by_cases h1 : 0 ≤ s.f_I
            · by_cases h2 : s.f_I < (k : Int)
              · by_cases h3 : 0 ≤ s.f_J
                · by_cases h4 : s.f_J < (k : Int)
                  · simp only [h1, h2, h3, h4, decide_true, cond_true, Bool.true_and, hg _ h1 h2, hg _ h3 h4, Option.bind_some, q5, toDep_from, toDep_to]
                    cases he : ((gs p s.f_I).f_Dep.f_To == (gs p s.f_J).f_Dep.f_From) <;> simp
                  · simp [h1, h2, h3, h4]
                · simp [h1, h2, h3]
              · simp [h1, h2]
            · simp [h1]
          | false => simp

theorem proof_l1 {n : Int} (hn : 0 ≤ n) {l : List rf1Dep} {p : List rf1Step} (K : Option Bool) : ∀ (r : List rf1Step) (k : Nat), k + r.length = p.length →
    rf1_Proof_l1 n l p K r k = bif r.zipIdx k |>.all fun q => rightB n l p q.2 q.1 then K else some false
  | [], k, _ => by rw [rf1_Proof_l1.eq_1]; simp
  | s :: r, k, hk => by
    simp only [List.length_cons] at hk
    have ih := proof_l1 hn (l := l) (p := p) K r (k + 1) (by omega)
    rw [rf1_Proof_l1.eq_2, rPair_val hn]
    simp only [Option.bind_some, rf1_Proof_j14, ih, List.zipIdx_cons, List.all_cons, rSet_val hn]
    have hg : ∀ i : Int, 0 ≤ i → i < (k : Int) → idx p i = some (gs p i) := fun i h0 h1 => idx_gs h0 (by omega)
    generalize ((r.zipIdx (k + 1)).all fun q => rightB n l p q.2 q.1) = T
    unfold rightB
    cases hset : isSet n s.f_Dep.f_From && isSet n s.f_Dep.f_To with
    | false => simp
    | true =>
      simp only [Bool.not_true, cond_false, Bool.true_and]
      cases r0 : (s.f_Rule == 0) with
      | true =>
        simp only [cond_true]
        by_cases h1 : 0 ≤ s.f_I
        · by_cases h2 : s.f_I < (l.length : Int)
          · simp only [ge_iff_le, h1, h2, decide_true, cond_true, Bool.true_and, idx_gd h1 h2, Option.bind_some, Bool.and_true]
            cases hJ : (s.f_J == 0) <;> simp
            cases (s.f_Dep.f_From == (gd l s.f_I).f_From) <;> cases (s.f_Dep.f_To == (gd l s.f_I).f_To) <;> simp
          · simp [ge_iff_le, h1, h2]
        · simp [ge_iff_le, h1]
      | false =>
        simp only [cond_false]
        cases r1 : (s.f_Rule == 1) with
        | true =>
          simp only [cond_true]
          cases hI : (s.f_I == 0) <;> cases hJ : (s.f_J == 0) <;> simp [has]
          cases (iAndNot .i64 s.f_Dep.f_To s.f_Dep.f_From == 0) <;> simp
        | false =>
          simp only [cond_false]
          cases r2 : (s.f_Rule == 2) with
          | true =>
            simp only [cond_true]
            by_cases h1 : 0 ≤ s.f_I
            · by_cases h2 : s.f_I < (k : Int)
              · simp only [ge_iff_le, h1, h2, decide_true, cond_true, Bool.true_and, hg _ h1 h2, Option.bind_some, Bool.and_true]
                cases hJ : isSet n s.f_J <;> simp
                cases (s.f_Dep.f_From == iOr .i64 (gs p s.f_I).f_Dep.f_From s.f_J) <;> cases (s.f_Dep.f_To == iOr .i64 (gs p s.f_I).f_Dep.f_To s.f_J) <;> simp
              · simp [ge_iff_le, h1, h2]
            · simp [ge_iff_le, h1]
          | false =>
            simp only [cond_false]
            cases r3 : (s.f_Rule == 3) with
            | true =>
              simp only [cond_true]
              by_cases h1 : 0 ≤ s.f_I
              · by_cases h2 : s.f_I < (k : Int)
                · by_cases h3 : 0 ≤ s.f_J
                  · by_cases h4 : s.f_J < (k : Int)
                    · simp only [ge_iff_le, h1, h2, h3, h4, decide_true, cond_true, Bool.true_and, hg _ h1 h2, hg _ h3 h4, Option.bind_some, Bool.and_true]
                      cases he : ((gs p s.f_I).f_Dep.f_To == (gs p s.f_J).f_Dep.f_From) <;> simp
                      cases (s.f_Dep.f_From == (gs p s.f_I).f_Dep.f_From) <;> cases (s.f_Dep.f_To == (gs p s.f_J).f_Dep.f_To) <;> simp
                    · simp [ge_iff_le, h1, h2, h3, h4]
                  · simp [ge_iff_le, h1, h2, h3]
                · simp [ge_iff_le, h1, h2]
              · simp [ge_iff_le, h1]
            | false => simp

theorem steps_eq {p : List rf1Step} (hp : lenOk p = true) : lw1_steps p = some ((p.take 102).map toStep) := by
  unfold lw1_steps
  rw [hp]
  simp only [chk, cond_true]
  have : ∀ (r : List rf1Step) (k : Nat) (acc : List dpStep), acc.length = k → k ≤ 102 → lw1_steps_l1 lw1_steps_j4 r k acc = some (acc ++ (r.take (102 - k)).map toStep) := by
    intro r
    induction r with
    | nil => intro k acc _ _; rw [lw1_steps_l1.eq_1]; simp [lw1_steps_j4]
    | cons x r ih =>
      intro k acc ha hk
      rw [lw1_steps_l1.eq_2]
      by_cases h : (k : Int) > 101
      · have : k = 102 := by omega
        subst this
        simp [lw1_steps_j4]
      · have hk2 : k + 1 ≤ 102 := by omega
        have hcap : ∀ z, capOk 40 (acc ++ [z]).length = true := by
          intro z
          rw [List.length_append, ha]
          simp only [capOk, Bool.and_eq_true]
          exact ⟨Nat.ble_eq_true_of_le (by simp; omega), Nat.ble_eq_true_of_le (by simp; omega)⟩
        simp only [h, decide_false, cond_false, lw1_dep, Option.bind_some, hcap, chk, cond_true]
        rw [ih (k + 1) _ (by simp [ha]) hk2]
        have : 102 - k = (102 - (k + 1)) + 1 := by omega
        rw [this, List.take_succ_cons]
        simp [toStep, toDep]
  simpa using this p 0 [] rfl (by omega)

theorem sub_pre {α : Type} {l : List α} {k : Nat} (h : k ≤ l.length) : sub l 0 (k : Int) = some (l.take k) := by
  unfold sub
  rw [if_pos ⟨Int.le_refl 0, Int.natCast_nonneg k, by exact_mod_cast h⟩]
  simp

theorem check_l1 {n : Int} (hn : 0 ≤ n) {l : List rf1Dep} {p : List rf1Step} : ∀ (r : List rf1Step) (k : Nat), k + r.length = p.length →
    dp_Check_l1 n (l.map toDep) (p.map toStep) dp_Check_j13 (r.map toStep) k = some (((r.zipIdx k).all fun q => rightB n l p q.2 q.1), 0)
  | [], k, _ => rfl
  | s :: r, k, hk => by
    simp only [List.length_cons] at hk
    rw [List.map_cons, dp_Check_l1.eq_2, sub_pre (by simp; omega), ← List.map_take]
    simp only [Option.bind_some]
    rw [right_val hn (by omega)]
    simp only [Option.bind_some, List.zipIdx_cons, List.all_cons]
    cases h : rightB n l p k s with
    | false => simp
    | true => simp only [Bool.not_true, cond_false, Bool.true_and]; exact check_l1 hn r (k + 1) (by omega)

theorem dependChecks_true {n : Int} {l : List rf1Dep} {p : List rf1Step} (hl : lenOk l = true) (hp : lenOk p = true) {fuel : Nat} (hf : bigFuel ≤ fuel) :
    lw1_DependChecks fuel n l p = some true := by
  unfold lw1_DependChecks
  rw [deps_eq hl, steps_eq hp]
  simp only [Option.bind_some]
  rw [rValid_val hl]
  unfold dp_Check
  rw [valid_eq lenOk_take]
  cases ho : okArgs n ((l.take 14).map toDep) with
  | false => simp [awake_eq hf, lw1_DependChecks_j12]
  | true =>
    obtain ⟨h1, h2, _⟩ := ok_parts ho
    have hn : 0 ≤ n := by omega
    have hl12 : l.length ≤ 12 := by
      simp only [okArgs, Bool.and_eq_true, decide_eq_true_eq] at ho
      have := ho.1.2
      simp at this
      omega
    have ht : l.take 14 = l := List.take_of_length_le (by omega)
    rw [ht]
    simp only [Option.bind_some, Bool.not_true, cond_false]
    have hproof : rf1_Proof n l p = some (((p.zipIdx 0).all fun q => rightB n l p q.2 q.1) && (decide (1 ≤ p.length) && decide (p.length ≤ 100))) := by
      unfold rf1_Proof
      rw [hp]
      simp only [chk, cond_true]
      rw [proof_l1 hn _ p 0 (by simp)]
      cases (p.zipIdx 0).all fun q => rightB n l p q.2 q.1 with
      | false => rfl
      | true =>
        simp only [cond_true, Bool.true_and, rf1_Proof_j5, rf1_Proof_j31]
        have e1 : decide ((p.length : Int) ≥ 1) = decide (1 ≤ p.length) := by congr 1; simp; omega
        have e2 : decide ((p.length : Int) ≤ 100) = decide (p.length ≤ 100) := by congr 1; simp; omega
        rw [e1, e2]
        cases decide (1 ≤ p.length) <;> rfl
    rw [hproof]
    by_cases c1 : p.length < 1
    · have d1 : ((((p.take 102).map toStep).length : Int) < 1) := by simp; omega
      have d2 : ¬ 1 ≤ p.length := by omega
      simp only [d1, d2, decide_true, decide_false, cond_true, dp_Check_j10, Option.bind_some, Bool.false_and, Bool.and_false, beq_self_eq_true, awake_eq hf, lw1_DependChecks_j15]
    · by_cases c2 : p.length > 100
      · have d1 : ¬ ((((p.take 102).map toStep).length : Int) < 1) := by simp; omega
        have d3 : ((((p.take 102).map toStep).length : Int) > 100) := by simp; omega
        have d2 : ¬ p.length ≤ 100 := by omega
        simp only [d1, d3, d2, decide_true, decide_false, cond_false, dp_Check_j10, cond_true, Option.bind_some, Bool.and_false, beq_self_eq_true, awake_eq hf, lw1_DependChecks_j15]
      · have ht2 : p.take 102 = p := List.take_of_length_le (by omega)
        rw [ht2]
        have d1 : ¬ (((p.map toStep).length : Int) < 1) := by simp; omega
        have d3 : ¬ (((p.map toStep).length : Int) > 100) := by simp; omega
        have d2 : p.length ≤ 100 := by omega
        have d4 : 1 ≤ p.length := by omega
        have hpl : lenOk (p.map toStep) = true := lenOk_of (by simp; omega)
        simp only [d1, d3, d2, d4, decide_true, decide_false, cond_false, dp_Check_j10, hpl, chk, cond_true, Bool.and_true]
        rw [check_l1 hn p 0 (by simp)]
        simp [awake_eq hf, lw1_DependChecks_j15]

end Go.AM
