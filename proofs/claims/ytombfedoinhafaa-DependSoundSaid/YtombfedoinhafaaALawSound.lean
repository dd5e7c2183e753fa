/-
  CHAPTER 1, PLAIN: DependSound's function returns true. No statement of the seat is proved here.
-/
import Derived.Test.YtombfedoinhafaaALaw8
import Derived.Test.YtombfedoinhafaaALawProves
set_option linter.unusedVariables false
set_option linter.unusedSimpArgs false
namespace Go.AM

theorem Check_val {n : Int} {l : List rf1Dep} {p : List rf1Step} (ho : okArgs n (l.map toDep) = true) (hlo : lenOk (l.map toDep) = true) :
    dp_Check n (l.map toDep) ((p.take 102).map toStep) = some (okSteps n l p && (decide (1 ≤ p.length) && decide (p.length ≤ 100)), 0) := by
  obtain ⟨h1, h2, _⟩ := ok_parts ho
  have hn : 0 ≤ n := by omega
  unfold dp_Check
  rw [valid_eq hlo, ho]
  simp only [Option.bind_some, Bool.not_true, cond_false]
  by_cases c1 : p.length < 1
  · have d1 : ((((p.take 102).map toStep).length : Int) < 1) := by simp; omega
    have d2 : ¬ 1 ≤ p.length := by omega
    simp only [d1, d2, decide_true, decide_false, cond_true, dp_Check_j10, Option.bind_some, Bool.false_and, Bool.and_false]
  · by_cases c2 : p.length > 100
    · have d1 : ¬ ((((p.take 102).map toStep).length : Int) < 1) := by simp; omega
      have d3 : ((((p.take 102).map toStep).length : Int) > 100) := by simp; omega
      have d2 : ¬ p.length ≤ 100 := by omega
      simp only [d1, d3, d2, decide_true, decide_false, cond_false, dp_Check_j10, cond_true, Option.bind_some, Bool.and_false]
    · have ht2 : p.take 102 = p := List.take_of_length_le (by omega)
      rw [ht2]
      have d1 : ¬ (((p.map toStep).length : Int) < 1) := by simp; omega
      have d3 : ¬ (((p.map toStep).length : Int) > 100) := by simp; omega
      have d2 : p.length ≤ 100 := by omega
      have d4 : 1 ≤ p.length := by omega
      have hpl : lenOk (p.map toStep) = true := lenOk_of (by simp; omega)
      simp only [d1, d3, d2, d4, decide_true, decide_false, cond_false, dp_Check_j10, hpl, chk, cond_true, Bool.and_true]
      rw [check_l1 hn p 0 (by simp)]
      rfl

theorem Check_own {n : Int} {l : List rf1Dep} {p : List rf1Step} (ho : okArgs n (l.map toDep) = true) (hlo : lenOk (l.map toDep) = true) (h1 : 1 ≤ p.length) (h2 : p.length ≤ 100) :
    dp_Check n (l.map toDep) (p.map toStep) = some (okSteps n l p, 0) := by
  have := Check_val (p := p) ho hlo
  rw [List.take_of_length_le (by omega)] at this
  rw [this]
  simp [h1, h2]

/-- a law's list that is valid is the program's list -/
theorem ok_takeS {n : Int} {l : List rf1Dep} (ho : okArgs n ((l.take 14).map toDep) = true) : (l.take 14).map toDep = l.map toDep ∧ lenOk l = true := by
  unfold okArgs at ho
  simp only [Bool.and_eq_true, decide_eq_true_eq] at ho
  obtain ⟨⟨_, h⟩, _⟩ := ho
  simp only [List.length_map, List.length_take] at h
  rw [List.take_of_length_le (by omega)]
  exact ⟨rfl, lenOk_of (by omega)⟩

theorem set_wf {n x : Int} (h1 : 1 ≤ n) (h2 : n ≤ 8) (h : isSet n x = true) : wf64 x := by
  have := (isSet_range h1 h2).1 h
  have hp := pow_le h1 h2
  unfold wf64
  omega

theorem at_gs {P : List rf1Step} {i : Int} (h0 : 0 ≤ i) (h1 : i < P.length) : P[i.toNat]? = some (gs P i) := by
  have := idx_gs h0 h1
  unfold idx at this
  rwa [if_pos h0] at this

/-- every step of a right proof follows -/
theorem steps_sound {n : Int} (h1 : 1 ≤ n) (h2 : n ≤ 8) {l : List rf1Dep} (hl : lenOk (l.map toDep) = true) {P : List rf1Step} (hok : okSteps n l P = true) : ∀ (k : Nat) (s : rf1Step), P[k]? = some s →
    isSet n s.f_Dep.f_From = true ∧ isSet n s.f_Dep.f_To = true ∧ Bits s.f_Dep.f_To (cl (l.map toDep) s.f_Dep.f_From) := by
  intro k
  induction k using Nat.strongRecOn with
  | ind k ih =>
    intro s hs
    have hk : k < P.length := by
      rcases Nat.lt_or_ge k P.length with h | h
      · exact h
      · rw [List.getElem?_eq_none h] at hs; cases hs
    have hr : rightB n l P k s = true := by
      unfold okSteps at hok
      exact List.all_eq_true.1 hok (s, k) (List.mem_zipIdx_iff_getElem?.2 hs)
    unfold rightB at hr
    simp only [Bool.and_eq_true] at hr
    obtain ⟨⟨sF, sT⟩, hr⟩ := hr
    have hw := set_wf h1 h2 sF
    have cf := cl_spec hl hw
    refine ⟨sF, sT, ?_⟩
    by_cases r0 : s.f_Rule = 0
    · have e : (s.f_Rule == 0) = true := beq_iff_eq.2 r0
      simp only [e, cond_true, Bool.and_eq_true, decide_eq_true_eq, beq_iff_eq] at hr
      obtain ⟨i0, i1, _, a, b⟩ := hr
      have hm : gd l s.f_I ∈ l := by
        unfold gd
        have : s.f_I.toNat < l.length := by omega
        simp [this]
      have := cf.closed (toDep (gd l s.f_I)) (List.mem_map_of_mem hm) (by rw [toDep_from, ← a]; exact cf.sup)
      rw [toDep_to, ← b] at this
      exact this
    · have e : (s.f_Rule == 0) = false := by simpa using r0
      simp only [e, cond_false] at hr
      by_cases r1 : s.f_Rule = 1
      · have e : (s.f_Rule == 1) = true := beq_iff_eq.2 r1
        simp only [e, cond_true, Bool.and_eq_true] at hr
        exact (has_iff.1 hr.2.2).trans cf.sup
      · have e : (s.f_Rule == 1) = false := by simpa using r1
        simp only [e, cond_false] at hr
        by_cases r2 : s.f_Rule = 2
        · have e : (s.f_Rule == 2) = true := beq_iff_eq.2 r2
          simp only [e, cond_true, Bool.and_eq_true, decide_eq_true_eq, beq_iff_eq] at hr
          obtain ⟨i0, i1, sJ, a, b⟩ := hr
          obtain ⟨p1, p2, p3⟩ := ih s.f_I.toNat (by omega) _ (at_gs i0 (by omega))
          have ca := cl_spec hl (set_wf h1 h2 p1)
          rw [b, bits_or_iff]
          refine ⟨p3.trans (ca.least _ cf.closed ((sub_or_left _ s.f_J).trans ?_)), (sub_or_right (gs P s.f_I).f_Dep.f_From _).trans ?_⟩
          · rw [← a]; exact cf.sup
          · rw [← a]; exact cf.sup
        · have e : (s.f_Rule == 2) = false := by simpa using r2
          simp only [e, cond_false] at hr
          by_cases r3 : s.f_Rule = 3
          · have e : (s.f_Rule == 3) = true := beq_iff_eq.2 r3
            simp only [e, cond_true, Bool.and_eq_true, decide_eq_true_eq, beq_iff_eq] at hr
            obtain ⟨i0, i1, j0, j1, a, b, c⟩ := hr
            obtain ⟨p1, p2, p3⟩ := ih s.f_I.toNat (by omega) _ (at_gs i0 (by omega))
            obtain ⟨q1, q2, q3⟩ := ih s.f_J.toNat (by omega) _ (at_gs j0 (by omega))
            have cb := cl_spec hl (set_wf h1 h2 q1)
            rw [c]
            refine q3.trans (cb.least _ cf.closed ?_)
            rw [← a, b]
            exact p3
          · have e : (s.f_Rule == 3) = false := by simpa using r3
            simp [e] at hr

theorem Prove_val {n F T : Int} {l : List rf1Dep} (hl12 : l.length ≤ 12) (hd : ∀ d, d ∈ l → wf64 d.f_From ∧ wf64 d.f_To) (ho : okArgs n (l.map toDep) = true) (hF : wf64 F) (hT : wf64 T)
    (sF : isSet n F = true) (sT : isSet n T = true) (hfo : has T (cl (l.map toDep) F) = true) {fuel : Nat} (hf : bigFuel ≤ fuel) :
    ∃ R : List rf1Step, dp_Prove fuel n (l.map toDep) ⟨F, T⟩ = some (R.map toStep, 0) ∧ okSteps n l R = true ∧ 1 ≤ R.length ∧ R.length ≤ 100 ∧
      ∃ z : dpStep, idx (R.map toStep) (IntKind.wrap .i64 (((R.map toStep).length : Int) - 1)) = some z ∧ z.f_Dep = ⟨F, T⟩ := by
  obtain ⟨h1, h2, h3⟩ := ok_parts ho
  have hn : 0 ≤ n := by omega
  have hlen : lenOk (l.map toDep) = true := lenOk_of (by simp; omega)
  unfold dp_Prove
  rw [Follows_val hlen (d := dpDep.mk F T) hF hf]
  simp only [ho, sF, sT, hfo, Bool.and_self, cond_true, Option.bind_some, bne_self_eq_false, cond_false, Bool.not_true]
  have hset : ∀ d, d ∈ l → isSet n d.f_From = true ∧ isSet n d.f_To = true ∧ wf64 d.f_To := fun d hm => ⟨(h3 (toDep d) (List.mem_map_of_mem hm)).1, (h3 (toDep d) (List.mem_map_of_mem hm)).2, (hd d hm).2⟩
  have h0 : Pf n l F F [⟨1, 0, 0, ⟨F, F⟩⟩] := by
    refine ⟨by simp, ?_, rfl, by simp, hF, sF, Bits.refl F, fun c _ h => h⟩
    have e : okSteps n l [⟨1, 0, 0, ⟨F, F⟩⟩] = rightB n l [⟨1, 0, 0, ⟨F, F⟩⟩] 0 ⟨1, 0, 0, ⟨F, F⟩⟩ := by simp [okSteps]
    rw [e]
    unfold rightB
    simp only [sF, has_iff.2 (Bits.refl F), beq_self_eq_true, cond_true, cond_false, Bool.and_self, show ((1 : Int) == 0) = false from rfl]
  obtain ⟨P, v, e1, hP, hsh⟩ := prove_l1 (T := T) h1 h2 hl12 hset sF (dp_Prove_j15 ⟨F, T⟩) fuel _ F h0 (by unfold bigFuel at hf; omega)
  have e1' : dp_Prove_l1 (l.map toDep) ⟨F, T⟩ (dp_Prove_j15 ⟨F, T⟩) fuel [(dpStep.mk 1 0 0 (dpDep.mk F F))] F true = dp_Prove_j15 ⟨F, T⟩ (P.map toStep) v := e1
  rw [e1']
  have hlo : lenOk (l.map toDep) = true := lenOk_of (by simp; omega)
  have hTv : Bits T v := (has_iff.1 hfo).trans ((cl_spec hlo hF).least v hsh hP.sup)
  unfold dp_Prove_j15
  have hshort := hP.short
  have hcl := cnt_le l v
  have hlenP : 0 < P.length := List.length_pos_iff.2 hP.ne
  have w1 : IntKind.wrap .i64 (((P.map toStep).length : Int) - 1) = (P.length : Int) - 1 := by
    rw [List.length_map, wrap_id (by omega) (by omega)]
  have w2 : IntKind.wrap .i64 ((P.length : Int) - 1 + 1) = (P.length : Int) := by rw [wrap_id (by omega) (by omega)]; omega
  simp only [w1, w2]
  obtain ⟨Q, hQ⟩ : ∃ Q : List rf1Step, Q = [⟨1, 0, 0, ⟨v, T⟩⟩, ⟨3, (P.length : Int) - 1, (P.length : Int), ⟨F, T⟩⟩] := ⟨_, rfl⟩
  have e : P.map toStep ++ [(dpStep.mk 1 0 0 (dpDep.mk v T)), (dpStep.mk 3 ((P.length : Int) - 1) (P.length : Int) ⟨F, T⟩)] = (P ++ Q).map toStep := by
    rw [List.map_append, hQ]; rfl
  rw [e]
  have hQl : (P ++ Q).length = P.length + 2 := by rw [hQ]; simp
  have hcap : capOk 40 ((P ++ Q).map toStep).length = true := by
    rw [List.length_map]
    simp only [capOk, Bool.and_eq_true]
    exact ⟨Nat.ble_eq_true_of_le (by omega), Nat.ble_eq_true_of_le (by omega)⟩
  have g0 : gs (P ++ Q) (P.length : Int) = ⟨1, 0, 0, ⟨v, T⟩⟩ := by
    have := gs_at (P := P) (Q := Q) (j := 0) (s := ⟨1, 0, 0, ⟨v, T⟩⟩) (by rw [hQ]; rfl)
    simpa using this
  have gl : (gs (P ++ Q) ((P.length : Int) - 1)).f_Dep = ⟨F, v⟩ := by rw [gs_left (by omega) (by omega)]; exact hP.last
  have hok : okSteps n l (P ++ Q) = true := by
    rw [okSteps_append, hP.ok, Bool.true_and]
    have ez : Q.zipIdx P.length = [(⟨1, 0, 0, ⟨v, T⟩⟩, P.length), (⟨3, (P.length : Int) - 1, (P.length : Int), ⟨F, T⟩⟩, P.length + 1)] := by rw [hQ]; rfl
    rw [ez]
    simp only [List.all_cons, List.all_nil, Bool.and_true, Bool.and_eq_true]
    refine ⟨?_, ?_⟩
    · unfold rightB
      simp only [hP.isSet, sT, has_iff.2 hTv, beq_self_eq_true, cond_true, cond_false, Bool.and_self, show ((1 : Int) == 0) = false from rfl]
    · unfold rightB
      have a1 : decide ((0 : Int) ≤ (P.length : Int) - 1) = true := decide_eq_true (by omega)
      have a2 : decide ((P.length : Int) - 1 < ((P.length + 1 : Nat) : Int)) = true := decide_eq_true (by omega)
      have a3 : decide ((0 : Int) ≤ (P.length : Int)) = true := decide_eq_true (by omega)
      have a4 : decide ((P.length : Int) < ((P.length + 1 : Nat) : Int)) = true := decide_eq_true (by omega)
      simp only [g0, gl, sF, sT, a1, a2, a3, a4, beq_self_eq_true, cond_true, cond_false, Bool.and_self, show ((3 : Int) == 0) = false from rfl, show ((3 : Int) == 1) = false from rfl, show ((3 : Int) == 2) = false from rfl]
  have hidx : idx ((P ++ Q).map toStep) (IntKind.wrap .i64 ((((P ++ Q).map toStep).length : Int) - 1)) = some (toStep ⟨3, (P.length : Int) - 1, (P.length : Int), ⟨F, T⟩⟩) := by
    have w3 : IntKind.wrap .i64 ((((P ++ Q).map toStep).length : Int) - 1) = (P.length : Int) + ((1 : Nat) : Int) := by
      rw [List.length_map, hQl, wrap_id (by omega) (by omega)]; omega
    rw [w3]
    apply idx_map
    rw [idx_gs (by omega) (by rw [hQl]; omega), gs_at (P := P) (Q := Q) (j := 1) (s := ⟨3, (P.length : Int) - 1, (P.length : Int), ⟨F, T⟩⟩) (by rw [hQ]; rfl)]
  simp only [hcap, chk, cond_true]
  exact ⟨P ++ Q, rfl, hok, by omega, by omega, _, hidx, by simp [toStep, toDep]⟩


theorem sound_l1 {n : Int} {l : List rf1Dep} {rows : List (List Int)} (hr : lenOk rows = true) (K : Bool → Option Bool) : ∀ (r : List dpDep) (k : Nat) (v : Bool),
    ∃ w, lw1_DependSound_l1 n rows K r k v = K w ∧ (w = true → ∀ e, e ∈ r → (tableOk n (fewRows rows) && (isSet n e.f_From && isSet n e.f_To)) = true ∧ pairsFine e [] (fewRows rows) = true)
  | [], k, v => ⟨v, rfl, fun _ e he => absurd he List.not_mem_nil⟩
  | e :: r, k, v => by
    rw [lw1_DependSound_l1.eq_2, few_val hr]
    simp only [Option.bind_some]
    rw [Holds_val fewRows_lenOk]
    simp only [Option.bind_some, lw1_DependSound_j54]
    have dead : ∀ (r : List dpDep) (k : Nat), lw1_DependSound_l1 n rows K r k false = K false := by
      intro r
      induction r with
      | nil => intro k; rfl
      | cons e r ih =>
        intro k
        rw [lw1_DependSound_l1.eq_2, few_val hr]
        simp only [Option.bind_some]
        rw [Holds_val fewRows_lenOk]
        simp only [Option.bind_some, cond_false, lw1_DependSound_j54]
        exact ih (k + 1)
    cases v with
    | false => exact ⟨false, by simp only [cond_false]; exact dead r (k + 1), fun h => Bool.noConfusion h⟩
    | true =>
      cases ht : (tableOk n (fewRows rows) && (isSet n e.f_From && isSet n e.f_To)) with
      | false => exact ⟨false, by simp only [cond_false, cond_true]; exact dead r (k + 1), fun h => Bool.noConfusion h⟩
      | true =>
        simp only [cond_true]
        cases hp : pairsFine e [] (fewRows rows) with
        | false => exact ⟨false, by simp only [cond_false]; exact dead r (k + 1), fun h => Bool.noConfusion h⟩
        | true =>
          simp only [cond_true, beq_self_eq_true]
          obtain ⟨w, e1, h⟩ := sound_l1 (n := n) (l := l) hr K r (k + 1) true
          refine ⟨w, e1, fun hw e' he' => ?_⟩
          rcases List.mem_cons.1 he' with rfl | he'
          · exact ⟨ht, hp⟩
          · exact h hw e' he'

theorem sound_j40 {n : Int} {l : List rf1Dep} {rows : List (List Int)} (hl : lenOk l = true) (hr : lenOk rows = true) {ds : List dpDep} (hds : (l.take 14).map toDep = ds) {s : dpStep} {w : Bool × Int}
    (hF : wf64 s.f_Dep.f_From) (hT : w.1 = true → Bits s.f_Dep.f_To (cl ds s.f_Dep.f_From)) (hs : isSet n s.f_Dep.f_From = true ∧ isSet n s.f_Dep.f_To = true) {fuel : Nat} (hf : bigFuel ≤ fuel) : lw1_DependSound_j40 fuel n l rows s w = some true := by
  have hlen : lenOk ds = true := hds ▸ lenOk_take
  unfold lw1_DependSound_j40
  rw [deps_eq hl, hds]
  simp only [Option.bind_some, hlen, chk, cond_true]
  obtain ⟨v, e, hv⟩ := sound_l1 (n := n) (l := l) hr (lw1_DependSound_j50 fuel n rows s w) ds 0 true
  rw [e]
  unfold lw1_DependSound_j50
  rw [few_val hr]
  simp only [Option.bind_some]
  rw [Holds_val fewRows_lenOk, hs.1, hs.2]
  simp only [Option.bind_some, awake_eq hf, lw1_DependSound_j64]
  cases v with
  | false => rfl
  | true =>
    cases hw : w.1 with
    | false => rfl
    | true =>
      cases ht : tableOk n (fewRows rows) with
      | false => rfl
      | true =>
        have := pairs_cl hlen hF (hT hw) (fewRows rows) [] (fun d hd => (hv rfl d hd).2)
        have hq : pairsFine s.f_Dep [] (fewRows rows) = true := this
        rw [hq]
        rfl

theorem dependSound_true {n : Int} {l : List rf1Dep} {p : List rf1Step} {rows : List (List Int)} (hl : lenOk l = true) (hd : ∀ d, d ∈ l → wf64 d.f_From ∧ wf64 d.f_To) (hp : lenOk p = true)
    (hps : ∀ s, s ∈ p → wf64 s.f_Dep.f_From ∧ wf64 s.f_Dep.f_To) (hr : lenOk rows = true) {fuel : Nat} (hf : bigFuel ≤ fuel) :
    lw1_DependSound fuel n l p rows = some true := by
  obtain ⟨ds, hds⟩ : ∃ ds, (l.take 14).map toDep = ds := ⟨_, rfl⟩
  have hlen : lenOk ds = true := hds ▸ lenOk_take
  have hwf : ∀ d, d ∈ ds → wf64 d.f_From ∧ wf64 d.f_To := hds ▸ wf_take hd
  unfold lw1_DependSound
  rw [deps_eq hl, hds, steps_eq hp]
  simp only [Option.bind_some]
  cases ho : okArgs n ds with
  | false =>
    unfold dp_Check
    rw [valid_eq hlen, ho]
    simp [lw1_DependSound_j11, awake_eq hf, lw1_DependSound_j13]
  | true =>
    obtain ⟨h1, h2, h3⟩ := ok_parts ho
    obtain ⟨he, _⟩  := ok_takeS (n := n) (l := l) (by rw [hds]; exact ho)
    have hrl : l.map toDep = ds := by rw [← he, hds]
    have hl12 : l.length ≤ 12 := by
      simp only [okArgs, Bool.and_eq_true, decide_eq_true_eq] at ho
      have := ho.1.2
      rw [← hrl] at this
      simpa using this
    have hck : dp_Check n ds ((p.take 102).map toStep) = some (okSteps n l p && (decide (1 ≤ p.length) && decide (p.length ≤ 100)), 0) := by
      rw [← hrl]
      exact Check_val (by rw [hrl]; exact ho) (by rw [hrl]; exact hlen)
    rw [hck]
    simp only [Option.bind_some, bne_self_eq_false, cond_false]
    unfold lw1_DependSound_j11
    by_cases hp0 : p.length = 0
    · have : ((p.length : Int) == 0) = true := by simp [hp0]
      simp only [this, cond_true, beq_self_eq_true]
      have d4 : ¬ 1 ≤ p.length := by omega
      simp [d4, awake_eq hf, lw1_DependSound_j13]
    have : ((p.length : Int) == 0) = false := by simpa using fun h : p = [] => hp0 (by rw [h]; rfl)
    simp only [this, cond_false]
    rw [steps_eq hp, deps_eq hl, hds]
    simp only [Option.bind_some]
    obtain ⟨q, hq⟩ : ∃ q, p.take 102 = q := ⟨_, rfl⟩
    have hql : q.length = min 102 p.length := by rw [← hq]; simp
    have w1 : IntKind.wrap .i64 (((q.map toStep).length : Int) - 1) = (q.length : Int) - 1 := by rw [List.length_map, wrap_id (by omega) (by omega)]
    obtain ⟨s, hs⟩ : ∃ s, gs q ((q.length : Int) - 1) = s := ⟨_, rfl⟩
    have hsq : q[((q.length : Int) - 1).toNat]? = some s := by rw [← hs]; exact at_gs (by omega) (by omega)
    have hsp : p[((q.length : Int) - 1).toNat]? = some s := by
      rw [← hq, List.getElem?_take] at hsq
      by_cases hc : ((q.length : Int) - 1).toNat < 102
      · rw [hq, if_pos hc] at hsq; exact hsq
      · omega
    have hi : idx (q.map toStep) ((q.length : Int) - 1) = some (toStep s) := by
      apply idx_map
      rw [idx_gs (by omega) (by omega), hs]
    have hsm : s ∈ p := List.mem_of_getElem? hsp
    obtain ⟨hF, hT⟩ := hps s hsm
    rw [hq, w1]
    simp only [hi, Option.bind_some]
    obtain ⟨F, hFe⟩ : ∃ F, s.f_Dep.f_From = F := ⟨_, rfl⟩
    obtain ⟨T, hTe⟩ : ∃ T, s.f_Dep.f_To = T := ⟨_, rfl⟩
    have hde : (toStep s).f_Dep = ⟨F, T⟩ := by rw [← hFe, ← hTe]; rfl
    rw [hFe] at hF
    rw [hTe] at hT
    have snd : okSteps n l p = true → isSet n F = true ∧ isSet n T = true ∧ Bits T (cl ds F) := by
      intro h
      have := steps_sound h1 h2 (l := l) (by rw [hrl]; exact hlen) h _ s hsp
      rw [hFe, hTe, hrl] at this
      exact this
    rw [hde]
    have hfv := Follows_val (n := n) hlen (d := dpDep.mk F T) hF hf
    rw [ho, Bool.true_and] at hfv
    rw [hfv]
    obtain ⟨B, hB⟩ : ∃ B, (okSteps n l p && (decide (1 ≤ p.length) && decide (p.length ≤ 100))) = B := ⟨_, rfl⟩
    rw [hB]
    have hB1 : B = true → okSteps n l p = true := by
      intro h; rw [← hB] at h; simp only [Bool.and_eq_true] at h; exact h.1
    cases hsets : isSet n F && isSet n T with
    | false =>
      have hBf : B = false := by
        cases hBb : B with
        | false => rfl
        | true =>
          obtain ⟨a, b, _⟩ := snd (hB1 hBb)
          rw [a, b] at hsets; cases hsets
      unfold dp_Prove dp_Refute
      rw [hfv, hsets]
      simp [hBf, awake_eq hf, lw1_DependSound_j33]
    | true =>
      rw [Bool.and_eq_true] at hsets
      obtain ⟨sF, sT⟩ := hsets
      have cf := cl_spec hlen hF
      simp only [cond_true, Option.bind_some]
      have hj : ∀ b : Bool, (b = true → Bits T (cl ds F)) → lw1_DependSound_j40 fuel n l rows (toStep s) (b, 0) = some true := fun b hb =>
        sound_j40 hl hr hds (by rw [hde]; exact hF) (fun h => by rw [hde]; exact hb h) (by rw [hde]; exact ⟨sF, sT⟩) hf
      cases hfo : has T (cl ds F) with
      | true =>
        obtain ⟨R, e1, e2, e3, e4, z, e5, e6⟩ := Prove_val (n := n) (F := F) (T := T) (l := l) hl12 hd (by rw [hrl]; exact ho) hF hT sF sT (by rw [hrl]; exact hfo) hf
        rw [hrl] at e1
        have hco := Check_own (n := n) (l := l) (p := R) (by rw [hrl]; exact ho) (by rw [hrl]; exact hlen) e3 e4
        rw [hrl] at hco
        have hRe : dp_Refute fuel n ds ⟨F, T⟩ = some ([], 5) := by
          unfold dp_Refute
          rw [hfv, sF, sT, hfo]
          rfl
        rw [e1, hRe]
        have hRl : (((R.map toStep).length : Int) == 0) = false := by
          rw [beq_eq_false_iff_ne, List.length_map]; omega
        have main : lw1_DependSound_j37 fuel n l rows (toStep s) (true, 0) (R.map toStep, 0) false = some true := by
          unfold lw1_DependSound_j37
          rw [deps_eq hl, hds]
          simp only [Option.bind_some, hco, e2, Bool.not_true, cond_false, cond_true, bne_self_eq_false, hRl, e5, e6, hde, beq_self_eq_true, Bool.and_self, lw1_DependSound_j45]
          exact hj true (fun _ => has_iff.1 hfo)
        cases hBb : B with
        | true => exact main
        | false => exact main
      | false =>
        have hBf : B = false := by
          cases hBb : B with
          | false => rfl
          | true =>
            obtain ⟨_, _, c⟩ := snd (hB1 hBb)
            rw [has_iff.2 c] at hfo; cases hfo
        have e1 : dp_Prove fuel n ds ⟨F, T⟩ = some ([], 5) := by
          unfold dp_Prove
          rw [hfv, sF, sT, hfo]
          rfl
        obtain ⟨z, hRe⟩ : ∃ z, dp_Refute fuel n ds ⟨F, T⟩ = some (z, 0) := by
          unfold dp_Refute
          rw [hfv, sF, sT, hfo]
          simp only [Bool.and_self, cond_true, Option.bind_some, bne_self_eq_false, cond_false, dp_closure]
          rw [row_val h1 h2 (by unfold wf64; omega) (by omega), cl_eq hlen hF hf]
          simp only [Option.bind_some]
          rw [row_val h1 h2 cf.wf (by omega)]
          exact ⟨_, rfl⟩
        rw [e1, hRe, hBf]
        have main : lw1_DependSound_j37 fuel n l rows (toStep s) (false, 0) ([], 5) false = some true := by
          unfold lw1_DependSound_j37
          simp only [cond_false]
          exact hj false (fun h => Bool.noConfusion h)
        exact main

end Go.AM
