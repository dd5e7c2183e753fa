/-
  CHAPTER 1, PLAIN: DependProves' function returns true. No statement of the seat is proved here.
-/
import Derived.Test.YtombfedoinhafaaALaw5
set_option linter.unusedVariables false
set_option linter.unusedSimpArgs false
namespace Go.AM

theorem or_comm64 (a b : Int) : iOr .i64 a b = iOr .i64 b a := by
  apply V_inj (wf_or _ _) (wf_or _ _)
  rw [V_or, V_or, BitVec.or_comm]

theorem or_absorb {a b : Int} (hb : wf64 b) (h : Bits a b) : iOr .i64 a b = b :=
  Bits.antisymm (wf_or _ _) hb (or_sub h (Bits.refl b)) (sub_or_right a b)

theorem gs_left {P Q : List rf1Step} {i : Int} (h1 : i < P.length) (h0 : 0 ≤ i) : gs (P ++ Q) i = gs P i := by
  unfold gs
  rw [List.getElem?_append_left (by omega)]

theorem rightB_ext {n : Int} {l : List rf1Dep} {P Q : List rf1Step} {k : Nat} (hk : k ≤ P.length) (s : rf1Step) : rightB n l (P ++ Q) k s = rightB n l P k s := by
  unfold rightB
  congr 1
  have e : ∀ i : Int, 0 ≤ i → i < (k : Int) → gs (P ++ Q) i = gs P i := fun i h0 h1 => gs_left (by omega) h0
  cases (s.f_Rule == 0) <;> simp only [cond_true, cond_false]
  cases (s.f_Rule == 1) <;> simp only [cond_true, cond_false]
  by_cases h1 : 0 ≤ s.f_I
  · by_cases h2 : s.f_I < (k : Int)
    · rw [e _ h1 h2]
      by_cases h3 : 0 ≤ s.f_J
      · by_cases h4 : s.f_J < (k : Int)
        · rw [e _ h3 h4]
        · simp [h4]
      · simp [h3]
    · simp [h2]
  · simp [h1]

def okSteps (n : Int) (l : List rf1Dep) (P : List rf1Step) : Bool := (P.zipIdx 0).all fun q => rightB n l P q.2 q.1

theorem okSteps_append {n : Int} {l : List rf1Dep} {P Q : List rf1Step} : okSteps n l (P ++ Q) = (okSteps n l P && (Q.zipIdx P.length).all fun q => rightB n l (P ++ Q) q.2 q.1) := by
  unfold okSteps
  rw [List.zipIdx_append, List.all_append]
  congr 1
  · rw [Bool.eq_iff_iff, List.all_eq_true, List.all_eq_true]
    constructor
    · intro h q hq
      have hlt : q.2 < P.length := by
        have := List.mem_zipIdx hq
        omega
      rw [← rightB_ext (Q := Q) (by omega)]
      exact h q hq
    · intro h q hq
      have hlt : q.2 < P.length := by
        have := List.mem_zipIdx hq
        omega
      rw [rightB_ext (by omega)]
      exact h q hq
  · simp

/-- a proof of F to v so far -/
structure Pf (n : Int) (l : List rf1Dep) (F v : Int) (P : List rf1Step) : Prop where
  ne : P ≠ []
  ok : okSteps n l P = true
  last : (gs P ((P.length : Int) - 1)).f_Dep = ⟨F, v⟩
  short : P.length ≤ 1 + 3 * cnt l v
  wf : wf64 v
  isSet : isSet n v = true
  sup : Bits F v
  least : ∀ c, Shut (l.map toDep) c → Bits F c → Bits v c

theorem gs_at {P Q : List rf1Step} {j : Nat} {s : rf1Step} (h : Q[j]? = some s) : gs (P ++ Q) ((P.length : Int) + (j : Int)) = s := by
  unfold gs
  have : ((P.length : Int) + (j : Int)).toNat = P.length + j := by omega
  rw [this, List.getElem?_append_right (by omega)]
  simp [h]

/-- the three steps that add a dependency's right side -/
def three (P : List rf1Step) (k : Nat) (d : rf1Dep) (F v : Int) : List rf1Step :=
  [⟨0, (k : Int), 0, d⟩, ⟨2, (P.length : Int), v, ⟨iOr .i64 d.f_From v, iOr .i64 v d.f_To⟩⟩, ⟨3, (P.length : Int) - 1, (P.length : Int) + 1, ⟨F, iOr .i64 v d.f_To⟩⟩]

theorem Pf.step {n : Int} {l : List rf1Dep} {F v : Int} {P : List rf1Step} (h : Pf n l F v P) (h1 : 1 ≤ n) (h2 : n ≤ 8) {k : Nat} {d : rf1Dep} (hk : l[k]? = some d) (sf : Go.AM.isSet n d.f_From = true) (st : Go.AM.isSet n d.f_To = true) (wt : wf64 d.f_To) (sF : Go.AM.isSet n F = true)
    (hf : Bits d.f_From v) (ht : ¬ Bits d.f_To v) : Pf n l F (iOr .i64 v d.f_To) (P ++ three P k d F v) := by
  have hkl : k < l.length := (List.getElem?_eq_some_iff.1 hk).1
  have hP : 0 < P.length := List.length_pos_iff.2 h.ne
  have sv := or_isSet h1 h2 h.wf wt h.isSet st
  have g0 : gs (P ++ three P k d F v) (P.length : Int) = ⟨0, (k : Int), 0, d⟩ := by
    have := gs_at (P := P) (Q := three P k d F v) (j := 0) rfl
    simpa using this
  have g1 : gs (P ++ three P k d F v) ((P.length : Int) + 1) = ⟨2, (P.length : Int), v, ⟨iOr .i64 d.f_From v, iOr .i64 v d.f_To⟩⟩ := gs_at (P := P) (Q := three P k d F v) (j := 1) rfl
  have gl : (gs (P ++ three P k d F v) ((P.length : Int) - 1)).f_Dep = ⟨F, v⟩ := by rw [gs_left (by omega) (by omega)]; exact h.last
  have sfv : Go.AM.isSet n (iOr .i64 d.f_From v) = true := by rw [or_absorb h.wf hf]; exact h.isSet
  refine ⟨by simp [h.ne], ?_, ?_, ?_, wf_or _ _, sv, h.sup.trans (sub_or_left _ _), fun c hs hc => or_sub (h.least c hs hc) (hs (toDep d) (List.mem_map_of_mem (List.mem_of_getElem? hk)) (hf.trans (h.least c hs hc)))⟩
  · rw [okSteps_append, h.ok, Bool.true_and]
    have e : (three P k d F v).zipIdx P.length = [(⟨0, (k : Int), 0, d⟩, P.length), (⟨2, (P.length : Int), v, ⟨iOr .i64 d.f_From v, iOr .i64 v d.f_To⟩⟩, P.length + 1), (⟨3, (P.length : Int) - 1, (P.length : Int) + 1, ⟨F, iOr .i64 v d.f_To⟩⟩, P.length + 2)] := rfl
    rw [e]
    simp only [List.all_cons, List.all_nil, Bool.and_true, Bool.and_eq_true]
    refine ⟨?_, ?_, ?_⟩
    · unfold rightB
      have hgd : gd l (k : Int) = d := by unfold gd; rw [Int.toNat_natCast, hk]; rfl
      have a1 : decide ((0 : Int) ≤ (k : Int)) = true := by simp
      have a2 : decide ((k : Int) < (l.length : Int)) = true := by simp; exact hkl
      simp only [hgd, sf, st, a1, a2, beq_self_eq_true, cond_true, Bool.and_self]
    · unfold rightB
      have a1 : decide ((0 : Int) ≤ (P.length : Int)) = true := by simp
      have a2 : decide ((P.length : Int) < ((P.length + 1 : Nat) : Int)) = true := decide_eq_true (by omega)
      simp only [g0, sfv, sv, h.isSet, a1, a2, or_comm64 d.f_To v, beq_self_eq_true, cond_true, cond_false, Bool.and_self, show ((2 : Int) == 0) = false from rfl, show ((2 : Int) == 1) = false from rfl]
    · unfold rightB
      have a1 : decide ((0 : Int) ≤ (P.length : Int) - 1) = true := decide_eq_true (by omega)
      have a2 : decide ((P.length : Int) - 1 < ((P.length + 2 : Nat) : Int)) = true := decide_eq_true (by omega)
      have a3 : decide ((0 : Int) ≤ (P.length : Int) + 1) = true := decide_eq_true (by omega)
      have a4 : decide ((P.length : Int) + 1 < ((P.length + 2 : Nat) : Int)) = true := decide_eq_true (by omega)
      simp only [g1, gl, sF, sv, a1, a2, a3, a4, or_absorb h.wf hf, beq_self_eq_true, cond_true, cond_false, Bool.and_self, show ((3 : Int) == 0) = false from rfl, show ((3 : Int) == 1) = false from rfl, show ((3 : Int) == 2) = false from rfl]
  · have e : (((P ++ three P k d F v).length : Int) - 1) = (P.length : Int) + ((2 : Nat) : Int) := by simp [three]; omega
    rw [e, gs_at (P := P) (Q := three P k d F v) (j := 2) rfl]
  · have hc : cnt l v < cnt l (iOr .i64 v d.f_To) := by
      refine cnt_more (fun e he => has_iff.2 ((has_iff.1 he).trans (sub_or_left _ _))) l ⟨d, List.mem_of_getElem? hk, has_iff.2 (sub_or_right _ _), ?_⟩
      cases hh : has d.f_To v with
      | false => rfl
      | true => exact absurd (has_iff.1 hh) ht
    have := h.short
    simp [three]
    omega

theorem cnt_le (l : List rf1Dep) (v : Int) : cnt l v ≤ l.length := List.countP_le_length

theorem prove_l2 {n : Int} {l : List rf1Dep} {F T : Int} (h1 : 1 ≤ n) (h2 : n ≤ 8) (hl : l.length ≤ 12) (hset : ∀ d, d ∈ l → isSet n d.f_From = true ∧ isSet n d.f_To = true ∧ wf64 d.f_To) (sF : isSet n F = true) (N : List dpStep → Int → Bool → Option (List dpStep × Int)) :
    ∀ (r : List rf1Dep) (k : Nat) (P : List rf1Step) (v : Int) (ag : Bool), Pf n l F v P → l.drop k = r →
    ∃ P' v' ag', dp_Prove_l2 ⟨F, T⟩ N (r.map toDep) k (P.map toStep) v ag = N (P'.map toStep) v' ag' ∧ Pf n l F v' P' ∧ Bits v v' ∧
      (ag' = false → ag = false ∧ v' = v ∧ P' = P ∧ ∀ d, d ∈ r → Bits d.f_From v → Bits d.f_To v) ∧ (ag' = true → ag = true ∨ v' ≠ v)
  | [], k, P, v, ag, hP, _ => ⟨P, v, ag, rfl, hP, Bits.refl v, fun h => ⟨h, rfl, rfl, fun d hd => by cases hd⟩, fun h => .inl h⟩
  | d :: r, k, P, v, ag, hP, hd => by
    have hk : l[k]? = some d := by
      have := congrArg List.head? hd
      simpa [List.head?_drop] using this
    have hd' : l.drop (k + 1) = r := by
      have : l.drop (k + 1) = (l.drop k).drop 1 := by rw [List.drop_drop]
      rw [this, hd]; rfl
    have hmem : d ∈ l := List.mem_of_getElem? hk
    obtain ⟨sf, st, wt⟩ := hset d hmem
    rw [List.map_cons, dp_Prove_l2.eq_2]
    unfold dp_Prove_j30 dp_Prove_j27
    have skip : ∀ (hs : Bits d.f_From v → Bits d.f_To v), ∃ P' v' ag', dp_Prove_l2 ⟨F, T⟩ N (r.map toDep) (k + 1) (P.map toStep) v ag = N (P'.map toStep) v' ag' ∧ Pf n l F v' P' ∧ Bits v v' ∧
        (ag' = false → ag = false ∧ v' = v ∧ P' = P ∧ ∀ e, e ∈ d :: r → Bits e.f_From v → Bits e.f_To v) ∧ (ag' = true → ag = true ∨ v' ≠ v) := by
      intro hs
      obtain ⟨P', v', ag', e1, e2, e3, e4, e5⟩ := prove_l2 (T := T) h1 h2 hl hset sF N r (k + 1) P v ag hP hd'
      refine ⟨P', v', ag', e1, e2, e3, fun h => ?_, e5⟩
      obtain ⟨a, b, c, f⟩ := e4 h
      refine ⟨a, b, c, fun e he => ?_⟩
      rcases List.mem_cons.1 he with rfl | he
      · exact hs
      · exact f e he
    cases hc : (iAndNot .i64 (toDep d).f_From v != 0) with
    | true =>
      simp only [cond_true]
      exact skip (fun h => absurd h (andNot_ne.1 hc))
    | false =>
      have hf : Bits d.f_From v := by
        apply Classical.byContradiction
        intro h
        have h' : (iAndNot .i64 (toDep d).f_From v != 0) = true := andNot_ne.2 h
        rw [hc] at h'; cases h'
      simp only [cond_false]
      cases ht : (iAndNot .i64 (toDep d).f_To v == 0) with
      | true =>
        simp only [cond_true]
        exact skip (fun _ => andNot_zero.1 ht)
      | false =>
        have hnt : ¬ Bits d.f_To v := by
          intro h
          have h' : (iAndNot .i64 (toDep d).f_To v == 0) = true := andNot_zero.2 h
          rw [ht] at h'; cases h'
        simp only [cond_false]
        have hstep := hP.step h1 h2 hk sf st wt sF hf hnt
        have hlenP : 0 < P.length := List.length_pos_iff.2 hP.ne
        have hshort := hstep.short
        have hcl := cnt_le l (iOr .i64 v d.f_To)
        have hL : (P ++ three P k d F v).length = P.length + 3 := by simp [three]
        have w1 : IntKind.wrap .i64 (((P.map toStep).length : Int) - 1) = (P.length : Int) - 1 := by
          rw [List.length_map, wrap_id (by omega) (by omega)]
        have w2 : IntKind.wrap .i64 ((P.length : Int) - 1 + 1) = (P.length : Int) := by rw [wrap_id (by omega) (by omega)]; omega
        have w3 : IntKind.wrap .i64 ((P.length : Int) - 1 + 2) = (P.length : Int) + 1 := by rw [wrap_id (by omega) (by omega)]; omega
        simp only [w1, w2, w3]
        have e : P.map toStep ++ [(dpStep.mk 0 (k : Int) 0 (toDep d)), (dpStep.mk 2 (P.length : Int) v (dpDep.mk (iOr .i64 (toDep d).f_From v) (iOr .i64 v (toDep d).f_To))), (dpStep.mk 3 ((P.length : Int) - 1) ((P.length : Int) + 1) (dpDep.mk F (iOr .i64 v (toDep d).f_To)))] = (P ++ three P k d F v).map toStep := by
          rw [List.map_append]; rfl
        rw [e]
        have hcap : capOk 40 ((P ++ three P k d F v).map toStep).length = true := by
          rw [List.length_map]
          simp only [capOk, Bool.and_eq_true]
          exact ⟨Nat.ble_eq_true_of_le (by omega), Nat.ble_eq_true_of_le (by omega)⟩
        rw [hcap]
        simp only [chk, cond_true]
        obtain ⟨P', v', ag', e1, e2, e3, e4, e5⟩ := prove_l2 (T := T) h1 h2 hl hset sF N r (k + 1) _ _ true hstep hd'
        refine ⟨P', v', ag', e1, e2, (sub_or_left _ _).trans e3, fun h => absurd (e4 h).1 (by decide), fun _ => .inr fun e => hnt ?_⟩
        rw [← e]
        exact (sub_or_right v d.f_To).trans e3

theorem prove_l1 {n : Int} {l : List rf1Dep} {F T : Int} (h1 : 1 ≤ n) (h2 : n ≤ 8) (hl : l.length ≤ 12) (hset : ∀ d, d ∈ l → isSet n d.f_From = true ∧ isSet n d.f_To = true ∧ wf64 d.f_To) (sF : isSet n F = true) (K : List dpStep → Int → Option (List dpStep × Int)) :
    ∀ (m : Nat) (P : List rf1Step) (v : Int), Pf n l F v P → 18446744073709551616 - (V v).toNat < m →
    ∃ P' v', dp_Prove_l1 (l.map toDep) ⟨F, T⟩ K m (P.map toStep) v true = K (P'.map toStep) v' ∧ Pf n l F v' P' ∧ Shut (l.map toDep) v'
  | 0, P, v, _, h => by omega
  | m + 1, P, v, hP, hm => by
    rw [dp_Prove_l1.eq_2]
    have hlo : lenOk (l.map toDep) = true := lenOk_of (by simp; omega)
    simp only [cond_true, hlo, chk]
    obtain ⟨P', v', ag', e1, e2, e3, e4, e5⟩ := prove_l2 (T := T) h1 h2 hl hset sF (dp_Prove_l1 (l.map toDep) ⟨F, T⟩ K m) l 0 P v false hP (List.drop_zero)
    rw [e1]
    cases ag' with
    | false =>
      obtain ⟨_, hv, hp, hs⟩ := e4 rfl
      subst hv; subst hp
      cases m with
      | zero =>
        have := (V v').isLt
        omega
      | succ m =>
        rw [dp_Prove_l1.eq_2]
        refine ⟨P', v', rfl, e2, fun d hd hf => ?_⟩
        obtain ⟨e, he, rfl⟩ := List.mem_map.1 hd
        exact hs e he hf
    | true =>
      rcases e5 rfl with h | h
      · cases h
      · have := toNat_lt_of_sub hP.wf e2.wf e3 (Ne.symm h)
        have hlt := (V v').isLt
        exact prove_l1 h1 h2 hl hset sF K m P' v' e2 (by omega)

theorem proof_val {n : Int} (hn : 0 ≤ n) {l : List rf1Dep} {p : List rf1Step} (hp : lenOk p = true) : rf1_Proof n l p = some (okSteps n l p && (decide (1 ≤ p.length) && decide (p.length ≤ 100))) := by
  unfold rf1_Proof
  rw [hp]
  simp only [chk, cond_true]
  rw [proof_l1 hn _ p 0 (by simp)]
  unfold okSteps
  cases (p.zipIdx 0).all fun q => rightB n l p q.2 q.1 with
  | false => rfl
  | true =>
    simp only [cond_true, Bool.true_and, rf1_Proof_j5, rf1_Proof_j31]
    have e1 : decide ((p.length : Int) ≥ 1) = decide (1 ≤ p.length) := by congr 1; simp; omega
    have e2 : decide ((p.length : Int) ≤ 100) = decide (p.length ≤ 100) := by congr 1; simp; omega
    rw [e1, e2]
    cases decide (1 ≤ p.length) <;> rfl

theorem ownSteps_val {p : List rf1Step} (hp : p.length ≤ 100) : lw1_ownSteps (p.map toStep) = some p := by
  unfold lw1_ownSteps
  have hl : lenOk (p.map toStep) = true := lenOk_of (by simp; omega)
  rw [hl]
  simp only [chk, cond_true]
  have : ∀ (r : List rf1Step) (k : Nat) (acc : List rf1Step), acc.length + r.length ≤ 100 → lw1_ownSteps_l1 lw1_ownSteps_j4 (r.map toStep) k acc = some (acc ++ r) := by
    intro r
    induction r with
    | nil => intro k acc _; simp [lw1_ownSteps_l1, lw1_ownSteps_j4]
    | cons x r ih =>
      intro k acc ha
      simp only [List.length_cons] at ha
      rw [List.map_cons, lw1_ownSteps_l1.eq_2]
      have hcap : ∀ z, capOk 40 (acc ++ [z]).length = true := by
        intro z
        simp only [capOk, Bool.and_eq_true, List.length_append, List.length_singleton]
        exact ⟨Nat.ble_eq_true_of_le (by omega), Nat.ble_eq_true_of_le (by omega)⟩
      simp only [hcap, chk, cond_true]
      rw [ih (k + 1) _ (by simp; omega)]
      simp [toStep, toDep]
  simpa using this p 0 [] (by simpa using hp)

theorem dependProves_true {n : Int} {l : List rf1Dep} {d : rf1Dep} (hl : lenOk l = true) (hd : ∀ d, d ∈ l → wf64 d.f_From ∧ wf64 d.f_To) (hF : wf64 d.f_From) (hT : wf64 d.f_To) {fuel : Nat} (hf : bigFuel ≤ fuel) :
    lw1_DependProves fuel n l d = some true := by
  obtain ⟨F, T⟩ := d
  simp only at hF hT
  unfold lw1_DependProves dp_Prove
  rw [deps_eq hl]
  simp only [Option.bind_some, lw1_dep]
  rw [Follows_val lenOk_take (d := dpDep.mk F T) hF hf, rValid_val hl]
  cases ho : okArgs n ((l.take 14).map toDep) with
  | false => simp [lw1_DependProves_j10, awake_eq hf, lw1_DependProves_j14]
  | true =>
    obtain ⟨h1, h2, h3⟩ := ok_parts ho
    have hn : 0 ≤ n := by omega
    have hl12 : l.length ≤ 12 := by
      simp only [okArgs, Bool.and_eq_true, decide_eq_true_eq] at ho
      have := ho.1.2
      simp at this
      omega
    have ht : l.take 14 = l := List.take_of_length_le (by omega)
    rw [ht] at h3 ⊢
    rw [rPair_val hn]
    cases hs : isSet n F && isSet n T with
    | false => simp [hs, lw1_DependProves_j10, awake_eq hf, lw1_DependProves_j14]
    | true =>
      have hs' := hs
      rw [Bool.and_eq_true] at hs'
      obtain ⟨sF, sT⟩ := hs'
      simp only [hs, Bool.and_self, cond_true, Option.bind_some, bne_self_eq_false, cond_false, Bool.not_true]
      unfold lw1_DependProves_j10
      rw [rFollows_val hl (d := ⟨F, T⟩) hF]
      cases hfo : has T (cl (l.map toDep) F) with
      | false => simp [awake_eq hf, lw1_DependProves_j19]
      | true =>
        simp only [Bool.not_true, cond_false]
        have hset : ∀ d, d ∈ l → isSet n d.f_From = true ∧ isSet n d.f_To = true ∧ wf64 d.f_To := fun d hm => ⟨(h3 (toDep d) (List.mem_map_of_mem hm)).1, (h3 (toDep d) (List.mem_map_of_mem hm)).2, (hd d hm).2⟩
        have h0 : Pf n l F F [⟨1, 0, 0, ⟨F, F⟩⟩] := by
          refine ⟨by simp, ?_, rfl, by simp, hF, sF, Bits.refl F, fun c _ h => h⟩
          have e : okSteps n l [⟨1, 0, 0, ⟨F, F⟩⟩] = rightB n l [⟨1, 0, 0, ⟨F, F⟩⟩] 0 ⟨1, 0, 0, ⟨F, F⟩⟩ := by simp [okSteps]
          rw [e]
          unfold rightB
          simp only [sF, has_iff.2 (Bits.refl F), beq_self_eq_true, cond_true, cond_false, Bool.and_self, show ((1 : Int) == 0) = false from rfl]
        obtain ⟨P, v, e1, hP, hsh⟩ := prove_l1 (T := T) h1 h2 hl12 hset sF (dp_Prove_j15 ⟨F, T⟩) fuel _ F h0 (by unfold bigFuel at hf; omega)
        have e1' : dp_Prove_l1 (l.map toDep) ⟨F, T⟩ (dp_Prove_j15 ⟨F, T⟩) fuel [(dpStep.mk 1 0 0 (dpDep.mk F F))] F true = dp_Prove_j15 ⟨F, T⟩ (P.map toStep) v := e1
        rw [e1']
        have hlo : lenOk (l.map toDep) = true := lenOk_of (by simp; omega)
        have hTv : Bits T v := (has_iff.1 hfo).trans ((cl_spec hlo hF).least v hsh hP.sup)
        unfold dp_Prove_j15
        have hshort := hP.short
        have hcl := cnt_le l v
        have hlenP : 0 < P.length := List.length_pos_iff.2 hP.ne
        have w1 : IntKind.wrap .i64 (((P.map toStep).length : Int) - 1) = (P.length : Int) - 1 := by
          rw [List.length_map, wrap_id (by omega) (by omega)]
        have w2 : IntKind.wrap .i64 ((P.length : Int) - 1 + 1) = (P.length : Int) := by rw [wrap_id (by omega) (by omega)]; omega
        simp only [w1, w2]
        obtain ⟨Q, hQ⟩ : ∃ Q : List rf1Step, Q = [⟨1, 0, 0, ⟨v, T⟩⟩, ⟨3, (P.length : Int) - 1, (P.length : Int), ⟨F, T⟩⟩] := ⟨_, rfl⟩
        have e : P.map toStep ++ [(dpStep.mk 1 0 0 (dpDep.mk v T)), (dpStep.mk 3 ((P.length : Int) - 1) (P.length : Int) ⟨F, T⟩)] = (P ++ Q).map toStep := by
          rw [List.map_append, hQ]; rfl
        rw [e]
        have hQl : (P ++ Q).length = P.length + 2 := by rw [hQ]; simp
        have hcap : capOk 40 ((P ++ Q).map toStep).length = true := by
          rw [List.length_map]
          simp only [capOk, Bool.and_eq_true]
          exact ⟨Nat.ble_eq_true_of_le (by omega), Nat.ble_eq_true_of_le (by omega)⟩
        have g0 : gs (P ++ Q) (P.length : Int) = ⟨1, 0, 0, ⟨v, T⟩⟩ := by
          have := gs_at (P := P) (Q := Q) (j := 0) (s := ⟨1, 0, 0, ⟨v, T⟩⟩) (by rw [hQ]; rfl)
          simpa using this
        have gl : (gs (P ++ Q) ((P.length : Int) - 1)).f_Dep = ⟨F, v⟩ := by rw [gs_left (by omega) (by omega)]; exact hP.last
        have hok : okSteps n l (P ++ Q) = true := by
          rw [okSteps_append, hP.ok, Bool.true_and]
          have ez : Q.zipIdx P.length = [(⟨1, 0, 0, ⟨v, T⟩⟩, P.length), (⟨3, (P.length : Int) - 1, (P.length : Int), ⟨F, T⟩⟩, P.length + 1)] := by rw [hQ]; rfl
          rw [ez]
          simp only [List.all_cons, List.all_nil, Bool.and_true, Bool.and_eq_true]
          refine ⟨?_, ?_⟩
          · unfold rightB
            simp only [hP.isSet, sT, has_iff.2 hTv, beq_self_eq_true, cond_true, cond_false, Bool.and_self, show ((1 : Int) == 0) = false from rfl]
          · unfold rightB
            have a1 : decide ((0 : Int) ≤ (P.length : Int) - 1) = true := decide_eq_true (by omega)
            have a2 : decide ((P.length : Int) - 1 < ((P.length + 1 : Nat) : Int)) = true := decide_eq_true (by omega)
            have a3 : decide ((0 : Int) ≤ (P.length : Int)) = true := decide_eq_true (by omega)
            have a4 : decide ((P.length : Int) < ((P.length + 1 : Nat) : Int)) = true := decide_eq_true (by omega)
            simp only [g0, gl, sF, sT, a1, a2, a3, a4, beq_self_eq_true, cond_true, cond_false, Bool.and_self, show ((3 : Int) == 0) = false from rfl, show ((3 : Int) == 1) = false from rfl, show ((3 : Int) == 2) = false from rfl]
        have hidx : idx ((P ++ Q).map toStep) (IntKind.wrap .i64 ((((P ++ Q).map toStep).length : Int) - 1)) = some (toStep ⟨3, (P.length : Int) - 1, (P.length : Int), ⟨F, T⟩⟩) := by
          have w3 : IntKind.wrap .i64 ((((P ++ Q).map toStep).length : Int) - 1) = (P.length : Int) + ((1 : Nat) : Int) := by
            rw [List.length_map, hQl, wrap_id (by omega) (by omega)]; omega
          rw [w3]
          apply idx_map
          rw [idx_gs (by omega) (by rw [hQl]; omega), gs_at (P := P) (Q := Q) (j := 1) (s := ⟨3, (P.length : Int) - 1, (P.length : Int), ⟨F, T⟩⟩) (by rw [hQ]; rfl)]
        simp only [hcap, chk, cond_true, Option.bind_some, beq_self_eq_true]
        rw [ownSteps_val (by omega)]
        simp only [Option.bind_some]
        rw [proof_val hn (lenOk_of (by omega)), hok]
        have b1 : decide (1 ≤ (P ++ Q).length) = true := decide_eq_true (by omega)
        have b2 : decide ((P ++ Q).length ≤ 100) = true := decide_eq_true (by omega)
        simp only [b1, b2, Bool.and_self, Option.bind_some, cond_true, hidx, lw1_dep, awake_eq hf, lw1_DependProves_j22]
        simp [toStep, toDep]

end Go.AM
