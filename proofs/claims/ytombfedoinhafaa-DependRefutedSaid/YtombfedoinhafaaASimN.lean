/-
  THE ABSTRACT MACHINE AND THE MODEL: the theorem: what the machine runs, the model runs. No statement of the seat is proved here.
-/
import Derived.Test.YtombfedoinhafaaASimM
import Derived.LoopN
set_option linter.unusedVariables false
set_option linter.unusedSimpArgs false
namespace Go.AM
open Go.RowKit

section
variable {B : Nat} {M0 : Mem} {w0 : World} {n : Nat} {M : Mem} {O : Bool → Nat → Option Nat} {env : Env} {a : Act} {w : World} {P : Program}

/-! ### a box that is never written again -/

theorem look_kill {s t : Nat} {x : AV} (h : look (env.map fun p => (p.1, killPb s p.2)) t = some x) : ∃ y, look env t = some y ∧ ((x = .top ∧ ∃ o, y = .pb s o) ∨ (x = y ∧ ∀ o, y ≠ .pb s o)) := by
  rw [look_map (killPb s)] at h
  cases hy : look env t with
  | none => rw [hy] at h; cases h
  | some y =>
    rw [hy] at h
    simp only [Option.map_some, Option.some.injEq] at h
    refine ⟨y, rfl, ?_⟩
    cases y with
    | pb s' o =>
      simp only [killPb] at h
      split at h
      · rename_i hb
        have := Nat.eq_of_beq_eq_true hb
        subst this
        exact .inl ⟨h.symm, o, rfl⟩
      · rename_i hb
        refine .inr ⟨h.symm, fun o' e => ?_⟩
        cases e
        simp at hb
    | _ => exact .inr ⟨h.symm, fun o' e => by cases e⟩

theorem Inv.freezeTo (h : Inv B M0 w0 n M O env a w) {s : Nat} {cs : List AV} (hl : look env s = some (.box cs)) {y : AV} (hy : y.cells = cs.map AV.strip) :
    ∃ M' O', Inv B M0 w0 n M' O' (ins s (.ptr y) (env.map fun p => (p.1, killPb s p.2))) a w := by
  obtain ⟨g, cur, el, h1, h2, h3, h4, h5, h6⟩ := h.slots s _ hl
  obtain ⟨hgB, hgs⟩ := h.own true s g h2
  have hsub : Sub M (addRow M g cur) := by
    intro b o u hu
    unfold addRow
    split
    · rename_i e
      subst e
      rw [h5] at hu; cases hu
    · exact hu
  have hO : ∀ i c g', setO O true s none i c = some g' → O i c = some g' ∧ ¬ (i = true ∧ c = s) := by
    intro i c g' hg
    unfold setO at hg
    split at hg
    · cases hg
    · rename_i hne
      exact ⟨hg, hne⟩
  refine ⟨addRow M g cur, setO O true s none, h.size, h.defers, h.below, h.hB, ?_, h.ext.trans hsub, ?_, fun i c g' hg => h.own i c g' (hO i c g' hg).1, fun i i' c c' g' k1 k2 => h.inj i i' c c' g' (hO _ _ _ k1).1 (hO _ _ _ k2).1, ?_⟩
  · intro b o u hu
    unfold addRow at hu
    split at hu
    · rename_i e
      subst e
      rw [cellRow h3]
      exact hu
    · exact h.cons b o u hu
  · intro b o hb
    unfold addRow
    rw [if_neg (by omega)]
    exact h.old b o hb
  · intro t x hx
    rw [look_ins] at hx
    split at hx
    · rename_i e
      subst e
      cases hx
      rw [h1]
      refine ⟨R.ptr (fun j => cur.getD j undef) (fun j c hc => ?_) (fun j c hc => ?_), trivial⟩
      all_goals
        rw [hy, List.getElem?_map] at hc
        cases hz : cs[j]? with
        | none => rw [hz] at hc; cases hc
        | some z =>
          rw [hz] at hc
          cases hc
          have hj : j < cur.size := by rw [h4]; exact (List.getElem?_eq_some_iff.1 hz).1
          have e : cur[j]? = some (cur.getD j undef) := by simp [hj]
          first
          | (rw [Nat.zero_add]; unfold addRow; rw [if_pos rfl]; exact e)
          | exact ((h6 j z _ hz e).2.1.mono hsub).strip
    · rename_i hts
      obtain ⟨y', hy', hcase⟩ := look_kill hx
      rcases hcase with ⟨rfl, _⟩ | ⟨rfl, hnp⟩
      · exact ⟨.top _, trivial⟩
      · have hs := h.slots t _ hy'
        have hkeep : ∀ i c g', O i c = some g' → ¬ (i = true ∧ c = s) → setO O true s none i c = some g' ∧ w.heap[g']? = w.heap[g']? ∧ ∀ o, M g' o = none → addRow M g cur g' o = none := by
          intro i c g' hg hne
          refine ⟨by unfold setO; rw [if_neg hne]; exact hg, rfl, fun o hm => ?_⟩
          unfold addRow
          rw [if_neg (fun e => by subst e; exact hne (h.inj _ _ _ _ g' hg h2))]
          exact hm
        cases x with
        | box cs1 => exact BoxOk.change hs hsub (fun g' hg => hkeep true t g' hg (fun e => hts e.2)) fun c g' z _ _ hg => hkeep false c g' hg (fun e => by cases e.1)
        | pb s' o =>
          obtain ⟨g', k1, k2⟩ := hs
          exact ⟨g', k1, (hkeep true s' g' k2 (fun e => hnp o (by rw [e.2]))).1⟩
        | _ => exact sat_of_val ((val_of_sat (fun cs e => by cases e) hs).change hsub (fun s off g e _ => by cases e) fun c g' _ hg => hkeep false c g' hg (fun e => by cases e.1))

theorem Inv.freeze1 (h : Inv B M0 w0 n M O env a w) (s : Nat) : ∃ M' O', Inv B M0 w0 n M' O' (freeze1 env s) a w := by
  unfold AM.freeze1
  split
  · rename_i cs hl
    split
    · rename_i x
      refine h.freezeTo hl ?_
      obtain ⟨g, cur, el, h1, h2, h3, h4, h5, h6⟩ := h.slots s _ hl
      have hj : 0 < cur.size := by rw [h4]; exact Nat.zero_lt_one
      have := (h6 0 x cur[0] rfl (by simp [hj])).1
      rw [cells_one (strip_one this)]
      rfl
    · exact h.freezeTo hl rfl
  · exact ⟨M, O, h⟩

theorem Inv.freezeAll (h : Inv B M0 w0 n M O env a w) : ∀ (l : List Nat), ∃ M' O', Inv B M0 w0 n M' O' (freezeAll env l) a w := by
  intro l
  induction l generalizing M O env with
  | nil => exact ⟨M, O, h⟩
  | cons s l ih =>
    obtain ⟨M1, O1, h1⟩ := h.freeze1 s
    exact ih h1

theorem Inv.nilTo (h : Inv B M0 w0 n M O env a w) (q : Nat × Nat × Nat × Nat × Nat) : Inv B M0 w0 n M O (nilTo env q) a w := by
  obtain ⟨s, off, e, k, c⟩ := q
  unfold AM.nilTo
  simp only
  split
  · rename_i hl
    refine ⟨h.size, h.defers, h.below, h.hB, h.cons, h.ext, h.old, h.own, h.inj, fun t x hx => ?_⟩
    rw [look_ins] at hx
    split at hx
    · rename_i e1
      subst e1
      cases hx
      have hs := (h.slots t _ hl).1
      generalize a.tmps.getD t undef = y at hs
      cases hs
      exact ⟨R.lstn e k (some c), .inl rfl⟩
    · exact h.slots t x hx
  · rename_i cs hl
    split
    · rename_i hc
      refine ⟨h.size, h.defers, h.below, h.hB, h.cons, h.ext, h.old, h.own, h.inj, fun t x hx => ?_⟩
      rw [look_ins] at hx
      split at hx
      · rename_i e1
        subst e1
        cases hx
        obtain ⟨g, cur, el, h1, h2, h3, h4, h5, h6⟩ := h.slots t _ hl
        refine ⟨g, cur, el, h1, h2, h3, by simpa using h4, h5, fun j x u hx hu => ?_⟩
        rw [List.getElem?_set] at hx
        split at hx
        · rename_i hj
          subst hj
          split at hx
          · cases hx
            have := (h6 off .nils u hc hu).2.1
            cases this
            exact ⟨rfl, R.lstn e k (some c), .inl rfl⟩
          · cases hx
        · exact h6 j x u hx hu
      · exact h.slots t x hx
    · exact h
  · exact h

theorem Inv.nilAll : ∀ (l : List (Nat × Nat × Nat × Nat × Nat)) {env : Env}, Inv B M0 w0 n M O env a w → Inv B M0 w0 n M O (nilAll env l) a w
  | [], _, h => h
  | q :: l, _, h => Inv.nilAll l (h.nilTo q)

theorem Inv.relab1 (h : Inv B M0 w0 n M O env a w) (q : Nat × Option Nat) : ∃ O', Inv B M0 w0 n M O' (relab1 env q) a w := by
  obtain ⟨l, m⟩ := q
  unfold AM.relab1
  cases m with
  | none => exact ⟨_, h.relab l none fun c e => by cases e⟩
  | some c =>
    simp only
    split
    · exact ⟨O, h⟩
    · rename_i hb
      simp only [Bool.or_eq_false_iff] at hb
      refine ⟨_, h.relab l (some c) fun c' e => ?_⟩
      cases e
      exact ⟨fun e => by subst e; simp [Nat.beq_refl] at hb, hb.2⟩

theorem Inv.relabAll : ∀ (l : List (Nat × Option Nat)) {O : Bool → Nat → Option Nat} {env : Env}, Inv B M0 w0 n M O env a w → ∃ O', Inv B M0 w0 n M O' (relabAll env l) a w
  | [], O, _, h => ⟨O, h⟩
  | q :: l, _, _, h => by
    obtain ⟨O1, h1⟩ := h.relab1 q
    exact Inv.relabAll l h1

/-! ### code -/

def toExit : Ex → Exit
  | .normal => .normal
  | .exit id => .exit id
  | .ret => .ret

def CodeOk (P : Program) (n : Nat) (c : Code) (e : Env) (ex : Ex) (e' : Env) : Prop :=
  ∀ (B : Nat) (M0 : Mem) (w0 : World) (M : Mem) (O : Bool → Nat → Option Nat) (a : Act) (w : World), Inv B M0 w0 n M O e a w → ∀ (Q : Exit → Act → World → Prop), (∀ a' w' M' O', Inv B M0 w0 n M' O' e' a' w' → Q (toExit ex) a' w') → c.wp P Q a w

def LoopOk (P : Program) (n : Nat) (c : Code) (e : Env) (ex : Ex) (e' : Env) : Prop :=
  ∃ N, ∀ (B : Nat) (M0 : Mem) (w0 : World) (M : Mem) (O : Bool → Nat → Option Nat) (a : Act) (w : World), Inv B M0 w0 n M O e a w → ∀ (Q : Exit → Act → World → Prop), (∀ a' w' M' O', Inv B M0 w0 n M' O' e' a' w' → Q (toExit ex) a' w') → Code.rounds P c Q N a w

def JOk (P : Program) : J → Prop
  | .code n c e ex e' => CodeOk P n c e ex e' ∧ ∀ c', c = .loop c' → LoopOk P n c' e ex e'
  | .ops n draw all rest e e' => Chain P n draw all rest e e'
  | .call f args r => CallOk P f args r

theorem LoopOk.code {c : Code} {e e' : Env} {ex : Ex} (h : LoopOk P n c e ex e') : CodeOk P n (.loop c) e ex e' := by
  obtain ⟨N, hN⟩ := h
  intro B M0 w0 M O a w hi Q hQ
  exact wp_loop_rounds N (hN B M0 w0 M O a w hi Q hQ)

theorem noloop {P : Program} {n : Nat} {c : Code} {e e' : Env} {ex : Ex} (h : ∀ c', c ≠ .loop c') : ∀ c', c = .loop c' → LoopOk P n c' e ex e' := fun c' hc => absurd hc (h c')

/-! ### results -/

def resRun (tmps : Array Value) (r : ResultVar) : Sem Value :=
  match r with
  | .tmp t => pure (tmps.getD t undef)
  | .cell ad t => do loadVar t (← asAddr (tmps.getD ad undef))

theorem cut_not_pb {t : TypeId} {cs : List AV} {off : Nat} {z : AV} (hc : cut P t cs off = some z) : ∀ s o, z ≠ .pb s o := by
  intro s o e
  subst e
  unfold cut at hc
  split at hc
  · cases hc
  · split at hc
    · cases hc
    · split at hc
      · cases hc
      · split at hc
        · have := (cut_one hc).2
          cases this
        · cases hc

theorem aresult_sound (h : Inv B M0 w0 n M O env a w) {r : ResultVar} {x : AV} (hx : aresult P env r = some x) : ∃ v, (resRun a.tmps r).run P w = .ok v w ∧ R M x v ∧ OwnV O M w x v := by
  cases r with
  | tmp t =>
    simp only [aresult] at hx
    split at hx
    · cases hx
    · cases hx
    · rename_i v hnb hnp hl
      cases hx
      have hs := h.slots t _ hl
      refine ⟨_, rfl, ?_⟩
      cases x with
      | box cs => exact absurd rfl (hnb cs)
      | pb s o => exact absurd rfl (hnp s o)
      | _ => exact hs
    · cases hx
  | cell ad t =>
    simp only [aresult] at hx
    split at hx
    · rename_i cs hl
      obtain ⟨g, cur, el, h1, h2, _⟩ := h.slots ad _ hl
      obtain ⟨cur', el', h3, h4, h5, h6⟩ := box_cells h hl h2
      cases hc : cut P t cs 0 with
      | none => rw [hc] at hx; cases hx
      | some z =>
        rw [hc] at hx
        cases hx
        obtain ⟨v, hv1, hv2⟩ := run_loadVar_cut (O := O) (b := g) (base := 0) hc (fun j => cur'.getD j undef) (fun j c hc => by rw [Nat.zero_add]; exact (h6 j c hc).1) (fun j c hc => (h6 j c hc).2.2)
        refine ⟨v, ?_, (hv2.r (cut_not_pb hc)).strip, ownV_strip z v⟩
        unfold resRun
        simp only [h1, asAddr, Sem.run_bind, Sem.run_pure, Result.andThen_ok]
        exact hv1
    · cases hx

theorem run_mapM_results (h : Inv B M0 w0 n M O env a w) : ∀ {rs : List ResultVar} {l : List AV}, optAll (rs.map (aresult P env)) = some l →
    ∃ vs : List Value, (rs.mapM (resRun a.tmps)).run P w = .ok vs w ∧ l.length = vs.length ∧ ∀ (j : Nat) c v, l[j]? = some c → vs[j]? = some v → R M c v ∧ OwnV O M w c v
  | [], l, hl => by
    cases hl
    exact ⟨[], rfl, rfl, by simp⟩
  | r :: rs, l, hl => by
    simp only [List.map_cons] at hl
    cases hr : aresult P env r with
    | none => rw [hr] at hl; cases hl
    | some x =>
      rw [hr] at hl
      simp only [optAll] at hl
      split at hl
      · rename_i l' hl'
        cases hl
        obtain ⟨v, h1, h2⟩ := aresult_sound h hr
        obtain ⟨vs, h3, h4, h5⟩ := run_mapM_results h hl'
        refine ⟨v :: vs, ?_, by simp [h4], fun j c u hc hu => ?_⟩
        · simp only [List.mapM_cons, Sem.run_bind, h1, h3, Result.andThen_ok, Sem.run_pure]
        · cases j with
          | zero => simp at hc hu; subst hc; subst hu; exact h2
          | succ j => exact h5 j c u (by simpa using hc) (by simpa using hu)
      · cases hl

theorem results_eq (fn : Func) (tmps : Array Value) : results fn tmps = (do let vs ← fn.results.mapM (resRun tmps); pure (if h : vs.size = 1 then vs[0] else .tuple vs)) := by
  unfold results
  have : resRun tmps = (fun x => match x with | ResultVar.tmp t => (pure (tmps.getD t undef) : Sem Value) | .cell ad t => do loadVar t (← asAddr (tmps.getD ad undef))) := by
    funext r
    cases r <;> rfl
  rw [this]
  rfl

theorem results_sound (h : Inv B M0 w0 n M O env a w) {fn : Func} {r : AV} (hr : aresults P fn env = some r) : ∃ v, (results fn a.tmps).run P w = .ok v w ∧ R M r v ∧ OwnV O M w r v := by
  unfold aresults at hr
  have hmap : ∀ (l : List AV), optAll (fn.results.toList.map (aresult P env)) = some l → ∃ vs : List Value, (results fn a.tmps).run P w = .ok (if h : vs.toArray.size = 1 then vs.toArray[0] else .tuple vs.toArray) w ∧ l.length = vs.length ∧ ∀ (j : Nat) c v, l[j]? = some c → vs[j]? = some v → R M c v ∧ OwnV O M w c v := by
    intro l hl
    obtain ⟨vs, h1, h2, h3⟩ := run_mapM_results h hl
    refine ⟨vs, ?_, h2, h3⟩
    rw [results_eq, Array.mapM_eq_mapM_toList]
    simp only [Sem.run_bind, Sem.run_map, h1, Result.andThen_ok, Sem.run_pure]
  split at hr
  · rename_i rv hrs
    obtain ⟨vs, h1, h2, h3⟩ := hmap [r] (by rw [hrs]; simp only [List.map_cons, List.map_nil, hr, optAll])
    cases vs with
    | nil => simp at h2
    | cons v vs =>
      cases vs with
      | cons _ _ => simp at h2
      | nil => exact ⟨v, by simpa using h1, h3 0 r v rfl rfl⟩
  · rename_i rs hne
    split at hr
    · rename_i l hl
      cases hr
      obtain ⟨vs, h1, h2, h3⟩ := hmap l hl
      have hlen : vs.length = fn.results.toList.length := by
        have := optAll_spec hl
        have := congrArg List.length this
        simp at this
        simp; omega
      have hn1 : ¬ vs.toArray.size = 1 := by
        intro e
        have e' : fn.results.toList.length = 1 := by rw [← hlen]; simpa using e
        match hrs : fn.results.toList, e' with
        | [rv], _ => exact hne rv hrs
      rw [dif_neg hn1] at h1
      refine ⟨_, h1, R.tup (by simpa using h2) fun j c v hc hv => ?_, trivial⟩
      rw [List.getElem?_map] at hc
      cases hz : l[j]? with
      | none => rw [hz] at hc; cases hc
      | some z =>
        rw [hz] at hc
        cases hc
        exact (h3 j z v hz hv).1.strip
    · cases hr

/-! ### the theorem -/

theorem look_args : ∀ (l : List AV) (i t : Nat) (x : AV), look (argsEnv i l) t = some x → i ≤ t ∧ l[t - i]? = some x
  | [], i, t, x, h => by simp [argsEnv, look] at h
  | y :: l, i, t, x, h => by
    simp only [argsEnv, look] at h
    split at h
    · rename_i hb
      have := Nat.eq_of_beq_eq_true hb
      subst this
      cases h
      exact ⟨Nat.le_refl _, by simp⟩
    · rename_i hb
      obtain ⟨h1, h2⟩ := look_args l (i + 1) t x h
      refine ⟨by omega, ?_⟩
      rw [show t - i = (t - (i + 1)) + 1 by omega]
      simpa using h2

theorem run_sound (hmix : P.follows .mixedOrders = true) {j : J} (h : Run P j) : JOk P j := by
  induction h with
  | skip =>
    refine ⟨fun B M0 w0 M O a w hi Q hQ => wp_skip (hQ _ _ _ _ hi), noloop fun c' e => by cases e⟩
  | ret => exact ⟨fun B M0 w0 M O a w hi Q hQ => wp_ret (hQ _ _ _ _ hi), noloop fun c' e => by cases e⟩
  | exit => exact ⟨fun B M0 w0 M O a w hi Q hQ => wp_exit (hQ _ _ _ _ hi), noloop fun c' e => by cases e⟩
  | seqN _ _ ih1 ih2 =>
    refine ⟨fun B M0 w0 M O a w hi Q hQ => wp_seq (ih1.1 B M0 w0 M O a w hi _ fun a' w' M' O' h' => ih2.1 B M0 w0 M' O' a' w' h' Q hQ), noloop fun c' e => by cases e⟩
  | seqX _ ih =>
    exact ⟨fun B M0 w0 M O a w hi Q hQ => wp_seq (ih.1 B M0 w0 M O a w hi _ fun a' w' M' O' h' => hQ a' w' M' O' h'), noloop fun c' e => by cases e⟩
  | seqR _ ih =>
    exact ⟨fun B M0 w0 M O a w hi Q hQ => wp_seq (ih.1 B M0 w0 M O a w hi _ fun a' w' M' O' h' => hQ a' w' M' O' h'), noloop fun c' e => by cases e⟩
  | @cond n c x y env ex e1 b hc _ ih =>
    refine ⟨fun B M0 w0 M O a w hi Q hQ => ?_, noloop fun c' e => by cases e⟩
    have hv := (aop_sound hi hc).1.bool_inv
    refine wp_cond hv ?_
    have := ih.1 B M0 w0 M O a w hi Q hQ
    cases b <;> exact this
  | @block n id c env ex e1 _ ih =>
    refine ⟨fun B M0 w0 M O a w hi Q hQ => wp_block (ih.1 B M0 w0 M O a w hi _ fun a' w' M' O' h' => ?_), noloop fun c' e => by cases e⟩
    have := hQ a' w' M' O' h'
    cases ex with
    | normal => exact this
    | ret => exact this
    | exit i =>
      simp only [toExit, Exit.inBlock]
      simp only [Ex.unblock] at this
      split at this
      · rename_i hb
        rw [if_pos (Nat.eq_of_beq_eq_true hb)]
        exact this
      · rename_i hb
        rw [if_neg (fun e => by subst e; simp at hb)]
        exact this
  | @loopN n c env e1 ex e2 _ _ ih1 ih2 =>
    have hl : LoopOk P n c env ex e2 := by
      obtain ⟨N, hN⟩ := ih2.2 c rfl
      refine ⟨N + 1, fun B M0 w0 M O a w hi Q hQ => ?_⟩
      rw [rounds_succ]
      exact ih1.1 B M0 w0 M O a w hi _ fun a' w' M' O' h' => hN B M0 w0 M' O' a' w' h' Q hQ
    exact ⟨hl.code, fun c' e => by cases e; exact hl⟩
  | @loopX n c env id e1 _ ih =>
    have hl : LoopOk P n c env (.exit id) e1 := ⟨1, fun B M0 w0 M O a w hi Q hQ => by
      rw [rounds_succ]
      exact ih.1 B M0 w0 M O a w hi _ fun a' w' M' O' h' => hQ a' w' M' O' h'⟩
    exact ⟨hl.code, fun c' e => by cases e; exact hl⟩
  | @loopR n c env e1 _ ih =>
    have hl : LoopOk P n c env .ret e1 := ⟨1, fun B M0 w0 M O a w hi Q hQ => by
      rw [rounds_succ]
      exact ih.1 B M0 w0 M O a w hi _ fun a' w' M' O' h' => hQ a' w' M' O' h'⟩
    exact ⟨hl.code, fun c' e => by cases e; exact hl⟩
  | @region n id ops draw env e1 hd _ ih =>
    refine ⟨fun B M0 w0 M O a w hi Q hQ => ?_, noloop fun c' e => by cases e⟩
    cases draw with
    | false => exact region_seq ih hi hQ
    | true =>
      obtain ⟨h1, h2⟩ := hd rfl
      exact region_draw hmix h1 h2 ih hi hQ
  | @weak n c env ex e1 keep frz nl rl _ ih =>
    have hinv : ∀ {B : Nat} {M0 : Mem} {w0 : World} {M : Mem} {O : Bool → Nat → Option Nat} {a : Act} {w : World}, Inv B M0 w0 n M O env a w → ∃ M' O', Inv B M0 w0 n M' O' (weakE keep frz nl rl env) a w := by
      intro B M0 w0 M O a w hi
      obtain ⟨M', O', h'⟩ := hi.freezeAll frz
      obtain ⟨O2, h2⟩ := Inv.relabAll rl ((Inv.nilAll nl h').drop keep)
      exact ⟨M', O2, h2⟩
    refine ⟨fun B M0 w0 M O a w hi Q hQ => ?_, fun c' e => ?_⟩
    · obtain ⟨M', O', h'⟩ := hinv hi
      exact ih.1 B M0 w0 M' O' a w h' Q hQ
    · obtain ⟨N, hN⟩ := ih.2 c' e
      refine ⟨N, fun B M0 w0 M O a w hi Q hQ => ?_⟩
      obtain ⟨M', O', h'⟩ := hinv hi
      exact hN B M0 w0 M' O' a w h' Q hQ
  | nil => exact .nil
  | drop keep _ ih => exact .drop keep rfl ih
  | @not n draw all o rest env e1 e2 hw he _ ih =>
    exact .step ⟨step_not hw he, fun _ => .inr (pure1_not hw he)⟩ ih
  | @op n draw all o rest env e1 e2 hw he _ ih =>
    refine .step ?_ ih
    cases draw with
    | false => exact ⟨step_op hw he, fun e => by cases e⟩
    | true =>
      simp only [astepD] at he
      split at he
      · rename_i heff
        exact ⟨step_op hw he, fun _ => .inl heff⟩
      · split at he
        · rename_i x hx
          split at he
          · rename_i hnb
            exact ⟨step_pure hw hx he, fun _ => .inr (pure1_op hw hx he fun cs e => by subst e; cases hnb)⟩
          · cases he
        · cases he
  | @callOp n draw all o rest env f args r e1 e2 hw hc _ he _ ihc ih =>
    refine .step ⟨step_call hw hc ihc he, fun hd => .inr ?_⟩ ih
    subst hd
    exact pure1_call hw hc ihc he
  | @call f args r fn c ex e1 hf hb hlen _ hex hres ih =>
    intro M w vs hC hl hR
    refine calls_of_wp hf hb ?_
    have hsz : vs.toArray.size = vs.length := by simp
    have hle := Nat.le_of_ble_eq_true hlen
    have hinv : Inv w.heap.size M w fn.ntmps M (fun _ _ => none) (argsEnv 0 (args.map AV.strip)) { tmps := vs.toArray ++ Array.replicate (fn.ntmps - vs.toArray.size) undef, defers := [] } w := by
      refine ⟨by simp; omega, rfl, Below.refl _ _, rfl, hC, Sub.refl M, fun _ _ _ => rfl, fun i c g e => by (cases e), fun i i' c c' g e => by (cases e), fun t x hx => ?_⟩
      obtain ⟨_, h2⟩ := look_args _ 0 t x hx
      simp only [Nat.sub_zero, List.getElem?_map] at h2
      cases hz : args[t]? with
      | none => rw [hz] at h2; cases h2
      | some z =>
        rw [hz] at h2
        cases h2
        have htl : t < vs.length := by rw [← hl]; exact (List.getElem?_eq_some_iff.1 hz).1
        have hv : (vs.toArray ++ Array.replicate (fn.ntmps - vs.toArray.size) undef).getD t undef = vs[t] := by
          rw [Array.getD_eq_getD_getElem?, Array.getElem?_append_left (by simpa using htl)]
          simp [htl]
        rw [hv]
        exact sat_of_val (valOk_of_r (hR t z _ hz (List.getElem?_eq_getElem htl)).strip (strip_lab z))
    refine ih.1 _ _ _ _ _ _ _ hinv _ fun a' w' M' O' h' => ?_
    obtain ⟨v, hv1, hv2, hv3⟩ := results_sound h' hres
    have hpost : ∃ v M', Ending.returned v = .returned v ∧ True := ⟨v, M', rfl, trivial⟩
    have hown : OwnR M' w.heap.size w' r v := by
      unfold OwnR
      unfold OwnV at hv3
      split at hv3
      · rename_i e k c xs
        rcases hv3 with h1 | ⟨g, cap, cur, q1, q2, q3, q4, q5, q6, q7⟩
        · exact .inl h1
        · exact .inr ⟨g, cap, cur, q1, (h'.own _ _ _ q2).1, q3, q4, q5, q6, q7⟩
      · rename_i hno
        split
        · rename_i e k c xs
          exact absurd rfl (hno e k c xs)
        · trivial
    have fin : ∃ v1, (results fn a'.tmps).run P w' = .ok v1 w' ∧ ∃ v2 M2, Ending.returned v1 = .returned v2 ∧ Below w.heap.size w w' ∧ Sub M M2 ∧ Cons M2 w' ∧ (∀ b o, b < w.heap.size → M2 b o = M b o) ∧ R M2 r v2 ∧ OwnR M2 w.heap.size w' r v2 :=
      ⟨v, hv1, v, M', rfl, h'.below, h'.ext, h'.cons, h'.old, hv2, hown⟩
    cases ex with
    | normal => exact ⟨h'.defers, fin⟩
    | ret => exact ⟨h'.defers, fin⟩
    | exit id => exact hex.elim
end
end Go.AM
