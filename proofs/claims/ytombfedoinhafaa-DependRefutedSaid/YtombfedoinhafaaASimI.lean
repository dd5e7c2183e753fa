/-
  THE ABSTRACT MACHINE AND THE MODEL: single steps. No statement of the seat is proved here.
-/
import Derived.Test.YtombfedoinhafaaASimH
import Derived.Still
set_option linter.unusedVariables false
set_option linter.unusedSimpArgs false
namespace Go.AM
open Go.RowKit

section
variable {B : Nat} {M0 : Mem} {w0 : World} {n : Nat} {M : Mem} {O : Bool → Nat → Option Nat} {env : Env} {a : Act} {w : World} {P : Program}

theorem noLab_val {d : Nat} {x : AV} (h : x.hasLab d = false) {c : Nat} (hc : x.lab? = some c) : c ≠ d := by
  intro e
  subst e
  simp [AV.hasLab, hc] at h

/-- nobody bears mark d: what it stands for is free -/
theorem Inv.clearOwn (h : Inv B M0 w0 n M O env a w) {d : Nat} (hn : labIn d env = false) : Inv B M0 w0 n M (setO O false d none) env a w := by
  have hsub : ∀ i c g, setO O false d none i c = some g → O i c = some g := by
    intro i c g hg
    unfold setO at hg
    split at hg
    · cases hg
    · exact hg
  refine ⟨h.size, h.defers, h.below, h.hB, h.cons, h.ext, h.old, fun i c g hg => h.own i c g (hsub i c g hg), fun i i' c c' g h1 h2 => h.inj i i' c c' g (hsub _ _ _ h1) (hsub _ _ _ h2), fun t x hx => ?_⟩
  have hs := h.slots t x hx
  have hl := noLab_look hn hx
  have ht : ∀ s, setO O false d none true s = O true s := fun s => by simp [setO]
  have hf : ∀ c, c ≠ d → setO O false d none false c = O false c := fun c hc => by simp [setO, hc]
  cases x with
  | box cs =>
    refine BoxOk.change hs (Sub.refl M) (fun g hg => ⟨by rw [ht]; exact hg, rfl, fun _ hm => hm⟩) fun c g z hz hzl hg => ⟨?_, rfl, fun _ hm => hm⟩
    simp only [AV.hasLabB, List.any_eq_false] at hl
    have := hl z hz
    rw [hf c (noLab_val (by simpa using this) hzl)]
    exact hg
  | pb s off =>
    obtain ⟨g, h1, h2⟩ := hs
    exact ⟨g, h1, by rw [ht]; exact h2⟩
  | lst e k o xs =>
    refine sat_of_val ((val_of_sat (fun cs e => by cases e) hs).change (Sub.refl M) (fun s off g e _ => by cases e) fun c g hzl hg => ⟨?_, rfl, fun _ hm => hm⟩)
    rw [hf c (noLab_val (by simpa [AV.hasLabB] using hl) hzl)]
    exact hg
  | _ => exact sat_of_val ((val_of_sat (fun cs e => by cases e) hs).change (Sub.refl M) (fun s off g e _ => by cases e) fun c g hzl hg => by cases hzl)

/-- a fresh slice of the call's own is put into slot d -/
theorem Inv.putFresh (h : Inv B M0 w0 n M O env a w) {d e k g cap : Nat} {xs : List AV} {cur : Array Value} {v : Value} (hdn : d < n) (hn : labIn d env = false) (hR : R M (.lst e k none xs) v)
    (hv : v = .slice none 0 0 ∨ (v = .slice (some ⟨g, 0, none⟩) xs.length cap ∧ B ≤ g ∧ (∀ i c, O i c ≠ some g) ∧ w.heap[g]? = some (.cells cur e (0, 0)) ∧ cur.size = cap * k ∧ xs.length ≤ cap ∧ cap ≤ maxLen ∧ ∀ o, xs.length * k ≤ o → M g o = none)) :
    ∃ O', Inv B M0 w0 n M O' (ins d (.lst e k (some d) xs) env) (a.put (some d) v) w := by
  have h1 := h.clearOwn hn
  rcases hv with rfl | ⟨rfl, hB, hO, hg, hs, hc, hm, hM⟩
  · exact ⟨_, h1.put hdn ⟨hR.setLab, .inl rfl⟩⟩
  · have h2 := h1.setOwn (d := d) (g := g) hn (by simp [setO]) (fun i c hc' => by
      unfold setO at hc'
      split at hc'
      · cases hc'
      · exact hO i c hc') hB (Array.getElem?_eq_some_iff.1 hg).1
    exact ⟨_, h2.put hdn ⟨hR.setLab, .inr ⟨g, cap, cur, rfl, by simp [setO], hg, hs, hc, hm, hM⟩⟩⟩

theorem buildSlice_leads (h : Inv B M0 w0 n M O env a w) {o : Oper} {t m : Nat} {ps : Array (Nat × Operand)} (ho : o.op = .buildSlice t m ps) {env' : Env} (he : astep P n o env = some env') : Leads P B M0 w0 n o a w env' := by
  have hsave := he
  unfold astep at he
  rw [ho] at he
  simp only at he
  split at he
  case h_2 => cases he
  rename_i v hv
  unfold fresh at he
  split at he
  · rename_i e k xs t' hd
    split at he
    · exact pure_leads h hv he
    · rename_i hlab
      rw [hd] at he
      obtain ⟨hdn, rfl⟩ := eput_box he
      unfold apure at hv
      rw [ho] at hv
      simp only at hv
      split at hv
      case h_2 => cases hv
      rename_i l hl
      obtain ⟨e1, k1, xs1, us, e2, h1, h2, h3, h4⟩ := buildSlice_sound (P := P) h ho hl hv
      cases e2
      have h' := h.grown (row := none) (fun g e => by cases e) (World.grownBy_alloc w (.cells us e) none) (sub_addRow h.cons us) (cons_addRow h.cons us e) (fun b o hb _ => addRow_old us b o hb)
      have hBle : B ≤ w.heap.size := by rw [h.hB]; exact h.below.size
      obtain ⟨O', hfin⟩ := h'.putFresh (d := t') (g := w.heap.size) (cap := xs.length) (cur := us) hdn hlab h3 (.inr ⟨rfl, hBle, fun i c hc => by have := (h.own i c _ hc).2; omega, heap_alloc_new w _, h2, Nat.le_refl _, by unfold maxLen; omega, fun o ho => by
        unfold addRow
        rw [if_pos rfl]
        simp [h2, ho]⟩)
      exact ⟨_, _, _, O', .inl h1, by rw [hd]; exact hfin⟩
  · rename_i hno
    exact pure_leads h hv he

/-- every operation that is no call of a Go function -/
theorem astep_leads (h : Inv B M0 w0 n M O env a w) {o : Oper} {env' : Env} (he : astep P n o env = some env') : Leads P B M0 w0 n o a w env' := by
  obtain ⟨dst, op, ty, pos, after, guard⟩ := o
  have pure : (match apure P ⟨dst, op, ty, pos, after, guard⟩ env with | some v => eput n dst v env | none => none) = some env' → Leads P B M0 w0 n ⟨dst, op, ty, pos, after, guard⟩ a w env' := by
    intro hp
    split at hp
    · rename_i v hv
      exact pure_leads h hv hp
    · cases hp
  cases op with
  | alloc t => exact alloc_leads h rfl he
  | box t x => exact box_leads h rfl he
  | store t p x => exact store_leads h rfl he
  | buildSlice t m ps => exact buildSlice_leads h rfl he
  | call c =>
    obtain ⟨callee, args, ats⟩ := c
    cases callee with
    | value f => exact pure he
    | invoke r m => exact pure he
    | builtin b =>
      cases b
      case append => exact append_leads h rfl he
      all_goals exact pure he
  | _ => exact pure he

/-! ### calls -/

def OwnR (M : Mem) (B : Nat) (w : World) (x : AV) (v : Value) : Prop :=
  match x with
  | .lst e k (some _) xs => v = .slice none 0 0 ∨ ∃ g cap cur, v = .slice (some ⟨g, 0, none⟩) xs.length cap ∧ B ≤ g ∧ w.heap[g]? = some (.cells cur e (0, 0)) ∧ cur.size = cap * k ∧ xs.length ≤ cap ∧ cap ≤ maxLen ∧ ∀ o, xs.length * k ≤ o → M g o = none
  | _ => True

/-- what a call does -/
def CallOk (P : Program) (f : Nat) (args : List AV) (r : AV) : Prop :=
  ∀ (M : Mem) (w : World) (vs : List Value), Cons M w → args.length = vs.length → (∀ (j : Nat) c v, args[j]? = some c → vs[j]? = some v → R M c v) →
    Calls P f vs.toArray w fun e w' => ∃ v M', e = .returned v ∧ Below w.heap.size w w' ∧ Sub M M' ∧ Cons M' w' ∧ (∀ b o, b < w.heap.size → M' b o = M b o) ∧ R M' r v ∧ OwnR M' w.heap.size w' r v

theorem below_grown {w w' : World} (h : Below w.heap.size w w') : w.grownBy w' none := ⟨h.os, h.tape, h.output, h.size, fun k hk _ => h.block k hk⟩

/-- a call of a Go function: whom, and with what -/
theorem callee_sound (h : Inv B M0 w0 n M O env a w) {o : Oper} {f : Nat} {args : List AV} (hc : acallee P o env = some (f, args)) :
    ∃ vs : List Value, (execOp a.eval o).run P w = .ok (.enter f vs.toArray) w ∧ args.length = vs.length ∧ ∀ (j : Nat) c v, args[j]? = some c → vs[j]? = some v → R M c v := by
  unfold acallee at hc
  split at hc
  case h_2 => cases hc
  rename_i fo as ats ho
  split at hc
  case h_2 => cases hc
  rename_i g caps l hf hl
  split at hc
  case h_2 => cases hc
  rename_i fn hfn
  split at hc
  case h_2 => cases hc
  rename_i hb
  cases hc
  simp only [Bool.and_eq_true] at hb
  obtain ⟨⟨hb1, hb2⟩, hb3⟩ := hb
  have hfv := (aop_sound h hf).1
  obtain ⟨cvs, e1, e2, e3⟩ : ∃ cvs : List Value, a.eval fo = .func (.func f) #[] cvs.toArray ∧ caps.length = cvs.length ∧ ∀ (j : Nat) c v, caps[j]? = some c → cvs[j]? = some v → R M c v := by
    generalize a.eval fo = y at hfv
    cases hfv with
    | clo h1 h2 => exact ⟨_, rfl, h1, h2⟩
  obtain ⟨l1, l2⟩ := eval_map_r h hl
  refine ⟨as.toList.map a.eval ++ cvs, ?_, by simp at l1 ⊢; omega, ?_⟩
  · unfold execOp
    rw [ho]
    simp only [resolve, Sem.run_bind, e1, Deferred.ofValue, Sem.run_pure, Result.andThen_ok, invoke]
    unfold callFunc
    have hne : (fn.name == "runtime.NumGoroutine") = false := by simpa [bne] using hb1
    simp only [Sem.run_bind, run_program, Result.andThen_ok, hfn, hne, Bool.false_eq_true, if_false]
    have : fn.body.isNone = false := by
      cases hbd : fn.body with
      | none => rw [hbd] at hb2; cases hb2
      | some c => rfl
    rw [this]
    simp only [Bool.false_eq_true, if_false, Sem.run_pure]
    congr 2
    apply Array.ext'
    simp
  · intro j c v hc hv
    simp only [List.all_eq_true] at hb3
    by_cases hj : j < l.length
    · rw [List.getElem?_append_left (by simpa using hj), List.getElem?_map] at hc
      rw [List.getElem?_append_left (by rw [← l1]; exact hj)] at hv
      cases hz : l[j]? with
      | none => rw [hz] at hc; cases hc
      | some z =>
        rw [hz] at hc
        cases hc
        have := l2 j z v hz hv
        have hz3 := hb3 z (List.mem_of_getElem? hz)
        exact (this.r fun s off e => by subst e; cases hz3).strip
    · rw [List.getElem?_append_right (by simpa using Nat.le_of_not_lt hj)] at hc
      rw [List.getElem?_append_right (by rw [← l1]; exact Nat.le_of_not_lt hj)] at hv
      rw [List.length_map] at hc
      rw [← l1] at hv
      exact e3 _ c v hc hv

end
end Go.AM
