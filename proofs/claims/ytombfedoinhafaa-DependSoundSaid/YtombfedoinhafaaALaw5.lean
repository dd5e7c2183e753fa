/-
  CHAPTER 1, PLAIN: the reference's closure is the closure. No statement of the seat is proved here.
-/
import Derived.Test.YtombfedoinhafaaALawChecks
import Derived.Test.YtombfedoinhafaaG5
set_option linter.unusedVariables false
set_option linter.unusedSimpArgs false
namespace Go.AM

def passR : List rf1Dep → Int → Int
  | [], v => v
  | d :: r, v => passR r (bif iAndNot .i64 d.f_From v == 0 then iOr .i64 v d.f_To else v)

theorem passR_l2 (K : Int → Option Int) : ∀ (l : List rf1Dep) (k : Nat) (v : Int), rf1_Closure_l2 K l k v = K (passR l v)
  | [], k, v => rfl
  | d :: l, k, v => by
    rw [rf1_Closure_l2.eq_2]
    unfold passR rf1_Closure_j10
    cases (iAndNot .i64 d.f_From v == 0)
    · simp only [cond_false]; exact passR_l2 K l _ _
    · simp only [cond_true]; exact passR_l2 K l _ _

theorem passR_spec : ∀ (l : List rf1Dep) (v : Int), wf64 v → wf64 (passR l v) ∧ Bits v (passR l v) ∧ (∀ c, Shut (l.map toDep) c → Bits v c → Bits (passR l v) c) ∧ (∀ d, d ∈ l → Bits d.f_From v → Bits d.f_To (passR l v))
  | [], v, hv => ⟨hv, Bits.refl v, fun c _ h => h, fun d hd => by cases hd⟩
  | d :: l, v, hv => by
    unfold passR
    cases hc : (iAndNot .i64 d.f_From v == 0) with
    | false =>
      simp only [cond_false]
      obtain ⟨h1, h2, h3, h4⟩ := passR_spec l v hv
      refine ⟨h1, h2, fun c hs => h3 c (fun e he => hs e (by simp at he ⊢; exact .inr he)), fun e he hf => ?_⟩
      rcases List.mem_cons.1 he with rfl | he
      · rw [andNot_zero.2 hf] at hc; cases hc
      · exact h4 e he hf
    | true =>
      simp only [cond_true]
      have hf := andNot_zero.1 hc
      obtain ⟨h1, h2, h3, h4⟩ := passR_spec l (iOr .i64 v d.f_To) (wf_or _ _)
      refine ⟨h1, (sub_or_left _ _).trans h2, fun c hs hv => h3 c (fun e he => hs e (by simp at he ⊢; exact .inr he)) (or_sub hv (hs (toDep d) (by simp) (hf.trans hv))), fun e he hfe => ?_⟩
      rcases List.mem_cons.1 he with rfl | he
      · exact (sub_or_right _ _).trans h2
      · exact h4 e he (hfe.trans (sub_or_left _ _))

/-- what a pass adds is of a dependency whose right side was not there -/
theorem passR_sub : ∀ (l : List rf1Dep) (v w : Int), Bits v w → (∀ d, d ∈ l → Bits d.f_To (passR l v) → Bits d.f_To w) → wf64 v → Bits (passR l v) w
  | [], v, w, h, _, _ => h
  | d :: l, v, w, h, hd, hv => by
    unfold passR at hd ⊢
    cases hc : (iAndNot .i64 d.f_From v == 0) with
    | false =>
      rw [hc] at hd
      simp only [cond_false] at hd ⊢
      exact passR_sub l v w h (fun e he => hd e (by simp [he])) hv
    | true =>
      rw [hc] at hd
      simp only [cond_true] at hd ⊢
      obtain ⟨_, h2, _⟩ := passR_spec l (iOr .i64 v d.f_To) (wf_or _ _)
      exact passR_sub l _ w (or_sub h (hd d (by simp) ((sub_or_right _ _).trans h2))) (fun e he => hd e (by simp [he])) (wf_or _ _)

def cnt (l : List rf1Dep) (v : Int) : Nat := l.countP fun d => has d.f_To v

theorem cnt_more {v w : Int} (hmono : ∀ d : rf1Dep, has d.f_To v = true → has d.f_To w = true) : ∀ (l : List rf1Dep), (∃ d, d ∈ l ∧ has d.f_To w = true ∧ has d.f_To v = false) → cnt l v < cnt l w
  | [], h => by obtain ⟨d, hd, _⟩ := h; cases hd
  | e :: l, h => by
    obtain ⟨d, hd, ha, hb⟩ := h
    have hle : cnt l v ≤ cnt l w := List.countP_mono_left (fun x _ hx => hmono x hx)
    unfold cnt at hle ⊢
    rw [List.countP_cons, List.countP_cons]
    rcases List.mem_cons.1 hd with rfl | hd
    · rw [ha, hb]; simp; omega
    · have := cnt_more hmono l ⟨d, hd, ha, hb⟩
      unfold cnt at this
      cases h1 : has e.f_To v with
      | true => rw [hmono e h1]; simp; omega
      | false =>
        cases h2 : has e.f_To w with
        | true => simp; omega
        | false => simpa using this

theorem cnt_lt {l : List rf1Dep} {v : Int} (hv : wf64 v) (h : passR l v ≠ v) : cnt l v < cnt l (passR l v) := by
  obtain ⟨h1, h2, _, _⟩ := passR_spec l v hv
  have hex : ∃ d, d ∈ l ∧ has d.f_To (passR l v) = true ∧ has d.f_To v = false := by
    apply Classical.byContradiction
    intro hn
    apply h
    refine (Bits.antisymm hv h1 h2 (passR_sub l v v (Bits.refl v) (fun d hd ht => ?_) hv)).symm
    apply Classical.byContradiction
    intro hnt
    refine hn ⟨d, hd, has_iff.2 ht, ?_⟩
    cases hh : has d.f_To v with
    | false => rfl
    | true => exact absurd (has_iff.1 hh) hnt
  exact cnt_more (fun d hd => has_iff.2 ((has_iff.1 hd).trans h2)) l hex

def passes (l : List rf1Dep) : Nat → Int → Int
  | 0, v => v
  | m + 1, v => passes l m (passR l v)

theorem passes_l1 {l : List rf1Dep} (hl : lenOk l = true) (K : Int → Option Int) : ∀ (r : List rf1Dep) (k : Nat) (v : Int), rf1_Closure_l1 l K r k v = K (passes l r.length v)
  | [], k, v => rfl
  | x :: r, k, v => by
    rw [rf1_Closure_l1.eq_2]
    simp only [hl, chk, cond_true]
    rw [passR_l2]
    unfold rf1_Closure_j7
    exact passes_l1 hl K r (k + 1) _

theorem passes_fix {l : List rf1Dep} {v : Int} (h : passR l v = v) : ∀ m, passes l m v = v
  | 0 => rfl
  | m + 1 => by unfold passes; rw [h]; exact passes_fix h m

theorem passes_spec {l : List rf1Dep} {x : Int} : ∀ (m : Nat) (v : Int), wf64 v → Bits x v → (∀ c, Shut (l.map toDep) c → Bits x c → Bits v c) → l.length ≤ m + cnt l v →
    IsClosure (l.map toDep) x (passes l m v)
  | 0, v, hv, hx, hle, hm => by
    refine ⟨hv, hx, fun d hd _ => ?_, hle⟩
    obtain ⟨e, he, rfl⟩ := List.mem_map.1 hd
    have : cnt l v = l.length := Nat.le_antisymm (List.countP_le_length) (by omega)
    unfold cnt at this
    rw [List.countP_eq_length] at this
    exact has_iff.1 (this e he)
  | m + 1, v, hv, hx, hle, hm => by
    unfold passes
    obtain ⟨h1, h2, h3, h4⟩ := passR_spec l v hv
    by_cases h : passR l v = v
    · rw [h, passes_fix h]
      refine ⟨hv, hx, fun d hd hf => ?_, hle⟩
      obtain ⟨e, he, rfl⟩ := List.mem_map.1 hd
      have := h4 e he hf
      rwa [h] at this
    · have := cnt_lt hv h
      exact passes_spec m _ h1 (hx.trans h2) (fun c hs hc => h3 c hs (hle c hs hc)) (by omega)

theorem rClosure_val {l : List rf1Dep} (hl : lenOk l = true) {x : Int} (hx : wf64 x) : rf1_Closure l x = some (cl (l.map toDep) x) := by
  unfold rf1_Closure
  rw [hl]
  simp only [chk, cond_true]
  rw [passes_l1 hl]
  unfold rf1_Closure_j4
  have hl' : lenOk (l.map toDep) = true := by unfold lenOk at hl ⊢; simpa using hl
  rw [(passes_spec (l := l) (x := x) l.length x hx (Bits.refl x) (fun c _ h => h) (by omega)).unique (cl_spec hl' hx)]

theorem rFollows_val {l : List rf1Dep} (hl : lenOk l = true) {d : rf1Dep} (hx : wf64 d.f_From) : rf1_Follows l d = some (has d.f_To (cl (l.map toDep) d.f_From)) := by
  unfold rf1_Follows
  rw [rClosure_val hl hx]; rfl

end Go.AM
