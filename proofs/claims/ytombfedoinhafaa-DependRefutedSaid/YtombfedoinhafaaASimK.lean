/-
  THE ABSTRACT MACHINE AND THE MODEL: what an operation looks at. No statement of the seat is proved here.
-/
import Derived.Test.YtombfedoinhafaaASimJ
set_option linter.unusedVariables false
set_option linter.unusedSimpArgs false
namespace Go.AM
open Go.RowKit

section
variable {n : Nat} {P : Program}

/-- E knows all that e knows of these operands -/
def Knows (e E : Env) (xs : List Operand) : Prop := ∀ x, x ∈ xs → ∀ v, aop e x = some v → aop E x = some v
def Boxes (e E : Env) : Prop := ∀ s cs, look e s = some (.box cs) → look E s = some (.box cs)

theorem knows_of {e E : Env} {ts : List Nat} (h : ∀ t, t ∈ ts → ∀ y, look e t = some y → look E t = some y) {xs : List Operand} (hx : ∀ x t, x ∈ xs → x = .tmp t → t ∈ ts) : Knows e E xs := by
  intro x hxm v hv
  cases x with
  | tmp t =>
    have ht := hx _ t hxm rfl
    simp only [aop] at hv ⊢
    cases hl : look e t with
    | none => rw [hl] at hv; cases hv
    | some y =>
      rw [hl] at hv
      rw [h t ht y hl]
      exact hv
  | _ => exact hv

theorem optAll_knows {e E : Env} : ∀ {xs : List Operand} {l : List AV}, Knows e E xs → optAll (xs.map (aop e)) = some l → optAll (xs.map (aop E)) = some l
  | [], l, _, h => h
  | x :: xs, l, hk, h => by
    simp only [List.map_cons] at h ⊢
    cases hx : aop e x with
    | none => rw [hx] at h; cases h
    | some v =>
      rw [hx] at h
      rw [hk x (List.mem_cons_self ..) v hx]
      simp only [optAll] at h ⊢
      split at h
      · rename_i l' hl'
        rw [optAll_knows (fun y hy => hk y (List.mem_cons_of_mem _ hy)) hl']
        exact h
      · cases h

theorem parts_knows {e E : Env} : ∀ {ps : List (Nat × Operand)} {l : List (Nat × AV)}, Knows e E (ps.map (·.2)) →
    optAll (ps.map fun p => match aop e p.2 with | some v => some (p.1, v) | none => none) = some l → optAll (ps.map fun p => match aop E p.2 with | some v => some (p.1, v) | none => none) = some l
  | [], l, _, h => h
  | (i, x) :: ps, l, hk, h => by
    simp only [List.map_cons] at h ⊢ hk
    cases hx : aop e x with
    | none => rw [hx] at h; cases h
    | some v =>
      rw [hx] at h
      rw [hk x (List.mem_cons_self ..) v hx]
      simp only [optAll] at h ⊢
      split at h
      · rename_i l' hl'
        rw [parts_knows (fun y hy => hk y (List.mem_cons_of_mem _ hy)) hl']
        exact h
      · cases h

theorem aoptInt_knows {e E : Env} {d : Int} {x : Option Operand} (hk : Knows e E x.toList) {m : Int} (h : aoptInt e d x = some m) : aoptInt E d x = some m := by
  cases x with
  | none => exact h
  | some y =>
    simp only [aoptInt] at h ⊢
    split at h
    · rename_i k m' hy
      rw [hk y (by simp) _ hy]
      exact h
    · cases h

theorem aload_boxes {e E : Env} {t : TypeId} {p r : AV} (hb : Boxes e E) (h : aload P e t p = some r) : aload P E t p = some r := by
  unfold aload at h ⊢
  split at h
  · rename_i s off
    split at h
    · rename_i cs hl
      simp only [hb s cs hl]
      exact h
    · cases h
  · exact h
  · cases h

theorem aslice_knows {e E : Env} {t : TypeId} {p r : AV} {lo hi : Option Operand} (hk : Knows e E (lo.toList ++ hi.toList)) (h : aslice P t p lo hi e = some r) : aslice P t p lo hi E = some r := by
  have h1 : ∀ d m, aoptInt e d lo = some m → aoptInt E d lo = some m := fun d m => aoptInt_knows fun x hx => hk x (List.mem_append_left _ hx)
  have h2 : ∀ d m, aoptInt e d hi = some m → aoptInt E d hi = some m := fun d m => aoptInt_knows fun x hx => hk x (List.mem_append_right _ hx)
  unfold aslice at h ⊢
  split at h
  · split at h
    · split at h
      · split at h
        · rename_i l m hl hm
          simp only [h1 _ _ hl, h2 _ _ hm]
          simp_all
        · cases h
      · cases h
    · cases h
  · split at h
    · split at h
      · rename_i l m hl hm
        simp only [h1 _ _ hl, h2 _ _ hm]
        simp_all
      · cases h
    · cases h
  · cases h

theorem apure_knows {e E : Env} {o : Oper} {x : AV} (hk : Knows e E o.op.operands.toList) (hb : Boxes e E) (h : apure P o e = some x) : apure P o E = some x := by
  obtain ⟨dst, op, ty, pos, after, guard⟩ := o
  cases op with
  | move y => exact hk y (by simp [Op.operands]) _ h
  | assign y => exact hk y (by simp [Op.operands]) _ h
  | pick c p q =>
    simp only [apure] at h ⊢
    split at h
    · rename_i hc
      rw [hk c (by simp [Op.operands]) _ hc]
      exact hk p (by simp [Op.operands]) _ h
    · rename_i hc
      rw [hk c (by simp [Op.operands]) _ hc]
      exact hk q (by simp [Op.operands]) _ h
    · cases h
  | binOp op t y z t' =>
    simp only [apure] at h ⊢
    split at h
    · rename_i p q hp hq
      rw [hk y (by simp [Op.operands]) _ hp, hk z (by simp [Op.operands]) _ hq]
      exact h
    · cases h
  | unOp op t y =>
    simp only [apure] at h ⊢
    split at h
    · rename_i p hp
      rw [hk y (by simp [Op.operands]) _ hp]
      exact h
    · cases h
  | convert s t y =>
    simp only [apure] at h ⊢
    split at h
    · rename_i p hp
      rw [hk y (by simp [Op.operands]) _ hp]
      exact h
    · cases h
  | build t ps =>
    simp only [apure] at h ⊢
    split at h
    · rename_i l hl
      have : parts? E ps = some l := parts_knows (by simpa [Op.operands] using hk) hl
      rw [this]
      exact h
    · cases h
  | buildSlice t m ps =>
    simp only [apure] at h ⊢
    split at h
    · rename_i l hl
      have : parts? E ps = some l := parts_knows (by simpa [Op.operands] using hk) hl
      rw [this]
      exact h
    · cases h
  | load t y =>
    simp only [apure] at h ⊢
    split at h
    · rename_i p hp
      rw [hk y (by simp [Op.operands]) _ hp]
      exact aload_boxes hb h
    · cases h
  | fieldAddr t y f =>
    simp only [apure] at h ⊢
    split at h
    · rename_i p hp
      rw [hk y (by simp [Op.operands]) _ hp]
      exact h
    · cases h
  | field t y f =>
    simp only [apure] at h ⊢
    split at h
    · rename_i cs o' ft sz hp hf
      rw [hk y (by simp [Op.operands]) _ hp, hf]
      exact h
    · cases h
  | indexAddr t y i =>
    simp only [apure] at h ⊢
    split at h
    · rename_i p q hp hq
      rw [hk y (by simp [Op.operands]) _ hp, hk i (by simp [Op.operands]) _ hq]
      exact h
    · cases h
  | index t y i =>
    simp only [apure] at h ⊢
    split at h
    · rename_i p q hp hq
      rw [hk y (by simp [Op.operands]) _ hp, hk i (by simp [Op.operands]) _ hq]
      exact h
    · cases h
  | slice t y lo hi mx =>
    cases mx with
    | some _ => simp [apure] at h
    | none =>
      simp only [apure] at h ⊢
      split at h
      · rename_i p hp
        rw [hk y (by simp [Op.operands]) _ hp]
        refine aslice_knows (fun z hz => hk z ?_) h
        simp only [Op.operands]
        simp at hz ⊢
        rcases hz with hz | hz
        · exact .inr (.inl hz)
        · exact .inr (.inr hz)
      · cases h
  | makeFunc fn first caps =>
    cases fn <;> simp only [apure] at h ⊢ <;> try (cases h; done)
    split at h
    · rename_i l hf hl
      rw [optAll_knows (fun z hz => hk z (by simp [Op.operands]; exact .inr (by simpa using hz))) hl]
      simp only [hf]
      exact h
    · cases h
  | extract y i =>
    simp only [apure] at h ⊢
    split at h
    · rename_i vs hp
      rw [hk y (by simp [Op.operands]) _ hp]
      exact h
    · cases h
  | nilCheck y =>
    simp only [apure] at h ⊢
    split at h
    · rename_i z hp
      rw [hk y (by simp [Op.operands]) _ hp]
      exact h
    · rename_i s m hp
      rw [hk y (by simp [Op.operands]) _ hp]
      exact h
    · cases h
  | call c =>
    obtain ⟨callee, args, ats⟩ := c
    cases callee with
    | value f => simp [apure] at h
    | invoke r m => simp [apure] at h
    | builtin b =>
      have hka : ∀ y, y ∈ args.toList → ∀ v, aop e y = some v → aop E y = some v := fun y hy => hk y (by simp [Op.operands, Call.operands]; simpa using hy)
      cases b <;> simp only [apure] at h ⊢ <;> try (cases h; done)
      case len =>
        split at h
        · rename_i y t ha ht
          split at h
          · rename_i p hp
            rw [hka y (by rw [ha]; simp) _ hp]
            exact h
          · cases h
        · cases h
      case max =>
        split at h
        · rename_i y z ha
          split at h
          · rename_i k p k' q hp hq
            rw [hka y (by rw [ha]; simp) _ hp, hka z (by rw [ha]; simp) _ hq]
            exact h
          · cases h
        · cases h
      case min =>
        split at h
        · rename_i y z ha
          split at h
          · rename_i k p k' q hp hq
            rw [hka y (by rw [ha]; simp) _ hp, hka z (by rw [ha]; simp) _ hq]
            exact h
          · cases h
        · cases h
  | _ => simp [apure] at h

theorem apure_noBox {e : Env} {B : Nat} {M0 : Mem} {w0 : World} {M : Mem} {O : Bool → Nat → Option Nat} {a : Act} {w : World} {o : Oper} {x : AV} (h : Inv B M0 w0 n M O e a w) (hx : apure P o e = some x) : ∀ cs, x ≠ .box cs := by
  intro cs e1
  subst e1
  obtain ⟨v, w', M', _, _, _, _, _, hv⟩ := pure_sound h hx
  exact hv

theorem acallee_knows {e E : Env} {o : Oper} {f : Nat} {args : List AV} (hk : Knows e E o.op.operands.toList) (h : acallee P o e = some (f, args)) : acallee P o E = some (f, args) := by
  unfold acallee at h ⊢
  split at h
  case h_2 => cases h
  rename_i fo as ats ho
  rw [ho] at hk
  split at h
  case h_2 => cases h
  rename_i g caps l hf hl
  have h1 := hk fo (by simp [Op.operands, Call.operands]) _ hf
  have h2 := optAll_knows (E := E) (fun z hz => hk z (by simp [Op.operands, Call.operands]; exact .inr (by simpa using hz))) hl
  simp only [h1, h2]
  exact h

theorem awanted_knows {all : List Oper} {e E : Env} {o : Oper} {b : Bool} (hk : ∀ t, t ∈ namesOf all.toArray o → ∀ y, look e t = some y → look E t = some y) (h : awanted all o e = some b) : awanted all o E = some b := by
  unfold awanted at h ⊢
  split at h
  · exact h
  · rename_i j want hg
    split at h
    · cases h
    · rename_i t ht
      split at h
      · rename_i c hl
        have : t ∈ namesOf all.toArray o := by
          unfold namesOf
          rw [hg]
          refine List.mem_append_right _ ?_
          have ht' : (all.toArray[j]?.bind fun x => x.dst) = some t := by simpa using ht
          simp only [ht']
          simp
        simp only [ht, hk t this _ hl]
        exact h
      · rename_i hl
        have : t ∈ namesOf all.toArray o := by
          unfold namesOf
          rw [hg]
          refine List.mem_append_right _ ?_
          have ht' : (all.toArray[j]?.bind fun x => x.dst) = some t := by simpa using ht
          simp only [ht']
          simp
        simp only [ht, hk t this _ hl]
        exact h
      · cases h

theorem knows_names {all : List Oper} {e E : Env} {o : Oper} (hk : ∀ t, t ∈ namesOf all.toArray o → ∀ y, look e t = some y → look E t = some y) : Knows e E o.op.operands.toList := by
  refine knows_of hk fun x t hx ht => ?_
  subst ht
  unfold namesOf
  refine List.mem_append_left _ (List.mem_append_right _ ?_)
  exact List.mem_filterMap.2 ⟨_, hx, rfl⟩

/-- an operation of a drawing region that makes nothing but its result -/
theorem pure1_op {all : List Oper} {o : Oper} {e e1 : Env} {x : AV} (hw : awanted all o e = some true) (hx : apure P o e = some x) (he : eput n o.dst x e = some e1) (hnb : ∀ cs, x ≠ .box cs) : Pure1 P n all o e e1 := by
  refine ⟨x, he, hnb, fun E hk hb => ?_⟩
  obtain ⟨_, hd, _⟩ := eput_insO he
  intro B M0 w0 M O a w h K Q hK
  rw [wanted_sound h (awanted_knows hk hw)]
  simp only [if_true]
  obtain ⟨v, w', M', h1, h2, h3, h4, h5, h6⟩ := pure_sound h (apure_knows (knows_names hk) hb hx)
  have h' := h.grown (row := none) (fun g e => by cases e) h2 h3 h4 (fun b o hb _ => h5 b o hb)
  unfold Oper.wp
  rw [h1]
  exact hK _ _ _ _ (insO_inv h' h6 hd)

theorem pure1_not {all : List Oper} {o : Oper} {e e1 : Env} (hw : awanted all o e = some false) (he : eput n o.dst .und e = some e1) : Pure1 P n all o e e1 := by
  refine ⟨.und, he, (fun cs e => by cases e), fun E hk hb => ?_⟩
  obtain ⟨_, hd, _⟩ := eput_insO he
  intro B M0 w0 M O a w h K Q hK
  rw [wanted_sound h (awanted_knows hk hw)]
  simp only [Bool.false_eq_true, if_false]
  exact hK _ _ _ _ (insO_inv h (x := .und) ⟨.und, trivial⟩ hd)

theorem pure1_call {all : List Oper} {o : Oper} {e e1 : Env} {f : Nat} {args : List AV} {r : AV} (hw : awanted all o e = some true) (hc : acallee P o e = some (f, args)) (hr : CallOk P f args r) (he : callPut n true o.dst r e = some e1) : Pure1 P n all o e e1 := by
  have he' : notBox r.strip = true ∧ eput n o.dst r.strip e = some e1 := by
    unfold callPut at he
    simp only at he
    split at he
    · rename_i hb
      exact ⟨hb, he⟩
    · cases he
  obtain ⟨hnb, he⟩ := he'
  refine ⟨r.strip, he, (fun cs e => by rw [e] at hnb; cases hnb), fun E hk hb => ?_⟩
  obtain ⟨_, hd, _⟩ := eput_insO he
  intro B M0 w0 M O a w h K Q hK
  rw [wanted_sound h (awanted_knows hk hw)]
  simp only [if_true]
  exact callOk_leads (all := all) (acallee_knows (knows_names hk) hc) hr h fun v w' M' h' hR _ _ _ => hK _ _ _ _ (insO_inv h' (valOk_of_r hR.strip (strip_lab r)) hd)
end
end Go.AM
