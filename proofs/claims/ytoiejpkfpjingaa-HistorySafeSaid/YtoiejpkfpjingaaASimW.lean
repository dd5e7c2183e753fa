/- s -/
import Derived.Test.YtoiejpkfpjingaaASimT
set_option linter.unusedVariables false
set_option linter.unusedSimpArgs false
namespace Go.AM
open Go.RowKit
section
variable {n : Nat} {P : Program} {all : List Oper}
theorem LE.refl (E : Env) : LE E E := fun _ => rfl
theorem LE.symm {E F : Env} (h : LE E F) : LE F E := fun t => (h t).symm
theorem LE.trans {E F G : Env} (h : LE E F) (k : LE F G) : LE E G := fun t => (h t).trans (k t)
theorem LE.ins {E F : Env} (h : LE E F) (d : Nat) (x : AV) : LE (ins d x E) (ins d x F) := fun t => by rw [look_ins, look_ins, h t]
theorem LE.insO {E F : Env} (h : LE E F) (d : Option Nat) (x : AV) : LE (insO d x E) (insO d x F) := by
 cases d with
 | none => exact h
 | some d => exact h.ins d x
theorem LE.map {E F : Env} (h : LE E F) (g : AV → AV) : LE (E.map fun p => (p.1, g p.2)) (F.map fun p => (p.1, g p.2)) := fun t => by rw [look_map g, look_map g, h t]
theorem LE.inv {bs : Base} {M : Mem} {O : Gh} {E F : Env} {a : Act} {w : World} (h : LE E F) (hi : Inv bs n M O E a w) : Inv bs n M O F a w := hi.looks fun s => (h s).symm
theorem stepSem_le {o : Oper} {E F E1 F1 : Env} (h : StepSem P n all o E E1) (h1 : LE E F) (h2 : LE E1 F1) : StepSem P n all o F F1 := fun bs M O a w hi K Q hK =>
 h bs M O a w (h1.symm.inv hi) K Q fun a' w' M' O' h' => hK a' w' M' O' (h2.inv h')
theorem look_filter_other {s t : Nat} (h : t ≠ s) : ∀ (E : Env), look (E.filter fun q => !Nat.beq q.1 s) t = look E t
 | [] => rfl
 | (r, x) :: E => by
  simp only [List.filter_cons]
  split
  ·simp only [look]
   split
   ·rfl
   ·exact look_filter_other h E
  ·rename_i hr
   rw [look_filter_other h E]
   simp only [look]
   split
   ·rename_i ht
    have := Nat.eq_of_beq_eq_true ht
    subst this
    exfalso
    apply hr
    simp only [Bool.not_eq_true']
    exact Bool.eq_false_iff.2 fun e => h (Nat.eq_of_beq_eq_true e)
   ·rfl
def ded : Env → Env
 | [] => []
 | p :: r => p :: (ded r).filter fun q => !Nat.beq q.1 p.1
theorem look_ded : ∀ (E : Env) (t : Nat), look (ded E) t = look E t
 | [], t => rfl
 | (s, x) :: r, t => by
  simp only [ded, look]
  split
  ·rfl
  ·rename_i hs
   have hne : t ≠ s := fun e => by subst e; simp at hs
   rw [look_filter_other hne]
   exact look_ded r t
theorem mem_ded : ∀ {E : Env} {p : Nat × AV}, p ∈ ded E → look E p.1 = some p.2
 | (s, x) :: r, p, h => by
  simp only [ded, List.mem_cons, List.mem_filter] at h
  rcases h with rfl | ⟨h, hne⟩
  ·simp [look]
  ·have h1 := mem_ded h
   simp only [look]
   split
   ·rename_i hs
    have := Nat.eq_of_beq_eq_true hs
    rw [this] at hne
    simp at hne
   ·exact h1
theorem clear_ded {id : Nat} {E : Env} (h : ClearL id E) : clearOf id (ded E) = true := by
 unfold clearOf
 rw [List.all_eq_true]
 intro p hp
 have h1 := mem_ded hp
 simp only [Bool.and_eq_true, Bool.not_eq_true']
 refine ⟨Bool.eq_false_iff.2 fun e => ?_, h.2 _ _ h1⟩
 have := Nat.eq_of_beq_eq_true e
 rw [this, h.1] at h1
 cases h1
def Fr (o : Oper) (E : Env) : Prop := ∀ d, o.dst = some d → look E d = none ∧ d < 1000000
def IsP (P : Program) (n : Nat) (all : List Oper) (o : Oper) (E E1 : Env) : Prop :=
 isEff o.op = false ∧ ∃ x, x.ent = false ∧ LE (insO o.dst x E) E1 ∧ ∀ F, NA all o E F → (memFree o.op = true ∨ EA E F) → StepSem P n all o F (insO o.dst x F)
def Stp (P : Program) (n : Nat) (all : List Oper) (o : Oper) (E E1 : Env) : Prop :=
 StepSem P n all o E E1 ∧ Fr o E ∧ (isEff o.op = false → IsP P n all o E E1) ∧ (o.guard = none → isMk o.op = true → IsA P n all o E E1) ∧ (o.guard = none → isApp o.op = true → IsB P n all o E E1)
theorem na_le {o : Oper} {E F G : Env} (h : LE E F) (k : NA all o F G) : NA all o E G := fun t ht y hy => k t ht y (by unfold lookS at hy ⊢; rw [← h t]; exact hy)
theorem ea_le {E F G : Env} (h : LE E F) (k : EA F G) : EA E G := fun s x hx hl => k s x hx (by rw [← h s]; exact hl)
theorem clear_le {id : Nat} {E F : Env} (h : LE E F) (k : ClearL id E) : ClearL id F := ⟨by rw [← h id]; exact k.1, fun s x hx => k.2 s x (by rw [h s]; exact hx)⟩
theorem Stp.le {o : Oper} {E F E1 : Env} (h : Stp P n all o E E1) (hl : LE E F) : Stp P n all o F E1 := by
 obtain ⟨h1, h2, h3, h4, h5⟩ := h
 refine ⟨stepSem_le h1 hl (LE.refl _), fun d hd => ⟨by rw [← hl d]; exact (h2 d hd).1, (h2 d hd).2⟩, fun he => ?_, fun hg he => ?_, fun hg he => ?_⟩
 ·obtain ⟨k0, x, k1, k2, k3⟩ := h3 he
  exact ⟨k0, x, k1, (hl.symm.insO _ _).trans k2, fun G hG hm => k3 G (na_le hl hG) (hm.imp id fun hm => ea_le hl hm)⟩
 ·obtain ⟨k0, d, x, y, k1, k2, k3, k4, k5⟩ := h4 hg he
  exact ⟨k0, d, x, y, k1, k2, clear_le hl k3, ((hl.symm.ins _ _).ins _ _).trans k4, fun G hG => k5 G (na_le hl hG)⟩
 ·obtain ⟨k0, k⟩ := h5 hg he
  refine ⟨k0, k.imp id ?_⟩
  rintro ⟨d, v, g, k1, k2, k3, k4, k5⟩
  exact ⟨d, v, g, k1, ((hl.symm.map g).ins _ _).trans k2, k3, fun x hx t ht => by rw [← hl t]; exact k4 x hx t ht, fun G hG => k5 G (na_le hl hG)⟩
theorem not_mem_names {all : List Oper} {o : Oper} {t : Nat} (h : (!(namesOf all.toArray o).any (Nat.beq t)) = true) : t ∉ namesOf all.toArray o := by
 intro ht
 simp only [Bool.not_eq_true', List.any_eq_false] at h
 exact h t ht (by simp)
theorem swap_stp {x k : Oper} {E E1 E2 : Env} (hx : Stp P n all x E E1) (hk : Stp P n all k E1 E2) (hs : swapOk all.toArray x k = true) (hu : Unord all k x) :
  ∃ F1 F2, Stp P n all k E F1 ∧ Stp P n all x F1 F2 ∧ LE F2 E2 := by
 unfold swapOk at hs
 simp only [Bool.and_eq_true, Bool.or_eq_true, Bool.not_eq_true'] at hs
 obtain ⟨hs, hn1, hn2⟩ := hs
 obtain ⟨x1, x2, x3, x4, x5⟩ := hx
 obtain ⟨k1, k2, k3, k4, k5⟩ := hk
 have hxe : isEff x.op = false := by
  rcases hs with hs | ⟨_, hs | hs⟩
  ·exact hs.1
  ·exact hs.1
  ·have := hs.1
   unfold isMv at this
   split at this
   ·rename_i ho; rw [ho]; rfl
   ·cases this
 obtain ⟨_, vx, p1, p2, p3⟩ := x3 hxe
 have hN1 : ∀ d, x.dst = some d → d ∉ namesOf all.toArray k := fun d hd => by rw [hd] at hn1; exact not_mem_names (by simpa using hn1)
 have hN2 : ∀ d, k.dst = some d → d ∉ namesOf all.toArray x := fun d hd => by rw [hd] at hn2; exact not_mem_names (by simpa using hn2)
 have hdd : ∀ d d', x.dst = some d → k.dst = some d' → d ≠ d' := fun d d' h1 h2 e => by subst e; exact hN1 d h1 (mem_names h2)
 have hE1 : ∀ t, x.dst ≠ some t → look E1 t = look E t := fun t ht => by rw [← p2 t, look_insO ht]
 have hk0 : Fr k E := fun d hd => by
  have := k2 d hd
  rw [hE1 d fun e => hdd d d e hd rfl] at this
  exact this
 have naE : NA all k E1 E := fun t ht y hy => by
  unfold lookS at hy ⊢
  rw [hE1 t fun e => hN1 t e ht] at hy
  exact hy
 have naEF : ∀ {F : Env}, NA all k E F → NA all k E1 F := fun hF t ht y hy => hF t ht y (naE t ht y hy)
 rcases hs with ⟨_, hke⟩ | ⟨hgn, ⟨_, hmk⟩ | ⟨hmv, happ⟩⟩
 ·
  obtain ⟨_, vk, q1, q2, q3⟩ := k3 hke
  have eaE1 : EA E1 E := fun s y hy hl => by
   by_cases hsx : x.dst = some s
   ·rw [← p2 s, hsx] at hl
    simp only [insO] at hl
    rw [look_ins, if_pos rfl] at hl
    cases hl
    rw [p1] at hy; cases hy
   ·rw [hE1 s hsx] at hl
    exact hl
  have hF : StepSem P n all k E (insO k.dst vk E) := q3 E naE (.inr eaE1)
  have hlook : ∀ t, k.dst ≠ some t → look (insO k.dst vk E) t = look E t := fun t ht => look_insO ht
  have naX : ∀ {F : Env}, NA all x (insO k.dst vk E) F → NA all x E F := fun hF t ht y hy => hF t ht y (by
   unfold lookS at hy ⊢
   rw [hlook t fun e => hN2 t e ht]
   exact hy)
  have eaE : EA E (insO k.dst vk E) := fun s y hy hl => by
   rw [hlook s fun e => by rw [(hk0 s e).1] at hl; cases hl]
   exact hl
  refine ⟨insO k.dst vk E, insO x.dst vx (insO k.dst vk E), ⟨hF, hk0, fun _ => ⟨hke, vk, q1, LE.refl _, fun F hF hm => q3 F (naEF hF) (hm.imp id fun hm => eaE1.trans hm)⟩, fun _ he => ?_, fun _ he => ?_⟩, ⟨p3 _ (fun t ht y hy => by
   unfold lookS at hy ⊢
   rw [hlook t fun e => hN2 t e ht]
   exact hy) (.inr eaE), fun d hd => ⟨by rw [hlook d fun e => hdd d d hd e rfl]; exact (x2 d hd).1, (x2 d hd).2⟩, fun _ => ⟨hxe, vx, p1, LE.refl _, fun F hF hm => p3 F (naX hF) (hm.imp id fun hm => eaE.trans hm)⟩, fun _ he => ?_, fun _ he => ?_⟩, fun t => ?_⟩
  ·exact absurd he (by unfold isMk; unfold isEff at hke; split <;> simp_all)
  ·exact absurd he (by unfold isApp; unfold isEff at hke; split <;> simp_all)
  ·exact absurd he (by unfold isMk; unfold isEff at hxe; split <;> simp_all)
  ·exact absurd he (by unfold isApp; unfold isEff at hxe; split <;> simp_all)
  ·rw [← q2 t]
   by_cases h1 : x.dst = some t
   ·have h2 : k.dst ≠ some t := fun e => hdd t t h1 e rfl
    rw [look_insO h2, ← p2 t, h1]
    simp only [insO]
    rw [look_ins, if_pos rfl, look_ins, if_pos rfl]
   ·rw [look_insO h1]
    by_cases h2 : k.dst = some t
    ·rw [h2]
     simp only [insO]
     rw [look_ins, if_pos rfl, look_ins, if_pos rfl]
    ·rw [look_insO h2, look_insO h2, hE1 t h1]
 ·
  obtain ⟨_, d, xv, ob, a1, a2, a3, a4, a5⟩ := k4 (Option.isNone_iff_eq_none.1 hgn) hmk
  have hdx : x.dst ≠ some d := fun e => hdd d d e a1 rfl
  have hdE : look E d = none := (hk0 d a1).1
  have hid : x.dst ≠ some (1000000 + d) := fun e => absurd (x2 _ e).2 (Nat.not_lt_of_le (Nat.le_add_right _ _))
  have hcE : ClearL (1000000 + d) E := ⟨by rw [← hE1 _ hid]; exact a3.1, fun s y hy => a3.2 s y (by
   rw [hE1 s fun e => by rw [(x2 s e).1] at hy; cases hy]
   exact hy)⟩
  have hne : 1000000 + d ≠ d := by omega
  have hlook : ∀ t, t ≠ d → t ≠ 1000000 + d → look (ins (1000000 + d) ob (ins d xv E)) t = look E t := fun t h1 h2 => by rw [look_ins, if_neg h2, look_ins, if_neg h1]
  have eaE : EA E (ins (1000000 + d) ob (ins d xv E)) := fun s y hy hl => by
   rw [hlook s (fun e => by subst e; rw [hdE] at hl; cases hl) (fun e => by subst e; rw [hcE.1] at hl; cases hl)]
   exact hl
  have naX : NA all x E (ins (1000000 + d) ob (ins d xv E)) := fun t ht y hy => by
   unfold lookS at hy ⊢
   rw [hlook t (fun e => by subst e; rw [hdE] at hy; cases hy) (fun e => by subst e; rw [hcE.1] at hy; cases hy)]
   exact hy
  refine ⟨_, insO x.dst vx (ins (1000000 + d) ob (ins d xv E)), ⟨a5 E naE hcE hdE, hk0, fun he => ?_, fun _ _ => ⟨hmk, d, xv, ob, a1, a2, hcE, LE.refl _, fun F hF => a5 F (naEF hF)⟩, fun _ he => ?_⟩,
   ⟨p3 _ naX (.inr eaE), fun d' hd' => ⟨?_, (x2 d' hd').2⟩, fun _ => ⟨hxe, vx, p1, LE.refl _, fun F hF hm => p3 F (fun t ht y hy => hF t ht y (naX t ht y hy)) (hm.imp id fun hm => eaE.trans hm)⟩, fun _ he => ?_, fun _ he => ?_⟩, fun t => ?_⟩
  ·exact absurd hmk (by unfold isMk; unfold isEff at he; split <;> simp_all)
  ·exact absurd hmk (by unfold isMk; unfold isApp at he; split <;> simp_all)
  ·rw [hlook d' (fun e => by subst e; exact hdx hd') (fun e => by subst e; exact hid hd')]
   exact (x2 d' hd').1
  ·exact absurd he (by unfold isMk; unfold isEff at hxe; split <;> simp_all)
  ·exact absurd he (by unfold isApp; unfold isEff at hxe; split <;> simp_all)
  ·rw [← a4 t]
   by_cases h1 : x.dst = some t
   ·rw [h1]
    simp only [insO]
    rw [look_ins, if_pos rfl, look_ins, if_neg (fun e => hid (by rw [h1, e])), look_ins, if_neg (fun e => hdx (by rw [h1, e])), ← p2 t, h1]
    simp only [insO]
    rw [look_ins, if_pos rfl]
   ·rw [look_insO h1]
    simp only [look_ins, hE1 t h1]
 ·
  have hmf : memFree x.op = true := by
   unfold isMv at hmv
   split at hmv
   ·rename_i ho; rw [ho]; rfl
   ·cases hmv
  obtain ⟨_, hB⟩ := k5 (Option.isNone_iff_eq_none.1 hgn) happ
  rcases hB with hB | ⟨d, v, g, b1, b2, b3, b4, b5⟩
  ·exact absurd hu (hB x)
  have hg := b4 x hu
  have hdx : x.dst ≠ some d := fun e => hdd d d e b1 rfl
  have hdE : look E d = none := (hk0 d b1).1
  have hlook : ∀ t, t ≠ d → look (ins d v (E.map fun p => (p.1, g p.2))) t = (look E t).map g := fun t h1 => by rw [look_ins, if_neg h1, look_map g]
  have naX : NA all x E (ins d v (E.map fun p => (p.1, g p.2))) := fun t ht y hy => by
   unfold lookS at hy ⊢
   rw [hlook t (fun e => by subst e; rw [hdE] at hy; cases hy)]
   cases hz : look E t with
   | none => rw [hz] at hy; cases hy
   | some z =>
    have h1 : x.dst ≠ some t := fun e => by rw [(x2 t e).1] at hz; cases hz
    have := hg t ht
    rw [hE1 t h1, hz] at this
    rw [hz] at hy
    simp only [Option.map_some] at hy ⊢
    rw [b3 z this]
    exact hy
  refine ⟨_, insO x.dst vx (ins d v (E.map fun p => (p.1, g p.2))), ⟨b5 E naE hdE, hk0, fun he => ?_, fun _ he => ?_, fun _ _ => ⟨happ, .inr ⟨d, v, g, b1, LE.refl _, b3, fun x' hx' t ht => ?_, fun F hF => b5 F (naEF hF)⟩⟩⟩,
   ⟨p3 _ naX (.inl hmf), fun d' hd' => ⟨?_, (x2 d' hd').2⟩, fun _ => ⟨hxe, vx, p1, LE.refl _, fun F hF hm => p3 F (fun t ht y hy => hF t ht y (naX t ht y hy)) (.inl hmf)⟩, fun _ he => ?_, fun _ he => ?_⟩, fun t => ?_⟩
  ·exact absurd happ (by unfold isApp; unfold isEff at he; split <;> simp_all)
  ·exact absurd happ (by unfold isApp; unfold isMk at he; split <;> simp_all)
  ·by_cases h1 : x.dst = some t
   ·rw [(x2 t h1).1]; rfl
   ·have := b4 x' hx' t ht
    rw [hE1 t h1] at this
    exact this
  ·rw [hlook d' (fun e => by subst e; exact hdx hd'), (x2 d' hd').1]
   rfl
  ·exact absurd he (by unfold isMk; unfold isEff at hxe; split <;> simp_all)
  ·exact absurd he (by unfold isApp; unfold isEff at hxe; split <;> simp_all)
  ·rw [← b2 t]
   by_cases h1 : x.dst = some t
   ·rw [h1]
    simp only [insO]
    have h2 : look E1 t = some vx := by
     rw [← p2 t, h1]
     simp only [insO]
     rw [look_ins, if_pos rfl]
    have h3 := hg t (mem_names h1)
    rw [h2] at h3
    rw [look_ins, if_pos rfl, look_ins, if_neg (fun e => hdx (by rw [h1, e])), look_map g, h2]
    simp only [Option.map_some]
    rw [b3 vx h3]
   ·rw [look_insO h1]
    simp only [look_ins, look_map g, hE1 t h1]
inductive Ch (P : Program) (n : Nat) (all : List Oper) : List Nat → Env → Env → Prop where
 | nil {E E'} : LE E E' → Ch P n all [] E E'
 | cons {i o R E E1 E'} : all[i]? = some o → Stp P n all o E E1 → Ch P n all R E1 E' → Ch P n all (i :: R) E E'
theorem Ch.le {R : List Nat} {E F E' : Env} (h : Ch P n all R E E') (hl : LE E F) : Ch P n all R F E' := by
 cases h with
 | nil h => exact .nil (hl.symm.trans h)
 | cons h1 h2 h3 => exact .cons h1 (h2.le hl) h3
def Prs (all : List Oper) : List Nat → Prop
 | [] => True
 | i :: r => (∀ j, j ∈ r → ((Region.before all.toArray).getD i 0).testBit j = false ∧ (((Region.before all.toArray).getD j 0).testBit i = true ∨ ∃ x y, all[i]? = some x ∧ all[j]? = some y ∧ swapOk all.toArray x y = true)) ∧ Prs all r
theorem prs_sub : ∀ {A B : List Nat} {k : Nat}, Prs all (A ++ k :: B) → Prs all (A ++ B)
 | [], B, k, h => h.2
 | i :: A, B, k, h => ⟨fun j hj => h.1 j (by
   rcases List.mem_append.1 hj with hj | hj
   ·exact List.mem_append_left _ hj
   ·exact List.mem_append_right _ (List.mem_cons_of_mem _ hj)), prs_sub h.2⟩
theorem ch_front {E' : Env} : ∀ {A B : List Nat} {k : Nat} {E : Env}, Ch P n all (A ++ k :: B) E E' → Prs all (A ++ k :: B) → (A ++ k :: B).Nodup → (∀ i, i ∈ A → ((Region.before all.toArray).getD k 0).testBit i = false) → Ch P n all (k :: (A ++ B)) E E'
 | [], B, k, E, h, _, _, _ => h
 | i :: A, B, k, E, h, hp, hnd, hb => by
  cases h with
  | @cons _ o _ _ E1 _ ho hs hr =>
   have ih := ch_front hr hp.2 (List.nodup_cons.1 hnd).2 (fun j hj => hb j (List.mem_cons_of_mem _ hj))
   cases ih with
   | @cons _ ok _ _ E2 _ hok hsk hrk =>
    have hki : k ∈ A ++ k :: B := List.mem_append_right _ (List.mem_cons_self ..)
    obtain ⟨q1, q2⟩ := hp.1 k hki
    have hbk := hb i (List.mem_cons_self ..)
    rcases q2 with q2 | ⟨x, y, hx, hy, hsw⟩
    ·rw [hbk] at q2; cases q2
    rw [ho] at hx
    rw [hok] at hy
    cases hx; cases hy
    have hne : i ≠ k := fun e => by
     have := (List.nodup_cons.1 hnd).1
     rw [e] at this
     exact this hki
    obtain ⟨F1, F2, s1, s2, s3⟩ := swap_stp hs hsk hsw ⟨k, i, hok, ho, hne, hbk, q1⟩
    exact .cons hok s1 (.cons ho s2 (hrk.le s3.symm))
theorem ch_lt {R : List Nat} {E E' : Env} (h : Ch P n all R E E') : ∀ i, i ∈ R → i < all.length := by
 induction h with
 | nil _ => intro i hi; cases hi
 | cons h1 _ _ ih =>
  intro i hi
  rcases List.mem_cons.1 hi with rfl | hi
  ·exact (List.getElem?_eq_some_iff.1 h1).1
  ·exact ih i hi
theorem bubble {bs : Base} {Q : Exit → Act → World → Prop} {e' : Env} (hback : edgesBack all.toArray = true) (hQ : ∀ a' w' M' O', Inv bs n M' O' e' a' w' → Q .normal a' w') :
  ∀ (fuel : Nat) (listed : Array Bool) (R : List Nat) (a : Act) (w : World) (M : Mem) (O : Gh) (E : Env), listed.size = all.length → Closed all (fun i => listed.getD i false = true) → R.Nodup → (∀ i, i < all.length → (i ∈ R ↔ listed.getD i false = false)) → Prs all R → Ch P n all R E e' →
   unlisted all.length listed ≤ fuel → Inv bs n M O E a w → wpAny P .any all.toArray Q fuel listed a w := by
 have done : ∀ (listed : Array Bool) (R : List Nat) (a : Act) (w : World) (M : Mem) (O : Gh) (E : Env), listed.size = all.length → (∀ i, i < all.length → (i ∈ R ↔ listed.getD i false = false)) → Ch P n all R E e' → Inv bs n M O E a w →
   Region.ready .any all.toArray listed = [] → Q .normal a w := by
  intro listed R a w M O E hsz hR hc h hr
  have hall : ∀ i, i < all.length → listed.getD i false = true := by
   intro i
   induction i using Nat.strongRecOn with
   | _ i ih =>
    intro hi
    cases hv : listed.getD i false with
    | true => rfl
    | false =>
     exfalso
     have ho : all[i]? = some all[i] := List.getElem?_eq_getElem hi
     have : i ∈ Region.ready .any all.toArray listed := by
      rw [mem_ready]
      refine ⟨by rw [getD_both (by omega)]; exact hv, all[i], by simp, fun e he hb => ?_⟩
      have hlt : e.on < i := by
       unfold edgesBack at hback
       rw [List.all_eq_true] at hback
       have hmem : (all[i], i) ∈ all.toArray.toList.zipIdx := by
        rw [List.mem_iff_getElem?]
        exact ⟨i, by simp [List.getElem?_zipIdx, ho]⟩
       have := hback _ hmem
       rw [Array.all_eq_true_iff_forall_mem] at this
       have := this e he
       simp only [Bool.or_eq_true, Bool.not_eq_true'] at this
       rcases this with h1 | h1
       ·rw [hb] at h1; cases h1
       ·exact Nat.le_of_ble_eq_true h1
      exact ih e.on hlt (by omega)
     rw [hr] at this
     cases this
  cases R with
  | nil => cases hc with | nil hl => exact hQ a w M O (hl.inv h)
  | cons i R =>
   have hi := ch_lt hc i (List.mem_cons_self ..)
   have := (hR i hi).1 (List.mem_cons_self ..)
   rw [hall i hi] at this
   cases this
 intro fuel
 induction fuel with
 | zero =>
  intro listed R a w M O E hsz hc hnd hR hp hch hu h
  have hr : Region.ready .any all.toArray listed = [] := by
   cases hr : Region.ready .any all.toArray listed with
   | nil => rfl
   | cons i rs =>
    exfalso
    have hi : i ∈ Region.ready .any all.toArray listed := by rw [hr]; exact List.mem_cons_self ..
    rw [mem_ready] at hi
    obtain ⟨h0, o, ho, _⟩ := hi
    have hil : i < all.length := by
     have := (Array.getElem?_eq_some_iff.1 ho).1
     simpa using this
    have : 0 < unlisted all.length listed := by
     unfold unlisted
     rw [List.countP_pos_iff]
     exact ⟨i, List.mem_range.2 hil, by rw [h0]; rfl⟩
    omega
  exact ⟨hr, done listed R a w M O E hsz hR hch h hr⟩
 | succ fuel ih =>
  intro listed R a w M O E hsz hc hnd hR hp hch hu h
  refine ⟨fun hr => done listed R a w M O E hsz hR hch h hr, fun k hk => ?_⟩
  rw [mem_ready] at hk
  obtain ⟨hk0, ok, hok, hkall⟩ := hk
  have hok' : all[k]? = some ok := by simpa using hok
  have hkl : k < all.length := (List.getElem?_eq_some_iff.1 hok').1
  have hkf : listed.getD k false = false := by rw [← getD_both (by omega)]; exact hk0
  have hdeps : ∀ i, ((Region.before all.toArray).getD k 0).testBit i = true → listed.getD i false = true :=
   before_closed hc k ok hok' (fun e he hb => hkall e (by simpa using he) hb)
  have hsz' : (listed.setIfInBounds k true).size = all.length := by simp [hsz]
  have hset : ∀ i, (listed.setIfInBounds k true).getD i false = true ↔ (i = k ∨ listed.getD i false = true) := by
   intro i
   by_cases hik : i = k
   ·subst hik
    have hkk : i < listed.size := by omega
    simp [hkk]
   ·rw [getD_set_ne false (fun e => hik e.symm)]
    simp [hik]
  have hc' : Closed all (fun i => (listed.setIfInBounds k true).getD i false = true) := by
   intro j o ho hj e he hb
   rw [hset] at hj ⊢
   rcases hj with rfl | hj
   ·rw [hok'] at ho
    cases ho
    exact .inr (hkall e (by simpa using he) hb)
   ·exact .inr (hc j o ho hj e he hb)
  have hu' : unlisted all.length (listed.setIfInBounds k true) ≤ fuel := by
   have : unlisted all.length (listed.setIfInBounds k true) < unlisted all.length listed := by
    unfold unlisted
    refine countP_lt (x := k) (fun i hi hq => ?_) (List.mem_range.2 hkl) (by rw [hk0]; rfl) ?_
    ·have hil := List.mem_range.1 hi
     simp only [Bool.not_eq_true'] at hq ⊢
     rw [getD_both (by omega)] at hq ⊢
     cases hv : listed.getD i false with
     | false => rfl
     | true =>
      have := (hset i).2 (.inr hv)
      rw [this] at hq
      cases hq
    ·have hkk : k < listed.size := by omega
     simp [hkk]
   omega
  have hwp : ∀ (K : Act → World → Prop), (if Region.wanted ok (yielded all.toArray a.tmps) then ok.wp P a w K Q else K (a.put ok.dst undef) w) → wpOp P all.toArray Q k K a w := by
   intro K hK
   unfold wpOp
   rw [hok]
   simp only
   split
   ·rename_i hw; rw [if_pos hw] at hK; exact .inl hK
   ·rename_i hw; rw [if_neg hw] at hK; exact hK
  refine hwp _ ?_
  have hkR : k ∈ R := (hR k hkl).2 hkf
  obtain ⟨A, B, rfl⟩ := List.append_of_mem hkR
  have hA : ∀ i, i ∈ A → ((Region.before all.toArray).getD k 0).testBit i = false := by
   intro i hi
   have hiR : i ∈ A ++ k :: B := List.mem_append_left _ hi
   cases hb : ((Region.before all.toArray).getD k 0).testBit i with
   | false => rfl
   | true =>
    have := (hR i (ch_lt hch i hiR)).1 hiR
    rw [hdeps i hb] at this
    cases this
  have hfront := ch_front hch hp hnd hA
  have hnk : k ∉ A ++ B ∧ (A ++ B).Nodup := by
   have := (List.perm_middle (l₁ := A) (a := k) (l₂ := B)).nodup_iff.1 hnd
   exact List.nodup_cons.1 this
  cases hfront with
  | @cons _ ok' _ _ E1 _ hok2 hs hr =>
   rw [hok'] at hok2
   cases hok2
   refine hs.1 bs M O a w h _ Q fun a' w' M' O' h' => ih _ (A ++ B) a' w' M' O' E1 hsz' hc' hnk.2 (fun i hi => ?_) (prs_sub hp) hr hu' h'
   have h1 := hR i hi
   constructor
   ·intro hm
    cases hv : (listed.setIfInBounds k true).getD i false with
    | false => rfl
    | true =>
     rcases (hset i).1 hv with e | e
     ·subst e; exact absurd hm hnk.1
     ·have : i ∈ A ++ k :: B := by
       rcases List.mem_append.1 hm with hm | hm
       ·exact List.mem_append_left _ hm
       ·exact List.mem_append_right _ (List.mem_cons_of_mem _ hm)
      rw [h1.1 this] at e
      cases e
   ·intro hv
    have hik : i ≠ k := fun e => by rw [(hset i).2 (.inl e)] at hv; cases hv
    have : listed.getD i false = false := by
     cases hw : listed.getD i false with
     | false => rfl
     | true => rw [(hset i).2 (.inr hw)] at hv; cases hv
    have := h1.2 this
    rcases List.mem_append.1 this with hm | hm
    ·exact List.mem_append_left _ hm
    ·rcases List.mem_cons.1 hm with e | hm
     ·exact absurd e hik
     ·exact List.mem_append_right _ hm
theorem pairsL_spec {ops : Array Oper} : ∀ {L : List Nat}, pairsL ops L = true → Prs ops.toList L
 | [], _ => trivial
 | i :: r, h => by
  simp only [pairsL, Bool.and_eq_true, List.all_eq_true, Bool.not_eq_true', Bool.or_eq_true] at h
  refine ⟨fun j hj => ?_, pairsL_spec h.2⟩
  obtain ⟨h1, h2⟩ := h.1 j hj
  have ea : ops.toList.toArray = ops := Array.toArray_toList
  rw [ea]
  refine ⟨h1, h2.imp id fun h2 => ?_⟩
  split at h2
  ·rename_i x y hx hy
   exact ⟨x, y, by simpa using hx, by simpa using hy, h2⟩
  ·cases h2
theorem isP_of {o : Oper} {e e1 : Env} (he : isEff o.op = false) (h : Pure1 P n all o e e1) : IsP P n all o e e1 := by
 obtain ⟨x, h1, h2, h3⟩ := h
 obtain ⟨e2, _, _⟩ := eput_insO h1
 subst e2
 exact ⟨he, x, h2, LE.refl _, h3⟩
theorem mk_eff {o : Op} (h : isMk o = true) : isEff o = true ∧ isStore o = false ∧ isApp o = false := by
 unfold isMk at h
 split at h
 ·exact ⟨rfl, rfl, rfl⟩
 ·cases h
theorem app_eff {o : Op} (h : isApp o = true) : isEff o = true ∧ isStore o = false := by
 unfold isApp at h
 split at h
 ·exact ⟨rfl, rfl⟩
 ·cases h
theorem stp_of {o : Oper} {e e1 : Env} (h : StepOk P n true all o e e1) (hf : Fr o e) : Stp P n all o e e1 := by
 obtain ⟨h1, h2⟩ := h
 refine ⟨h1, hf, fun he => ?_, fun hg hm => ?_, fun hg ha => ?_⟩
 ·rcases h2 rfl with ⟨⟨k1, _⟩, _⟩ | ⟨k1, _⟩ | ⟨_, k2⟩
  ·rw [he] at k1; cases k1
  ·have := store_eff k1; rw [he] at this; cases this
  ·exact isP_of he k2
 ·obtain ⟨q1, q2, _⟩ := mk_eff hm
  rcases h2 rfl with ⟨_, _, k, _⟩ | ⟨k1, _⟩ | ⟨k1, _⟩
  ·exact k hg hm
  ·rw [q2] at k1; cases k1
  ·rcases k1 with k1 | k1
   ·rw [q1] at k1; cases k1
   ·rw [q2] at k1; cases k1
 ·obtain ⟨q1, q2⟩ := app_eff ha
  rcases h2 rfl with ⟨_, _, _, k⟩ | ⟨k1, _⟩ | ⟨k1, _⟩
  ·exact k hg ha
  ·rw [q2] at k1; cases k1
  ·rcases k1 with k1 | k1
   ·rw [q1] at k1; cases k1
   ·rw [q2] at k1; cases k1
theorem step_frame {o : Oper} {e e1 : Env} (h : StepOk P n true all o e e1) {t : Nat} (ht : t < 1000000) (hd : o.dst ≠ some t) (hl : look e t = none) : look e1 t = none := by
 rcases h.2 rfl with ⟨_, k, _⟩ | ⟨_, _, s, x, x', hx, _, _, _, rfl, _⟩ | ⟨_, x, hx, _⟩
 ·exact k t ht hd hl
 ·rw [look_ins, if_neg (fun e => by subst e; rw [hl] at hx; cases hx)]
  exact hl
 ·obtain ⟨rfl, _, _⟩ := eput_insO hx
  rw [look_insO hd]
  exact hl
theorem ch_of {all : List Oper} : ∀ {R : List Nat} {rest : List Oper} {e e' : Env}, Chain P n true all rest e e' → rest = R.filterMap (fun i => all[i]?) → (∀ i, i ∈ R → i < all.length) → R.Nodup →
  (∀ i o, i ∈ R → all[i]? = some o → Fr o e) → (∀ (i j : Nat) (x y : Oper) (d : Nat), all[i]? = some x → all[j]? = some y → x.dst = some d → y.dst = some d → i = j) → Ch P n all R e e'
 | [], rest, e, e', hc, hr, hlt, hnd, hf, hdd => by
  subst hr
  cases hc with
  | nil => exact .nil (LE.refl _)
  | drop e0 hd _ _ => cases hd
 | i :: R, rest, e, e', hc, hr, hlt, hnd, hf, hdd => by
  have hi := hlt i (List.mem_cons_self ..)
  have ho : all[i]? = some all[i] := List.getElem?_eq_getElem hi
  rw [List.filterMap_cons, ho] at hr
  simp only at hr
  subst hr
  cases hc with
  | drop e0 hd _ _ => cases hd
  | @step _ _ _ e1 _ hs hc =>
   refine .cons ho (stp_of hs (hf i _ (List.mem_cons_self ..) ho)) (ch_of hc rfl (fun j hj => hlt j (List.mem_cons_of_mem _ hj)) (List.nodup_cons.1 hnd).2 (fun j o hj hoj d hd => ?_) hdd)
   obtain ⟨k1, k2⟩ := hf j o (List.mem_cons_of_mem _ hj) hoj d hd
   refine ⟨step_frame hs k2 (fun e => ?_) k1, k2⟩
   have := hdd i j _ _ d ho hoj e hd
   subst this
   exact (List.nodup_cons.1 hnd).1 hj
theorem filterMap_nodup {ops : List Oper} (h : (ops.filterMap (·.dst)).Nodup) : ∀ (i j : Nat) (x y : Oper) (d : Nat), ops[i]? = some x → ops[j]? = some y → x.dst = some d → y.dst = some d → i = j := by
 induction ops with
 | nil => intro i j x y d hx; simp at hx
 | cons o ops ih =>
  intro i j x y d hx hy hdx hdy
  have key : ∀ (j : Nat) (y : Oper), ops[j]? = some y → o.dst = some d → y.dst = some d → False := by
   intro j y hy ho hd
   rw [List.filterMap_cons, ho] at h
   exact (List.nodup_cons.1 h).1 (List.mem_filterMap.2 ⟨y, List.mem_of_getElem? hy, hd⟩)
  have ht : (ops.filterMap (·.dst)).Nodup := by
   rw [List.filterMap_cons] at h
   split at h
   ·exact h
   ·exact (List.nodup_cons.1 h).2
  cases i with
  | zero =>
   simp at hx
   subst hx
   cases j with
   | zero => rfl
   | succ j => exact (key j y (by simpa using hy) hdx hdy).elim
  | succ i =>
   cases j with
   | zero =>
    simp at hy
    subst hy
    exact (key i x (by simpa using hx) hdy hdx).elim
   | succ j => rw [ih ht i j x y d (by simpa using hx) (by simpa using hy) hdx hdy]
theorem nodupB_of : ∀ {l : List Nat}, nodupB l = true → l.Nodup
 | [], _ => List.nodup_nil
 | x :: l, h => by
  simp only [nodupB, Bool.and_eq_true, Bool.not_eq_true'] at h
  refine List.nodup_cons.2 ⟨fun hx => ?_, nodupB_of h.2⟩
  have := h.1
  rw [List.any_eq_false] at this
  exact this x hx (by simp)
theorem region_drawP {bs : Base} {M : Mem} {O : Gh} {a : Act} {w : World} {id : Nat} {ops : Array Oper} {L : List Nat} {e e' : Env} (hmix : P.follows .mixedOrders = true) (hord : orderP ops L e = true) (hback : edgesBack ops = true)
  (hc : Chain P n true ops.toList (permOps ops L) e e') (h : Inv bs n M O e a w) {Q : Exit → Act → World → Prop} (hQ : ∀ a' w' M' O', Inv bs n M' O' e' a' w' → Q .normal a' w') : (Code.region id ops true).wp P Q a w := by
 unfold orderP at hord
 simp only [Bool.and_eq_true, List.all_eq_true] at hord
 obtain ⟨h1, h2, h3, h4, h5, h6⟩ := hord
 have ea : ops.toList.toArray = ops := Array.toArray_toList
 have hlt : ∀ i, i ∈ L → i < ops.toList.length := fun i hi => by have := Nat.le_of_ble_eq_true (h2 i hi); simp only [Array.length_toList]; omega
 have hch : Ch P n ops.toList L e e' := ch_of hc (by unfold permOps; simp) hlt (nodupB_of h1) (fun i o hi ho d hd => by
  unfold freshD at h6
  rw [List.all_eq_true] at h6
  have := h6 o (List.mem_of_getElem? ho)
  rw [hd] at this
  simp only [Bool.and_eq_true, Option.isNone_iff_eq_none] at this
  exact ⟨this.1, Nat.le_of_ble_eq_true this.2⟩) (filterMap_nodup (nodupB_of h5))
 refine wp_region_any hmix ?_
 have hdr : Inv bs n M O e a { w with drawn := w.drawn + 1 } := h.grown (row := none) (fun g e => by cases e) ⟨rfl, rfl, rfl, Nat.le_refl _, fun _ _ _ => rfl⟩ (Sub.refl M) (fun b o u hu => h.cons b o u hu) (fun _ _ _ _ => rfl)
 have := bubble (P := P) (n := n) (all := ops.toList) (bs := bs) (Q := Q) (by rw [ea]; exact hback) hQ ops.size (Array.replicate ops.size false) L a { w with drawn := w.drawn + 1 } M O e (by simp)
  (fun j o ho hj => by simp [Array.getElem?_replicate] at hj; split at hj <;> simp at hj) (nodupB_of h1)
  (fun i hi => ⟨fun _ => by simp [Array.getElem?_replicate]; split <;> simp, fun _ => by
   have := h3 i (List.mem_range.2 (by simpa using hi))
   rw [List.any_eq_true] at this
   obtain ⟨j, hj, e1⟩ := this
   have := Nat.eq_of_beq_eq_true e1
   subst this
   exact hj⟩) (pairsL_spec h4) hch
  (by
   unfold unlisted
   have := List.countP_le_length (p := fun i => !(Array.replicate ops.size false).getD i true) (l := List.range ops.toList.length)
   simpa using this) hdr
 rw [ea] at this
 exact this
theorem look_map_none {g : AV → AV} {e : Env} {t : Nat} (h : look e t = none) : look (e.map fun p => (p.1, g p.2)) t = none := by
 rw [look_map g, h]; rfl
theorem plainV_relabB {l : Nat} {x : AV} (h : plainV (some x) = true) : x.relabB l none = x := by
 cases x with
 | box cs => cases h
 | agr cs => cases h
 | lst e k lab xs => cases lab with
  | none => rfl
  | some c => cases h
 | _ => rfl
theorem aappend_map {t t' d : Nat} {a b v : AV} {e e' : Env} (h : aappend P t t' d a b e = some (v, e')) :
  ∃ g : AV → AV, (∀ x, plainV (some x) = true → g x = x) ∧ e' = e.map (fun p => (p.1, g p.2)) ∧ ∀ F : Env, aappend P t t' d a b F = some (v, F.map fun p => (p.1, g p.2)) := by
 unfold aappend at h ⊢
 split at h
 case h_2 => cases h
 rename_i el s hse
 split at h
 ·cases h
 rename_i hc
 split at h
 ·cases h
 case h_3 => cases h
 rename_i ey ky l ys
 split at h
 ·cases h
 rename_i hky
 split at h
 ·split at h
  ·rename_i hb
   cases h
   refine ⟨fun x => x.relabB d none, fun x hx => plainV_relabB hx, rfl, fun F => ?_⟩
   simp only [hse, hky]
   rw [if_pos hb]; rfl
  ·cases h
 ·rename_i ex kx c xs
  split at h
  ·cases h
  rename_i hx
  split at h
  ·rename_i hb
   cases h
   refine ⟨fun x => (x.relabB c none).relabB d none, fun x hx => by show (x.relabB c none).relabB d none = x; rw [plainV_relabB hx, plainV_relabB hx], by simp [relabE, List.map_map, Function.comp], fun F => ?_⟩
   simp only [hse, hky, hx]
   rw [if_pos hb]; simp [relabE, List.map_map, Function.comp]
  ·cases h
 ·cases h
theorem frame_ins {e : Env} {d t : Nat} {x : AV} (h : t ≠ d) (hl : look e t = none) : look (ins d x e) t = none := by rw [look_ins, if_neg h]; exact hl
theorem eput_frame {o : Option Nat} {v : AV} {e e1 : Env} (h : eput n o v e = some e1) {t : Nat} (ht : o ≠ some t) (hl : look e t = none) : look e1 t = none := by
 obtain ⟨rfl, _, _⟩ := eput_insO h
 rw [look_insO ht]
 exact hl
theorem forget_frame {s t : Nat} {e : Env} (hl : look e t = none) : look (forget s e) t = none := by
 cases h : look (forget s e) t with
 | none => rfl
 | some y =>
  obtain ⟨_, z, hz, _⟩ := look_forget h
  rw [hl] at hz; cases hz
theorem hard_op {o : Oper} {e e1 : Env} (hw : awanted all o e = some true) (hl : lfOk all o e = true) (he : astep P n o e = some e1) (heff : isEff o.op = true) (hst : isStore o.op = false) : Hard P n all o e e1 := by
 refine ⟨⟨heff, hst⟩, fun t ht hd hn => ?_, fun _ hm => ?_, fun _ ha => ?_⟩
 ·
  have ge : ∀ d : Nat, t ≠ 1000000 + d := fun d e => absurd ht (Nat.not_lt_of_le (by rw [e]; exact Nat.le_add_right _ _))
  unfold astep at he
  split at he
  ·split at he
   ·rename_i d hd'
    split at he
    ·split at he
     ·exact eput_frame he hd hn
     ·cases he
    ·cases he
   ·cases he
  ·split at he
   ·split at he
    ·exact eput_frame he hd hn
    ·split at he
     ·exact eput_frame he hd hn
     ·cases he
   ·split at he
    ·exact eput_frame he hd hn
    ·cases he
   ·cases he
  ·rename_i ho
   rw [ho] at hst; cases hst
  ·split at he
   ·split at he
    ·split at he
     ·split at he
      ·rw [Option.map_eq_some_iff] at he
       obtain ⟨e2, h1, rfl⟩ := he
       exact frame_ins (ge _) (eput_frame h1 hd hn)
      ·cases he
     ·cases he
    ·cases he
   ·cases he
  ·split at he
   ·rename_i x y t1 t2 d _ _ hdst
    have htd : t ≠ d := fun e => by subst e; exact hd hdst
    split at he
    ·
     unfold aappendO at he
     split at he
     case h_2 => cases he
     split at he
     ·cases he
     simp only at he
     split at he
     case h_2 => cases he
     split at he
     case h_2 => cases he
     split at he
     case h_2 => cases he
     split at he
     ·cases he
      exact frame_ins (ge _) (frame_ins htd (forget_frame hn))
     ·cases he
    ·split at he
     ·rename_i v env1 hap
      obtain ⟨g, _, rfl, _⟩ := aappend_map hap
      exact eput_frame he hd (look_map_none hn)
     ·cases he
    ·cases he
   ·cases he
  ·split at he
   ·exact eput_frame he hd hn
   ·cases he
  ·split at he
   ·split at he
    ·rw [Option.map_eq_some_iff] at he
     obtain ⟨e2, h1, rfl⟩ := he
     exact frame_ins (ge _) (eput_frame h1 hd hn)
    ·cases he
   ·cases he
  ·split at he
   ·split at he
    ·rename_i hlk
     split at he
     ·split at he
      ·cases he; exact frame_ins (fun e => by rw [e] at hn; rw [hn] at hlk; cases hlk) hn
      ·cases he; exact frame_ins (fun e => by rw [e] at hn; rw [hn] at hlk; cases hlk) hn
     ·cases he
    ·cases he
   ·cases he
  ·split at he
   ·split at he
    ·rw [Option.map_eq_some_iff] at he
     obtain ⟨e2, h1, rfl⟩ := he
     exact frame_ins (ge _) (eput_frame h1 hd hn)
    ·cases he
   ·cases he
  ·split at he
   ·exact eput_frame he hd hn
   ·cases he
 ·
  refine ⟨hm, ?_⟩
  cases hop : o.op with
  | makeSlice t l c =>
   have he0 := he
   unfold astep at he
   rw [hop] at he
   simp only at he
   split at he
   case h_2 => cases he
   rename_i d k m k' m' el s hd hl1 hc1 hse
   split at he
   case h_2 => cases he
   rename_i z hz hcl
   split at he
   case h_2 => cases he
   rename_i hzz
   split at he
   case isFalse => cases he
   rename_i hb
   rw [Option.map_eq_some_iff] at he
   obtain ⟨e2, h1, rfl⟩ := he
   rw [hd] at h1
   obtain ⟨hdn, rfl, _⟩ := eput_ent h1
   simp only [Bool.and_eq_true] at hcl
   obtain ⟨c1, c2⟩ := clearOf_spec hcl.1
   refine ⟨d, .sb (1000000 + d) el s 0 m.toNat, .obj el s (List.replicate m.toNat (elemOf z s)), hd, rfl, ⟨by cases hh : look e (1000000 + d) with | none => rfl | some y => exact absurd hh (c1 y), c2⟩, LE.refl _, fun F hF hcF hFd => ?_⟩
   have hlF : LE (ded F) F := look_ded F
   have hN : NA all o e (ded F) := fun t ht y hy => by
    have := hF t ht y hy
    unfold lookS at this ⊢
    rw [look_ded]
    exact this
   have hk := knows_names hN
   have hst2 : astep P n o (ded F) = some (ins (1000000 + d) (.obj el s (List.replicate m.toNat (elemOf z s))) (ins d (.sb (1000000 + d) el s 0 m.toNat) (ded F))) := by
    unfold astep
    rw [hop]
    have k1 := hk l (by rw [hop]; simp [Op.operands]) _ hl1
    have k2 := hk c (by rw [hop]; simp [Op.operands]) _ hc1
    simp only [hd, k1, k2, hse, hz, clear_ded hcF, hcl.2, Bool.and_self, hzz]
    rw [if_pos hb]
    unfold eput
    simp only [look_ded, hFd]
    have : Nat.blt d n = true := Nat.ble_eq_true_of_le hdn
    simp only [this, Bool.and_self, Option.map_some]
   exact stepSem_le (step_op (awanted_knows hN hw) hst2) hlF ((hlF.ins _ _).ins _ _)
  | _ => rw [hop] at hm; cases hm
 ·
  refine ⟨ha, ?_⟩
  unfold isApp at ha
  split at ha
  case h_2 => cases ha
  rename_i args ats hop
  have he0 := he
  unfold astep at he
  rw [hop] at he
  simp only at he
  split at he
  case h_2 => cases he
  rename_i x y t t' d hax hat hd
  unfold lfOk at hl
  rw [hop] at hl
  simp only [hax] at hl
  rw [List.all_eq_true] at hl
  have hlf : ∀ xo, Unord all o xo → isMv xo.op = true ∧ (match aop e x with | some (.sb ..) => false | _ => true) = true ∧ ∀ t, t ∈ namesOf all.toArray xo → plainV (look e t) = true := by
   rintro xo ⟨k, i, hk, hi, hne, h1, h2⟩
   have hmem : ∀ {k : Nat} {o : Oper}, all[k]? = some o → (o, k) ∈ all.zipIdx := fun {k o} h => by
    rw [List.mem_iff_getElem?]
    exact ⟨k, by simp [List.getElem?_zipIdx, h]⟩
   have q := hl (o, k) (hmem hk)
   simp only [Bool.or_eq_true] at q
   rcases q with q | q
   ·rw [hd] at q
    simp at q
   ·rw [List.all_eq_true] at q
    have q := q (xo, i) (hmem hi)
    simp only [h1, h2, Bool.false_or, Bool.or_eq_true, Bool.and_eq_true, List.all_eq_true] at q
    rcases q with q | q
    ·exact absurd (Nat.eq_of_beq_eq_true q) hne
    ·exact q
  split at he
  ·
   rename_i id ex kx off m q hpx hqx
   refine .inl fun xo hxo => ?_
   have := (hlf xo hxo).2.1
   rw [hpx] at this
   cases this
  ·rename_i p q hns hpx hqx
   split at he
   case h_2 => cases he
   rename_i v env1 hap
   obtain ⟨g, g1, rfl, g2⟩ := aappend_map hap
   rw [hd] at he
   obtain ⟨hdn, rfl, _⟩ := eput_ent he
   refine .inr ⟨d, v, g, hd, LE.refl _, g1, fun xo hxo => (hlf xo hxo).2.2, fun F hF hFd => ?_⟩
   have hk := knows_names hF
   have hst2 : astep P n o F = some (ins d v (F.map fun p => (p.1, g p.2))) := by
    unfold astep
    rw [hop]
    have ea : args = #[x, y] := by apply Array.ext'; simpa using hax
    have k1 := hk x (by rw [hop, ea]; simp [Op.operands, Call.operands]) _ hpx
    have k2 := hk y (by rw [hop, ea]; simp [Op.operands, Call.operands]) _ hqx
    simp only [hax, hat, hd, k1, k2]
    have hgo : (match aappend P t t' d p q F with | some (v, env1) => eput n (some d) v env1 | none => none) = some (ins d v (F.map fun p => (p.1, g p.2))) := by
     rw [g2 F]
     simp only
     unfold eput
     simp only [look_map g, hFd, Option.map_none]
     have : Nat.blt d n = true := Nat.ble_eq_true_of_le hdn
     simp only [this, Bool.and_self]
    cases p with
    | sb id ex kx off m => exact absurd rfl (hns id ex kx off m)
    | _ => exact hgo
   exact step_op (awanted_knows hF hw) hst2
  ·cases he
theorem hard_call {o : Oper} {e e1 : Env} (hx : ∃ f args ats, o.op = .call { callee := .value f, args := args, argTypes := ats }) (heff : isEff o.op = true) (hst : isStore o.op = false) (hf : ∀ t, t < 1000000 → o.dst ≠ some t → look e t = none → look e1 t = none) : Hard P n all o e e1 := by
 obtain ⟨f, args, ats, ho⟩ := hx
 refine ⟨⟨heff, hst⟩, hf, ?_, ?_⟩
 ·intro _ hm
  rw [ho] at hm
  cases hm
 ·intro _ hm
  rw [ho] at hm
  cases hm
theorem hard_not {o : Oper} {e e1 : Env} (hw : awanted all o e = some false) (he : eput n o.dst .und e = some e1) (heff : isEff o.op = true) (hst : isStore o.op = false) : Hard P n all o e e1 := by
 have hg : o.guard ≠ none := fun hg => by
  unfold awanted at hw
  rw [hg] at hw
  cases hw
 exact ⟨⟨heff, hst⟩, fun t _ hd hn => eput_frame he hd hn, fun h => absurd h hg, fun h => absurd h hg⟩
theorem putM_frame {σ : List (Nat × Nat)} {hp : Env} {t : Nat} : ∀ {ρ : List (Nat × Nat)} {e : Env}, (∀ a b, (a, b) ∈ ρ → a ≠ t) → look e t = none → look (putM σ hp ρ e) t = none
 | [], e, _, h => h
 | (a, b) :: r, e, hr, h => by
  simp only [putM]
  refine putM_frame (fun a' b' hm => hr a' b' (List.mem_cons_of_mem _ hm)) ?_
  split
  ·exact frame_ins (fun e => hr a b (List.mem_cons_self ..) e.symm) h
  ·exact forget_frame h
theorem callPutM_frame {d : Option Nat} {ρ nw : List (Nat × Nat)} {r : AV} {hp e e1 : Env} (h : callPutM n d ρ nw r hp e = some e1) (hρ : ∀ a b, (a, b) ∈ ρ → ∃ x, look e a = some x) {t : Nat} (ht : t < 1000000) (hd : d ≠ some t) (hn : look e t = none) : look e1 t = none := by
 unfold callPutM at h
 split at h
 case h_2 => cases h
 rename_i r' hb _
 simp only [Bool.and_eq_true, List.all_eq_true] at hb
 refine eput_frame h hd (putM_frame (fun a b hm e => ?_) hn)
 subst e
 rcases List.mem_append.1 hm with hm | hm
 ·obtain ⟨x, hx⟩ := hρ _ _ hm
  rw [hn] at hx; cases hx
 ·have := hb.2 _ hm
  simp only [Bool.and_eq_true] at this
  have := Nat.le_of_ble_eq_true this.1.1.2
  omega
end
end Go.AM
