/- s -/
import Derived.Test.YtoiejpkfpjingaaAMap
set_option linter.unusedVariables false
set_option linter.unusedSimpArgs false
namespace Go.AM
open Go.RowKit
variable {P : Program} {n : Nat} {K V : Type} {F : K → AV} {G : V → AV} {eq : K → K → Bool}
inductive AllP {α : Type} (q : α → Prop) : List α → Prop where
 | nil : AllP q []
 | cons {a l} : q a → AllP q l → AllP q (a :: l)
theorem AllP.mem {α : Type} {q : α → Prop} : ∀ {l : List α}, AllP q l → ∀ x, x ∈ l → q x
 | _, .nil, x, h => by cases h
 | _, .cons h t, x, hx => by
  rcases List.mem_cons.1 hx with rfl | hx
  ·exact h
  ·exact t.mem x hx
def stepA (P : Program) (n : Nat) (all : List Oper) (env : Env) (k : Nat) : Option Env :=
 match all[k]? with
 | some o => match awanted all o env with
  | some true => astep P n o env
  | _ => none
 | none => none
def lkE : List (Nat × Env) → Nat → Env
 | [], _ => []
 | p :: r, k => match Nat.beq p.1 k with
  | true => p.2
  | false => lkE r k
theorem lkE_mem : ∀ {l : List (Nat × Env)} {k : Nat}, k ∈ l.map (·.1) → ∃ p, p ∈ l ∧ p.1 = k ∧ lkE l k = p.2
 | [], k, h => by cases h
 | p :: r, k, h => by
  unfold lkE
  cases hb : Nat.beq p.1 k with
  | true => exact ⟨p, List.mem_cons_self .., Nat.eq_of_beq_eq_true hb, rfl⟩
  | false =>
   rw [List.map_cons, List.mem_cons] at h
   rcases h with rfl | h
   ·rw [Nat.beq_refl] at hb; cases hb
   ·obtain ⟨q, h1, h2, h3⟩ := lkE_mem h
    exact ⟨q, List.mem_cons_of_mem _ h1, h2, h3⟩
theorem Run.anyL {all : List Oper} {R : List Nat} {env e1 : Env} (l : List (Nat × Env)) (hne : R.isEmpty = false) (h0 : R.filter (readyR all R) = l.map (·.1)) (hs : AllP (fun p => stepA P n all env p.1 = some p.2) l) (hr : AllP (fun p => Run P (.any n all (R.erase p.1) p.2 e1)) l) : Run P (.any n all R env e1) := by
 have key : ∀ k, k ∈ R → readyR all R k = true → ∃ p, p ∈ l ∧ p.1 = k ∧ lkE l k = p.2 := fun k hk hd => lkE_mem (by rw [← h0]; exact List.mem_filter.2 ⟨hk, hd⟩)
 refine .anyStep (lkE l) (fun e => by rw [e] at hne; cases hne) (fun k o hk ho hd => ?_) (fun k hk hd => ?_)
 ·obtain ⟨p, h1, rfl, h3⟩ := key k hk hd
  have := hs.mem p h1
  unfold stepA at this
  rw [ho] at this
  simp only at this
  split at this
  ·rename_i hw
   exact ⟨hw, by rw [h3]; exact this⟩
  ·cases this
 ·obtain ⟨p, h1, rfl, h3⟩ := key k hk hd
  rw [h3]
  exact hr.mem p h1
theorem W.regionA {id : Nat} {ops : Array Oper} {Q : Ex → Env → Prop} {env e1 : Env} (hb : edgesBack ops = true) (h : Run P (.any n ops.toList (List.range ops.size) env e1)) (hq : WO P n false ops.toList [] (Q .normal) e1) : W P n (.region id ops true) Q env := by
 obtain ⟨e2, h1, h2⟩ := hq
 exact ⟨_, e2, .regionA hb h h1, h2⟩
theorem stepA_map {all : List Oper} {env : Env} {id kt k : Nat} {l : List (K × V)} {a : K} {b : V} (hk : (F a).keyV.isSome = true) (hn : Nat.blt l.length 1000000000 = true) (hf : ∀ x, keyFits P kt (F x) = true) (he : ∀ x y, akeq (F x) (F y) = eq x y)
  (hp : (match all[k]? with | some o => mupPre P all o env | none => none) = some (id, kt, F a, G b, l.map (fun p => F p.1), l.map (fun p => G p.2))) : stepA P n all env k = some (ins id (hobE F G (mset eq a b l)) env) := by
 unfold stepA
 cases hk0 : all[k]? with
 | none => rw [hk0] at hp; cases hp
 | some o =>
  rw [hk0] at hp
  simp only [mupPre] at hp
  split at hp <;> try cases hp
  rename_i hw
  split at hp <;> try cases hp
  rename_i t m k0 v0 ho
  split at hp <;> try cases hp
  rename_i id' k' v' kt' e' hd hm hk' hv ht
  split at hp <;> try cases hp
  rename_i ks vs hel hl
  simp only [Option.some.injEq, Prod.mk.injEq] at hp
  obtain ⟨rfl, rfl, rfl, hb, rfl, rfl⟩ := hp
  simp only [hw]
  unfold astep
  rw [ho]
  simp only [hd, hm, hk', hv, ht, hl]
  rw [hf, hk, fits_all hf, hel, List.length_map, hn]
  simp only [Bool.and_self]
  unfold hobE
  rcases findA_set (G := G) he a b l with ⟨j, g1, g2, g3⟩ | ⟨g1, g2, g3⟩
  ·rw [g1, g2, g3, hb]
  ·rw [g1, g2, g3, hb]
end Go.AM
