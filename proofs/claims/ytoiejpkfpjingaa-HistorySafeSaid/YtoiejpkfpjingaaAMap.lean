/- s -/
import Derived.Test.YtoiejpkfpjingaaAWq
set_option linter.unusedVariables false
namespace Go.AM
variable {P : Program} {n : Nat} {K V : Type} {F : K → AV} {G : V → AV} {eq : K → K → Bool}
def mpE (F : K → AV) (G : V → AV) (l : List (K × V)) : AV := .mpv (l.map fun p => F p.1) (l.map fun p => G p.2)
def hobE (F : K → AV) (G : V → AV) (l : List (K × V)) : AV := .hob 0 (l.map fun p => F p.1) (l.map fun p => G p.2)
def mget (eq : K → K → Bool) (z : V) (k : K) : List (K × V) → V
 | [] => z
 | p :: r => bif eq p.1 k then p.2 else mget eq z k r
def mset (eq : K → K → Bool) (k : K) (v : V) : List (K × V) → List (K × V)
 | [] => [(k, v)]
 | p :: r => bif eq p.1 k then (p.1, v) :: r else p :: mset eq k v r
def keq1 (x a : Int) : Bool := x == a
theorem findA_get (he : ∀ x y, akeq (F x) (F y) = eq x y) (z : V) (k : K) : ∀ l : List (K × V),
  (∃ j, findA (F k) (l.map fun p => F p.1) = some j ∧ (l.map fun p => G p.2)[j]? = some (G (mget eq z k l))) ∨ (findA (F k) (l.map fun p => F p.1) = none ∧ mget eq z k l = z)
 | [] => .inr ⟨rfl, rfl⟩
 | p :: r => by
  have ih := findA_get he z k r
  simp only [List.map_cons, findA, mget, he]
  cases hq : eq p.1 k with
  | true => exact .inl ⟨0, rfl, rfl⟩
  | false =>
   simp only [cond_false]
   rcases ih with ⟨j, h1, h2⟩ | ⟨h1, h2⟩
   ·rw [h1]
    exact .inl ⟨j + 1, rfl, h2⟩
   ·rw [h1]
    exact .inr ⟨rfl, h2⟩
theorem findA_set (he : ∀ x y, akeq (F x) (F y) = eq x y) (k : K) (v : V) : ∀ l : List (K × V),
  (∃ j, findA (F k) (l.map fun p => F p.1) = some j ∧ (mset eq k v l).map (fun p => F p.1) = l.map (fun p => F p.1) ∧ (mset eq k v l).map (fun p => G p.2) = (l.map fun p => G p.2).set j (G v)) ∨
  (findA (F k) (l.map fun p => F p.1) = none ∧ (mset eq k v l).map (fun p => F p.1) = l.map (fun p => F p.1) ++ [F k] ∧ (mset eq k v l).map (fun p => G p.2) = (l.map fun p => G p.2) ++ [G v])
 | [] => .inr ⟨rfl, rfl, rfl⟩
 | p :: r => by
  have ih := findA_set he k v r
  simp only [List.map_cons, findA, mset, he]
  cases hq : eq p.1 k with
  | true => exact .inl ⟨0, rfl, rfl, rfl⟩
  | false =>
   simp only [cond_false, List.map_cons]
   rcases ih with ⟨j, h1, h2, h3⟩ | ⟨h1, h2, h3⟩
   ·rw [h1, h2, h3]
    exact .inl ⟨j + 1, rfl, rfl, rfl⟩
   ·rw [h1, h2, h3]
    exact .inr ⟨rfl, rfl, rfl⟩
theorem fits_all {kt : TypeId} (hf : ∀ x, keyFits P kt (F x) = true) (l : List (K × V)) : (l.map fun p => F p.1).all (keyFits P kt) = true := by
 rw [List.all_map, List.all_eq_true]
 exact fun p _ => hf p.1
theorem alookup_mp {t kt e : TypeId} {l : List (K × V)} {k : K} {z : V} (hk : (F k).keyV.isSome = true) (ht : mapTypes P t = some (kt, e)) (hf : ∀ x, keyFits P kt (F x) = true) (he : ∀ x y, akeq (F x) (F y) = eq x y) (hz : zeroA1 P e = some (G z)) : alookup P t [] (mpE F G l) (F k) = some (G (mget eq z k l)) := by
 unfold alookup mpE
 rw [ht]
 simp only [entries?]
 rw [hf, hk, fits_all hf]
 simp only [Bool.and_self]
 rcases findA_get (G := G) he z k l with ⟨j, h1, h2⟩ | ⟨h1, h2⟩
 ·rw [h1]
  exact h2
 ·rw [h1, h2]
  exact hz
theorem keyS_int {k : IntKind} {i : Int} (h : wfI k i = true) : (AV.int k i).keyV.isSome = true := by
 simp only [AV.keyV, h]
 rfl
theorem keyS_two {k : IntKind} {i j : Int} (h : (wfI k i && wfI k j) = true) : (AV.agg [.int k i, .int k j]).keyV.isSome = true := by
 rw [Bool.and_eq_true] at h
 simp only [AV.keyV, keyVs, h.1, h.2]
 rfl
def mupPre (P : Program) (all : List Oper) (o : Oper) (env : Env) : Option (Nat × TypeId × AV × AV × List AV × List AV) :=
 match awanted all o env with
 | some true => match o.op with
  | .mapUpdate t m k v => match o.dst, aop env m, aop env k, aop env v, mapTypes P t with
   | none, some (.mb 0 id), some k, some v, some (kt, e) => match v.mapElem, look env id with
    | true, some (.hob 0 ks vs) => some (id, kt, k, v.strip, ks, vs)
    | _, _ => none
   | _, _, _, _, _ => none
  | _ => none
 | _ => none
theorem WO.mapK {draw : Bool} {all ops : List Oper} {Q : Env → Prop} {env e1 : Env} {id kt : Nat} {l : List (K × V)} {a : K} {b : V} (k : Nat) (hk : (F a).keyV.isSome = true) (hn : Nat.blt l.length 1000000000 = true) (h : WO P n draw all (ops.drop (k + 1)) Q e1)
  (hf : ∀ x, keyFits P kt (F x) = true) (he : ∀ x y, akeq (F x) (F y) = eq x y)
  (hp : stepsE P n draw all k ops env (fun os e => match os with | o :: _ => mupPre P all o e | [] => none) = some (id, kt, F a, G b, l.map (fun p => F p.1), l.map (fun p => G p.2)) := by kernel_rfl)
  (hs : stepsE P n draw all k ops env (fun os en => some (ins id (hobE F G (mset eq a b l)) en)) = some e1 := by kernel_rfl) : WO P n draw all ops Q env := by
 obtain ⟨en, h1, h2⟩ := stepsE_some hp
 obtain ⟨en', h3, h4⟩ := stepsE_some hs
 rw [h1] at h3
 cases h3
 cases h4
 refine WO.steps k h1 ?_
 cases hos : ops.drop k with
 | nil => rw [hos] at h2; cases h2
 | cons o rest =>
  rw [hos] at h2
  rw [drop_succ hos] at h
  simp only [mupPre] at h2
  split at h2 <;> try cases h2
  rename_i hw
  split at h2 <;> try cases h2
  rename_i t m k0 v0 ho
  split at h2 <;> try cases h2
  rename_i id' k' v' kt' e' hd hm hk' hv ht
  split at h2 <;> try cases h2
  rename_i ks vs hel hl
  simp only [Option.some.injEq, Prod.mk.injEq] at h2
  obtain ⟨rfl, rfl, rfl, hb, rfl, rfl⟩ := h2
  have hst : astep P n o en = some (ins id' (hobE F G (mset eq a b l)) en) := by
   unfold astep
   rw [ho]
   simp only [hd, hm, hk', hv, ht, hl]
   rw [hf, hk, fits_all hf, hel, List.length_map, hn]
   simp only [Bool.and_self]
   unfold hobE
   rcases findA_set (G := G) he a b l with ⟨j, g1, g2, g3⟩ | ⟨g1, g2, g3⟩
   ·rw [g1, g2, g3, hb]
   ·rw [g1, g2, g3, hb]
  refine WO.step (e1 := ins id' (hobE F G (mset eq a b l)) en) ?_ h
  unfold step1
  rw [hw]
  cases draw with
  | true =>
   have : isEff o.op = true := by rw [ho]; rfl
   refine astepDA_of (lfOk_other (by rw [ho]; rfl)) ?_
   unfold astepD
   simp only [this, hst]
  | false => exact hst
end Go.AM
