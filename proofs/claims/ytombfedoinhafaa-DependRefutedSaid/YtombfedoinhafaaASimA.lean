/-
  THE ABSTRACT MACHINE AND THE MODEL: how a value of the machine stands in the model's memory. No statement of the seat is proved here.
-/
import Derived.Test.YtombfedoinhafaaAMach
import Derived.Below
import Derived.Laws.AppendOwn
import Derived.Laws.OwnMore
import Derived.Deep.Draws
import Derived.ChangeKeysEq
set_option linter.unusedVariables false
set_option linter.unusedSimpArgs false
namespace Go.AM
open Go.RowKit

/-- cells that will never be written again, and what they hold -/
abbrev Mem := Nat → Nat → Option Value

def flat (xs : List AV) : List AV := xs.flatMap AV.cells

inductive R (M : Mem) : AV → Value → Prop where
  | top (v) : R M .top v
  | und : R M .und undef
  | int (k n) : R M (.int k n) (.int k n)
  | bool (b) : R M (.bool b) (.bool b)
  | str (s) : R M (.str s) (.string s)
  | agg {cs : List AV} {vs : List Value} : cs.length = vs.length → (∀ (j : Nat) c v, cs[j]? = some c → vs[j]? = some v → R M c v) → R M (.agg cs) (.agg vs.toArray)
  | tup {cs : List AV} {vs : List Value} : cs.length = vs.length → (∀ (j : Nat) c v, cs[j]? = some c → vs[j]? = some v → R M c v) → R M (.tup cs) (.tuple vs.toArray)
  | nils : R M .nils (.slice none 0 0)
  | lstn (e k l) : R M (.lst e k l []) (.slice none 0 0)
  | lste (e k l ad cap) : R M (.lst e k l []) (.slice (some ad) 0 cap)
  | lst {e k l xs b off cap} (us : Nat → Value) : xs.length ≤ cap → (∀ x, x ∈ xs → x.cells.length = k) → (∀ x, x ∈ xs → x.cells.all AV.one = true) → (∀ (j : Nat) c, (flat xs)[j]? = some c → M b (off + j) = some (us j)) → (∀ (j : Nat) c, (flat xs)[j]? = some c → R M c (us j)) → R M (.lst e k l xs) (.slice (some ⟨b, off, none⟩) xs.length cap)
  | ptr {x b off} (us : Nat → Value) : (∀ (j : Nat) c, x.cells[j]? = some c → M b (off + j) = some (us j)) → (∀ (j : Nat) c, x.cells[j]? = some c → R M c (us j)) → R M (.ptr x) (.pointer (some ⟨b, off, none⟩))
  | clo {f caps} {vs : List Value} : caps.length = vs.length → (∀ (j : Nat) c v, caps[j]? = some c → vs[j]? = some v → R M c v) → R M (.clo f caps) (.func (.func f) #[] vs.toArray)

def Sub (M M' : Mem) : Prop := ∀ b o u, M b o = some u → M' b o = some u

theorem Sub.refl (M : Mem) : Sub M M := fun _ _ _ h => h
theorem Sub.trans {A B C : Mem} (h : Sub A B) (k : Sub B C) : Sub A C := fun b o u x => k b o u (h b o u x)

theorem R.mono {M M' : Mem} (hs : Sub M M') {x : AV} {v : Value} (h : R M x v) : R M' x v := by
  induction h with
  | top v => exact .top v
  | und => exact .und
  | int k n => exact .int k n
  | bool b => exact .bool b
  | str s => exact .str s
  | agg hl _ ih => exact .agg hl ih
  | tup hl _ ih => exact .tup hl ih
  | nils => exact .nils
  | lstn e k l => exact .lstn e k l
  | lste e k l ad cap => exact .lste e k l ad cap
  | lst us h1 h2 h5 h3 _ ih => exact .lst us h1 h2 h5 (fun j c hc => hs _ _ _ (h3 j c hc)) ih
  | ptr us h1 _ ih => exact .ptr us (fun j c hc => hs _ _ _ (h1 j c hc)) ih
  | clo hl _ ih => exact .clo hl ih

/-- a mark says nothing of the value -/
theorem R.setLab {M : Mem} {e k l l' xs v} (h : R M (.lst e k l xs) v) : R M (.lst e k l' xs) v := by
  cases h with
  | lstn => exact .lstn e k l'
  | lste => exact .lste e k l' _ _
  | lst us h1 h2 h5 h3 h4 => exact .lst us h1 h2 h5 h3 h4

theorem R.strip {M : Mem} {x v} (h : R M x v) : R M x.strip v := by
  cases x with
  | lst e k l xs => exact h.setLab
  | _ => exact h

theorem R.relab {M : Mem} {x v} (l m) (h : R M x v) : R M (x.relab l m) v := by
  cases x with
  | lst e k c xs =>
    cases c with
    | none => exact h
    | some c =>
      simp only [AV.relab]
      split
      · exact h.setLab
      · exact h
  | _ => exact h

theorem R.one {M : Mem} {x v} (h : R M x v) (ho : x.one = true) : v.oneCell' = true := by
  cases h <;> first | rfl | (simp [AV.one] at ho)

theorem R.cells {M : Mem} {x v} (h : R M x v) (hx : x.cells.all AV.one = true) : v.cells.size = x.cells.length ∧ (∀ (j : Nat) c u, x.cells[j]? = some c → v.cells[j]? = some u → R M c u) ∧ (∀ u, u ∈ v.cells → u.oneCell' = true) := by
  cases h
  case agg cs vs hl hr =>
    refine ⟨by simp [Value.cells, AV.cells, hl], ?_, ?_⟩
    · intro j c u hc hu
      exact hr j c u (by simpa [AV.cells] using hc) (by simpa [Value.cells] using hu)
    · intro u hu
      simp only [Value.cells] at hu
      have hu' : u ∈ vs := by simpa using hu
      obtain ⟨j, hj⟩ := List.mem_iff_getElem?.1 hu'
      have hjlt : j < vs.length := (List.getElem?_eq_some_iff.1 hj).1
      have hc : cs[j]? = some (cs[j]'(by omega)) := List.getElem?_eq_getElem _
      have := hr j _ _ hc hj
      refine this.one ?_
      simp only [AV.cells, List.all_eq_true] at hx
      exact hx _ (List.getElem_mem _)
  all_goals
    first
    | (simp [AV.cells, AV.one] at hx; done)
    | (refine ⟨by simp [Value.cells, AV.cells], ?_, ?_⟩
       · intro j c u hc hu
         simp only [AV.cells, Value.cells] at hc hu
         cases j with
         | succ j => simp at hc
         | zero =>
           simp at hc hu
           subst hc; subst hu
           first
           | exact .int _ _
           | exact .bool _
           | exact .str _
           | exact .nils
           | exact .lstn _ _ _
           | exact .lste _ _ _ _ _
           | exact .lst _ ‹_› ‹_› ‹_› ‹_› ‹_›
           | exact .ptr _ ‹_› ‹_›
           | exact .clo ‹_› ‹_›
       · intro u hu
         simp [Value.cells] at hu
         subst hu
         rfl)

def Cons (M : Mem) (w : World) : Prop := ∀ b o u, M b o = some u → w.cell? ⟨b, o, none⟩ = some u

/-! ### the frame -/

/-- what an owned slice asks of the memory -/
def OwnV (O : Bool → Nat → Option Nat) (M : Mem) (w : World) (x : AV) (v : Value) : Prop :=
  match x with
  | .lst e k (some c) xs => v = .slice none 0 0 ∨ ∃ g cap cur, v = .slice (some ⟨g, 0, none⟩) xs.length cap ∧ O false c = some g ∧ w.heap[g]? = some (.cells cur e (0, 0)) ∧ cur.size = cap * k ∧ xs.length ≤ cap ∧ cap ≤ maxLen ∧ ∀ o, xs.length * k ≤ o → M g o = none
  | _ => True

/-- a value in a slot that is no box -/
def ValOk (O : Bool → Nat → Option Nat) (M : Mem) (w : World) (x : AV) (v : Value) : Prop :=
  match x with
  | .box _ => False
  | .pb s off => ∃ g, v = .pointer (some ⟨g, off, none⟩) ∧ O true s = some g
  | x => R M x v ∧ OwnV O M w x v

def BoxOk (O : Bool → Nat → Option Nat) (M : Mem) (w : World) (t : Nat) (cs : List AV) (v : Value) : Prop :=
  ∃ g cur el, v = .pointer (some ⟨g, 0, none⟩) ∧ O true t = some g ∧ w.heap[g]? = some (.cells cur el (0, 0)) ∧ cur.size = cs.length ∧ (∀ o, M g o = none) ∧
    ∀ (j : Nat) c u, cs[j]? = some c → cur[j]? = some u → c.one = true ∧ R M c u ∧ OwnV O M w c u

def Sat (O : Bool → Nat → Option Nat) (M : Mem) (w : World) (t : Nat) (x : AV) (v : Value) : Prop :=
  match x with
  | .box cs => BoxOk O M w t cs v
  | x => ValOk O M w x v

structure Inv (B : Nat) (M0 : Mem) (w0 : World) (n : Nat) (M : Mem) (O : Bool → Nat → Option Nat) (env : Env) (a : Act) (w : World) : Prop where
  size : a.tmps.size = n
  defers : a.defers = []
  below : Below B w0 w
  hB : B = w0.heap.size
  cons : Cons M w
  ext : Sub M0 M
  old : ∀ b o, b < B → M b o = M0 b o
  own : ∀ i c g, O i c = some g → B ≤ g ∧ g < w.heap.size
  inj : ∀ i i' c c' g, O i c = some g → O i' c' = some g → i = i' ∧ c = c'
  slots : ∀ t x, look env t = some x → Sat O M w t x (a.tmps.getD t undef)

end Go.AM
