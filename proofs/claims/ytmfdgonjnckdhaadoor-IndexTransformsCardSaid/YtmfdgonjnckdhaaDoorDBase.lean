/- s -/
import Derived.Test.YtmfdgonjnckdhaaDoorAClose
import Derived.Test.YtmfdgonjnckdhaaDoorChecked
import Derived.Shelf.LaysM
import Derived.Test.YtmfdgonjnckdhaaDoorRows
import Derived.HandedShaped
import Derived.ProofKit
import Derived.OpenShut
import Derived.Lay
import Derived.LaidOnce
import Derived.SevenTiedAt
set_option linter.unusedVariables false
namespace Go.AM
open Go.Proofs Go.Proofs.YtmfdgonjnckdhaaDoor Go.ChangeShapes Go.WideShapes Go.ChangeAt Go.RowKit
theorem readsStr : Reads Tryd.prog 9 AV.str (fun _ => True) := fun H enc w fuel cs x h =>
 let ⟨a, _, h2⟩ := reads_str (P := Tryd.prog) (t := 9) (by kernel_rfl) H enc w fuel cs x h
 ⟨a, trivial, h2⟩
theorem readsInt : Reads Tryd.prog 3 (AV.int .i64) (fun _ => True) := fun H enc w fuel cs x h =>
 let ⟨a, _, h2⟩ := reads_int (P := Tryd.prog) (t := 3) (k := .i64) (by kernel_rfl) H enc w fuel cs x h
 ⟨a, trivial, h2⟩
theorem readsByte : Reads Tryd.prog 5 (AV.int .u8) (fun _ => True) := fun H enc w fuel cs x h =>
 let ⟨a, _, h2⟩ := reads_int (P := Tryd.prog) (t := 5) (k := .u8) (by kernel_rfl) H enc w fuel cs x h
 ⟨a, trivial, h2⟩
theorem own : ownKnob Tryd.prog.godebug = none := by kernel_rfl
theorem mixed : Tryd.prog.follows .mixedOrders = true := by kernel_rfl
theorem laid : laidOutB Tryd.prog = true := by kernel_rfl
theorem globW_shaped {W : World} (h : W.ShapedOpen Tryd.prog) : GlobW W := by
 intro g hg
 simp only [globs, List.mem_singleton] at hg
 subst hg
 exact Go.Proofs.cell_of_shapedOpen_int (zero := #[.int .i64 0]) (t := 3) h (of_decide_eq_true (by kernel_rfl)) (by kernel_rfl) rfl (by kernel_rfl) (by kernel_rfl) Tryd.underlying3
def laidRows : List (String × DataW Unit) := [("unicode/utf8.acceptRanges", Rows.laid_unicode_utf8_acceptRanges), ("unicode/utf8.first", Rows.laid_unicode_utf8_first)]
theorem handed_laid {H : Type} {enc : TypeId × Value → H} {a : Assume} {C : Checked} {os : Os} {f : FuncId} {fn : Func} {s : ChangeSpec} {conds : List PathCond} {apart fresh handsOn again : Bool} {X : World → Array Value → Prop}
  (own : ownKnob C.prog.godebug = none) (started : os.Started) (noInit : C.prog.inits.idxOf? f = none) (hfn : C.prog.funcs[f]? = some fn)
  (witness : ∃ (w : World) (tape : Tape) (i : Input), w.os = os ∧ (w.forCall tape i).Shaped C.prog ∧ i.vars = [] ∧ Input.okWide C.prog (w.forCall tape i) .any w.heap.size f i ∧
   ((s.pre enc C.prog fn conds apart (w.forCall tape i).memory i.args ∧ X (w.forCall tape i).memory i.args) ∧ sizedMet enc C.prog fn (OpenSpec.ofChange s) apart (w.forCall tape i).memory i.args) ∧ a.holds C.prog (lone (Frame.enter C.prog f i.args .normal) [] (w.forCall tape i)))
  (contract : ∀ (W : World) (base : Nat) (args : Array Value) (ds gs : List (DataW H)) (before : List MemPlace),
   (∀ (j : Nat) t v, fn.params[j]? = some t → args[j]? = some v → Value.okWide C.prog W .any base t v) →
   DataW.Whole enc C.prog fn.params.toList s.vars apart W args.toList ds gs before →
   W.ShapedOpen C.prog →
   Calls C.prog f args W fun e W' => ∃ v, e = .returned v ∧ s.post enc C.prog fn apart fresh handsOn again W args v W') :
  ReturnsInHanded a C os f .any (fun w args => (s.pre enc C.prog fn conds apart w args ∧ X w args) ∧ sizedMet enc C.prog fn (OpenSpec.ofChange s) apart w args) (s.post enc C.prog fn apart fresh handsOn again) := by
 refine returnsInHanded_of_calls own started noInit witness ?_
 intro w tape i _ hsh _ hok hpre hholds
 obtain ⟨_, _, _, fn', hfn', _, _, _, _, hval⟩ := hok
 have e : fn' = fn := Option.some.inj (hfn'.symm.trans hfn)
 subst e
 obtain ⟨⟨⟨ds, gs, before, hw, hc⟩, _⟩, hz⟩ := hpre
 have hw' := DataW.Whole.of_heap (w' := w.forCall tape i) (by rfl) hw
 refine (contract (w.forCall tape i) w.heap.size i.args ds gs before hval hw' hsh).mono fun e W' ⟨v, he, hp⟩ => ?_
 subst he
 exact ChangeSpec.post_blind hp
end Go.AM
