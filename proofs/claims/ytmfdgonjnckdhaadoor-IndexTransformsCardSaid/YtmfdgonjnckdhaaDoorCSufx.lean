/- s -/
import Derived.WalkKit
import Derived.BigCall
import Derived.Deep.QuietTactic
import Derived.BigQuiet
import Derived.Test.YtmfdgonjnckdhaaDoorCRow
import Derived.Test.YtmfdgonjnckdhaaDoorShelf
import Derived.Test.YtmfdgonjnckdhaaDoorShelf3
set_option linter.unusedVariables false
set_option linter.unusedSimpArgs false
set_option maxRecDepth 100000
namespace Go.Proofs
open Go.Shelf Go.RowKit Go.Lib Go.Sort
theorem Tryd.mixedS : Tryd.prog.follows .mixedOrders = true := by kernel_rfl
set_option maxHeartbeats 4000000 in
theorem Tryd.cmp38 (t : ByteArray) (tb to : Nat) (x y : Int) (W : World) (hc : W.cell? ⟨tb, to, none⟩ = some (.string t)) (hx : 0 ≤ x ∧ x ≤ (t.size : Int)) (hy : 0 ≤ y ∧ y ≤ (t.size : Int)) :
  Calls Tryd.prog 38 #[.int .i64 x, .int .i64 y, .pointer (some ⟨tb, to, none⟩)] W fun e w' => e = .returned (.int .i64 (Lib.compareBytes (t.data.toList.drop x.toNat) (t.data.toList.drop y.toNat))) ∧ ∃ q, w' = W.drewN q := by
 have mixed := Tryd.mixedS
 have t3 := Tryd.underlying3; have a3 := Tryd.isAgg3; have z3 := Tryd.sizeOf3; have v3 := Tryd.zeroValue3; have u3 := run_underlying Tryd.underlying3
 have t9 := Tryd.underlying9; have a9 := Tryd.isAgg9; have z9 := Tryd.sizeOf9; have v9 := Tryd.zeroValue9; have u9 := run_underlying Tryd.underlying9
 go_enter Tryd.func38, Tryd.ntmps38
 have hx1 : (x.toNat : Int) ≤ (t.size : Int) := by omega
 have hy1 : (y.toNat : Int) ≤ (t.size : Int) := by omega
 go_wp2
 go_quiet (first | (go_at_call 39; exact Calls.quiet_of_same (Tryd.strings_Compare _ _ _)))
 go_wp2
 go_ret
 have ex : ∀ n : Nat, (t.extract n t.size).data.toList = t.data.toList.drop n := fun n => by
  rw [ByteArray.data_extract, Array.toList_extract]
  simp only [List.extract_eq_take_drop]
  rw [List.take_of_length_le]
  rw [List.length_drop, Array.length_toList]
  exact Nat.le_refl _
 rw [ex, ex]
 exact ⟨rfl, nq, rfl⟩
end Go.Proofs
namespace Go.AM
open Go.RowKit Go.Sort Go.Proofs Go.Lib
theorem cmp_ltS : ∀ a b : List UInt8, decide (Lib.compareBytes a b < 0) = ltStr a b
 | [], [] => by simp [Lib.compareBytes, ltStr]
 | [], _ :: _ => by simp [Lib.compareBytes, ltStr]
 | _ :: _, [] => by simp [Lib.compareBytes, ltStr]
 | a :: x, b :: y => by
  have ih := cmp_ltS x y
  unfold ltStr at ih ⊢
  unfold Lib.compareBytes
  simp only [List.cons_lt_cons_iff]
  by_cases h1 : a < b
  ·simp [h1]
  ·by_cases h2 : b < a
   ·have h3 : a ≠ b := fun e => by subst e; exact UInt8.lt_irrefl a h2
    simp [h1, h2, h3]
   ·have h3 : a = b := UInt8.le_antisymm (UInt8.not_lt.1 h2) (UInt8.not_lt.1 h1)
    simp [h1, h2, h3, ih]
def sufL (t : ByteArray) (i : Int) : List UInt8 := t.data.toList.drop i.toNat
def sortSuf (t : ByteArray) (l : List Int) : List Int := l.mergeSort fun x y => !ltStr (sufL t y) (sufL t x)
theorem sortSuf_len (t : ByteArray) (l : List Int) : (sortSuf t l).length = l.length := by unfold sortSuf; exact List.length_mergeSort l
abbrev Pl (t : ByteArray) := {z : Int // 0 ≤ z ∧ z ≤ (t.size : Int)}
instance (t : ByteArray) : Inhabited (Pl t) := ⟨⟨0, by omega⟩⟩
def encP (t : ByteArray) (z : Pl t) : Value := .int .i64 z.1
def cfP (t : ByteArray) (x y : Pl t) : Int := Lib.compareBytes (sufL t x.1) (sufL t y.1)
theorem ltP (t : ByteArray) (x y : Pl t) : ltOf (cfP t) x y = ltStr (sufL t x.1) (sufL t y.1) := cmp_ltS _ _
theorem swoP (t : ByteArray) : SWO (ltOf (cfP t)) where
 irrefl x := by rw [ltP]; exact swo_ltStr.irrefl _
 trans x y z h1 h2 := by rw [ltP] at *; exact swo_ltStr.trans _ _ _ h1 h2
 ntrans x y z h1 h2 := by rw [ltP] at *; exact swo_ltStr.ntrans _ _ _ h1 h2
theorem totP (t : ByteArray) (x y : Pl t) (h1 : ltOf (cfP t) x y = false) (h2 : ltOf (cfP t) y x = false) : x = y := by
 rw [ltP] at h1 h2
 have e : sufL t x.1 = sufL t y.1 := by
  unfold ltStr at h1 h2
  simp only [decide_eq_false_iff_not, List.not_lt] at h1 h2
  exact List.le_antisymm h2 h1
 have hl := congrArg List.length e
 unfold sufL at hl
 have hs : t.data.toList.length = t.size := Array.length_toList
 rw [List.length_drop, List.length_drop, hs] at hl
 have := x.2
 have := y.2
 exact Subtype.ext (by omega)
theorem putRow_val (t : ByteArray) (w : World) (b o : Nat) (d : Array (Pl t)) : Go.Sort.putRow (encP t) w b o d = Go.Sort.putRow (Value.int .i64) w b o (d.map (·.1)) := by
 unfold Go.Sort.putRow
 congr 1
 funext c
 unfold putCells
 congr 1
 funext k x
 simp only [Array.size_map]
 split
 ·rename_i h
  have hk : k - o < d.size := by omega
  rw [getElem!_pos d _ hk, getElem!_pos (d.map (·.1)) _ (by simpa using hk), Array.getElem_map]
  rfl
 ·rfl
theorem sorted_val (t : ByteArray) (d : List (Pl t)) : (d.mergeSort fun x y => !ltOf (cfP t) y x).map (·.1) = sortSuf t (d.map (·.1)) := by
 unfold sortSuf
 refine List.map_mergeSort fun x _ y _ => ?_
 rw [ltP]
theorem sortSuf37 {t : ByteArray} {l : List Int} (h0 : l ≠ []) (hl : l.length < 4611686018427387904) (hr : (l.all fun z => decide (0 ≤ z) && decide (z ≤ (t.size : Int))) = true) :
  CallMOk Tryd.prog 37 [.sb 2000000 3 1 0 l.length, .clo 38 [.ptr (.str t)]] [(2000000, .obj 3 1 (l.map (AV.int .i64)))] (.tup []) [(2000000, .obj 3 1 ((sortSuf t l).map (AV.int .i64)))] := by
 have hz : ∀ z, z ∈ l → 0 ≤ z ∧ z ≤ (t.size : Int) := fun z hz => by
  have := List.all_eq_true.1 hr z hz
  simpa using this
 obtain ⟨d, rfl⟩ : ∃ d : List (Pl t), l = d.map (·.1) := ⟨l.attach.map fun z => ⟨z.1, hz z.1 z.2⟩, by simp⟩
 intro M O w vs hG hC hlen hO hOi hR hH
 obtain ⟨v, fv, rfl⟩ : ∃ v fv, vs = [v, fv] := by
  match vs, hlen with
  | [v, fv], _ => exact ⟨v, fv, rfl⟩
 have hv := hR 0 _ v rfl rfl
 have hf := (hR 1 _ fv rfl rfl).1
 have ho := hH 2000000 (.obj 3 1 ((d.map (·.1)).map (AV.int .i64))) rfl
 obtain ⟨g, cap, cur, rfl, p1, p2, p3, p4, p5, p6, p7, p8⟩ := row_holds h0 ho hv
 obtain ⟨cv, rfl, hcv⟩ : ∃ cv, fv = .func (.func 38) #[] #[cv] ∧ R M (.ptr (.str t)) cv := by
  generalize hx : AV.clo 38 [.ptr (.str t)] = x at hf
  have hx' : x.strip = x := by rw [← hx]; rfl
  rw [hx'] at hf
  cases hf with
  | clo e1 e2 =>
   rename_i vs
   cases hx
   match vs, e1 with
   | [cv], _ => exact ⟨cv, rfl, e2 0 _ _ rfl rfl⟩
  | _ => cases hx
 obtain ⟨tb, to, rfl, hcell⟩ : ∃ tb to, cv = .pointer (some ⟨tb, to, none⟩) ∧ M tb to = some (.string t) := by
  generalize hx : AV.ptr (.str t) = x at hcv
  cases hcv with
  | ptr us e1 e2 e3 =>
   cases hx
   refine ⟨_, _, rfl, ?_⟩
   have h1 := e1 0 (.str t) rfl
   rw [Nat.add_zero] at h1
   have h2 : us 0 = Value.string t := by
    have h2 := e2 0 (.str t) rfl
    generalize us 0 = u at h2
    cases h2
    rfl
   rw [h1, h2]
  | _ => cases hx
 have hgs : g < w.heap.size := (hO _ _ _ p1).2
 have hcw : w.cell? ⟨tb, to, none⟩ = some (.string t) := mc_cell (hC _ _ _ hcell) rfl
 have htb : tb < w.heap.size := mc_lt (hC _ _ _ hcell)
 have htg : tb ≠ g := fun e => by rw [e, p7] at hcell; cases hcell
 have hsz : d.toArray.size = d.length := by simp
 have hsz2 : (d.map (·.1)).length = d.length := by simp
 have hHd : Holds (encP t) w g 0 d.toArray := by
  intro j hj
  have hj' : j < d.length := by simpa using hj
  obtain ⟨e1, e2⟩ := p8 j (by simpa using hj')
  refine ⟨?_, e2⟩
  rw [e1]
  simp [encP, hj']
 have eg : ∀ args w, (callFunc 38 args).run Tryd.prog w = .ok (.enter 38 args) w := enters_of Tryd.func38 (by kernel_rfl) rfl
 have hcmp : CmpLays1 Tryd.prog 38 #[.pointer (some ⟨tb, to, none⟩)] (encP t) (cfP t) g 0 d.toArray.size w := by
  intro m os dk hs x y
  have hcW : (sortWorld (encP t) w g 0 m dk os).cell? ⟨tb, to, none⟩ = some (.string t) := by
   rw [← hcw]
   unfold sortWorld
   rw [cell?_grow _ _ _ (by simpa using htb)]
   have : g ≠ tb := fun e => htg e.symm
   simp [World.cell?, Go.Sort.putRow, mapBlock, Sort.ahead, Array.getElem?_modify, this]
  refine (Tryd.cmp38 t tb to x.1 y.1 _ hcW x.2 y.2).mono ?_
  rintro e w' ⟨rfl, q, rfl⟩
  exact ⟨rfl, q, #[], by rw [grow_empty]⟩
 have hcon := Any.slices_SortFunc_total Tryd.lSortF (encP t) (fun _ => rfl) (cfP t) (swoP t) 38 #[.pointer (some ⟨tb, to, none⟩)] g 0 cap d.toArray w eg hcmp hHd hgs (by rw [hsz, ← hsz2]; exact hl) (totP t)
 change Calls Tryd.prog 37 _ _ _ at hcon
 rw [hsz, ← hsz2] at hcon
 refine hcon.mono ?_
 rintro ed w' ⟨rfl, n, os, hw⟩
 have hw2 : w' = grow (Go.Sort.putRow (Value.int .i64) (Sort.ahead w n) g 0 (sortSuf t (d.map (·.1))).toArray) os := by
  rw [hw]
  unfold sortWorld
  rw [putRow_val, ← sorted_val]
  simp
 obtain ⟨b1, b2, b3, b4, b5⟩ := row_behind (cur := cur) (sortSuf_len t _) h0 ho hC hO hOi p1 hw2
 refine ⟨_, M, O, rfl, b1, Sub.refl M, b2, fun _ _ _ _ => rfl, b3, b4, fun c _ _ => Gh.Eq1.refl O c, ⟨.tup (vs := []) rfl (fun j c v hc => by simp at hc), trivial⟩, fun id x hx => ?_⟩
 simp only [look] at hx
 split at hx
 ·rename_i hb
  cases hx
  obtain rfl := (Nat.eq_of_beq_eq_true hb).symm
  exact b5
 ·cases hx
end Go.AM
