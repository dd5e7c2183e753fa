/- s -/
import Derived.Test.YtmfdgonjnckdhaaDoorDY1
import Derived.WalkKit
import Derived.BigCall
import Derived.Lib.ConvBytes
import Derived.Deep.AppendLies
import Derived.Laws.IdiomCopy
import Derived.Deep.RegionHeld3
import Derived.Deep.RegionHeldLaw
import Derived.OneCell
import Derived.Laws.Rows
set_option maxRecDepth 100000
set_option linter.unusedVariables false
set_option linter.unusedSimpArgs false
namespace Go.AM
def b1eq (a b : ByteArray) : Bool := a.toList == b.toList
def backRest (fuel : Nat) (s : ByteArray) : Option Bool := (ix_Back fuel s).bind fun b => bif b.2 != 0 then (bif (b.2 == 2) || (b.2 == 4) then lw4_awake else some false) else (ix_Transform b.1).bind fun c => bif b1eq c.1 s && (c.2 == 0) then lw4_awake else some false
def backMid (fuel : Nat) (t s : ByteArray) (a : ByteArray) (b : ByteArray × Int) : Option Bool := (sl_Sort_byte fuel (bytesI a) a.size).bind fun x => (sl_Sort_byte fuel (bytesI t ++ [10]) (t.size + 1)).bind fun y => chk (decide (a.size ≤ 1000 ∧ t.size ≤ 999 ∧ x.length = a.size ∧ y.length = t.size + 1))
 (bif !(b1eq b.1 t) || (b.2 != 0) then some false else (sl_Equal_byte x y).bind fun q => bif q then backRest fuel s else some false)
def backLaw (fuel : Nat) (t s : ByteArray) : Option Bool :=
 (lw4_few t).bind fun t => (lw4_few s).bind fun s => (ix_Transform t).bind fun a =>
  bif a.2 == 0 then (ix_Back fuel a.1).bind fun b => backMid fuel t s a.1 b else backRest fuel s
end Go.AM
namespace Go.Proofs
open Go.RowKit Go.AM
def RowB (w : World) (g n cap : Nat) (l : List Int) : Prop :=
 ∃ cur fz, w.heap[g]? = some (.cells cur 5 fz) ∧ (cur.size ≤ fz.1 ∨ fz = (0, 0)) ∧ cur.size = cap ∧ n = l.length ∧ n ≤ cap ∧ cap ≤ maxLen ∧ ∀ j (hj : j < l.length), cur[j]? = some (.int .u8 l[j])
theorem RowB.lt {w : World} {g n cap : Nat} {l : List Int} (h : RowB w g n cap l) : g < w.heap.size := by
 obtain ⟨cur, fz, h1, _⟩ := h
 exact (Array.getElem?_eq_some_iff.1 h1).1
theorem RowB.of {w w' : World} {g n cap : Nat} {l : List Int} (h : RowB w g n cap l) (hb : w'.heap[g]? = w.heap[g]?) : RowB w' g n cap l := by
 obtain ⟨cur, fz, h1, h2⟩ := h
 exact ⟨cur, fz, hb.trans h1, h2⟩
theorem RowB.cell {w : World} {g n cap : Nat} {l : List Int} (h : RowB w g n cap l) {j : Nat} (hj : j < l.length) : w.cell? ⟨g, j, none⟩ = some (.int .u8 l[j]) := by
 obtain ⟨cur, fz, h1, _, _, _, _, _, h6⟩ := h
 simp [World.cell?, h1, h6 j hj]
theorem Tryd.infoByte2 : (Tryd.prog.info? 5).map (fun i => (i.zero, i.size, i.bytes)) = some (some (.int .u8 0), 1, 1) := by kernel_rfl
theorem bytes_row (w : World) (q : ByteArray) (hq : q.size ≤ 1000) : RowB (Lib.bytesWorld w 5 q) w.heap.size q.size (grownCap w q.size 0 5) (bytesI q) := by
 have hcap := grownCap_ge w q.size 0 5
 have hcs : (Lib.bytesCells w 5 q).size = grownCap w q.size 0 5 := by
  unfold Lib.bytesCells
  simp
  have : q.data.size = q.size := rfl
  omega
 have hl : (bytesI q).length = q.size := by unfold bytesI; rw [List.length_map, Array.length_toList]; rfl
 refine ⟨_, _, Lib.bytesWorld_at_new w 5 q, .inl (Nat.le_refl _), hcs, hl.symm, hcap, grownCap_le_maxLen w q.size 0 5 (by unfold maxLen; omega), fun j hj => ?_⟩
 have h1 := Lib.bytesWorld_cell w 5 q j (by omega)
 unfold World.cell? at h1
 rw [Lib.bytesWorld_at_new] at h1
 simp only [Option.isSome_none, Bool.false_eq_true, if_false] at h1
 have hjl : j < q.data.toList.length := by rw [Array.length_toList]; have : q.data.size = q.size := rfl; omega
 rw [h1]
 have hjd : j < q.data.size := by rw [Array.length_toList] at hjl; exact hjl
 have e : (bytesI q)[j]? = some ((q.data[j].toNat : Nat) : Int) := by unfold bytesI; rw [List.getElem?_map, Array.getElem?_toList, Array.getElem?_eq_getElem hjd]; rfl
 rw [List.getElem?_eq_getElem hj] at e
 rw [Option.some.inj e, List.getD_eq_getElem?_getD, Array.getElem?_toList, Array.getElem?_eq_getElem hjd]
 rfl
def CellsB (w : World) (g : Nat) (l : List Int) : Prop := ∀ j (hj : j < l.length), w.cell? ⟨g, j, none⟩ = some (.int .u8 l[j])
theorem CellsB.reads {w : World} {g n cap : Nat} {l : List Int} (h : CellsB w g l) (hn : n = l.length) (hc : n ≤ cap) : ∃ N : Mem, Cons N w ∧ R N (l5 none l) (.slice (some ⟨g, 0, none⟩) n cap) ∧ ∀ b o u, N b o = some u → b = g := by
 refine ⟨fun b o => if b = g then (l[o]?).map (Value.int .u8) else none, fun b o u hu => ?_, ?_, fun b o u hu => ?_⟩
 ·simp only at hu
  split at hu
  ·rename_i e
   subst e
   cases ho : l[o]? with
   | none => rw [ho] at hu; cases hu
   | some x =>
    rw [ho] at hu
    cases hu
    obtain ⟨hj, rfl⟩ := List.getElem?_eq_some_iff.1 ho
    exact mc_of_cell (h o hj) rfl
  ·cases hu
 ·have hl : (l.map (AV.int .u8)).length = l.length := by simp
  have hf : ∀ (j : Nat) x, (flat (l.map (AV.int .u8)))[j]? = some x → ∃ h : j < l.length, x = .int .u8 l[j] := by
   intro j x hx
   rw [flat_intsK] at hx
   have hj := (List.getElem?_eq_some_iff.1 hx).1
   rw [hl] at hj
   exact ⟨hj, by simpa [hj] using hx.symm⟩
  have e : n = (l.map (AV.int .u8)).length := by rw [hl]; exact hn
  subst e
  refine .lst (fun j => .int .u8 (l.getD j 0)) (by omega) (fun x hx => ?_) (fun x hx => ?_) (fun j x hx => ?_) (fun j x hx => ?_)
  ·obtain ⟨z, _, rfl⟩ := List.mem_map.1 hx; rfl
  ·obtain ⟨z, _, rfl⟩ := List.mem_map.1 hx; rfl
  ·obtain ⟨hj, rfl⟩ := hf j x hx
   simp [List.getD, hj]
  ·obtain ⟨hj, rfl⟩ := hf j x hx
   rw [List.getD_eq_getElem?_getD, List.getElem?_eq_getElem hj]; exact .int _ _
 ·simp only at hu
  split at hu
  ·assumption
  ·cases hu
def globMem (w : World) : Mem := fun b o => if globs.contains b ∧ o = 0 then (w.cell? ⟨b, 0, none⟩).bind fun v => if isTup v then none else some v else none
theorem globMem_glob {w : World} (hg : GlobW w) : Glob (globMem w) := fun k hk => by
 obtain ⟨m, hm⟩ := hg k hk
 refine ⟨m, ?_⟩
 unfold globMem
 rw [if_pos ⟨List.contains_iff_mem.2 hk, rfl⟩, hm]
 rfl
theorem globMem_cons (w : World) : Cons (globMem w) w := fun b o u hu => by
 unfold globMem at hu
 split at hu
 ·rename_i h
  obtain ⟨v, h1, h2⟩ := Option.bind_eq_some_iff.1 hu
  rw [h.2]
  split at h2
  ·cases h2
  ·rename_i ht
   cases h2
   exact mc_of_cell h1 (by simpa using ht)
 ·cases hu
theorem Tryd.sortB {w : World} {g n cap : Nat} {l r : List Int} {fuel : Nat} (h : RowB w g n cap l) (hr : sl_Sort_byte fuel l n = some r) (hg : GlobW w) (hgn : ∀ k, k ∈ globs → k ≠ g) (hlen : r.length = n) :
  Calls Tryd.prog 17 #[.slice (some ⟨g, 0, none⟩) n cap] w fun e w' => e = .returned (.tuple #[]) ∧ w'.os = w.os ∧ w'.tape = w.tape ∧ w'.output = w.output ∧ w.heap.size ≤ w'.heap.size ∧ (∀ k, k < w.heap.size → k ≠ g → w'.heap[k]? = w.heap[k]?) ∧ CellsB w' g r := by
 have hrun := run_sound (P := Tryd.prog) (by kernel_rfl) (run_sl_Sort_byte fuel l n r hr)
 obtain ⟨cur, fz, h1, h2, h3, h4, h5, h6, h7⟩ := h
 have hgl : g < w.heap.size := (Array.getElem?_eq_some_iff.1 h1).1
 have hMg : ∀ o, globMem w g o = none := fun o => by
  unfold globMem
  rw [if_neg]
  rintro ⟨h, _⟩
  exact hgn g (List.contains_iff_mem.1 h) rfl
 let O : Gh := ⟨fun i c => if i = true ∧ c = 2000000 then some g else none, fun _ => l.length, fun _ => cap⟩
 have hOg : O.o true 2000000 = some g := by simp [O]
 have hOi : ∀ i c g', O.o i c = some g' → i = true ∧ c = 2000000 ∧ g' = g := fun i c g' h => by
  simp only [O] at h
  split at h
  ·rename_i e; exact ⟨e.1, e.2, (Option.some.inj h).symm⟩
  ·cases h
 have hfl : flat (l.map (AV.int .u8)) = l.map (AV.int .u8) := flat_intsK l .u8
 refine (hrun.1 (globMem w) O w [.slice (some ⟨g, 0, none⟩) n cap] (globMem_glob hg) (globMem_cons w) rfl (fun i c g' h => ⟨(hOi i c g' h).1, by rw [(hOi i c g' h).2.2]; exact hgl⟩) (fun c c' g' h h' => (hOi _ _ _ h).2.1.trans (hOi _ _ _ h').2.1.symm) (fun j a b ha hb => ?_) (fun id x hx => ?_)).mono ?_
 ·match j, ha, hb with
  | 0, ha, hb =>
   cases ha; cases hb
   exact ⟨by simp [O, h4], .inr ⟨g, cap, by simp, hOg, by simp [O], h5, by omega⟩⟩
 ·by_cases hid : id = 2000000
  ·subst hid
   cases hx
   refine ⟨by decide, fun y hy => ?_, by simp [O], .inr ⟨g, cur, hOg, ⟨5, fz, h1, .inr ⟨rfl, h2⟩⟩, by simp [O, h3], by simp; omega, hMg, fun j c u hc hu => ?_⟩⟩
   ·obtain ⟨z, _, rfl⟩ := List.mem_map.1 hy
    exact ⟨rfl, rfl⟩
   ·rw [hfl] at hc
    have hj := (List.getElem?_eq_some_iff.1 hc).1
    rw [List.length_map] at hj
    rw [List.getElem?_map, List.getElem?_eq_getElem hj] at hc
    cases hc
    rw [h7 j hj] at hu
    cases hu
    exact .int _ _
  ·exfalso
   have hb : Nat.beq 2000000 id = false := by
    cases h : Nat.beq 2000000 id with
    | true => exact absurd (Nat.eq_of_beq_eq_true h).symm hid
    | false => rfl
   simp only [AM.look, hb] at hx
   cases hx
 ·rintro e w' ⟨v, M', O', rfl, hB, _, _, _, _, _, hfx, hv, hs⟩
  have ho := hs 2000000 _ rfl
  obtain ⟨k0, k1, k2, k3⟩ := ho
  obtain ⟨f1, f2, f3⟩ := hfx 2000000 (by omega) (by omega)
  have hv2 : v = .tuple #[] := by
   have := hv.1
   cases this with
   | tup _ hl2 =>
    rename_i vs hl3
    simp only [List.length_nil] at hl3
    have hl3 := hl3.symm
    have : vs = [] := List.eq_nil_of_length_eq_zero (by assumption)
    subst this
    rfl
  refine ⟨by rw [hv2], hB.os, hB.tape, hB.output, hB.size, fun k hk hne => hB.block k ⟨hk, fun c h => hne (hOi _ _ _ h).2.2⟩, ?_⟩
  rcases k3 with ⟨_, h0⟩ | ⟨g', cur', r1, ⟨el, fz', r2, r3⟩, r4, r5, r6, r7⟩
  ·rw [f1, hOg] at h0; cases h0
  ·rw [f1, hOg] at r1
   cases r1
   intro j hj
   have hjc : j < cur'.size := by
    have : (r.map (AV.int .u8)).length * 1 ≤ cur'.size := r5
    simp at this
    omega
   have := r7 j (.int .u8 r[j]) cur'[j] (by rw [flat_intsK]; simp [hj]) (by simp [hjc])
   simp [World.cell?, r2, hjc, this.int_inv]
theorem Tryd.append_row {w : World} {g n cap : Nat} {l : List Int} {x : Int} {ad : Addr} {c0 : Nat} {ty : TypeId} (h : RowB w g n cap l) (hx : w.cell? (ad.add 0) = some (.int .u8 x)) (hn : n ≤ 1000) :
  ∃ g' cap' w', (Builtin.append_ #[29, 29] ty #[.slice (some ⟨g, 0, none⟩) n cap, .slice (some ad) 1 c0]).run Tryd.prog w = .ok (.slice (some ⟨g', 0, none⟩) (n + 1) cap') w' ∧ RowB w' g' (n + 1) cap' (l ++ [x]) ∧ (g' = g ∨ g' = w.heap.size) ∧ w'.os = w.os ∧ w'.tape = w.tape ∧ w'.output = w.output ∧ w.heap.size ≤ w'.heap.size ∧ (∀ k, k < w.heap.size → k ≠ g → w'.heap[k]? = w.heap[k]?) := by
 obtain ⟨i, hi, hz, hs1, hby⟩ := info_parts Tryd.infoByte2
 obtain ⟨cur, fz, h1, h2, h3, h4, h5, h6, h7⟩ := h
 have hgl : g < w.heap.size := (Array.getElem?_eq_some_iff.1 h1).1
 have hnews : ∀ (j : Nat) u, [Value.int .u8 x][j]? = some u → w.cell? (ad.add j) = some u := by
  intro j u hj
  match j, hj with
  | 0, hj => simp at hj; subst hj; exact hx
 by_cases hroom : n + 1 ≤ cap
 ·have hcell : (w.cell? ⟨g, n, none⟩).isSome = true := by
   simp [World.cell?, h1]; omega
  have hfr : w.frozen? ⟨g, n, none⟩ = false := by
   simp only [World.frozen?, h1, Bool.and_eq_false_iff, decide_eq_false_iff_not]
   rcases h2 with h2 | rfl
   ·exact .inl (by omega)
   ·exact .inr (by simp)
  have hf := run_firstCells_some (P := Tryd.prog) w i.size 1 ad 1 c0 [.int .u8 x] (by rw [hs1]; rfl) hnews
  rw [hs1] at hf
  have hgw : (w.setCell ⟨g, n, none⟩ (.int .u8 x)).heap[g]? = some (.cells (cur.setIfInBounds n (.int .u8 x)) 5 fz) := by
   have h' : w.heap[g] = .cells cur 5 fz := by simpa [Array.getElem?_eq_getElem hgl] using h1
   show (w.heap.modify g _)[g]? = _
   rw [Array.getElem?_eq_getElem (by simpa using hgl), Array.getElem_modify_self, h']
   rfl
  refine ⟨g, cap, w.setCell ⟨g, n, none⟩ (.int .u8 x), ?_, ⟨_, fz, hgw, by simpa using h2, by simpa using h3, by simp [h4], hroom, h6, fun j hj => ?_⟩, .inl rfl, rfl, rfl, rfl, by simp [World.setCell], fun k hk hne => Below.heap_setCell _ _ _ _ hne⟩
  ·have hst := run_storeCells_cells (P := Tryd.prog) g n [.int .u8 x] 0 w (fun j hj => by
    have : j = 0 := by simpa using hj
    subst this; simpa using hcell) (fun j hj => by
    have : j = 0 := by simpa using hj
    subst this; simpa using hfr) (by intro v hv; simp at hv; subst hv; rfl)
   simp only [World.setCells, Nat.add_zero] at hst
   simp [Builtin.append_, run_underlying Tryd.underlying29, sizeOf, typeInfo, hi, Builtin.lenOf, hroom, hf, Addr.add_lit, hs1, hst]
  ·rw [Array.getElem?_setIfInBounds]
   by_cases hjn : n = j
   ·subst hjn
    rw [if_pos rfl, if_pos (by omega)]
    simp [h4]
   ·have hj2 : j < l.length := by simp at hj; omega
    rw [if_neg hjn, h7 j hj2]
    simp [hj2]
 ·have holds : ∀ (j : Nat) u, (l.map (Value.int .u8))[j]? = some u → w.cell? ((⟨g, 0, none⟩ : Addr).add j) = some u := fun j u hj => by
   rw [addr_add0, Nat.zero_add]
   rw [List.getElem?_map] at hj
   cases hl : l[j]? with
   | none => rw [hl] at hj; cases hj
   | some y =>
    rw [hl] at hj
    cases hj
    obtain ⟨hjl, rfl⟩ := List.getElem?_eq_some_iff.1 hl
    simp [World.cell?, h1, h7 j hjl]
  have hr := run_append_grow (P := Tryd.prog) w 29 ty 5 i (.int .u8 0) Tryd.underlying29 hi hz ⟨g, 0, none⟩ n cap (l.map (Value.int .u8)) (by rw [hs1]; simp [h4]) holds ad 1 c0 [.int .u8 x] (by rw [hs1]; rfl) hnews (by omega) (by omega) (growslice_fits (by omega) (by rw [hby]; omega))
  have hge := grownCap_ge w (n + 1) cap 5
  have hzs : (Value.int IntKind.u8 0).cells.size = 1 := rfl
  refine ⟨_, _, _, hr, ⟨_, (0, 0), heap_alloc_new w.drew _, .inr rfl, ?_, by simp [h4], hge, grownCap_le_maxLen w (n + 1) cap 5 (by unfold maxLen; omega), fun j hj => ?_⟩, .inr rfl, rfl, rfl, rfl, by simp, fun k hk _ => by first | exact heap_alloc_old w.drew _ hk | exact heap_alloc_old w.drew _ k hk⟩
  ·simp only [Array.size_append, List.size_toArray, size_zeroCells, hzs, List.length_map, List.length_cons, List.length_nil]
   omega
  ·have hj2 : j < n + 1 := by simp at hj; omega
   rw [Array.getElem?_append_left (by simp; omega)]
   simp only [Array.getElem?_append, List.getElem?_toArray, List.size_toArray, List.length_map]
   by_cases hjl : j < l.length
   ·rw [if_pos hjl]; simp [hjl]
   ·have : j = l.length := by omega
    subst this
    simp
end Go.Proofs
namespace Go.Proofs
open Go.RowKit Go.AM
theorem gbelow {w w' : World} (h : GlobW w) (hB : Below w.heap.size w w') : GlobW w' := fun k hk => (h k hk).imp fun m hm => by rw [hB.cell (by rcases Nat.lt_or_ge k w.heap.size with h | h; exact h; simp [World.cell?, Array.getElem?_eq_none h] at hm)]; exact hm
theorem str_inv {M : Mem} {a : ByteArray} {v : Value} (h : R M (.str a) v) : v = .string a := by cases h; rfl
theorem strint_inv {M : Mem} {a : ByteArray} {e : Int} {v : Value} (h : R M (.tup [.str a, .int .i64 e]) v) : v = .tuple #[.string a, .int .i64 e] := by
 generalize hx : AV.tup [.str a, .int .i64 e] = x at h
 cases h <;> cases hx
 rename_i vs h1 h2
 match vs, h1, h2 with
 | [a1, a2], _, h2 => rw [str_inv (h2 0 _ _ rfl rfl), (h2 1 _ _ rfl rfl).int_inv]
theorem Tryd.runOk {f : Nat} {args : List AV} {r : AV} (h : Run Tryd.prog (.call f args r)) : CallOk Tryd.prog f args r := run_sound (by kernel_rfl) h
theorem Tryd.callSS {f : Nat} {x a : ByteArray} {w : World} (h : Run Tryd.prog (.call f [.str x] (.str a))) (hg : GlobW w) : Calls Tryd.prog f #[.string x] w fun e w' => e = .returned (.string a) ∧ Below w.heap.size w w' := by
 refine Calls.mono (Tryd.runOk h (globMem w) w [.string x] (globMem_glob hg) (globMem_cons w) rfl (fun j a b ha hb => by match j, ha, hb with | 0, ha, hb => cases ha; cases hb; exact .str _)) ?_
 rintro e w' ⟨v, M', rfl, hB, _, _, _, hr, _⟩
 exact ⟨by rw [str_inv hr], hB⟩
theorem Tryd.callST {f : Nat} {x a : ByteArray} {n : Int} {w : World} (h : Run Tryd.prog (.call f [.str x] (.tup [.str a, .int .i64 n]))) (hg : GlobW w) : Calls Tryd.prog f #[.string x] w fun e w' => e = .returned (.tuple #[.string a, .int .i64 n]) ∧ Below w.heap.size w w' := by
 refine Calls.mono (Tryd.runOk h (globMem w) w [.string x] (globMem_glob hg) (globMem_cons w) rfl (fun j a b ha hb => by match j, ha, hb with | 0, ha, hb => cases ha; cases hb; exact .str _)) ?_
 rintro e w' ⟨v, M', rfl, hB, _, _, _, hr, _⟩
 exact ⟨by rw [strint_inv hr], hB⟩
theorem Tryd.callB {f : Nat} {b : Bool} {w : World} (h : Run Tryd.prog (.call f [] (.bool b))) (hg : GlobW w) : Calls Tryd.prog f #[] w fun e w' => e = .returned (.bool b) ∧ Below w.heap.size w w' := by
 refine Calls.mono (Tryd.runOk h (globMem w) w [] (globMem_glob hg) (globMem_cons w) rfl (fun j a b ha hb => by cases ha)) ?_
 rintro e w' ⟨v, M', rfl, hB, _, _, _, hr, _⟩
 exact ⟨by cases hr; rfl, hB⟩
theorem Tryd.callEq {w : World} {g1 g2 n1 n2 c1 c2 : Nat} {x y : List Int} {b : Bool} (h1 : CellsB w g1 x) (e1 : n1 = x.length) (k1 : n1 ≤ c1) (h2 : CellsB w g2 y) (e2 : n2 = y.length) (k2 : n2 ≤ c2) (hne : g1 ≠ g2) (hg : GlobW w) (q1 : ∀ k, k ∈ globs → k ≠ g1) (q2 : ∀ k, k ∈ globs → k ≠ g2) (h : sl_Equal_byte x y = some b) :
  Calls Tryd.prog 18 #[.slice (some ⟨g1, 0, none⟩) n1 c1, .slice (some ⟨g2, 0, none⟩) n2 c2] w fun e w' => e = .returned (.bool b) ∧ Below w.heap.size w w' := by
 obtain ⟨N1, a1, a2, a3⟩ := h1.reads e1 k1
 obtain ⟨N2, b1, b2, b3⟩ := h2.reads e2 k2
 let M : Mem := fun b o => if b = g1 then N1 b o else if b = g2 then N2 b o else globMem w b o
 have hC : Cons M w := fun b o u hu => by
  simp only [M] at hu
  split at hu
  ·exact a1 _ _ _ hu
  ·split at hu
   ·exact b1 _ _ _ hu
   ·exact globMem_cons w _ _ _ hu
 have s1 : AM.Sub N1 M := fun b o u hu => by simp only [M]; rw [if_pos (a3 _ _ _ hu)]; exact hu
 have s2 : AM.Sub N2 M := fun b o u hu => by
  have := b3 _ _ _ hu
  simp only [M]
  rw [if_neg (by omega), if_pos this]; exact hu
 have hG : Glob M := fun k hk => by
  obtain ⟨m, hm⟩ := globMem_glob hg k hk
  refine ⟨m, ?_⟩
  simp only [M]
  rw [if_neg (q1 k hk), if_neg (q2 k hk)]; exact hm
 refine Calls.mono (Tryd.runOk (run_sl_Equal_byte x y b h) M w [_, _] hG hC rfl (fun j a b ha hb => by match j, ha, hb with | 0, ha, hb => (cases ha; cases hb; exact a2.mono s1) | 1, ha, hb => (cases ha; cases hb; exact b2.mono s2))) ?_
 rintro e w' ⟨v, M', rfl, hB, _, _, _, hr, _⟩
 exact ⟨by cases hr; rfl, hB⟩
theorem Tryd.step_append_byte {ops : Array Oper} {o : Oper} {a : Act} {w : World} {K : Act → World → Prop} {Q : Exit → Act → World → Prop} {Z : Prop} (s x : Operand) (ho : o.op = .call { callee := .builtin .append, args := #[s, x], argTypes := #[29, 29] }) {g n cap : Nat} {l : List Int} (t : Int) {ad : Addr} {c0 : Nat}
  (hs : a.eval s = .slice (some ⟨g, 0, none⟩) n cap) (hown : RowB w g n cap l) (hx : a.eval x = .slice (some ad) 1 c0) (hc : w.cell? (ad.add 0) = some (.int .u8 t)) (hlen : n ≤ 1000)
  (hw : Region.wanted o (yielded ops a.tmps) = true)
  (h : ∀ g' cap' w', RowB w' g' (n + 1) cap' (l ++ [t]) → (g' = g ∨ g' = w.heap.size) → w'.os = w.os → w'.tape = w.tape → w'.output = w.output → w.heap.size ≤ w'.heap.size → (∀ k, k < w.heap.size → k ≠ g → w'.heap[k]? = w.heap[k]?) → K (a.put o.dst (.slice (some ⟨g', 0, none⟩) (n + 1) cap')) w') :
  if Region.wanted o (yielded ops a.tmps) = true then Oper.wp Tryd.prog o a w K Q else Z := by
 rw [if_pos hw]
 obtain ⟨g', cap', w', hr, h2, h3, h4, h5, h6, h7, h8⟩ := Tryd.append_row (ty := o.type) (c0 := c0) hown hc hlen
 unfold Oper.wp execOp
 simp only [ho, resolve, invoke, builtin, Sem.run_bind, Sem.run_pure, Result.andThen_ok, List.map_toArray, List.map_cons, List.map_nil, hs, hx, hr]
 exact h g' cap' w' h2 h3 h4 h5 h6 h7 h8
theorem Tryd.wpList_append_byte {ops : Array Oper} {rest : List Oper} {o : Oper} {a : Act} {w : World} {Q : Exit → Act → World → Prop} (hgd : o.guard = none) (s x : Operand) (ho : o.op = .call { callee := .builtin .append, args := #[s, x], argTypes := #[29, 29] }) {g n cap : Nat} {l : List Int} (t : Int) {ad : Addr} {c0 : Nat}
  (hs : a.eval s = .slice (some ⟨g, 0, none⟩) n cap) (hx : a.eval x = .slice (some ad) 1 c0) (hown : RowB w g n cap l) (hc : w.cell? (ad.add 0) = some (.int .u8 t)) (hlen : n ≤ 1000)
  (h : ∀ g' cap' w', RowB w' g' (n + 1) cap' (l ++ [t]) → (g' = g ∨ g' = w.heap.size) → w'.os = w.os → w'.tape = w.tape → w'.output = w.output → w.heap.size ≤ w'.heap.size → (∀ k, k < w.heap.size → k ≠ g → w'.heap[k]? = w.heap[k]?) → wpList Tryd.prog ops Q rest (a.put o.dst (.slice (some ⟨g', 0, none⟩) (n + 1) cap')) w') : wpList Tryd.prog ops Q (o :: rest) a w := by
 refine wpList_plain hgd fun K hK => ?_
 obtain ⟨g', cap', w', hr, h2, h3, h4, h5, h6, h7, h8⟩ := Tryd.append_row (ty := o.type) (c0 := c0) hown hc hlen
 unfold Oper.wp execOp
 simp only [ho, resolve, invoke, builtin, Sem.run_bind, Sem.run_pure, Result.andThen_ok, List.map_toArray, List.map_cons, List.map_nil, hs, hx, hr]
 exact hK _ _ (h g' cap' w' h2 h3 h4 h5 h6 h7 h8)
set_option maxHeartbeats 4000000 in
theorem back6 {fuel : Nat} {t s : ByteArray} {r : Bool} (h : backLaw fuel t s = some r) : CallOk Tryd.prog 6 [.str t, .str s] (.bool r) := by
 intro M w vs hG hC hl hR
 obtain ⟨v0, v1, rfl⟩ : ∃ v0 v1, vs = [v0, v1] := by
  match vs, hl with
  | [v0, v1], _ => exact ⟨v0, v1, rfl⟩
 obtain rfl : v0 = .string t := str_inv (hR 0 _ v0 rfl rfl)
 obtain rfl : v1 = .string s := str_inv (hR 1 _ v1 rfl rfl)
 clear hR hl
 refine Calls.mono (R := fun e w' => e = .returned (.bool r) ∧ Below w.heap.size w w') ?_ (fun e w' ⟨he, hB⟩ => ⟨_, M, he, hB, fun _ _ _ h => h, cons_below hC hB, fun _ _ _ => rfl, .bool _, trivial⟩)
 have g0 : GlobW w := hG.world hC
 clear hC hG
 unfold backLaw at h
 obtain ⟨t1, ht, h⟩ := bind_some h
 obtain ⟨s1, hs, h⟩ := bind_some h
 obtain ⟨a, ha, h⟩ := bind_some h
 have hres : ∀ (tm : Array Value) (b : Bool) (w : World), tm[4]?.getD undef = .bool b → (results Tryd.f6 tm).run Tryd.prog w = .ok (.bool b) w := by
  intro tm b w htm
  have hr : Tryd.f6.results = #[.tmp 4] := by kernel_rfl
  simp [results, hr, htm]
 go_enter Tryd.func6, Tryd.ntmps6
 go_wp2_with fail
 refine Calls.mono (Tryd.callSS (run_lw4_few t t1 ht) g0) ?_
 rintro e w1 ⟨rfl, B1⟩
 have g1 := gbelow g0 B1
 go_wp2_with fail
 refine Calls.mono (Tryd.callSS (run_lw4_few s s1 hs) g1) ?_
 rintro e w2 ⟨rfl, B2⟩
 have g2 := gbelow g1 B2
 go_wp2_with fail
 refine Calls.mono (Tryd.callST (run_ix_Transform t1 a ha) g2) ?_
 rintro e w3 ⟨rfl, B3⟩
 have g3 := gbelow g2 B3
 go_wp2_with fail
 all_goals have B03 : Below w.heap.size w w3 := (B1.trans (B2.mono B1.size)).trans (B3.mono (Nat.le_trans B1.size B2.size))
 ·have hz : (a.2 == 0) = true := by assumption
  rw [hz] at h
  obtain ⟨b, hb, h⟩ := bind_some (show (ix_Back fuel a.1).bind (fun b => backMid fuel t1 s1 a.1 b) = some r from h)
  unfold backMid at h
  obtain ⟨x, hx, h⟩ := bind_some h
  obtain ⟨y, hy, h⟩ := bind_some h
  obtain ⟨hck, h⟩ := chk_some h
  obtain ⟨k1, k2, k3, k4⟩ := of_decide_eq_true hck
  refine Calls.mono (Tryd.callST (run_ix_Back fuel a.1 b hb) g3) ?_
  rintro e w4 ⟨rfl, B4⟩
  have g4 := gbelow g3 B4
  have hcv : ∀ (w : World) (q : ByteArray), (convert 9 29 (.string q)).run Tryd.prog w = .ok (.slice (some ⟨w.heap.size, 0, none⟩) q.size (grownCap w q.size 0 5)) (Lib.bytesWorld w 5 q) := fun w q => Lib.run_convert_string_bytes w 9 29 5 q Tryd.underlying9 Tryd.underlying29 Tryd.underlying5
  have rowA := bytes_row w4 a.1 k1
  have z5 := Lib.bytesWorld_size w4 5 a.1
  have z6 := Lib.bytesWorld_size (Lib.bytesWorld w4 5 a.1) 5 t1
  have rowT := (bytes_row (Lib.bytesWorld w4 5 a.1) t1 (by omega)).of (heap_alloc_old _ (.cells #[.int .u8 10] 5) (by omega))
  have hten : ((Lib.bytesWorld (Lib.bytesWorld w4 5 a.1) 5 t1).alloc (.cells #[.int .u8 10] 5)).cell? ((⟨(Lib.bytesWorld (Lib.bytesWorld w4 5 a.1) 5 t1).heap.size, 0, none⟩ : Addr).add 0) = some (.int .u8 10) := by
   have := heap_alloc_new (Lib.bytesWorld (Lib.bytesWorld w4 5 a.1) 5 t1) (.cells #[.int .u8 10] 5)
   simp only [addr_add0, World.cell?, this]
   rfl
  have z7 : ((Lib.bytesWorld (Lib.bytesWorld w4 5 a.1) 5 t1).alloc (.cells #[.int .u8 10] 5)).heap.size = w4.heap.size + 3 := by simp [z5, z6]
  simp only [z5, z6] at rowT hten
  go_wp2_with (first | (at_builtin; refine Tryd.wpList_append_byte rfl (.tmp 32) (.tmp 33) (by rfl) 10 (by rfl) (by rfl) rowT hten (by omega) ?_; intro g5 c5 w5 row5 hg5 o1 o2 o3 o4 o5))
  rw [z7] at o4 o5 hg5
  have old5 : ∀ k, k ≤ w4.heap.size → w5.heap[k]? = (Lib.bytesWorld w4 5 a.1).heap[k]? := fun k hk => by
   rw [o5 k (by omega) (by omega), heap_alloc_old _ _ (by omega), Lib.bytesWorld_at_old _ _ _ _ (by omega)]
  have rowA5 := rowA.of (old5 _ (Nat.le_refl _))
  have B5 : Below w4.heap.size w4 w5 := ⟨o1, o2, o3, by omega, fun k hk => (old5 k (by omega)).trans (Lib.bytesWorld_at_old _ _ _ _ hk)⟩
  have gg := gbelow g4 B5
  have hlt : ∀ k, k ∈ globs → k < w4.heap.size := fun k hk => by
   obtain ⟨m, hm⟩ := g4 k hk
   rcases Nat.lt_or_ge k w4.heap.size with h | h
   ·exact h
   ·simp [World.cell?, Array.getElem?_eq_none h] at hm
  refine Calls.mono (Tryd.sortB rowA5 hx gg (fun k hk => by have := hlt k hk; omega) k3) ?_
  rintro e w8 ⟨rfl, p1, p2, p3, p4, p5, cA⟩
  have row8 := row5.of (p5 g5 row5.lt (by omega))
  have g8 : GlobW w8 := fun k hk => by
   obtain ⟨m, hm⟩ := gg k hk
   refine ⟨m, ?_⟩
   have := hlt k hk
   simpa [World.cell?, p5 k (by omega) (by omega)] using hm
  go_wp2_with fail
  refine Calls.mono (Tryd.sortB row8 hy g8 (fun k hk => by have := hlt k hk; omega) k4) ?_
  rintro e w9 ⟨rfl, q1, q2, q3, q4, q5, cY⟩
  have g9 : GlobW w9 := fun k hk => by
   obtain ⟨m, hm⟩ := g8 k hk
   refine ⟨m, ?_⟩
   have := hlt k hk
   simpa [World.cell?, q5 k (by omega) (by omega)] using hm
  have cX : CellsB w9 w4.heap.size x := fun j hj => by
   have := cA j hj
   simpa [World.cell?, q5 w4.heap.size (by omega) (by omega)] using this
  have B9 : Below w4.heap.size w4 w9 := ⟨q1.trans (p1.trans B5.os), q2.trans (p2.trans B5.tape), q3.trans (p3.trans B5.output), by omega, fun k hk => (q5 k (by omega) (by omega)).trans ((p5 k (by omega) (by omega)).trans (B5.block k hk))⟩
  have BW : Below w.heap.size w w9 := B03.trans ((B4.mono B03.size).trans (B9.mono (Nat.le_trans B03.size B4.size)))
  cases hq : (b.1.toList == t1.toList) with
  | false =>
   unfold b1eq at h
   rw [hq] at h
   cases h
   go_wp2_with fail
   exact bodyPost_ret (hres _ _ _ (by rfl)) rfl ⟨rfl, BW⟩
  | true =>
   unfold b1eq at h
   rw [hq] at h
   cases hz2 : (b.2 != 0) with
   | true =>
    rw [hz2] at h
    cases h
    go_wp2_with fail
    exact bodyPost_ret (hres _ _ _ (by rfl)) rfl ⟨rfl, BW⟩
   | false =>
    rw [hz2] at h
    obtain ⟨q, hq2, h⟩ := bind_some (show (sl_Equal_byte x y).bind (fun q => bif q then backRest fuel s1 else some false) = some r from h)
    go_wp2_with fail
    refine Calls.mono (Tryd.callEq cX (by omega) (grownCap_ge w4 a.1.size 0 5) cY (by omega) (by have := row5; obtain ⟨_, _, _, _, _, _, h, _⟩ := this; exact h) (by omega) g9 (fun k hk => by have := hlt k hk; omega) (fun k hk => by have := hlt k hk; omega) hq2) ?_
    rintro e w10 ⟨rfl, B10⟩
    cases q with
    | false =>
     cases h
     go_wp2_with fail
     exact bodyPost_ret (hres _ _ _ (by rfl)) rfl ⟨rfl, BW.trans (B10.mono BW.size)⟩
    | true =>
     have hR : backRest fuel s1 = some r := h
     have g10 := gbelow g9 B10
     go_wp2_with fail
     unfold backRest at hR
     obtain ⟨b9, hb9, hR⟩ := bind_some hR
     refine Calls.mono (Tryd.callST (run_ix_Back fuel s1 b9 hb9) g10) ?_
     rintro e wa ⟨rfl, Ba⟩
     have ga := gbelow g10 Ba
     have BA : Below w.heap.size w wa := (BW.trans (B10.mono BW.size)).trans (Ba.mono (BW.trans (B10.mono BW.size)).size)
     cases hn : (b9.2 != 0) with
     | true =>
      rw [hn] at hR
      cases e2 : (b9.2 == 2) with
      | true =>
       rw [e2] at hR
       go_wp2_with fail
       refine Calls.mono (Tryd.callB (run_lw4_awake r hR) ga) ?_
       rintro e wz ⟨rfl, Bz⟩
       go_wp2_with fail
       exact bodyPost_ret (hres _ _ _ (by rfl)) rfl ⟨rfl, BA.trans (Bz.mono BA.size)⟩
      | false =>
       cases e4 : (b9.2 == 4) with
       | true =>
        rw [e2, e4] at hR
        go_wp2_with fail
        refine Calls.mono (Tryd.callB (run_lw4_awake r hR) ga) ?_
        rintro e wz ⟨rfl, Bz⟩
        go_wp2_with fail
        exact bodyPost_ret (hres _ _ _ (by rfl)) rfl ⟨rfl, BA.trans (Bz.mono BA.size)⟩
       | false =>
        rw [e2, e4] at hR
        cases hR
        go_wp2_with fail
        exact bodyPost_ret (hres _ _ _ (by rfl)) rfl ⟨rfl, BA⟩
     | false =>
      rw [hn] at hR
      obtain ⟨c9, hc9, hR⟩ := bind_some (show (ix_Transform b9.1).bind (fun c => bif b1eq c.1 s1 && (c.2 == 0) then lw4_awake else some false) = some r from hR)
      go_wp2_with fail
      refine Calls.mono (Tryd.callST (run_ix_Transform b9.1 c9 hc9) ga) ?_
      rintro e wb ⟨rfl, Bb⟩
      have gb := gbelow ga Bb
      have BB : Below w.heap.size w wb := BA.trans (Bb.mono BA.size)
      unfold b1eq at hR
      cases e2 : (c9.1.toList == s1.toList) with
      | false =>
       rw [e2] at hR
       cases hR
       go_wp2_with fail
       exact bodyPost_ret (hres _ _ _ (by rfl)) rfl ⟨rfl, BB⟩
      | true =>
       cases e4 : (c9.2 == 0) with
       | false =>
        rw [e2, e4] at hR
        cases hR
        go_wp2_with fail
        exact bodyPost_ret (hres _ _ _ (by rfl)) rfl ⟨rfl, BB⟩
       | true =>
        rw [e2, e4] at hR
        go_wp2_with fail
        refine Calls.mono (Tryd.callB (run_lw4_awake r hR) gb) ?_
        rintro e wz ⟨rfl, Bz⟩
        go_wp2_with fail
        exact bodyPost_ret (hres _ _ _ (by rfl)) rfl ⟨rfl, BB.trans (Bz.mono BB.size)⟩
 ·
  have hR : backRest fuel s1 = some r := by
   have hz : (a.2 == 0) = false := by assumption
   rw [hz] at h
   exact h
  unfold backRest at hR
  obtain ⟨b9, hb9, hR⟩ := bind_some hR
  refine Calls.mono (Tryd.callST (run_ix_Back fuel s1 b9 hb9) g3) ?_
  rintro e wa ⟨rfl, Ba⟩
  have ga := gbelow g3 Ba
  have BA : Below w.heap.size w wa := (B03).trans (Ba.mono (B03).size)
  cases hn : (b9.2 != 0) with
  | true =>
   rw [hn] at hR
   cases e2 : (b9.2 == 2) with
   | true =>
    rw [e2] at hR
    go_wp2_with fail
    refine Calls.mono (Tryd.callB (run_lw4_awake r hR) ga) ?_
    rintro e wz ⟨rfl, Bz⟩
    go_wp2_with fail
    exact bodyPost_ret (hres _ _ _ (by rfl)) rfl ⟨rfl, BA.trans (Bz.mono BA.size)⟩
   | false =>
    cases e4 : (b9.2 == 4) with
    | true =>
     rw [e2, e4] at hR
     go_wp2_with fail
     refine Calls.mono (Tryd.callB (run_lw4_awake r hR) ga) ?_
     rintro e wz ⟨rfl, Bz⟩
     go_wp2_with fail
     exact bodyPost_ret (hres _ _ _ (by rfl)) rfl ⟨rfl, BA.trans (Bz.mono BA.size)⟩
    | false =>
     rw [e2, e4] at hR
     cases hR
     go_wp2_with fail
     exact bodyPost_ret (hres _ _ _ (by rfl)) rfl ⟨rfl, BA⟩
  | false =>
   rw [hn] at hR
   obtain ⟨c9, hc9, hR⟩ := bind_some (show (ix_Transform b9.1).bind (fun c => bif b1eq c.1 s1 && (c.2 == 0) then lw4_awake else some false) = some r from hR)
   go_wp2_with fail
   refine Calls.mono (Tryd.callST (run_ix_Transform b9.1 c9 hc9) ga) ?_
   rintro e wb ⟨rfl, Bb⟩
   have gb := gbelow ga Bb
   have BB : Below w.heap.size w wb := BA.trans (Bb.mono BA.size)
   unfold b1eq at hR
   cases e2 : (c9.1.toList == s1.toList) with
   | false =>
    rw [e2] at hR
    cases hR
    go_wp2_with fail
    exact bodyPost_ret (hres _ _ _ (by rfl)) rfl ⟨rfl, BB⟩
   | true =>
    cases e4 : (c9.2 == 0) with
    | false =>
     rw [e2, e4] at hR
     cases hR
     go_wp2_with fail
     exact bodyPost_ret (hres _ _ _ (by rfl)) rfl ⟨rfl, BB⟩
    | true =>
     rw [e2, e4] at hR
     go_wp2_with fail
     refine Calls.mono (Tryd.callB (run_lw4_awake r hR) gb) ?_
     rintro e wz ⟨rfl, Bz⟩
     go_wp2_with fail
     exact bodyPost_ret (hres _ _ _ (by rfl)) rfl ⟨rfl, BB.trans (Bz.mono BB.size)⟩
theorem run_lw4_IndexBack (fuel : Nat) (t s : ByteArray) (r : Bool) (h : backLaw fuel t s = some r) : Run Tryd.prog (.call 6 [.str t, .str s] (.bool r)) := .ext0 (back6 h)
end Go.Proofs
