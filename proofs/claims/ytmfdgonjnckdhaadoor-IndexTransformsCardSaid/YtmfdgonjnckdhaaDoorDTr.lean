/- s -/
import Derived.Test.YtmfdgonjnckdhaaDoorDQ2
import Derived.WalkKit
import Derived.BigCall
import Derived.OwnWalk
import Derived.Deep.RegionHeld3
import Derived.Deep.RegionHeldLaw
import Derived.Deep.OwnRows
import Derived.Laws.OwnMore
import Derived.Lib.OthersKept
import Derived.OneCell
import Derived.Laws.Rows
set_option maxRecDepth 100000
set_option linter.unusedVariables false
set_option linter.unusedSimpArgs false
namespace Go.AM
def hitB (l : List UInt8) (p : Nat) (c : UInt8) (j : Nat) : Bool := match l[j]? with
 | some x => x != 10 && (decide (x < c) || (x == c && decide (j < p)))
 | none => false
def plcB (l : List UInt8) (p : Nat) (c : UInt8) : Nat → Nat
 | 0 => 1
 | k + 1 => plcB l p c k + (if hitB l p c k = true then 1 else 0)
def refWalk (l : List UInt8) : Nat → Nat → List UInt8 → Option (List UInt8)
 | 0, _, out => some out
 | d + 1, p, out => match l[p]? with
  | none => none
  | some c => if c = 10 then some out else if l.length ≤ plcB l p c l.length then none else refWalk l d (plcB l p c l.length) (c :: out)
theorem refWalk_succ {l : List UInt8} {d p : Nat} {out : List UInt8} {c : UInt8} (h : l[p]? = some c) : refWalk l (d + 1) p out = if c = 10 then some out else if l.length ≤ plcB l p c l.length then none else refWalk l d (plcB l p c l.length) (c :: out) := by
 rw [refWalk, h]
def backEnd (fuel : Nat) (l F : List UInt8) : Option (ByteArray × Int) := bif l.isEmpty then some (ByteArray.mk #[], 4) else (rf4_Label ⟨F.toArray⟩).bind fun b => bif !b then some (ByteArray.mk #[], 4) else
 (rf4_Transform fuel ⟨F.toArray⟩).bind fun x => bif !(x.toList == l) then some (ByteArray.mk #[], 4) else some (⟨F.toArray⟩, 0)
def refBackP (fuel : Nat) (l : List UInt8) : Option (ByteArray × Int) := (rf4_Moved ⟨l.toArray⟩).bind fun m => bif !m then some (ByteArray.mk #[], 2) else
 chk (decide (l.length ≤ 1000) && l.all fun x => decide (x.toNat < 128)) (match refWalk l l.length 0 [] with
  | none => some (ByteArray.mk #[], 4)
  | some F => backEnd fuel l F)
theorem plcB_le (l : List UInt8) (p : Nat) (c : UInt8) : ∀ k, plcB l p c k ≤ k + 1
 | 0 => Nat.le_refl _
 | k + 1 => by
  have := plcB_le l p c k
  unfold plcB
  split <;> omega
end Go.AM
namespace Go.Proofs
open Go.Shelf Go.RowKit Go.Lib Go.AM
theorem gbelow {w w' : World} (h : GlobW w) (hB : Below w.heap.size w w') : GlobW w' := fun k hk => (h k hk).imp fun m hm => by rw [hB.cell (by rcases Nat.lt_or_ge k w.heap.size with h | h; exact h; simp [World.cell?, Array.getElem?_eq_none h] at hm)]; exact hm
theorem str_inv {M : Mem} {a : ByteArray} {v : Value} (h : R M (.str a) v) : v = .string a := by cases h; rfl
theorem Tryd.runOk {f : Nat} {args : List AV} {r : AV} (h : Run Tryd.prog (.call f args r)) : CallOk Tryd.prog f args r := run_sound (by kernel_rfl) h
def globMem (w : World) : Mem := fun b o => if globs.contains b ∧ o = 0 then (w.cell? ⟨b, 0, none⟩).bind fun v => if isTup v then none else some v else none
theorem globMem_glob {w : World} (hg : GlobW w) : Glob (globMem w) := fun k hk => by
 obtain ⟨m, hm⟩ := hg k hk
 refine ⟨m, ?_⟩
 unfold globMem
 rw [if_pos ⟨List.contains_iff_mem.2 hk, rfl⟩, hm]
 rfl
theorem globMem_cons (w : World) : Cons (globMem w) w := fun b o u hu => by
 unfold globMem at hu
 split at hu
 ·rename_i h
  obtain ⟨v, h1, h2⟩ := Option.bind_eq_some_iff.1 hu
  rw [h.2]
  split at h2
  ·cases h2
  ·rename_i ht
   cases h2
   exact mc_of_cell h1 (by simpa using ht)
 ·cases hu
theorem Tryd.callSB {f : Nat} {x : ByteArray} {b : Bool} {w : World} (h : Run Tryd.prog (.call f [.str x] (.bool b))) (hg : GlobW w) : Calls Tryd.prog f #[.string x] w fun e w' => e = .returned (.bool b) ∧ Below w.heap.size w w' := by
 refine Calls.mono (Tryd.runOk h (globMem w) w [.string x] (globMem_glob hg) (globMem_cons w) rfl (fun j a b ha hb => by match j, ha, hb with | 0, ha, hb => cases ha; cases hb; exact .str _)) ?_
 rintro e w' ⟨v, M', rfl, hB, _, _, _, hr, _⟩
 exact ⟨by cases hr; rfl, hB⟩
theorem Tryd.callSS {f : Nat} {x a : ByteArray} {w : World} (h : Run Tryd.prog (.call f [.str x] (.str a))) (hg : GlobW w) : Calls Tryd.prog f #[.string x] w fun e w' => e = .returned (.string a) ∧ Below w.heap.size w w' := by
 refine Calls.mono (Tryd.runOk h (globMem w) w [.string x] (globMem_glob hg) (globMem_cons w) rfl (fun j a b ha hb => by match j, ha, hb with | 0, ha, hb => cases ha; cases hb; exact .str _)) ?_
 rintro e w' ⟨v, M', rfl, hB, _, _, _, hr, _⟩
 exact ⟨by rw [str_inv hr], hB⟩
def OwnB (w : World) (B : Nat) (v : Value) (l : List UInt8) : Prop := w.ownsRow B 5 1 v l.length (byteCells l)
theorem OwnB.nil (w : World) (B : Nat) : OwnB w B (.slice none 0 0) [] := World.ownsRow_nil _ _ _ _
theorem addr_add2 (g j : Nat) : (⟨g, 0, none⟩ : Addr).add j = ⟨g, j, none⟩ := by
 unfold Addr.add; split <;> simp_all
theorem OwnB.conv {w : World} {B : Nat} {v : Value} {l : List UInt8} (h : OwnB w B v l) : (convert 29 9 v).run Tryd.prog w = .ok (.string ⟨l.toArray⟩) w := by
 rcases h.2 with ⟨rfl, h0⟩ | ⟨g, cap, cur, rfl, _, hb, _⟩
 ·have : l = [] := List.eq_nil_of_length_eq_zero h0
  subst this
  exact run_convert_bytes_nil w 29 5 Tryd.underlying29 Tryd.underlying5 0 0 9 Tryd.underlying9
 ·have hc := World.ownsRow.cells h (g := g) rfl
  have hr := run_convert_bytes_arg w 29 5 Tryd.underlying29 Tryd.underlying5 g 0 l.length cap (l.map fun x => (x.toNat : Int)) (by simp) (fun i hi => by
   have := hc i (.int .u8 (l[i].toNat : Nat)) (by unfold byteCells; simp [hi])
   rw [addr_add2] at this
   rw [Nat.zero_add, this]
   simp [List.getD, hi]) 9 Tryd.underlying9
  rw [hr]
  unfold strOfNums
  simp [List.map_map]
  conv => rhs; rw [← List.map_id l]
  exact List.map_congr_left fun x _ => by simp
theorem OwnB.next {w w' : World} {B : Nat} {v : Value} {l : List UInt8} (h : OwnB w B v l) (hb : Below w.heap.size w w') : OwnB w' B v l :=
 World.ownsRow.kept h (⟨hb.os, hb.tape, hb.output, hb.size, fun k hk _ => hb.block k hk⟩ : w.grownBy w' none) (by
  cases hvb : v.ownBlock with
  | none => exact .inl rfl
  | some k => exact .inr (by intro e; cases e))
theorem Tryd.infoByte3 : (Tryd.prog.info? 5).map (fun i => (i.zero, i.size, i.bytes)) = some (some (.int .u8 0), 1, 1) := by kernel_rfl
theorem Tryd.prepend {w : World} {B : Nat} {v : Value} {out : List UInt8} (c : UInt8) {ty : TypeId} (h : OwnB w B v out) (hl : out.length ≤ 1000) (hB : B ≤ w.heap.size) :
  ∃ v' w', (Builtin.append_ #[29, 29] ty #[.slice (some ⟨w.heap.size, 0, none⟩) 1 1, v]).run Tryd.prog (w.alloc (.cells #[.int .u8 (c.toNat : Nat)] 5)) = .ok v' w' ∧ OwnB w' B v' (c :: out) ∧ Below w.heap.size w w' := by
 obtain ⟨i, hi, hz, hs1, hby⟩ := info_parts Tryd.infoByte3
 have hnew := heap_alloc_new w (.cells #[.int .u8 (c.toNat : Nat)] 5)
 have hown : (w.alloc (.cells #[.int .u8 (c.toNat : Nat)] 5)).ownsRow B 5 1 (.slice (some ⟨w.heap.size, 0, none⟩) 1 1) 1 [.int .u8 (c.toNat : Nat)] :=
  ⟨rfl, .inr ⟨w.heap.size, 1, #[.int .u8 (c.toNat : Nat)], rfl, hB, hnew, Nat.le_refl _, by unfold maxLen; decide, rfl, rfl⟩⟩
 have B0 : Below w.heap.size w (w.alloc (.cells #[.int .u8 (c.toNat : Nat)] 5)) := (Below.refl _ _).alloc (Nat.le_refl _) _
 rcases h.2 with ⟨rfl, h0⟩ | ⟨g, cap, cur, rfl, hbg, hb, hrest⟩
 ·have : out = [] := List.eq_nil_of_length_eq_zero h0
  subst this
  exact ⟨_, _, run_append_owned_none (P := Tryd.prog) _ B 29 ty 5 i 1 Tryd.underlying29 hi _ _ _ hown, hown, B0⟩
 ·have hc := World.ownsRow.cells (World.ownsRow.alloc h (.cells #[.int .u8 (c.toNat : Nat)] 5)) (g := g) rfl
  obtain ⟨v', w', r1, r2, r3, _⟩ := run_append_own (P := Tryd.prog) (w.alloc (.cells #[.int .u8 (c.toNat : Nat)] 5)) B 29 ty 5 i (.int .u8 0) 1 1 Tryd.underlying29 hi hz hs1 hby rfl (by decide) _ 1 _ hown ⟨g, 0, none⟩ out.length cap (byteCells out) (by rw [h.1]) hc (fun u hu => by
   unfold byteCells at hu; obtain ⟨x, _, rfl⟩ := List.mem_map.1 hu; rfl) (by unfold maxLen; omega) (by omega) (by simp; omega)
  refine ⟨v', w', r1, ?_, B0.grown r3 (by simp) (fun k hk => by cases hk; exact Nat.le_refl _)⟩
  unfold OwnB
  have e : (c :: out).length = 1 + out.length := by simp; omega
  rw [e]
  exact r2
theorem Tryd.wpList_prepend {ops : Array Oper} {rest : List Oper} {o : Oper} {a : Act} {W : World} {Q : Exit → Act → World → Prop} (w : World) (c : UInt8) {B : Nat} {v : Value} {out : List UInt8} (h : OwnB w B v out) (hl : out.length ≤ 1000) (hB : B ≤ w.heap.size) (hW : W = w.alloc (.cells #[.int .u8 (c.toNat : Nat)] 5)) (hgd : o.guard = none) (s x : Operand) (ho : o.op = .call { callee := .builtin .append, args := #[s, x], argTypes := #[29, 29] })
  (hs : a.eval s = .slice (some ⟨w.heap.size, 0, none⟩) 1 1) (hx : a.eval x = v)
  (hk : ∀ v' w', OwnB w' B v' (c :: out) → Below w.heap.size w w' → wpList Tryd.prog ops Q rest (a.put o.dst v') w') : wpList Tryd.prog ops Q (o :: rest) a W := by
 subst hW
 refine wpList_plain hgd fun K hK => ?_
 obtain ⟨v', w', hr, h2, h3⟩ := Tryd.prepend (ty := o.type) c h hl hB
 unfold Oper.wp execOp
 simp only [ho, resolve, invoke, builtin, Sem.run_bind, Sem.run_pure, Result.andThen_ok, List.map_toArray, List.map_cons, List.map_nil, hs, hx, hr]
 exact hK _ _ (hk v' w' h2 h3)
theorem own_iterAt2 {w : World} {B : Nat} {v : Value} {l : List UInt8} {k : Nat} {s : ByteArray} {pos : Nat} (h : OwnB w B v l) (hk : w.heap[k]? = some (.stringIter s pos)) (pos' : Nat) : OwnB (w.iterAt k s pos') B v l := by
 refine ⟨h.1, ?_⟩
 rcases h.2 with h0 | ⟨g, cap, cur, hv, hb, hg, rest⟩
 ·exact .inl h0
 ·refine .inr ⟨g, cap, cur, hv, hb, ?_, rest⟩
  rw [Lib.iterAt_other _ _ _ _ _ (fun e => by subst e; rw [hk] at hg; cases hg)]
  exact hg
set_option maxHeartbeats 8000000 in
theorem refBack10 {fuel : Nat} {l : List UInt8} {r : ByteArray × Int} (h : refBackP fuel l = some r) : CallOk Tryd.prog 10 [.str ⟨l.toArray⟩] (.tup [.str r.1, .int .i64 r.2]) := by
 intro M w vs hG hC hl hR
 obtain ⟨v0, rfl⟩ : ∃ v0, vs = [v0] := by
  match vs, hl with
  | [v0], _ => exact ⟨v0, rfl⟩
 obtain rfl : v0 = .string ⟨l.toArray⟩ := str_inv (hR 0 _ v0 rfl rfl)
 clear hR hl
 refine Calls.mono (R := fun e w' => e = .returned (.tuple #[.string r.1, .int .i64 r.2]) ∧ Below w.heap.size w w') ?_ (fun e w' ⟨he, hB⟩ => ⟨_, M, he, hB, fun _ _ _ h => h, cons_below hC hB, fun _ _ _ => rfl, .tup (vs := [.string r.1, .int .i64 r.2]) rfl (fun j c v hc hv => by
  match j, hc, hv with
  | 0, hc, hv => cases hc; cases hv; exact .str _
  | 1, hc, hv => cases hc; cases hv; exact .int _ _), trivial⟩)
 have g0 : GlobW w := hG.world hC
 clear hC hG
 have hres : ∀ (tm : Array Value) (a b : Value) (w : World), tm[2]?.getD undef = a → tm[3]?.getD undef = b → (results Tryd.f10 tm).run Tryd.prog w = .ok (.tuple #[a, b]) w := by
  intro tm a b w h1 h2
  have hr : Tryd.f10.results = #[.tmp 2, .tmp 3] := by kernel_rfl
  simp [results, hr, h1, h2]
 unfold refBackP at h
 obtain ⟨m, hm, h⟩ := bind_some h
 have hsz : (ByteArray.mk l.toArray).size = l.length := by simp [ByteArray.size]
 have t9 := Tryd.underlying9
 go_enter Tryd.func10, Tryd.ntmps10
 go_wp2_with fail
 refine Calls.mono (Tryd.callSB (run_rf4_Moved _ m hm) g0) ?_
 rintro e w1 ⟨rfl, B1⟩
 have g1 := gbelow g0 B1
 cases m with
 | false =>
  cases h
  go_wp2_with fail
  exact bodyPost_ret (hres _ _ _ _ (by rfl) (by rfl)) rfl ⟨rfl, B1⟩
 | true =>
  obtain ⟨hck, h⟩ := chk_some (show chk _ _ = some r from h)
  rw [Bool.and_eq_true, decide_eq_true_eq, List.all_eq_true] at hck
  obtain ⟨hlen, hasc⟩ := hck
  go_wp2_with fail
  go_loopg [4, 5] l.length (fun gf s4 s5 wx => ∃ (pos p : Nat) (out : List UInt8), s5 = .int .i64 p ∧ OwnB wx w.heap.size s4 out ∧ wx.heap[w1.heap.size]? = some (.stringIter ⟨l.toArray⟩ pos) ∧ Below w.heap.size w wx ∧ refWalk l (l.length - pos) p out = refWalk l l.length 0 [] ∧ l.length ≤ pos + gf ∧ pos ≤ l.length ∧ out.length ≤ pos ∧ (pos < l.length → p < l.length))
  case atStart => exact ⟨0, 0, [], rfl, OwnB.nil _ _, World.iter_heap w1 _ 0, B1.alloc B1.size _, rfl, by omega, Nat.zero_le _, Nat.le_refl _, fun h => h⟩
  case round =>
   obtain ⟨pos, p, out, rfl, hown, hit, hbw, hsp, hfu, hps, hol, hpl⟩ := hrel
   by_cases hlt : pos < l.length
   ·obtain ⟨g', rfl⟩ : ∃ g', gk = g' + 1 := ⟨gk - 1, by omega⟩
    have hp := hpl hlt
    have hnx : ∀ ty, (Instr.next (.pointer (some ⟨w1.heap.size, 0, none⟩)) true ty).run Tryd.prog wr = _ := fun ty => Lib.run_next_ascii_at wr w1.heap.size ⟨l.toArray⟩ pos ty hit (by omega) (by
     have := of_decide_eq_true (hasc (l[pos]'hlt) (List.getElem_mem hlt))
     exact this)
    have hit2 := Lib.iterAt_heap wr w1.heap.size ⟨l.toArray⟩ pos (pos + 1) hit
    have hbw2 := Lib.below_iterAt hbw (k := w1.heap.size) B1.size ⟨l.toArray⟩ (pos + 1)
    have hown2 := own_iterAt2 hown hit (pos + 1)
    obtain ⟨W, hWd⟩ : ∃ W, wr.iterAt w1.heap.size ⟨l.toArray⟩ (pos + 1) = W := ⟨_, rfl⟩
    rw [hWd] at hnx hit2 hbw2 hown2
    obtain ⟨c, hcv⟩ : ∃ c, (ByteArray.mk l.toArray)[p]'(by omega) = c := ⟨_, rfl⟩
    have hlp : l[p]? = some c := by rw [List.getElem?_eq_getElem hp, ← hcv]; rfl
    obtain ⟨d, hd⟩ : ∃ d, l.length - pos = d + 1 := ⟨l.length - pos - 1, by omega⟩
    rw [hd] at hsp
    rw [refWalk_succ hlp] at hsp
    have gW := gbelow g0 hbw2
    clear hown hit hbw hasc
    by_cases h10 : c = 10
    ·
     rw [if_pos h10] at hsp
     rw [← hsp] at h
     have hF : backEnd fuel l out = some r := h
     have h10' : (((c.toNat : Nat) : Int) == 10) = true := by rw [h10]; rfl
     have hl0 : (((l.length : Nat) : Int) == 0) = false := by rw [beq_eq_false_iff_ne]; omega
     unfold backEnd at hF
     have hle : l.isEmpty = false := by cases l with | nil => simp at hl0 | cons _ _ => rfl
     rw [hle] at hF
     obtain ⟨b, hb, hF⟩ := bind_some (show (rf4_Label _).bind _ = some r from hF)
     have hcc := hown2.conv
     go_wp2_with fail
     refine Calls.mono (Tryd.callSB (run_rf4_Label _ b hb) gW) ?_
     rintro e w2 ⟨rfl, B2⟩
     have BB := (hbw2).trans (B2.mono (hbw2).size)
     cases b with
     | false =>
      cases hF
      go_wp2_with fail
      exact bodyPost_ret (hres _ _ _ _ (by rfl) (by rfl)) rfl ⟨rfl, BB⟩
     | true =>
      obtain ⟨x, hx, hF⟩ := bind_some (show (rf4_Transform fuel _).bind _ = some r from hF)
      have hcc2 := (hown2.next B2).conv
      go_wp2_with fail
      refine Calls.mono (Tryd.callSS (run_rf4_Transform fuel _ x hx) (gbelow gW B2)) ?_
      rintro e w3 ⟨rfl, B3⟩
      have BC := BB.trans (B3.mono BB.size)
      cases hq : (x.toList == l) with
      | false =>
       rw [hq] at hF
       cases hF
       go_wp2_with fail
       exact bodyPost_ret (hres _ _ _ _ (by rfl) (by rfl)) rfl ⟨rfl, BC⟩
      | true =>
       rw [hq] at hF
       cases hF
       have hcc3 := ((hown2.next B2).next B3).conv
       go_wp2_with fail
       exact bodyPost_ret (hres _ _ _ _ (by rfl) (by rfl)) rfl ⟨rfl, BC⟩
    ·rw [if_neg h10] at hsp
     have h10' : (((c.toNat : Nat) : Int) == 10) = false := by
      rw [beq_eq_false_iff_ne]
      intro e
      exact h10 (UInt8.toNat_inj.1 (by have : (10 : UInt8).toNat = 10 := rfl; omega))
     go_wp2_with (at_builtin; refine Tryd.wpList_prepend W c hown2 (by omega) hbw2.size rfl rfl (.tmp 22) (.tmp 23) (by rfl) (by rfl) (by rfl) ?_; intro v' w' ho' hb')
     go_loopw [7, 27] (fun s7 s27 wq => ∃ k : Nat, k ≤ l.length ∧ s27 = .int .i64 k ∧ s7 = .int .i64 (plcB l p c k) ∧ wq = w') (fun _ i _ => l.length - (RowKit.intOf i).toNat)
     case atStart => exact ⟨0, Nat.zero_le _, rfl, rfl, rfl⟩
     case round =>
      obtain ⟨k, hk, rfl, rfl, rfl⟩ := hrel
      have hple := plcB_le l p c k
      rcases Nat.lt_or_ge k l.length with hk1 | hk1
      ·obtain ⟨x, hxv⟩ : ∃ x, (ByteArray.mk l.toArray)[k]'(by omega) = x := ⟨_, rfl⟩
       have hlk : l[k]? = some x := by rw [List.getElem?_eq_getElem hk1, ← hxv]; rfl
       have hst : plcB l p c (k + 1) = plcB l p c k + (if hitB l p c k = true then 1 else 0) := rfl
       have hiff : hitB l p c k = true ↔ (¬ ((x.toNat : Nat) : Int) = 10 ∧ (((x.toNat : Nat) : Int) < ((c.toNat : Nat) : Int) ∨ (((x.toNat : Nat) : Int) = ((c.toNat : Nat) : Int) ∧ ((k : Nat) : Int) < ((p : Nat) : Int)))) := by
        unfold hitB
        rw [hlk]
        have a1 : x = 10 ↔ x.toNat = 10 := UInt8.toNat_inj.symm
        have a2 : x = c ↔ x.toNat = c.toNat := UInt8.toNat_inj.symm
        have a3 : x < c ↔ x.toNat < c.toNat := UInt8.lt_iff_toNat_lt
        simp only [Bool.and_eq_true, Bool.or_eq_true, bne_iff_ne, ne_eq, beq_iff_eq, decide_eq_true_eq, a1, a2, a3]
        omega
       by_cases n1 : ((x.toNat : Nat) : Int) = 10
       ·
        go_wp2_with fail
        refine ⟨⟨k + 1, hk1, by simp, ?_, trivial⟩, by simp [RowKit.intOf]; omega⟩
        rw [hst, if_neg (fun hh => by have := hiff.1 hh; omega)]; simp
       ·by_cases n2 : ((x.toNat : Nat) : Int) < ((c.toNat : Nat) : Int)
        ·
         go_wp2_with fail
         refine ⟨⟨k + 1, hk1, by simp, ?_, trivial⟩, by simp [RowKit.intOf]; omega⟩
         rw [hst, if_pos (hiff.2 (by omega))]; simp
        ·by_cases n3 : ((x.toNat : Nat) : Int) = ((c.toNat : Nat) : Int)
         ·by_cases n4 : ((k : Nat) : Int) < ((p : Nat) : Int)
          ·
           go_wp2_with fail
           refine ⟨⟨k + 1, hk1, by simp, ?_, trivial⟩, by simp [RowKit.intOf]; omega⟩
           rw [hst, if_pos (hiff.2 (by omega))]; simp
          ·
           go_wp2_with fail
           refine ⟨⟨k + 1, hk1, by simp, ?_, trivial⟩, by simp [RowKit.intOf]; omega⟩
           rw [hst, if_neg (fun hh => by have := hiff.1 hh; omega)]; simp
         ·
          go_wp2_with fail
          refine ⟨⟨k + 1, hk1, by simp, ?_, trivial⟩, by simp [RowKit.intOf]; omega⟩
          rw [hst, if_neg (fun hh => by have := hiff.1 hh; omega)]; simp
      ·obtain rfl : k = l.length := by omega
       by_cases hge : l.length ≤ plcB l p c l.length
       ·rw [if_pos hge] at hsp
        rw [← hsp] at h
        cases h
        have hge' : ((l.length : Nat) : Int) ≤ ((plcB l p c l.length : Nat) : Int) := by omega
        go_wp2_with fail
        exact bodyPost_ret (hres _ _ _ _ (by rfl) (by rfl)) rfl ⟨rfl, hbw2.trans (hb'.mono hbw2.size)⟩
       ·rw [if_neg hge] at hsp
        have hge' : ¬ ((l.length : Nat) : Int) ≤ ((plcB l p c l.length : Nat) : Int) := by omega
        go_wp2_with fail
        go_roundg g'
        case measure => omega
        case rel =>
         have hiw : w1.heap.size < W.heap.size := (Array.getElem?_eq_some_iff.1 hit2).1
         exact ⟨pos + 1, plcB l p c l.length, c :: out, rfl, ho', (hb'.block _ hiw).trans hit2, hbw2.trans (hb'.mono hbw2.size), by rw [← hsp]; congr 1; omega, by omega, by omega, by simp; omega, fun _ => by omega⟩
   ·
    obtain rfl : pos = l.length := by omega
    have hnx : ∀ ty, (Instr.next (.pointer (some ⟨w1.heap.size, 0, none⟩)) true ty).run Tryd.prog wr = _ := fun ty => Lib.run_next_end_at wr w1.heap.size ⟨l.toArray⟩ l.length ty hit (by omega)
    rw [Nat.sub_self] at hsp
    have hsp2 : some out = refWalk l l.length 0 [] := hsp
    rw [← hsp2] at h
    have hF : backEnd fuel l out = some r := h
    have gW := gbelow g0 hbw
    clear hasc
    by_cases hnil : l.length = 0
    ·obtain rfl : l = [] := List.eq_nil_of_length_eq_zero hnil
     cases hF
     go_wp2_with fail
     exact bodyPost_ret (hres _ _ _ _ (by rfl) (by rfl)) rfl ⟨rfl, hbw⟩
    ·
     have hl0 : (((l.length : Nat) : Int) == 0) = false := by rw [beq_eq_false_iff_ne]; omega
     unfold backEnd at hF
     have hle : l.isEmpty = false := by cases l with | nil => simp at hl0 | cons _ _ => rfl
     rw [hle] at hF
     obtain ⟨b, hb, hF⟩ := bind_some (show (rf4_Label _).bind _ = some r from hF)
     have hcc := hown.conv
     go_wp2_with fail
     refine Calls.mono (Tryd.callSB (run_rf4_Label _ b hb) gW) ?_
     rintro e w2 ⟨rfl, B2⟩
     have BB := (hbw).trans (B2.mono (hbw).size)
     cases b with
     | false =>
      cases hF
      go_wp2_with fail
      exact bodyPost_ret (hres _ _ _ _ (by rfl) (by rfl)) rfl ⟨rfl, BB⟩
     | true =>
      obtain ⟨x, hx, hF⟩ := bind_some (show (rf4_Transform fuel _).bind _ = some r from hF)
      have hcc2 := (hown.next B2).conv
      go_wp2_with fail
      refine Calls.mono (Tryd.callSS (run_rf4_Transform fuel _ x hx) (gbelow gW B2)) ?_
      rintro e w3 ⟨rfl, B3⟩
      have BC := BB.trans (B3.mono BB.size)
      cases hq : (x.toList == l) with
      | false =>
       rw [hq] at hF
       cases hF
       go_wp2_with fail
       exact bodyPost_ret (hres _ _ _ _ (by rfl) (by rfl)) rfl ⟨rfl, BC⟩
      | true =>
       rw [hq] at hF
       cases hF
       have hcc3 := ((hown.next B2).next B3).conv
       go_wp2_with fail
       exact bodyPost_ret (hres _ _ _ _ (by rfl) (by rfl)) rfl ⟨rfl, BC⟩
end Go.Proofs
