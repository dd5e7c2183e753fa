/- s -/
import Derived.Test.YtmfdgonjnckdhaaDoorCTrans
import Derived.Test.YtmfdgonjnckdhaaDoorDK1
import Derived.Test.YtmfdgonjnckdhaaDoorASimN
import Derived.Deep.RegionHeld3
set_option maxRecDepth 100000
set_option linter.unusedVariables false
set_option linter.unusedSimpArgs false
namespace Go.AM
open Go.RowKit Go.Proofs
def bitN (b a : Int) : Int := IntKind.wrap .u8 (IntKind.wrap .i64 (IntKind.wrap .i64 (48 + b) - a))
def bitB (b a : Int) : UInt8 := UInt8.ofNat (bitN b a).toNat
theorem bitB_val (b a : Int) : ((bitB b a).toNat : Int) = bitN b a := by
 unfold bitB
 have h : 0 ≤ bitN b a ∧ bitN b a < 256 := by
  unfold bitN
  generalize IntKind.wrap .i64 (IntKind.wrap .i64 (48 + b) - a) = x
  simp [IntKind.wrap, IntKind.signed, IntKind.bits]
  omega
 have : (UInt8.ofNat (bitN b a).toNat).toNat = (bitN b a).toNat := by
  simp
  omega
 rw [this]
 omega
def diffs : List Int → List UInt8
 | a :: b :: r => bitB b a :: diffs (b :: r)
 | _ => []
theorem diffs_len : ∀ o : List Int, (diffs o).length = o.length - 1
 | [] => rfl
 | [_] => rfl
 | a :: b :: r => by
  have := diffs_len (b :: r)
  simp only [diffs, List.length_cons] at this ⊢
  omega
theorem diffs_at : ∀ (o : List Int) (k : Nat) (a b : Int), o[k]? = some a → o[k + 1]? = some b → (diffs o)[k]? = some (bitB b a)
 | [], k, a, b, h, _ => by simp at h
 | [_], k, a, b, _, h => by simp at h
 | x :: y :: r, 0, a, b, h1, h2 => by
  simp at h1 h2
  subst h1; subst h2
  rfl
 | x :: y :: r, k + 1, a, b, h1, h2 => by
  have := diffs_at (y :: r) k a b (by simpa using h1) (by simpa using h2)
  simpa [diffs] using this
mutual
def bitsW : ixwavelet → Option (List UInt8)
 | .mk _ o l h => match o with
  | [] => none
  | a :: o => match bitsX l, bitsX h with
   | some none, _ => some (diffs (a :: o))
   | some (some p), some (some q) => some (diffs (a :: o) ++ (p ++ q))
   | _, _ => none
def bitsX : Option ixwavelet → Option (Option (List UInt8))
 | none => some none
 | some w => (bitsW w).map some
end
end Go.AM
namespace Go.Proofs
open Go.Shelf Go.RowKit Go.Lib Go.AM
def BD (b B : Nat) : Nat → Prop := fun k => k < B ∧ k ≠ b
def BAt (b B : Nat) (p : Value) (bs : List Value) (w : World) : Prop :=
 ∃ v, w.heap[b]? = some (.cells #[p, v] 44 (0, 0)) ∧ w.ownsRow B 5 1 v bs.length bs ∧ v.ownBlock ≠ some b
def BW (b B : Nat) (bs : List Value) (w : World) : Prop := BAt b B (.pointer none) bs w ∨ BAt b B (.pointer (some ⟨b, 0, none⟩)) bs w
theorem owns_mono {w : World} {base base' : Nat} {e : TypeId} {size : Nat} {v : Value} {n : Nat} {xs : List Value} (h : w.ownsRow base e size v n xs) (hb : base' ≤ base) : w.ownsRow base' e size v n xs :=
 ⟨h.1, h.2.imp id fun ⟨g, cap, cur, h1, h2, h3⟩ => ⟨g, cap, cur, h1, Nat.le_trans hb h2, h3⟩⟩
theorem BAt.at {b B : Nat} {p : Value} {bs : List Value} {w : World} (h : BAt b B p bs w) (hb : b ≤ B) : Lib.BuilderAt 44 5 b b p bs w := by
 obtain ⟨v, h1, h2, h3⟩ := h
 exact ⟨Nat.le_refl _, v, h1, owns_mono h2 hb, h3⟩
theorem BW.builder {b B : Nat} {bs : List Value} {w : World} (h : BW b B bs w) (hb : b ≤ B) : Lib.IsBuilder 44 5 b b bs w := h.imp (·.at hb) (·.at hb)
theorem BAt.used {b B : Nat} {p : Value} {bs : List Value} {w : World} (h : BAt b B p bs w) (q : Value) : BAt b B q bs (w.setCell ⟨b, 0, none⟩ q) := by
 obtain ⟨v, hb, hown, hne⟩ := h
 refine ⟨v, ?_, ?_, hne⟩
 ·simp [World.setCell, Array.getElem?_modify, hb]
 ·refine hown.kept (row := some b) ⟨rfl, rfl, rfl, by simp [World.setCell], fun k _ hk => Below.heap_setCell _ _ _ _ (fun e => hk (by simp [e]))⟩ ?_
  exact Or.inr hne
theorem bd_setCell (b B j : Nat) (w : World) (v : Value) : BelowD (BD b B) w (w.setCell ⟨b, j, none⟩ v) :=
 ⟨rfl, rfl, rfl, by simp [World.setCell], fun k hk => Below.heap_setCell _ _ _ _ (fun e => hk.2 e)⟩
theorem belowD_trans {D : Nat → Prop} {a b c : World} (h : BelowD D a b) (k : BelowD D b c) : BelowD D a c := h.step k fun _ x => x
theorem bd_cell {b B k o : Nat} {w w' : World} (h : BelowD (BD b B) w w') (hk : k < B) (hkb : k ≠ b) : w'.cell? ⟨k, o, none⟩ = w.cell? ⟨k, o, none⟩ := by
 have := h.block k ⟨hk, hkb⟩
 simp [World.cell?, this]
theorem Tryd.copyCheck2 (b B : Nat) (bs : List Value) (w : World) (hb : b ≤ B) (h : BW b B bs w) :
  Calls Tryd.prog 61 #[.pointer (some ⟨b, 0, none⟩)] w fun e w' => e = .returned (.tuple #[]) ∧ BAt b B (.pointer (some ⟨b, 0, none⟩)) bs w' ∧ BelowD (BD b B) w w' := by
 rcases h with h | h
 ·have h' := h.at hb
  refine (Tryd.copyCheck_fresh b w h'.cell0 h'.shape h'.frozen0).mono ?_
  rintro e w' ⟨rfl, rfl⟩
  exact ⟨rfl, h.used _, bd_setCell b B 0 w _⟩
 ·refine (Tryd.copyCheck_used b w (h.at hb).cell0).mono ?_
  rintro e w' ⟨rfl, rfl⟩
  exact ⟨rfl, h, BelowD.refl _ _⟩
set_option maxHeartbeats 2000000 in
theorem Tryd.writeByte2 (b B : Nat) (bs : List Value) (c : Int) (w : World) (hb : b ≤ B) (h : BW b B bs w) (hlen : bs.length + 1 ≤ 140737488355328) (hBw : B ≤ w.heap.size) :
  Calls Tryd.prog 36 #[.pointer (some ⟨b, 0, none⟩), .int .u8 c] w fun e w' => e = .returned .nilIface ∧ BW b B (bs ++ [.int .u8 c]) w' ∧ BelowD (BD b B) w w' := by
 obtain ⟨i0, hi, hz0, hz1, hz2⟩ := info_parts Tryd.infoByte
 have mixed := Tryd.mixedT
 have t44 := Tryd.underlying44; have a44 := Tryd.isAgg44; have z44 := Tryd.sizeOf44; have v44 := Tryd.zeroValue44; have u44 := run_underlying Tryd.underlying44
 have t42 := Tryd.underlying42; have a42 := Tryd.isAgg42; have z42 := Tryd.sizeOf42; have v42 := Tryd.zeroValue42; have u42 := run_underlying Tryd.underlying42
 have t5 := Tryd.underlying5; have a5 := Tryd.isAgg5; have z5 := Tryd.sizeOf5; have v5 := Tryd.zeroValue5; have u5 := run_underlying Tryd.underlying5
 have t29 := Tryd.underlying29; have a29 := Tryd.isAgg29; have z29 := Tryd.sizeOf29; have v29 := Tryd.zeroValue29; have u29 := run_underlying Tryd.underlying29
 have t54 := Tryd.underlying54; have a54 := Tryd.isAgg54; have z54 := Tryd.sizeOf54; have v54 := Tryd.zeroValue54; have u54 := run_underlying Tryd.underlying54
 go_enter Tryd.func36, Tryd.ntmps36
 go_wp2_with (go_at_call 61; refine (Tryd.copyCheck2 b B bs _ hb h).mono ?_)
 rintro e w1 ⟨rfl, h1, hb1⟩
 obtain ⟨v, hbk, hown, hne⟩ := h1
 have c0 : w1.cell? ⟨b, 0, none⟩ = some (.pointer (some ⟨b, 0, none⟩)) := by rw [Lib.cell_of_heap hbk]; rfl
 have c1 : w1.cell? ⟨b, 1, none⟩ = some v := by rw [Lib.cell_of_heap hbk]; rfl
 go_wp2_with (at_builtin; refine wpList_append_own _ rfl _ _ 29 rfl B 5 i0 (.int .u8 0) 1 1 Tryd.underlying29 hi hz0 hz1 hz2 rfl (by decide) _ _ _ rfl (hown.alloc _) ⟨w1.heap.size, 0, none⟩ 1 1 [.int .u8 c] rfl rfl ?c1 ?c2 ?c3 ?c4 ?c5 ?_)
 case c1 =>
  intro j u hj
  match j, hj with
  | 0, hj => simp at hj; subst hj; simp [Addr.add]
 case c2 => intro u hu; simp at hu; subst hu; rfl
 case c3 => unfold maxLen; omega
 case c4 => omega
 case c5 => have := hb1.size; simp; omega
 intro v' w2 hown' hgrow _
 have hlt : b < w1.heap.size := by
  rcases Nat.lt_or_ge b w1.heap.size with h' | h'
  ·exact h'
  ·simp [Array.getElem?_eq_none h'] at hbk
 have hb2 : w2.heap[b]? = some (.cells #[.pointer (some ⟨b, 0, none⟩), v] 44 (0, 0)) := by
  rw [hgrow.block b (by simp; omega) (fun e => hne e.symm), Lib.alloc_old w1 _ b hlt]
  exact hbk
 have d0 : w2.cell? ⟨b, 0, none⟩ = some (.pointer (some ⟨b, 0, none⟩)) := by rw [Lib.cell_of_heap hb2]; rfl
 have d1 : w2.cell? ⟨b, 1, none⟩ = some v := by rw [Lib.cell_of_heap hb2]; rfl
 have f1 : w2.frozen? ⟨b, 1, none⟩ = false := Lib.frozen_of_heap hb2 1
 obtain ⟨g, cap, rfl⟩ : ∃ g cap, v' = .slice (some ⟨g, 0, none⟩) (bs.length + 1) cap := by
  rcases hown'.2 with ⟨_, h0⟩ | ⟨g, cap, cur, hv, _⟩
  ·omega
  ·exact ⟨g, cap, hv⟩
 have hfr : BelowD (BD b B) w1 w2 := by
  refine ⟨hgrow.os, hgrow.tape, hgrow.output, by have := hgrow.size; simp at this; omega, fun k hk => ?_⟩
  have hkl : k < w1.heap.size := by have := hb1.size; have := hk.1; omega
  rw [hgrow.block k (by simp; omega) (fun e => ?_), Lib.alloc_old w1 _ k hkl]
  rcases hown.2 with ⟨rfl, _⟩ | ⟨g', cap', cur', rfl, hg', _⟩
  ·cases e
  ·simp only [Value.ownBlock, Option.some.injEq] at e
   have := hk.1
   omega
 go_wp2
 go_ret
 refine ⟨rfl, .inr ?_, ?_⟩
 ·have hne' := Lib.ownBlock_ne hown' hb2 (by decide)
  refine ⟨_, ?_, ?_, hne'⟩
  ·simp [World.setCell, Array.getElem?_modify, hb2]
  ·have : (bs ++ [Value.int .u8 c]).length = bs.length + 1 := by simp
   rw [this]
   exact hown'.kept (row := some b) ⟨rfl, rfl, rfl, by simp [World.setCell], fun k _ hk => Below.heap_setCell _ _ _ _ (fun e => hk (by simp [e]))⟩ (Or.inr hne')
 ·exact belowD_trans (belowD_trans hb1 hfr) (bd_setCell b B 1 w2 _)
theorem cons_bd {M : Mem} {b B : Nat} (hMB : ∀ b' o u, M b' o = some u → b' < B ∧ b' ≠ b) {w w' : World} (hC : Cons M w) (h : BelowD (BD b B) w w') : Cons M w' := by
 intro b' o u hu
 have := hMB _ _ _ hu
 rw [mc_block (h.block b' ⟨this.1, this.2⟩)]
 exact hC _ _ _ hu
set_option maxHeartbeats 8000000 in
theorem Tryd.bits (M : Mem) (B b : Nat) (hbB : b < B) (hMB : ∀ b' o u, M b' o = some u → b' < B ∧ b' ≠ b) : ∀ (m : Nat) (T : ixwavelet) (out : List UInt8), SizeOf.sizeOf T < m → bitsW T = some out → ∀ (bk off : Nat) (l : List UInt8) (w : World), R M (.ptr (e_ixwavelet T)) (.pointer (some ⟨bk, off, none⟩)) → Cons M w →
  BW b B (Lib.byteCells l) w → l.length + out.length ≤ 1000000000 → B ≤ w.heap.size →
  Calls Tryd.prog 31 #[.pointer (some ⟨bk, off, none⟩), .pointer (some ⟨b, 0, none⟩)] w fun e w' => e = .returned (.tuple #[]) ∧ BW b B (Lib.byteCells (l ++ out)) w' ∧ BelowD (BD b B) w w' := by
 intro m
 induction m with
 | zero => intro T out h; omega
 | succ m ih =>
  rintro ⟨al, o, lo, hi⟩ out hsz hout bk off l w hR hC hB hlen hBw
  obtain ⟨bk', off', us, e0, g1, g2, g3⟩ := hR.ptr_inv
  cases e0
  have c1 : M bk (off + 1) = some (us 1) := g1 1 _ rfl
  have r1 : R M (l3 none o) (us 1) := g2 1 _ rfl
  have c2 : M bk (off + 2) = some (us 2) := g1 2 _ rfl
  have r2 : R M (.optr lo.isNone (e_ixwaveletx lo)) (us 2) := g2 2 _ rfl
  have c3 : M bk (off + 3) = some (us 3) := g1 3 _ rfl
  have r3 : R M (.optr hi.isNone (e_ixwaveletx hi)) (us 3) := g2 3 _ rfl
  have hbk := hMB _ _ _ c1
  have t3' := g3 3 _ rfl
  have t2' := g3 2 _ rfl
  have t1' := g3 1 _ rfl
  have k1 : w.cell? ⟨bk, off + 1, none⟩ = some (us 1) := mc_cell (hC _ _ _ c1) t1'
  have k2 : w.cell? ⟨bk, off + 2, none⟩ = some (us 2) := mc_cell (hC _ _ _ c2) t2'
  have k3 : w.cell? ⟨bk, off + 3, none⟩ = some (us 3) := mc_cell (hC _ _ _ c3) t3'
  cases o with
  | nil => simp [bitsW] at hout
  | cons a0 o0 =>
   generalize ho : a0 :: o0 = o at *
   have hol : 1 ≤ o.length := by rw [← ho]; simp
   obtain ⟨ob, oo, cap, hv1, hcell⟩ : ∃ ob oo cap, us 1 = .slice (some ⟨ob, oo, none⟩) o.length cap ∧ ∀ j z, o[j]? = some z → M ob (oo + j) = some (.int .i64 z) := by
    unfold l3 at r1
    generalize hxs : o.map (AV.int .i64) = xs at r1
    generalize us 1 = v1 at r1
    cases r1 with
    | lstn => exact absurd (List.map_eq_nil_iff.1 hxs) (by rw [← ho]; simp)
    | lste => exact absurd (List.map_eq_nil_iff.1 hxs) (by rw [← ho]; simp)
    | @lst _ _ _ _ b1 off1 cap1 us1 q1 q2 q5 q3 q4 =>
     subst hxs
     rw [flat_ints] at q3 q4
     refine ⟨b1, off1, cap1, by rw [List.length_map], fun j z hj => ?_⟩
     have hc : (o.map (AV.int .i64))[j]? = some (.int .i64 z) := by rw [List.getElem?_map, hj]; rfl
     have e := (q4 j _ hc).int_inv
     rw [q3 j _ hc, ← e]
   rw [hv1] at k1
   have hob : ob < B ∧ ob ≠ b := by
    obtain ⟨z, hz⟩ : ∃ z, o[0]? = some z := ⟨o[0], List.getElem?_eq_getElem (by omega)⟩
    exact hMB _ _ _ (hcell 0 z hz)
   have hoc : ∀ j z, o[j]? = some z → w.cell? ⟨ob, oo + j, none⟩ = some (.int .i64 z) := fun j z hj => mc_cell (hC _ _ _ (hcell j z hj)) rfl
   have mixed := Tryd.mixedT
   have t62 := Tryd.underlying62; have a62 := Tryd.isAgg62; have z62 := Tryd.sizeOf62; have v62 := Tryd.zeroValue62; have u62 := run_underlying Tryd.underlying62
   have t45 := Tryd.underlying45; have a45 := Tryd.isAgg45; have z45 := Tryd.sizeOf45; have v45 := Tryd.zeroValue45; have u45 := run_underlying Tryd.underlying45
   have t3 := Tryd.underlying3; have a3 := Tryd.isAgg3; have z3 := Tryd.sizeOf3; have v3 := Tryd.zeroValue3; have u3 := run_underlying Tryd.underlying3
   have t5 := Tryd.underlying5; have a5 := Tryd.isAgg5; have z5 := Tryd.sizeOf5; have v5 := Tryd.zeroValue5; have u5 := run_underlying Tryd.underlying5
   have t33 := Tryd.underlying33; have a33 := Tryd.isAgg33; have z33 := Tryd.sizeOf33; have v33 := Tryd.zeroValue33; have u33 := run_underlying Tryd.underlying33
   have t54 := Tryd.underlying54; have a54 := Tryd.isAgg54
   have t42 := Tryd.underlying42; have a42 := Tryd.isAgg42; have z42 := Tryd.sizeOf42
   have t4 := Tryd.underlying4; have a4 := Tryd.isAgg4
   have hdl : (diffs o).length = o.length - 1 := diffs_len o
   have hol2 : o.length ≤ 1000000001 := by
    have : (diffs o).length ≤ out.length := by
     unfold bitsW at hout
     rw [← ho] at hout ⊢
     simp only at hout
     split at hout <;> cases hout <;> simp
    omega
   clear hR g1 g2 g3
   go_enter Tryd.func31, Tryd.ntmps31
   go_wp2
   go_loopw [4] (fun i wr => ∃ k : Nat, 1 ≤ k ∧ k ≤ o.length ∧ i = .int .i64 k ∧ BW b B (Lib.byteCells (l ++ (diffs o).take (k - 1))) wr ∧ BelowD (BD b B) w wr)
    (fun i _ => o.length - (RowKit.intOf i).toNat)
   case atStart => exact ⟨1, Nat.le_refl _, hol, rfl, by simpa using hB, BelowD.refl _ w⟩
   case round =>
    obtain ⟨k, hk0, hk, rfl, hBr, hnx⟩ := hrel
    obtain ⟨j, rfl⟩ : ∃ j, k = j + 1 := ⟨k - 1, by omega⟩
    have j1 : wr.cell? ⟨bk, off + 1, none⟩ = some (.slice (some ⟨ob, oo, none⟩) o.length cap) := (bd_cell hnx hbk.1 hbk.2).trans k1
    have j2 : wr.cell? ⟨bk, off + 2, none⟩ = some (us 2) := (bd_cell hnx hbk.1 hbk.2).trans k2
    have j3 : wr.cell? ⟨bk, off + 3, none⟩ = some (us 3) := (bd_cell hnx hbk.1 hbk.2).trans k3
    rcases Nat.lt_or_ge (j + 1) o.length with hk1 | hk1
    ·have hz1 : wr.cell? ⟨ob, oo + (j + 1), none⟩ = some (.int .i64 o[j + 1]) := (bd_cell hnx hob.1 hob.2).trans (hoc (j + 1) _ (List.getElem?_eq_getElem hk1))
     have hz0 : wr.cell? ⟨ob, oo + j, none⟩ = some (.int .i64 o[j]) := (bd_cell hnx hob.1 hob.2).trans (hoc j _ (List.getElem?_eq_getElem (by omega)))
     have hd := diffs_at o j _ _ (List.getElem?_eq_getElem (by omega)) (List.getElem?_eq_getElem hk1)
     generalize o[j + 1] = x1 at hz1 hd
     generalize o[j] = x0 at hz0 hd
     have htk : (diffs o).take (j + 1) = (diffs o).take j ++ [bitB x1 x0] := by rw [List.take_add_one, hd]; rfl
     have hbl : (Lib.byteCells (l ++ (diffs o).take j)).length + 1 ≤ 140737488355328 := by
      unfold Lib.byteCells
      simp
      omega
     go_wp2
     have hj0 : j < o.length := by omega
     have hw0 : IntKind.i64.wrap (j : Int) = (j : Int) := wrap_id (by omega) (by omega)
     have hw1 : IntKind.i64.wrap ((j : Int) + 1 - 1) = (j : Int) := by rw [Int.add_sub_cancel]; exact hw0
     have i0 : (0 : Int) ≤ (j : Int) := Int.natCast_nonneg _
     have i1 : (j : Int) < (o.length : Int) := by omega
     have i2 : (0 : Int) ≤ (j : Int) + 1 := by omega
     have i3 : (j : Int) + 1 < (o.length : Int) := by omega
     go_region_held3 (fun w' => w'.cell? ⟨bk, off + 1, none⟩ = some (.slice (some ⟨ob, oo, none⟩) o.length cap) ∧ w'.cell? ⟨ob, oo + (j + 1), none⟩ = some (.int .i64 x1) ∧ w'.cell? ⟨ob, oo + j, none⟩ = some (.int .i64 x0)) (go_keep)
      (first | (go_at_call 36; refine (Tryd.writeByte2 b B _ _ wr.drew (Nat.le_of_lt hbB) hBr hbl (Nat.le_trans hBw hnx.size)).mono ?_; rintro e w1 ⟨rfl, h1, b1⟩; have q1 := (bd_cell (o := off + 1) b1 hbk.1 hbk.2).trans j1; have q2 := (bd_cell (o := oo + (j + 1)) b1 hob.1 hob.2).trans hz1; have q3 := (bd_cell (o := oo + j) b1 hob.1 hob.2).trans hz0))
     go_wp2
     go_roundw
     case rel =>
      have e1 : Value.int IntKind.u8 (IntKind.u8.wrap (IntKind.i64.wrap (IntKind.i64.wrap (48 + x1) - x0))) = Value.int .u8 ((bitB x1 x0).toNat : Nat) := by
       rw [bitB_val]; rfl
      rw [e1, byteCells_snoc, Nat.add_sub_cancel, List.append_assoc, ← htk] at h1
      exact ⟨j + 1 + 1, by omega, hk1, by simp, h1, belowD_trans hnx ⟨b1.os, b1.tape, b1.output, b1.size, b1.block⟩⟩
     case measure => simp [RowKit.intOf]; omega
    ·have hkn : j + 1 = o.length := by omega
     have hB2 : BW b B (Lib.byteCells (l ++ diffs o)) wr := by
      have h0 := hBr
      rw [Nat.add_sub_cancel, List.take_of_length_le (by omega)] at h0
      exact h0
     have hC2 : Cons M wr := cons_bd hMB hC hnx
     have hBw2 : B ≤ wr.heap.size := Nat.le_trans hBw hnx.size
     have hkn' : ((j : Int) + 1) = (o.length : Int) := by omega
     rw [← ho] at hout
     cases lo with
     | none =>
      have e2 : us 2 = .pointer none := by
       generalize us 2 = v at r2
       cases r2
       rfl
      rw [e2] at j2
      have : out = diffs o := by
       rw [← ho]
       simp only [bitsW, bitsX] at hout
       exact (Option.some.inj hout).symm
      subst this
      go_wp2
      go_end0
      exact ⟨rfl, hB2, hnx⟩
     | some T1 =>
      cases hi with
      | none =>
       rw [← ho] at hsz
       simp only [bitsW, bitsX, Option.map] at hout
       split at hout <;> first | (cases hout; done) | (rename_i h1 h2; cases h2; done) | skip
       rename_i heq; split at heq <;> cases heq
      | some T2 =>
       obtain ⟨p1, p2, hp1, hp2, rfl⟩ : ∃ p1 p2, bitsW T1 = some p1 ∧ bitsW T2 = some p2 ∧ diffs o ++ (p1 ++ p2) = out := by
        simp only [bitsW, bitsX] at hout
        cases h1 : bitsW T1 with
        | none => rw [h1] at hout; simp at hout
        | some p1 =>
         cases h2 : bitsW T2 with
         | none => rw [h1, h2] at hout; simp at hout
         | some p2 =>
          rw [h1, h2] at hout
          simp only [Option.map_some, Option.some.injEq] at hout
          exact ⟨p1, p2, rfl, rfl, by rw [← ho]; exact hout⟩
       obtain ⟨lb, lf, e2, R1⟩ : ∃ lb lf, us 2 = .pointer (some ⟨lb, lf, none⟩) ∧ R M (.ptr (e_ixwavelet T1)) (.pointer (some ⟨lb, lf, none⟩)) := by
        generalize us 2 = v at r2
        cases r2 with
        | opts h => exact ⟨_, _, rfl, h⟩
       obtain ⟨hb', hf', e3, R2⟩ : ∃ hb hf, us 3 = .pointer (some ⟨hb, hf, none⟩) ∧ R M (.ptr (e_ixwavelet T2)) (.pointer (some ⟨hb, hf, none⟩)) := by
        generalize us 3 = v at r3
        cases r3 with
        | opts h => exact ⟨_, _, rfl, h⟩
       rw [e2] at j2
       rw [e3] at j3
       have s1 : SizeOf.sizeOf T1 < m := by simp at hsz; omega
       have s2 : SizeOf.sizeOf T2 < m := by simp at hsz; omega
       have L1 : (l ++ diffs o).length + p1.length ≤ 1000000000 := by simp at hlen ⊢; omega
       have L2 : (l ++ diffs o ++ p1).length + p2.length ≤ 1000000000 := by simp at hlen ⊢; omega
       go_wp2_with (first
        | (go_at_call_of 31 (Value.pointer (some ⟨lb, lf, none⟩)); refine (ih T1 p1 s1 hp1 lb lf (l ++ diffs o) _ R1 hC2 hB2 L1 hBw2).mono ?_; rintro e w1 ⟨rfl, h1, b1⟩; have q3 := (bd_cell (o := off + 3) b1 hbk.1 hbk.2).trans j3; have hC3 := cons_bd hMB hC2 b1; have hBw3 := Nat.le_trans hBw2 b1.size)
        | (go_at_call_of 31 (Value.pointer (some ⟨hb', hf', none⟩)); refine (ih T2 p2 s2 hp2 hb' hf' (l ++ diffs o ++ p1) _ R2 hC3 h1 L2 hBw3).mono ?_; rintro e w2 ⟨rfl, h2, b2⟩))
       go_end0
       refine ⟨rfl, ?_, belowD_trans (belowD_trans hnx b1) b2⟩
       have e4 : l ++ (diffs o ++ (p1 ++ p2)) = l ++ diffs o ++ p1 ++ p2 := by simp
       rw [e4]
       exact h2
end Go.Proofs
