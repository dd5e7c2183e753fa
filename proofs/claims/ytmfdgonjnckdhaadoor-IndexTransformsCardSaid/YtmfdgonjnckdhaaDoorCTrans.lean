/- s -/
import Derived.Lib.Builder
import Derived.Lib.UnsafeStr
import Derived.Lib.SmallJoins
import Derived.Laws.AppendOwn
import Derived.Laws.Externs
import Derived.Deep.LoopGhost
import Derived.WalkKit
import Derived.BigCall
import Derived.Test.YtmfdgonjnckdhaaDoorAClose
import Derived.Test.YtmfdgonjnckdhaaDoorChecked
import Derived.Test.YtmfdgonjnckdhaaDoorShelf
set_option maxRecDepth 100000
set_option linter.unusedVariables false
namespace Go.Proofs
open Go.Shelf Go.RowKit Go.Lib
theorem Tryd.infoBuilder : (Tryd.prog.info? 44).map (·.size) = some 2 := by kernel_rfl
theorem Tryd.liesBuilder : liesAt Tryd.prog Tryd.prog.depth 44 (2 / Tryd.prog.cellsOf 44) 0 44 1 = true := by kernel_rfl
theorem Tryd.infoByte : (Tryd.prog.info? 5).map (fun i => (i.zero, i.size, i.bytes)) = some (some (.int .u8 0), 1, 1) := by kernel_rfl
theorem Tryd.mixedT : Tryd.prog.follows .mixedOrders = true := by kernel_rfl
theorem Tryd.copyCheck_used (b : Nat) (w : World) (h0 : w.cell? ⟨b, 0, none⟩ = some (.pointer (some ⟨b, 0, none⟩))) :
  Calls Tryd.prog 61 #[.pointer (some ⟨b, 0, none⟩)] w fun e w' => e = .returned (.tuple #[]) ∧ w' = w := by
 obtain ⟨j, hj, _⟩ := Option.map_eq_some_iff.1 Tryd.infoBuilder
 have mixed := Tryd.mixedT
 have t44 := Tryd.underlying44; have a44 := Tryd.isAgg44; have z44 := Tryd.sizeOf44; have v44 := Tryd.zeroValue44
 have t42 := Tryd.underlying42; have a42 := Tryd.isAgg42; have z42 := Tryd.sizeOf42; have v42 := Tryd.zeroValue42; have u42 := run_underlying Tryd.underlying42
 have t90 := Tryd.underlying90; have a90 := Tryd.isAgg90
 have t4 := Tryd.underlying4; have a4 := Tryd.isAgg4
 go_enter Tryd.func61, Tryd.ntmps61
 go_wp2
 rw [Lib.run_neq_ptr_same w _ Tryd.underlying42 hj]
 go_wp2
 go_end0
 exact ⟨rfl, rfl⟩
theorem Tryd.copyCheck_fresh (b : Nat) (w : World) (h0 : w.cell? ⟨b, 0, none⟩ = some (.pointer none)) (hsh : w.shape? b = some (44, 2)) (hfz : w.frozen? ⟨b, 0, none⟩ = false) :
  Calls Tryd.prog 61 #[.pointer (some ⟨b, 0, none⟩)] w fun e w' => e = .returned (.tuple #[]) ∧ w' = w.setCell ⟨b, 0, none⟩ (.pointer (some ⟨b, 0, none⟩)) := by
 obtain ⟨j, hj, hjs⟩ := Option.map_eq_some_iff.1 Tryd.infoBuilder
 have mixed := Tryd.mixedT
 have t44 := Tryd.underlying44; have a44 := Tryd.isAgg44; have z44 := Tryd.sizeOf44; have v44 := Tryd.zeroValue44
 have t42 := Tryd.underlying42; have a42 := Tryd.isAgg42; have z42 := Tryd.sizeOf42; have v42 := Tryd.zeroValue42; have u42 := run_underlying Tryd.underlying42
 have t90 := Tryd.underlying90; have a90 := Tryd.isAgg90; have u90 := run_underlying Tryd.underlying90
 have t4 := Tryd.underlying4; have a4 := Tryd.isAgg4
 go_enter Tryd.func61, Tryd.ntmps61
 go_wp2
 rw [Lib.run_to_unsafe w ⟨b, 0, none⟩ Tryd.underlying42 Tryd.underlying90 hj (by rw [hjs]; decide) hsh (Nat.zero_lt_succ 1)]
 simp only [Result.andThen]
 rw [Oper.upon_value]
 go_wp2
 rw [run_callFunc_extern Tryd.func76 (by kernel_rfl) (by kernel_rfl) (by kernel_rfl) (e := Extern.AbiNoEscape.same) (by kernel_rfl)]
 rw [Lib.run_noEscape]
 simp only [Result.andThen]
 rw [Oper.upon_value]
 go_wp2
 rw [Lib.run_from_unsafe w ⟨b, 0, none⟩ Tryd.underlying90 Tryd.underlying42 hj hsh Tryd.liesBuilder]
 simp only [Result.andThen]
 rw [Oper.upon_value]
 go_wp2
 go_end0
 exact ⟨rfl, rfl⟩
theorem Tryd.copyCheck (B b : Nat) (bs : List Value) (w : World) (h : Lib.IsBuilder 44 5 B b bs w) :
  Calls Tryd.prog 61 #[.pointer (some ⟨b, 0, none⟩)] w fun e w' => e = .returned (.tuple #[]) ∧ Lib.BuilderAt 44 5 B b (.pointer (some ⟨b, 0, none⟩)) bs w' ∧ Below B w w' := by
 rcases h with h | h
 ·refine (Tryd.copyCheck_fresh b w h.cell0 h.shape h.frozen0).mono ?_
  rintro e w' ⟨rfl, rfl⟩
  exact ⟨rfl, h.used _, (Below.refl B w).setCell (p := ⟨b, 0, none⟩) h.1 _⟩
 ·refine (Tryd.copyCheck_used b w h.cell0).mono ?_
  rintro e w' ⟨rfl, rfl⟩
  exact ⟨rfl, h, Below.refl B _⟩
set_option maxHeartbeats 2000000 in
theorem Tryd.writeByte (B b : Nat) (bs : List Value) (c : Int) (w : World) (h : Lib.IsBuilder 44 5 B b bs w) (hlen : bs.length + 1 ≤ 140737488355328) (hBw : B ≤ w.heap.size) :
  Calls Tryd.prog 36 #[.pointer (some ⟨b, 0, none⟩), .int .u8 c] w fun e w' => e = .returned .nilIface ∧ Lib.IsBuilder 44 5 B b (bs ++ [.int .u8 c]) w' ∧ Below B w w' := by
 obtain ⟨i0, hi, hz0, hz1, hz2⟩ := info_parts Tryd.infoByte
 have mixed := Tryd.mixedT
 have t44 := Tryd.underlying44; have a44 := Tryd.isAgg44; have z44 := Tryd.sizeOf44; have v44 := Tryd.zeroValue44; have u44 := run_underlying Tryd.underlying44
 have t42 := Tryd.underlying42; have a42 := Tryd.isAgg42; have z42 := Tryd.sizeOf42; have v42 := Tryd.zeroValue42; have u42 := run_underlying Tryd.underlying42
 have t5 := Tryd.underlying5; have a5 := Tryd.isAgg5; have z5 := Tryd.sizeOf5; have v5 := Tryd.zeroValue5; have u5 := run_underlying Tryd.underlying5
 have t29 := Tryd.underlying29; have a29 := Tryd.isAgg29; have z29 := Tryd.sizeOf29; have v29 := Tryd.zeroValue29; have u29 := run_underlying Tryd.underlying29
 have t54 := Tryd.underlying54; have a54 := Tryd.isAgg54; have z54 := Tryd.sizeOf54; have v54 := Tryd.zeroValue54; have u54 := run_underlying Tryd.underlying54
 go_enter Tryd.func36, Tryd.ntmps36
 go_wp2_with (go_at_call 61; refine (Tryd.copyCheck B b bs _ h).mono ?_)
 rintro e w1 ⟨rfl, h1, hb1⟩
 obtain ⟨hB, v, hbk, hown, hne⟩ := h1
 have c0 : w1.cell? ⟨b, 0, none⟩ = some (.pointer (some ⟨b, 0, none⟩)) := by rw [Lib.cell_of_heap hbk]; rfl
 have c1 : w1.cell? ⟨b, 1, none⟩ = some v := by rw [Lib.cell_of_heap hbk]; rfl
 go_wp2_with (at_builtin; refine wpList_append_own _ rfl _ _ 29 rfl B 5 i0 (.int .u8 0) 1 1 Tryd.underlying29 hi hz0 hz1 hz2 rfl (by decide) _ _ _ rfl (hown.alloc _) ⟨w1.heap.size, 0, none⟩ 1 1 [.int .u8 c] rfl rfl ?c1 ?c2 ?c3 ?c4 ?c5 ?_)
 case c1 =>
  intro j u hj
  match j, hj with
  | 0, hj => simp at hj; subst hj; simp [Addr.add]
 case c2 => intro u hu; simp at hu; subst hu; rfl
 case c3 => unfold maxLen; omega
 case c4 => omega
 case c5 => have := hb1.size; simp; omega
 intro v' w2 hown' hgrow _
 have hlt : b < w1.heap.size := by
  rcases Nat.lt_or_ge b w1.heap.size with h' | h'
  ·exact h'
  ·simp [Array.getElem?_eq_none h'] at hbk
 have hb2 : w2.heap[b]? = some (.cells #[.pointer (some ⟨b, 0, none⟩), v] 44 (0, 0)) := by
  rw [hgrow.block b (by simp; omega) (fun e => hne e.symm), Lib.alloc_old w1 _ b hlt]
  exact hbk
 have d0 : w2.cell? ⟨b, 0, none⟩ = some (.pointer (some ⟨b, 0, none⟩)) := by rw [Lib.cell_of_heap hb2]; rfl
 have d1 : w2.cell? ⟨b, 1, none⟩ = some v := by rw [Lib.cell_of_heap hb2]; rfl
 have f1 : w2.frozen? ⟨b, 1, none⟩ = false := Lib.frozen_of_heap hb2 1
 obtain ⟨g, cap, rfl⟩ : ∃ g cap, v' = .slice (some ⟨g, 0, none⟩) (bs.length + 1) cap := by
  rcases hown'.2 with ⟨_, h0⟩ | ⟨g, cap, cur, hv, _⟩
  ·omega
  ·exact ⟨g, cap, hv⟩
 go_wp2
 go_ret
 refine ⟨rfl, .inr ?_, ?_⟩
 ·exact Lib.BuilderAt.put (T := 44) (e := 5) hB hb2 (bs' := bs ++ [.int .u8 c]) (by simpa using hown') (by decide)
 ·exact ((hb1.alloc (by have := hb1.size; omega) _).grown hgrow (by have := hb1.size; simp; omega) (fun k hk => (hown.lt k hk).1)).setCell (p := ⟨b, 1, none⟩) hB _
def trB (t : ByteArray) (z : Int) : UInt8 := if z = 0 then 10 else (t.data.toList[(z - 1).toNat]?).getD 0
theorem byteCells_snoc (l : List UInt8) (c : UInt8) : Lib.byteCells l ++ [Value.int .u8 c.toNat] = Lib.byteCells (l ++ [c]) := by
 unfold Lib.byteCells
 rw [List.map_append]
 rfl
theorem Tryd.idxS (t : ByteArray) (z : Int) (h : 0 < z) (h2 : z ≤ (t.size : Int)) (w : World) : (Instr.index 9 (.string t) (.int .i64 (z - 1))).run Tryd.prog w = .ok (.int .u8 ((trB t z).toNat : Int)) w := by
 rw [run_index_string w 9 t _ _ Tryd.underlying9, dif_pos ⟨by omega, by omega⟩]
 have hlt : (z - 1).toNat < t.data.toList.length := by
  rw [Array.length_toList]
  show (z - 1).toNat < t.size
  omega
 have e : trB t z = t[(z - 1).toNat]'(by omega) := by
  unfold trB
  rw [if_neg (by omega), List.getElem?_eq_getElem hlt, Option.getD_some, Array.getElem_toList]
  rfl
 rw [e]
set_option maxHeartbeats 4000000 in
theorem Tryd.transform (t : ByteArray) (b off cap : Nat) (zs : List Int) (w : World) (hb : b < w.heap.size) (hc : ∀ j z, zs[j]? = some z → w.cell? ⟨b, off + j, none⟩ = some (.int .i64 z)) (hz : ∀ z, z ∈ zs → 0 ≤ z ∧ z ≤ t.size) (hl : zs.length ≤ 1000000000) (hts : (t.size : Int) ≤ 9223372036854775807) :
  Calls Tryd.prog 20 #[.string t, .slice (some ⟨b, off, none⟩) zs.length cap] w fun e w' => e = .returned (.string ⟨(zs.map (trB t)).toArray⟩) ∧ Below w.heap.size w w' := by
 have mixed := Tryd.mixedT
 have t44 := Tryd.underlying44; have a44 := Tryd.isAgg44; have z44 := Tryd.sizeOf44; have v44 := Tryd.zeroValue44; have u44 := run_underlying Tryd.underlying44
 have t3 := Tryd.underlying3; have a3 := Tryd.isAgg3; have z3 := Tryd.sizeOf3; have v3 := Tryd.zeroValue3; have u3 := run_underlying Tryd.underlying3
 have t5 := Tryd.underlying5; have a5 := Tryd.isAgg5; have z5 := Tryd.sizeOf5; have v5 := Tryd.zeroValue5; have u5 := run_underlying Tryd.underlying5
 have t9 := Tryd.underlying9; have a9 := Tryd.isAgg9; have z9 := Tryd.sizeOf9; have v9 := Tryd.zeroValue9; have u9 := run_underlying Tryd.underlying9
 have t33 := Tryd.underlying33; have a33 := Tryd.isAgg33; have z33 := Tryd.sizeOf33; have v33 := Tryd.zeroValue33; have u33 := run_underlying Tryd.underlying33
 have h0 : Lib.IsBuilder 44 5 w.heap.size w.heap.size [] (w.alloc (.cells #[.pointer none, .slice none 0 0] 44)) := Lib.fresh_isBuilder 44 5 w
 have b0 : Below w.heap.size w (w.alloc (.cells #[.pointer none, .slice none 0 0] 44)) := (Below.refl _ w).alloc (Nat.le_refl _) _
 have HZ : Hid (∀ z, z ∈ zs → 0 ≤ z ∧ z ≤ t.size) := hz
 clear hz
 go_enter Tryd.func20, Tryd.ntmps20
 go_wp2
 go_loopw [10] (fun i wr => ∃ k : Nat, k ≤ zs.length ∧ i = .int .i64 k ∧ Lib.IsBuilder 44 5 w.heap.size w.heap.size (Lib.byteCells ((zs.take k).map (trB t))) wr ∧ Below w.heap.size w wr)
  (fun i _ => zs.length - (RowKit.intOf i).toNat)
 case atStart => exact ⟨0, Nat.zero_le _, rfl, h0, b0⟩
 case round =>
  obtain ⟨k, hk, rfl, hB, hnx⟩ := hrel
  have hlen : (Lib.byteCells ((zs.take k).map (trB t))).length = k := by
   unfold Lib.byteCells
   simp
   omega
  rcases Nat.lt_or_ge k zs.length with hk1 | hk1
  ·have hcell : wr.cell? ⟨b, off + k, none⟩ = some (.int .i64 zs[k]) := (hnx.cell hb).trans (hc k _ (List.getElem?_eq_getElem hk1))
   have hzk := HZ.out zs[k] (List.getElem_mem hk1)
   generalize hzz : zs[k] = z at hcell hzk
   have htk : (zs.take (k + 1)).map (trB t) = (zs.take k).map (trB t) ++ [trB t z] := by
    rw [List.take_add_one, List.getElem?_eq_getElem hk1, hzz, List.map_append]
    rfl
   rcases Int.lt_or_le 0 z with hz0 | hz0
   ·have hne : ¬ z = 0 := by omega
    have hix : ∀ w : World, (Instr.index 9 (.string t) (.int .i64 (z - 1))).run Tryd.prog w = .ok (.int .u8 ((trB t z).toNat : Int)) w := Tryd.idxS t z hz0 hzk.2
    generalize hcz : trB t z = c at hix htk
    go_wp2_with (go_at_call 36; refine (Tryd.writeByte w.heap.size w.heap.size _ (c.toNat : Nat) _ hB (by omega) hnx.size).mono ?_; rintro e w1 ⟨rfl, h1, b1⟩)
    go_roundw
    case rel =>
     rw [byteCells_snoc, ← htk] at h1
     exact ⟨k + 1, hk1, by simp, h1, hnx.trans b1⟩
    case measure => simp [RowKit.intOf]; omega
   ·have : z = 0 := by omega
    subst this
    go_wp2_with (go_at_call 36; refine (Tryd.writeByte w.heap.size w.heap.size _ 10 _ hB (by omega) hnx.size).mono ?_; rintro e w1 ⟨rfl, h1, b1⟩)
    go_roundw
    case rel =>
     have e10 : (trB t 0).toNat = 10 := rfl
     have h2 := byteCells_snoc ((zs.take k).map (trB t)) (trB t 0)
     rw [e10] at h2
     rw [show Value.int IntKind.u8 10 = Value.int .u8 ((10 : Nat) : Int) from rfl, h2, ← htk] at h1
     exact ⟨k + 1, hk1, by simp, h1, hnx.trans b1⟩
    case measure => simp [RowKit.intOf]; omega
  ·have hkn : k = zs.length := by omega
   subst hkn
   rw [List.take_length] at hB
   go_wp2_with (go_at_call 32; refine (Tryd.Builder_String_any w.heap.size w.heap.size _ _ hB hnx.size).mono ?_; rintro e w1 ⟨rfl, b1⟩)
   go_ret
   exact ⟨rfl, hnx.trans b1⟩
end Go.Proofs
namespace Go.AM
open Go.RowKit Go.Proofs
def trS (t : ByteArray) (zs : List Int) : ByteArray := ⟨(zs.map (Go.Proofs.trB t)).toArray⟩
theorem flat_ints (zs : List Int) (k : IntKind) : flat (zs.map (AV.int k)) = zs.map (AV.int k) := by
 unfold flat
 rw [List.flatMap_map]
 simp only [AV.cells]
 exact List.map_eq_flatMap.symm
theorem transform20 {a1 : ByteArray} {a2 : List Int} (h1 : (a2.all fun z => decide (0 ≤ z) && decide (z ≤ (a1.size : Int))) = true) (h0 : a2 ≠ []) (h2 : a2.length ≤ 1000000000) (h3 : a1.size ≤ 1000000000) :
  CallOk Tryd.prog 20 [.str a1, .lst 3 1 none (a2.map (AV.int .i64))] (.str (trS a1 a2)) := by
 intro M w vs hG hC hl hR
 obtain ⟨v0, v1, rfl⟩ : ∃ v0 v1, vs = [v0, v1] := by
  match vs, hl with
  | [v0, v1], _ => exact ⟨v0, v1, rfl⟩
 have r0 := hR 0 _ v0 rfl rfl
 have r1 := hR 1 _ v1 rfl rfl
 generalize hxs : a2.map (AV.int .i64) = xs at r1
 cases r0
 have hz : ∀ z, z ∈ a2 → 0 ≤ z ∧ z ≤ (a1.size : Int) := fun z hz => by
  have := List.all_eq_true.1 h1 z hz
  simpa using this
 cases r1 with
 | lstn => exact absurd (List.map_eq_nil_iff.1 hxs) h0
 | lste => exact absurd (List.map_eq_nil_iff.1 hxs) h0
 | @lst _ _ _ _ b off cap us g1 g2 g5 g3 g4 =>
  subst hxs
  rw [flat_ints] at g3 g4
  have hcell : ∀ j z, a2[j]? = some z → M b (off + j) = some (.int .i64 z) := fun j z hj => by
   have hc : (a2.map (AV.int .i64))[j]? = some (.int .i64 z) := by rw [List.getElem?_map, hj]; rfl
   have e := (g4 j _ hc).int_inv
   rw [g3 j _ hc, ← e]
  have hb : b < w.heap.size := by
   cases ha : a2 with
   | nil => exact absurd ha h0
   | cons z r => exact mc_lt (hC _ _ _ (hcell 0 z (by rw [ha]; rfl)))
  rw [List.length_map]
  refine (Go.Proofs.Tryd.transform a1 b off cap a2 w hb (fun j z hj => mc_cell (hC _ _ _ (hcell j z hj)) rfl) hz h2 (by omega)).mono ?_
  rintro e w' ⟨rfl, hw⟩
  refine ⟨_, M, rfl, hw, Sub.refl M, fun b' o u hu => ?_, fun _ _ _ => rfl, .str _, trivial⟩
  have h := hC _ _ _ hu
  rw [mc_block (hw.block b' (mc_lt h))]
  exact h
end Go.AM
