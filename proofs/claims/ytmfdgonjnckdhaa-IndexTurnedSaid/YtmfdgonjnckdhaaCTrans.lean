/- s -/
import Derived.Lib.Builder
import Derived.Lib.UnsafeStr
import Derived.Lib.SmallJoins
import Derived.Laws.AppendOwn
import Derived.Laws.Externs
import Derived.Deep.LoopGhost
import Derived.WalkKit
import Derived.BigCall
import Derived.Test.YtmfdgonjnckdhaaAClose
import Derived.Test.YtmfdgonjnckdhaaChecked
import Derived.Test.YtmfdgonjnckdhaaShelf
set_option maxRecDepth 100000
set_option linter.unusedVariables false
namespace Go.Proofs
open Go.Shelf Go.RowKit Go.Lib
theorem Try.infoBuilder : (Try.prog.info? 92).map (·.size) = some 2 := by kernel_rfl
theorem Try.liesBuilder : liesAt Try.prog Try.prog.depth 92 (2 / Try.prog.cellsOf 92) 0 92 1 = true := by kernel_rfl
theorem Try.infoByte : (Try.prog.info? 5).map (fun i => (i.zero, i.size, i.bytes)) = some (some (.int .u8 0), 1, 1) := by kernel_rfl
theorem Try.mixedT : Try.prog.follows .mixedOrders = true := by kernel_rfl
theorem Try.copyCheck_used (b : Nat) (w : World) (h0 : w.cell? ⟨b, 0, none⟩ = some (.pointer (some ⟨b, 0, none⟩))) :
  Calls Try.prog 95 #[.pointer (some ⟨b, 0, none⟩)] w fun e w' => e = .returned (.tuple #[]) ∧ w' = w := by
 obtain ⟨j, hj, _⟩ := Option.map_eq_some_iff.1 Try.infoBuilder
 have mixed := Try.mixedT
 have t92 := Try.underlying92; have a92 := Try.isAgg92; have z92 := Try.sizeOf92; have v92 := Try.zeroValue92
 have t90 := Try.underlying90; have a90 := Try.isAgg90; have z90 := Try.sizeOf90; have v90 := Try.zeroValue90; have u90 := run_underlying Try.underlying90
 have t125 := Try.underlying125; have a125 := Try.isAgg125
 have t4 := Try.underlying4; have a4 := Try.isAgg4
 go_enter Try.func95, Try.ntmps95
 go_wp2
 rw [Lib.run_neq_ptr_same w _ Try.underlying90 hj]
 go_wp2
 go_end0
 exact ⟨rfl, rfl⟩
theorem Try.copyCheck_fresh (b : Nat) (w : World) (h0 : w.cell? ⟨b, 0, none⟩ = some (.pointer none)) (hsh : w.shape? b = some (92, 2)) (hfz : w.frozen? ⟨b, 0, none⟩ = false) :
  Calls Try.prog 95 #[.pointer (some ⟨b, 0, none⟩)] w fun e w' => e = .returned (.tuple #[]) ∧ w' = w.setCell ⟨b, 0, none⟩ (.pointer (some ⟨b, 0, none⟩)) := by
 obtain ⟨j, hj, hjs⟩ := Option.map_eq_some_iff.1 Try.infoBuilder
 have mixed := Try.mixedT
 have t92 := Try.underlying92; have a92 := Try.isAgg92; have z92 := Try.sizeOf92; have v92 := Try.zeroValue92
 have t90 := Try.underlying90; have a90 := Try.isAgg90; have z90 := Try.sizeOf90; have v90 := Try.zeroValue90; have u90 := run_underlying Try.underlying90
 have t125 := Try.underlying125; have a125 := Try.isAgg125; have u125 := run_underlying Try.underlying125
 have t4 := Try.underlying4; have a4 := Try.isAgg4
 go_enter Try.func95, Try.ntmps95
 go_wp2
 rw [Lib.run_to_unsafe w ⟨b, 0, none⟩ Try.underlying90 Try.underlying125 hj (by rw [hjs]; decide) hsh (Nat.zero_lt_succ 1)]
 simp only [Result.andThen]
 rw [Oper.upon_value]
 go_wp2
 rw [run_callFunc_extern Try.func119 (by kernel_rfl) (by kernel_rfl) (by kernel_rfl) (e := Extern.AbiNoEscape.same) (by kernel_rfl)]
 rw [Lib.run_noEscape]
 simp only [Result.andThen]
 rw [Oper.upon_value]
 go_wp2
 rw [Lib.run_from_unsafe w ⟨b, 0, none⟩ Try.underlying125 Try.underlying90 hj hsh Try.liesBuilder]
 simp only [Result.andThen]
 rw [Oper.upon_value]
 go_wp2
 go_end0
 exact ⟨rfl, rfl⟩
theorem Try.copyCheck (B b : Nat) (bs : List Value) (w : World) (h : Lib.IsBuilder 92 5 B b bs w) :
  Calls Try.prog 95 #[.pointer (some ⟨b, 0, none⟩)] w fun e w' => e = .returned (.tuple #[]) ∧ Lib.BuilderAt 92 5 B b (.pointer (some ⟨b, 0, none⟩)) bs w' ∧ Below B w w' := by
 rcases h with h | h
 ·refine (Try.copyCheck_fresh b w h.cell0 h.shape h.frozen0).mono ?_
  rintro e w' ⟨rfl, rfl⟩
  exact ⟨rfl, h.used _, (Below.refl B w).setCell (p := ⟨b, 0, none⟩) h.1 _⟩
 ·refine (Try.copyCheck_used b w h.cell0).mono ?_
  rintro e w' ⟨rfl, rfl⟩
  exact ⟨rfl, h, Below.refl B _⟩
set_option maxHeartbeats 2000000 in
theorem Try.writeByte (B b : Nat) (bs : List Value) (c : Int) (w : World) (h : Lib.IsBuilder 92 5 B b bs w) (hlen : bs.length + 1 ≤ 140737488355328) (hBw : B ≤ w.heap.size) :
  Calls Try.prog 81 #[.pointer (some ⟨b, 0, none⟩), .int .u8 c] w fun e w' => e = .returned .nilIface ∧ Lib.IsBuilder 92 5 B b (bs ++ [.int .u8 c]) w' ∧ Below B w w' := by
 obtain ⟨i0, hi, hz0, hz1, hz2⟩ := info_parts Try.infoByte
 have mixed := Try.mixedT
 have t92 := Try.underlying92; have a92 := Try.isAgg92; have z92 := Try.sizeOf92; have v92 := Try.zeroValue92; have u92 := run_underlying Try.underlying92
 have t90 := Try.underlying90; have a90 := Try.isAgg90; have z90 := Try.sizeOf90; have v90 := Try.zeroValue90; have u90 := run_underlying Try.underlying90
 have t5 := Try.underlying5; have a5 := Try.isAgg5; have z5 := Try.sizeOf5; have v5 := Try.zeroValue5; have u5 := run_underlying Try.underlying5
 have t55 := Try.underlying55; have a55 := Try.isAgg55; have z55 := Try.sizeOf55; have v55 := Try.zeroValue55; have u55 := run_underlying Try.underlying55
 have t94 := Try.underlying94; have a94 := Try.isAgg94; have z94 := Try.sizeOf94; have v94 := Try.zeroValue94; have u94 := run_underlying Try.underlying94
 go_enter Try.func81, Try.ntmps81
 go_wp2_with (go_at_call 95; refine (Try.copyCheck B b bs _ h).mono ?_)
 rintro e w1 ⟨rfl, h1, hb1⟩
 obtain ⟨hB, v, hbk, hown, hne⟩ := h1
 have c0 : w1.cell? ⟨b, 0, none⟩ = some (.pointer (some ⟨b, 0, none⟩)) := by rw [Lib.cell_of_heap hbk]; rfl
 have c1 : w1.cell? ⟨b, 1, none⟩ = some v := by rw [Lib.cell_of_heap hbk]; rfl
 go_wp2_with (at_builtin; refine wpList_append_own _ rfl _ _ 55 rfl B 5 i0 (.int .u8 0) 1 1 Try.underlying55 hi hz0 hz1 hz2 rfl (by decide) _ _ _ rfl (hown.alloc _) ⟨w1.heap.size, 0, none⟩ 1 1 [.int .u8 c] rfl rfl ?c1 ?c2 ?c3 ?c4 ?c5 ?_)
 case c1 =>
  intro j u hj
  match j, hj with
  | 0, hj => simp at hj; subst hj; simp [Addr.add]
 case c2 => intro u hu; simp at hu; subst hu; rfl
 case c3 => unfold maxLen; omega
 case c4 => omega
 case c5 => have := hb1.size; simp; omega
 intro v' w2 hown' hgrow _
 have hlt : b < w1.heap.size := by
  rcases Nat.lt_or_ge b w1.heap.size with h' | h'
  ·exact h'
  ·simp [Array.getElem?_eq_none h'] at hbk
 have hb2 : w2.heap[b]? = some (.cells #[.pointer (some ⟨b, 0, none⟩), v] 92 (0, 0)) := by
  rw [hgrow.block b (by simp; omega) (fun e => hne e.symm), Lib.alloc_old w1 _ b hlt]
  exact hbk
 have d0 : w2.cell? ⟨b, 0, none⟩ = some (.pointer (some ⟨b, 0, none⟩)) := by rw [Lib.cell_of_heap hb2]; rfl
 have d1 : w2.cell? ⟨b, 1, none⟩ = some v := by rw [Lib.cell_of_heap hb2]; rfl
 have f1 : w2.frozen? ⟨b, 1, none⟩ = false := Lib.frozen_of_heap hb2 1
 obtain ⟨g, cap, rfl⟩ : ∃ g cap, v' = .slice (some ⟨g, 0, none⟩) (bs.length + 1) cap := by
  rcases hown'.2 with ⟨_, h0⟩ | ⟨g, cap, cur, hv, _⟩
  ·omega
  ·exact ⟨g, cap, hv⟩
 go_wp2
 go_ret
 refine ⟨rfl, .inr ?_, ?_⟩
 ·exact Lib.BuilderAt.put (T := 92) (e := 5) hB hb2 (bs' := bs ++ [.int .u8 c]) (by simpa using hown') (by decide)
 ·exact ((hb1.alloc (by have := hb1.size; omega) _).grown hgrow (by have := hb1.size; simp; omega) (fun k hk => (hown.lt k hk).1)).setCell (p := ⟨b, 1, none⟩) hB _
def trB (t : ByteArray) (z : Int) : UInt8 := if z = 0 then 10 else (t.data.toList[(z - 1).toNat]?).getD 0
theorem byteCells_snoc (l : List UInt8) (c : UInt8) : Lib.byteCells l ++ [Value.int .u8 c.toNat] = Lib.byteCells (l ++ [c]) := by
 unfold Lib.byteCells
 rw [List.map_append]
 rfl
theorem Try.idxS (t : ByteArray) (z : Int) (h : 0 < z) (h2 : z ≤ (t.size : Int)) (w : World) : (Instr.index 9 (.string t) (.int .i64 (z - 1))).run Try.prog w = .ok (.int .u8 ((trB t z).toNat : Int)) w := by
 rw [run_index_string w 9 t _ _ Try.underlying9, dif_pos ⟨by omega, by omega⟩]
 have hlt : (z - 1).toNat < t.data.toList.length := by
  rw [Array.length_toList]
  show (z - 1).toNat < t.size
  omega
 have e : trB t z = t[(z - 1).toNat]'(by omega) := by
  unfold trB
  rw [if_neg (by omega), List.getElem?_eq_getElem hlt, Option.getD_some, Array.getElem_toList]
  rfl
 rw [e]
set_option maxHeartbeats 4000000 in
theorem Try.transform (t : ByteArray) (b off cap : Nat) (zs : List Int) (w : World) (hb : b < w.heap.size) (hc : ∀ j z, zs[j]? = some z → w.cell? ⟨b, off + j, none⟩ = some (.int .i64 z)) (hz : ∀ z, z ∈ zs → 0 ≤ z ∧ z ≤ t.size) (hl : zs.length ≤ 1000000000) (hts : (t.size : Int) ≤ 9223372036854775807) :
  Calls Try.prog 57 #[.string t, .slice (some ⟨b, off, none⟩) zs.length cap] w fun e w' => e = .returned (.string ⟨(zs.map (trB t)).toArray⟩) ∧ Below w.heap.size w w' := by
 have mixed := Try.mixedT
 have t92 := Try.underlying92; have a92 := Try.isAgg92; have z92 := Try.sizeOf92; have v92 := Try.zeroValue92; have u92 := run_underlying Try.underlying92
 have t3 := Try.underlying3; have a3 := Try.isAgg3; have z3 := Try.sizeOf3; have v3 := Try.zeroValue3; have u3 := run_underlying Try.underlying3
 have t5 := Try.underlying5; have a5 := Try.isAgg5; have z5 := Try.sizeOf5; have v5 := Try.zeroValue5; have u5 := run_underlying Try.underlying5
 have t9 := Try.underlying9; have a9 := Try.isAgg9; have z9 := Try.sizeOf9; have v9 := Try.zeroValue9; have u9 := run_underlying Try.underlying9
 have t23 := Try.underlying23; have a23 := Try.isAgg23; have z23 := Try.sizeOf23; have v23 := Try.zeroValue23; have u23 := run_underlying Try.underlying23
 have h0 : Lib.IsBuilder 92 5 w.heap.size w.heap.size [] (w.alloc (.cells #[.pointer none, .slice none 0 0] 92)) := Lib.fresh_isBuilder 92 5 w
 have b0 : Below w.heap.size w (w.alloc (.cells #[.pointer none, .slice none 0 0] 92)) := (Below.refl _ w).alloc (Nat.le_refl _) _
 have HZ : Hid (∀ z, z ∈ zs → 0 ≤ z ∧ z ≤ t.size) := hz
 clear hz
 go_enter Try.func57, Try.ntmps57
 go_wp2
 go_loopw [10] (fun i wr => ∃ k : Nat, k ≤ zs.length ∧ i = .int .i64 k ∧ Lib.IsBuilder 92 5 w.heap.size w.heap.size (Lib.byteCells ((zs.take k).map (trB t))) wr ∧ Below w.heap.size w wr)
  (fun i _ => zs.length - (RowKit.intOf i).toNat)
 case atStart => exact ⟨0, Nat.zero_le _, rfl, h0, b0⟩
 case round =>
  obtain ⟨k, hk, rfl, hB, hnx⟩ := hrel
  have hlen : (Lib.byteCells ((zs.take k).map (trB t))).length = k := by
   unfold Lib.byteCells
   simp
   omega
  rcases Nat.lt_or_ge k zs.length with hk1 | hk1
  ·have hcell : wr.cell? ⟨b, off + k, none⟩ = some (.int .i64 zs[k]) := (hnx.cell hb).trans (hc k _ (List.getElem?_eq_getElem hk1))
   have hzk := HZ.out zs[k] (List.getElem_mem hk1)
   generalize hzz : zs[k] = z at hcell hzk
   have htk : (zs.take (k + 1)).map (trB t) = (zs.take k).map (trB t) ++ [trB t z] := by
    rw [List.take_add_one, List.getElem?_eq_getElem hk1, hzz, List.map_append]
    rfl
   rcases Int.lt_or_le 0 z with hz0 | hz0
   ·have hne : ¬ z = 0 := by omega
    have hix : ∀ w : World, (Instr.index 9 (.string t) (.int .i64 (z - 1))).run Try.prog w = .ok (.int .u8 ((trB t z).toNat : Int)) w := Try.idxS t z hz0 hzk.2
    generalize hcz : trB t z = c at hix htk
    go_wp2_with (go_at_call 81; refine (Try.writeByte w.heap.size w.heap.size _ (c.toNat : Nat) _ hB (by omega) hnx.size).mono ?_; rintro e w1 ⟨rfl, h1, b1⟩)
    go_roundw
    case rel =>
     rw [byteCells_snoc, ← htk] at h1
     exact ⟨k + 1, hk1, by simp, h1, hnx.trans b1⟩
    case measure => simp [RowKit.intOf]; omega
   ·have : z = 0 := by omega
    subst this
    go_wp2_with (go_at_call 81; refine (Try.writeByte w.heap.size w.heap.size _ 10 _ hB (by omega) hnx.size).mono ?_; rintro e w1 ⟨rfl, h1, b1⟩)
    go_roundw
    case rel =>
     have e10 : (trB t 0).toNat = 10 := rfl
     have h2 := byteCells_snoc ((zs.take k).map (trB t)) (trB t 0)
     rw [e10] at h2
     rw [show Value.int IntKind.u8 10 = Value.int .u8 ((10 : Nat) : Int) from rfl, h2, ← htk] at h1
     exact ⟨k + 1, hk1, by simp, h1, hnx.trans b1⟩
    case measure => simp [RowKit.intOf]; omega
  ·have hkn : k = zs.length := by omega
   subst hkn
   rw [List.take_length] at hB
   go_wp2_with (go_at_call 82; refine (Try.Builder_String_any w.heap.size w.heap.size _ _ hB hnx.size).mono ?_; rintro e w1 ⟨rfl, b1⟩)
   go_ret
   exact ⟨rfl, hnx.trans b1⟩
end Go.Proofs
namespace Go.AM
open Go.RowKit Go.Proofs
def trS (t : ByteArray) (zs : List Int) : ByteArray := ⟨(zs.map (Go.Proofs.trB t)).toArray⟩
theorem flat_ints (zs : List Int) (k : IntKind) : flat (zs.map (AV.int k)) = zs.map (AV.int k) := by
 unfold flat
 rw [List.flatMap_map]
 simp only [AV.cells]
 exact List.map_eq_flatMap.symm
theorem transform57 {a1 : ByteArray} {a2 : List Int} (h1 : (a2.all fun z => decide (0 ≤ z) && decide (z ≤ (a1.size : Int))) = true) (h0 : a2 ≠ []) (h2 : a2.length ≤ 1000000000) (h3 : a1.size ≤ 1000000000) :
  CallOk Try.prog 57 [.str a1, .lst 3 1 none (a2.map (AV.int .i64))] (.str (trS a1 a2)) := by
 intro M w vs hG hC hl hR
 obtain ⟨v0, v1, rfl⟩ : ∃ v0 v1, vs = [v0, v1] := by
  match vs, hl with
  | [v0, v1], _ => exact ⟨v0, v1, rfl⟩
 have r0 := hR 0 _ v0 rfl rfl
 have r1 := hR 1 _ v1 rfl rfl
 generalize hxs : a2.map (AV.int .i64) = xs at r1
 cases r0
 have hz : ∀ z, z ∈ a2 → 0 ≤ z ∧ z ≤ (a1.size : Int) := fun z hz => by
  have := List.all_eq_true.1 h1 z hz
  simpa using this
 cases r1 with
 | lstn => exact absurd (List.map_eq_nil_iff.1 hxs) h0
 | lste => exact absurd (List.map_eq_nil_iff.1 hxs) h0
 | @lst _ _ _ _ b off cap us g1 g2 g5 g3 g4 =>
  subst hxs
  rw [flat_ints] at g3 g4
  have hcell : ∀ j z, a2[j]? = some z → M b (off + j) = some (.int .i64 z) := fun j z hj => by
   have hc : (a2.map (AV.int .i64))[j]? = some (.int .i64 z) := by rw [List.getElem?_map, hj]; rfl
   have e := (g4 j _ hc).int_inv
   rw [g3 j _ hc, ← e]
  have hb : b < w.heap.size := by
   cases ha : a2 with
   | nil => exact absurd ha h0
   | cons z r => exact mc_lt (hC _ _ _ (hcell 0 z (by rw [ha]; rfl)))
  rw [List.length_map]
  refine (Go.Proofs.Try.transform a1 b off cap a2 w hb (fun j z hj => mc_cell (hC _ _ _ (hcell j z hj)) rfl) hz h2 (by omega)).mono ?_
  rintro e w' ⟨rfl, hw⟩
  refine ⟨_, M, rfl, hw, Sub.refl M, fun b' o u hu => ?_, fun _ _ _ => rfl, .str _, trivial⟩
  have h := hC _ _ _ hu
  rw [mc_block (hw.block b' (mc_lt h))]
  exact h
end Go.AM
