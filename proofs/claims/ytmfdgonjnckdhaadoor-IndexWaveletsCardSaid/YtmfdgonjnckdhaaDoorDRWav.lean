/- s -/
import Derived.Test.YtmfdgonjnckdhaaDoorCTrans
import Derived.Test.YtmfdgonjnckdhaaDoorDWav
import Derived.Deep.RegionHeld3
import Derived.Deep.RegionHeldLaw
import Derived.Deep.AppendLies
import Derived.Deep.OwnRows
import Derived.Laws.BitsAllLaws
set_option maxRecDepth 100000
set_option linter.unusedVariables false
set_option linter.unusedSimpArgs false
namespace Go.AM
def wHas (l : List UInt8) (c : Nat) : Bool := l.any fun x => x.toNat % 128 == c
def wBytes (l : List UInt8) (n : Nat) : List UInt8 := ((List.range n).filter (wHas l)).map UInt8.ofNat
def refW : Nat → List UInt8 → Option (List UInt8)
  | 0, _ => none
  | m + 1, l => if (wBytes l 128).length < 2 then some [] else match (wBytes l 128)[((wBytes l 128).length + 1) / 2]? with
    | none => none
    | some p => (refW m (l.filter fun x => decide (x < p))).bind fun a => (refW m (l.filter fun x => !decide (x < p))).bind fun b => some (l.map (fun x => if x < p then 48 else 49) ++ a ++ b)
theorem wrap_u8 (k : Nat) (h : k < 256) : IntKind.wrap .u8 (k : Int) = (k : Int) := by
  simp [IntKind.wrap, IntKind.signed, IntKind.bits]
  omega
theorem wBytes_no (l : List UInt8) (k : Nat) (h : wHas l k = false) : wBytes l (k + 1) = wBytes l k := by
  unfold wBytes
  rw [List.range_succ, List.filter_append]
  simp [h]
theorem wBytes_yes (l : List UInt8) (k : Nat) (h : wHas l k = true) : wBytes l (k + 1) = wBytes l k ++ [UInt8.ofNat k] := by
  unfold wBytes
  rw [List.range_succ, List.filter_append]
  simp [h]
theorem wBytes_len (l : List UInt8) (k : Nat) : (wBytes l k).length ≤ k := by
  unfold wBytes
  rw [List.length_map]
  refine Nat.le_trans (List.length_filter_le _ _) ?_
  simp
theorem owns_ne {w : World} {base : Nat} {e : TypeId} {size : Nat} {v : Value} {n : Nat} {xs : List Value} (h : w.ownsRow base e size v n xs) {k : Nat} (hk : k < base) : some k ≠ v.ownBlock := by
  rcases h.2 with ⟨rfl, _⟩ | ⟨g, cap, cur, rfl, hg, _⟩
  · intro e; cases e
  · intro e
    simp only [Value.ownBlock, Option.some.injEq] at e
    omega
theorem addr_add (g j : Nat) : (⟨g, 0, none⟩ : Addr).add j = ⟨g, j, none⟩ := by
  unfold Addr.add; split <;> simp_all
theorem bytes_app3 (x y z : List UInt8) : (⟨x.toArray⟩ : ByteArray) ++ ⟨y.toArray⟩ ++ ⟨z.toArray⟩ = ⟨(x ++ y ++ z).toArray⟩ := by
  apply ByteArray.ext
  simp
theorem htake_has (l : List UInt8) (k : Nat) (h : k < l.length) (c : Nat) : wHas (l.take (k + 1)) c = if c = l[k].toNat % 128 then true else wHas (l.take k) c := by
  unfold wHas
  rw [List.take_add_one, List.getElem?_eq_getElem h, Option.toList_some, List.any_append]
  by_cases hc : c = l[k].toNat % 128
  · simp [hc]
  · have : (l[k].toNat % 128 == c) = false := by simp; omega
    simp [hc, this]
end Go.AM
namespace Go.Proofs
open Go.Shelf Go.RowKit Go.Lib Go.AM
def OwnB (w : World) (B : Nat) (v : Value) (l : List UInt8) : Prop := w.ownsRow B 5 1 v l.length (byteCells l)
def ApartV (u v : Value) : Prop := ∀ g, u.ownBlock = some g → v.ownBlock ≠ some g
structure Tri (w1 w : World) (a b c : Value) (la lb lc : List UInt8) : Prop where
  oa : OwnB w w1.heap.size a la
  ob : OwnB w w1.heap.size b lb
  oc : OwnB w w1.heap.size c lc
  ab : ApartV a b
  ac : ApartV a c
  bc : ApartV b c
  bel : Below w1.heap.size w1 w
theorem ApartV.symm {u v : Value} (h : ApartV u v) : ApartV v u := fun g e k => h g k e
theorem OwnB.nil (w : World) (B : Nat) : OwnB w B (.slice none 0 0) [] := World.ownsRow_nil _ _ _ _
section
variable {w1 w : World} {a b c : Value} {la lb lc : List UInt8}
theorem Tri.nil (w : World) : Tri w w (.slice none 0 0) (.slice none 0 0) (.slice none 0 0) [] [] [] :=
  ⟨.nil w _, .nil w _, .nil w _, fun _ h => (by cases h), fun _ h => (by cases h), fun _ h => (by cases h), ⟨rfl, rfl, rfl, Nat.le_refl _, fun _ _ => rfl⟩⟩
theorem Tri.drew (h : Tri w1 w a b c la lb lc) : Tri w1 w.drew a b c la lb lc := ⟨h.oa, h.ob, h.oc, h.ab, h.ac, h.bc, ⟨h.bel.os, h.bel.tape, h.bel.output, h.bel.size, h.bel.block⟩⟩
theorem Tri.alloc (h : Tri w1 w a b c la lb lc) (o : Obj) : Tri w1 (w.alloc o) a b c la lb lc :=
  ⟨World.ownsRow.alloc h.oa o, World.ownsRow.alloc h.ob o, World.ownsRow.alloc h.oc o, h.ab, h.ac, h.bc, ⟨h.bel.os, h.bel.tape, h.bel.output, by have := h.bel.size; simp; omega, fun k hk => by
    have := h.bel.size
    rw [Lib.alloc_old w o k (by omega)]; exact h.bel.block k hk⟩⟩
theorem Tri.swap (h : Tri w1 w a b c la lb lc) : Tri w1 w b a c lb la lc := ⟨h.ob, h.oa, h.oc, h.ab.symm, h.bc, h.ac, h.bel⟩
theorem Tri.turn (h : Tri w1 w a b c la lb lc) : Tri w1 w c b a lc lb la := ⟨h.oc, h.ob, h.oa, h.bc.symm, h.ac.symm, h.ab.symm, h.bel⟩
theorem OwnB.lt {w : World} {B : Nat} {v : Value} {l : List UInt8} (h : OwnB w B v l) {g : Nat} (hg : v.ownBlock = some g) : g < w.heap.size := by
  rcases h.2 with ⟨rfl, _⟩ | ⟨g', cap, cur, rfl, _, hb, _⟩
  · cases hg
  · simp only [Value.ownBlock, Option.some.injEq] at hg
    subst hg
    rcases Nat.lt_or_ge g' w.heap.size with h | h
    · exact h
    · rw [Array.getElem?_eq_none h] at hb; cases hb
theorem Tri.app {w' : World} (h : Tri w1 w a b c la lb lc) {g cap : Nat} (x : UInt8) {n : Nat}
    (ho : w'.ownsRow w1.heap.size 5 1 (.slice (some ⟨g, 0, none⟩) n cap) n (byteCells la ++ [.int .u8 (x.toNat : Nat)])) (hn : n = la.length + 1) (hg : w.grownBy w' a.ownBlock) (hat : a.ownBlock = some g ∨ g = w.heap.size) :
    Tri w1 w' (.slice (some ⟨g, 0, none⟩) n cap) b c (la ++ [x]) lb lc := by
  have kept : ∀ {v : Value} {l : List UInt8}, OwnB w w1.heap.size v l → ApartV a v → OwnB w' w1.heap.size v l := fun {v l} hv hav => World.ownsRow.kept hv hg (by
    cases hvb : v.ownBlock with
    | none => exact .inl rfl
    | some k => exact .inr fun e => hav k e.symm hvb)
  have apart : ∀ {v : Value} {l : List UInt8}, OwnB w w1.heap.size v l → ApartV a v → ApartV (.slice (some ⟨g, 0, none⟩) n cap) v := fun {v l} hv hav k hk e => by
    simp only [Value.ownBlock, Option.some.injEq] at hk
    subst hk
    rcases hat with hat | hat
    · exact hav _ hat e
    · have := hv.lt e
      omega
  refine ⟨?_, kept h.ob h.ab, kept h.oc h.ac, apart h.ob h.ab, apart h.oc h.ac, h.bc, ⟨hg.os.trans h.bel.os, hg.tape.trans h.bel.tape, hg.output.trans h.bel.output, Nat.le_trans h.bel.size hg.size, fun k hk => ?_⟩⟩
  · subst hn
    unfold OwnB
    rw [← _root_.Go.Proofs.byteCells_snoc]
    simpa using ho
  · have := h.bel.size
    rw [hg.block k (by omega) (owns_ne h.oa hk)]
    exact h.bel.block k hk
theorem news_one {g : Nat} {z : Value} (h : w.cell? ⟨g, 0, none⟩ = some z) : ∀ j u, [z][j]? = some u → w.cell? ((⟨g, 0, none⟩ : Addr).add j) = some u := by
  intro j u hj
  match j, hj with
  | 0, hj => simp at hj; subst hj; rw [addr_add]; exact h
theorem OwnB.conv {B : Nat} {v : Value} {l : List UInt8} (h : OwnB w B v l) : (convert 29 9 v).run Tryd.prog w = .ok (.string ⟨l.toArray⟩) w := by
  rcases h.2 with ⟨rfl, h0⟩ | ⟨g, cap, cur, rfl, _, hb, _⟩
  · have : l = [] := List.eq_nil_of_length_eq_zero h0
    subst this
    exact run_convert_bytes_nil w 29 5 Tryd.underlying29 Tryd.underlying5 0 0 9 Tryd.underlying9
  · have hc := World.ownsRow.cells h (g := g) rfl
    have hr := run_convert_bytes_arg w 29 5 Tryd.underlying29 Tryd.underlying5 g 0 l.length cap (l.map fun x => (x.toNat : Int)) (by simp) (fun i hi => by
      have := hc i (.int .u8 (l[i].toNat : Nat)) (by unfold byteCells; simp [hi])
      rw [addr_add] at this
      rw [Nat.zero_add, this]
      simp [List.getD, hi]) 9 Tryd.underlying9
    rw [hr]
    unfold strOfNums
    simp [List.map_map]
    conv => rhs; rw [← List.map_id l]
    exact List.map_congr_left fun x _ => by simp
theorem Tri.next {w' : World} (h : Tri w1 w a b c la lb lc) (hb : Below w.heap.size w w') : Tri w1 w' a b c la lb lc := by
  have hg : w.grownBy w' none := ⟨hb.os, hb.tape, hb.output, hb.size, fun k hk _ => hb.block k hk⟩
  have kept : ∀ {v : Value} {l : List UInt8}, OwnB w w1.heap.size v l → OwnB w' w1.heap.size v l := fun {v l} hv => World.ownsRow.kept hv hg (by
    cases hvb : v.ownBlock with
    | none => exact .inl rfl
    | some k => exact .inr (by intro e; cases e))
  have := h.bel.size
  exact ⟨kept h.oa, kept h.ob, kept h.oc, h.ab, h.ac, h.bc, ⟨hb.os.trans h.bel.os, hb.tape.trans h.bel.tape, hb.output.trans h.bel.output, Nat.le_trans h.bel.size hb.size, fun k hk => (hb.block k (by omega)).trans (h.bel.block k hk)⟩⟩
end
set_option maxHeartbeats 8000000 in
theorem Tryd.rwav : ∀ (m : Nat) (l out : List UInt8), refW m l = some out → l.length ≤ 1000000 → out.length ≤ 1000000000 → ∀ (w : World),
    Calls Tryd.prog 16 #[.string ⟨l.toArray⟩] w fun e w' => e = .returned (.string ⟨out.toArray⟩) ∧ Below w.heap.size w w' := by
  intro m
  induction m with
  | zero => intro l out h; cases h
  | succ m ih =>
    intro l out hout hl hol w
    obtain ⟨i0, hi, hz0, hz1, hz2⟩ := info_parts Tryd.infoByte
    have mixed := Tryd.mixedT
    have t49 := Tryd.underlying49; have a49 := Tryd.isAgg49; have z49 := Tryd.sizeOf49; have v49 := Tryd.zeroValue49
    have t3 := Tryd.underlying3; have a3 := Tryd.isAgg3; have z3 := Tryd.sizeOf3; have v3 := Tryd.zeroValue3; have u3 := run_underlying Tryd.underlying3
    have t4 := Tryd.underlying4; have a4 := Tryd.isAgg4; have z4 := Tryd.sizeOf4; have v4 := Tryd.zeroValue4; have u4 := run_underlying Tryd.underlying4
    have t5 := Tryd.underlying5; have a5 := Tryd.isAgg5; have z5 := Tryd.sizeOf5; have v5 := Tryd.zeroValue5; have u5 := run_underlying Tryd.underlying5
    have t9 := Tryd.underlying9; have a9 := Tryd.isAgg9; have z9 := Tryd.sizeOf9; have v9 := Tryd.zeroValue9
    have t29 := Tryd.underlying29; have a29 := Tryd.isAgg29; have z29 := Tryd.sizeOf29; have v29 := Tryd.zeroValue29; have u29 := run_underlying Tryd.underlying29
    go_enter Tryd.func16, Tryd.ntmps16
    have hz : Tryd.zeroCells49 = Array.replicate 128 (.bool false) := by kernel_rfl
    go_wp2
    have hsz : (ByteArray.mk l.toArray).size = l.length := by simp [ByteArray.size]
    go_loopw [14] (fun i wr => ∃ k : Nat, k ≤ l.length ∧ i = .int .i64 k ∧ wr.rowIs w.heap.size 49 128 (fun c => .bool (wHas (l.take k) c)) ∧ Below w.heap.size w wr)
      (fun i _ => l.length - (RowKit.intOf i).toNat)
    case atStart =>
      refine ⟨0, Nat.zero_le _, rfl, ⟨_, heap_alloc_new w _, by simp, fun i hi => by simp [hi, wHas]⟩, ⟨rfl, rfl, rfl, by simp, fun k hk => heap_alloc_old w _ hk⟩⟩
    case round =>
      obtain ⟨k, hk, rfl, hrow, hbl⟩ := hrel
      rcases Nat.lt_or_ge k l.length with hk1 | hk1
      · have j0 : (0 : Int) ≤ (k : Int) := Int.natCast_nonneg _
        have j1 : (k : Int) < (l.length : Int) := by omega
        have hx : (ByteArray.mk l.toArray)[k]'(by omega) = l[k] := rfl
        have hbits : _root_.Go.bits .and .u8 (l[k].toNat : Int) 127 = ((l[k].toNat % 128 : Nat) : Int) := by
          have h1 := u8_and_nat l[k].toNat 127 l[k].toNat_lt (by omega)
          have h2 : l[k].toNat &&& 127 = l[k].toNat % 128 := Nat.and_two_pow_sub_one_eq_mod _ 7
          rw [h2] at h1
          exact h1
        have hlt : l[k].toNat % 128 < 128 := Nat.mod_lt _ (by omega)
        have hst := htake_has l k hk1
        generalize l[k].toNat % 128 = c at hbits hlt hst
        have c0 : (0 : Int) ≤ (c : Int) := Int.natCast_nonneg _
        have c1 : (c : Int) < 128 := by omega
        have cc := hrow.cell hlt
        have cf := hrow.frozen c
        have hrow2 := hrow.set c (.bool true)
        go_wp2
        go_roundw
        case rel =>
          exact ⟨k + 1, hk1, rfl, hrow2.congr fun i hi => by rw [hst i]; split <;> simp_all, hbl.trans ⟨rfl, rfl, rfl, by simp [World.setCell], fun j hj => Below.heap_setCell _ _ _ _ (by simp; omega)⟩⟩
        case measure => simp [RowKit.intOf]; omega
      · have hkl : k = l.length := by omega
        subst hkl
        rw [List.take_length] at hrow
        have hW0 : w.heap.size + 1 ≤ wr.heap.size := hrow.lt
        go_wp2
        go_loopw [5, 23] (fun v i wq => ∃ k : Nat, k ≤ 128 ∧ i = .int .i64 k ∧ wq.ownsRow (w.heap.size + 1) 5 1 v (wBytes l k).length (byteCells (wBytes l k)) ∧ wq.rowIs w.heap.size 49 128 (fun c => .bool (wHas l c)) ∧ Below w.heap.size w wq)
          (fun _ i _ => 128 - (RowKit.intOf i).toNat)
        case atStart => exact ⟨0, by omega, rfl, World.ownsRow_nil _ _ _ _, hrow, hbl⟩
        case round =>
          obtain ⟨k, hk, rfl, hown, hrow, hbl⟩ := hrel
          rcases Nat.lt_or_ge k 128 with hk1 | hk1
          · have j0 : (0 : Int) ≤ (k : Int) := Int.natCast_nonneg _
            have j1 : (k : Int) < 128 := by omega
            have cc := hrow.cell hk1
            have hw8 : IntKind.wrap .u8 (k : Int) = (k : Int) := wrap_u8 k (by omega)
            cases hh : wHas l k with
            | false =>
              rw [hh] at cc
              go_wp2
              go_roundw
              case rel => exact ⟨k + 1, hk1, rfl, by rw [wBytes_no l k hh]; exact hown, hrow, hbl⟩
              case measure => simp [RowKit.intOf]; omega
            | true =>
              rw [hh] at cc
              have hle := wBytes_len l k
              go_wp2_with (at_builtin; refine wpList_append_own _ rfl _ _ 29 rfl (w.heap.size + 1) 5 i0 (.int .u8 0) 1 1 Tryd.underlying29 hi hz0 hz1 hz2 rfl (by decide) _ _ _ rfl (hown.alloc _) ⟨wr.heap.size, 0, none⟩ 1 1 [.int .u8 k] rfl rfl ?c1 ?c2 ?c3 ?c4 ?c5 ?_)
              case c1 =>
                intro j u hj
                match j, hj with
                | 0, hj => simp at hj; subst hj; simp [Addr.add]
              case c2 => intro u hu; simp at hu; subst hu; rfl
              case c3 => unfold maxLen; omega
              case c4 => omega
              case c5 => have := hrow.lt; simp; omega
              intro v' w2 hown' hgrow _
              go_wp2
              go_roundw
              case rel =>
                have e8 : (Value.int IntKind.u8 (k : Int)) = .int .u8 ((UInt8.ofNat k).toNat : Nat) := by
                  have : (UInt8.ofNat k).toNat = k := by simp; omega
                  rw [this]
                rw [e8, _root_.Go.Proofs.byteCells_snoc, ← wBytes_yes l k hh] at hown'
                have hlen1 : (wBytes l (k + 1)).length = (wBytes l k).length + 1 := by rw [wBytes_yes l k hh]; simp
                have hle8 : w.heap.size + 1 ≤ wr.heap.size := hrow.lt
                refine ⟨k + 1, hk1, rfl, by rw [hlen1]; exact hown', hrow.of_block ?_, hbl.trans ⟨hgrow.os, hgrow.tape, hgrow.output, by have := hgrow.size; simp at this; omega, fun j hj => ?_⟩⟩
                · rw [hgrow.block _ (by simp; omega) (owns_ne hown (by omega)), Lib.alloc_old wr _ _ (by omega)]
                · rw [hgrow.block _ (by simp; omega) (owns_ne hown (by omega)), Lib.alloc_old wr _ _ (by omega)]
              case measure => simp [RowKit.intOf]; omega
          · have hkl : k = 128 := by omega
            subst hkl
            have h128 : ((128 : Nat) : Int) = 128 := rfl
            rw [h128]
            clear h128
            have hbig := wBytes_len l 128
            have hnil : ∀ (h : (wBytes l 128).length < 2), out = [] := by
              intro h
              simp only [refW] at hout
              rw [if_pos h] at hout
              exact (Option.some.inj hout).symm
            rcases hown.2 with ⟨hv, h0⟩ | ⟨g, cap, cur, hv, hbg, hgr, hnc, hcm, hcs, htk⟩
            · subst hv
              have := hnil (by omega)
              subst this
              go_wp2
              go_ret
              exact ⟨rfl, hbl⟩
            · subst hv
              rcases Nat.lt_or_ge (wBytes l 128).length 2 with h2 | h2
              · have := hnil h2
                subst this
                generalize (wBytes l 128).length = n at *
                go_wp2
                go_ret
                exact ⟨rfl, hbl⟩
              · obtain ⟨p, hp⟩ : ∃ p, (wBytes l 128)[((wBytes l 128).length + 1) / 2]? = some p := ⟨_, List.getElem?_eq_getElem (by omega)⟩
                obtain ⟨a, c, ha, hc, rfl⟩ : ∃ a c, refW m (l.filter fun x => decide (x < p)) = some a ∧ refW m (l.filter fun x => !decide (x < p)) = some c ∧ l.map (fun x => if x < p then 48 else 49) ++ a ++ c = out := by
                  simp only [refW] at hout
                  rw [if_neg (by omega), hp] at hout
                  obtain ⟨a, ha, hout⟩ := bind_some hout
                  obtain ⟨c, hc, hout⟩ := bind_some hout
                  exact ⟨a, c, ha, hc, Option.some.inj hout⟩
                have hcell : wr.cell? ⟨g, ((wBytes l 128).length + 1) / 2, none⟩ = some (.int .u8 (p.toNat : Nat)) := by
                  have := hown.cells (g := g) rfl (((wBytes l 128).length + 1) / 2) (.int .u8 (p.toNat : Nat)) (by unfold byteCells; rw [List.getElem?_map, hp]; rfl)
                  rwa [addr_add] at this
                have hgl : g < wr.heap.size := by
                  rcases Nat.lt_or_ge g wr.heap.size with h | h
                  · exact h
                  · rw [Array.getElem?_eq_none h] at hgr; cases hgr
                clear hown hrow htk hgr hnil hout hp
                generalize (wBytes l 128).length = n at *
                obtain ⟨q, hq⟩ : ∃ q, q = (n + 1) / 2 := ⟨_, rfl⟩
                rw [← hq] at hcell
                have q0 : (0 : Int) ≤ (q : Int) := Int.natCast_nonneg _
                have q1 : (q : Int) < (n : Int) := by omega
                have q2 : q < n := by omega
                have e1 : IntKind.i64.wrap ((n : Int) + 1) = (n : Int) + 1 := wrap_id (by omega) (by omega)
                have e2 : IntKind.i64.wrap (Int.tdiv ((n : Int) + 1) 2) = (q : Int) := by
                  have : Int.tdiv ((n : Int) + 1) 2 = (q : Int) := by
                    rw [Int.tdiv_eq_ediv_of_nonneg (by omega)]; omega
                  rw [this]; exact wrap_id (by omega) (by omega)
                clear hq
                obtain ⟨w1, ew⟩ : ∃ w1, w1 = wr := ⟨wr, rfl⟩
                subst ew
                go_wp2
                go_loopw [8, 9, 10, 41] (fun vb vl vh i wq => ∃ k : Nat, k ≤ l.length ∧ i = .int .i64 k ∧ Tri w1 wq vb vl vh ((l.take k).map (fun x => if x < p then 48 else 49)) ((l.take k).filter fun x => decide (x < p)) ((l.take k).filter fun x => !decide (x < p)))
                  (fun _ _ _ i _ => l.length - (RowKit.intOf i).toNat)
                case atStart => exact ⟨0, Nat.zero_le _, rfl, Tri.nil _⟩
                case round =>
                  obtain ⟨k, hk, rfl, hT⟩ := hrel
                  have hle1 := hT.bel.size
                  rcases Nat.lt_or_ge k l.length with hk1 | hk1
                  · have j0 : (0 : Int) ≤ (k : Int) := Int.natCast_nonneg _
                    have j1 : (k : Int) < (l.length : Int) := by omega
                    have hx : (ByteArray.mk l.toArray)[k]'(by omega) = l[k] := rfl
                    have hcell2 : wr.cell? ⟨g, q, none⟩ = some (.int .u8 (p.toNat : Nat)) := by
                      simpa [World.cell?, hT.bel.block g hgl] using hcell
                    have htk : l.take (k + 1) = l.take k ++ [l[k]] := by rw [List.take_add_one, List.getElem?_eq_getElem hk1]; rfl
                    have hbl1 : ((l.take k).map (fun x => if x < p then (48 : UInt8) else 49)).length ≤ 1000000 := by simp; omega
                    have hbl2 : ((l.take k).filter fun x => decide (x < p)).length ≤ 1000000 := Nat.le_trans (List.length_filter_le _ _) (by simp; omega)
                    have hbl3 : ((l.take k).filter fun x => !decide (x < p)).length ≤ 1000000 := Nat.le_trans (List.length_filter_le _ _) (by simp; omega)
                    generalize hLb : (l.take k).map (fun x => if x < p then (48 : UInt8) else 49) = Lb at hT hbl1
                    generalize hLl : ((l.take k).filter fun x => decide (x < p)) = Ll at hT hbl2
                    generalize hLh : ((l.take k).filter fun x => !decide (x < p)) = Lh at hT hbl3
                    generalize l[k] = x at hx htk
                    go_wp2
                    go_region_held3 (fun w' => w'.cell? ⟨g, q, none⟩ = some (.int .u8 (p.toNat : Nat))) (go_keep) (fail)
                    have hT0 := hT.drew
                    have hb8 : ∀ g, u8.ownBlock = some g → g < wr.heap.size := fun g h => hT.oa.lt h
                    rcases Nat.lt_or_ge x.toNat p.toNat with hxp | hxp
                    · have hxi : ((x.toNat : Nat) : Int) < (p.toNat : Int) := by omega
                      have hxi2 : ¬ (p.toNat : Int) ≤ ((x.toNat : Nat) : Int) := by omega
                      have hd : x < p := UInt8.lt_iff_toNat_lt.2 hxp
                      go_wp2
                      go_region_held_law (fun _ => True) (trivial)
                        (first
                          | (refine step_append_lies _ (by rfl) (.tmp 63) _ _ (by rfl) w1.heap.size 5 i0 (.int .u8 0) 1 1 Tryd.underlying29 hi hz0 hz1 hz2 rfl (by omega) u8 Lb.length (byteCells Lb) (by rfl) (by first | exact hT0.oa | exact hT0.drew.oa | exact (hT0.drew.alloc _).oa | exact ((hT0.drew.alloc _).alloc _).oa) _ _ _ [.int .u8 48] (by rfl) rfl (news_one (by simp)) (by simp [Value.oneCell']) (by omega) (by unfold maxLen; omega) (by omega) (by simp; omega) _ rfl ?_; intro g1 c1 v1 ho1 hg1 ha1 hl1; have T1 := Tri.app (w1 := w1) (b := u9) (c := u10) (lb := Ll) (lc := Lh) (la := Lb) (by first | exact hT0.drew | exact (hT0.drew.alloc _) | exact ((hT0.drew.alloc _).alloc _)) 48 ho1 rfl hg1 ha1)
                          | (refine step_append_lies _ (by rfl) (.tmp 66) _ _ (by rfl) w1.heap.size 5 i0 (.int .u8 0) 1 1 Tryd.underlying29 hi hz0 hz1 hz2 rfl (by omega) u9 Ll.length (byteCells Ll) (by rfl) (by first | exact T1.ob | exact (T1.alloc _).ob) _ _ _ [.int .u8 (x.toNat : Nat)] (by rfl) rfl (news_one (by first | (simp; done) | (rw [hg1.cell_far _ (by first | (simp; done) | (simp; omega)) (fun e => by have := hb8 _ e.symm; first | (simp at this; done) | omega | (simp at this; omega))]; simp))) (by simp [Value.oneCell']) (by omega) (by unfold maxLen; omega) (by omega) (by have := hg1.size; simp at this ⊢; omega) _ rfl ?_; intro g2 c2 v2 ho2 hg2 ha2 hl2; have T2 := Tri.app (w1 := w1) (by first | exact T1.swap | exact (T1.alloc _).swap) x ho2 rfl hg2 ha2))
                      all_goals go_wp2
                      all_goals go_roundw
                      all_goals first
                        | (simp [RowKit.intOf]; omega)
                        | (refine ⟨k + 1, hk1, rfl, ?_⟩
                           rw [htk, List.map_append, List.filter_append, List.filter_append, hLb, hLl, hLh]
                           have T3 := T2.swap
                           simpa [hd] using T3)
                    · have hxi : ¬ ((x.toNat : Nat) : Int) < (p.toNat : Int) := by omega
                      have hxi2 : (p.toNat : Int) ≤ ((x.toNat : Nat) : Int) := by omega
                      have hd : ¬ x < p := fun h => by have := UInt8.lt_iff_toNat_lt.1 h; omega
                      go_wp2
                      go_region_held_law (fun _ => True) (trivial)
                        (first
                          | (refine step_append_lies _ (by rfl) (.tmp 54) _ _ (by rfl) w1.heap.size 5 i0 (.int .u8 0) 1 1 Tryd.underlying29 hi hz0 hz1 hz2 rfl (by omega) u8 Lb.length (byteCells Lb) (by rfl) (by first | exact hT0.oa | exact hT0.drew.oa | exact (hT0.drew.alloc _).oa | exact ((hT0.drew.alloc _).alloc _).oa) _ _ _ [.int .u8 49] (by rfl) rfl (news_one (by simp)) (by simp [Value.oneCell']) (by omega) (by unfold maxLen; omega) (by omega) (by simp; omega) _ rfl ?_; intro g1 c1 v1 ho1 hg1 ha1 hl1; have T1 := Tri.app (w1 := w1) (b := u9) (c := u10) (lb := Ll) (lc := Lh) (la := Lb) (by first | exact hT0.drew | exact (hT0.drew.alloc _) | exact ((hT0.drew.alloc _).alloc _)) 49 ho1 rfl hg1 ha1)
                          | (refine step_append_lies _ (by rfl) (.tmp 57) _ _ (by rfl) w1.heap.size 5 i0 (.int .u8 0) 1 1 Tryd.underlying29 hi hz0 hz1 hz2 rfl (by omega) u10 Lh.length (byteCells Lh) (by rfl) (by first | exact T1.oc | exact (T1.alloc _).oc) _ _ _ [.int .u8 (x.toNat : Nat)] (by rfl) rfl (news_one (by first | (simp; done) | (rw [hg1.cell_far _ (by first | (simp; done) | (simp; omega)) (fun e => by have := hb8 _ e.symm; first | (simp at this; done) | omega | (simp at this; omega))]; simp))) (by simp [Value.oneCell']) (by omega) (by unfold maxLen; omega) (by omega) (by have := hg1.size; simp at this ⊢; omega) _ rfl ?_; intro g2 c2 v2 ho2 hg2 ha2 hl2; have T2 := Tri.app (w1 := w1) (by first | exact T1.turn | exact (T1.alloc _).turn) x ho2 rfl hg2 ha2))
                      all_goals go_wp2
                      all_goals go_roundw
                      all_goals first
                        | (simp [RowKit.intOf]; omega)
                        | (refine ⟨k + 1, hk1, rfl, ?_⟩
                           rw [htk, List.map_append, List.filter_append, List.filter_append, hLb, hLl, hLh]
                           have T3 := T2.turn
                           simpa [hd] using T3)
                  · have hkl : k = l.length := by omega
                    subst hkl
                    rw [List.take_length] at hT
                    have hla : a.length ≤ 1000000000 := by simp at hol; omega
                    have hlc : c.length ≤ 1000000000 := by simp at hol; omega
                    have hl1 : (l.filter fun x => decide (x < p)).length ≤ 1000000 := Nat.le_trans (List.length_filter_le _ _) hl
                    have hl2 : (l.filter fun x => !decide (x < p)).length ≤ 1000000 := Nat.le_trans (List.length_filter_le _ _) hl
                    have hbm : (l.map (fun x => if x < p then (48 : UInt8) else 49)).length = l.length := by simp
                    have hol2 : (l.map (fun x => if x < p then (48 : UInt8) else 49)).length + a.length + c.length ≤ 1000000000 := by simp at hol ⊢; omega
                    have I1 := ih _ _ ha hl1 hla
                    have I2 := ih _ _ hc hl2 hlc
                    generalize hLb : l.map (fun x => if x < p then (48 : UInt8) else 49) = Lb at *
                    generalize hLl : (l.filter fun x => decide (x < p)) = Ll at *
                    generalize hLh : (l.filter fun x => !decide (x < p)) = Lh at *
                    have A1 : ∀ w, (Op.stringOp .add (⟨Lb.toArray⟩ : ByteArray) ⟨a.toArray⟩).run Tryd.prog w = .ok (.string ((⟨Lb.toArray⟩ : ByteArray) ++ ⟨a.toArray⟩)) w := fun w => run_string_add_sum w _ _ (by simp [ByteArray.size]; omega)
                    have A2 : ∀ w, (Op.stringOp .add ((⟨Lb.toArray⟩ : ByteArray) ++ ⟨a.toArray⟩) ⟨c.toArray⟩).run Tryd.prog w = .ok (.string ((⟨Lb.toArray⟩ : ByteArray) ++ ⟨a.toArray⟩ ++ ⟨c.toArray⟩)) w := fun w => run_string_add_sum w _ _ (by simp [ByteArray.size]; omega)
                    have S1 : (⟨Lb.toArray⟩ : ByteArray).size + (⟨a.toArray⟩ : ByteArray).size ≤ 9223372036854775807 := by simp [ByteArray.size]; omega
                    have S2 : ((⟨Lb.toArray⟩ : ByteArray) ++ ⟨a.toArray⟩).size + (⟨c.toArray⟩ : ByteArray).size ≤ 9223372036854775807 := by simp [ByteArray.size]; omega
                    have hT0 := hT.drew
                    have K0 := And.intro hT0.oa.conv (And.intro hT0.ob.conv hT0.oc.conv)
                    go_wp2
                    go_region_held3 (fun w' => (convert 29 9 u8).run Tryd.prog w' = .ok (.string ⟨Lb.toArray⟩) w' ∧ (convert 29 9 u9).run Tryd.prog w' = .ok (.string ⟨Ll.toArray⟩) w' ∧ (convert 29 9 u10).run Tryd.prog w' = .ok (.string ⟨Lh.toArray⟩) w') (first | exact K0 | exact K1 | exact K2)
                      (first
                        | (go_at_call_of 16 (Value.string ⟨Ll.toArray⟩); refine (I1 _).mono ?_; rintro e v1 ⟨rfl, hb1⟩; have T1 := hT0.next hb1; have K1 := And.intro T1.oa.conv (And.intro T1.ob.conv T1.oc.conv))
                        | (go_at_call_of 16 (Value.string ⟨Lh.toArray⟩); refine (I2 _).mono ?_; rintro e v2 ⟨rfl, hb2⟩; have T2 := T1.next hb2; have K2 := And.intro T2.oa.conv (And.intro T2.ob.conv T2.oc.conv)))
                    all_goals go_wp2
                    all_goals go_ret
                    all_goals refine ⟨?_, hbl.trans ⟨T2.bel.os, T2.bel.tape, T2.bel.output, T2.bel.size, fun k hk => T2.bel.block k (Nat.lt_of_lt_of_le hk hbl.size)⟩⟩
                    all_goals show Ending.returned (Value.string ((⟨Lb.toArray⟩ : ByteArray) ++ ⟨a.toArray⟩ ++ ⟨c.toArray⟩)) = _
                    all_goals rw [bytes_app3, hLb]
end Go.Proofs
namespace Go.AM
open Go.RowKit Go.Proofs
def refwP (fuel : Nat) (a1 : ByteArray) : Option ByteArray := chk (decide (a1.data.toList.length ≤ 1000000)) ((refW fuel a1.data.toList).bind fun out => chk (decide (out.length ≤ 1000000000)) (some (ByteArray.mk out.toArray)))
theorem refwav16 {fuel : Nat} {a1 : ByteArray} {r : ByteArray} (h : refwP fuel a1 = some r) : CallOk Tryd.prog 16 [.str a1] (.str r) := by
  intro M w vs hG hC hl hR
  obtain ⟨v0, rfl⟩ : ∃ v0, vs = [v0] := by
    match vs, hl with
    | [v0], _ => exact ⟨v0, rfl⟩
  have r0 := hR 0 _ v0 rfl rfl
  cases r0
  unfold refwP at h
  obtain ⟨h1, h⟩ := chk_some h
  obtain ⟨out, ho, h⟩ := bind_some h
  obtain ⟨h2, h⟩ := chk_some h
  cases h
  refine (Tryd.rwav fuel a1.data.toList out ho (of_decide_eq_true h1) (of_decide_eq_true h2) w).mono ?_
  rintro e w' ⟨rfl, hb⟩
  refine ⟨_, M, rfl, hb, Sub.refl M, fun b' o u hu => ?_, fun _ _ _ => rfl, .str _, trivial⟩
  have h := hC _ _ _ hu
  rw [mc_block (hb.block b' (mc_lt h))]
  exact h
end Go.AM
