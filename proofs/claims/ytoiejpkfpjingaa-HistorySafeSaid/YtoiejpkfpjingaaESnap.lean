/- s -/
import Derived.Test.YtoiejpkfpjingaaEMap
import Derived.Test.YtoiejpkfpjingaaSB1
import Derived.Laws.EntriesVeiled
set_option maxRecDepth 100000
set_option linter.unusedVariables false
set_option linter.unusedSimpArgs false
namespace Go.AM
def beginsP (h : List hsOp) : List Int → List (Int × Int) → Option (List (Int × Int))
 | [], m => some m
 | t :: l, m => (sl_IndexFunc_hsOp h fun y => hs_History_snapshot_1 y t).bind fun i => beginsP h l (mset keq1 t i m)
def snapP (fuel : Nat) (a1 : List hsOp) : Option hssnapshot := (hs_History_committed fuel a1).bind fun l => (hs_History_ending fuel a1 2).bind fun en => chk (decide (l.length ≤ 1000) && l.all (wfI .i64)) ((beginsP a1 l []).bind fun be => some ⟨a1, l, be, en⟩)
end Go.AM
namespace Go.Proofs
open Go.RowKit Go.AM
open Go.ChangeMaps (setBlock)
theorem map_form2 {M : Mem} {ks vs : List AV} {v : Value} (h : R M (.mpv ks vs) v) : ∃ mo, v = .map mo := by
 generalize hx : AV.mpv ks vs = x at h
 cases h <;> first | exact ⟨_, rfl⟩ | cases hx
theorem hist_form {M : Mem} {l : List hsOp} {v : Value} (h : R M (l44 none l) v) : ∃ a cap, v = .slice a l.length cap := by
 unfold l44 at h
 generalize hx : List.map e_hsOp l = xs at h
 cases h with
 | lstn =>
  have : l = [] := by simpa using hx
  subst this; exact ⟨none, 0, rfl⟩
 | lste _ _ _ ad cap =>
  have : l = [] := by simpa using hx
  subst this; exact ⟨some ad, cap, rfl⟩
 | lst us h1 h2 h5 h3 h4 =>
  subst hx
  exact ⟨_, _, by rw [List.length_map]⟩
theorem mset_len1 (k v : Int) : ∀ l : List (Int × Int), (mset keq1 k v l).length ≤ l.length + 1
 | [] => by simp [mset]
 | p :: r => by
  have := mset_len1 k v r
  unfold mset
  cases keq1 p.1 k <;> simp <;> omega
set_option maxHeartbeats 4000000 in
theorem snapshot77 {fuel : Nat} {a1 : List hsOp} {r : hssnapshot} (h : snapP fuel a1 = some r) : CallOk Try.prog 77 [l44 none a1] (e_hssnapshot r) := by
 intro M w vs hG hC hl hR
 obtain ⟨v0, rfl⟩ : ∃ v0, vs = [v0] := by
  match vs, hl with
  | [v0], _ => exact ⟨v0, rfl⟩
 have r0 : R M (l44 none a1) v0 := hR 0 _ v0 rfl rfl
 clear hR hl hG
 show Calls Try.prog 77 [v0].toArray w (CallPost2 M w (e_hssnapshot r))
 unfold snapP at h
 obtain ⟨l, hcm, h⟩ := bind_some h
 obtain ⟨en, hen, h⟩ := bind_some h
 obtain ⟨hck, h⟩ := chk_some h
 rw [Bool.and_eq_true, decide_eq_true_eq] at hck
 obtain ⟨hlen, hwf⟩ := hck
 obtain ⟨be, hbe, h⟩ := bind_some h
 cases h
 have mixed := mixedP
 have t3 := Try.underlying3; have a3 := Try.isAgg3; have z3 := Try.sizeOf3; have v3 := Try.zeroValue3; have u3 := run_underlying Try.underlying3
 have t4 := Try.underlying4; have a4 := Try.isAgg4; have z4 := Try.sizeOf4; have v4 := Try.zeroValue4
 have t24 := Try.underlying24; have a24 := Try.isAgg24; have z24 := Try.sizeOf24; have v24 := Try.zeroValue24; have u24 := run_underlying Try.underlying24
 have t29 := Try.underlying29; have a29 := Try.isAgg29; have z29 := Try.sizeOf29; have v29 := Try.zeroValue29
 have t85 := Try.underlying85; have a85 := Try.isAgg85; have z85 := Try.sizeOf85; have v85 := Try.zeroValue85; have u85 := run_underlying Try.underlying85
 have t118 := Try.underlying118; have a118 := Try.isAgg118; have z118 := Try.sizeOf118; have v118 := Try.zeroValue118; have u118 := run_underlying Try.underlying118
 have t136 := Try.underlying136; have a136 := Try.isAgg136; have z136 := Try.sizeOf136; have v136 := Try.zeroValue136
 have hmm := @run_makeMap Try.prog
 go_enter Try.func77, Try.ntmps77
 go_wp2_with fail
 obtain ⟨w0, ew0⟩ : ∃ w0, w0 = w.alloc (.cells #[.slice none 0 0, .slice none 0 0, .map none, .map none] 118) := ⟨_, rfl⟩
 have C0 : Cons M w0 := by rw [ew0]; exact hC.alloc _
 have hz0 : w0.heap[w.heap.size]? = some (.cells #[.slice none 0 0, .slice none 0 0, .map none, .map none] 118 (0, 0)) := by rw [ew0]; exact heap_alloc_new _ _
 have hs0 : w0.heap.size = w.heap.size + 1 := by rw [ew0]; simp
 have B0 : Below w.heap.size w w0 := by rw [ew0]; exact (Below.refl _ _).alloc (Nat.le_refl _) _
 rw [← ew0]
 have c51 := run_ok (run_hs_History_committed fuel a1 l hcm) M w0 [v0] (glob0 M) C0 rfl (fun j a b ha hb => by match j, ha, hb with | 0, ha, hb => cases ha; cases hb; exact r0)
 refine Calls.mono c51 ?_
 rintro e w1 ⟨lv, M1, rfl, hB1, s1, C1, o1, r1, _⟩
 have c62 := run_ok (run_hs_History_ending fuel a1 2 en hen) M1 (w1.alloc (.map #[] 0)) [v0, .int .i64 2] (glob0 M1) (C1.alloc _) rfl (fun j a b ha hb => by match j, ha, hb with | 0, ha, hb => (cases ha; cases hb; exact r0.mono s1) | 1, ha, hb => (cases ha; cases hb; exact .int _ _))
 go_wp2_with fail
 refine Calls.mono c62 ?_
 rintro e w2 ⟨ev, M2, rfl, hB2, s2, C2, o2, r2, _⟩
 obtain ⟨a5, lcap, rfl, hlc⟩ := ints_form (l := l) r1
 obtain ⟨mo, rfl⟩ := map_form2 r2
 obtain ⟨h5, hcap, rfl⟩ : ∃ h5 hcap, v0 = .slice h5 a1.length hcap := hist_form r0
 clear ew0 c51 c62
 obtain ⟨w3, ew3⟩ : ∃ w3, w3 = w2.alloc (.cells #[.slice h5 a1.length hcap, .slice a5 l.length lcap, .map (some w1.heap.size), .map mo] 118) := ⟨_, rfl⟩
 have q1 := hB1.size
 have q2 : w1.heap.size + 1 ≤ w2.heap.size := by simpa using hB2.size
 have hs3 : w3.heap.size = w2.heap.size + 1 := by rw [ew3]; simp
 have hb3 : w3.heap[w2.heap.size]? = some (.cells #[.slice h5 a1.length hcap, .slice a5 l.length lcap, .map (some w1.heap.size), .map mo] 118 (0, 0)) := by rw [ew3]; exact heap_alloc_new _ _
 have hm3 : w3.heap[w1.heap.size]? = some (.map #[] 0) := by
  rw [ew3, heap_alloc_old _ _ (by omega), hB2.block _ (by simp)]
  exact heap_alloc_new _ _
 have hz3 : w3.heap[w.heap.size]? = some (.cells #[.slice none 0 0, .slice none 0 0, .map none, .map none] 118 (0, 0)) := by
  rw [ew3, heap_alloc_old _ _ (by omega), hB2.block _ (by simp; omega), heap_alloc_old _ _ (by omega), hB1.block _ (by omega)]; exact hz0
 have B03 : Below w.heap.size w w3 := by
  have e1 : Below w.heap.size w1 (w1.alloc (.map #[] 0)) := (Below.refl _ _).alloc (by omega) _
  have e2 := hB2.mono (B' := w.heap.size) (by simp; omega)
  rw [ew3]
  exact ((((B0.trans (hB1.mono (by omega))).trans e1).trans e2)).alloc (by omega) _
 have C3 : Cons M2 w3 := by rw [ew3]; exact C2.alloc _
 have hno : ∀ o, M2 w1.heap.size o = none := fun o => by
  rw [o2 _ _ (by simp)]
  cases hm : M1 w1.heap.size o with
  | none => rfl
  | some u => have := mc_lt (C1 _ _ _ hm); omega
 have rH : R M2 (l44 none a1) (.slice h5 a1.length hcap) := (r0.mono s1).mono s2
 have hL : ∀ j (hj : j < l.length), ∃ b off, a5 = some ⟨b, off, none⟩ ∧ M2 b (off + j) = some (.int .i64 l[j]) := fun j hj => by
  obtain ⟨b, off, h1, h2⟩ := hlc j hj
  exact ⟨b, off, h1, s2 _ _ _ h2⟩
 have HW := (show Hid (w3 = _) from ew3)
 have hmf : ∀ (fn : Fn) (first cap : Array Value) (w : World), (Instr.makeFunc fn first cap).run Try.prog w = .ok (.func fn first cap) w := fun _ _ _ _ => rfl
 go_wp2
 rw [← HW.out]
 clear ew3
 go_loopw [16] (fun i wr => ∃ k : Nat, k ≤ l.length ∧ i = .int .i64 k ∧ (∃ m : List (Int × Int), m.length ≤ k ∧ beginsP a1 (l.drop k) m = some be ∧ MapAt M2 wr w1.heap.size (AV.int .i64) (AV.int .i64) m) ∧ (wr.os = w3.os ∧ wr.tape = w3.tape ∧ wr.output = w3.output ∧ w3.heap.size ≤ wr.heap.size ∧ ∀ k, k < w3.heap.size → k ≠ w1.heap.size → wr.heap[k]? = w3.heap[k]?))
  (fun i _ => l.length - (RowKit.intOf i).toNat)
 case atStart => exact ⟨0, Nat.zero_le _, rfl, ⟨[], Nat.le_refl _, hbe, .empty hm3⟩, rfl, rfl, rfl, Nat.le_refl _, fun _ _ _ => rfl⟩
 case round =>
  obtain ⟨k, hk, rfl, ⟨m, hml, hbk, es, clock, hmb, hE⟩, g1, g2, g3, g4, g5⟩ := hrel
  have hCr : Cons M2 wr := C3.of_blocks fun b o u hu hb => g5 b hb fun e => by rw [e, hno] at hu; cases hu
  rcases Nat.lt_or_ge k l.length with hk1 | hk1
  ·obtain ⟨b, off, rfl, hM⟩ := hL k hk1
   have hcx := mc_cell (hCr _ _ _ hM) rfl
   have j0 : (0 : Int) ≤ (k : Int) := Int.natCast_nonneg _
   have j1 : (k : Int) < (l.length : Int) := by omega
   have hwx := List.all_eq_true.1 hwf _ (List.getElem_mem hk1)
   rw [List.drop_eq_getElem_cons hk1] at hbk
   generalize l[k] = x at hcx hwx hbk
   obtain ⟨ix, hix, hbk⟩ := bind_some hbk
   have hrun := run_ok (run_sl_IndexFunc_hsOp a1 (fun y => hs_History_snapshot_1 y x) 105 [.ptr (.int .i64 x)] (by kernel_rfl) (fun y r h => run_hs_History_snapshot_1 y x r h) ix hix)
   have hcall := hrun (madd M2 wr.heap.size (.int .i64 x)) (wr.alloc (.cells #[.int .i64 x] 3)).drew [.slice h5 a1.length hcap, .func (.func 105) #[] #[.pointer (some ⟨wr.heap.size, 0, none⟩)]] (glob0 _)
    (madd_cons (w := wr.alloc (.cells #[.int .i64 x] 3)) (hCr.alloc _) (heap_alloc_new _ _) rfl rfl) rfl (fun j a b ha hb => by
     match j, ha, hb with
     | 0, ha, hb => cases ha; cases hb; exact rH.mono (madd_sub hCr (Nat.le_refl _))
     | 1, ha, hb =>
      cases ha; cases hb
      refine .clo (vs := [.pointer (some ⟨wr.heap.size, 0, none⟩)]) rfl fun j c v hc hv => ?_
      match j, hc, hv with
      | 0, hc, hv =>
       cases hc; cases hv
       refine .ptr (fun _ => .int .i64 x) (fun j c hc => ?_) (fun j c hc => ?_) (fun j c hc => rfl)
       ·match j, hc with
        | 0, hc => exact madd_at _ _ _
       ·match j, hc with
        | 0, hc => cases hc; exact .int _ _)
   obtain ⟨es', clock', hE', hU⟩ := Try.update_own (t := 85) (kt := 3) (e := 3) (eq := keq1) hE (by kernel_rfl) (fun x => by kernel_rfl) (fun x y => by simp [akeq, keq1, kbeq]) (k := x) (v := ix) (kv := .int .i64 x) (vv := .int .i64 ix) (by simp only [AV.keyV, hwx]) (.int _ _) (by omega)
   have K0 : (wr.alloc (.cells #[.int .i64 x] 3)).drew.cell? ⟨w2.heap.size, 2, none⟩ = some (.map (some w1.heap.size)) ∧ (wr.alloc (.cells #[.int .i64 x] 3)).drew.cell? ⟨wr.heap.size, 0, none⟩ = some (.int .i64 x) := by
    constructor
    ·have : (wr.alloc (.cells #[.int .i64 x] 3)).heap[w2.heap.size]? = some (.cells #[.slice h5 a1.length hcap, .slice (some ⟨b, off, none⟩) l.length lcap, .map (some w1.heap.size), .map mo] 118 (0, 0)) := by
      rw [heap_alloc_old _ _ (by omega), g5 _ (by omega) (by omega)]; exact hb3
     show (wr.alloc (.cells #[.int .i64 x] 3)).cell? _ = _
     simp [World.cell?, this]
    ·exact cell_of_one (w := wr.alloc (.cells #[.int .i64 x] 3)) (heap_alloc_new _ _)
   clear hrun hbe
   go_wp2
   go_region_held3 (fun w' => w'.cell? ⟨w2.heap.size, 2, none⟩ = some (.map (some w1.heap.size)) ∧ w'.cell? ⟨wr.heap.size, 0, none⟩ = some (.int .i64 x)) (first | exact K0 | exact K1 | exact K2)
    (first
     | (go_at_call 104; refine Calls.mono hcall ?_; rintro e w5 ⟨v, M5, rfl, hB5, _, _, _, hr5, _⟩; obtain rfl : v = .int .i64 ix := hr5.int_inv; have m5 : w5.heap[w1.heap.size]? = some (.map es clock) := (hB5.block _ (by simp; omega)).trans ((heap_alloc_old wr _ (by omega)).trans hmb); have HU5 := hU w5 w1.heap.size m5; have K1 : w5.cell? ⟨w2.heap.size, 2, none⟩ = some (.map (some w1.heap.size)) ∧ w5.cell? ⟨wr.heap.size, 0, none⟩ = some (.int .i64 x) := ⟨(hB5.cell (by simp; omega)).trans K0.1, (hB5.cell (by simp)).trans K0.2⟩; have K2 : (setBlock w5 w1.heap.size (.map es' clock')).cell? ⟨w2.heap.size, 2, none⟩ = some (.map (some w1.heap.size)) ∧ (setBlock w5 w1.heap.size (.map es' clock')).cell? ⟨wr.heap.size, 0, none⟩ = some (.int .i64 x) := ⟨(World.cell?_of_block (setBlock_other (by simp; omega))).trans K1.1, (World.cell?_of_block (setBlock_other (by simp; omega))).trans K1.2⟩))
   all_goals go_wp2
   all_goals go_roundw
   case rel =>
    refine ⟨k + 1, hk1, by go_num, ⟨_, ?_, hbk, es', clock', setBlock_at m5, hE'⟩, hB5.os.trans g1, hB5.tape.trans g2, hB5.output.trans g3, ?_, fun j hj hne => ?_⟩
    ·have := mset_len1 x ix m; omega
    ·have := hB5.size
     simp at this
     rw [setBlock_size]; omega
    ·rw [setBlock_other hne, hB5.block _ (by simp; omega)]
     exact (heap_alloc_old wr _ (by omega)).trans (g5 j hj hne)
   case measure => simp [RowKit.intOf]; omega
  ·have hkl : k = l.length := by omega
   subst hkl
   have hbl : m = be := by
    rw [List.drop_length] at hbk
    exact Option.some.inj hbk
   subst hbl
   have hbr : wr.heap[w2.heap.size]? = some (.cells #[.slice h5 a1.length hcap, .slice a5 l.length lcap, .map (some w1.heap.size), .map mo] 118 (0, 0)) := (g5 _ (by omega) (by omega)).trans hb3
   have hzr : wr.heap[w.heap.size]? = some (.cells #[.slice none 0 0, .slice none 0 0, .map none, .map none] 118 (0, 0)) := (g5 _ (by omega) (by omega)).trans hz3
   have c0 : wr.cell? ⟨w2.heap.size, 0, none⟩ = some (.slice h5 a1.length hcap) := by simp [World.cell?, hbr]
   have c1 : wr.cell? ⟨w2.heap.size, 1, none⟩ = some (.slice a5 l.length lcap) := by simp [World.cell?, hbr]
   have c2 : wr.cell? ⟨w2.heap.size, 2, none⟩ = some (.map (some w1.heap.size)) := by simp [World.cell?, hbr]
   have c3 : wr.cell? ⟨w2.heap.size, 3, none⟩ = some (.map mo) := by simp [World.cell?, hbr]
   have d0 : wr.cell? ⟨w.heap.size, 0, none⟩ = some (.slice none 0 0) := by simp [World.cell?, hzr]
   have d1 : wr.cell? ⟨w.heap.size, 1, none⟩ = some (.slice none 0 0) := by simp [World.cell?, hzr]
   have d2 : wr.cell? ⟨w.heap.size, 2, none⟩ = some (.map none) := by simp [World.cell?, hzr]
   have d3 : wr.cell? ⟨w.heap.size, 3, none⟩ = some (.map none) := by simp [World.cell?, hzr]
   have f0 : wr.frozen? ⟨w.heap.size, 0, none⟩ = false := by simp [World.frozen?, hzr]
   have f1 : wr.frozen? ⟨w.heap.size, 1, none⟩ = false := by simp [World.frozen?, hzr]
   have f2 : wr.frozen? ⟨w.heap.size, 2, none⟩ = false := by simp [World.frozen?, hzr]
   have f3 : wr.frozen? ⟨w.heap.size, 3, none⟩ = false := by simp [World.frozen?, hzr]
   go_wp2
   obtain ⟨w9, ew9⟩ : ∃ w9, w9 = (((wr.setCell ⟨w.heap.size, 0, none⟩ (.slice h5 a1.length hcap)).setCell ⟨w.heap.size, 1, none⟩ (.slice a5 l.length lcap)).setCell ⟨w.heap.size, 2, none⟩ (.map (some w1.heap.size))).setCell ⟨w.heap.size, 3, none⟩ (.map mo) := ⟨_, rfl⟩
   have hz9 : w9.heap[w.heap.size]? = some (.cells #[.slice h5 a1.length hcap, .slice a5 l.length lcap, .map (some w1.heap.size), .map mo] 118 (0, 0)) := by
    have st : ∀ (w : World) (b j : Nat) (cs : Array Value) (t : TypeId) (u : Value), w.heap[b]? = some (.cells cs t (0, 0)) → (w.setCell ⟨b, j, none⟩ u).heap[b]? = some (.cells (cs.setIfInBounds j u) t (0, 0)) := fun w b j cs t u h => by
     have hlt := lt_of_block h
     have h' : w.heap[b] = .cells cs t (0, 0) := by simpa [Array.getElem?_eq_getElem hlt] using h
     show (w.heap.modify b _)[b]? = _
     rw [Array.getElem?_eq_getElem (by simpa using hlt), Array.getElem_modify_self, h']
     rfl
    rw [ew9, st _ _ _ _ _ _ (st _ _ _ _ _ _ (st _ _ _ _ _ _ (st _ _ _ _ _ _ hzr)))]
    rfl
   have hb9 : ∀ j, j ≠ w.heap.size → w9.heap[j]? = wr.heap[j]? := fun j hj => by
    rw [ew9, Below.heap_setCell _ _ _ _ hj, Below.heap_setCell _ _ _ _ hj, Below.heap_setCell _ _ _ _ hj, Below.heap_setCell _ _ _ _ hj]
   have hrest9 : w9.os = wr.os ∧ w9.tape = wr.tape ∧ w9.output = wr.output ∧ w9.heap.size = wr.heap.size := by rw [ew9]; exact ⟨rfl, rfl, rfl, by simp [World.setCell]⟩
   rw [← ew9]
   clear ew9
   have hres : ∀ tm : Array Value, tm[2]?.getD undef = .pointer (some ⟨w.heap.size, 0, none⟩) → (results Try.f77 tm).run Try.prog w9 = .ok (.agg #[.slice h5 a1.length hcap, .slice a5 l.length lcap, .map (some w1.heap.size), .map mo]) w9 := by
    intro tm htm
    have hr : Try.f77.results = #[.cell 2 118] := by kernel_rfl
    have e0 : w9.cell? ⟨w.heap.size, 0, none⟩ = some (.slice h5 a1.length hcap) := by simp [World.cell?, hz9]
    have e1 : w9.cell? ⟨w.heap.size, 1, none⟩ = some (.slice a5 l.length lcap) := by simp [World.cell?, hz9]
    have e2 : w9.cell? ⟨w.heap.size, 2, none⟩ = some (.map (some w1.heap.size)) := by simp [World.cell?, hz9]
    have e3 : w9.cell? ⟨w.heap.size, 3, none⟩ = some (.map mo) := by simp [World.cell?, hz9]
    simp [results, hr, htm]
    go_simp
   refine bodyPost_ret (hres _ (by rfl)) rfl ?_
   have hlt : w1.heap.size < w9.heap.size := by
    have : w9.heap[w1.heap.size]? = some (.map es clock) := (hb9 _ (by omega)).trans hmb
    exact lt_of_block this
   have C9 : Cons M2 w9 := C3.of_blocks fun b o u hu hb => by
    by_cases e1 : b = w1.heap.size
    ·rw [e1, hno] at hu; cases hu
    ·by_cases e2 : b = w.heap.size
     ·exfalso
      subst e2
      rw [o2 _ _ (by simp; omega), o1 _ _ (by omega)] at hu
      have := mc_lt (hC _ _ _ hu); omega
     ·rw [hb9 _ e2, g5 _ hb e1]
   have hm9 : w9.heap[w1.heap.size]? = some (.map es clock) := (hb9 _ (by omega)).trans hmb
   have hMsub : Sub M2 (maddM M2 w1.heap.size es clock) := fun b o u hu => by
    rw [maddM_other (fun e => by rw [e, hno] at hu; cases hu)]; exact hu
   refine ⟨_, maddM M2 w1.heap.size es clock, rfl, ?_, Sub.trans s1 (Sub.trans s2 hMsub), maddM_cons C9 hm9, fun b o hb => ?_, ?_, trivial⟩
   ·refine B03.trans ⟨?_, ?_, ?_, ?_, fun k hk => ?_⟩
    ·rw [← g1]; exact hrest9.1
    ·rw [← g2]; exact hrest9.2.1
    ·rw [← g3]; exact hrest9.2.2.1
    ·rw [hrest9.2.2.2]; exact g4
    ·rw [hb9 _ (by omega), g5 _ (by omega) (by omega)]
   ·rw [maddM_other (by omega), o2 _ _ (by simp; omega), o1 _ _ (by omega)]
   ·refine .agg (vs := [.slice h5 a1.length hcap, .slice a5 l.length lcap, .map (some w1.heap.size), .map mo]) rfl (fun j c v hc hv => ?_)
    match j, hc, hv with
    | 0, hc, hv => cases hc; cases hv; exact rH.mono hMsub
    | 1, hc, hv => cases hc; cases hv; exact (R.mono (Sub.trans s2 hMsub) r1)
    | 2, hc, hv => cases hc; cases hv; exact maddM_r hMsub hE
    | 3, hc, hv => cases hc; cases hv; exact R.mono hMsub r2
end Go.Proofs
