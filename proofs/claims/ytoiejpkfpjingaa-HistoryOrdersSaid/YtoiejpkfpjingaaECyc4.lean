/-
  Cycle: what it returns, walked. No statement of the seat is proved here.
-/
import Derived.Test.YtoiejpkfpjingaaECyc3
import Derived.Laws.EntriesVeiled
set_option maxRecDepth 100000
set_option linter.unusedVariables false
set_option linter.unusedSimpArgs false
namespace Go.AM

/-- the first of the shortest cycles -/
def cycFind (E : Int → Int → Bool) (l : List Int) : Option (List Int) := (List.range (l.length + 1)).findSome? fun long => if long < 2 then none else l.findSome? fun t => growF E l (long - 1) [t]

def edgeB (es : List (arr2_Int × Bool)) (a b : Int) : Bool := mget keq_arr2_Int false ⟨a, b⟩ es

def cycP (fuel : Nat) (a1 : List hsOp) : Option (List Int × Int) := (hs_Valid a1).bind fun ok => bif ok then (hs_History_part fuel a1).bind fun p => (hs_History_conflicts p).bind fun es => (hs_History_committed fuel a1).bind fun l => chk (decide (l.length ≤ 999) && l.all (wfI .i64)) (some (match cycFind (edgeB es) l with | some c => (c, 0) | none => ([], 5))) else some ([], 2)

end Go.AM

namespace Go.Proofs
open Go.RowKit Go.AM

theorem edge_at {M : Mem} {es : List (arr2_Int × Bool)} {mv : Value} (hm : R M (mpE e_arr2_Int AV.bool es) mv) : ∀ w, Cons M w → ∀ a b, wfI .i64 a = true → wfI .i64 b = true → (Instr.lookup 67 mv (.agg #[.int .i64 a, .int .i64 b]) false).run Try.prog w = .ok (.bool (edgeB es a b)) w := by
  intro w hC a b ha hb
  have hk : (e_arr2_Int ⟨a, b⟩).keyV = some (.agg #[.int .i64 a, .int .i64 b]) := by
    simp only [e_arr2_Int, AV.keyV, keyVs, ha, hb]
  have hr := alookup_mp (P := Try.prog) (t := 67) (kt := 73) (e := 4) (F := e_arr2_Int) (G := AV.bool) (eq := keq_arr2_Int) (l := es) (k := ⟨a, b⟩) (z := false) (by rw [hk]; rfl) (by kernel_rfl) (fun x => by kernel_rfl) (fun x y => rfl) (by kernel_rfl)
  obtain ⟨v, h1, h2⟩ := lookup_r (kt := 73) (e := 4) (w := w) hC hm (by kernel_rfl) hk hr
  cases h2
  exact h1

theorem map_form {M : Mem} {ks vs : List AV} {v : Value} (h : R M (.mpv ks vs) v) : ∃ mo, v = .map mo := by
  generalize hx : AV.mpv ks vs = x at h
  cases h <;> first | exact ⟨_, rfl⟩ | cases hx

/-- the world but for the box of what was found -/
structure FB (w : World) (bf : Nat) (w' : World) : Prop where
  os : w'.os = w.os
  tape : w'.tape = w.tape
  output : w'.output = w.output
  size : w.heap.size ≤ w'.heap.size
  block : ∀ k, k < w.heap.size → k ≠ bf → w'.heap[k]? = w.heap[k]?
  box : ∃ fv, w'.heap[bf]? = some (.cells #[fv] 24 (0, 0))

theorem FB.cons {M : Mem} {w w1 : World} {bf : Nat} (h : FB w bf w1) (hC : Cons M w) (hf : ∀ o, M bf o = none) : Cons M w1 :=
  hC.of_blocks fun b o u hu hb => h.block b hb fun e => by rw [e, hf] at hu; cases hu

theorem FB.gp {w w1 w2 : World} {bf base : Nat} {vc : Value} {c : List Int} {o : Obj} (h : FB w bf w1) (hv : vc.ownBlock = some w1.heap.size) (k : GP base (w1.alloc o) bf vc c w2) : FB w bf w2 := by
  have hs := h.size
  have ks := k.size
  simp at ks
  refine ⟨k.os.trans h.os, k.tape.trans h.tape, k.output.trans h.output, by omega, fun j hj hne => ?_, k.box⟩
  rw [k.block j (by simp; omega) hne (fun e => by rw [hv] at e; simp at e; omega), heap_alloc_old _ _ (by omega), h.block j hj hne]

theorem cycFind_none {E : Int → Int → Bool} {l : List Int} (h : ∀ k, 2 ≤ k → k ≤ l.length → l.findSome? (fun t => growF E l (k - 1) [t]) = none) : cycFind E l = none := by
  unfold cycFind
  refine findSome_no fun j y hj hy => ?_
  rw [List.length_range] at hj
  rw [List.getElem?_range hj] at hy
  cases hy
  split
  · rfl
  · exact h j (by omega) (by omega)

theorem cycFind_some {E : Int → Int → Bool} {l c : List Int} {k : Nat} (h1 : 2 ≤ k) (h2 : k ≤ l.length) (h : ∀ j, 2 ≤ j → j < k → l.findSome? (fun t => growF E l (j - 1) [t]) = none) (h3 : l.findSome? (fun t => growF E l (k - 1) [t]) = some c) : cycFind E l = some c := by
  unfold cycFind
  refine findSome_at (List.getElem?_range (by omega : k < l.length + 1)) (fun j y hj hy => ?_) (by rw [if_neg (by omega)]; exact h3)
  rw [List.getElem?_range (by omega)] at hy
  cases hy
  split
  · rfl
  · exact h j (by omega) hj

/-- what a call leaves -/
def CallPost (M : Mem) (w : World) (r : AV) (e : Ending) (w' : World) : Prop := ∃ v M', e = .returned v ∧ Below w.heap.size w w' ∧ Sub M M' ∧ Cons M' w' ∧ (∀ b o, b < w.heap.size → M' b o = M b o) ∧ R M' r v ∧ OwnR M' w.heap.size w' r v

set_option maxHeartbeats 4000000 in
theorem cycle19 {fuel : Nat} {a1 : List hsOp} {r : List Int × Int} (h : cycP fuel a1 = some r) : CallOk Try.prog 19 [l44 none a1] (.tup [l3 none r.1, .int .i64 r.2]) := by
  intro M w vs hG hC hl hR
  obtain ⟨v0, rfl⟩ : ∃ v0, vs = [v0] := by
    match vs, hl with
    | [v0], _ => exact ⟨v0, rfl⟩
  have r0 : R M (l44 none a1) v0 := hR 0 _ v0 rfl rfl
  clear hR hl hG
  show Calls Try.prog 19 [v0].toArray w (CallPost M w (.tup [l3 none r.1, .int .i64 r.2]))
  unfold cycP at h
  obtain ⟨ok, hok, h⟩ := bind_some h
  have c26 := run_ok (run_hs_Valid a1 ok hok) M w [v0] (glob0 M) hC rfl (fun j a b ha hb => by match j, ha, hb with | 0, ha, hb => cases ha; cases hb; exact r0)
  have mixed := mixedP
  have t3 := Try.underlying3; have a3 := Try.isAgg3; have z3 := Try.sizeOf3; have v3 := Try.zeroValue3; have u3 := run_underlying Try.underlying3
  have t4 := Try.underlying4; have a4 := Try.isAgg4; have z4 := Try.sizeOf4; have v4 := Try.zeroValue4
  have t24 := Try.underlying24; have a24 := Try.isAgg24; have z24 := Try.sizeOf24; have v24 := Try.zeroValue24; have u24 := run_underlying Try.underlying24
  have t25 := Try.underlying25; have a25 := Try.isAgg25; have z25 := Try.sizeOf25; have v25 := Try.zeroValue25
  have t55 := Try.underlying55; have a55 := Try.isAgg55; have z55 := Try.sizeOf55; have v55 := Try.zeroValue55
  have t67 := Try.underlying67; have a67 := Try.isAgg67; have z67 := Try.sizeOf67; have v67 := Try.zeroValue67
  have en52 := Try.enter52
  cases ok with
  | false =>
    cases h
    go_enter Try.func19, Try.ntmps19
    go_wp2_with fail
    refine c26.mono ?_
    rintro e w1 ⟨v, M1, rfl, hB1, s1, C1, o1, r1, _⟩
    cases r1
    go_wp2
    go_ret2
    refine ⟨_, M1, rfl, hB1, s1, C1, o1, ?_, trivial⟩
    refine .tup (vs := [.slice none 0 0, .int .i64 2]) rfl (fun j c v hc hv => ?_)
    match j, hc, hv with
    | 0, hc, hv => cases hc; cases hv; exact .lstn _ _ _
    | 1, hc, hv => cases hc; cases hv; exact .int _ _
  | true =>
    simp only [cond_true] at h
    obtain ⟨p, hp, h⟩ := bind_some h
    obtain ⟨es, hes, h⟩ := bind_some h
    obtain ⟨l, hcm, h⟩ := bind_some h
    obtain ⟨hck, h⟩ := chk_some h
    rw [Bool.and_eq_true, decide_eq_true_eq] at hck
    obtain ⟨hlen, hwf⟩ := hck
    have hr := Option.some.inj h
    clear h
    go_enter Try.func19, Try.ntmps19
    go_wp2_with fail
    refine c26.mono ?_
    rintro e w1 ⟨v, M1, rfl, hB1, s1, C1, o1, r1, _⟩
    cases r1
    have c48 := run_ok (run_hs_History_part fuel a1 p hp) M1 w1 [v0] (glob0 M1) C1 rfl (fun j a b ha hb => by match j, ha, hb with | 0, ha, hb => cases ha; cases hb; exact r0.mono s1)
    go_wp2_with fail
    refine c48.mono ?_
    rintro e w2 ⟨vp, M2, rfl, hB2, s2, C2, o2, r2, _⟩
    have c49 := run_ok (run_hs_History_conflicts p es hes) M2 w2 [vp] (glob0 M2) C2 rfl (fun j a b ha hb => by match j, ha, hb with | 0, ha, hb => cases ha; cases hb; exact r2.setLab)
    go_wp2_with fail
    refine c49.mono ?_
    rintro e w3 ⟨mv, M3, rfl, hB3, s3, C3, o3, r3, _⟩
    have c51 := run_ok (run_hs_History_committed fuel a1 l hcm) M3 w3 [v0] (glob0 M3) C3 rfl (fun j a b ha hb => by match j, ha, hb with | 0, ha, hb => cases ha; cases hb; exact r0.mono (Sub.trans s1 (Sub.trans s2 s3)))
    go_wp2_with fail
    refine c51.mono ?_
    rintro e w4 ⟨lv, M4, rfl, hB4, s4, C4, o4, r4, _⟩
    obtain ⟨lv1, lvc, rfl, hlc⟩ := ints_form (l := l) r4
    obtain ⟨mo, rfl⟩ := map_form r3
    have hcD : ((((w4.alloc (.cells #[.map mo] 67)).alloc (.cells #[.slice lv1 l.length lvc] 24)).alloc (.cells #[.slice none 0 0] 24)).alloc (.cells #[.nilFunc] 55)).heap[w4.heap.size + 1 + 1 + 1]? = some (.cells #[.nilFunc] 55 (0, 0)) := by
      have := heap_alloc_new (((w4.alloc (.cells #[.map mo] 67)).alloc (.cells #[.slice lv1 l.length lvc] 24)).alloc (.cells #[.slice none 0 0] 24)) (.cells #[.nilFunc] 55)
      simpa using this
    have hcD1 := cell_of_one hcD
    have hcD2 := free_of_one hcD
    obtain ⟨w5, ew5⟩ : ∃ w5, w5 = ((((w4.alloc (.cells #[.map mo] 67)).alloc (.cells #[.slice lv1 l.length lvc] 24)).alloc (.cells #[.slice none 0 0] 24)).alloc (.cells #[.func (.func 52) #[] #[.pointer (some ⟨w4.heap.size + 1 + 1, 0, none⟩), .pointer (some ⟨w4.heap.size, 0, none⟩), .pointer (some ⟨w4.heap.size + 1, 0, none⟩), .pointer (some ⟨w4.heap.size + 1 + 1 + 1, 0, none⟩)]] 55)) := ⟨_, rfl⟩
    have a0 : w5.heap[w4.heap.size]? = some (.cells #[.map mo] 67 (0, 0)) := by rw [ew5, heap_alloc_old _ _ (by simp <;> omega), heap_alloc_old _ _ (by simp <;> omega), heap_alloc_old _ _ (by simp <;> omega)]; exact heap_alloc_new _ _
    have a1' : w5.heap[w4.heap.size + 1]? = some (.cells #[.slice lv1 l.length lvc] 24 (0, 0)) := by rw [ew5, heap_alloc_old _ _ (by simp <;> omega), heap_alloc_old _ _ (by simp <;> omega)]; have := heap_alloc_new (w4.alloc (.cells #[.map mo] 67)) (.cells #[.slice lv1 l.length lvc] 24); simpa using this
    have a2 : w5.heap[w4.heap.size + 1 + 1]? = some (.cells #[.slice none 0 0] 24 (0, 0)) := by rw [ew5, heap_alloc_old _ _ (by simp)]; have := heap_alloc_new ((w4.alloc (.cells #[.map mo] 67)).alloc (.cells #[.slice lv1 l.length lvc] 24)) (.cells #[.slice none 0 0] 24); simpa using this
    have a3' : w5.heap[w4.heap.size + 1 + 1 + 1]? = some (.cells #[growV (w4.heap.size + 1 + 1) w4.heap.size (w4.heap.size + 1) (w4.heap.size + 1 + 1 + 1)] 55 (0, 0)) := by
      have e1 := heap_alloc_new (((w4.alloc (.cells #[.map mo] 67)).alloc (.cells #[.slice lv1 l.length lvc] 24)).alloc (.cells #[.slice none 0 0] 24)) (.cells #[growV (w4.heap.size + 1 + 1) w4.heap.size (w4.heap.size + 1) (w4.heap.size + 1 + 1 + 1)] 55)
      have e2 : (((w4.alloc (.cells #[.map mo] 67)).alloc (.cells #[.slice lv1 l.length lvc] 24)).alloc (.cells #[.slice none 0 0] 24)).heap.size = w4.heap.size + 1 + 1 + 1 := by simp
      rw [e2] at e1
      rw [ew5]; exact e1
    have hs5 : w5.heap.size = w4.heap.size + 4 := by rw [ew5]; simp
    have C45 : Cons M4 w5 := by rw [ew5]; exact (((C4.alloc _).alloc _).alloc _).alloc _
    have B45 : Below w4.heap.size w4 w5 := by rw [ew5]; exact ((((Below.refl _ _).alloc (Nat.le_refl _) _).alloc (by simp) _).alloc (by simp; omega) _).alloc (by simp; omega) _
    obtain ⟨M5, eM5⟩ : ∃ M5, M5 = madd (madd (madd M4 w4.heap.size (.map mo)) (w4.heap.size + 1) (.slice lv1 l.length lvc)) (w4.heap.size + 1 + 1 + 1) (growV (w4.heap.size + 1 + 1) w4.heap.size (w4.heap.size + 1) (w4.heap.size + 1 + 1 + 1)) := ⟨_, rfl⟩
    have hold : ∀ b o, b < w4.heap.size → M5 b o = M4 b o := fun b o hb => by rw [eM5, madd_other (by omega), madd_other (by omega), madd_other (by omega)]
    have hsub : Sub M4 M5 := fun b o u hu => by rw [hold b o (mc_lt (C4 _ _ _ hu))]; exact hu
    have C5 : Cons M5 w5 := by rw [eM5]; exact madd_cons (madd_cons (madd_cons C45 a0 rfl rfl) a1' rfl rfl) a3' rfl rfl
    have hnone : ∀ b o, w4.heap.size ≤ b → M4 b o = none := fun b o hb => by
      cases hm : M4 b o with
      | none => rfl
      | some u => have := mc_lt (C4 _ _ _ hm); omega
    have hG : GE M5 (w4.heap.size + 1 + 1) w4.heap.size (w4.heap.size + 1) (w4.heap.size + 1 + 1 + 1) (edgeB es) l := by
      refine ⟨⟨.map mo, by rw [eM5, madd_other (by omega), madd_other (by omega), madd_at], rfl, fun w' h' => edge_at r3 w' fun b o u hu => h' _ _ _ (hsub _ _ _ (s4 _ _ _ hu))⟩, ⟨_, by rw [eM5, madd_other (by omega), madd_at], rfl, R.mono hsub r4⟩, by rw [eM5, madd_at], fun o => ?_, fun x hx => List.all_eq_true.1 hwf x hx, by omega⟩
      rw [eM5, madd_other (by omega), madd_other (by omega), madd_other (by omega)]
      exact hnone _ _ (by omega)
    have F5 : FB w5 (w4.heap.size + 1 + 1) w5 := ⟨rfl, rfl, rfl, Nat.le_refl _, fun _ _ _ => rfl, _, a2⟩
    have hgw := fun n long x wr (hx : wfI .i64 x = true) (h1 : 1 + n = long) (h2 : long ≤ 1000) (hF : FB w5 (w4.heap.size + 1 + 1) wr) =>
      Try.grow52 n (edgeB es) l [x] M5 (wr.alloc (.cells #[.int .i64 x] 3)) wr.heap.size (w4.heap.size + 1 + 1) w4.heap.size (w4.heap.size + 1) (w4.heap.size + 1 + 1 + 1) long (.slice (some ⟨wr.heap.size, 0, none⟩) 1 1) hG ((hF.cons C5 hG.f).alloc _) (by simp) (fun y hy => by rw [List.mem_singleton.1 hy]; exact hx) h1 h2
        ⟨rfl, .inr ⟨wr.heap.size, 1, #[.int .i64 x], rfl, Nat.le_refl _, heap_alloc_new _ _, Nat.le_refl _, by unfold maxLen; omega, rfl, rfl⟩⟩
        (fun g hg o => by
          cases hg
          cases hm : M5 wr.heap.size o with
          | none => rfl
          | some u => have := mc_lt (hF.cons C5 hG.f _ _ _ hm); omega)
        (by obtain ⟨fv, hfv⟩ := hF.box; exact ⟨fv, by rw [heap_alloc_old _ _ (lt_of_block hfv)]; exact hfv⟩) (by simp)
    have HL : ∀ wr, FB w5 (w4.heap.size + 1 + 1) wr → wr.cell? ⟨w4.heap.size + 1, 0, none⟩ = some (.slice lv1 l.length lvc) ∧ wr.cell? ⟨w4.heap.size + 1 + 1 + 1, 0, none⟩ = some (.func (.func 52) #[] #[.pointer (some ⟨w4.heap.size + 1 + 1, 0, none⟩), .pointer (some ⟨w4.heap.size, 0, none⟩), .pointer (some ⟨w4.heap.size + 1, 0, none⟩), .pointer (some ⟨w4.heap.size + 1 + 1 + 1, 0, none⟩)]) ∧ Cons M5 wr :=
      fun wr hF => ⟨cell_of_one (t := 24) (by rw [hF.block _ (by omega) (by omega)]; exact a1'), cell_of_one (t := 55) (by rw [hF.block _ (by omega) (by omega)]; exact a3'), hF.cons C5 hG.f⟩
    have HN := (show Hid _ from hgw)
    have HH := (show Hid _ from HL)
    have HW := (show Hid (w5 = _) from ew5)
    clear c26 c48 c49 c51 hgw HL a0 a1' a2 a3' eM5 hnone
    go_wp2
    rw [← HW.out]
    clear ew5
    go_loopw [8] (fun i wr => ∃ long : Nat, 2 ≤ long ∧ long ≤ l.length + 2 ∧ i = .int .i64 long ∧ FB w5 (w4.heap.size + 1 + 1) wr ∧ ∀ k, 2 ≤ k → k < long → l.findSome? (fun t => growF (edgeB es) l (k - 1) [t]) = none)
      (fun i _ => l.length + 3 - (RowKit.intOf i).toNat)
    case atStart => exact ⟨2, Nat.le_refl _, by omega, rfl, F5, fun k h1 h2 => by omega⟩
    case round =>
      obtain ⟨long, hl2, hll, rfl, hF, hno⟩ := hrel
      obtain ⟨k1, k2, hCr⟩ := HH.out wr hF
      rcases Nat.lt_or_ge l.length long with hlt | hge
      · have n1 : ¬ (long : Int) ≤ (l.length : Int) := by omega
        go_wp2
        go_ret2
        have hc : cycFind (edgeB es) l = none := cycFind_none fun k h1 h2 => hno k h1 (by omega)
        rw [hc] at hr
        cases hr
        refine ⟨_, M5, rfl, ?_, Sub.trans s1 (Sub.trans s2 (Sub.trans s3 (Sub.trans s4 hsub))), hCr, fun b o hb => ?_, ?_, trivial⟩
        · have e1 := hB1.size; have e2 := hB2.size; have e3 := hB3.size; have e4 := hB4.size; have e5 := hF.size
          exact ((((hB1.trans (hB2.mono (by omega))).trans (hB3.mono (by omega))).trans (hB4.mono (by omega))).trans (B45.mono (by omega))).trans ⟨hF.os, hF.tape, hF.output, hF.size, fun k hk => hF.block k (by omega) (by omega)⟩
        · have e1 := hB1.size; have e2 := hB2.size; have e3 := hB3.size; have e4 := hB4.size
          rw [hold b o (by omega), o4 b o (by omega), o3 b o (by omega), o2 b o (by omega), o1 b o hb]
        · refine .tup (vs := [.slice none 0 0, .int .i64 5]) rfl (fun j c v hc hv => ?_)
          match j, hc, hv with
          | 0, hc, hv => cases hc; cases hv; exact .lstn _ _ _
          | 1, hc, hv => cases hc; cases hv; exact .int _ _
      · have n1 : (long : Int) ≤ (l.length : Int) := by omega
        have n2 : (0 : Int) ≤ (long : Int) := by omega
        go_wp2
        go_loopw [28] (fun i wr => ∃ k : Nat, k ≤ l.length ∧ i = .int .i64 k ∧ FB w5 (w4.heap.size + 1 + 1) wr ∧ ∀ j y, j < k → l[j]? = some y → growF (edgeB es) l (long - 1) [y] = none)
          (fun i _ => l.length - (RowKit.intOf i).toNat)
        case atStart => exact ⟨0, Nat.zero_le _, rfl, hF, fun j y hj => absurd hj (Nat.not_lt_zero _)⟩
        case round =>
          obtain ⟨k, hk, rfl, hF2, hno2⟩ := hrel
          obtain ⟨k1', k2', hCr2⟩ := HH.out _ hF2
          rcases Nat.lt_or_ge k l.length with hk1 | hk1
          · obtain ⟨b, off, rfl, hM⟩ := hlc k hk1
            have hcx := mc_cell (hCr2 _ _ _ (hsub _ _ _ hM)) rfl
            have j0 : (0 : Int) ≤ (k : Int) := Int.natCast_nonneg _
            have j1 : (k : Int) < (l.length : Int) := by omega
            have hcall := HN.out (long - 1) long l[k] _ (List.all_eq_true.1 hwf _ (List.getElem_mem hk1)) (by omega) (by omega) hF2
            have hlk : l[k]? = some l[k] := List.getElem?_eq_getElem hk1
            generalize l[k] = x at hcx hcall hlk
            go_wp2_with fail
            refine Calls.mono hcall ?_
            rintro e w7 ⟨rfl, hgp, hfd⟩
            have hF7 := hF2.gp rfl hgp
            cases hres : growF (edgeB es) l (long - 1) [x] with
            | none =>
              rw [hres] at hfd
              go_wp2
              go_roundw
              case rel =>
                refine ⟨k + 1, hk1, by go_num, hF7, fun j y hj hy => ?_⟩
                rcases Nat.lt_succ_iff_lt_or_eq.1 hj with hj | rfl
                · exact hno2 j y hj hy
                · rw [hlk] at hy; cases hy; exact hres
              case measure => simp [RowKit.intOf]; omega
            | some c =>
              obtain ⟨M', fv, g1, g2, g3, g4, g5⟩ := hfd c hres
              have hfc := cell_of_one g4
              go_wp2
              go_ret2
              have hc : cycFind (edgeB es) l = some c := cycFind_some hl2 hge hno (findSome_at hlk hno2 hres)
              rw [hc] at hr
              cases hr
              have e1 := hB1.size; have e2 := hB2.size; have e3 := hB3.size; have e4 := hB4.size; have e5 := hF2.size
              refine ⟨_, M', rfl, ?_, Sub.trans s1 (Sub.trans s2 (Sub.trans s3 (Sub.trans s4 (Sub.trans hsub g1)))), g2, fun b o hb => ?_, ?_, trivial⟩
              · exact ((((hB1.trans (hB2.mono (by omega))).trans (hB3.mono (by omega))).trans (hB4.mono (by omega))).trans (B45.mono (by omega))).trans ⟨hF7.os, hF7.tape, hF7.output, hF7.size, fun k hk => hF7.block k (by omega) (by omega)⟩
              · rw [g3 b o (by simp; omega), hold b o (by omega), o4 b o (by omega), o3 b o (by omega), o2 b o (by omega), o1 b o hb]
              · refine .tup (vs := [fv, .int .i64 0]) rfl (fun j c' v hc hv => ?_)
                match j, hc, hv with
                | 0, hc, hv => cases hc; cases hv; exact g5
                | 1, hc, hv => cases hc; cases hv; exact .int _ _
          · have hkl : k = l.length := by omega
            subst hkl
            go_wp2
            go_roundw
            case rel =>
              refine ⟨long + 1, by omega, by omega, by go_num, hF2, fun j h1 h2 => ?_⟩
              rcases Nat.lt_succ_iff_lt_or_eq.1 h2 with h2 | rfl
              · exact hno j h1 h2
              · exact findSome_no hno2
            case measure => simp [RowKit.intOf]; omega

end Go.Proofs
