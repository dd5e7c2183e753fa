/-
  slices.Replace at []int, of one element by two: the roads of the library's code (after the kit's texts on slices.Insert). No statement of the seat is proved here.
-/
import Derived.Shelf.Spec.SlicesInsert
import Derived.Shelf.Spec.SlicesInsertGrow
import Derived.Test.YtombfedoinhafaaProg
set_option linter.unusedVariables false
set_option linter.unusedSimpArgs false
namespace Go.Proofs
open Go.Shelf Go.RowKit Go.Lib

theorem Try.info3p : (Try.prog.info? 3).map (fun i => (i.zero, i.size, i.bytes)) = some (some (Value.int IntKind.i64 0), 1, 8) := by kernel_rfl
theorem Try.mixedp : Try.prog.follows .mixedOrders = true := by kernel_rfl

theorem wp_value_run {P : Program} {o : Oper} {a : Act} {w w' : World} {K : Act → World → Prop} {Q : Exit → Act → World → Prop} {v : Value} (h : (execOp a.eval o).run P w = .ok (.value v) w') (hK : K (a.put o.dst v) w') : o.wp P a w K Q := by
  unfold Oper.wp
  rw [h]
  exact hK

theorem wpList_value_run {P : Program} {ops : Array Oper} {rest : List Oper} {o : Oper} {a : Act} {w w' : World} {Q : Exit → Act → World → Prop} (hgd : o.guard = none) {v : Value} (h : (execOp a.eval o).run P w = .ok (.value v) w') (hK : wpList P ops Q rest (a.put o.dst v) w') : wpList P ops Q (o :: rest) a w :=
  wpList_plain hgd fun _ hK' => wp_value_run h (hK' _ _ hK)

theorem run_sliceB {P : Program} {w : World} (m : Int) (y : Nat) (c : BoundsCode) (h0 : 0 ≤ m) (h1 : m ≤ y) : (Instr.sliceBound (.int .i64 m) y c).run P w = .ok m.toNat w := by
  unfold Instr.sliceBound
  simp only [asIntOf, Sem.run_bind, Sem.run_pure, Result.andThen_ok, h0, h1, and_self, if_true]

/-- s[i:j] -/
theorem run_slice2 {w : World} (ad : Option Addr) (n c : Nat) (l m : Int) (h0 : 0 ≤ l) (h1 : l ≤ m) (h2 : m ≤ c) :
    (Instr.sliceAt 35 (.slice ad n c) (some (.int .i64 l)) (some (.int .i64 m)) none).run Try.prog w = .ok (.slice (if c = l.toNat then ad else ad.map (·.add (l.toNat * 1))) (m.toNat - l.toNat) (c - l.toNat)) w := by
  have hs : ∀ w, (Go.sizeOf 3).run Try.prog w = .ok 1 w := Try.sizeOf3
  unfold Instr.sliceAt Instr.slice Instr.sliceBounds
  simp only [Sem.run_bind, run_underlying Try.underlying35, Result.andThen_ok, hs, Sem.run_pure, Option.isSome_none, run_sliceB m c _ (by omega) h2, run_sliceB l m.toNat _ h0 (by omega)]

theorem exec_slice2 {w : World} {f : Operand → Value} {o : Oper} {x l m : Operand} (ho : o.op = .slice 35 x (some l) (some m) none) {ad : Option Addr} {n c : Nat} {p q : Int} (hx : f x = .slice ad n c) (hl : f l = .int .i64 p) (hm : f m = .int .i64 q) (h0 : 0 ≤ p) (h1 : p ≤ q) (h2 : q ≤ c) :
    (execOp f o).run Try.prog w = .ok (.value (.slice (if c = p.toNat then ad else ad.map (·.add (p.toNat * 1))) (q.toNat - p.toNat) (c - p.toNat))) w := by
  have he : execOp f o = (do pure (.value (← Instr.sliceAt 35 (f x) (some (f l)) (some (f m)) none))) := by unfold execOp; rw [ho]; rfl
  rw [he, hx, hl, hm, Sem.run_bind, run_slice2 ad n c p q h0 h1 h2]
  rfl

set_option maxHeartbeats 4000000 in
set_option maxRecDepth 100000 in
/-- the last element, and there is room -/
theorem Try.replace_end_room (b c i vb voff vc : Nat) (vs : List Value) (w : World) (hroom : i + 2 ≤ c) (hc63 : c ≤ 9223372036854775807)
    (hvl : vs.length = 2) (hsp : ∀ j, j < 2 → (w.cell? ⟨b, i + j, none⟩).isSome = true) (hfz : ∀ j, j < 2 → w.frozen? ⟨b, i + j, none⟩ = false)
    (hvs : ∀ j v, vs[j]? = some v → w.cell? ⟨vb, voff + j, none⟩ = some v) (h1v : ∀ v ∈ vs, v.oneCell' = true) :
    Calls Try.prog 69 #[.slice (some ⟨b, 0, none⟩) (i + 1) c, .int .i64 i, .int .i64 ((i : Int) + 1), .slice (some ⟨vb, voff, none⟩) 2 vc] w fun e w' =>
      e = .returned (.slice (some ⟨b, 0, none⟩) (i + 2) c) ∧ w' = w.setCells b i vs := by
  have t0 := Try.underlying0; have a0 := Try.isAgg0; have z0 := Try.sizeOf0; have v0 := Try.zeroValue0; have t3 := Try.underlying3; have a3 := Try.isAgg3; have z3 := Try.sizeOf3; have v3 := Try.zeroValue3; have t4 := Try.underlying4; have a4 := Try.isAgg4; have z4 := Try.sizeOf4; have v4 := Try.zeroValue4; have t35 := Try.underlying35; have a35 := Try.isAgg35; have z35 := Try.sizeOf35; have v35 := Try.zeroValue35
  have u0 := run_underlying Try.underlying0; have u3 := run_underlying Try.underlying3; have u4 := run_underlying Try.underlying4; have u35 := run_underlying Try.underlying35
  have mixed := Try.mixedp
  have hz1 : ¬ ((i : Int) = (i : Int) + 1) := by omega
  have hb1 : (0 : Int) ≤ (i : Int) + 1 := by omega
  have htn : ((i : Int) + 1).toNat = i + 1 := by omega
  have hic : i ≤ c := by omega
  have hic1 : i + 1 ≤ c := by omega
  have hz3 : ¬ (((i + 2 : Nat) : Int) < ((i + 1 : Nat) : Int)) := by omega
  have hsrc : Src Try.prog 1 35 (.slice (some ⟨vb, voff, none⟩) 2 vc) 2 vs w := Src.ofSlice w Try.underlying35 ⟨vb, voff, none⟩ 2 vc vs (by omega) (fun j u hj => by rw [Addr.add_lit]; exact hvs j u hj) h1v
  go_enter Try.func69, Try.ntmps69
  go_wp2_with (first
    | (refine wpList_value_run rfl (exec_slice2 (ad := some ⟨b, 0, none⟩) (n := i + 1) (c := c) (p := i) (q := (i : Int) + 1) rfl (by simp [Act.eval, Act.put]) (by simp [Act.eval, Act.put]) (by simp [Act.eval, Act.put]) (by omega) (by omega) (by omega)) ?_)
    | (at_builtin; refine wpList_append_room1 _ rfl _ _ 35 35 rfl 3 _ _ Try.underlying35 Try.info3p b 0 i c rfl _ rfl 2 vs hsrc hroom (by rw [hvl, Nat.zero_add]; exact hsp) (by rw [hvl, Nat.zero_add]; exact hfz) ?_))
  go_ret
  exact ⟨rfl, rfl⟩

set_option maxHeartbeats 4000000 in
set_option maxRecDepth 100000 in
/-- the last element, and there is no room -/
theorem Try.replace_end_grow (b c i vb voff vc : Nat) (cs vs : List Value) (w : World) (hic1 : i + 1 ≤ c) (hroom : c < i + 2) (hbig : (i + 2) * 8 ≤ 140737488355328)
    (hcl : cs.length = i + 1) (hvl : vs.length = 2) (hcs : ∀ j v, cs[j]? = some v → w.cell? ⟨b, j, none⟩ = some v)
    (hvs : ∀ j v, vs[j]? = some v → w.cell? ⟨vb, voff + j, none⟩ = some v) (h1v : ∀ v ∈ vs, v.oneCell' = true) :
    Calls Try.prog 69 #[.slice (some ⟨b, 0, none⟩) (i + 1) c, .int .i64 i, .int .i64 ((i : Int) + 1), .slice (some ⟨vb, voff, none⟩) 2 vc] w fun e w' =>
      e = .returned (.slice (some ⟨w.heap.size, 0, none⟩) (i + 2) (grownCap w (i + 2) c 3)) ∧
      w' = w.drew.alloc (.cells ((cs.take i ++ vs).toArray ++ Builtin.zeroCells (Value.int .i64 0).cells (grownCap w (i + 2) c 3 - (i + 2))) 3) := by
  have t0 := Try.underlying0; have a0 := Try.isAgg0; have z0 := Try.sizeOf0; have v0 := Try.zeroValue0; have t3 := Try.underlying3; have a3 := Try.isAgg3; have z3 := Try.sizeOf3; have v3 := Try.zeroValue3; have t4 := Try.underlying4; have a4 := Try.isAgg4; have z4 := Try.sizeOf4; have v4 := Try.zeroValue4; have t35 := Try.underlying35; have a35 := Try.isAgg35; have z35 := Try.sizeOf35; have v35 := Try.zeroValue35
  have u0 := run_underlying Try.underlying0; have u3 := run_underlying Try.underlying3; have u4 := run_underlying Try.underlying4; have u35 := run_underlying Try.underlying35
  have mixed := Try.mixedp
  have hz1 : ¬ ((i : Int) = (i : Int) + 1) := by omega
  have hb1 : (0 : Int) ≤ (i : Int) + 1 := by omega
  have htn : ((i : Int) + 1).toNat = i + 1 := by omega
  have hic : i ≤ c := by omega
  obtain ⟨i0, hi0, hz0, hzs, hzb⟩ := info_parts Try.info3p
  have hsrc : Src Try.prog i0.size 35 (.slice (some ⟨vb, voff, none⟩) 2 vc) 2 vs w := by
    rw [hzs]
    exact Src.ofSlice w Try.underlying35 ⟨vb, voff, none⟩ 2 vc vs (by omega) (fun j u hj => by rw [Addr.add_lit]; exact hvs j u hj) h1v
  have hold : (Builtin.firstCells i0.size i (.slice (some ⟨b, 0, none⟩) i c)).run Try.prog w.drew = .ok (cs.take i).toArray w.drew := by
    rw [hzs]
    exact run_firstCells_some w.drew 1 i ⟨b, 0, none⟩ i c (cs.take i) (by rw [List.length_take]; omega) (fun j v hj => by
      rw [Addr.add_lit, Nat.zero_add]
      rw [List.getElem?_take] at hj
      split at hj
      · exact hcs j v hj
      · cases hj)
  have hrun : ∀ ty, (Builtin.append_ #[35, 35] ty #[.slice (some ⟨b, 0, none⟩) i c, .slice (some ⟨vb, voff, none⟩) 2 vc]).run Try.prog w = _ := fun ty =>
    run_append_grow_src w 35 35 ty 3 i0 _ Try.underlying35 hi0 hz0 (some ⟨b, 0, none⟩) i c (cs.take i) hold _ 2 vs hsrc hroom (by omega) (by rw [hzb]; exact growslice_fits hroom hbig)
  clear hold
  go_enter Try.func69, Try.ntmps69
  go_wp2_with (first
    | (refine wpList_value_run rfl (exec_slice2 (ad := some ⟨b, 0, none⟩) (n := i + 1) (c := c) (p := i) (q := (i : Int) + 1) rfl (by simp [Act.eval, Act.put]) (by simp [Act.eval, Act.put]) (by simp [Act.eval, Act.put]) (by omega) (by omega) (by omega)) ?_)
    | (at_builtin; refine Lib.wpList_append_run _ rfl _ _ _ _ rfl _ _ rfl rfl _ _ (hrun _) ?_))
  all_goals (go_ret; exact ⟨rfl, rfl⟩)

set_option maxHeartbeats 4000000 in
set_option maxRecDepth 100000 in
/-- an inner element, and there is room: what stands behind is moved by one -/
theorem Try.replace_shift (b n c i vb voff vc : Nat) (cs vs : List Value) (w : World) (hi : i + 1 < n) (hroom : n + 1 ≤ c) (hc63 : c ≤ 9223372036854775807) (hvb : b ≠ vb)
    (hcl : cs.length = n) (hvl : vs.length = 2)
    (hcs : ∀ j v, cs[j]? = some v → w.cell? ⟨b, j, none⟩ = some v) (hsp : ∀ j, j < n + 1 → (w.cell? ⟨b, j, none⟩).isSome = true) (hfz : ∀ j, w.frozen? ⟨b, j, none⟩ = false)
    (hvs : ∀ j v, vs[j]? = some v → w.cell? ⟨vb, voff + j, none⟩ = some v) (h1c : ∀ v ∈ cs, v.oneCell' = true) (h1v : ∀ v ∈ vs, v.oneCell' = true)
    (tA tB : TypeId) (kA kB : Nat) (hsa : w.shape? b = some (tA, kA)) (hsb : w.shape? vb = some (tB, kB)) (hkB : kB ≠ 0) :
    Calls Try.prog 69 #[.slice (some ⟨b, 0, none⟩) n c, .int .i64 i, .int .i64 ((i : Int) + 1), .slice (some ⟨vb, voff, none⟩) 2 vc] w fun e w' =>
      e = .returned (.slice (some ⟨b, 0, none⟩) (n + 1) c) ∧ w' = (w.drew.drew.setCells b (i + 2) (cs.drop (i + 1))).setCells b i vs := by
  have t0 := Try.underlying0; have a0 := Try.isAgg0; have z0 := Try.sizeOf0; have v0 := Try.zeroValue0; have t3 := Try.underlying3; have a3 := Try.isAgg3; have z3 := Try.sizeOf3; have v3 := Try.zeroValue3; have t4 := Try.underlying4; have a4 := Try.isAgg4; have z4 := Try.sizeOf4; have v4 := Try.zeroValue4; have t35 := Try.underlying35; have a35 := Try.isAgg35; have z35 := Try.sizeOf35; have v35 := Try.zeroValue35
  have u0 := run_underlying Try.underlying0; have u3 := run_underlying Try.underlying3; have u4 := run_underlying Try.underlying4; have u35 := run_underlying Try.underlying35
  have mixed := Try.mixedp
  have hz1 : ¬ ((i : Int) = (i : Int) + 1) := by omega
  have hb1 : (0 : Int) ≤ (i : Int) + 1 := by omega
  have htn : ((i : Int) + 1).toNat = i + 1 := by omega
  have hsz : (Try.prog.info? 3).map (·.size) = some 1 := by
    obtain ⟨i0, hi0, h0, h1, h2⟩ := info_parts Try.info3p
    rw [hi0]; simp [h1]
  have hov : ∀ (W : World), (∀ x, W.shape? x = w.shape? x) → (∀ x, W.frozen? x = w.frozen? x) → ∀ lb cb la ca, (callFunc 83 #[.slice (some ⟨b, i + 2, none⟩) la ca, .slice (some ⟨vb, voff, none⟩) lb cb]).run Try.prog W = .ok (.value (.bool false)) W := fun W hWs hWf lb cb la ca => by
    rw [run_callFunc_extern Try.func83 (by kernel_rfl) (by kernel_rfl) (by kernel_rfl) (e := Extern.SlicesOverlaps.overlaps #[35, 35] #[4]) (by kernel_rfl),
      Lib.run_overlaps_apart W 35 4 3 Try.underlying35 1 Try.sizeOf3 ⟨b, i + 2, none⟩ ⟨vb, voff, none⟩ la ca lb cb hvb tA tB kA kB (by rw [hWs]; exact hsa) (by rw [hWs]; exact hsb) hkB (by rw [hWf]; exact hfz _) (by rw [hWf]; exact hfz _)]
    rfl
  have hdl : (cs.drop (i + 1)).length = n - (i + 1) := by rw [List.length_drop, hcl]
  have hcp1 : ∀ (W : World), (∀ x, W.cell? x = w.cell? x) → (∀ x, W.frozen? x = w.frozen? x) → ∀ ty dc sc, (Builtin.copy_ #[35, 35] ty #[.slice (some ⟨b, i + 2, none⟩) (n - (i + 1)) dc, .slice (some ⟨b, i + 1, none⟩) (n - (i + 1)) sc]).run Try.prog W = .ok (goInt (cs.drop (i + 1)).length) (W.setCells b (i + 2) (cs.drop (i + 1))) := fun W hWc hWf ty dc sc =>
    run_copy_cells W _ _ ty 3 b (i + 2) (n - (i + 1)) dc ⟨b, i + 1, none⟩ (n - (i + 1)) sc (cs.drop (i + 1)) Try.underlying35 hsz (by rw [hdl]; simp only [Nat.min_def]; split <;> omega)
      (fun j v hj => by rw [Addr.add_lit, hWc]; exact hcs (i + 1 + j) v (by rwa [List.getElem?_drop] at hj))
      (fun j hj => by rw [hWc]; exact hsp _ (by omega)) (fun j hj => by rw [hWf]; exact hfz _) (fun v hv => h1c v (List.mem_of_mem_drop hv))
  obtain ⟨W1, hW1⟩ : ∃ W1, W1 = w.drew.drew.setCells b (i + 2) (cs.drop (i + 1)) := ⟨_, rfl⟩
  have hcp2 : ∀ (W : World), (∀ x, W.cell? x = W1.cell? x) → (∀ x, W.frozen? x = W1.frozen? x) → ∀ ty dc, (Builtin.copy_ #[35, 35] ty #[.slice (some ⟨b, i, none⟩) (n + 1 - i) dc, .slice (some ⟨vb, voff, none⟩) 2 vc]).run Try.prog W = .ok (goInt vs.length) (W.setCells b i vs) := fun W hWc hWf ty dc =>
    run_copy_cells W _ _ ty 3 b i (n + 1 - i) dc ⟨vb, voff, none⟩ 2 vc vs Try.underlying35 hsz (by rw [hvl]; simp only [Nat.min_def]; split <;> omega)
      (fun j v hj => by
        rw [Addr.add_lit, hWc, hW1, World.cell?_setCells_out b _ _ _ _ (fun h _ => absurd h.symm hvb)]
        exact hvs j v hj)
      (fun j hj => by rw [hWc, hW1]; exact isSome_setCells b (cs.drop (i + 1)) (i + 2) w.drew.drew (fun t ht => hsp (i + 2 + t) (by omega)) _ (hsp (i + j) (by omega))) (fun j hj => by rw [hWf, hW1, World.frozen?_setCells]; exact hfz _) h1v
  have hcp1' : ∀ ty dc sc, (Builtin.copy_ #[35, 35] ty #[.slice (some ⟨b, i + 2, none⟩) (n - (i + 1)) dc, .slice (some ⟨b, i + 1, none⟩) (n - (i + 1)) sc]).run Try.prog w.drew.drew = .ok (goInt (cs.drop (i + 1)).length) W1 := fun ty dc sc => by rw [hW1]; exact hcp1 w.drew.drew (fun _ => rfl) (fun _ => rfl) ty dc sc
  have hov1 : ∀ lb cb la ca, (callFunc 83 #[.slice (some ⟨b, i + 2, none⟩) la ca, .slice (some ⟨vb, voff, none⟩) lb cb]).run Try.prog w.drew = .ok (.value (.bool false)) w.drew := hov w.drew (fun _ => rfl) (fun _ => rfl)
  have hw1 : IntKind.i64.wrap ((i : Int) + 2) = (i : Int) + 2 := by rw [IntKind.wrap_i64]; omega
  have hin : i ≤ c := by omega
  have hin1 : i + 1 ≤ n := by omega
  have hni : ¬ ((i : Int) + 1 = (n : Int)) := by omega
  have htot : (i : Int) + 2 + ((n - (i + 1) : Nat) : Int) = (n : Int) + 1 := by omega
  have hcn : ¬ ((c : Int) < (n : Int) + 1) := by omega
  have hcn1 : (n : Int) + 1 ≤ (c : Int) := by omega
  have hti : ((n : Int) + 1).toNat = n + 1 := by omega
  have hil : ¬ ((i : Int) + 2 ≤ (i : Int) + 1) := by omega
  have hi2 : (0 : Int) ≤ (i : Int) + 2 := by omega
  have hti2 : ((i : Int) + 2).toNat = i + 2 := by omega
  go_enter Try.func69, Try.ntmps69
  go_wp2_with (refine wpList_value_run rfl (exec_slice2 (ad := some ⟨b, 0, none⟩) (n := n) (c := c) (p := i) (q := (i : Int) + 1) rfl (by simp [Act.eval, Act.put]) (by simp [Act.eval, Act.put]) (by simp [Act.eval, Act.put]) (by omega) (by omega) (by omega)) ?_)
  go_region_o
  try simp only [htot]
  have hb2 : ¬ (c = i + 2) := by omega
  have hb3 : (i : Int) + 2 ≤ (n : Int) + 1 := by omega
  have hb4 : ¬ (c = i + 1) := by omega
  have hb5 : (i : Int) + 1 ≤ (n : Int) := by omega
  have hb6 : ¬ (c = i) := by omega
  have hb7 : (i : Int) ≤ (n : Int) + 1 := by omega
  go_wp2_with (simp only [hov1])
  go_region_law_o (refine step_copy_runI rfl _ _ 35 35 rfl _ _ (by simp [Act.eval, Act.put]) (by simp [Act.eval, Act.put]) (hcp1' _ _ _) ?_)
  go_wp2_with (at_builtin; refine wpList_copy_runI _ rfl _ _ 35 35 rfl _ _ rfl rfl (hcp2 _ (fun _ => rfl) (fun _ => rfl) _ _) ?_)
  go_ret
  first | exact ⟨rfl, rfl⟩ | exact ⟨rfl, by rw [hW1]⟩

set_option maxHeartbeats 4000000 in
set_option maxRecDepth 100000 in
/-- an inner element, and there is no room: a new row -/
theorem Try.replace_grow (b n c i vb voff vc : Nat) (cs vs : List Value) (w : World) (hi : i + 1 < n) (hnc : n ≤ c) (hroom : c < n + 1) (hbig : (n + 1) * 8 ≤ 140737488355328)
    (hcl : cs.length = n) (hvl : vs.length = 2)
    (hcs : ∀ j v, cs[j]? = some v → w.cell? ⟨b, j, none⟩ = some v)
    (hvs : ∀ j v, vs[j]? = some v → w.cell? ⟨vb, voff + j, none⟩ = some v) (h1c : ∀ v ∈ cs, v.oneCell' = true) (h1v : ∀ v ∈ vs, v.oneCell' = true) :
    Calls Try.prog 69 #[.slice (some ⟨b, 0, none⟩) n c, .int .i64 i, .int .i64 ((i : Int) + 1), .slice (some ⟨vb, voff, none⟩) 2 vc] w fun e w' =>
      e = .returned (.slice (some ⟨w.heap.size, 0, none⟩) (n + 1) (grownCap w.drew (n + 1) c 3)) ∧
      w' = (((w.drew.alloc (.cells ((cs.take i).toArray ++ Builtin.zeroCells (Value.int .i64 0).cells (n + 1 - i) ++ Builtin.zeroCells (Value.int .i64 0).cells (grownCap w.drew (n + 1) c 3 - (n + 1))) 3)).drew.setCells w.heap.size i vs).drew).setCells w.heap.size (i + 2) (cs.drop (i + 1)) := by
  have t0 := Try.underlying0; have a0 := Try.isAgg0; have z0 := Try.sizeOf0; have v0 := Try.zeroValue0; have t3 := Try.underlying3; have a3 := Try.isAgg3; have z3 := Try.sizeOf3; have v3 := Try.zeroValue3; have t4 := Try.underlying4; have a4 := Try.isAgg4; have z4 := Try.sizeOf4; have v4 := Try.zeroValue4; have t35 := Try.underlying35; have a35 := Try.isAgg35; have z35 := Try.sizeOf35; have v35 := Try.zeroValue35
  have u0 := run_underlying Try.underlying0; have u3 := run_underlying Try.underlying3; have u4 := run_underlying Try.underlying4; have u35 := run_underlying Try.underlying35
  have mixed := Try.mixedp
  have hz1 : ¬ ((i : Int) = (i : Int) + 1) := by omega
  have hb1 : (0 : Int) ≤ (i : Int) + 1 := by omega
  have htn : ((i : Int) + 1).toNat = i + 1 := by omega
  obtain ⟨i0, hi0, hz0, hzs, hzb⟩ := info_parts Try.info3p
  have hsz : (Try.prog.info? 3).map (·.size) = some 1 := by rw [hi0]; simp [hzs]
  have hbw : b < w.heap.size := block_lt_of_cell (hcs 0 _ (List.getElem?_eq_getElem (by omega)))
  have hvw : vb < w.heap.size := block_lt_of_cell (hvs 0 _ (List.getElem?_eq_getElem (by omega)))
  have hkk : (n : Int) + 1 - (i : Int) = ((n + 1 - i : Nat) : Int) := by omega
  have hik : i + (n + 1 - i) = n + 1 := by omega
  obtain ⟨W0, hW0⟩ : ∃ W0, W0 = w.drew := ⟨_, rfl⟩
  have hcs0 : ∀ j v, cs[j]? = some v → W0.cell? ⟨b, j, none⟩ = some v := fun j v h => by rw [hW0]; exact hcs j v h
  have hvs0 : ∀ j v, vs[j]? = some v → W0.cell? ⟨vb, voff + j, none⟩ = some v := fun j v h => by rw [hW0]; exact hvs j v h
  have hN0 : W0.heap.size = w.heap.size := by rw [hW0]; rfl
  have hold : (Builtin.firstCells i0.size i (.slice (some ⟨b, 0, none⟩) i c)).run Try.prog W0.drew = .ok (cs.take i).toArray W0.drew := by
    rw [hzs]
    exact run_firstCells_some W0.drew 1 i ⟨b, 0, none⟩ i c (cs.take i) (by rw [List.length_take]; omega) (fun j v hj => by
      rw [Addr.add_lit, Nat.zero_add]
      rw [List.getElem?_take] at hj
      split at hj
      · exact hcs0 j v hj
      · cases hj)
  have hrz : ∀ ty, (Builtin.append_ #[35, 3] ty #[.slice (some ⟨b, 0, none⟩) i c, .int .i64 ((n : Int) + 1 - (i : Int))]).run Try.prog W0 =
      .ok (.slice (some ⟨w.heap.size, 0, none⟩) (n + 1) (grownCap W0 (n + 1) c 3)) (W0.drew.alloc (.cells ((cs.take i).toArray ++ Builtin.zeroCells (Value.int .i64 0).cells (n + 1 - i) ++ Builtin.zeroCells (Value.int .i64 0).cells (grownCap W0 (n + 1) c 3 - (n + 1))) 3)) := fun ty => by
    have h := Lib.run_append_grow_zeros W0 35 3 ty 3 i0 _ .i64 .i64 Try.underlying35 Try.underlying3 hi0 hz0 (some ⟨b, 0, none⟩) i c (cs.take i) hold (n + 1 - i) (by omega) (by omega) (by omega) (by omega) (by rw [hzb]; omega) (by rw [hzb, hik]; exact growslice_fits hroom hbig)
    rw [hik] at h
    rw [hkk, ← hN0]
    exact h
  obtain ⟨G, hG⟩ : ∃ G, G = grownCap W0 (n + 1) c 3 := ⟨_, rfl⟩
  obtain ⟨ROW, hROW⟩ : ∃ ROW : Array Value, ROW = (cs.take i).toArray ++ Builtin.zeroCells (Value.int .i64 0).cells (n + 1 - i) ++ Builtin.zeroCells (Value.int .i64 0).cells (G - (n + 1)) := ⟨_, rfl⟩
  rw [← hW0]
  rw [← hG] at hrz ⊢
  rw [← hROW] at hrz ⊢
  have hRl : n + 1 ≤ ROW.size := by
    rw [hROW]
    simp [Builtin.zeroCells, Value.cells]
    omega
  obtain ⟨W1, hW1⟩ : ∃ W1, W1 = W0.drew.alloc (.cells ROW 3) := ⟨_, rfl⟩
  rw [← hW1] at hrz
  have hN : ∀ j, j < n + 1 → (W1.cell? ⟨w.heap.size, j, none⟩).isSome = true := fun j hj => by
    rw [hW1, World.cell?_alloc_at (w := W0.drew) ROW _ w.heap.size j hN0.symm, Array.getElem?_eq_getElem (by omega)]; rfl
  have hNf : ∀ j, W1.frozen? ⟨w.heap.size, j, none⟩ = false := fun j => by rw [hW1]; exact World.frozen?_alloc_at (w := W0.drew) ROW _ w.heap.size j hN0.symm
  have hOb : ∀ j v, W0.cell? ⟨b, j, none⟩ = some v → W1.cell? ⟨b, j, none⟩ = some v := fun j v h => by rw [hW1, World.cell?_alloc_past (w := W0.drew) _ b j (by show b < W0.heap.size; omega)]; exact h
  have hOv : ∀ j v, W0.cell? ⟨vb, j, none⟩ = some v → W1.cell? ⟨vb, j, none⟩ = some v := fun j v h => by rw [hW1, World.cell?_alloc_past (w := W0.drew) _ vb j (by show vb < W0.heap.size; omega)]; exact h
  have hcpA : ∀ (W : World), (∀ x, W.cell? x = W1.cell? x) → (∀ x, W.frozen? x = W1.frozen? x) → ∀ ty dc, (Builtin.copy_ #[35, 35] ty #[.slice (some ⟨w.heap.size, i, none⟩) (n + 1 - i) dc, .slice (some ⟨vb, voff, none⟩) 2 vc]).run Try.prog W = .ok (goInt vs.length) (W.setCells w.heap.size i vs) := fun W hWc hWf ty dc =>
    run_copy_cells W _ _ ty 3 w.heap.size i (n + 1 - i) dc ⟨vb, voff, none⟩ 2 vc vs Try.underlying35 hsz (by rw [hvl]; simp only [Nat.min_def]; split <;> omega)
      (fun j v hj => by rw [Addr.add_lit, hWc]; exact hOv _ v (hvs0 j v hj))
      (fun j hj => by rw [hWc]; exact hN (i + j) (by omega)) (fun j hj => by rw [hWf]; exact hNf _) h1v
  have hGn : n + 1 ≤ G := by rw [hG]; exact grownCap_ge W0 _ _ _
  have hG63 : G ≤ 9223372036854775807 := by
    have := grownCap_le_maxLen W0 (n + 1) c 3 (by unfold maxLen; omega)
    rw [← hG] at this
    unfold maxLen at this
    omega
  have hGi : ¬ (G = i) := by omega
  have hGim : ¬ (G = i + 2) := by omega
  have hci : ¬ (c = i) := by omega
  have hci1 : ¬ (c = i + 1) := by omega
  have hbN : b ≠ w.heap.size := by omega
  have hdl : (cs.drop (i + 1)).length = n - (i + 1) := by rw [List.length_drop, hcl]
  have hcpB : ∀ (W : World), (∀ x, W.cell? x = (W1.setCells w.heap.size i vs).cell? x) → (∀ x, W.frozen? x = (W1.setCells w.heap.size i vs).frozen? x) → ∀ ty dc sc, (Builtin.copy_ #[35, 35] ty #[.slice (some ⟨w.heap.size, i + 2, none⟩) (n - (i + 1)) dc, .slice (some ⟨b, i + 1, none⟩) (n - (i + 1)) sc]).run Try.prog W = .ok (goInt (cs.drop (i + 1)).length) (W.setCells w.heap.size (i + 2) (cs.drop (i + 1))) := fun W hWc hWf ty dc sc =>
    run_copy_cells W _ _ ty 3 w.heap.size (i + 2) (n - (i + 1)) dc ⟨b, i + 1, none⟩ (n - (i + 1)) sc (cs.drop (i + 1)) Try.underlying35 hsz (by rw [hdl]; simp only [Nat.min_def]; split <;> omega)
      (fun j v hj => by
        rw [Addr.add_lit, hWc, World.cell?_setCells_out _ _ _ _ _ (fun h _ => absurd h hbN)]
        exact hOb _ v (hcs0 (i + 1 + j) v (by rwa [List.getElem?_drop] at hj)))
      (fun j hj => by rw [hWc]; exact isSome_setCells w.heap.size vs i W1 (fun t ht => hN (i + t) (by omega)) _ (hN (i + 2 + j) (by omega)))
      (fun j hj => by rw [hWf, World.frozen?_setCells]; exact hNf _) (fun v hv => h1c v (List.mem_of_mem_drop hv))
  subst hW1
  have hE1 : ∀ x, ((W0.alloc (.cells ROW 3)).drew).cell? x = (W0.drew.alloc (.cells ROW 3)).cell? x := fun x => rfl
  have hE2 : ∀ x, ((W0.alloc (.cells ROW 3)).drew).frozen? x = (W0.drew.alloc (.cells ROW 3)).frozen? x := fun x => rfl
  have hF1 : ∀ x, (((W0.alloc (.cells ROW 3)).drew.setCells w.heap.size i vs).drew).cell? x = ((W0.drew.alloc (.cells ROW 3)).setCells w.heap.size i vs).cell? x := fun x => rfl
  have hF2 : ∀ x, (((W0.alloc (.cells ROW 3)).drew.setCells w.heap.size i vs).drew).frozen? x = ((W0.drew.alloc (.cells ROW 3)).setCells w.heap.size i vs).frozen? x := fun x => rfl
  have hw1 : IntKind.i64.wrap ((i : Int) + 2) = (i : Int) + 2 := by rw [IntKind.wrap_i64]; omega
  have hw2 : IntKind.i64.wrap ((n : Int) + 1 - (i : Int)) = (n : Int) + 1 - (i : Int) := by rw [IntKind.wrap_i64]; omega
  have hin : i ≤ c := by omega
  have hin1 : i + 1 ≤ n := by omega
  have hni : ¬ ((i : Int) + 1 = (n : Int)) := by omega
  have htot : (i : Int) + 2 + ((n - (i + 1) : Nat) : Int) = (n : Int) + 1 := by omega
  have hcn : (c : Int) < (n : Int) + 1 := by omega
  have hi2 : (0 : Int) ≤ (i : Int) + 2 := by omega
  have hti2 : ((i : Int) + 2).toNat = i + 2 := by omega
  have hb3 : (i : Int) + 2 ≤ (n : Int) + 1 := by omega
  have hb5 : (i : Int) + 1 ≤ (n : Int) := by omega
  have hb7 : (i : Int) ≤ (n : Int) + 1 := by omega
  clear hkk hik hold hROW hG hRl
  go_enter Try.func69, Try.ntmps69
  go_wp2_with (refine wpList_value_run rfl (exec_slice2 (ad := some ⟨b, 0, none⟩) (n := n) (c := c) (p := i) (q := (i : Int) + 1) rfl (by simp [Act.eval, Act.put]) (by simp [Act.eval, Act.put]) (by simp [Act.eval, Act.put]) (by omega) (by omega) (by omega)) ?_)
  go_region_o
  try simp only [htot]
  rw [← hW0]
  clear hW0
  go_wp2_with (first
    | (at_builtin; refine Lib.wpList_append_run _ rfl _ _ _ _ rfl _ _ rfl rfl _ _ (hrz _) ?_)
    | (at_builtin; refine wpList_copy_runI _ rfl _ _ 35 35 rfl _ _ rfl rfl (hcpA _ hE1 hE2 _ _) ?_))
  go_region_law_o (refine step_copy_runI rfl _ _ 35 35 rfl (.slice (some ⟨w.heap.size, i + 2, none⟩) (n - (i + 1)) (G - (i + 2))) (.slice (some ⟨b, i + 1, none⟩) (n - (i + 1)) (c - (i + 1))) (by simp [Act.eval, Act.put]) (by simp [Act.eval, Act.put]) (hcpB _ hF1 hF2 3 (G - (i + 2)) (c - (i + 1))) ?_)
  go_wp2
  go_ret
  exact ⟨rfl, rfl⟩

end Go.Proofs
