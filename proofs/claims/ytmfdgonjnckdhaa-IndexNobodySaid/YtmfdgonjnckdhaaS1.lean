/- PRINTED by gen.py: pure functions and the proofs that the code computes them. No statement of the seat is proved here. -/
import Derived.Test.YtmfdgonjnckdhaaST
set_option maxRecDepth 100000
set_option linter.unusedVariables false
set_option linter.unusedSimpArgs false
namespace Go.AM
open Go.Proofs
def lw4_few (a1 : ByteArray) : Option ByteArray :=
  ((ssub a1 0 (if 300 < (a1.size : Int) then 300 else (a1.size : Int))).bind fun e4 => (some e4))
theorem run_lw4_few (a1 : ByteArray) (r : ByteArray) (h : lw4_few a1 = some r) : Run Try.prog (.call 14 [.str a1] (.str r)) := by
  refine call_of_W Try.func14 rfl (by kernel_rfl) (env0 := [(0, .str a1)]) (by kernel_rfl) ?_
  unfold lw4_few at h
  refine W.seq ?_
  refine W.regT [0] [] [] [] (e2 := [(0, .str a1)]) (by kernel_rfl) (by kernel_rfl) (fun _ h => h) ?_
  refine W.seq ?_
  refine W.region (by kernel_rfl) ?_
  obtain ⟨e4, he4, h⟩ := bind_some h
  refine WO.pureK 4 (if (0 : Int) ≤ 0 ∧ 0 ≤ (if 300 < (a1.size : Int) then 300 else (a1.size : Int)) ∧ (if 300 < (a1.size : Int) then 300 else (a1.size : Int)) ≤ (a1.size : Int) then some (AV.str (a1.extract (Int.toNat 0) (Int.toNat (if 300 < (a1.size : Int) then 300 else (a1.size : Int))))) else none) (v := .str e4) (by kernel_rfl) (ssub_av he4) (e1 := [(0, .str a1), (3, .str a1), (4, .str a1), (5, I6 (a1.size : Int)), (6, I6 (if 300 < (a1.size : Int) then 300 else (a1.size : Int))), (7, .str e4)]) (by kernel_rfl) ?_
  refine WO.fin [2] [] [] [] (e2 := [(2, .str e4)]) (by kernel_rfl) (fun _ h => h) ?_
  refine W.weak [2] [] [] [] (env' := [(2, .str e4)]) (by kernel_rfl) ?_
  have hr : aresults Try.prog Try.f14 [(2, .str e4)] = some (.str e4) := by kernel_rfl
  cases h
  exact W.ret hr
def sl_IndexFunc_byte_j4 : Option Int :=
  (some (-1))
def sl_IndexFunc_byte_l1 (g2 : (Int → Option Bool)) (K4 : (Option Int)) : List Int → Nat → Option Int
  | [], k1 => K4
  | x1 :: r1, k1 => ((g2 x1).bind fun w9 => (bif w9 then (some (k1 : Int)) else (sl_IndexFunc_byte_l1 g2 K4 r1 (k1 + 1))))
def sl_IndexFunc_byte (a1 : (List Int)) (g2 : (Int → Option Bool)) : Option Int :=
  (chk (lenOk a1) (sl_IndexFunc_byte_l1 g2 (sl_IndexFunc_byte_j4) a1 0))
theorem run_sl_IndexFunc_byte (a1 : (List Int)) (g2 : (Int → Option Bool)) (F_g2 : Nat) (C_g2 : List AV) (hok_g2 : okFn Try.prog F_g2 = true) (hrun_g2 : ∀ (x0 : Int) r, g2 x0 = some r → Run Try.prog (.call F_g2 ([.int .u8 x0] ++ C_g2) (.bool r))) (r : Int) (h : sl_IndexFunc_byte a1 g2 = some r) : Run Try.prog (.call 86 [l5 none a1, .clo F_g2 C_g2] (I6 r)) := by
  refine call_of_W Try.func86 rfl (by kernel_rfl) (env0 := [(0, l5 none a1), (1, .clo F_g2 C_g2)]) (by kernel_rfl) ?_
  unfold sl_IndexFunc_byte at h
  refine W.seq ?_
  refine W.regT [0, 1] [] [] [] (e2 := [(0, l5 none a1), (1, .clo F_g2 C_g2)]) (by kernel_rfl) (by kernel_rfl) (fun _ h => h) ?_
  refine W.seq ?_
  refine W.join (σ := Unit) (fun s => []) (fun s => (sl_IndexFunc_byte_j4) = some r) (fun s h => ?_) (fun hK4 => ?_)
  · have h : (sl_IndexFunc_byte_j4) = some r := h
    unfold sl_IndexFunc_byte_j4 at h
    refine W.seq ?_
    refine W.regT [4] [] [] [] (e2 := [(4, I6 (-1))]) (by kernel_rfl) (by kernel_rfl) (fun _ h => h) ?_
    refine W.weak [4] [] [] [] (env' := [(4, I6 (-1))]) (by kernel_rfl) ?_
    have hr : aresults Try.prog Try.f86 [(4, I6 (-1))] = some (I6 (-1)) := by kernel_rfl
    cases h
    exact W.ret hr
  refine W.seq ?_
  refine W.region (by kernel_rfl) ?_
  refine WO.pureK 1 (some (I6 ((List.map (AV.int .u8) a1).length : Int))) (v := I6 (a1.length : Int)) (by kernel_rfl) (by rw [List.length_map]) (e1 := [(0, l5 none a1), (1, .clo F_g2 C_g2), (6, l5 none a1), (7, I6 (a1.length : Int))]) (by kernel_rfl) ?_
  refine WO.fin [0, 1, 7, 8] [] [] [] (e2 := [(0, l5 none a1), (1, .clo F_g2 C_g2), (7, I6 (a1.length : Int)), (8, .int .i64 0)]) (by kernel_rfl) (fun _ h => h) ?_
  refine W.block ?_
  obtain ⟨hl1, h⟩ := chk_some h
  refine W.weak [0, 1, 7, 8] [] [] [] (env' := [(0, l5 none a1), (1, .clo F_g2 C_g2), (7, I6 (a1.length : Int)), (8, I6 ((0 : Nat) : Int))]) (by kernel_rfl) ?_
  refine W.range (σ := Unit) a1 (fun k1 s => [(0, l5 none a1), (1, .clo F_g2 C_g2), (7, I6 (a1.length : Int)), (8, I6 (k1 : Int))]) (fun r0 k0 s => sl_IndexFunc_byte_l1 g2 (sl_IndexFunc_byte_j4) r0 k0 = some r) (fun s h => ?_) (fun x1 r1 k1 s hx1 hk1 h hN1 => ?_) () h
  · have h : sl_IndexFunc_byte_l1 g2 (sl_IndexFunc_byte_j4) [] (a1).length = some r := h
    rw [sl_IndexFunc_byte_l1.eq_1] at h
    refine W.seq ?_
    refine W.region (by kernel_rfl) ?_
    refine WO.pureK 0 (some (.bool (decide (((a1).length : Int) < (a1.length : Int))))) (v := .bool false) (by kernel_rfl) (by rw [lt_false (l := a1)]) (e1 := [(0, l5 none a1), (1, .clo F_g2 C_g2), (7, I6 (a1.length : Int)), (8, I6 ((a1).length : Int)), (9, .bool false)]) (by kernel_rfl) ?_
    refine WO.fin ([0, 1, 7, 8, 9]) [] [] [] (e2 := [(0, l5 none a1), (1, .clo F_g2 C_g2), (7, I6 (a1.length : Int)), (8, I6 ((a1).length : Int)), (9, .bool false)]) (by kernel_rfl) (fun _ h => h) ?_
    refine W.seq ?_
    refine W.condB false (by kernel_rfl) (fun h => Bool.noConfusion h) (fun _ => ?_)
    refine W.exit ?_
    refine W.weak [] [] [] [] (env' := []) (by kernel_rfl) ?_
    exact hK4 () h
  · have h : sl_IndexFunc_byte_l1 g2 (sl_IndexFunc_byte_j4) (x1 :: r1) k1 = some r := h
    rw [sl_IndexFunc_byte_l1.eq_2] at h
    refine W.seq ?_
    refine W.region (by kernel_rfl) ?_
    refine WO.pureK 0 (some (.bool (decide ((k1 : Int) < (a1.length : Int))))) (v := .bool true) (by kernel_rfl) (by rw [lt_true hk1]) (e1 := [(0, l5 none a1), (1, .clo F_g2 C_g2), (7, I6 (a1.length : Int)), (8, I6 (k1 : Int)), (9, .bool true)]) (by kernel_rfl) ?_
    refine WO.fin ([0, 1, 7, 8, 9]) [] [] [] (e2 := [(0, l5 none a1), (1, .clo F_g2 C_g2), (7, I6 (a1.length : Int)), (8, I6 (k1 : Int)), (9, .bool true)]) (by kernel_rfl) (fun _ h => h) ?_
    refine W.seq ?_
    refine W.condB true (by kernel_rfl) (fun _ => ?_) (fun h => Bool.noConfusion h)
    refine W.skip ?_
    refine W.weak [0, 1, 7, 8] [] [] [] (env' := [(0, l5 none a1), (1, .clo F_g2 C_g2), (7, I6 (a1.length : Int)), (8, I6 (k1 : Int))]) (by kernel_rfl) ?_
    refine W.seq ?_
    refine W.block ?_
    refine W.seq ?_
    refine W.regT [0, 1, 5, 7, 8] [] [] [] (e2 := [(0, l5 none a1), (1, .clo F_g2 C_g2), (5, I6 (k1 : Int)), (7, I6 (a1.length : Int)), (8, I6 (k1 : Int))]) (by kernel_rfl) (by kernel_rfl) (fun _ h => h) ?_
    refine W.seq ?_
    refine W.region (by kernel_rfl) ?_
    refine WO.pureK 3 (if (0 : Int) ≤ (k1 : Int) then ((List.map (AV.int .u8) a1)[Int.toNat (k1 : Int)]?).map AV.ptr else none) (v := .ptr (.int .u8 x1)) (by kernel_rfl) (idx_nat (f := (AV.int .u8)) hx1) (e1 := [(0, l5 none a1), (1, .clo F_g2 C_g2), (5, I6 (k1 : Int)), (7, I6 (a1.length : Int)), (8, I6 (k1 : Int)), (11, .clo F_g2 C_g2), (12, l5 none a1), (13, I6 (k1 : Int)), (14, .ptr (.int .u8 x1))]) (by kernel_rfl) ?_
    obtain ⟨w9, hw9, h⟩ := bind_some h
    refine WO.callK 1 (F := F_g2) (l := [.int .u8 x1]) (C := C_g2) (r := .bool w9) (by kernel_rfl) hok_g2 (hrun_g2 x1 w9 hw9) (e1 := [(0, l5 none a1), (1, .clo F_g2 C_g2), (5, I6 (k1 : Int)), (7, I6 (a1.length : Int)), (8, I6 (k1 : Int)), (11, .clo F_g2 C_g2), (12, l5 none a1), (13, I6 (k1 : Int)), (14, .ptr (.int .u8 x1)), (15, .int .u8 x1), (16, .bool w9)]) (by kernel_rfl) ?_
    refine WO.fin [0, 1, 5, 7, 8, 16] [] [] [] (e2 := [(0, l5 none a1), (1, .clo F_g2 C_g2), (5, I6 (k1 : Int)), (7, I6 (a1.length : Int)), (8, I6 (k1 : Int)), (16, .bool w9)]) (by kernel_rfl) (fun _ h => h) ?_
    refine W.condB w9 (by kernel_rfl) (fun hb => ?_) (fun hb => ?_)
    · replace h := cond_t hb h
      refine W.seq ?_
      refine W.regT [4] [] [] [] (e2 := [(4, I6 (k1 : Int))]) (by kernel_rfl) (by kernel_rfl) (fun _ h => h) ?_
      refine W.weak [4] [] [] [] (env' := [(4, I6 (k1 : Int))]) (by kernel_rfl) ?_
      have hr : aresults Try.prog Try.f86 [(4, I6 (k1 : Int))] = some (I6 (k1 : Int)) := by kernel_rfl
      cases h
      exact W.ret hr
    replace h := cond_f hb h
    refine W.skip ?_
    refine W.weak [0, 1, 7, 8] [] [] [] (env' := [(0, l5 none a1), (1, .clo F_g2 C_g2), (7, I6 (a1.length : Int)), (8, I6 (k1 : Int))]) (by kernel_rfl) ?_
    refine W.region (by kernel_rfl) ?_
    refine WO.pureK 0 (some (I6 (IntKind.wrap .i64 ((k1 : Int) + 1)))) (v := I6 ((k1 + 1 : Nat) : Int)) (by kernel_rfl) (by rw [wrap_succ hl1 hk1]) (e1 := [(0, l5 none a1), (1, .clo F_g2 C_g2), (7, I6 (a1.length : Int)), (8, I6 (k1 : Int)), (18, I6 ((k1 + 1 : Nat) : Int))]) (by kernel_rfl) ?_
    refine WO.fin [0, 1, 7, 8] [] [] [] (e2 := [(0, l5 none a1), (1, .clo F_g2 C_g2), (7, I6 (a1.length : Int)), (8, I6 ((k1 + 1 : Nat) : Int))]) (by kernel_rfl) (fun _ h => h) ?_
    exact hN1 () h
def sl_ContainsFunc_byte (a1 : (List Int)) (g2 : (Int → Option Bool)) : Option Bool :=
  ((sl_IndexFunc_byte a1 g2).bind fun w5 => (some (decide (w5 ≥ 0))))
theorem run_sl_ContainsFunc_byte (a1 : (List Int)) (g2 : (Int → Option Bool)) (F_g2 : Nat) (C_g2 : List AV) (hok_g2 : okFn Try.prog F_g2 = true) (hrun_g2 : ∀ (x0 : Int) r, g2 x0 = some r → Run Try.prog (.call F_g2 ([.int .u8 x0] ++ C_g2) (.bool r))) (r : Bool) (h : sl_ContainsFunc_byte a1 g2 = some r) : Run Try.prog (.call 64 [l5 none a1, .clo F_g2 C_g2] (.bool r)) := by
  refine call_of_W Try.func64 rfl (by kernel_rfl) (env0 := [(0, l5 none a1), (1, .clo F_g2 C_g2)]) (by kernel_rfl) ?_
  unfold sl_ContainsFunc_byte at h
  refine W.seq ?_
  refine W.regT [0, 1] [] [] [] (e2 := [(0, l5 none a1), (1, .clo F_g2 C_g2)]) (by kernel_rfl) (by kernel_rfl) (fun _ h => h) ?_
  refine W.seq ?_
  refine W.region (by kernel_rfl) ?_
  obtain ⟨w5, hw5, h⟩ := bind_some h
  refine WO.callK 2 (F := 86) (l := [l5 none a1, .clo F_g2 C_g2]) (C := []) (r := I6 w5) (by kernel_rfl) (by kernel_rfl) (run_sl_IndexFunc_byte a1 g2 F_g2 C_g2 hok_g2 hrun_g2 w5 hw5) (e1 := [(0, l5 none a1), (1, .clo F_g2 C_g2), (5, l5 none a1), (6, .clo F_g2 C_g2), (7, I6 w5)]) (by kernel_rfl) ?_
  refine WO.fin [4] [] [] [] (e2 := [(4, .bool (decide (w5 ≥ 0)))]) (by kernel_rfl) (fun _ h => h) ?_
  refine W.weak [4] [] [] [] (env' := [(4, .bool (decide (w5 ≥ 0)))]) (by kernel_rfl) ?_
  have hr : aresults Try.prog Try.f64 [(4, .bool (decide (w5 ≥ 0)))] = some (.bool (decide (w5 ≥ 0))) := by kernel_rfl
  cases h
  exact W.ret hr
def ix_printable_1_j3 (v4 : Bool) : Option Bool :=
  (some v4)
def ix_printable_1 (a1 : Int) : Option Bool :=
  (bif (decide (a1 < 32)) then ((ix_printable_1_j3) true) else ((ix_printable_1_j3) (decide (a1 > 126))))
theorem run_ix_printable_1 (a1 : Int) (r : Bool) (h : ix_printable_1 a1 = some r) : Run Try.prog (.call 65 [.int .u8 a1] (.bool r)) := by
  refine call_of_W Try.func65 rfl (by kernel_rfl) (env0 := [(0, .int .u8 a1)]) (by kernel_rfl) ?_
  unfold ix_printable_1 at h
  refine W.seq ?_
  refine W.regT [0] [] [] [] (e2 := [(0, .int .u8 a1)]) (by kernel_rfl) (by kernel_rfl) (fun _ h => h) ?_
  refine W.seq ?_
  refine W.join (σ := (Bool)) (fun s => [(2, .bool s)]) (fun s => (ix_printable_1_j3) s = some r) (fun s h => ?_) (fun hK3 => ?_)
  · obtain ⟨v4, rfl⟩ : ∃ x, x = s := ⟨s, rfl⟩
    have h : (ix_printable_1_j3) v4 = some r := h
    unfold ix_printable_1_j3 at h
    refine W.weak [2] [] [] [] (env' := [(2, .bool v4)]) (by kernel_rfl) ?_
    have hr : aresults Try.prog Try.f65 [(2, .bool v4)] = some (.bool v4) := by kernel_rfl
    cases h
    exact W.ret hr
  refine W.region (by kernel_rfl) ?_
  refine WO.boolK 3 (fun b => [(0, .int .u8 a1), (3, .int .u8 a1), (4, .bool b), (5, .bool b)]) (decide (a1 < 32)) (by kernel_rfl) (fun hb => ?_) (fun hb => ?_)
  · replace h := cond_t hb h
    refine WO.fin [2] [] [] [] (e2 := [(2, .bool true)]) (by kernel_rfl) (fun _ h => h) ?_
    exact hK3 true h
  replace h := cond_f hb h
  refine WO.fin [2] [] [] [] (e2 := [(2, .bool (decide (a1 > 126)))]) (by kernel_rfl) (fun _ h => h) ?_
  exact hK3 (decide (a1 > 126)) h
def ix_printable (a1 : ByteArray) : Option Bool :=
  ((sl_ContainsFunc_byte (bytesI a1) (fun y0 => ix_printable_1 y0)).bind fun w4 => (some (!w4)))
theorem run_ix_printable (a1 : ByteArray) (r : Bool) (h : ix_printable a1 = some r) : Run Try.prog (.call 45 [.str a1] (.bool r)) := by
  refine call_of_W Try.func45 rfl (by kernel_rfl) (env0 := [(0, .str a1)]) (by kernel_rfl) ?_
  unfold ix_printable at h
  refine W.seq ?_
  refine W.regT [0] [] [] [] (e2 := [(0, .str a1)]) (by kernel_rfl) (by kernel_rfl) (fun _ h => h) ?_
  refine W.seq ?_
  refine W.region (by kernel_rfl) ?_
  refine WO.pureK 1 (some (AV.lst 5 1 none (bytesA a1))) (v := l5 none (bytesI a1)) (by kernel_rfl) (congrArg (fun l => some (AV.lst 5 1 none l)) (bytesA_map a1)) (e1 := [(0, .str a1), (3, .str a1), (4, l5 none (bytesI a1))]) (by kernel_rfl) ?_
  obtain ⟨w4, hw4, h⟩ := bind_some h
  refine WO.callK 0 (F := 64) (l := [l5 none (bytesI a1), .clo 65 []]) (C := []) (r := .bool w4) (by kernel_rfl) (by kernel_rfl) (run_sl_ContainsFunc_byte (bytesI a1) (fun y0 => ix_printable_1 y0) 65 [] (by kernel_rfl) (fun y0 r h => run_ix_printable_1 y0 r h) w4 hw4) (e1 := [(0, .str a1), (3, .str a1), (4, l5 none (bytesI a1)), (5, .bool w4)]) (by kernel_rfl) ?_
  refine WO.fin [2] [] [] [] (e2 := [(2, .bool (!w4))]) (by kernel_rfl) (fun _ h => h) ?_
  refine W.weak [2] [] [] [] (env' := [(2, .bool (!w4))]) (by kernel_rfl) ?_
  have hr : aresults Try.prog Try.f45 [(2, .bool (!w4))] = some (.bool (!w4)) := by kernel_rfl
  cases h
  exact W.ret hr
def ix_valid_j3 (v5 : Bool) : Option Bool :=
  (some v5)
def ix_valid (a1 : ByteArray) : Option Bool :=
  (bif (decide ((a1.size : Int) ≤ 200)) then ((ix_printable a1).bind fun w4 => ((ix_valid_j3) w4)) else ((ix_valid_j3) false))
theorem run_ix_valid (a1 : ByteArray) (r : Bool) (h : ix_valid a1 = some r) : Run Try.prog (.call 40 [.str a1] (.bool r)) := by
  refine call_of_W Try.func40 rfl (by kernel_rfl) (env0 := [(0, .str a1)]) (by kernel_rfl) ?_
  unfold ix_valid at h
  refine W.seq ?_
  refine W.regT [0] [] [] [] (e2 := [(0, .str a1)]) (by kernel_rfl) (by kernel_rfl) (fun _ h => h) ?_
  refine W.seq ?_
  refine W.join (σ := (Bool)) (fun s => [(2, .bool s)]) (fun s => (ix_valid_j3) s = some r) (fun s h => ?_) (fun hK3 => ?_)
  · obtain ⟨v5, rfl⟩ : ∃ x, x = s := ⟨s, rfl⟩
    have h : (ix_valid_j3) v5 = some r := h
    unfold ix_valid_j3 at h
    refine W.weak [2] [] [] [] (env' := [(2, .bool v5)]) (by kernel_rfl) ?_
    have hr : aresults Try.prog Try.f40 [(2, .bool v5)] = some (.bool v5) := by kernel_rfl
    cases h
    exact W.ret hr
  refine W.region (by kernel_rfl) ?_
  refine WO.boolK 4 (fun b => [(0, .str a1), (3, .str a1), (4, I6 (a1.size : Int)), (5, .bool b), (6, .bool b)]) (decide ((a1.size : Int) ≤ 200)) (by kernel_rfl) (fun hb => ?_) (fun hb => ?_)
  · replace h := cond_t hb h
    obtain ⟨w4, hw4, h⟩ := bind_some h
    refine WO.callK 1 (F := 45) (l := [.str a1]) (C := []) (r := .bool w4) (by kernel_rfl) (by kernel_rfl) (run_ix_printable a1 w4 hw4) (e1 := [(0, .str a1), (3, .str a1), (4, I6 (a1.size : Int)), (5, .bool true), (6, .bool true), (7, .str a1), (8, .bool w4)]) (by kernel_rfl) ?_
    refine WO.fin [2] [] [] [] (e2 := [(2, .bool w4)]) (by kernel_rfl) (fun _ h => h) ?_
    exact hK3 w4 h
  replace h := cond_f hb h
  refine WO.fin [2] [] [] [] (e2 := [(2, .bool false)]) (by kernel_rfl) (fun _ h => h) ?_
  exact hK3 false h
def mb_Len64_j13 (v16 : Int) (v17 : Int) : Option Int :=
  ((sidx str_14a5d850 (IntKind.wrap .u8 v16)).bind fun e19 => (some (IntKind.wrap .i64 (v17 + (IntKind.wrap .i64 e19)))))
def mb_Len64_j8 (v11 : Int) (v12 : Int) : Option Int :=
  (bif (decide (v11 ≥ 256)) then ((mb_Len64_j13) (iShr .u64 v11 8) (IntKind.wrap .i64 (v12 + 8))) else ((mb_Len64_j13) v11 v12))
def mb_Len64_j3 (v6 : Int) (v7 : Int) : Option Int :=
  (bif (decide (v6 ≥ 65536)) then ((mb_Len64_j8) (iShr .u64 v6 16) (IntKind.wrap .i64 (v7 + 16))) else ((mb_Len64_j8) v6 v7))
def mb_Len64 (a1 : Int) : Option Int :=
  (bif (decide (a1 ≥ 4294967296)) then ((mb_Len64_j3) (iShr .u64 a1 32) 32) else ((mb_Len64_j3) a1 0))
theorem run_mb_Len64 (a1 : Int) (r : Int) (h : mb_Len64 a1 = some r) : Run Try.prog (.call 76 [.int .u64 a1] (I6 r)) := by
  refine call_of_W Try.func76 rfl (by kernel_rfl) (env0 := [(0, .int .u64 a1)]) (by kernel_rfl) ?_
  unfold mb_Len64 at h
  refine W.seq ?_
  refine W.regT [0, 2] [] [] [] (e2 := [(0, .int .u64 a1), (2, .int .i64 0)]) (by kernel_rfl) (by kernel_rfl) (fun _ h => h) ?_
  refine W.seq ?_
  refine W.join (σ := (Int × Int)) (fun s => [(0, .int .u64 s.1), (2, I6 s.2)]) (fun s => (mb_Len64_j3) s.1 s.2 = some r) (fun s h => ?_) (fun hK3 => ?_)
  · obtain ⟨v6, v7⟩ := s
    have h : (mb_Len64_j3) v6 v7 = some r := h
    unfold mb_Len64_j3 at h
    refine W.seq ?_
    refine W.join (σ := (Int × Int)) (fun s => [(0, .int .u64 s.1), (2, I6 s.2)]) (fun s => (mb_Len64_j8) s.1 s.2 = some r) (fun s h => ?_) (fun hK8 => ?_)
    · obtain ⟨v11, v12⟩ := s
      have h : (mb_Len64_j8) v11 v12 = some r := h
      unfold mb_Len64_j8 at h
      refine W.seq ?_
      refine W.join (σ := (Int × Int)) (fun s => [(0, .int .u64 s.1), (2, I6 s.2)]) (fun s => (mb_Len64_j13) s.1 s.2 = some r) (fun s h => ?_) (fun hK13 => ?_)
      · obtain ⟨v16, v17⟩ := s
        have h : (mb_Len64_j13) v16 v17 = some r := h
        unfold mb_Len64_j13 at h
        refine W.seq ?_
        refine W.region (by kernel_rfl) ?_
        obtain ⟨e19, he19, h⟩ := bind_some h
        refine WO.pureK 3 (if (0 : Int) ≤ (IntKind.wrap .u8 v16) then (str_14a5d850[Int.toNat (IntKind.wrap .u8 v16)]?).map fun b => AV.int .u8 b.toNat else none) (v := .int .u8 e19) (by kernel_rfl) (sidx_av he19) (e1 := [(0, .int .u64 v16), (2, I6 v17), (19, I6 v17), (20, .int .u64 v16), (21, .int .u8 (IntKind.wrap .u8 v16)), (22, .int .u8 e19)]) (by kernel_rfl) ?_
        refine WO.fin [2] [] [] [] (e2 := [(2, I6 (W6 (v17 + (W6 e19))))]) (by kernel_rfl) (fun _ h => h) ?_
        refine W.weak [2] [] [] [] (env' := [(2, I6 (W6 (v17 + (W6 e19))))]) (by kernel_rfl) ?_
        have hr : aresults Try.prog Try.f76 [(2, I6 (W6 (v17 + (W6 e19))))] = some (I6 (W6 (v17 + (W6 e19)))) := by kernel_rfl
        cases h
        exact W.ret hr
      refine W.seq ?_
      refine W.regT [0, 2, 14] [] [] [] (e2 := [(0, .int .u64 v11), (2, I6 v12), (14, .bool (decide (v11 ≥ 256)))]) (by kernel_rfl) (by kernel_rfl) (fun _ h => h) ?_
      refine W.condB (decide (v11 ≥ 256)) (by kernel_rfl) (fun hb => ?_) (fun hb => ?_)
      · replace h := cond_t hb h
        refine W.seq ?_
        refine W.regT [0, 2] [] [] [] (e2 := [(0, .int .u64 (iShr .u64 v11 8)), (2, I6 v12)]) (by kernel_rfl) (by kernel_rfl) (fun _ h => h) ?_
        refine W.regT [0, 2] [] [] [] (e2 := [(0, .int .u64 (iShr .u64 v11 8)), (2, I6 (W6 (v12 + 8)))]) (by kernel_rfl) (by kernel_rfl) (fun _ h => h) ?_
        exact hK13 ((iShr .u64 v11 8), (W6 (v12 + 8))) h
      replace h := cond_f hb h
      refine W.skip ?_
      refine W.weak [0, 2] [] [] [] (env' := [(0, .int .u64 v11), (2, I6 v12)]) (by kernel_rfl) ?_
      exact hK13 (v11, v12) h
    refine W.seq ?_
    refine W.regT [0, 2, 8] [] [] [] (e2 := [(0, .int .u64 v6), (2, I6 v7), (8, .bool (decide (v6 ≥ 65536)))]) (by kernel_rfl) (by kernel_rfl) (fun _ h => h) ?_
    refine W.condB (decide (v6 ≥ 65536)) (by kernel_rfl) (fun hb => ?_) (fun hb => ?_)
    · replace h := cond_t hb h
      refine W.seq ?_
      refine W.regT [0, 2] [] [] [] (e2 := [(0, .int .u64 (iShr .u64 v6 16)), (2, I6 v7)]) (by kernel_rfl) (by kernel_rfl) (fun _ h => h) ?_
      refine W.regT [0, 2] [] [] [] (e2 := [(0, .int .u64 (iShr .u64 v6 16)), (2, I6 (W6 (v7 + 16)))]) (by kernel_rfl) (by kernel_rfl) (fun _ h => h) ?_
      exact hK8 ((iShr .u64 v6 16), (W6 (v7 + 16))) h
    replace h := cond_f hb h
    refine W.skip ?_
    refine W.weak [0, 2] [] [] [] (env' := [(0, .int .u64 v6), (2, I6 v7)]) (by kernel_rfl) ?_
    exact hK8 (v6, v7) h
  refine W.seq ?_
  refine W.regT [0, 2, 4] [] [] [] (e2 := [(0, .int .u64 a1), (2, .int .i64 0), (4, .bool (decide (a1 ≥ 4294967296)))]) (by kernel_rfl) (by kernel_rfl) (fun _ h => h) ?_
  refine W.condB (decide (a1 ≥ 4294967296)) (by kernel_rfl) (fun hb => ?_) (fun hb => ?_)
  · replace h := cond_t hb h
    refine W.seq ?_
    refine W.regT [0] [] [] [] (e2 := [(0, .int .u64 (iShr .u64 a1 32))]) (by kernel_rfl) (by kernel_rfl) (fun _ h => h) ?_
    refine W.regT [0, 2] [] [] [] (e2 := [(0, .int .u64 (iShr .u64 a1 32)), (2, .int .i64 32)]) (by kernel_rfl) (by kernel_rfl) (fun _ h => h) ?_
    exact hK3 ((iShr .u64 a1 32), 32) h
  replace h := cond_f hb h
  refine W.skip ?_
  refine W.weak [0, 2] [] [] [] (env' := [(0, .int .u64 a1), (2, .int .i64 0)]) (by kernel_rfl) ?_
  exact hK3 (a1, 0) h
def mb_Len (a1 : Int) : Option Int :=
  ((mb_Len64 a1).bind fun w5 => (some w5))
theorem run_mb_Len (a1 : Int) (r : Int) (h : mb_Len a1 = some r) : Run Try.prog (.call 47 [.int .u64 a1] (I6 r)) := by
  refine call_of_W Try.func47 rfl (by kernel_rfl) (env0 := [(0, .int .u64 a1)]) (by kernel_rfl) ?_
  unfold mb_Len at h
  refine W.seq ?_
  refine W.regT [0] [] [] [] (e2 := [(0, .int .u64 a1)]) (by kernel_rfl) (by kernel_rfl) (fun _ h => h) ?_
  refine W.seq ?_
  refine W.condB false (by kernel_rfl) (fun h => Bool.noConfusion h) (fun _ => ?_)
  refine W.skip ?_
  refine W.weak [0] [] [] [] (env' := [(0, .int .u64 a1)]) (by kernel_rfl) ?_
  refine W.seq ?_
  refine W.region (by kernel_rfl) ?_
  obtain ⟨w5, hw5, h⟩ := bind_some h
  refine WO.callK 1 (F := 76) (l := [.int .u64 a1]) (C := []) (r := I6 w5) (by kernel_rfl) (by kernel_rfl) (run_mb_Len64 a1 w5 hw5) (e1 := [(0, .int .u64 a1), (6, .int .u64 a1), (7, I6 w5)]) (by kernel_rfl) ?_
  refine WO.fin [2] [] [] [] (e2 := [(2, I6 w5)]) (by kernel_rfl) (fun _ h => h) ?_
  refine W.weak [2] [] [] [] (env' := [(2, I6 w5)]) (by kernel_rfl) ?_
  have hr : aresults Try.prog Try.f47 [(2, I6 w5)] = some (I6 w5) := by kernel_rfl
  cases h
  exact W.ret hr
def sl_insertionSortCmpFunc_int_j11 (v8 : Int) (N1 : ((List Int) → Int → Option (List Int))) (v34 : (List Int)) : Option (List Int) :=
  (N1 v34 (IntKind.wrap .i64 (v8 + 1)))
def sl_insertionSortCmpFunc_int_j16 (n2 : Nat) (v13 : (List Int)) (v14 : Int) (N2 : ((List Int) → Int → Option (List Int))) (K11 : ((List Int) → Option (List Int))) (v22 : Bool) : Option (List Int) :=
  (bif v22 then (chk (decide ((0 : Int) ≤ (IntKind.wrap .i64 (v14 - 1)) ∧ (IntKind.wrap .i64 (v14 - 1)) < ((n2 : Nat) : Int))) ((v13[(0 + Int.toNat (IntKind.wrap .i64 (v14 - 1)))]?).bind fun e25 => (chk (decide ((0 : Int) ≤ v14 ∧ v14 < ((n2 : Nat) : Int))) ((v13[(0 + Int.toNat v14)]?).bind fun e27 => (chk (decide ((0 : Int) ≤ v14 ∧ v14 < ((n2 : Nat) : Int))) ((upd v13 (0 + Int.toNat v14) e25).bind fun u29 => (chk (decide ((0 : Int) ≤ (IntKind.wrap .i64 (v14 - 1)) ∧ (IntKind.wrap .i64 (v14 - 1)) < ((n2 : Nat) : Int))) ((upd u29 (0 + Int.toNat (IntKind.wrap .i64 (v14 - 1))) e27).bind fun u32 => (N2 u32 (IntKind.wrap .i64 (v14 - 1))))))))))) else (K11 v13))
def sl_insertionSortCmpFunc_int_l2 (n2 : Nat) (a3 : Int) (g5 : (Int → Int → Option Int)) (K11 : ((List Int) → Option (List Int))) : Nat → (List Int) → Int → Option (List Int)
  | 0, _, _ => none
  | m2 + 1, v13, v14 => (bif (decide (v14 > a3)) then (chk (decide ((0 : Int) ≤ v14 ∧ v14 < ((n2 : Nat) : Int))) ((v13[(0 + Int.toNat v14)]?).bind fun e18 => (chk (decide ((0 : Int) ≤ (IntKind.wrap .i64 (v14 - 1)) ∧ (IntKind.wrap .i64 (v14 - 1)) < ((n2 : Nat) : Int))) ((v13[(0 + Int.toNat (IntKind.wrap .i64 (v14 - 1)))]?).bind fun e20 => ((g5 e18 e20).bind fun w21 => ((sl_insertionSortCmpFunc_int_j16 n2 v13 v14 (sl_insertionSortCmpFunc_int_l2 n2 a3 g5 K11 m2) K11) (decide (w21 < 0)))))))) else ((sl_insertionSortCmpFunc_int_j16 n2 v13 v14 (sl_insertionSortCmpFunc_int_l2 n2 a3 g5 K11 m2) K11) false))
def sl_insertionSortCmpFunc_int_l1 (fuel : Nat) (n2 : Nat) (a3 : Int) (a4 : Int) (g5 : (Int → Int → Option Int)) : Nat → (List Int) → Int → Option (List Int)
  | 0, _, _ => none
  | m1 + 1, v7, v8 => (bif (decide (v8 < a4)) then (sl_insertionSortCmpFunc_int_l2 n2 a3 g5 (sl_insertionSortCmpFunc_int_j11 v8 (sl_insertionSortCmpFunc_int_l1 fuel n2 a3 a4 g5 m1)) fuel v7 v8) else (some v7))
def sl_insertionSortCmpFunc_int (fuel : Nat) (a1 : (List Int)) (n2 : Nat) (a3 : Int) (a4 : Int) (g5 : (Int → Int → Option Int)) : Option (List Int) :=
  (sl_insertionSortCmpFunc_int_l1 fuel n2 a3 a4 g5 fuel a1 (IntKind.wrap .i64 (a3 + 1)))
theorem run_sl_insertionSortCmpFunc_int (fuel : Nat) (a1 : (List Int)) (n2 : Nat) (a3 : Int) (a4 : Int) (g5 : (Int → Int → Option Int)) (F_g5 : Nat) (C_g5 : List AV) (hok_g5 : okFn Try.prog F_g5 = true) (hrun_g5 : ∀ (x0 : Int) (x1 : Int) r, g5 x0 x1 = some r → Run Try.prog (.call F_g5 ([I6 x0, I6 x1] ++ C_g5) (I6 r))) (r : (List Int)) (h : sl_insertionSortCmpFunc_int fuel a1 n2 a3 a4 g5 = some r) : Run Try.prog (.callM 96 [S1 n2, I6 a3, I6 a4, .clo F_g5 C_g5] [O1 a1] (.tup []) [O1 r]) := by
  refine callM_of_W Try.func96 rfl (by kernel_rfl) (env0 := [(0, S1 n2), (1, I6 a3), (2, I6 a4), (3, .clo F_g5 C_g5), O1 a1]) (by kernel_rfl) ?_
  unfold sl_insertionSortCmpFunc_int at h
  refine W.seq ?_
  refine W.regT [0, 1, 2, 3, 8, 2000000] [] [] [] (e2 := [(0, S1 n2), (1, I6 a3), (2, I6 a4), (3, .clo F_g5 C_g5), (8, I6 (W6 (a3 + 1))), O1 a1]) (by kernel_rfl) (by kernel_rfl) (fun _ h => h) ?_
  refine W.block ?_
  refine W.weak [0, 1, 2, 3, 8, 2000000] [] [] [] (env' := [(0, S1 n2), (1, I6 a3), (2, I6 a4), (3, .clo F_g5 C_g5), (8, I6 (W6 (a3 + 1))), O1 a1]) (by kernel_rfl) ?_
  refine W.fuel (σ := ((List Int) × Int)) (fun s => [(0, S1 n2), (1, I6 a3), (2, I6 a4), (3, .clo F_g5 C_g5), (8, I6 s.2), (2000000, .obj 3 1 (List.map (AV.int .i64) s.1))]) (fun m0 s => sl_insertionSortCmpFunc_int_l1 fuel n2 a3 a4 g5 m0 s.1 s.2 = some r) (fun s h => ?_) (fun m1 s h hN1 => ?_) fuel (a1, (W6 (a3 + 1))) h
  · obtain ⟨v7, v8⟩ := s
    have h : sl_insertionSortCmpFunc_int_l1 fuel n2 a3 a4 g5 0 v7 v8 = some r := h
    rw [sl_insertionSortCmpFunc_int_l1.eq_1] at h
    cases h
  · obtain ⟨v7, v8⟩ := s
    have h : sl_insertionSortCmpFunc_int_l1 fuel n2 a3 a4 g5 (m1 + 1) v7 v8 = some r := h
    rw [sl_insertionSortCmpFunc_int_l1.eq_2] at h
    refine W.seq ?_
    refine W.seq ?_
    refine W.regT [0, 1, 2, 3, 8, 14, 2000000] [] [] [] (e2 := [(0, S1 n2), (1, I6 a3), (2, I6 a4), (3, .clo F_g5 C_g5), (8, I6 v8), (14, .bool (decide (v8 < a4))), O1 v7]) (by kernel_rfl) (by kernel_rfl) (fun _ h => h) ?_
    refine W.condB (decide (v8 < a4)) (by kernel_rfl) (fun hb => ?_) (fun hb => ?_)
    · replace h := cond_t hb h
      refine W.skip ?_
      refine W.weak [0, 1, 2, 3, 8, 2000000] [] [] [] (env' := [(0, S1 n2), (1, I6 a3), (2, I6 a4), (3, .clo F_g5 C_g5), (8, I6 v8), O1 v7]) (by kernel_rfl) ?_
      refine W.seq ?_
      refine W.join (σ := ((List Int))) (fun s => [(0, S1 n2), (1, I6 a3), (2, I6 a4), (3, .clo F_g5 C_g5), (8, I6 v8), O1 s]) (fun s => (sl_insertionSortCmpFunc_int_j11 v8 (sl_insertionSortCmpFunc_int_l1 fuel n2 a3 a4 g5 m1)) s = some r) (fun s h => ?_) (fun hK11 => ?_)
      · obtain ⟨v34, rfl⟩ : ∃ x, x = s := ⟨s, rfl⟩
        have h : (sl_insertionSortCmpFunc_int_j11 v8 (sl_insertionSortCmpFunc_int_l1 fuel n2 a3 a4 g5 m1)) v34 = some r := h
        unfold sl_insertionSortCmpFunc_int_j11 at h
        refine W.regT [0, 1, 2, 3, 8, 2000000] [] [] [] (e2 := [(0, S1 n2), (1, I6 a3), (2, I6 a4), (3, .clo F_g5 C_g5), (8, I6 (W6 (v8 + 1))), O1 v34]) (by kernel_rfl) (by kernel_rfl) (fun _ h => h) ?_
        exact hN1 (v34, (W6 (v8 + 1))) h
      refine W.block ?_
      refine W.seq ?_
      refine W.regT [0, 1, 2, 3, 8, 9, 2000000] [] [] [] (e2 := [(0, S1 n2), (1, I6 a3), (2, I6 a4), (3, .clo F_g5 C_g5), (8, I6 v8), (9, I6 v8), O1 v7]) (by kernel_rfl) (by kernel_rfl) (fun _ h => h) ?_
      refine W.block ?_
      refine W.weak [0, 1, 2, 3, 8, 9, 2000000] [] [] [] (env' := [(0, S1 n2), (1, I6 a3), (2, I6 a4), (3, .clo F_g5 C_g5), (8, I6 v8), (9, I6 v8), O1 v7]) (by kernel_rfl) ?_
      refine W.fuel (σ := ((List Int) × Int)) (fun s => [(0, S1 n2), (1, I6 a3), (2, I6 a4), (3, .clo F_g5 C_g5), (8, I6 v8), (9, I6 s.2), (2000000, .obj 3 1 (List.map (AV.int .i64) s.1))]) (fun m0 s => sl_insertionSortCmpFunc_int_l2 n2 a3 g5 (sl_insertionSortCmpFunc_int_j11 v8 (sl_insertionSortCmpFunc_int_l1 fuel n2 a3 a4 g5 m1)) m0 s.1 s.2 = some r) (fun s h => ?_) (fun m2 s h hN2 => ?_) fuel (v7, v8) h
      · obtain ⟨v13, v14⟩ := s
        have h : sl_insertionSortCmpFunc_int_l2 n2 a3 g5 (sl_insertionSortCmpFunc_int_j11 v8 (sl_insertionSortCmpFunc_int_l1 fuel n2 a3 a4 g5 m1)) 0 v13 v14 = some r := h
        rw [sl_insertionSortCmpFunc_int_l2.eq_1] at h
        cases h
      · obtain ⟨v13, v14⟩ := s
        have h : sl_insertionSortCmpFunc_int_l2 n2 a3 g5 (sl_insertionSortCmpFunc_int_j11 v8 (sl_insertionSortCmpFunc_int_l1 fuel n2 a3 a4 g5 m1)) (m2 + 1) v13 v14 = some r := h
        rw [sl_insertionSortCmpFunc_int_l2.eq_2] at h
        refine W.seq ?_
        refine W.seq ?_
        refine W.join (σ := (Bool)) (fun s => [(0, S1 n2), (1, I6 a3), (2, I6 a4), (3, .clo F_g5 C_g5), (8, I6 v8), (9, I6 v14), (34, .bool s), O1 v13]) (fun s => (sl_insertionSortCmpFunc_int_j16 n2 v13 v14 (sl_insertionSortCmpFunc_int_l2 n2 a3 g5 (sl_insertionSortCmpFunc_int_j11 v8 (sl_insertionSortCmpFunc_int_l1 fuel n2 a3 a4 g5 m1)) m2) (sl_insertionSortCmpFunc_int_j11 v8 (sl_insertionSortCmpFunc_int_l1 fuel n2 a3 a4 g5 m1))) s = some r) (fun s h => ?_) (fun hK16 => ?_)
        · obtain ⟨v22, rfl⟩ : ∃ x, x = s := ⟨s, rfl⟩
          have h : (sl_insertionSortCmpFunc_int_j16 n2 v13 v14 (sl_insertionSortCmpFunc_int_l2 n2 a3 g5 (sl_insertionSortCmpFunc_int_j11 v8 (sl_insertionSortCmpFunc_int_l1 fuel n2 a3 a4 g5 m1)) m2) (sl_insertionSortCmpFunc_int_j11 v8 (sl_insertionSortCmpFunc_int_l1 fuel n2 a3 a4 g5 m1))) v22 = some r := h
          unfold sl_insertionSortCmpFunc_int_j16 at h
          refine W.condB v22 (by kernel_rfl) (fun hb => ?_) (fun hb => ?_)
          · replace h := cond_t hb h
            refine W.skip ?_
            refine W.weak [0, 1, 2, 3, 8, 9, 2000000] [] [] [] (env' := [(0, S1 n2), (1, I6 a3), (2, I6 a4), (3, .clo F_g5 C_g5), (8, I6 v8), (9, I6 v14), O1 v13]) (by kernel_rfl) ?_
            refine W.seq ?_
            refine W.block ?_
            refine W.region (by kernel_rfl) ?_
            obtain ⟨hc24, h⟩ := chk_some h
            refine WO.pureK 8 (if (0 : Int) ≤ (W6 (v14 - 1)) ∧ (W6 (v14 - 1)) < ((n2 : Nat) : Int) then some (.pe 2000000 1 (0 + Int.toNat (W6 (v14 - 1))) 0) else none) (v := .pe 2000000 1 (0 + Int.toNat (W6 (v14 - 1))) 0) (by kernel_rfl) (ite_some hc24) (e1 := [(0, S1 n2), (1, I6 a3), (2, I6 a4), (3, .clo F_g5 C_g5), (8, I6 v8), (9, I6 v14), (37, S1 n2), (38, I6 v14), (39, S1 n2), (40, I6 v14), (41, I6 (W6 (v14 - 1))), (42, S1 n2), (43, I6 v14), (44, I6 (W6 (v14 - 1))), (45, .pe 2000000 1 (0 + Int.toNat (W6 (v14 - 1))) 0), O1 v13]) (by kernel_rfl) ?_
            obtain ⟨e25, he25, h⟩ := bind_some h
            refine WO.pureK 0 (match (List.map (AV.int .i64) v13)[(0 + Int.toNat (W6 (v14 - 1)))]? with | some y => cut Try.prog 3 (y.cells.map AV.strip) 0 | none => none) (v := I6 e25) (by kernel_rfl) ((pe_ld (f := (AV.int .i64)) (G := (fun y => cut Try.prog 3 (y.cells.map AV.strip) 0)) he25).trans (by kernel_rfl)) (e1 := [(0, S1 n2), (1, I6 a3), (2, I6 a4), (3, .clo F_g5 C_g5), (8, I6 v8), (9, I6 v14), (37, S1 n2), (38, I6 v14), (39, S1 n2), (40, I6 v14), (41, I6 (W6 (v14 - 1))), (42, S1 n2), (43, I6 v14), (44, I6 (W6 (v14 - 1))), (45, .pe 2000000 1 (0 + Int.toNat (W6 (v14 - 1))) 0), (46, I6 e25), O1 v13]) (by kernel_rfl) ?_
            obtain ⟨hc26, h⟩ := chk_some h
            refine WO.pureK 2 (if (0 : Int) ≤ v14 ∧ v14 < ((n2 : Nat) : Int) then some (.pe 2000000 1 (0 + Int.toNat v14) 0) else none) (v := .pe 2000000 1 (0 + Int.toNat v14) 0) (by kernel_rfl) (ite_some hc26) (e1 := [(0, S1 n2), (1, I6 a3), (2, I6 a4), (3, .clo F_g5 C_g5), (8, I6 v8), (9, I6 v14), (37, S1 n2), (38, I6 v14), (39, S1 n2), (40, I6 v14), (41, I6 (W6 (v14 - 1))), (42, S1 n2), (43, I6 v14), (44, I6 (W6 (v14 - 1))), (45, .pe 2000000 1 (0 + Int.toNat (W6 (v14 - 1))) 0), (46, I6 e25), (47, S1 n2), (48, I6 v14), (49, .pe 2000000 1 (0 + Int.toNat v14) 0), O1 v13]) (by kernel_rfl) ?_
            obtain ⟨e27, he27, h⟩ := bind_some h
            refine WO.pureK 0 (match (List.map (AV.int .i64) v13)[(0 + Int.toNat v14)]? with | some y => cut Try.prog 3 (y.cells.map AV.strip) 0 | none => none) (v := I6 e27) (by kernel_rfl) ((pe_ld (f := (AV.int .i64)) (G := (fun y => cut Try.prog 3 (y.cells.map AV.strip) 0)) he27).trans (by kernel_rfl)) (e1 := [(0, S1 n2), (1, I6 a3), (2, I6 a4), (3, .clo F_g5 C_g5), (8, I6 v8), (9, I6 v14), (37, S1 n2), (38, I6 v14), (39, S1 n2), (40, I6 v14), (41, I6 (W6 (v14 - 1))), (42, S1 n2), (43, I6 v14), (44, I6 (W6 (v14 - 1))), (45, .pe 2000000 1 (0 + Int.toNat (W6 (v14 - 1))) 0), (46, I6 e25), (47, S1 n2), (48, I6 v14), (49, .pe 2000000 1 (0 + Int.toNat v14) 0), (50, I6 e27), O1 v13]) (by kernel_rfl) ?_
            obtain ⟨hc28, h⟩ := chk_some h
            refine WO.pureK 0 (if (0 : Int) ≤ v14 ∧ v14 < ((n2 : Nat) : Int) then some (.pe 2000000 1 (0 + Int.toNat v14) 0) else none) (v := .pe 2000000 1 (0 + Int.toNat v14) 0) (by kernel_rfl) (ite_some hc28) (e1 := [(0, S1 n2), (1, I6 a3), (2, I6 a4), (3, .clo F_g5 C_g5), (8, I6 v8), (9, I6 v14), (37, S1 n2), (38, I6 v14), (39, S1 n2), (40, I6 v14), (41, I6 (W6 (v14 - 1))), (42, S1 n2), (43, I6 v14), (44, I6 (W6 (v14 - 1))), (45, .pe 2000000 1 (0 + Int.toNat (W6 (v14 - 1))) 0), (46, I6 e25), (47, S1 n2), (48, I6 v14), (49, .pe 2000000 1 (0 + Int.toNat v14) 0), (50, I6 e27), (51, .pe 2000000 1 (0 + Int.toNat v14) 0), O1 v13]) (by kernel_rfl) ?_
            obtain ⟨u29, hu29, h⟩ := bind_some h
            obtain ⟨y30, hyy30, hzy30⟩ := upd_some hu29
            refine WO.storeK 0 (id := 2000000) (e := 3) (s := 1) (j := (0 + Int.toNat v14)) (off := 0) (vs := [I6 e25]) (xs := (List.map (AV.int .i64) v13)) (zs := (List.map (AV.int .i64) u29)) (y := ((AV.int .i64)) y30) (y' := ((AV.int .i64)) e25) (by kernel_rfl) (upd_get hyy30) (by kernel_rfl) (upd_set hzy30) (e1 := [(0, S1 n2), (1, I6 a3), (2, I6 a4), (3, .clo F_g5 C_g5), (8, I6 v8), (9, I6 v14), (37, S1 n2), (38, I6 v14), (39, S1 n2), (40, I6 v14), (41, I6 (W6 (v14 - 1))), (42, S1 n2), (43, I6 v14), (44, I6 (W6 (v14 - 1))), (45, .pe 2000000 1 (0 + Int.toNat (W6 (v14 - 1))) 0), (46, I6 e25), (47, S1 n2), (48, I6 v14), (49, .pe 2000000 1 (0 + Int.toNat v14) 0), (50, I6 e27), (51, .pe 2000000 1 (0 + Int.toNat v14) 0), O1 u29]) (by kernel_rfl) ?_
            obtain ⟨hc31, h⟩ := chk_some h
            refine WO.pureK 0 (if (0 : Int) ≤ (W6 (v14 - 1)) ∧ (W6 (v14 - 1)) < ((n2 : Nat) : Int) then some (.pe 2000000 1 (0 + Int.toNat (W6 (v14 - 1))) 0) else none) (v := .pe 2000000 1 (0 + Int.toNat (W6 (v14 - 1))) 0) (by kernel_rfl) (ite_some hc31) (e1 := [(0, S1 n2), (1, I6 a3), (2, I6 a4), (3, .clo F_g5 C_g5), (8, I6 v8), (9, I6 v14), (37, S1 n2), (38, I6 v14), (39, S1 n2), (40, I6 v14), (41, I6 (W6 (v14 - 1))), (42, S1 n2), (43, I6 v14), (44, I6 (W6 (v14 - 1))), (45, .pe 2000000 1 (0 + Int.toNat (W6 (v14 - 1))) 0), (46, I6 e25), (47, S1 n2), (48, I6 v14), (49, .pe 2000000 1 (0 + Int.toNat v14) 0), (50, I6 e27), (51, .pe 2000000 1 (0 + Int.toNat v14) 0), (52, .pe 2000000 1 (0 + Int.toNat (W6 (v14 - 1))) 0), O1 u29]) (by kernel_rfl) ?_
            obtain ⟨u32, hu32, h⟩ := bind_some h
            obtain ⟨y33, hyy33, hzy33⟩ := upd_some hu32
            refine WO.storeK 0 (id := 2000000) (e := 3) (s := 1) (j := (0 + Int.toNat (W6 (v14 - 1)))) (off := 0) (vs := [I6 e27]) (xs := (List.map (AV.int .i64) u29)) (zs := (List.map (AV.int .i64) u32)) (y := ((AV.int .i64)) y33) (y' := ((AV.int .i64)) e27) (by kernel_rfl) (upd_get hyy33) (by kernel_rfl) (upd_set hzy33) (e1 := [(0, S1 n2), (1, I6 a3), (2, I6 a4), (3, .clo F_g5 C_g5), (8, I6 v8), (9, I6 v14), (37, S1 n2), (38, I6 v14), (39, S1 n2), (40, I6 v14), (41, I6 (W6 (v14 - 1))), (42, S1 n2), (43, I6 v14), (44, I6 (W6 (v14 - 1))), (45, .pe 2000000 1 (0 + Int.toNat (W6 (v14 - 1))) 0), (46, I6 e25), (47, S1 n2), (48, I6 v14), (49, .pe 2000000 1 (0 + Int.toNat v14) 0), (50, I6 e27), (51, .pe 2000000 1 (0 + Int.toNat v14) 0), (52, .pe 2000000 1 (0 + Int.toNat (W6 (v14 - 1))) 0), O1 u32]) (by kernel_rfl) ?_
            refine WO.fin [0, 1, 2, 3, 8, 9, 2000000] [] [] [] (e2 := [(0, S1 n2), (1, I6 a3), (2, I6 a4), (3, .clo F_g5 C_g5), (8, I6 v8), (9, I6 v14), O1 u32]) (by kernel_rfl) (fun _ h => h) ?_
            refine W.regT [0, 1, 2, 3, 8, 9, 2000000] [] [] [] (e2 := [(0, S1 n2), (1, I6 a3), (2, I6 a4), (3, .clo F_g5 C_g5), (8, I6 v8), (9, I6 (W6 (v14 - 1))), O1 u32]) (by kernel_rfl) (by kernel_rfl) (fun _ h => h) ?_
            exact hN2 (u32, (W6 (v14 - 1))) h
          replace h := cond_f hb h
          refine W.exit ?_
          refine W.weak [0, 1, 2, 3, 8, 2000000] [] [] [] (env' := [(0, S1 n2), (1, I6 a3), (2, I6 a4), (3, .clo F_g5 C_g5), (8, I6 v8), O1 v13]) (by kernel_rfl) ?_
          exact hK11 v13 h
        refine W.region (by kernel_rfl) ?_
        refine WO.boolK 4 (fun b => [(0, S1 n2), (1, I6 a3), (2, I6 a4), (3, .clo F_g5 C_g5), (8, I6 v8), (9, I6 v14), (18, I6 v14), (19, I6 a3), (20, .bool b), (21, .bool b), O1 v13]) (decide (v14 > a3)) (by kernel_rfl) (fun hb => ?_) (fun hb => ?_)
        · replace h := cond_t hb h
          obtain ⟨hc17, h⟩ := chk_some h
          refine WO.pureK 3 (if (0 : Int) ≤ v14 ∧ v14 < ((n2 : Nat) : Int) then some (.pe 2000000 1 (0 + Int.toNat v14) 0) else none) (v := .pe 2000000 1 (0 + Int.toNat v14) 0) (by kernel_rfl) (ite_some hc17) (e1 := [(0, S1 n2), (1, I6 a3), (2, I6 a4), (3, .clo F_g5 C_g5), (8, I6 v8), (9, I6 v14), (18, I6 v14), (19, I6 a3), (20, .bool true), (21, .bool true), (22, .clo F_g5 C_g5), (23, S1 n2), (24, I6 v14), (25, .pe 2000000 1 (0 + Int.toNat v14) 0), O1 v13]) (by kernel_rfl) ?_
          obtain ⟨e18, he18, h⟩ := bind_some h
          refine WO.pureK 0 (match (List.map (AV.int .i64) v13)[(0 + Int.toNat v14)]? with | some y => cut Try.prog 3 (y.cells.map AV.strip) 0 | none => none) (v := I6 e18) (by kernel_rfl) ((pe_ld (f := (AV.int .i64)) (G := (fun y => cut Try.prog 3 (y.cells.map AV.strip) 0)) he18).trans (by kernel_rfl)) (e1 := [(0, S1 n2), (1, I6 a3), (2, I6 a4), (3, .clo F_g5 C_g5), (8, I6 v8), (9, I6 v14), (18, I6 v14), (19, I6 a3), (20, .bool true), (21, .bool true), (22, .clo F_g5 C_g5), (23, S1 n2), (24, I6 v14), (25, .pe 2000000 1 (0 + Int.toNat v14) 0), (26, I6 e18), O1 v13]) (by kernel_rfl) ?_
          obtain ⟨hc19, h⟩ := chk_some h
          refine WO.pureK 3 (if (0 : Int) ≤ (W6 (v14 - 1)) ∧ (W6 (v14 - 1)) < ((n2 : Nat) : Int) then some (.pe 2000000 1 (0 + Int.toNat (W6 (v14 - 1))) 0) else none) (v := .pe 2000000 1 (0 + Int.toNat (W6 (v14 - 1))) 0) (by kernel_rfl) (ite_some hc19) (e1 := [(0, S1 n2), (1, I6 a3), (2, I6 a4), (3, .clo F_g5 C_g5), (8, I6 v8), (9, I6 v14), (18, I6 v14), (19, I6 a3), (20, .bool true), (21, .bool true), (22, .clo F_g5 C_g5), (23, S1 n2), (24, I6 v14), (25, .pe 2000000 1 (0 + Int.toNat v14) 0), (26, I6 e18), (27, S1 n2), (28, I6 v14), (29, I6 (W6 (v14 - 1))), (30, .pe 2000000 1 (0 + Int.toNat (W6 (v14 - 1))) 0), O1 v13]) (by kernel_rfl) ?_
          obtain ⟨e20, he20, h⟩ := bind_some h
          refine WO.pureK 0 (match (List.map (AV.int .i64) v13)[(0 + Int.toNat (W6 (v14 - 1)))]? with | some y => cut Try.prog 3 (y.cells.map AV.strip) 0 | none => none) (v := I6 e20) (by kernel_rfl) ((pe_ld (f := (AV.int .i64)) (G := (fun y => cut Try.prog 3 (y.cells.map AV.strip) 0)) he20).trans (by kernel_rfl)) (e1 := [(0, S1 n2), (1, I6 a3), (2, I6 a4), (3, .clo F_g5 C_g5), (8, I6 v8), (9, I6 v14), (18, I6 v14), (19, I6 a3), (20, .bool true), (21, .bool true), (22, .clo F_g5 C_g5), (23, S1 n2), (24, I6 v14), (25, .pe 2000000 1 (0 + Int.toNat v14) 0), (26, I6 e18), (27, S1 n2), (28, I6 v14), (29, I6 (W6 (v14 - 1))), (30, .pe 2000000 1 (0 + Int.toNat (W6 (v14 - 1))) 0), (31, I6 e20), O1 v13]) (by kernel_rfl) ?_
          obtain ⟨w21, hw21, h⟩ := bind_some h
          refine WO.callK 0 (F := F_g5) (l := [I6 e18, I6 e20]) (C := C_g5) (r := I6 w21) (by kernel_rfl) hok_g5 (hrun_g5 e18 e20 w21 hw21) (e1 := [(0, S1 n2), (1, I6 a3), (2, I6 a4), (3, .clo F_g5 C_g5), (8, I6 v8), (9, I6 v14), (18, I6 v14), (19, I6 a3), (20, .bool true), (21, .bool true), (22, .clo F_g5 C_g5), (23, S1 n2), (24, I6 v14), (25, .pe 2000000 1 (0 + Int.toNat v14) 0), (26, I6 e18), (27, S1 n2), (28, I6 v14), (29, I6 (W6 (v14 - 1))), (30, .pe 2000000 1 (0 + Int.toNat (W6 (v14 - 1))) 0), (31, I6 e20), (32, I6 w21), O1 v13]) (by kernel_rfl) ?_
          refine WO.fin [0, 1, 2, 3, 8, 9, 34, 2000000] [] [] [] (e2 := [(0, S1 n2), (1, I6 a3), (2, I6 a4), (3, .clo F_g5 C_g5), (8, I6 v8), (9, I6 v14), (34, .bool (decide (w21 < 0))), O1 v13]) (by kernel_rfl) (fun _ h => h) ?_
          exact hK16 (decide (w21 < 0)) h
        replace h := cond_f hb h
        refine WO.fin [0, 1, 2, 3, 8, 9, 34, 2000000] [] [] [] (e2 := [(0, S1 n2), (1, I6 a3), (2, I6 a4), (3, .clo F_g5 C_g5), (8, I6 v8), (9, I6 v14), (34, .bool false), O1 v13]) (by kernel_rfl) (fun _ h => h) ?_
        exact hK16 false h
    replace h := cond_f hb h
    have hr : PostM Try.prog Try.f96 (.tup []) [O1 v7] .normal [(0, S1 n2), (1, I6 a3), (2, I6 a4), (3, .clo F_g5 C_g5), (8, I6 v8), (14, .bool (decide (v8 < a4))), O1 v7] := ⟨by kernel_rfl, by kernel_rfl⟩
    cases h
    exact W.exit hr
def sl_siftDownCmpFunc_int_j13 (n2 : Nat) (a5 : Int) (g6 : (Int → Int → Option Int)) (v8 : (List Int)) (v9 : Int) (N1 : ((List Int) → Int → Option (List Int))) (v21 : Int) : Option (List Int) :=
  (chk (decide ((0 : Int) ≤ (IntKind.wrap .i64 (a5 + v9)) ∧ (IntKind.wrap .i64 (a5 + v9)) < ((n2 : Nat) : Int))) ((v8[(0 + Int.toNat (IntKind.wrap .i64 (a5 + v9)))]?).bind fun e25 => (chk (decide ((0 : Int) ≤ (IntKind.wrap .i64 (a5 + v21)) ∧ (IntKind.wrap .i64 (a5 + v21)) < ((n2 : Nat) : Int))) ((v8[(0 + Int.toNat (IntKind.wrap .i64 (a5 + v21)))]?).bind fun e27 => ((g6 e25 e27).bind fun w28 => (bif (!(decide (w28 < 0))) then (some v8) else (chk (decide ((0 : Int) ≤ (IntKind.wrap .i64 (a5 + v21)) ∧ (IntKind.wrap .i64 (a5 + v21)) < ((n2 : Nat) : Int))) ((v8[(0 + Int.toNat (IntKind.wrap .i64 (a5 + v21)))]?).bind fun e31 => (chk (decide ((0 : Int) ≤ (IntKind.wrap .i64 (a5 + v9)) ∧ (IntKind.wrap .i64 (a5 + v9)) < ((n2 : Nat) : Int))) ((v8[(0 + Int.toNat (IntKind.wrap .i64 (a5 + v9)))]?).bind fun e33 => (chk (decide ((0 : Int) ≤ (IntKind.wrap .i64 (a5 + v9)) ∧ (IntKind.wrap .i64 (a5 + v9)) < ((n2 : Nat) : Int))) ((upd v8 (0 + Int.toNat (IntKind.wrap .i64 (a5 + v9))) e31).bind fun u35 => (chk (decide ((0 : Int) ≤ (IntKind.wrap .i64 (a5 + v21)) ∧ (IntKind.wrap .i64 (a5 + v21)) < ((n2 : Nat) : Int))) ((upd u35 (0 + Int.toNat (IntKind.wrap .i64 (a5 + v21))) e33).bind fun u38 => (N1 u38 v21)))))))))))))))
def sl_siftDownCmpFunc_int_j14 (v9 : Int) (K13 : (Int → Option (List Int))) (v20 : Bool) : Option (List Int) :=
  (bif v20 then (K13 (IntKind.wrap .i64 ((IntKind.wrap .i64 ((IntKind.wrap .i64 (2 * v9)) + 1)) + 1))) else (K13 (IntKind.wrap .i64 ((IntKind.wrap .i64 (2 * v9)) + 1))))
def sl_siftDownCmpFunc_int_l1 (n2 : Nat) (a4 : Int) (a5 : Int) (g6 : (Int → Int → Option Int)) : Nat → (List Int) → Int → Option (List Int)
  | 0, _, _ => none
  | m1 + 1, v8, v9 => (bif (decide ((IntKind.wrap .i64 ((IntKind.wrap .i64 (2 * v9)) + 1)) ≥ a4)) then (some v8) else (bif (decide ((IntKind.wrap .i64 ((IntKind.wrap .i64 ((IntKind.wrap .i64 (2 * v9)) + 1)) + 1)) < a4)) then (chk (decide ((0 : Int) ≤ (IntKind.wrap .i64 (a5 + (IntKind.wrap .i64 ((IntKind.wrap .i64 (2 * v9)) + 1)))) ∧ (IntKind.wrap .i64 (a5 + (IntKind.wrap .i64 ((IntKind.wrap .i64 (2 * v9)) + 1)))) < ((n2 : Nat) : Int))) ((v8[(0 + Int.toNat (IntKind.wrap .i64 (a5 + (IntKind.wrap .i64 ((IntKind.wrap .i64 (2 * v9)) + 1)))))]?).bind fun e16 => (chk (decide ((0 : Int) ≤ (IntKind.wrap .i64 ((IntKind.wrap .i64 (a5 + (IntKind.wrap .i64 ((IntKind.wrap .i64 (2 * v9)) + 1)))) + 1)) ∧ (IntKind.wrap .i64 ((IntKind.wrap .i64 (a5 + (IntKind.wrap .i64 ((IntKind.wrap .i64 (2 * v9)) + 1)))) + 1)) < ((n2 : Nat) : Int))) ((v8[(0 + Int.toNat (IntKind.wrap .i64 ((IntKind.wrap .i64 (a5 + (IntKind.wrap .i64 ((IntKind.wrap .i64 (2 * v9)) + 1)))) + 1)))]?).bind fun e18 => ((g6 e16 e18).bind fun w19 => ((sl_siftDownCmpFunc_int_j14 v9 (sl_siftDownCmpFunc_int_j13 n2 a5 g6 v8 v9 (sl_siftDownCmpFunc_int_l1 n2 a4 a5 g6 m1))) (decide (w19 < 0)))))))) else ((sl_siftDownCmpFunc_int_j14 v9 (sl_siftDownCmpFunc_int_j13 n2 a5 g6 v8 v9 (sl_siftDownCmpFunc_int_l1 n2 a4 a5 g6 m1))) false)))
def sl_siftDownCmpFunc_int (fuel : Nat) (a1 : (List Int)) (n2 : Nat) (a3 : Int) (a4 : Int) (a5 : Int) (g6 : (Int → Int → Option Int)) : Option (List Int) :=
  (sl_siftDownCmpFunc_int_l1 n2 a4 a5 g6 fuel a1 a3)
theorem run_sl_siftDownCmpFunc_int (fuel : Nat) (a1 : (List Int)) (n2 : Nat) (a3 : Int) (a4 : Int) (a5 : Int) (g6 : (Int → Int → Option Int)) (F_g6 : Nat) (C_g6 : List AV) (hok_g6 : okFn Try.prog F_g6 = true) (hrun_g6 : ∀ (x0 : Int) (x1 : Int) r, g6 x0 x1 = some r → Run Try.prog (.call F_g6 ([I6 x0, I6 x1] ++ C_g6) (I6 r))) (r : (List Int)) (h : sl_siftDownCmpFunc_int fuel a1 n2 a3 a4 a5 g6 = some r) : Run Try.prog (.callM 120 [S1 n2, I6 a3, I6 a4, I6 a5, .clo F_g6 C_g6] [O1 a1] (.tup []) [O1 r]) := by
  refine callM_of_W Try.func120 rfl (by kernel_rfl) (env0 := [(0, S1 n2), (1, I6 a3), (2, I6 a4), (3, I6 a5), (4, .clo F_g6 C_g6), O1 a1]) (by kernel_rfl) ?_
  unfold sl_siftDownCmpFunc_int at h
  refine W.seq ?_
  refine W.regT [0, 2, 3, 4, 10, 2000000] [] [] [] (e2 := [(0, S1 n2), (2, I6 a4), (3, I6 a5), (4, .clo F_g6 C_g6), (10, I6 a3), O1 a1]) (by kernel_rfl) (by kernel_rfl) (fun _ h => h) ?_
  refine W.block ?_
  refine W.weak [0, 2, 3, 4, 10, 2000000] [] [] [] (env' := [(0, S1 n2), (2, I6 a4), (3, I6 a5), (4, .clo F_g6 C_g6), (10, I6 a3), O1 a1]) (by kernel_rfl) ?_
  refine W.fuel (σ := ((List Int) × Int)) (fun s => [(0, S1 n2), (2, I6 a4), (3, I6 a5), (4, .clo F_g6 C_g6), (10, I6 s.2), (2000000, .obj 3 1 (List.map (AV.int .i64) s.1))]) (fun m0 s => sl_siftDownCmpFunc_int_l1 n2 a4 a5 g6 m0 s.1 s.2 = some r) (fun s h => ?_) (fun m1 s h hN1 => ?_) fuel (a1, a3) h
  · obtain ⟨v8, v9⟩ := s
    have h : sl_siftDownCmpFunc_int_l1 n2 a4 a5 g6 0 v8 v9 = some r := h
    rw [sl_siftDownCmpFunc_int_l1.eq_1] at h
    cases h
  · obtain ⟨v8, v9⟩ := s
    have h : sl_siftDownCmpFunc_int_l1 n2 a4 a5 g6 (m1 + 1) v8 v9 = some r := h
    rw [sl_siftDownCmpFunc_int_l1.eq_2] at h
    refine W.block ?_
    refine W.seq ?_
    refine W.regT [0, 2, 3, 4, 10, 11, 2000000] [] [] [] (e2 := [(0, S1 n2), (2, I6 a4), (3, I6 a5), (4, .clo F_g6 C_g6), (10, I6 v9), (11, I6 (W6 ((W6 (2 * v9)) + 1))), O1 v8]) (by kernel_rfl) (by kernel_rfl) (fun _ h => h) ?_
    refine W.seq ?_
    refine W.seq ?_
    refine W.regT [0, 2, 3, 4, 10, 11, 18, 2000000] [] [] [] (e2 := [(0, S1 n2), (2, I6 a4), (3, I6 a5), (4, .clo F_g6 C_g6), (10, I6 v9), (11, I6 (W6 ((W6 (2 * v9)) + 1))), (18, .bool (decide ((W6 ((W6 (2 * v9)) + 1)) ≥ a4))), O1 v8]) (by kernel_rfl) (by kernel_rfl) (fun _ h => h) ?_
    refine W.condB (decide ((W6 ((W6 (2 * v9)) + 1)) ≥ a4)) (by kernel_rfl) (fun hb => ?_) (fun hb => ?_)
    · replace h := cond_t hb h
      have hr : PostM Try.prog Try.f120 (.tup []) [O1 v8] .normal [(0, S1 n2), (2, I6 a4), (3, I6 a5), (4, .clo F_g6 C_g6), (10, I6 v9), (11, I6 (W6 ((W6 (2 * v9)) + 1))), (18, .bool (decide ((W6 ((W6 (2 * v9)) + 1)) ≥ a4))), O1 v8] := ⟨by kernel_rfl, by kernel_rfl⟩
      cases h
      exact W.exit hr
    replace h := cond_f hb h
    refine W.skip ?_
    refine W.weak [0, 2, 3, 4, 10, 11, 2000000] [] [] [] (env' := [(0, S1 n2), (2, I6 a4), (3, I6 a5), (4, .clo F_g6 C_g6), (10, I6 v9), (11, I6 (W6 ((W6 (2 * v9)) + 1))), O1 v8]) (by kernel_rfl) ?_
    refine W.seq ?_
    refine W.join (σ := (Int)) (fun s => [(0, S1 n2), (2, I6 a4), (3, I6 a5), (4, .clo F_g6 C_g6), (10, I6 v9), (11, I6 s), O1 v8]) (fun s => (sl_siftDownCmpFunc_int_j13 n2 a5 g6 v8 v9 (sl_siftDownCmpFunc_int_l1 n2 a4 a5 g6 m1)) s = some r) (fun s h => ?_) (fun hK13 => ?_)
    · obtain ⟨v21, rfl⟩ : ∃ x, x = s := ⟨s, rfl⟩
      have h : (sl_siftDownCmpFunc_int_j13 n2 a5 g6 v8 v9 (sl_siftDownCmpFunc_int_l1 n2 a4 a5 g6 m1)) v21 = some r := h
      unfold sl_siftDownCmpFunc_int_j13 at h
      refine W.seq ?_
      refine W.seq ?_
      refine W.region (by kernel_rfl) ?_
      obtain ⟨hc24, h⟩ := chk_some h
      refine WO.pureK 5 (if (0 : Int) ≤ (W6 (a5 + v9)) ∧ (W6 (a5 + v9)) < ((n2 : Nat) : Int) then some (.pe 2000000 1 (0 + Int.toNat (W6 (a5 + v9))) 0) else none) (v := .pe 2000000 1 (0 + Int.toNat (W6 (a5 + v9))) 0) (by kernel_rfl) (ite_some hc24) (e1 := [(0, S1 n2), (2, I6 a4), (3, I6 a5), (4, .clo F_g6 C_g6), (10, I6 v9), (11, I6 v21), (43, .clo F_g6 C_g6), (44, S1 n2), (45, I6 a5), (46, I6 v9), (47, I6 (W6 (a5 + v9))), (48, .pe 2000000 1 (0 + Int.toNat (W6 (a5 + v9))) 0), O1 v8]) (by kernel_rfl) ?_
      obtain ⟨e25, he25, h⟩ := bind_some h
      refine WO.pureK 0 (match (List.map (AV.int .i64) v8)[(0 + Int.toNat (W6 (a5 + v9)))]? with | some y => cut Try.prog 3 (y.cells.map AV.strip) 0 | none => none) (v := I6 e25) (by kernel_rfl) ((pe_ld (f := (AV.int .i64)) (G := (fun y => cut Try.prog 3 (y.cells.map AV.strip) 0)) he25).trans (by kernel_rfl)) (e1 := [(0, S1 n2), (2, I6 a4), (3, I6 a5), (4, .clo F_g6 C_g6), (10, I6 v9), (11, I6 v21), (43, .clo F_g6 C_g6), (44, S1 n2), (45, I6 a5), (46, I6 v9), (47, I6 (W6 (a5 + v9))), (48, .pe 2000000 1 (0 + Int.toNat (W6 (a5 + v9))) 0), (49, I6 e25), O1 v8]) (by kernel_rfl) ?_
      obtain ⟨hc26, h⟩ := chk_some h
      refine WO.pureK 4 (if (0 : Int) ≤ (W6 (a5 + v21)) ∧ (W6 (a5 + v21)) < ((n2 : Nat) : Int) then some (.pe 2000000 1 (0 + Int.toNat (W6 (a5 + v21))) 0) else none) (v := .pe 2000000 1 (0 + Int.toNat (W6 (a5 + v21))) 0) (by kernel_rfl) (ite_some hc26) (e1 := [(0, S1 n2), (2, I6 a4), (3, I6 a5), (4, .clo F_g6 C_g6), (10, I6 v9), (11, I6 v21), (43, .clo F_g6 C_g6), (44, S1 n2), (45, I6 a5), (46, I6 v9), (47, I6 (W6 (a5 + v9))), (48, .pe 2000000 1 (0 + Int.toNat (W6 (a5 + v9))) 0), (49, I6 e25), (50, S1 n2), (51, I6 a5), (52, I6 v21), (53, I6 (W6 (a5 + v21))), (54, .pe 2000000 1 (0 + Int.toNat (W6 (a5 + v21))) 0), O1 v8]) (by kernel_rfl) ?_
      obtain ⟨e27, he27, h⟩ := bind_some h
      refine WO.pureK 0 (match (List.map (AV.int .i64) v8)[(0 + Int.toNat (W6 (a5 + v21)))]? with | some y => cut Try.prog 3 (y.cells.map AV.strip) 0 | none => none) (v := I6 e27) (by kernel_rfl) ((pe_ld (f := (AV.int .i64)) (G := (fun y => cut Try.prog 3 (y.cells.map AV.strip) 0)) he27).trans (by kernel_rfl)) (e1 := [(0, S1 n2), (2, I6 a4), (3, I6 a5), (4, .clo F_g6 C_g6), (10, I6 v9), (11, I6 v21), (43, .clo F_g6 C_g6), (44, S1 n2), (45, I6 a5), (46, I6 v9), (47, I6 (W6 (a5 + v9))), (48, .pe 2000000 1 (0 + Int.toNat (W6 (a5 + v9))) 0), (49, I6 e25), (50, S1 n2), (51, I6 a5), (52, I6 v21), (53, I6 (W6 (a5 + v21))), (54, .pe 2000000 1 (0 + Int.toNat (W6 (a5 + v21))) 0), (55, I6 e27), O1 v8]) (by kernel_rfl) ?_
      obtain ⟨w28, hw28, h⟩ := bind_some h
      refine WO.callK 0 (F := F_g6) (l := [I6 e25, I6 e27]) (C := C_g6) (r := I6 w28) (by kernel_rfl) hok_g6 (hrun_g6 e25 e27 w28 hw28) (e1 := [(0, S1 n2), (2, I6 a4), (3, I6 a5), (4, .clo F_g6 C_g6), (10, I6 v9), (11, I6 v21), (43, .clo F_g6 C_g6), (44, S1 n2), (45, I6 a5), (46, I6 v9), (47, I6 (W6 (a5 + v9))), (48, .pe 2000000 1 (0 + Int.toNat (W6 (a5 + v9))) 0), (49, I6 e25), (50, S1 n2), (51, I6 a5), (52, I6 v21), (53, I6 (W6 (a5 + v21))), (54, .pe 2000000 1 (0 + Int.toNat (W6 (a5 + v21))) 0), (55, I6 e27), (56, I6 w28), O1 v8]) (by kernel_rfl) ?_
      refine WO.fin [0, 2, 3, 4, 10, 11, 58, 2000000] [] [] [] (e2 := [(0, S1 n2), (2, I6 a4), (3, I6 a5), (4, .clo F_g6 C_g6), (10, I6 v9), (11, I6 v21), (58, .bool (!(decide (w28 < 0)))), O1 v8]) (by kernel_rfl) (fun _ h => h) ?_
      refine W.condB (!(decide (w28 < 0))) (by kernel_rfl) (fun hb => ?_) (fun hb => ?_)
      · replace h := cond_t hb h
        refine W.weak [2000000] [] [] [] (env' := [O1 v8]) (by kernel_rfl) ?_
        have hr : PostM Try.prog Try.f120 (.tup []) [O1 v8] .ret [O1 v8] := ⟨by kernel_rfl, by kernel_rfl⟩
        cases h
        exact W.ret hr
      replace h := cond_f hb h
      refine W.skip ?_
      refine W.weak [0, 2, 3, 4, 10, 11, 2000000] [] [] [] (env' := [(0, S1 n2), (2, I6 a4), (3, I6 a5), (4, .clo F_g6 C_g6), (10, I6 v9), (11, I6 v21), O1 v8]) (by kernel_rfl) ?_
      refine W.seq ?_
      refine W.region (by kernel_rfl) ?_
      obtain ⟨hc30, h⟩ := chk_some h
      refine WO.pureK 12 (if (0 : Int) ≤ (W6 (a5 + v21)) ∧ (W6 (a5 + v21)) < ((n2 : Nat) : Int) then some (.pe 2000000 1 (0 + Int.toNat (W6 (a5 + v21))) 0) else none) (v := .pe 2000000 1 (0 + Int.toNat (W6 (a5 + v21))) 0) (by kernel_rfl) (ite_some hc30) (e1 := [(0, S1 n2), (2, I6 a4), (3, I6 a5), (4, .clo F_g6 C_g6), (10, I6 v9), (11, I6 v21), (59, S1 n2), (60, I6 a5), (61, I6 v9), (62, I6 (W6 (a5 + v9))), (63, S1 n2), (64, I6 a5), (65, I6 v21), (66, I6 (W6 (a5 + v21))), (67, S1 n2), (68, I6 a5), (69, I6 v21), (70, I6 (W6 (a5 + v21))), (71, .pe 2000000 1 (0 + Int.toNat (W6 (a5 + v21))) 0), O1 v8]) (by kernel_rfl) ?_
      obtain ⟨e31, he31, h⟩ := bind_some h
      refine WO.pureK 0 (match (List.map (AV.int .i64) v8)[(0 + Int.toNat (W6 (a5 + v21)))]? with | some y => cut Try.prog 3 (y.cells.map AV.strip) 0 | none => none) (v := I6 e31) (by kernel_rfl) ((pe_ld (f := (AV.int .i64)) (G := (fun y => cut Try.prog 3 (y.cells.map AV.strip) 0)) he31).trans (by kernel_rfl)) (e1 := [(0, S1 n2), (2, I6 a4), (3, I6 a5), (4, .clo F_g6 C_g6), (10, I6 v9), (11, I6 v21), (59, S1 n2), (60, I6 a5), (61, I6 v9), (62, I6 (W6 (a5 + v9))), (63, S1 n2), (64, I6 a5), (65, I6 v21), (66, I6 (W6 (a5 + v21))), (67, S1 n2), (68, I6 a5), (69, I6 v21), (70, I6 (W6 (a5 + v21))), (71, .pe 2000000 1 (0 + Int.toNat (W6 (a5 + v21))) 0), (72, I6 e31), O1 v8]) (by kernel_rfl) ?_
      obtain ⟨hc32, h⟩ := chk_some h
      refine WO.pureK 4 (if (0 : Int) ≤ (W6 (a5 + v9)) ∧ (W6 (a5 + v9)) < ((n2 : Nat) : Int) then some (.pe 2000000 1 (0 + Int.toNat (W6 (a5 + v9))) 0) else none) (v := .pe 2000000 1 (0 + Int.toNat (W6 (a5 + v9))) 0) (by kernel_rfl) (ite_some hc32) (e1 := [(0, S1 n2), (2, I6 a4), (3, I6 a5), (4, .clo F_g6 C_g6), (10, I6 v9), (11, I6 v21), (59, S1 n2), (60, I6 a5), (61, I6 v9), (62, I6 (W6 (a5 + v9))), (63, S1 n2), (64, I6 a5), (65, I6 v21), (66, I6 (W6 (a5 + v21))), (67, S1 n2), (68, I6 a5), (69, I6 v21), (70, I6 (W6 (a5 + v21))), (71, .pe 2000000 1 (0 + Int.toNat (W6 (a5 + v21))) 0), (72, I6 e31), (73, S1 n2), (74, I6 a5), (75, I6 v9), (76, I6 (W6 (a5 + v9))), (77, .pe 2000000 1 (0 + Int.toNat (W6 (a5 + v9))) 0), O1 v8]) (by kernel_rfl) ?_
      obtain ⟨e33, he33, h⟩ := bind_some h
      refine WO.pureK 0 (match (List.map (AV.int .i64) v8)[(0 + Int.toNat (W6 (a5 + v9)))]? with | some y => cut Try.prog 3 (y.cells.map AV.strip) 0 | none => none) (v := I6 e33) (by kernel_rfl) ((pe_ld (f := (AV.int .i64)) (G := (fun y => cut Try.prog 3 (y.cells.map AV.strip) 0)) he33).trans (by kernel_rfl)) (e1 := [(0, S1 n2), (2, I6 a4), (3, I6 a5), (4, .clo F_g6 C_g6), (10, I6 v9), (11, I6 v21), (59, S1 n2), (60, I6 a5), (61, I6 v9), (62, I6 (W6 (a5 + v9))), (63, S1 n2), (64, I6 a5), (65, I6 v21), (66, I6 (W6 (a5 + v21))), (67, S1 n2), (68, I6 a5), (69, I6 v21), (70, I6 (W6 (a5 + v21))), (71, .pe 2000000 1 (0 + Int.toNat (W6 (a5 + v21))) 0), (72, I6 e31), (73, S1 n2), (74, I6 a5), (75, I6 v9), (76, I6 (W6 (a5 + v9))), (77, .pe 2000000 1 (0 + Int.toNat (W6 (a5 + v9))) 0), (78, I6 e33), O1 v8]) (by kernel_rfl) ?_
      obtain ⟨hc34, h⟩ := chk_some h
      refine WO.pureK 0 (if (0 : Int) ≤ (W6 (a5 + v9)) ∧ (W6 (a5 + v9)) < ((n2 : Nat) : Int) then some (.pe 2000000 1 (0 + Int.toNat (W6 (a5 + v9))) 0) else none) (v := .pe 2000000 1 (0 + Int.toNat (W6 (a5 + v9))) 0) (by kernel_rfl) (ite_some hc34) (e1 := [(0, S1 n2), (2, I6 a4), (3, I6 a5), (4, .clo F_g6 C_g6), (10, I6 v9), (11, I6 v21), (59, S1 n2), (60, I6 a5), (61, I6 v9), (62, I6 (W6 (a5 + v9))), (63, S1 n2), (64, I6 a5), (65, I6 v21), (66, I6 (W6 (a5 + v21))), (67, S1 n2), (68, I6 a5), (69, I6 v21), (70, I6 (W6 (a5 + v21))), (71, .pe 2000000 1 (0 + Int.toNat (W6 (a5 + v21))) 0), (72, I6 e31), (73, S1 n2), (74, I6 a5), (75, I6 v9), (76, I6 (W6 (a5 + v9))), (77, .pe 2000000 1 (0 + Int.toNat (W6 (a5 + v9))) 0), (78, I6 e33), (79, .pe 2000000 1 (0 + Int.toNat (W6 (a5 + v9))) 0), O1 v8]) (by kernel_rfl) ?_
      obtain ⟨u35, hu35, h⟩ := bind_some h
      obtain ⟨y36, hyy36, hzy36⟩ := upd_some hu35
      refine WO.storeK 0 (id := 2000000) (e := 3) (s := 1) (j := (0 + Int.toNat (W6 (a5 + v9)))) (off := 0) (vs := [I6 e31]) (xs := (List.map (AV.int .i64) v8)) (zs := (List.map (AV.int .i64) u35)) (y := ((AV.int .i64)) y36) (y' := ((AV.int .i64)) e31) (by kernel_rfl) (upd_get hyy36) (by kernel_rfl) (upd_set hzy36) (e1 := [(0, S1 n2), (2, I6 a4), (3, I6 a5), (4, .clo F_g6 C_g6), (10, I6 v9), (11, I6 v21), (59, S1 n2), (60, I6 a5), (61, I6 v9), (62, I6 (W6 (a5 + v9))), (63, S1 n2), (64, I6 a5), (65, I6 v21), (66, I6 (W6 (a5 + v21))), (67, S1 n2), (68, I6 a5), (69, I6 v21), (70, I6 (W6 (a5 + v21))), (71, .pe 2000000 1 (0 + Int.toNat (W6 (a5 + v21))) 0), (72, I6 e31), (73, S1 n2), (74, I6 a5), (75, I6 v9), (76, I6 (W6 (a5 + v9))), (77, .pe 2000000 1 (0 + Int.toNat (W6 (a5 + v9))) 0), (78, I6 e33), (79, .pe 2000000 1 (0 + Int.toNat (W6 (a5 + v9))) 0), O1 u35]) (by kernel_rfl) ?_
      obtain ⟨hc37, h⟩ := chk_some h
      refine WO.pureK 0 (if (0 : Int) ≤ (W6 (a5 + v21)) ∧ (W6 (a5 + v21)) < ((n2 : Nat) : Int) then some (.pe 2000000 1 (0 + Int.toNat (W6 (a5 + v21))) 0) else none) (v := .pe 2000000 1 (0 + Int.toNat (W6 (a5 + v21))) 0) (by kernel_rfl) (ite_some hc37) (e1 := [(0, S1 n2), (2, I6 a4), (3, I6 a5), (4, .clo F_g6 C_g6), (10, I6 v9), (11, I6 v21), (59, S1 n2), (60, I6 a5), (61, I6 v9), (62, I6 (W6 (a5 + v9))), (63, S1 n2), (64, I6 a5), (65, I6 v21), (66, I6 (W6 (a5 + v21))), (67, S1 n2), (68, I6 a5), (69, I6 v21), (70, I6 (W6 (a5 + v21))), (71, .pe 2000000 1 (0 + Int.toNat (W6 (a5 + v21))) 0), (72, I6 e31), (73, S1 n2), (74, I6 a5), (75, I6 v9), (76, I6 (W6 (a5 + v9))), (77, .pe 2000000 1 (0 + Int.toNat (W6 (a5 + v9))) 0), (78, I6 e33), (79, .pe 2000000 1 (0 + Int.toNat (W6 (a5 + v9))) 0), (80, .pe 2000000 1 (0 + Int.toNat (W6 (a5 + v21))) 0), O1 u35]) (by kernel_rfl) ?_
      obtain ⟨u38, hu38, h⟩ := bind_some h
      obtain ⟨y39, hyy39, hzy39⟩ := upd_some hu38
      refine WO.storeK 0 (id := 2000000) (e := 3) (s := 1) (j := (0 + Int.toNat (W6 (a5 + v21)))) (off := 0) (vs := [I6 e33]) (xs := (List.map (AV.int .i64) u35)) (zs := (List.map (AV.int .i64) u38)) (y := ((AV.int .i64)) y39) (y' := ((AV.int .i64)) e33) (by kernel_rfl) (upd_get hyy39) (by kernel_rfl) (upd_set hzy39) (e1 := [(0, S1 n2), (2, I6 a4), (3, I6 a5), (4, .clo F_g6 C_g6), (10, I6 v9), (11, I6 v21), (59, S1 n2), (60, I6 a5), (61, I6 v9), (62, I6 (W6 (a5 + v9))), (63, S1 n2), (64, I6 a5), (65, I6 v21), (66, I6 (W6 (a5 + v21))), (67, S1 n2), (68, I6 a5), (69, I6 v21), (70, I6 (W6 (a5 + v21))), (71, .pe 2000000 1 (0 + Int.toNat (W6 (a5 + v21))) 0), (72, I6 e31), (73, S1 n2), (74, I6 a5), (75, I6 v9), (76, I6 (W6 (a5 + v9))), (77, .pe 2000000 1 (0 + Int.toNat (W6 (a5 + v9))) 0), (78, I6 e33), (79, .pe 2000000 1 (0 + Int.toNat (W6 (a5 + v9))) 0), (80, .pe 2000000 1 (0 + Int.toNat (W6 (a5 + v21))) 0), O1 u38]) (by kernel_rfl) ?_
      refine WO.fin [0, 2, 3, 4, 11, 2000000] [] [] [] (e2 := [(0, S1 n2), (2, I6 a4), (3, I6 a5), (4, .clo F_g6 C_g6), (11, I6 v21), O1 u38]) (by kernel_rfl) (fun _ h => h) ?_
      refine W.regT [0, 2, 3, 4, 10, 2000000] [] [] [] (e2 := [(0, S1 n2), (2, I6 a4), (3, I6 a5), (4, .clo F_g6 C_g6), (10, I6 v21), O1 u38]) (by kernel_rfl) (by kernel_rfl) (fun _ h => h) ?_
      exact hN1 (u38, v21) h
    refine W.seq ?_
    refine W.join (σ := (Bool)) (fun s => [(0, S1 n2), (2, I6 a4), (3, I6 a5), (4, .clo F_g6 C_g6), (10, I6 v9), (11, I6 (W6 ((W6 (2 * v9)) + 1))), (40, .bool s), O1 v8]) (fun s => (sl_siftDownCmpFunc_int_j14 v9 (sl_siftDownCmpFunc_int_j13 n2 a5 g6 v8 v9 (sl_siftDownCmpFunc_int_l1 n2 a4 a5 g6 m1))) s = some r) (fun s h => ?_) (fun hK14 => ?_)
    · obtain ⟨v20, rfl⟩ : ∃ x, x = s := ⟨s, rfl⟩
      have h : (sl_siftDownCmpFunc_int_j14 v9 (sl_siftDownCmpFunc_int_j13 n2 a5 g6 v8 v9 (sl_siftDownCmpFunc_int_l1 n2 a4 a5 g6 m1))) v20 = some r := h
      unfold sl_siftDownCmpFunc_int_j14 at h
      refine W.condB v20 (by kernel_rfl) (fun hb => ?_) (fun hb => ?_)
      · replace h := cond_t hb h
        refine W.regT [0, 2, 3, 4, 10, 11, 2000000] [] [] [] (e2 := [(0, S1 n2), (2, I6 a4), (3, I6 a5), (4, .clo F_g6 C_g6), (10, I6 v9), (11, I6 (W6 ((W6 ((W6 (2 * v9)) + 1)) + 1))), O1 v8]) (by kernel_rfl) (by kernel_rfl) (fun _ h => h) ?_
        exact hK13 (W6 ((W6 ((W6 (2 * v9)) + 1)) + 1)) h
      replace h := cond_f hb h
      refine W.skip ?_
      refine W.weak [0, 2, 3, 4, 10, 11, 2000000] [] [] [] (env' := [(0, S1 n2), (2, I6 a4), (3, I6 a5), (4, .clo F_g6 C_g6), (10, I6 v9), (11, I6 (W6 ((W6 (2 * v9)) + 1))), O1 v8]) (by kernel_rfl) ?_
      exact hK13 (W6 ((W6 (2 * v9)) + 1)) h
    refine W.region (by kernel_rfl) ?_
    refine WO.boolK 5 (fun b => [(0, S1 n2), (2, I6 a4), (3, I6 a5), (4, .clo F_g6 C_g6), (10, I6 v9), (11, I6 (W6 ((W6 (2 * v9)) + 1))), (19, I6 (W6 ((W6 (2 * v9)) + 1))), (20, I6 (W6 ((W6 ((W6 (2 * v9)) + 1)) + 1))), (21, I6 a4), (22, .bool b), (23, .bool b), O1 v8]) (decide ((W6 ((W6 ((W6 (2 * v9)) + 1)) + 1)) < a4)) (by kernel_rfl) (fun hb => ?_) (fun hb => ?_)
    · replace h := cond_t hb h
      obtain ⟨hc15, h⟩ := chk_some h
      refine WO.pureK 5 (if (0 : Int) ≤ (W6 (a5 + (W6 ((W6 (2 * v9)) + 1)))) ∧ (W6 (a5 + (W6 ((W6 (2 * v9)) + 1)))) < ((n2 : Nat) : Int) then some (.pe 2000000 1 (0 + Int.toNat (W6 (a5 + (W6 ((W6 (2 * v9)) + 1))))) 0) else none) (v := .pe 2000000 1 (0 + Int.toNat (W6 (a5 + (W6 ((W6 (2 * v9)) + 1))))) 0) (by kernel_rfl) (ite_some hc15) (e1 := [(0, S1 n2), (2, I6 a4), (3, I6 a5), (4, .clo F_g6 C_g6), (10, I6 v9), (11, I6 (W6 ((W6 (2 * v9)) + 1))), (19, I6 (W6 ((W6 (2 * v9)) + 1))), (20, I6 (W6 ((W6 ((W6 (2 * v9)) + 1)) + 1))), (21, I6 a4), (22, .bool true), (23, .bool true), (24, .clo F_g6 C_g6), (25, S1 n2), (26, I6 a5), (27, I6 (W6 ((W6 (2 * v9)) + 1))), (28, I6 (W6 (a5 + (W6 ((W6 (2 * v9)) + 1))))), (29, .pe 2000000 1 (0 + Int.toNat (W6 (a5 + (W6 ((W6 (2 * v9)) + 1))))) 0), O1 v8]) (by kernel_rfl) ?_
      obtain ⟨e16, he16, h⟩ := bind_some h
      refine WO.pureK 0 (match (List.map (AV.int .i64) v8)[(0 + Int.toNat (W6 (a5 + (W6 ((W6 (2 * v9)) + 1)))))]? with | some y => cut Try.prog 3 (y.cells.map AV.strip) 0 | none => none) (v := I6 e16) (by kernel_rfl) ((pe_ld (f := (AV.int .i64)) (G := (fun y => cut Try.prog 3 (y.cells.map AV.strip) 0)) he16).trans (by kernel_rfl)) (e1 := [(0, S1 n2), (2, I6 a4), (3, I6 a5), (4, .clo F_g6 C_g6), (10, I6 v9), (11, I6 (W6 ((W6 (2 * v9)) + 1))), (19, I6 (W6 ((W6 (2 * v9)) + 1))), (20, I6 (W6 ((W6 ((W6 (2 * v9)) + 1)) + 1))), (21, I6 a4), (22, .bool true), (23, .bool true), (24, .clo F_g6 C_g6), (25, S1 n2), (26, I6 a5), (27, I6 (W6 ((W6 (2 * v9)) + 1))), (28, I6 (W6 (a5 + (W6 ((W6 (2 * v9)) + 1))))), (29, .pe 2000000 1 (0 + Int.toNat (W6 (a5 + (W6 ((W6 (2 * v9)) + 1))))) 0), (30, I6 e16), O1 v8]) (by kernel_rfl) ?_
      obtain ⟨hc17, h⟩ := chk_some h
      refine WO.pureK 5 (if (0 : Int) ≤ (W6 ((W6 (a5 + (W6 ((W6 (2 * v9)) + 1)))) + 1)) ∧ (W6 ((W6 (a5 + (W6 ((W6 (2 * v9)) + 1)))) + 1)) < ((n2 : Nat) : Int) then some (.pe 2000000 1 (0 + Int.toNat (W6 ((W6 (a5 + (W6 ((W6 (2 * v9)) + 1)))) + 1))) 0) else none) (v := .pe 2000000 1 (0 + Int.toNat (W6 ((W6 (a5 + (W6 ((W6 (2 * v9)) + 1)))) + 1))) 0) (by kernel_rfl) (ite_some hc17) (e1 := [(0, S1 n2), (2, I6 a4), (3, I6 a5), (4, .clo F_g6 C_g6), (10, I6 v9), (11, I6 (W6 ((W6 (2 * v9)) + 1))), (19, I6 (W6 ((W6 (2 * v9)) + 1))), (20, I6 (W6 ((W6 ((W6 (2 * v9)) + 1)) + 1))), (21, I6 a4), (22, .bool true), (23, .bool true), (24, .clo F_g6 C_g6), (25, S1 n2), (26, I6 a5), (27, I6 (W6 ((W6 (2 * v9)) + 1))), (28, I6 (W6 (a5 + (W6 ((W6 (2 * v9)) + 1))))), (29, .pe 2000000 1 (0 + Int.toNat (W6 (a5 + (W6 ((W6 (2 * v9)) + 1))))) 0), (30, I6 e16), (31, S1 n2), (32, I6 a5), (33, I6 (W6 ((W6 (2 * v9)) + 1))), (34, I6 (W6 (a5 + (W6 ((W6 (2 * v9)) + 1))))), (35, I6 (W6 ((W6 (a5 + (W6 ((W6 (2 * v9)) + 1)))) + 1))), (36, .pe 2000000 1 (0 + Int.toNat (W6 ((W6 (a5 + (W6 ((W6 (2 * v9)) + 1)))) + 1))) 0), O1 v8]) (by kernel_rfl) ?_
      obtain ⟨e18, he18, h⟩ := bind_some h
      refine WO.pureK 0 (match (List.map (AV.int .i64) v8)[(0 + Int.toNat (W6 ((W6 (a5 + (W6 ((W6 (2 * v9)) + 1)))) + 1)))]? with | some y => cut Try.prog 3 (y.cells.map AV.strip) 0 | none => none) (v := I6 e18) (by kernel_rfl) ((pe_ld (f := (AV.int .i64)) (G := (fun y => cut Try.prog 3 (y.cells.map AV.strip) 0)) he18).trans (by kernel_rfl)) (e1 := [(0, S1 n2), (2, I6 a4), (3, I6 a5), (4, .clo F_g6 C_g6), (10, I6 v9), (11, I6 (W6 ((W6 (2 * v9)) + 1))), (19, I6 (W6 ((W6 (2 * v9)) + 1))), (20, I6 (W6 ((W6 ((W6 (2 * v9)) + 1)) + 1))), (21, I6 a4), (22, .bool true), (23, .bool true), (24, .clo F_g6 C_g6), (25, S1 n2), (26, I6 a5), (27, I6 (W6 ((W6 (2 * v9)) + 1))), (28, I6 (W6 (a5 + (W6 ((W6 (2 * v9)) + 1))))), (29, .pe 2000000 1 (0 + Int.toNat (W6 (a5 + (W6 ((W6 (2 * v9)) + 1))))) 0), (30, I6 e16), (31, S1 n2), (32, I6 a5), (33, I6 (W6 ((W6 (2 * v9)) + 1))), (34, I6 (W6 (a5 + (W6 ((W6 (2 * v9)) + 1))))), (35, I6 (W6 ((W6 (a5 + (W6 ((W6 (2 * v9)) + 1)))) + 1))), (36, .pe 2000000 1 (0 + Int.toNat (W6 ((W6 (a5 + (W6 ((W6 (2 * v9)) + 1)))) + 1))) 0), (37, I6 e18), O1 v8]) (by kernel_rfl) ?_
      obtain ⟨w19, hw19, h⟩ := bind_some h
      refine WO.callK 0 (F := F_g6) (l := [I6 e16, I6 e18]) (C := C_g6) (r := I6 w19) (by kernel_rfl) hok_g6 (hrun_g6 e16 e18 w19 hw19) (e1 := [(0, S1 n2), (2, I6 a4), (3, I6 a5), (4, .clo F_g6 C_g6), (10, I6 v9), (11, I6 (W6 ((W6 (2 * v9)) + 1))), (19, I6 (W6 ((W6 (2 * v9)) + 1))), (20, I6 (W6 ((W6 ((W6 (2 * v9)) + 1)) + 1))), (21, I6 a4), (22, .bool true), (23, .bool true), (24, .clo F_g6 C_g6), (25, S1 n2), (26, I6 a5), (27, I6 (W6 ((W6 (2 * v9)) + 1))), (28, I6 (W6 (a5 + (W6 ((W6 (2 * v9)) + 1))))), (29, .pe 2000000 1 (0 + Int.toNat (W6 (a5 + (W6 ((W6 (2 * v9)) + 1))))) 0), (30, I6 e16), (31, S1 n2), (32, I6 a5), (33, I6 (W6 ((W6 (2 * v9)) + 1))), (34, I6 (W6 (a5 + (W6 ((W6 (2 * v9)) + 1))))), (35, I6 (W6 ((W6 (a5 + (W6 ((W6 (2 * v9)) + 1)))) + 1))), (36, .pe 2000000 1 (0 + Int.toNat (W6 ((W6 (a5 + (W6 ((W6 (2 * v9)) + 1)))) + 1))) 0), (37, I6 e18), (38, I6 w19), O1 v8]) (by kernel_rfl) ?_
      refine WO.fin [0, 2, 3, 4, 10, 11, 40, 2000000] [] [] [] (e2 := [(0, S1 n2), (2, I6 a4), (3, I6 a5), (4, .clo F_g6 C_g6), (10, I6 v9), (11, I6 (W6 ((W6 (2 * v9)) + 1))), (40, .bool (decide (w19 < 0))), O1 v8]) (by kernel_rfl) (fun _ h => h) ?_
      exact hK14 (decide (w19 < 0)) h
    replace h := cond_f hb h
    refine WO.fin [0, 2, 3, 4, 10, 11, 40, 2000000] [] [] [] (e2 := [(0, S1 n2), (2, I6 a4), (3, I6 a5), (4, .clo F_g6 C_g6), (10, I6 v9), (11, I6 (W6 ((W6 (2 * v9)) + 1))), (40, .bool false), O1 v8]) (by kernel_rfl) (fun _ h => h) ?_
    exact hK14 false h
def sl_heapSortCmpFunc_int_l2 (fuel : Nat) (n2 : Nat) (a3 : Int) (g5 : (Int → Int → Option Int)) : Nat → (List Int) → Int → Option (List Int)
  | 0, _, _ => none
  | m2 + 1, v19, v20 => (bif (decide (v20 ≥ 0)) then (chk (decide ((0 : Int) ≤ (IntKind.wrap .i64 (a3 + v20)) ∧ (IntKind.wrap .i64 (a3 + v20)) < ((n2 : Nat) : Int))) ((v19[(0 + Int.toNat (IntKind.wrap .i64 (a3 + v20)))]?).bind fun e26 => (chk (decide ((0 : Int) ≤ a3 ∧ a3 < ((n2 : Nat) : Int))) ((v19[(0 + Int.toNat a3)]?).bind fun e28 => (chk (decide ((0 : Int) ≤ a3 ∧ a3 < ((n2 : Nat) : Int))) ((upd v19 (0 + Int.toNat a3) e26).bind fun u30 => (chk (decide ((0 : Int) ≤ (IntKind.wrap .i64 (a3 + v20)) ∧ (IntKind.wrap .i64 (a3 + v20)) < ((n2 : Nat) : Int))) ((upd u30 (0 + Int.toNat (IntKind.wrap .i64 (a3 + v20))) e28).bind fun u33 => ((sl_siftDownCmpFunc_int fuel u33 n2 0 v20 a3 g5).bind fun w35 => ((sl_heapSortCmpFunc_int_l2 fuel n2 a3 g5 m2) w35 (IntKind.wrap .i64 (v20 - 1)))))))))))) else (some v19))
def sl_heapSortCmpFunc_int_j9 (fuel : Nat) (n2 : Nat) (a3 : Int) (a4 : Int) (g5 : (Int → Int → Option Int)) (v17 : (List Int)) : Option (List Int) :=
  (sl_heapSortCmpFunc_int_l2 fuel n2 a3 g5 fuel v17 (IntKind.wrap .i64 ((IntKind.wrap .i64 (a4 - a3)) - 1)))
def sl_heapSortCmpFunc_int_l1 (fuel : Nat) (n2 : Nat) (a3 : Int) (a4 : Int) (g5 : (Int → Int → Option Int)) (K9 : ((List Int) → Option (List Int))) : Nat → (List Int) → Int → Option (List Int)
  | 0, _, _ => none
  | m1 + 1, v11, v12 => (bif (decide (v12 ≥ 0)) then ((sl_siftDownCmpFunc_int fuel v11 n2 v12 (IntKind.wrap .i64 (a4 - a3)) a3 g5).bind fun w16 => ((sl_heapSortCmpFunc_int_l1 fuel n2 a3 a4 g5 K9 m1) w16 (IntKind.wrap .i64 (v12 - 1)))) else (K9 v11))
def sl_heapSortCmpFunc_int (fuel : Nat) (a1 : (List Int)) (n2 : Nat) (a3 : Int) (a4 : Int) (g5 : (Int → Int → Option Int)) : Option (List Int) :=
  (sl_heapSortCmpFunc_int_l1 fuel n2 a3 a4 g5 (sl_heapSortCmpFunc_int_j9 fuel n2 a3 a4 g5) fuel a1 (IntKind.wrap .i64 (((IntKind.wrap .i64 ((IntKind.wrap .i64 (a4 - a3)) - 1))).tdiv 2)))
theorem run_sl_heapSortCmpFunc_int (fuel : Nat) (a1 : (List Int)) (n2 : Nat) (a3 : Int) (a4 : Int) (g5 : (Int → Int → Option Int)) (F_g5 : Nat) (C_g5 : List AV) (hok_g5 : okFn Try.prog F_g5 = true) (hrun_g5 : ∀ (x0 : Int) (x1 : Int) r, g5 x0 x1 = some r → Run Try.prog (.call F_g5 ([I6 x0, I6 x1] ++ C_g5) (I6 r))) (r : (List Int)) (h : sl_heapSortCmpFunc_int fuel a1 n2 a3 a4 g5 = some r) : Run Try.prog (.callM 97 [S1 n2, I6 a3, I6 a4, .clo F_g5 C_g5] [O1 a1] (.tup []) [O1 r]) := by
  refine callM_of_W Try.func97 rfl (by kernel_rfl) (env0 := [(0, S1 n2), (1, I6 a3), (2, I6 a4), (3, .clo F_g5 C_g5), O1 a1]) (by kernel_rfl) ?_
  unfold sl_heapSortCmpFunc_int at h
  refine W.seq ?_
  refine W.regT [0, 1, 2, 3, 8, 2000000] [] [] [] (e2 := [(0, S1 n2), (1, I6 a3), (2, I6 a4), (3, .clo F_g5 C_g5), (8, I6 a3), O1 a1]) (by kernel_rfl) (by kernel_rfl) (fun _ h => h) ?_
  refine W.seq ?_
  refine W.regT [0, 1, 2, 3, 8, 9, 2000000] [] [] [] (e2 := [(0, S1 n2), (1, I6 a3), (2, I6 a4), (3, .clo F_g5 C_g5), (8, I6 a3), (9, .int .i64 0), O1 a1]) (by kernel_rfl) (by kernel_rfl) (fun _ h => h) ?_
  refine W.seq ?_
  refine W.regT [0, 3, 8, 9, 10, 2000000] [] [] [] (e2 := [(0, S1 n2), (3, .clo F_g5 C_g5), (8, I6 a3), (9, .int .i64 0), (10, I6 (W6 (a4 - a3))), O1 a1]) (by kernel_rfl) (by kernel_rfl) (fun _ h => h) ?_
  refine W.seq ?_
  refine W.join (σ := ((List Int))) (fun s => [(0, S1 n2), (3, .clo F_g5 C_g5), (8, I6 a3), (9, .int .i64 0), (10, I6 (W6 (a4 - a3))), O1 s]) (fun s => (sl_heapSortCmpFunc_int_j9 fuel n2 a3 a4 g5) s = some r) (fun s h => ?_) (fun hK9 => ?_)
  · obtain ⟨v17, rfl⟩ : ∃ x, x = s := ⟨s, rfl⟩
    have h : (sl_heapSortCmpFunc_int_j9 fuel n2 a3 a4 g5) v17 = some r := h
    unfold sl_heapSortCmpFunc_int_j9 at h
    refine W.seq ?_
    refine W.regT [0, 3, 8, 9, 12, 2000000] [] [] [] (e2 := [(0, S1 n2), (3, .clo F_g5 C_g5), (8, I6 a3), (9, .int .i64 0), (12, I6 (W6 ((W6 (a4 - a3)) - 1))), O1 v17]) (by kernel_rfl) (by kernel_rfl) (fun _ h => h) ?_
    refine W.block ?_
    refine W.weak [0, 3, 8, 9, 12, 2000000] [] [] [] (env' := [(0, S1 n2), (3, .clo F_g5 C_g5), (8, I6 a3), (9, .int .i64 0), (12, I6 (W6 ((W6 (a4 - a3)) - 1))), O1 v17]) (by kernel_rfl) ?_
    refine W.fuel (σ := ((List Int) × Int)) (fun s => [(0, S1 n2), (3, .clo F_g5 C_g5), (8, I6 a3), (9, .int .i64 0), (12, I6 s.2), (2000000, .obj 3 1 (List.map (AV.int .i64) s.1))]) (fun m0 s => sl_heapSortCmpFunc_int_l2 fuel n2 a3 g5 m0 s.1 s.2 = some r) (fun s h => ?_) (fun m2 s h hN2 => ?_) fuel (v17, (W6 ((W6 (a4 - a3)) - 1))) h
    · obtain ⟨v19, v20⟩ := s
      have h : sl_heapSortCmpFunc_int_l2 fuel n2 a3 g5 0 v19 v20 = some r := h
      rw [sl_heapSortCmpFunc_int_l2.eq_1] at h
      cases h
    · obtain ⟨v19, v20⟩ := s
      have h : sl_heapSortCmpFunc_int_l2 fuel n2 a3 g5 (m2 + 1) v19 v20 = some r := h
      rw [sl_heapSortCmpFunc_int_l2.eq_2] at h
      refine W.seq ?_
      refine W.seq ?_
      refine W.regT [0, 3, 8, 9, 12, 33, 2000000] [] [] [] (e2 := [(0, S1 n2), (3, .clo F_g5 C_g5), (8, I6 a3), (9, .int .i64 0), (12, I6 v20), (33, .bool (decide (v20 ≥ 0))), O1 v19]) (by kernel_rfl) (by kernel_rfl) (fun _ h => h) ?_
      refine W.condB (decide (v20 ≥ 0)) (by kernel_rfl) (fun hb => ?_) (fun hb => ?_)
      · replace h := cond_t hb h
        refine W.skip ?_
        refine W.weak [0, 3, 8, 9, 12, 2000000] [] [] [] (env' := [(0, S1 n2), (3, .clo F_g5 C_g5), (8, I6 a3), (9, .int .i64 0), (12, I6 v20), O1 v19]) (by kernel_rfl) ?_
        refine W.seq ?_
        refine W.block ?_
        refine W.seq ?_
        refine W.region (by kernel_rfl) ?_
        obtain ⟨hc25, h⟩ := chk_some h
        refine WO.pureK 10 (if (0 : Int) ≤ (W6 (a3 + v20)) ∧ (W6 (a3 + v20)) < ((n2 : Nat) : Int) then some (.pe 2000000 1 (0 + Int.toNat (W6 (a3 + v20))) 0) else none) (v := .pe 2000000 1 (0 + Int.toNat (W6 (a3 + v20))) 0) (by kernel_rfl) (ite_some hc25) (e1 := [(0, S1 n2), (3, .clo F_g5 C_g5), (8, I6 a3), (9, .int .i64 0), (12, I6 v20), (36, S1 n2), (37, I6 a3), (38, S1 n2), (39, I6 a3), (40, I6 v20), (41, I6 (W6 (a3 + v20))), (42, S1 n2), (43, I6 a3), (44, I6 v20), (45, I6 (W6 (a3 + v20))), (46, .pe 2000000 1 (0 + Int.toNat (W6 (a3 + v20))) 0), O1 v19]) (by kernel_rfl) ?_
        obtain ⟨e26, he26, h⟩ := bind_some h
        refine WO.pureK 0 (match (List.map (AV.int .i64) v19)[(0 + Int.toNat (W6 (a3 + v20)))]? with | some y => cut Try.prog 3 (y.cells.map AV.strip) 0 | none => none) (v := I6 e26) (by kernel_rfl) ((pe_ld (f := (AV.int .i64)) (G := (fun y => cut Try.prog 3 (y.cells.map AV.strip) 0)) he26).trans (by kernel_rfl)) (e1 := [(0, S1 n2), (3, .clo F_g5 C_g5), (8, I6 a3), (9, .int .i64 0), (12, I6 v20), (36, S1 n2), (37, I6 a3), (38, S1 n2), (39, I6 a3), (40, I6 v20), (41, I6 (W6 (a3 + v20))), (42, S1 n2), (43, I6 a3), (44, I6 v20), (45, I6 (W6 (a3 + v20))), (46, .pe 2000000 1 (0 + Int.toNat (W6 (a3 + v20))) 0), (47, I6 e26), O1 v19]) (by kernel_rfl) ?_
        obtain ⟨hc27, h⟩ := chk_some h
        refine WO.pureK 2 (if (0 : Int) ≤ a3 ∧ a3 < ((n2 : Nat) : Int) then some (.pe 2000000 1 (0 + Int.toNat a3) 0) else none) (v := .pe 2000000 1 (0 + Int.toNat a3) 0) (by kernel_rfl) (ite_some hc27) (e1 := [(0, S1 n2), (3, .clo F_g5 C_g5), (8, I6 a3), (9, .int .i64 0), (12, I6 v20), (36, S1 n2), (37, I6 a3), (38, S1 n2), (39, I6 a3), (40, I6 v20), (41, I6 (W6 (a3 + v20))), (42, S1 n2), (43, I6 a3), (44, I6 v20), (45, I6 (W6 (a3 + v20))), (46, .pe 2000000 1 (0 + Int.toNat (W6 (a3 + v20))) 0), (47, I6 e26), (48, S1 n2), (49, I6 a3), (50, .pe 2000000 1 (0 + Int.toNat a3) 0), O1 v19]) (by kernel_rfl) ?_
        obtain ⟨e28, he28, h⟩ := bind_some h
        refine WO.pureK 0 (match (List.map (AV.int .i64) v19)[(0 + Int.toNat a3)]? with | some y => cut Try.prog 3 (y.cells.map AV.strip) 0 | none => none) (v := I6 e28) (by kernel_rfl) ((pe_ld (f := (AV.int .i64)) (G := (fun y => cut Try.prog 3 (y.cells.map AV.strip) 0)) he28).trans (by kernel_rfl)) (e1 := [(0, S1 n2), (3, .clo F_g5 C_g5), (8, I6 a3), (9, .int .i64 0), (12, I6 v20), (36, S1 n2), (37, I6 a3), (38, S1 n2), (39, I6 a3), (40, I6 v20), (41, I6 (W6 (a3 + v20))), (42, S1 n2), (43, I6 a3), (44, I6 v20), (45, I6 (W6 (a3 + v20))), (46, .pe 2000000 1 (0 + Int.toNat (W6 (a3 + v20))) 0), (47, I6 e26), (48, S1 n2), (49, I6 a3), (50, .pe 2000000 1 (0 + Int.toNat a3) 0), (51, I6 e28), O1 v19]) (by kernel_rfl) ?_
        obtain ⟨hc29, h⟩ := chk_some h
        refine WO.pureK 0 (if (0 : Int) ≤ a3 ∧ a3 < ((n2 : Nat) : Int) then some (.pe 2000000 1 (0 + Int.toNat a3) 0) else none) (v := .pe 2000000 1 (0 + Int.toNat a3) 0) (by kernel_rfl) (ite_some hc29) (e1 := [(0, S1 n2), (3, .clo F_g5 C_g5), (8, I6 a3), (9, .int .i64 0), (12, I6 v20), (36, S1 n2), (37, I6 a3), (38, S1 n2), (39, I6 a3), (40, I6 v20), (41, I6 (W6 (a3 + v20))), (42, S1 n2), (43, I6 a3), (44, I6 v20), (45, I6 (W6 (a3 + v20))), (46, .pe 2000000 1 (0 + Int.toNat (W6 (a3 + v20))) 0), (47, I6 e26), (48, S1 n2), (49, I6 a3), (50, .pe 2000000 1 (0 + Int.toNat a3) 0), (51, I6 e28), (52, .pe 2000000 1 (0 + Int.toNat a3) 0), O1 v19]) (by kernel_rfl) ?_
        obtain ⟨u30, hu30, h⟩ := bind_some h
        obtain ⟨y31, hyy31, hzy31⟩ := upd_some hu30
        refine WO.storeK 0 (id := 2000000) (e := 3) (s := 1) (j := (0 + Int.toNat a3)) (off := 0) (vs := [I6 e26]) (xs := (List.map (AV.int .i64) v19)) (zs := (List.map (AV.int .i64) u30)) (y := ((AV.int .i64)) y31) (y' := ((AV.int .i64)) e26) (by kernel_rfl) (upd_get hyy31) (by kernel_rfl) (upd_set hzy31) (e1 := [(0, S1 n2), (3, .clo F_g5 C_g5), (8, I6 a3), (9, .int .i64 0), (12, I6 v20), (36, S1 n2), (37, I6 a3), (38, S1 n2), (39, I6 a3), (40, I6 v20), (41, I6 (W6 (a3 + v20))), (42, S1 n2), (43, I6 a3), (44, I6 v20), (45, I6 (W6 (a3 + v20))), (46, .pe 2000000 1 (0 + Int.toNat (W6 (a3 + v20))) 0), (47, I6 e26), (48, S1 n2), (49, I6 a3), (50, .pe 2000000 1 (0 + Int.toNat a3) 0), (51, I6 e28), (52, .pe 2000000 1 (0 + Int.toNat a3) 0), O1 u30]) (by kernel_rfl) ?_
        obtain ⟨hc32, h⟩ := chk_some h
        refine WO.pureK 0 (if (0 : Int) ≤ (W6 (a3 + v20)) ∧ (W6 (a3 + v20)) < ((n2 : Nat) : Int) then some (.pe 2000000 1 (0 + Int.toNat (W6 (a3 + v20))) 0) else none) (v := .pe 2000000 1 (0 + Int.toNat (W6 (a3 + v20))) 0) (by kernel_rfl) (ite_some hc32) (e1 := [(0, S1 n2), (3, .clo F_g5 C_g5), (8, I6 a3), (9, .int .i64 0), (12, I6 v20), (36, S1 n2), (37, I6 a3), (38, S1 n2), (39, I6 a3), (40, I6 v20), (41, I6 (W6 (a3 + v20))), (42, S1 n2), (43, I6 a3), (44, I6 v20), (45, I6 (W6 (a3 + v20))), (46, .pe 2000000 1 (0 + Int.toNat (W6 (a3 + v20))) 0), (47, I6 e26), (48, S1 n2), (49, I6 a3), (50, .pe 2000000 1 (0 + Int.toNat a3) 0), (51, I6 e28), (52, .pe 2000000 1 (0 + Int.toNat a3) 0), (53, .pe 2000000 1 (0 + Int.toNat (W6 (a3 + v20))) 0), O1 u30]) (by kernel_rfl) ?_
        obtain ⟨u33, hu33, h⟩ := bind_some h
        obtain ⟨y34, hyy34, hzy34⟩ := upd_some hu33
        refine WO.storeK 0 (id := 2000000) (e := 3) (s := 1) (j := (0 + Int.toNat (W6 (a3 + v20)))) (off := 0) (vs := [I6 e28]) (xs := (List.map (AV.int .i64) u30)) (zs := (List.map (AV.int .i64) u33)) (y := ((AV.int .i64)) y34) (y' := ((AV.int .i64)) e28) (by kernel_rfl) (upd_get hyy34) (by kernel_rfl) (upd_set hzy34) (e1 := [(0, S1 n2), (3, .clo F_g5 C_g5), (8, I6 a3), (9, .int .i64 0), (12, I6 v20), (36, S1 n2), (37, I6 a3), (38, S1 n2), (39, I6 a3), (40, I6 v20), (41, I6 (W6 (a3 + v20))), (42, S1 n2), (43, I6 a3), (44, I6 v20), (45, I6 (W6 (a3 + v20))), (46, .pe 2000000 1 (0 + Int.toNat (W6 (a3 + v20))) 0), (47, I6 e26), (48, S1 n2), (49, I6 a3), (50, .pe 2000000 1 (0 + Int.toNat a3) 0), (51, I6 e28), (52, .pe 2000000 1 (0 + Int.toNat a3) 0), (53, .pe 2000000 1 (0 + Int.toNat (W6 (a3 + v20))) 0), O1 u33]) (by kernel_rfl) ?_
        refine WO.fin [0, 3, 8, 9, 12, 2000000] [] [] [] (e2 := [(0, S1 n2), (3, .clo F_g5 C_g5), (8, I6 a3), (9, .int .i64 0), (12, I6 v20), O1 u33]) (by kernel_rfl) (fun _ h => h) ?_
        refine W.region (by kernel_rfl) ?_
        obtain ⟨w35, hw35, h⟩ := bind_some h
        refine WO.callMK 5 [(2000000, 2000000)] [] (F := 120) (args := [S1 n2, .int .i64 0, I6 v20, I6 a3, .clo F_g5 C_g5]) (hp := [O1 u33]) (hp2 := [O1 w35]) (r := .tup []) (by kernel_rfl) (run_sl_siftDownCmpFunc_int fuel u33 n2 0 v20 a3 g5 F_g5 C_g5 hok_g5 hrun_g5 w35 hw35) (e1 := [(0, S1 n2), (3, .clo F_g5 C_g5), (8, I6 a3), (9, .int .i64 0), (12, I6 v20), (54, S1 n2), (55, .int .i64 0), (56, I6 v20), (57, I6 a3), (58, .clo F_g5 C_g5), (59, .tup []), O1 w35]) (by kernel_rfl) ?_
        refine WO.fin [0, 3, 8, 9, 12, 2000000] [] [] [] (e2 := [(0, S1 n2), (3, .clo F_g5 C_g5), (8, I6 a3), (9, .int .i64 0), (12, I6 v20), O1 w35]) (by kernel_rfl) (fun _ h => h) ?_
        refine W.regT [0, 3, 8, 9, 12, 2000000] [] [] [] (e2 := [(0, S1 n2), (3, .clo F_g5 C_g5), (8, I6 a3), (9, .int .i64 0), (12, I6 (W6 (v20 - 1))), O1 w35]) (by kernel_rfl) (by kernel_rfl) (fun _ h => h) ?_
        exact hN2 (w35, (W6 (v20 - 1))) h
      replace h := cond_f hb h
      have hr : PostM Try.prog Try.f97 (.tup []) [O1 v19] .normal [(0, S1 n2), (3, .clo F_g5 C_g5), (8, I6 a3), (9, .int .i64 0), (12, I6 v20), (33, .bool (decide (v20 ≥ 0))), O1 v19] := ⟨by kernel_rfl, by kernel_rfl⟩
      cases h
      exact W.exit hr
  refine W.seq ?_
  refine W.regT [0, 3, 8, 9, 10, 11, 2000000] [] [] [] (e2 := [(0, S1 n2), (3, .clo F_g5 C_g5), (8, I6 a3), (9, .int .i64 0), (10, I6 (W6 (a4 - a3))), (11, I6 (W6 (((W6 ((W6 (a4 - a3)) - 1))).tdiv 2))), O1 a1]) (by kernel_rfl) (by kernel_rfl) (fun _ h => h) ?_
  refine W.block ?_
  refine W.weak [0, 3, 8, 9, 10, 11, 2000000] [] [] [] (env' := [(0, S1 n2), (3, .clo F_g5 C_g5), (8, I6 a3), (9, .int .i64 0), (10, I6 (W6 (a4 - a3))), (11, I6 (W6 (((W6 ((W6 (a4 - a3)) - 1))).tdiv 2))), O1 a1]) (by kernel_rfl) ?_
  refine W.fuel (σ := ((List Int) × Int)) (fun s => [(0, S1 n2), (3, .clo F_g5 C_g5), (8, I6 a3), (9, .int .i64 0), (10, I6 (W6 (a4 - a3))), (11, I6 s.2), (2000000, .obj 3 1 (List.map (AV.int .i64) s.1))]) (fun m0 s => sl_heapSortCmpFunc_int_l1 fuel n2 a3 a4 g5 (sl_heapSortCmpFunc_int_j9 fuel n2 a3 a4 g5) m0 s.1 s.2 = some r) (fun s h => ?_) (fun m1 s h hN1 => ?_) fuel (a1, (W6 (((W6 ((W6 (a4 - a3)) - 1))).tdiv 2))) h
  · obtain ⟨v11, v12⟩ := s
    have h : sl_heapSortCmpFunc_int_l1 fuel n2 a3 a4 g5 (sl_heapSortCmpFunc_int_j9 fuel n2 a3 a4 g5) 0 v11 v12 = some r := h
    rw [sl_heapSortCmpFunc_int_l1.eq_1] at h
    cases h
  · obtain ⟨v11, v12⟩ := s
    have h : sl_heapSortCmpFunc_int_l1 fuel n2 a3 a4 g5 (sl_heapSortCmpFunc_int_j9 fuel n2 a3 a4 g5) (m1 + 1) v11 v12 = some r := h
    rw [sl_heapSortCmpFunc_int_l1.eq_2] at h
    refine W.seq ?_
    refine W.seq ?_
    refine W.regT [0, 3, 8, 9, 10, 11, 21, 2000000] [] [] [] (e2 := [(0, S1 n2), (3, .clo F_g5 C_g5), (8, I6 a3), (9, .int .i64 0), (10, I6 (W6 (a4 - a3))), (11, I6 v12), (21, .bool (decide (v12 ≥ 0))), O1 v11]) (by kernel_rfl) (by kernel_rfl) (fun _ h => h) ?_
    refine W.condB (decide (v12 ≥ 0)) (by kernel_rfl) (fun hb => ?_) (fun hb => ?_)
    · replace h := cond_t hb h
      refine W.skip ?_
      refine W.weak [0, 3, 8, 9, 10, 11, 2000000] [] [] [] (env' := [(0, S1 n2), (3, .clo F_g5 C_g5), (8, I6 a3), (9, .int .i64 0), (10, I6 (W6 (a4 - a3))), (11, I6 v12), O1 v11]) (by kernel_rfl) ?_
      refine W.seq ?_
      refine W.block ?_
      refine W.region (by kernel_rfl) ?_
      obtain ⟨w16, hw16, h⟩ := bind_some h
      refine WO.callMK 5 [(2000000, 2000000)] [] (F := 120) (args := [S1 n2, I6 v12, I6 (W6 (a4 - a3)), I6 a3, .clo F_g5 C_g5]) (hp := [O1 v11]) (hp2 := [O1 w16]) (r := .tup []) (by kernel_rfl) (run_sl_siftDownCmpFunc_int fuel v11 n2 v12 (W6 (a4 - a3)) a3 g5 F_g5 C_g5 hok_g5 hrun_g5 w16 hw16) (e1 := [(0, S1 n2), (3, .clo F_g5 C_g5), (8, I6 a3), (9, .int .i64 0), (10, I6 (W6 (a4 - a3))), (11, I6 v12), (24, S1 n2), (25, I6 v12), (26, I6 (W6 (a4 - a3))), (27, I6 a3), (28, .clo F_g5 C_g5), (29, .tup []), O1 w16]) (by kernel_rfl) ?_
      refine WO.fin [0, 3, 8, 9, 10, 11, 2000000] [] [] [] (e2 := [(0, S1 n2), (3, .clo F_g5 C_g5), (8, I6 a3), (9, .int .i64 0), (10, I6 (W6 (a4 - a3))), (11, I6 v12), O1 w16]) (by kernel_rfl) (fun _ h => h) ?_
      refine W.regT [0, 3, 8, 9, 10, 11, 2000000] [] [] [] (e2 := [(0, S1 n2), (3, .clo F_g5 C_g5), (8, I6 a3), (9, .int .i64 0), (10, I6 (W6 (a4 - a3))), (11, I6 (W6 (v12 - 1))), O1 w16]) (by kernel_rfl) (by kernel_rfl) (fun _ h => h) ?_
      exact hN1 (w16, (W6 (v12 - 1))) h
    replace h := cond_f hb h
    refine W.exit ?_
    refine W.weak [0, 3, 8, 9, 10, 2000000] [] [] [] (env' := [(0, S1 n2), (3, .clo F_g5 C_g5), (8, I6 a3), (9, .int .i64 0), (10, I6 (W6 (a4 - a3))), O1 v11]) (by kernel_rfl) ?_
    exact hK9 v11 h
def sl_nextPowerOfTwo (a1 : Int) : Option Int :=
  ((mb_Len (IntKind.wrap .u64 a1)).bind fun w4 => (chk (decide (0 ≤ w4)) (some (iShl .u64 1 w4))))
theorem run_sl_nextPowerOfTwo (a1 : Int) (r : Int) (h : sl_nextPowerOfTwo a1 = some r) : Run Try.prog (.call 88 [I6 a1] (.int .u64 r)) := by
  refine call_of_W Try.func88 rfl (by kernel_rfl) (env0 := [(0, I6 a1)]) (by kernel_rfl) ?_
  unfold sl_nextPowerOfTwo at h
  refine W.seq ?_
  refine W.regT [0] [] [] [] (e2 := [(0, I6 a1)]) (by kernel_rfl) (by kernel_rfl) (fun _ h => h) ?_
  refine W.seq ?_
  refine W.region (by kernel_rfl) ?_
  obtain ⟨w4, hw4, h⟩ := bind_some h
  refine WO.callK 2 (F := 47) (l := [.int .u64 (IntKind.wrap .u64 a1)]) (C := []) (r := I6 w4) (by kernel_rfl) (by kernel_rfl) (run_mb_Len (IntKind.wrap .u64 a1) w4 hw4) (e1 := [(0, I6 a1), (3, I6 a1), (4, .int .u64 (IntKind.wrap .u64 a1)), (5, I6 w4)]) (by kernel_rfl) ?_
  obtain ⟨hc5, h⟩ := chk_some h
  refine WO.pureK 0 (if w4 < 0 then none else some (.int .u64 (iShl .u64 1 w4))) (v := .int .u64 (iShl .u64 1 w4)) (by kernel_rfl) (if_neg (not_lt_of_chk hc5)) (e1 := [(0, I6 a1), (3, I6 a1), (4, .int .u64 (IntKind.wrap .u64 a1)), (5, I6 w4), (6, .int .u64 (iShl .u64 1 w4))]) (by kernel_rfl) ?_
  refine WO.fin [2] [] [] [] (e2 := [(2, .int .u64 (iShl .u64 1 w4))]) (by kernel_rfl) (fun _ h => h) ?_
  refine W.weak [2] [] [] [] (env' := [(2, .int .u64 (iShl .u64 1 w4))]) (by kernel_rfl) ?_
  have hr : aresults Try.prog Try.f88 [(2, .int .u64 (iShl .u64 1 w4))] = some (.int .u64 (iShl .u64 1 w4)) := by kernel_rfl
  cases h
  exact W.ret hr
def sl_xorshift_Next (p1 : Int) : Option (Int × Int) :=
  (some ((iXor .u64 (iXor .u64 (iXor .u64 p1 (iShl .u64 p1 13)) (iShr .u64 (iXor .u64 p1 (iShl .u64 p1 13)) 7)) (iShl .u64 (iXor .u64 (iXor .u64 p1 (iShl .u64 p1 13)) (iShr .u64 (iXor .u64 p1 (iShl .u64 p1 13)) 7)) 17)), (iXor .u64 (iXor .u64 (iXor .u64 p1 (iShl .u64 p1 13)) (iShr .u64 (iXor .u64 p1 (iShl .u64 p1 13)) 7)) (iShl .u64 (iXor .u64 (iXor .u64 p1 (iShl .u64 p1 13)) (iShr .u64 (iXor .u64 p1 (iShl .u64 p1 13)) 7)) 17))))
theorem run_sl_xorshift_Next (p1 : Int) (r : (Int × Int)) (h : sl_xorshift_Next p1 = some r) : Run Try.prog (.callM 89 [.pb 2000000 0] [(2000000, .box [.int .u64 p1])] (.int .u64 r.1) [(2000000, .box [.int .u64 r.2])]) := by
  refine callM_of_W Try.func89 rfl (by kernel_rfl) (env0 := [(0, .pb 2000000 0), (2000000, .box [.int .u64 p1])]) (by kernel_rfl) ?_
  unfold sl_xorshift_Next at h
  refine W.seq ?_
  refine W.regT [0, 2000000] [] [] [] (e2 := [(0, .pb 2000000 0), (2000000, .box [.int .u64 p1])]) (by kernel_rfl) (by kernel_rfl) (fun _ h => h) ?_
  refine W.seq ?_
  refine W.regT [0, 2000000] [] [] [] (e2 := [(0, .pb 2000000 0), (2000000, .box [.int .u64 (iXor .u64 p1 (iShl .u64 p1 13))])]) (by kernel_rfl) (by kernel_rfl) (fun _ h => h) ?_
  refine W.seq ?_
  refine W.regT [0, 2000000] [] [] [] (e2 := [(0, .pb 2000000 0), (2000000, .box [.int .u64 (iXor .u64 (iXor .u64 p1 (iShl .u64 p1 13)) (iShr .u64 (iXor .u64 p1 (iShl .u64 p1 13)) 7))])]) (by kernel_rfl) (by kernel_rfl) (fun _ h => h) ?_
  refine W.seq ?_
  refine W.regT [0, 2000000] [] [] [] (e2 := [(0, .pb 2000000 0), (2000000, .box [.int .u64 (iXor .u64 (iXor .u64 (iXor .u64 p1 (iShl .u64 p1 13)) (iShr .u64 (iXor .u64 p1 (iShl .u64 p1 13)) 7)) (iShl .u64 (iXor .u64 (iXor .u64 p1 (iShl .u64 p1 13)) (iShr .u64 (iXor .u64 p1 (iShl .u64 p1 13)) 7)) 17))])]) (by kernel_rfl) (by kernel_rfl) (fun _ h => h) ?_
  refine W.seq ?_
  refine W.regT [2, 2000000] [] [] [] (e2 := [(2, .int .u64 (iXor .u64 (iXor .u64 (iXor .u64 p1 (iShl .u64 p1 13)) (iShr .u64 (iXor .u64 p1 (iShl .u64 p1 13)) 7)) (iShl .u64 (iXor .u64 (iXor .u64 p1 (iShl .u64 p1 13)) (iShr .u64 (iXor .u64 p1 (iShl .u64 p1 13)) 7)) 17))), (2000000, .box [.int .u64 (iXor .u64 (iXor .u64 (iXor .u64 p1 (iShl .u64 p1 13)) (iShr .u64 (iXor .u64 p1 (iShl .u64 p1 13)) 7)) (iShl .u64 (iXor .u64 (iXor .u64 p1 (iShl .u64 p1 13)) (iShr .u64 (iXor .u64 p1 (iShl .u64 p1 13)) 7)) 17))])]) (by kernel_rfl) (by kernel_rfl) (fun _ h => h) ?_
  refine W.weak [2, 2000000] [] [] [] (env' := [(2, .int .u64 (iXor .u64 (iXor .u64 (iXor .u64 p1 (iShl .u64 p1 13)) (iShr .u64 (iXor .u64 p1 (iShl .u64 p1 13)) 7)) (iShl .u64 (iXor .u64 (iXor .u64 p1 (iShl .u64 p1 13)) (iShr .u64 (iXor .u64 p1 (iShl .u64 p1 13)) 7)) 17))), (2000000, .box [.int .u64 (iXor .u64 (iXor .u64 (iXor .u64 p1 (iShl .u64 p1 13)) (iShr .u64 (iXor .u64 p1 (iShl .u64 p1 13)) 7)) (iShl .u64 (iXor .u64 (iXor .u64 p1 (iShl .u64 p1 13)) (iShr .u64 (iXor .u64 p1 (iShl .u64 p1 13)) 7)) 17))])]) (by kernel_rfl) ?_
  have hr : PostM Try.prog Try.f89 (.int .u64 (iXor .u64 (iXor .u64 (iXor .u64 p1 (iShl .u64 p1 13)) (iShr .u64 (iXor .u64 p1 (iShl .u64 p1 13)) 7)) (iShl .u64 (iXor .u64 (iXor .u64 p1 (iShl .u64 p1 13)) (iShr .u64 (iXor .u64 p1 (iShl .u64 p1 13)) 7)) 17))) [(2000000, .box [.int .u64 (iXor .u64 (iXor .u64 (iXor .u64 p1 (iShl .u64 p1 13)) (iShr .u64 (iXor .u64 p1 (iShl .u64 p1 13)) 7)) (iShl .u64 (iXor .u64 (iXor .u64 p1 (iShl .u64 p1 13)) (iShr .u64 (iXor .u64 p1 (iShl .u64 p1 13)) 7)) 17))])] .ret [(2, .int .u64 (iXor .u64 (iXor .u64 (iXor .u64 p1 (iShl .u64 p1 13)) (iShr .u64 (iXor .u64 p1 (iShl .u64 p1 13)) 7)) (iShl .u64 (iXor .u64 (iXor .u64 p1 (iShl .u64 p1 13)) (iShr .u64 (iXor .u64 p1 (iShl .u64 p1 13)) 7)) 17))), (2000000, .box [.int .u64 (iXor .u64 (iXor .u64 (iXor .u64 p1 (iShl .u64 p1 13)) (iShr .u64 (iXor .u64 p1 (iShl .u64 p1 13)) 7)) (iShl .u64 (iXor .u64 (iXor .u64 p1 (iShl .u64 p1 13)) (iShr .u64 (iXor .u64 p1 (iShl .u64 p1 13)) 7)) 17))])] := ⟨by kernel_rfl, by kernel_rfl⟩
  cases h
  exact W.ret hr

end Go.AM
