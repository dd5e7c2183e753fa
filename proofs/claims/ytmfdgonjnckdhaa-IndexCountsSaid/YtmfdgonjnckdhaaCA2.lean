/- s -/
import Derived.Test.YtmfdgonjnckdhaaCA1
set_option maxRecDepth 100000
set_option linter.unusedVariables false
set_option linter.unusedSimpArgs false
namespace Go.AM
open Go.Proofs
def sl_Index_byte_j4 : Option Int :=
 (some (-1))
def sl_Index_byte_l1 (a2 : Int) (K4 : (Option Int)) : List Int → Nat → Option Int
 | [], k1 => K4
 | x1 :: r1, k1 => (bif (a2 == x1) then (some (k1 : Int)) else (sl_Index_byte_l1 a2 K4 r1 (k1 + 1)))
def sl_Index_byte (a1 : (List Int)) (a2 : Int) : Option Int :=
 (chk (lenOk a1) (sl_Index_byte_l1 a2 (sl_Index_byte_j4) a1 0))
theorem run_sl_Index_byte (a1 : (List Int)) (a2 : Int) (r : Int) (h : sl_Index_byte a1 a2 = some r) : Run Try.prog (.call 93 [l5 none a1, .int .u8 a2] (I6 r)) := by
 refine call_of_W Try.func93 rfl (by kernel_rfl) (env0 := [(0, l5 none a1), (1, .int .u8 a2)]) (by kernel_rfl) ?_
 unfold sl_Index_byte at h
 refine W.seq ?_
 refine W.regT [0, 1] [] [] [] (e2 := [(0, l5 none a1), (1, .int .u8 a2)]) (by kernel_rfl) (by kernel_rfl) (fun _ h => h) ?_
 refine W.seq ?_
 refine W.join (σ := Unit) (fun s => []) (fun s => (sl_Index_byte_j4) = some r) (fun s h => ?_) (fun hK4 => ?_)
 ·have h : (sl_Index_byte_j4) = some r := h
  unfold sl_Index_byte_j4 at h
  refine W.seq ?_
  refine W.regT [4] [] [] [] (e2 := [(4, I6 (-1))]) (by kernel_rfl) (by kernel_rfl) (fun _ h => h) ?_
  refine W.weak [4] [] [] [] (env' := [(4, I6 (-1))]) (by kernel_rfl) ?_
  have hr : aresults Try.prog Try.f93 [(4, I6 (-1))] = some (I6 (-1)) := by kernel_rfl
  cases h
  exact W.ret hr
 refine W.seq ?_
 refine W.region (by kernel_rfl) ?_
 refine WO.pureK 1 (some (I6 ((M8 a1).length : Int))) (v := I6 (a1.length : Int)) (by kernel_rfl) (by rw [List.length_map]) (e1 := [(0, l5 none a1), (1, .int .u8 a2), (6, l5 none a1), (7, I6 (a1.length : Int))]) (by kernel_rfl) ?_
 refine WO.fin [0, 1, 7, 8] [] [] [] (e2 := [(0, l5 none a1), (1, .int .u8 a2), (7, I6 (a1.length : Int)), (8, .int .i64 0)]) (by kernel_rfl) (fun _ h => h) ?_
 refine W.block ?_
 obtain ⟨hl1, h⟩ := chk_some h
 refine W.weak [0, 1, 7, 8] [] [] [] (env' := [(0, l5 none a1), (1, .int .u8 a2), (7, I6 (a1.length : Int)), (8, I6 ((0 : Nat) : Int))]) (by kernel_rfl) ?_
 refine W.range (σ := Unit) a1 (fun k1 s => [(0, l5 none a1), (1, .int .u8 a2), (7, I6 (a1.length : Int)), (8, I6 (k1 : Int))]) (fun r0 k0 s => sl_Index_byte_l1 a2 (sl_Index_byte_j4) r0 k0 = some r) (fun s h => ?_) (fun x1 r1 k1 s hx1 hk1 h hN1 => ?_) () h
 ·have h : sl_Index_byte_l1 a2 (sl_Index_byte_j4) [] (a1).length = some r := h
  rw [sl_Index_byte_l1.eq_1] at h
  refine W.seq ?_
  refine W.region (by kernel_rfl) ?_
  refine WO.pureK 0 (some (.bool (decide (((a1).length : Int) < (a1.length : Int))))) (v := .bool false) (by kernel_rfl) (by rw [lt_false (l := a1)]) (e1 := [(0, l5 none a1), (1, .int .u8 a2), (7, I6 (a1.length : Int)), (8, I6 ((a1).length : Int)), (9, .bool false)]) (by kernel_rfl) ?_
  refine WO.fin ([0, 1, 7, 8, 9]) [] [] [] (e2 := [(0, l5 none a1), (1, .int .u8 a2), (7, I6 (a1.length : Int)), (8, I6 ((a1).length : Int)), (9, .bool false)]) (by kernel_rfl) (fun _ h => h) ?_
  refine W.seq ?_
  refine W.condB false (by kernel_rfl) (fun h => Bool.noConfusion h) (fun _ => ?_)
  refine W.exit ?_
  refine W.weak [] [] [] [] (env' := []) (by kernel_rfl) ?_
  exact hK4 () h
 ·have h : sl_Index_byte_l1 a2 (sl_Index_byte_j4) (x1 :: r1) k1 = some r := h
  rw [sl_Index_byte_l1.eq_2] at h
  refine W.seq ?_
  refine W.region (by kernel_rfl) ?_
  refine WO.pureK 0 (some (.bool (decide ((k1 : Int) < (a1.length : Int))))) (v := .bool true) (by kernel_rfl) (by rw [lt_true hk1]) (e1 := [(0, l5 none a1), (1, .int .u8 a2), (7, I6 (a1.length : Int)), (8, I6 (k1 : Int)), (9, .bool true)]) (by kernel_rfl) ?_
  refine WO.fin ([0, 1, 7, 8, 9]) [] [] [] (e2 := [(0, l5 none a1), (1, .int .u8 a2), (7, I6 (a1.length : Int)), (8, I6 (k1 : Int)), (9, .bool true)]) (by kernel_rfl) (fun _ h => h) ?_
  refine W.seq ?_
  refine W.condB true (by kernel_rfl) (fun _ => ?_) (fun h => Bool.noConfusion h)
  refine W.skip ?_
  refine W.weak [0, 1, 7, 8] [] [] [] (env' := [(0, l5 none a1), (1, .int .u8 a2), (7, I6 (a1.length : Int)), (8, I6 (k1 : Int))]) (by kernel_rfl) ?_
  refine W.seq ?_
  refine W.block ?_
  refine W.seq ?_
  refine W.regT [0, 1, 5, 7, 8] [] [] [] (e2 := [(0, l5 none a1), (1, .int .u8 a2), (5, I6 (k1 : Int)), (7, I6 (a1.length : Int)), (8, I6 (k1 : Int))]) (by kernel_rfl) (by kernel_rfl) (fun _ h => h) ?_
  refine W.seq ?_
  refine W.region (by kernel_rfl) ?_
  refine WO.pureK 3 (if (0 : Int) ≤ (k1 : Int) then ((M8 a1)[Int.toNat (k1 : Int)]?).map AV.ptr else none) (v := .ptr (.int .u8 x1)) (by kernel_rfl) (idx_nat (f := (AV.int .u8)) hx1) (e1 := [(0, l5 none a1), (1, .int .u8 a2), (5, I6 (k1 : Int)), (7, I6 (a1.length : Int)), (8, I6 (k1 : Int)), (11, .int .u8 a2), (12, l5 none a1), (13, I6 (k1 : Int)), (14, .ptr (.int .u8 x1))]) (by kernel_rfl) ?_
  refine WO.fin [0, 1, 5, 7, 8, 16] [] [] [] (e2 := [(0, l5 none a1), (1, .int .u8 a2), (5, I6 (k1 : Int)), (7, I6 (a1.length : Int)), (8, I6 (k1 : Int)), (16, .bool (a2 == x1))]) (by kernel_rfl) (fun _ h => h) ?_
  refine W.condB (a2 == x1) (by kernel_rfl) (fun hb => ?_) (fun hb => ?_)
  ·replace h := cond_t hb h
   refine W.seq ?_
   refine W.regT [4] [] [] [] (e2 := [(4, I6 (k1 : Int))]) (by kernel_rfl) (by kernel_rfl) (fun _ h => h) ?_
   refine W.weak [4] [] [] [] (env' := [(4, I6 (k1 : Int))]) (by kernel_rfl) ?_
   have hr : aresults Try.prog Try.f93 [(4, I6 (k1 : Int))] = some (I6 (k1 : Int)) := by kernel_rfl
   cases h
   exact W.ret hr
  replace h := cond_f hb h
  refine W.skip ?_
  refine W.weak [0, 1, 7, 8] [] [] [] (env' := [(0, l5 none a1), (1, .int .u8 a2), (7, I6 (a1.length : Int)), (8, I6 (k1 : Int))]) (by kernel_rfl) ?_
  refine W.region (by kernel_rfl) ?_
  refine WO.pureK 0 (some (I6 (IntKind.wrap .i64 ((k1 : Int) + 1)))) (v := I6 ((k1 + 1 : Nat) : Int)) (by kernel_rfl) (by rw [wrap_succ hl1 hk1]) (e1 := [(0, l5 none a1), (1, .int .u8 a2), (7, I6 (a1.length : Int)), (8, I6 (k1 : Int)), (18, I6 ((k1 + 1 : Nat) : Int))]) (by kernel_rfl) ?_
  refine WO.fin [0, 1, 7, 8] [] [] [] (e2 := [(0, l5 none a1), (1, .int .u8 a2), (7, I6 (a1.length : Int)), (8, I6 ((k1 + 1 : Nat) : Int))]) (by kernel_rfl) (fun _ h => h) ?_
  exact hN1 () h
def sl_Contains_byte (a1 : (List Int)) (a2 : Int) : Option Bool :=
 ((sl_Index_byte a1 a2).bind fun w5 => (some (decide (w5 ≥ 0))))
theorem run_sl_Contains_byte (a1 : (List Int)) (a2 : Int) (r : Bool) (h : sl_Contains_byte a1 a2 = some r) : Run Try.prog (.call 77 [l5 none a1, .int .u8 a2] (.bool r)) := by
 refine call_of_W Try.func77 rfl (by kernel_rfl) (env0 := [(0, l5 none a1), (1, .int .u8 a2)]) (by kernel_rfl) ?_
 unfold sl_Contains_byte at h
 refine W.seq ?_
 refine W.regT [0, 1] [] [] [] (e2 := [(0, l5 none a1), (1, .int .u8 a2)]) (by kernel_rfl) (by kernel_rfl) (fun _ h => h) ?_
 refine W.seq ?_
 refine W.region (by kernel_rfl) ?_
 obtain ⟨w5, hw5, h⟩ := bind_some h
 refine WO.callK 2 (F := 93) (l := [l5 none a1, .int .u8 a2]) (C := []) (r := I6 w5) (by kernel_rfl) (by kernel_rfl) (run_sl_Index_byte a1 a2 w5 hw5) (e1 := [(0, l5 none a1), (1, .int .u8 a2), (5, l5 none a1), (6, .int .u8 a2), (7, I6 w5)]) (by kernel_rfl) ?_
 refine WO.fin [4] [] [] [] (e2 := [(4, .bool (decide (w5 ≥ 0)))]) (by kernel_rfl) (fun _ h => h) ?_
 refine W.weak [4] [] [] [] (env' := [(4, .bool (decide (w5 ≥ 0)))]) (by kernel_rfl) ?_
 have hr : aresults Try.prog Try.f77 [(4, .bool (decide (w5 ≥ 0)))] = some (.bool (decide (w5 ≥ 0))) := by kernel_rfl
 cases h
 exact W.ret hr
def ix_wavelet_rank_j14 (v60 : Int) : Option Int :=
 (some v60)
def ix_wavelet_rank_l1 (a2 : Int) (K14 : (Int → Option Int)) : Nat → (Option ixwavelet) → Int → Option Int
 | 0, _, _ => none
 | m1 + 1, v15, v16 => (v15.bind fun q19 => (ixwavelet.cs q19 (fun f20 f21 f22 f23 => (bif (!f22.isNone) then (v15.bind fun q25 => (ixwavelet.cs q25 (fun f26 f27 f28 f29 => (f29.bind fun q30 => (ixwavelet.cs q30 (fun f31 f32 f33 f34 => ((sl_Contains_byte f31 a2).bind fun w35 => (bif w35 then (v15.bind fun q37 => (ixwavelet.cs q37 (fun f38 f39 f40 f41 => ((idx f39 v16).bind fun e42 => (v15.bind fun q43 => (ixwavelet.cs q43 (fun f44 f45 f46 f47 => ((ix_wavelet_rank_l1 a2 K14 m1) f47 e42)))))))) else (v15.bind fun q49 => (ixwavelet.cs q49 (fun f50 f51 f52 f53 => ((idx f51 v16).bind fun e54 => (v15.bind fun q55 => (ixwavelet.cs q55 (fun f56 f57 f58 f59 => ((ix_wavelet_rank_l1 a2 K14 m1) f58 (IntKind.wrap .i64 (v16 - e54)))))))))))))))))) else (K14 v16)))))
def ix_wavelet_rank (fuel : Nat) (a1 : (Option ixwavelet)) (a2 : Int) (a3 : Int) : Option Int :=
 (a1.bind fun q7 => (ixwavelet.cs q7 (fun f8 f9 f10 f11 => ((sl_Contains_byte f8 a2).bind fun w12 => (bif (!w12) then (some 0) else (ix_wavelet_rank_l1 a2 (ix_wavelet_rank_j14) fuel a1 a3))))))
theorem run_ix_wavelet_rank (fuel : Nat) (a1 : (Option ixwavelet)) (a2 : Int) (a3 : Int) (r : Int) (h : ix_wavelet_rank fuel a1 a2 a3 = some r) : Run Try.prog (.call 51 [ep_ixwavelet a1, .int .u8 a2, I6 a3] (I6 r)) := by
 refine call_of_W Try.func51 rfl (by kernel_rfl) (env0 := [(0, ep_ixwavelet a1), (1, .int .u8 a2), (2, I6 a3)]) (by kernel_rfl) ?_
 unfold ix_wavelet_rank at h
 refine W.seq ?_
 refine W.regT [0, 1, 2] [] [] [] (e2 := [(0, ep_ixwavelet a1), (1, .int .u8 a2), (2, I6 a3)]) (by kernel_rfl) (by kernel_rfl) (fun _ h => h) ?_
 refine W.seq ?_
 refine W.seq ?_
 refine W.region (by kernel_rfl) ?_
 obtain ⟨q7, hq7, h⟩ := bind_some h
 obtain ⟨f8, f9, f10, f11⟩ := q7
 dsimp only [ixwavelet.cs] at h
 refine WO.pureK 1 (match a1.isNone with | false => some (AV.ptr (e_ixwaveletx a1)) | true => none) (v := .ptr (.agg [l5 none f8, l3 none f9, ep_ixwavelet f10, ep_ixwavelet f11])) (by kernel_rfl) (nc_av (F := e_ixwaveletx) hq7) (e1 := [(0, ep_ixwavelet a1), (1, .int .u8 a2), (2, I6 a3), (7, ep_ixwavelet a1), (8, .ptr (.agg [l5 none f8, l3 none f9, ep_ixwavelet f10, ep_ixwavelet f11]))]) (by kernel_rfl) ?_
 obtain ⟨w12, hw12, h⟩ := bind_some h
 refine WO.callK 3 (F := 77) (l := [l5 none f8, .int .u8 a2]) (C := []) (r := .bool w12) (by kernel_rfl) (by kernel_rfl) (run_sl_Contains_byte f8 a2 w12 hw12) (e1 := [(0, ep_ixwavelet a1), (1, .int .u8 a2), (2, I6 a3), (7, ep_ixwavelet a1), (8, .ptr (.agg [l5 none f8, l3 none f9, ep_ixwavelet f10, ep_ixwavelet f11])), (9, .ptr (l5 none f8)), (10, l5 none f8), (11, .int .u8 a2), (12, .bool w12)]) (by kernel_rfl) ?_
 refine WO.fin [0, 1, 2, 13] [] [] [] (e2 := [(0, ep_ixwavelet a1), (1, .int .u8 a2), (2, I6 a3), (13, .bool (!w12))]) (by kernel_rfl) (fun _ h => h) ?_
 refine W.condB (!w12) (by kernel_rfl) (fun hb => ?_) (fun hb => ?_)
 ·replace h := cond_t hb h
  refine W.seq ?_
  refine W.regT [6] [] [] [] (e2 := [(6, .int .i64 0)]) (by kernel_rfl) (by kernel_rfl) (fun _ h => h) ?_
  refine W.weak [6] [] [] [] (env' := [(6, .int .i64 0)]) (by kernel_rfl) ?_
  have hr : aresults Try.prog Try.f51 [(6, .int .i64 0)] = some (.int .i64 0) := by kernel_rfl
  cases h
  exact W.ret hr
 replace h := cond_f hb h
 refine W.skip ?_
 refine W.weak [0, 1, 2] [] [] [] (env' := [(0, ep_ixwavelet a1), (1, .int .u8 a2), (2, I6 a3)]) (by kernel_rfl) ?_
 refine W.seq ?_
 refine W.join (σ := (Int)) (fun s => [(2, I6 s)]) (fun s => (ix_wavelet_rank_j14) s = some r) (fun s h => ?_) (fun hK14 => ?_)
 ·obtain ⟨v60, rfl⟩ : ∃ x, x = s := ⟨s, rfl⟩
  have h : (ix_wavelet_rank_j14) v60 = some r := h
  unfold ix_wavelet_rank_j14 at h
  refine W.seq ?_
  refine W.regT [6] [] [] [] (e2 := [(6, I6 v60)]) (by kernel_rfl) (by kernel_rfl) (fun _ h => h) ?_
  refine W.weak [6] [] [] [] (env' := [(6, I6 v60)]) (by kernel_rfl) ?_
  have hr : aresults Try.prog Try.f51 [(6, I6 v60)] = some (I6 v60) := by kernel_rfl
  cases h
  exact W.ret hr
 refine W.block ?_
 refine W.weak [0, 1, 2] [] [] [] (env' := [(0, ep_ixwavelet a1), (1, .int .u8 a2), (2, I6 a3)]) (by kernel_rfl) ?_
 refine W.fuel (σ := ((Option ixwavelet) × Int)) (fun s => [(0, ep_ixwavelet s.1), (1, .int .u8 a2), (2, I6 s.2)]) (fun m0 s => ix_wavelet_rank_l1 a2 (ix_wavelet_rank_j14) m0 s.1 s.2 = some r) (fun s h => ?_) (fun m1 s h hN1 => ?_) fuel (a1, a3) h
 ·obtain ⟨v15, v16⟩ := s
  have h : ix_wavelet_rank_l1 a2 (ix_wavelet_rank_j14) 0 v15 v16 = some r := h
  rw [ix_wavelet_rank_l1.eq_1] at h
  cases h
 ·obtain ⟨v15, v16⟩ := s
  have h : ix_wavelet_rank_l1 a2 (ix_wavelet_rank_j14) (m1 + 1) v15 v16 = some r := h
  rw [ix_wavelet_rank_l1.eq_2] at h
  refine W.seq ?_
  refine W.seq ?_
  refine W.region (by kernel_rfl) ?_
  obtain ⟨q19, hq19, h⟩ := bind_some h
  obtain ⟨f20, f21, f22, f23⟩ := q19
  dsimp only [ixwavelet.cs] at h
  refine WO.pureK 1 (match v15.isNone with | false => some (AV.ptr (e_ixwaveletx v15)) | true => none) (v := .ptr (.agg [l5 none f20, l3 none f21, ep_ixwavelet f22, ep_ixwavelet f23])) (by kernel_rfl) (nc_av (F := e_ixwaveletx) hq19) (e1 := [(0, ep_ixwavelet v15), (1, .int .u8 a2), (2, I6 v16), (14, ep_ixwavelet v15), (15, .ptr (.agg [l5 none f20, l3 none f21, ep_ixwavelet f22, ep_ixwavelet f23]))]) (by kernel_rfl) ?_
  refine WO.fin [0, 1, 2, 18] [] [] [] (e2 := [(0, ep_ixwavelet v15), (1, .int .u8 a2), (2, I6 v16), (18, .bool (!f22.isNone))]) (by kernel_rfl) (fun _ h => h) ?_
  refine W.condB (!f22.isNone) (by kernel_rfl) (fun hb => ?_) (fun hb => ?_)
  ·replace h := cond_t hb h
   refine W.skip ?_
   refine W.weak [0, 1, 2] [] [] [] (env' := [(0, ep_ixwavelet v15), (1, .int .u8 a2), (2, I6 v16)]) (by kernel_rfl) ?_
   refine W.block ?_
   refine W.seq ?_
   refine W.region (by kernel_rfl) ?_
   obtain ⟨q25, hq25, h⟩ := bind_some h
   obtain ⟨f26, f27, f28, f29⟩ := q25
   dsimp only [ixwavelet.cs] at h
   refine WO.pureK 1 (match v15.isNone with | false => some (AV.ptr (e_ixwaveletx v15)) | true => none) (v := .ptr (.agg [l5 none f26, l3 none f27, ep_ixwavelet f28, ep_ixwavelet f29])) (by kernel_rfl) (nc_av (F := e_ixwaveletx) hq25) (e1 := [(0, ep_ixwavelet v15), (1, .int .u8 a2), (2, I6 v16), (19, ep_ixwavelet v15), (20, .ptr (.agg [l5 none f26, l3 none f27, ep_ixwavelet f28, ep_ixwavelet f29]))]) (by kernel_rfl) ?_
   obtain ⟨q30, hq30, h⟩ := bind_some h
   obtain ⟨f31, f32, f33, f34⟩ := q30
   dsimp only [ixwavelet.cs] at h
   refine WO.pureK 2 (match f29.isNone with | false => some (AV.ptr (e_ixwaveletx f29)) | true => none) (v := .ptr (.agg [l5 none f31, l3 none f32, ep_ixwavelet f33, ep_ixwavelet f34])) (by kernel_rfl) (nc_av (F := e_ixwaveletx) hq30) (e1 := [(0, ep_ixwavelet v15), (1, .int .u8 a2), (2, I6 v16), (19, ep_ixwavelet v15), (20, .ptr (.agg [l5 none f26, l3 none f27, ep_ixwavelet f28, ep_ixwavelet f29])), (21, .ptr (ep_ixwavelet f29)), (22, ep_ixwavelet f29), (23, .ptr (.agg [l5 none f31, l3 none f32, ep_ixwavelet f33, ep_ixwavelet f34]))]) (by kernel_rfl) ?_
   obtain ⟨w35, hw35, h⟩ := bind_some h
   refine WO.callK 3 (F := 77) (l := [l5 none f31, .int .u8 a2]) (C := []) (r := .bool w35) (by kernel_rfl) (by kernel_rfl) (run_sl_Contains_byte f31 a2 w35 hw35) (e1 := [(0, ep_ixwavelet v15), (1, .int .u8 a2), (2, I6 v16), (19, ep_ixwavelet v15), (20, .ptr (.agg [l5 none f26, l3 none f27, ep_ixwavelet f28, ep_ixwavelet f29])), (21, .ptr (ep_ixwavelet f29)), (22, ep_ixwavelet f29), (23, .ptr (.agg [l5 none f31, l3 none f32, ep_ixwavelet f33, ep_ixwavelet f34])), (24, .ptr (l5 none f31)), (25, l5 none f31), (26, .int .u8 a2), (27, .bool w35)]) (by kernel_rfl) ?_
   refine WO.fin [0, 1, 2, 27] [] [] [] (e2 := [(0, ep_ixwavelet v15), (1, .int .u8 a2), (2, I6 v16), (27, .bool w35)]) (by kernel_rfl) (fun _ h => h) ?_
   refine W.condB w35 (by kernel_rfl) (fun hb => ?_) (fun hb => ?_)
   ·replace h := cond_t hb h
    refine W.seq ?_
    refine W.region (by kernel_rfl) ?_
    obtain ⟨q37, hq37, h⟩ := bind_some h
    obtain ⟨f38, f39, f40, f41⟩ := q37
    dsimp only [ixwavelet.cs] at h
    refine WO.pureK 1 (match v15.isNone with | false => some (AV.ptr (e_ixwaveletx v15)) | true => none) (v := .ptr (.agg [l5 none f38, l3 none f39, ep_ixwavelet f40, ep_ixwavelet f41])) (by kernel_rfl) (nc_av (F := e_ixwaveletx) hq37) (e1 := [(0, ep_ixwavelet v15), (1, .int .u8 a2), (2, I6 v16), (27, .bool w35), (28, ep_ixwavelet v15), (29, .ptr (.agg [l5 none f38, l3 none f39, ep_ixwavelet f40, ep_ixwavelet f41]))]) (by kernel_rfl) ?_
    obtain ⟨e42, he42, h⟩ := bind_some h
    refine WO.pureK 3 (if (0 : Int) ≤ v16 then ((M6 f39)[Int.toNat v16]?).map AV.ptr else none) (v := .ptr (I6 e42)) (by kernel_rfl) (idx_av (f := (AV.int .i64)) he42) (e1 := [(0, ep_ixwavelet v15), (1, .int .u8 a2), (2, I6 v16), (27, .bool w35), (28, ep_ixwavelet v15), (29, .ptr (.agg [l5 none f38, l3 none f39, ep_ixwavelet f40, ep_ixwavelet f41])), (30, .ptr (l3 none f39)), (31, l3 none f39), (32, I6 v16), (33, .ptr (I6 e42))]) (by kernel_rfl) ?_
    refine WO.fin [0, 1, 2] [] [] [] (e2 := [(0, ep_ixwavelet v15), (1, .int .u8 a2), (2, I6 e42)]) (by kernel_rfl) (fun _ h => h) ?_
    refine W.region (by kernel_rfl) ?_
    obtain ⟨q43, hq43, h⟩ := bind_some h
    obtain ⟨f44, f45, f46, f47⟩ := q43
    dsimp only [ixwavelet.cs] at h
    refine WO.pureK 1 (match v15.isNone with | false => some (AV.ptr (e_ixwaveletx v15)) | true => none) (v := .ptr (.agg [l5 none f44, l3 none f45, ep_ixwavelet f46, ep_ixwavelet f47])) (by kernel_rfl) (nc_av (F := e_ixwaveletx) hq43) (e1 := [(0, ep_ixwavelet v15), (1, .int .u8 a2), (2, I6 e42), (35, ep_ixwavelet v15), (36, .ptr (.agg [l5 none f44, l3 none f45, ep_ixwavelet f46, ep_ixwavelet f47]))]) (by kernel_rfl) ?_
    refine WO.fin [0, 1, 2] [] [] [] (e2 := [(0, ep_ixwavelet f47), (1, .int .u8 a2), (2, I6 e42)]) (by kernel_rfl) (fun _ h => h) ?_
    exact hN1 (f47, e42) h
   replace h := cond_f hb h
   refine W.seq ?_
   refine W.region (by kernel_rfl) ?_
   obtain ⟨q49, hq49, h⟩ := bind_some h
   obtain ⟨f50, f51, f52, f53⟩ := q49
   dsimp only [ixwavelet.cs] at h
   refine WO.pureK 2 (match v15.isNone with | false => some (AV.ptr (e_ixwaveletx v15)) | true => none) (v := .ptr (.agg [l5 none f50, l3 none f51, ep_ixwavelet f52, ep_ixwavelet f53])) (by kernel_rfl) (nc_av (F := e_ixwaveletx) hq49) (e1 := [(0, ep_ixwavelet v15), (1, .int .u8 a2), (2, I6 v16), (27, .bool w35), (39, I6 v16), (40, ep_ixwavelet v15), (41, .ptr (.agg [l5 none f50, l3 none f51, ep_ixwavelet f52, ep_ixwavelet f53]))]) (by kernel_rfl) ?_
   obtain ⟨e54, he54, h⟩ := bind_some h
   refine WO.pureK 3 (if (0 : Int) ≤ v16 then ((M6 f51)[Int.toNat v16]?).map AV.ptr else none) (v := .ptr (I6 e54)) (by kernel_rfl) (idx_av (f := (AV.int .i64)) he54) (e1 := [(0, ep_ixwavelet v15), (1, .int .u8 a2), (2, I6 v16), (27, .bool w35), (39, I6 v16), (40, ep_ixwavelet v15), (41, .ptr (.agg [l5 none f50, l3 none f51, ep_ixwavelet f52, ep_ixwavelet f53])), (42, .ptr (l3 none f51)), (43, l3 none f51), (44, I6 v16), (45, .ptr (I6 e54))]) (by kernel_rfl) ?_
   refine WO.fin [0, 1, 2] [] [] [] (e2 := [(0, ep_ixwavelet v15), (1, .int .u8 a2), (2, I6 (W6 (v16 - e54)))]) (by kernel_rfl) (fun _ h => h) ?_
   refine W.region (by kernel_rfl) ?_
   obtain ⟨q55, hq55, h⟩ := bind_some h
   obtain ⟨f56, f57, f58, f59⟩ := q55
   dsimp only [ixwavelet.cs] at h
   refine WO.pureK 1 (match v15.isNone with | false => some (AV.ptr (e_ixwaveletx v15)) | true => none) (v := .ptr (.agg [l5 none f56, l3 none f57, ep_ixwavelet f58, ep_ixwavelet f59])) (by kernel_rfl) (nc_av (F := e_ixwaveletx) hq55) (e1 := [(0, ep_ixwavelet v15), (1, .int .u8 a2), (2, I6 (W6 (v16 - e54))), (48, ep_ixwavelet v15), (49, .ptr (.agg [l5 none f56, l3 none f57, ep_ixwavelet f58, ep_ixwavelet f59]))]) (by kernel_rfl) ?_
   refine WO.fin [0, 1, 2] [] [] [] (e2 := [(0, ep_ixwavelet f58), (1, .int .u8 a2), (2, I6 (W6 (v16 - e54)))]) (by kernel_rfl) (fun _ h => h) ?_
   exact hN1 (f58, (W6 (v16 - e54))) h
  replace h := cond_f hb h
  refine W.exit ?_
  refine W.weak [2] [] [] [] (env' := [(2, I6 v16)]) (by kernel_rfl) ?_
  exact hK14 v16 h
def ix_Index_before (fuel : Nat) (a1 : (Option ixIndex)) (a2 : Int) (a3 : Int) : Option Int :=
 (a1.bind fun q6 => ((idx q6.f_starts a2).bind fun e7 => (a1.bind fun q8 => ((ix_wavelet_rank fuel q8.f_w a2 a3).bind fun w9 => (some (IntKind.wrap .i64 (e7 + w9)))))))
theorem run_ix_Index_before (fuel : Nat) (a1 : (Option ixIndex)) (a2 : Int) (a3 : Int) (r : Int) (h : ix_Index_before fuel a1 a2 a3 = some r) : Run Try.prog (.call 54 [ep e_ixIndex a1, .int .u8 a2, I6 a3] (I6 r)) := by
 refine call_of_W Try.func54 rfl (by kernel_rfl) (env0 := [(0, ep e_ixIndex a1), (1, .int .u8 a2), (2, I6 a3)]) (by kernel_rfl) ?_
 unfold ix_Index_before at h
 refine W.seq ?_
 refine W.regT [0, 1, 2] [] [] [] (e2 := [(0, ep e_ixIndex a1), (1, .int .u8 a2), (2, I6 a3)]) (by kernel_rfl) (by kernel_rfl) (fun _ h => h) ?_
 refine W.seq ?_
 refine W.region (by kernel_rfl) ?_
 obtain ⟨q6, hq6, h⟩ := bind_some h
 refine WO.pureK 1 (match a1.isNone with | false => some (AV.ptr ((epx e_ixIndex) a1)) | true => none) (v := .ptr (.agg [ep_ixwavelet q6.f_w, I6 q6.f_length, l3 none q6.f_starts, l3 none q6.f_places])) (by kernel_rfl) (nc_av (F := (epx e_ixIndex)) hq6) (e1 := [(0, ep e_ixIndex a1), (1, .int .u8 a2), (2, I6 a3), (7, ep e_ixIndex a1), (8, .ptr (.agg [ep_ixwavelet q6.f_w, I6 q6.f_length, l3 none q6.f_starts, l3 none q6.f_places]))]) (by kernel_rfl) ?_
 obtain ⟨e7, he7, h⟩ := bind_some h
 refine WO.pureK 3 (if (0 : Int) ≤ a2 then ((M6 q6.f_starts)[Int.toNat a2]?).map AV.ptr else none) (v := .ptr (I6 e7)) (by kernel_rfl) (idx_av (f := (AV.int .i64)) he7) (e1 := [(0, ep e_ixIndex a1), (1, .int .u8 a2), (2, I6 a3), (7, ep e_ixIndex a1), (8, .ptr (.agg [ep_ixwavelet q6.f_w, I6 q6.f_length, l3 none q6.f_starts, l3 none q6.f_places])), (9, .ptr (l3 none q6.f_starts)), (10, l3 none q6.f_starts), (11, .int .u8 a2), (12, .ptr (I6 e7))]) (by kernel_rfl) ?_
 obtain ⟨q8, hq8, h⟩ := bind_some h
 refine WO.pureK 2 (match a1.isNone with | false => some (AV.ptr ((epx e_ixIndex) a1)) | true => none) (v := .ptr (.agg [ep_ixwavelet q8.f_w, I6 q8.f_length, l3 none q8.f_starts, l3 none q8.f_places])) (by kernel_rfl) (nc_av (F := (epx e_ixIndex)) hq8) (e1 := [(0, ep e_ixIndex a1), (1, .int .u8 a2), (2, I6 a3), (7, ep e_ixIndex a1), (8, .ptr (.agg [ep_ixwavelet q6.f_w, I6 q6.f_length, l3 none q6.f_starts, l3 none q6.f_places])), (9, .ptr (l3 none q6.f_starts)), (10, l3 none q6.f_starts), (11, .int .u8 a2), (12, .ptr (I6 e7)), (13, I6 e7), (14, ep e_ixIndex a1), (15, .ptr (.agg [ep_ixwavelet q8.f_w, I6 q8.f_length, l3 none q8.f_starts, l3 none q8.f_places]))]) (by kernel_rfl) ?_
 obtain ⟨w9, hw9, h⟩ := bind_some h
 refine WO.callK 4 (F := 51) (l := [ep_ixwavelet q8.f_w, .int .u8 a2, I6 a3]) (C := []) (r := I6 w9) (by kernel_rfl) (by kernel_rfl) (run_ix_wavelet_rank fuel q8.f_w a2 a3 w9 hw9) (e1 := [(0, ep e_ixIndex a1), (1, .int .u8 a2), (2, I6 a3), (7, ep e_ixIndex a1), (8, .ptr (.agg [ep_ixwavelet q6.f_w, I6 q6.f_length, l3 none q6.f_starts, l3 none q6.f_places])), (9, .ptr (l3 none q6.f_starts)), (10, l3 none q6.f_starts), (11, .int .u8 a2), (12, .ptr (I6 e7)), (13, I6 e7), (14, ep e_ixIndex a1), (15, .ptr (.agg [ep_ixwavelet q8.f_w, I6 q8.f_length, l3 none q8.f_starts, l3 none q8.f_places])), (16, .ptr (ep_ixwavelet q8.f_w)), (17, ep_ixwavelet q8.f_w), (18, .int .u8 a2), (19, I6 a3), (20, I6 w9)]) (by kernel_rfl) ?_
 refine WO.fin [6] [] [] [] (e2 := [(6, I6 (W6 (e7 + w9)))]) (by kernel_rfl) (fun _ h => h) ?_
 refine W.weak [6] [] [] [] (env' := [(6, I6 (W6 (e7 + w9)))]) (by kernel_rfl) ?_
 have hr : aresults Try.prog Try.f54 [(6, I6 (W6 (e7 + w9)))] = some (I6 (W6 (e7 + w9))) := by kernel_rfl
 cases h
 exact W.ret hr
def ix_Index_find_j6 (v18 : Int) (v19 : Int) : Option (Int × Int) :=
 (some (v18, (if v19 > v18 then v19 else v18)))
def ix_Index_find_l1 (fuel : Nat) (a1 : (Option ixIndex)) (a2 : ByteArray) (K6 : (Int → Int → Option (Int × Int))) : Nat → Int → Int → Int → Option (Int × Int)
 | 0, _, _, _ => none
 | m1 + 1, v8, v9, v10 => (bif (decide (v10 ≥ 0)) then ((sidx a2 v10).bind fun e14 => ((ix_Index_before fuel a1 e14 v8).bind fun w15 => ((sidx a2 v10).bind fun e16 => ((ix_Index_before fuel a1 e16 v9).bind fun w17 => ((ix_Index_find_l1 fuel a1 a2 K6 m1) w15 w17 (IntKind.wrap .i64 (v10 - 1))))))) else (K6 v8 v9))
def ix_Index_find (fuel : Nat) (a1 : (Option ixIndex)) (a2 : ByteArray) : Option (Int × Int) :=
 (a1.bind fun q5 => (ix_Index_find_l1 fuel a1 a2 (ix_Index_find_j6) fuel 0 (IntKind.wrap .i64 (q5.f_length + 1)) (IntKind.wrap .i64 ((a2.size : Int) - 1))))
theorem run_ix_Index_find (fuel : Nat) (a1 : (Option ixIndex)) (a2 : ByteArray) (r : (Int × Int)) (h : ix_Index_find fuel a1 a2 = some r) : Run Try.prog (.call 49 [ep e_ixIndex a1, .str a2] (.tup [I6 r.1, I6 r.2])) := by
 refine call_of_W Try.func49 rfl (by kernel_rfl) (env0 := [(0, ep e_ixIndex a1), (1, .str a2)]) (by kernel_rfl) ?_
 unfold ix_Index_find at h
 refine W.seq ?_
 refine W.regT [0, 1] [] [] [] (e2 := [(0, ep e_ixIndex a1), (1, .str a2)]) (by kernel_rfl) (by kernel_rfl) (fun _ h => h) ?_
 refine W.seq ?_
 refine W.region (by kernel_rfl) ?_
 obtain ⟨q5, hq5, h⟩ := bind_some h
 refine WO.pureK 1 (match a1.isNone with | false => some (AV.ptr ((epx e_ixIndex) a1)) | true => none) (v := .ptr (.agg [ep_ixwavelet q5.f_w, I6 q5.f_length, l3 none q5.f_starts, l3 none q5.f_places])) (by kernel_rfl) (nc_av (F := (epx e_ixIndex)) hq5) (e1 := [(0, ep e_ixIndex a1), (1, .str a2), (7, ep e_ixIndex a1), (8, .ptr (.agg [ep_ixwavelet q5.f_w, I6 q5.f_length, l3 none q5.f_starts, l3 none q5.f_places]))]) (by kernel_rfl) ?_
 refine WO.fin [0, 1, 4, 5] [] [] [] (e2 := [(0, ep e_ixIndex a1), (1, .str a2), (4, .int .i64 0), (5, I6 (W6 (q5.f_length + 1)))]) (by kernel_rfl) (fun _ h => h) ?_
 refine W.seq ?_
 refine W.join (σ := (Int × Int)) (fun s => [(4, I6 s.1), (5, I6 s.2)]) (fun s => (ix_Index_find_j6) s.1 s.2 = some r) (fun s h => ?_) (fun hK6 => ?_)
 ·obtain ⟨v18, v19⟩ := s
  have h : (ix_Index_find_j6) v18 v19 = some r := h
  unfold ix_Index_find_j6 at h
  refine W.seq ?_
  refine W.regT [4, 5] [] [] [] (e2 := [(4, I6 v18), (5, I6 (if v19 > v18 then v19 else v18))]) (by kernel_rfl) (by kernel_rfl) (fun _ h => h) ?_
  refine W.weak [4, 5] [] [] [] (env' := [(4, I6 v18), (5, I6 (if v19 > v18 then v19 else v18))]) (by kernel_rfl) ?_
  have hr : aresults Try.prog Try.f49 [(4, I6 v18), (5, I6 (if v19 > v18 then v19 else v18))] = some (.tup [I6 v18, I6 (if v19 > v18 then v19 else v18)]) := by kernel_rfl
  cases h
  exact W.ret hr
 refine W.seq ?_
 refine W.regT [0, 1, 4, 5, 6] [] [] [] (e2 := [(0, ep e_ixIndex a1), (1, .str a2), (4, .int .i64 0), (5, I6 (W6 (q5.f_length + 1))), (6, I6 (W6 ((a2.size : Int) - 1)))]) (by kernel_rfl) (by kernel_rfl) (fun _ h => h) ?_
 refine W.block ?_
 refine W.weak [0, 1, 4, 5, 6] [] [] [] (env' := [(0, ep e_ixIndex a1), (1, .str a2), (4, .int .i64 0), (5, I6 (W6 (q5.f_length + 1))), (6, I6 (W6 ((a2.size : Int) - 1)))]) (by kernel_rfl) ?_
 refine W.fuel (σ := (Int × Int × Int)) (fun s => [(0, ep e_ixIndex a1), (1, .str a2), (4, I6 s.1), (5, I6 s.2.1), (6, I6 s.2.2)]) (fun m0 s => ix_Index_find_l1 fuel a1 a2 (ix_Index_find_j6) m0 s.1 s.2.1 s.2.2 = some r) (fun s h => ?_) (fun m1 s h hN1 => ?_) fuel (0, (W6 (q5.f_length + 1)), (W6 ((a2.size : Int) - 1))) h
 ·obtain ⟨v8, v9, v10⟩ := s
  have h : ix_Index_find_l1 fuel a1 a2 (ix_Index_find_j6) 0 v8 v9 v10 = some r := h
  rw [ix_Index_find_l1.eq_1] at h
  cases h
 ·obtain ⟨v8, v9, v10⟩ := s
  have h : ix_Index_find_l1 fuel a1 a2 (ix_Index_find_j6) (m1 + 1) v8 v9 v10 = some r := h
  rw [ix_Index_find_l1.eq_2] at h
  refine W.seq ?_
  refine W.seq ?_
  refine W.regT [0, 1, 4, 5, 6, 16] [] [] [] (e2 := [(0, ep e_ixIndex a1), (1, .str a2), (4, I6 v8), (5, I6 v9), (6, I6 v10), (16, .bool (decide (v10 ≥ 0)))]) (by kernel_rfl) (by kernel_rfl) (fun _ h => h) ?_
  refine W.condB (decide (v10 ≥ 0)) (by kernel_rfl) (fun hb => ?_) (fun hb => ?_)
  ·replace h := cond_t hb h
   refine W.skip ?_
   refine W.weak [0, 1, 4, 5, 6] [] [] [] (env' := [(0, ep e_ixIndex a1), (1, .str a2), (4, I6 v8), (5, I6 v9), (6, I6 v10)]) (by kernel_rfl) ?_
   refine W.seq ?_
   refine W.block ?_
   refine W.region (by kernel_rfl) ?_
   obtain ⟨e14, he14, h⟩ := bind_some h
   refine WO.pureK 3 (if (0 : Int) ≤ v10 then (a2[Int.toNat v10]?).map fun b => AV.int .u8 b.toNat else none) (v := .int .u8 e14) (by kernel_rfl) (sidx_av he14) (e1 := [(0, ep e_ixIndex a1), (1, .str a2), (4, I6 v8), (5, I6 v9), (6, I6 v10), (19, ep e_ixIndex a1), (20, .str a2), (21, I6 v10), (22, .int .u8 e14)]) (by kernel_rfl) ?_
   obtain ⟨w15, hw15, h⟩ := bind_some h
   refine WO.callK 1 (F := 54) (l := [ep e_ixIndex a1, .int .u8 e14, I6 v8]) (C := []) (r := I6 w15) (by kernel_rfl) (by kernel_rfl) (run_ix_Index_before fuel a1 e14 v8 w15 hw15) (e1 := [(0, ep e_ixIndex a1), (1, .str a2), (4, I6 v8), (5, I6 v9), (6, I6 v10), (19, ep e_ixIndex a1), (20, .str a2), (21, I6 v10), (22, .int .u8 e14), (23, I6 v8), (24, I6 w15)]) (by kernel_rfl) ?_
   obtain ⟨e16, he16, h⟩ := bind_some h
   refine WO.pureK 3 (if (0 : Int) ≤ v10 then (a2[Int.toNat v10]?).map fun b => AV.int .u8 b.toNat else none) (v := .int .u8 e16) (by kernel_rfl) (sidx_av he16) (e1 := [(0, ep e_ixIndex a1), (1, .str a2), (4, I6 v8), (5, I6 v9), (6, I6 v10), (19, ep e_ixIndex a1), (20, .str a2), (21, I6 v10), (22, .int .u8 e14), (23, I6 v8), (24, I6 w15), (25, ep e_ixIndex a1), (26, .str a2), (27, I6 v10), (28, .int .u8 e16)]) (by kernel_rfl) ?_
   obtain ⟨w17, hw17, h⟩ := bind_some h
   refine WO.callK 1 (F := 54) (l := [ep e_ixIndex a1, .int .u8 e16, I6 v9]) (C := []) (r := I6 w17) (by kernel_rfl) (by kernel_rfl) (run_ix_Index_before fuel a1 e16 v9 w17 hw17) (e1 := [(0, ep e_ixIndex a1), (1, .str a2), (4, I6 v8), (5, I6 v9), (6, I6 v10), (19, ep e_ixIndex a1), (20, .str a2), (21, I6 v10), (22, .int .u8 e14), (23, I6 v8), (24, I6 w15), (25, ep e_ixIndex a1), (26, .str a2), (27, I6 v10), (28, .int .u8 e16), (29, I6 v9), (30, I6 w17)]) (by kernel_rfl) ?_
   refine WO.fin [0, 1, 4, 5, 6] [] [] [] (e2 := [(0, ep e_ixIndex a1), (1, .str a2), (4, I6 w15), (5, I6 w17), (6, I6 v10)]) (by kernel_rfl) (fun _ h => h) ?_
   refine W.regT [0, 1, 4, 5, 6] [] [] [] (e2 := [(0, ep e_ixIndex a1), (1, .str a2), (4, I6 w15), (5, I6 w17), (6, I6 (W6 (v10 - 1)))]) (by kernel_rfl) (by kernel_rfl) (fun _ h => h) ?_
   exact hN1 (w15, w17, (W6 (v10 - 1))) h
  replace h := cond_f hb h
  refine W.exit ?_
  refine W.weak [4, 5] [] [] [] (env' := [(4, I6 v8), (5, I6 v9)]) (by kernel_rfl) ?_
  exact hK6 (v8, v9) h
def ix_Index_Count (fuel : Nat) (a1 : (Option ixIndex)) (a2 : ByteArray) : Option (Int × Int) :=
 ((ix_Index_none a1).bind fun w6 => (bif w6 then (some (0, 1)) else ((ix_valid a2).bind fun w10 => (bif (!w10) then (some (0, 2)) else ((ix_Index_find fuel a1 a2).bind fun w13 => (some ((IntKind.wrap .i64 (w13.2 - w13.1)), 0)))))))
theorem run_ix_Index_Count (fuel : Nat) (a1 : (Option ixIndex)) (a2 : ByteArray) (r : (Int × Int)) (h : ix_Index_Count fuel a1 a2 = some r) : Run Try.prog (.call 32 [ep e_ixIndex a1, .str a2] (.tup [I6 r.1, I6 r.2])) := by
 refine call_of_W Try.func32 rfl (by kernel_rfl) (env0 := [(0, ep e_ixIndex a1), (1, .str a2)]) (by kernel_rfl) ?_
 unfold ix_Index_Count at h
 refine W.seq ?_
 refine W.regT [0, 1] [] [] [] (e2 := [(0, ep e_ixIndex a1), (1, .str a2)]) (by kernel_rfl) (by kernel_rfl) (fun _ h => h) ?_
 refine W.seq ?_
 refine W.seq ?_
 refine W.region (by kernel_rfl) ?_
 obtain ⟨w6, hw6, h⟩ := bind_some h
 refine WO.callK 1 (F := 48) (l := [ep e_ixIndex a1]) (C := []) (r := .bool w6) (by kernel_rfl) (by kernel_rfl) (run_ix_Index_none a1 w6 hw6) (e1 := [(0, ep e_ixIndex a1), (1, .str a2), (8, ep e_ixIndex a1), (9, .bool w6)]) (by kernel_rfl) ?_
 refine WO.fin [0, 1, 9] [] [] [] (e2 := [(0, ep e_ixIndex a1), (1, .str a2), (9, .bool w6)]) (by kernel_rfl) (fun _ h => h) ?_
 refine W.condB w6 (by kernel_rfl) (fun hb => ?_) (fun hb => ?_)
 ·replace h := cond_t hb h
  refine W.seq ?_
  refine W.regT [4, 5] [] [] [] (e2 := [(4, .int .i64 0), (5, .int .i64 1)]) (by kernel_rfl) (by kernel_rfl) (fun _ h => h) ?_
  refine W.weak [4, 5] [] [] [] (env' := [(4, .int .i64 0), (5, .int .i64 1)]) (by kernel_rfl) ?_
  have hr : aresults Try.prog Try.f32 [(4, .int .i64 0), (5, .int .i64 1)] = some (.tup [.int .i64 0, .int .i64 1]) := by kernel_rfl
  cases h
  exact W.ret hr
 replace h := cond_f hb h
 refine W.skip ?_
 refine W.weak [0, 1] [] [] [] (env' := [(0, ep e_ixIndex a1), (1, .str a2)]) (by kernel_rfl) ?_
 refine W.seq ?_
 refine W.seq ?_
 refine W.region (by kernel_rfl) ?_
 obtain ⟨w10, hw10, h⟩ := bind_some h
 refine WO.callK 1 (F := 40) (l := [.str a2]) (C := []) (r := .bool w10) (by kernel_rfl) (by kernel_rfl) (run_ix_valid a2 w10 hw10) (e1 := [(0, ep e_ixIndex a1), (1, .str a2), (10, .str a2), (11, .bool w10)]) (by kernel_rfl) ?_
 refine WO.fin [0, 1, 12] [] [] [] (e2 := [(0, ep e_ixIndex a1), (1, .str a2), (12, .bool (!w10))]) (by kernel_rfl) (fun _ h => h) ?_
 refine W.condB (!w10) (by kernel_rfl) (fun hb => ?_) (fun hb => ?_)
 ·replace h := cond_t hb h
  refine W.seq ?_
  refine W.regT [4, 5] [] [] [] (e2 := [(4, .int .i64 0), (5, .int .i64 2)]) (by kernel_rfl) (by kernel_rfl) (fun _ h => h) ?_
  refine W.weak [4, 5] [] [] [] (env' := [(4, .int .i64 0), (5, .int .i64 2)]) (by kernel_rfl) ?_
  have hr : aresults Try.prog Try.f32 [(4, .int .i64 0), (5, .int .i64 2)] = some (.tup [.int .i64 0, .int .i64 2]) := by kernel_rfl
  cases h
  exact W.ret hr
 replace h := cond_f hb h
 refine W.skip ?_
 refine W.weak [0, 1] [] [] [] (env' := [(0, ep e_ixIndex a1), (1, .str a2)]) (by kernel_rfl) ?_
 refine W.seq ?_
 refine W.region (by kernel_rfl) ?_
 obtain ⟨w13, hw13, h⟩ := bind_some h
 refine WO.callK 2 (F := 49) (l := [ep e_ixIndex a1, .str a2]) (C := []) (r := .tup [I6 w13.1, I6 w13.2]) (by kernel_rfl) (by kernel_rfl) (run_ix_Index_find fuel a1 a2 w13 hw13) (e1 := [(0, ep e_ixIndex a1), (1, .str a2), (14, ep e_ixIndex a1), (15, .str a2), (16, .tup [I6 w13.1, I6 w13.2])]) (by kernel_rfl) ?_
 refine WO.fin [6, 7] [] [] [] (e2 := [(6, I6 w13.1), (7, I6 w13.2)]) (by kernel_rfl) (fun _ h => h) ?_
 refine W.seq ?_
 refine W.regT [4, 5] [] [] [] (e2 := [(4, I6 (W6 (w13.2 - w13.1))), (5, .int .i64 0)]) (by kernel_rfl) (by kernel_rfl) (fun _ h => h) ?_
 refine W.weak [4, 5] [] [] [] (env' := [(4, I6 (W6 (w13.2 - w13.1))), (5, .int .i64 0)]) (by kernel_rfl) ?_
 have hr : aresults Try.prog Try.f32 [(4, I6 (W6 (w13.2 - w13.1))), (5, .int .i64 0)] = some (.tup [I6 (W6 (w13.2 - w13.1)), .int .i64 0]) := by kernel_rfl
 cases h
 exact W.ret hr
def sl_Clone_int_own (a1 : (List Int)) : Option (List Int) := chk (capOk 8 (0 + a1.length)) (some a1)
theorem run_sl_Clone_int_own (a1 : (List Int)) (r : (List Int)) (h : sl_Clone_int_own a1 = some r) : Run Try.prog (.callM 50 [l3 none a1] [] (.sb 1900000 3 1 0 r.length) [(1900000, .obj 3 1 (M6 r))]) := by
 refine callM_of_W Try.func50 rfl (by kernel_rfl) (env0 := [(0, l3 none a1)]) (by kernel_rfl) ?_
 unfold sl_Clone_int_own at h
 obtain ⟨hc, h⟩ := chk_some h
 cases h
 refine W.regS [0] [] [] [] (e2 := [(0, l3 none a1)]) (by kernel_rfl) (by kernel_rfl) ?_
 refine W.seqU (e0 := [(0, l3 none a1), (3, l3 none a1), (4, .ub (M6 a1).isEmpty)]) (e2 := [(2, .sb 1900000 3 1 0 a1.length), (1900000, .obj 3 1 (M6 a1))]) (ei := [(0, l3 none a1)]) (M6 a1).isEmpty ?_ (by kernel_rfl) (fun hp => ?_) ?_ ?_ ?_
 ·exact W.region (by kernel_rfl) (WO.end0 (e2 := [(0, l3 none a1), (3, l3 none a1), (4, .ub (M6 a1).isEmpty)]) (by kernel_rfl) ⟨rfl, rfl⟩)
 ·have hl : a1 = [] := by simpa using hp
  subst hl
  refine W.regS [2] [] [] [] (e2 := [(2, .nils)]) (by kernel_rfl) (by kernel_rfl) ?_
  refine W.mv [.nil 2 3 1 1900000] (env' := [(2, .sb 1900000 3 1 0 0), (1900000, .obj 3 1 [])]) (by kernel_rfl) ?_
  exact W.ret ⟨rfl, rfl⟩
 ·refine W.weak [0] [] [] [] (env' := [(0, l3 none a1)]) (by kernel_rfl) ?_
  exact W.skip ⟨rfl, rfl⟩
 ·refine W.seq ?_
  refine W.region (by kernel_rfl) ?_
  refine WO.rowK 0 (e1 := [(0, l3 none a1), (5, .sb 1000005 3 1 0 0), (1000005, .obj 3 1 [])]) (by kernel_rfl) ?_
  refine WO.appendOK 1 (d := 7) (e := 3) (s := 1) (bytes := 8) (m := 0) (n2 := a1.length) (xs := []) (ys := (M6 a1)) (zs := (M6 a1)) (env1 := [(0, l3 none a1), (5, .top), (6, l3 none a1)]) (by kernel_rfl) (by rw [List.length_map]; exact hc) rfl (List.length_map _) (e1 := [(0, l3 none a1), (5, .top), (6, l3 none a1), (7, .sb 1000007 3 1 0 a1.length), (1000007, .obj 3 1 (M6 a1))]) (by kernel_rfl) ?_
  refine WO.fin [2, 1000007] [] [] [] (e2 := [(2, .sb 1000007 3 1 0 a1.length), (1000007, .obj 3 1 (M6 a1))]) (by kernel_rfl) (fun _ h => h) ?_
  refine W.mv [.ren 1000007 1900000] (env' := [(2, .sb 1900000 3 1 0 a1.length), (1900000, .obj 3 1 (M6 a1))]) (by kernel_rfl) ?_
  exact W.ret ⟨rfl, rfl⟩
 ·exact ⟨by kernel_rfl, by kernel_rfl⟩
def sl_Sort_int (a1 : (List Int)) (n1 : Nat) : Option (List Int) := chk (decide (n1 = a1.length ∧ a1.length < 4611686018427387904)) (some (sortI a1))
theorem run_sl_Sort_int (a1 : (List Int)) (n1 : Nat) (r : (List Int)) (h : sl_Sort_int a1 n1 = some r) : Run Try.prog (.callM 31 [.sb 2000000 3 1 0 n1] [(2000000, .obj 3 1 (M6 a1))] (.tup []) [(2000000, .obj 3 1 (M6 r))]) := by
 unfold sl_Sort_int at h
 obtain ⟨hp, h⟩ := chk_some h
 cases h
 obtain ⟨h1, h3⟩ := of_decide_eq_true hp
 subst h1
 by_cases h2 : a1 = []
 ·subst h2
  have e : sortI [] = [] := by simp [sortI]
  rw [e]
  exact .extM sortNone31 (fun id x hx => by simp only [look] at hx; split at hx <;> cases hx; rfl)
 exact .extSort rfl h2 h3 knownSort31
def ix_Index_Locate (fuel : Nat) (a1 : (Option ixIndex)) (a2 : ByteArray) : Option ((List Int) × Int) :=
 ((ix_Index_none a1).bind fun w6 => (bif w6 then (some ((snap 0 (([] : (List Int)).length) ([] : (List Int))), 1)) else ((ix_valid a2).bind fun w10 => (bif (!w10) then (some ((snap 0 (([] : (List Int)).length) ([] : (List Int))), 2)) else ((ix_Index_find fuel a1 a2).bind fun w13 => (a1.bind fun q15 => ((sub q15.f_places w13.1 w13.2).bind fun e16 => ((sl_Clone_int_own e16).bind fun w17 => ((sl_Sort_int w17 ((w17).length)).bind fun w19 => (some ((snap 0 ((w17).length) w19), 0)))))))))))
theorem run_ix_Index_Locate (fuel : Nat) (a1 : (Option ixIndex)) (a2 : ByteArray) (r : ((List Int) × Int)) (h : ix_Index_Locate fuel a1 a2 = some r) : Run Try.prog (.call 33 [ep e_ixIndex a1, .str a2] (.tup [l3 none r.1, I6 r.2])) := by
 refine call_of_W Try.func33 rfl (by kernel_rfl) (env0 := [(0, ep e_ixIndex a1), (1, .str a2)]) (by kernel_rfl) ?_
 unfold ix_Index_Locate at h
 refine W.seq ?_
 refine W.region (by kernel_rfl) ?_
 refine WO.steps 1 (e1 := [(0, ep e_ixIndex a1), (1, .str a2), (4, .nils)]) (by kernel_rfl) ?_
 refine WO.mv [.nil 4 3 1 1200004] (env' := [(0, ep e_ixIndex a1), (1, .str a2), (4, .sb 1200004 3 1 0 (([] : (List Int)).length)), (1200004, .obj 3 1 (M6 ([] : (List Int))))]) (by kernel_rfl) ?_
 refine WO.fin [0, 1] [] [] [] (e2 := [(0, ep e_ixIndex a1), (1, .str a2)]) (by kernel_rfl) (fun _ h => h) ?_
 refine W.seq ?_
 refine W.seq ?_
 refine W.region (by kernel_rfl) ?_
 obtain ⟨w6, hw6, h⟩ := bind_some h
 refine WO.callK 1 (F := 48) (l := [ep e_ixIndex a1]) (C := []) (r := .bool w6) (by kernel_rfl) (by kernel_rfl) (run_ix_Index_none a1 w6 hw6) (e1 := [(0, ep e_ixIndex a1), (1, .str a2), (9, ep e_ixIndex a1), (10, .bool w6)]) (by kernel_rfl) ?_
 refine WO.fin [0, 1, 10] [] [] [] (e2 := [(0, ep e_ixIndex a1), (1, .str a2), (10, .bool w6)]) (by kernel_rfl) (fun _ h => h) ?_
 refine W.condB w6 (by kernel_rfl) (fun hb => ?_) (fun hb => ?_)
 ·replace h := cond_t hb h
  refine W.seq ?_
  refine W.region (by kernel_rfl) ?_
  refine WO.steps 1 (e1 := [(0, ep e_ixIndex a1), (1, .str a2), (4, .nils), (10, .bool w6)]) (by kernel_rfl) ?_
  refine WO.mv [.nil 4 3 1 1200004] (env' := [(0, ep e_ixIndex a1), (1, .str a2), (4, .sb 1200004 3 1 0 (([] : (List Int)).length)), (10, .bool w6), (1200004, .obj 3 1 (M6 ([] : (List Int))))]) (by kernel_rfl) ?_
  refine WO.fin [4, 5, 1200004] [] [] [] (e2 := [(4, .sb 1200004 3 1 0 (([] : (List Int)).length)), (5, .int .i64 1), (1200004, .obj 3 1 (M6 ([] : (List Int))))]) (by kernel_rfl) (fun _ h => h) ?_
  refine W.mv [.frz 1200004] (env' := [(4, l3 none (snap 0 (([] : (List Int)).length) ([] : (List Int)))), (5, .int .i64 1)]) ((by kernel_rfl : mvAll [(4, .sb 1200004 3 1 0 (([] : (List Int)).length)), (5, .int .i64 1), (1200004, .obj 3 1 (M6 ([] : (List Int))))] [.frz 1200004] = [(4, .lst 3 1 none (snapA 0 (([] : (List Int)).length) (M6 ([] : (List Int))))), (5, .int .i64 1)]).trans (by first | (simp only [snap_map, snap_full, snap_rep]; done) | (simp only [snap_map, snap_full, snap_rep]; kernel_rfl))) ?_
  refine W.weak [4, 5] [] [] [] (env' := [(4, l3 none (snap 0 (([] : (List Int)).length) ([] : (List Int)))), (5, .int .i64 1)]) (by kernel_rfl) ?_
  have hr : aresults Try.prog Try.f33 [(4, l3 none (snap 0 (([] : (List Int)).length) ([] : (List Int)))), (5, .int .i64 1)] = some (.tup [l3 none (snap 0 (([] : (List Int)).length) ([] : (List Int))), .int .i64 1]) := by kernel_rfl
  cases h
  exact W.ret hr
 replace h := cond_f hb h
 refine W.skip ?_
 refine W.weak [0, 1] [] [] [] (env' := [(0, ep e_ixIndex a1), (1, .str a2)]) (by kernel_rfl) ?_
 refine W.seq ?_
 refine W.seq ?_
 refine W.region (by kernel_rfl) ?_
 obtain ⟨w10, hw10, h⟩ := bind_some h
 refine WO.callK 1 (F := 40) (l := [.str a2]) (C := []) (r := .bool w10) (by kernel_rfl) (by kernel_rfl) (run_ix_valid a2 w10 hw10) (e1 := [(0, ep e_ixIndex a1), (1, .str a2), (11, .str a2), (12, .bool w10)]) (by kernel_rfl) ?_
 refine WO.fin [0, 1, 13] [] [] [] (e2 := [(0, ep e_ixIndex a1), (1, .str a2), (13, .bool (!w10))]) (by kernel_rfl) (fun _ h => h) ?_
 refine W.condB (!w10) (by kernel_rfl) (fun hb => ?_) (fun hb => ?_)
 ·replace h := cond_t hb h
  refine W.seq ?_
  refine W.region (by kernel_rfl) ?_
  refine WO.steps 1 (e1 := [(0, ep e_ixIndex a1), (1, .str a2), (4, .nils), (13, .bool (!w10))]) (by kernel_rfl) ?_
  refine WO.mv [.nil 4 3 1 1200004] (env' := [(0, ep e_ixIndex a1), (1, .str a2), (4, .sb 1200004 3 1 0 (([] : (List Int)).length)), (13, .bool (!w10)), (1200004, .obj 3 1 (M6 ([] : (List Int))))]) (by kernel_rfl) ?_
  refine WO.fin [4, 5, 1200004] [] [] [] (e2 := [(4, .sb 1200004 3 1 0 (([] : (List Int)).length)), (5, .int .i64 2), (1200004, .obj 3 1 (M6 ([] : (List Int))))]) (by kernel_rfl) (fun _ h => h) ?_
  refine W.mv [.frz 1200004] (env' := [(4, l3 none (snap 0 (([] : (List Int)).length) ([] : (List Int)))), (5, .int .i64 2)]) ((by kernel_rfl : mvAll [(4, .sb 1200004 3 1 0 (([] : (List Int)).length)), (5, .int .i64 2), (1200004, .obj 3 1 (M6 ([] : (List Int))))] [.frz 1200004] = [(4, .lst 3 1 none (snapA 0 (([] : (List Int)).length) (M6 ([] : (List Int))))), (5, .int .i64 2)]).trans (by first | (simp only [snap_map, snap_full, snap_rep]; done) | (simp only [snap_map, snap_full, snap_rep]; kernel_rfl))) ?_
  refine W.weak [4, 5] [] [] [] (env' := [(4, l3 none (snap 0 (([] : (List Int)).length) ([] : (List Int)))), (5, .int .i64 2)]) (by kernel_rfl) ?_
  have hr : aresults Try.prog Try.f33 [(4, l3 none (snap 0 (([] : (List Int)).length) ([] : (List Int)))), (5, .int .i64 2)] = some (.tup [l3 none (snap 0 (([] : (List Int)).length) ([] : (List Int))), .int .i64 2]) := by kernel_rfl
  cases h
  exact W.ret hr
 replace h := cond_f hb h
 refine W.skip ?_
 refine W.weak [0, 1] [] [] [] (env' := [(0, ep e_ixIndex a1), (1, .str a2)]) (by kernel_rfl) ?_
 refine W.seq ?_
 refine W.region (by kernel_rfl) ?_
 obtain ⟨w13, hw13, h⟩ := bind_some h
 refine WO.callK 2 (F := 49) (l := [ep e_ixIndex a1, .str a2]) (C := []) (r := .tup [I6 w13.1, I6 w13.2]) (by kernel_rfl) (by kernel_rfl) (run_ix_Index_find fuel a1 a2 w13 hw13) (e1 := [(0, ep e_ixIndex a1), (1, .str a2), (15, ep e_ixIndex a1), (16, .str a2), (17, .tup [I6 w13.1, I6 w13.2])]) (by kernel_rfl) ?_
 refine WO.fin [0, 6, 7] [] [] [] (e2 := [(0, ep e_ixIndex a1), (6, I6 w13.1), (7, I6 w13.2)]) (by kernel_rfl) (fun _ h => h) ?_
 refine W.seq ?_
 refine W.region (by kernel_rfl) ?_
 obtain ⟨q15, hq15, h⟩ := bind_some h
 refine WO.pureK 1 (match a1.isNone with | false => some (AV.ptr ((epx e_ixIndex) a1)) | true => none) (v := .ptr (.agg [ep_ixwavelet q15.f_w, I6 q15.f_length, l3 none q15.f_starts, l3 none q15.f_places])) (by kernel_rfl) (nc_av (F := (epx e_ixIndex)) hq15) (e1 := [(0, ep e_ixIndex a1), (6, I6 w13.1), (7, I6 w13.2), (20, ep e_ixIndex a1), (21, .ptr (.agg [ep_ixwavelet q15.f_w, I6 q15.f_length, l3 none q15.f_starts, l3 none q15.f_places]))]) (by kernel_rfl) ?_
 obtain ⟨e16, he16, h⟩ := bind_some h
 refine WO.pureK 4 (if (0 : Int) ≤ w13.1 ∧ w13.1 ≤ w13.2 ∧ w13.2 ≤ ((M6 q15.f_places).length : Int) then some (.lst 3 1 none (((M6 q15.f_places).take (Int.toNat w13.2)).drop (Int.toNat w13.1))) else none) (v := l3 none e16) (by kernel_rfl) (sub_av he16) (e1 := [(0, ep e_ixIndex a1), (6, I6 w13.1), (7, I6 w13.2), (20, ep e_ixIndex a1), (21, .ptr (.agg [ep_ixwavelet q15.f_w, I6 q15.f_length, l3 none q15.f_starts, l3 none q15.f_places])), (22, .ptr (l3 none q15.f_places)), (23, l3 none q15.f_places), (24, I6 w13.1), (25, I6 w13.2), (26, l3 none e16)]) (by kernel_rfl) ?_
 obtain ⟨w17, hw17, h⟩ := bind_some h
 refine WO.callMK 0 [] [(1000027, 1900000)] (F := 50) (args := [l3 none e16]) (hp := []) (hp2 := [(1900000, .obj 3 1 (M6 w17))]) (r := .sb 1900000 3 1 0 ((w17).length)) (by kernel_rfl) (run_sl_Clone_int_own e16 w17 hw17) (e1 := [(0, ep e_ixIndex a1), (6, I6 w13.1), (7, I6 w13.2), (20, ep e_ixIndex a1), (21, .ptr (.agg [ep_ixwavelet q15.f_w, I6 q15.f_length, l3 none q15.f_starts, l3 none q15.f_places])), (22, .ptr (l3 none q15.f_places)), (23, l3 none q15.f_places), (24, I6 w13.1), (25, I6 w13.2), (26, l3 none e16), (27, .sb 1000027 3 1 0 ((w17).length)), (1000027, .obj 3 1 (M6 w17))]) (by kernel_rfl) ?_
 refine WO.fin [8, 1000027] [] [] [] (e2 := [(8, .sb 1000027 3 1 0 ((w17).length)), (1000027, .obj 3 1 (M6 w17))]) (by kernel_rfl) (fun _ h => h) ?_
 refine W.seq ?_
 refine W.region (by kernel_rfl) ?_
 obtain ⟨w19, hw19, h⟩ := bind_some h
 refine WO.callMK 1 [(1000027, 2000000)] [] (F := 31) (args := [.sb 2000000 3 1 0 ((w17).length)]) (hp := [(2000000, .obj 3 1 (M6 w17))]) (hp2 := [(2000000, .obj 3 1 (M6 w19))]) (r := .tup []) (by kernel_rfl) (run_sl_Sort_int w17 ((w17).length) w19 hw19) (e1 := [(8, .sb 1000027 3 1 0 ((w17).length)), (28, .sb 1000027 3 1 0 ((w17).length)), (29, .tup []), (1000027, .obj 3 1 (M6 w19))]) (by kernel_rfl) ?_
 refine WO.fin [8, 1000027] [] [] [] (e2 := [(8, .sb 1000027 3 1 0 ((w17).length)), (1000027, .obj 3 1 (M6 w19))]) (by kernel_rfl) (fun _ h => h) ?_
 refine W.seq ?_
 refine W.regT [4, 5, 1000027] [] [] [] (e2 := [(4, .sb 1000027 3 1 0 ((w17).length)), (5, .int .i64 0), (1000027, .obj 3 1 (M6 w19))]) (by kernel_rfl) (by kernel_rfl) (fun _ h => h) ?_
 refine W.mv [.frz 1000027] (env' := [(4, l3 none (snap 0 ((w17).length) w19)), (5, .int .i64 0)]) ((by kernel_rfl : mvAll [(4, .sb 1000027 3 1 0 ((w17).length)), (5, .int .i64 0), (1000027, .obj 3 1 (M6 w19))] [.frz 1000027] = [(4, .lst 3 1 none (snapA 0 ((w17).length) (M6 w19))), (5, .int .i64 0)]).trans (by first | (simp only [snap_map, snap_full, snap_rep]; done) | (simp only [snap_map, snap_full, snap_rep]; kernel_rfl))) ?_
 refine W.weak [4, 5] [] [] [] (env' := [(4, l3 none (snap 0 ((w17).length) w19)), (5, .int .i64 0)]) (by kernel_rfl) ?_
 have hr : aresults Try.prog Try.f33 [(4, l3 none (snap 0 ((w17).length) w19)), (5, .int .i64 0)] = some (.tup [l3 none (snap 0 ((w17).length) w19), .int .i64 0]) := by kernel_rfl
 cases h
 exact W.ret hr
def rf4_Label_j3 (a1 : ByteArray) : Option Bool :=
 (some (decide ((a1.size : Int) ≤ 200)))
def rf4_Label_j7 (N1 : (Option Bool)) (v10 : Bool) : Option Bool :=
 (bif v10 then (some false) else N1)
def rf4_Label_l1 (a1 : ByteArray) (K3 : (Option Bool)) : List Nat → Nat → Option Bool
 | [], k1 => K3
 | x1 :: r1, k1 => ((sidx a1 (k1 : Int)).bind fun e8 => (bif (decide (e8 < 32)) then ((rf4_Label_j7 (rf4_Label_l1 a1 K3 r1 (k1 + 1))) true) else ((sidx a1 (k1 : Int)).bind fun e9 => ((rf4_Label_j7 (rf4_Label_l1 a1 K3 r1 (k1 + 1))) (decide (e9 > 126))))))
def rf4_Label (a1 : ByteArray) : Option Bool :=
 (chk (lenOk (List.range (Int.toNat (a1.size : Int)))) (rf4_Label_l1 a1 (rf4_Label_j3 a1) (List.range (Int.toNat (a1.size : Int))) 0))
theorem run_rf4_Label (a1 : ByteArray) (r : Bool) (h : rf4_Label a1 = some r) : Run Try.prog (.call 17 [.str a1] (.bool r)) := by
 refine call_of_W Try.func17 rfl (by kernel_rfl) (env0 := [(0, .str a1)]) (by kernel_rfl) ?_
 unfold rf4_Label at h
 refine W.seq ?_
 refine W.regT [0] [] [] [] (e2 := [(0, .str a1)]) (by kernel_rfl) (by kernel_rfl) (fun _ h => h) ?_
 refine W.seq ?_
 refine W.join (σ := Unit) (fun s => [(0, .str a1)]) (fun s => (rf4_Label_j3 a1) = some r) (fun s h => ?_) (fun hK3 => ?_)
 ·have h : (rf4_Label_j3 a1) = some r := h
  unfold rf4_Label_j3 at h
  refine W.seq ?_
  refine W.regT [2] [] [] [] (e2 := [(2, .bool (decide ((a1.size : Int) ≤ 200)))]) (by kernel_rfl) (by kernel_rfl) (fun _ h => h) ?_
  refine W.weak [2] [] [] [] (env' := [(2, .bool (decide ((a1.size : Int) ≤ 200)))]) (by kernel_rfl) ?_
  have hr : aresults Try.prog Try.f17 [(2, .bool (decide ((a1.size : Int) ≤ 200)))] = some (.bool (decide ((a1.size : Int) ≤ 200))) := by kernel_rfl
  cases h
  exact W.ret hr
 refine W.seq ?_
 refine W.regT [0, 5, 6] [] [] [] (e2 := [(0, .str a1), (5, I6 (a1.size : Int)), (6, .int .i64 0)]) (by kernel_rfl) (by kernel_rfl) (fun _ h => h) ?_
 refine W.block ?_
 obtain ⟨hl1, h⟩ := chk_some h
 refine W.weak [0, 5, 6] [] [] [] (env' := [(0, .str a1), (5, I6 (a1.size : Int)), (6, I6 ((0 : Nat) : Int))]) (by kernel_rfl) ?_
 refine W.range (σ := Unit) (List.range (Int.toNat (a1.size : Int))) (fun k1 s => [(0, .str a1), (5, I6 (a1.size : Int)), (6, I6 (k1 : Int))]) (fun r0 k0 s => rf4_Label_l1 a1 (rf4_Label_j3 a1) r0 k0 = some r) (fun s h => ?_) (fun x1 r1 k1 s hx1 hk1 h hN1 => ?_) () h
 ·have h : rf4_Label_l1 a1 (rf4_Label_j3 a1) [] ((List.range (Int.toNat (a1.size : Int)))).length = some r := h
  rw [rf4_Label_l1.eq_1] at h
  refine W.seq ?_
  refine W.region (by kernel_rfl) ?_
  refine WO.pureK 0 (some (.bool (decide ((((List.range (Int.toNat (a1.size : Int)))).length : Int) < (a1.size : Int))))) (v := .bool false) (by kernel_rfl) (by rw [ltr_false (n := (a1.size : Int))]) (e1 := [(0, .str a1), (5, I6 (a1.size : Int)), (6, I6 (((List.range (Int.toNat (a1.size : Int)))).length : Int)), (7, .bool false)]) (by kernel_rfl) ?_
  refine WO.fin ([0, 5, 6, 7]) [] [] [] (e2 := [(0, .str a1), (5, I6 (a1.size : Int)), (6, I6 (((List.range (Int.toNat (a1.size : Int)))).length : Int)), (7, .bool false)]) (by kernel_rfl) (fun _ h => h) ?_
  refine W.seq ?_
  refine W.condB false (by kernel_rfl) (fun h => Bool.noConfusion h) (fun _ => ?_)
  refine W.exit ?_
  refine W.weak [0] [] [] [] (env' := [(0, .str a1)]) (by kernel_rfl) ?_
  exact hK3 () h
 ·have h : rf4_Label_l1 a1 (rf4_Label_j3 a1) (x1 :: r1) k1 = some r := h
  rw [rf4_Label_l1.eq_2] at h
  refine W.seq ?_
  refine W.region (by kernel_rfl) ?_
  refine WO.pureK 0 (some (.bool (decide ((k1 : Int) < (a1.size : Int))))) (v := .bool true) (by kernel_rfl) (by rw [ltr_true hk1]) (e1 := [(0, .str a1), (5, I6 (a1.size : Int)), (6, I6 (k1 : Int)), (7, .bool true)]) (by kernel_rfl) ?_
  refine WO.fin ([0, 5, 6, 7]) [] [] [] (e2 := [(0, .str a1), (5, I6 (a1.size : Int)), (6, I6 (k1 : Int)), (7, .bool true)]) (by kernel_rfl) (fun _ h => h) ?_
  refine W.seq ?_
  refine W.condB true (by kernel_rfl) (fun _ => ?_) (fun h => Bool.noConfusion h)
  refine W.skip ?_
  refine W.weak [0, 5, 6] [] [] [] (env' := [(0, .str a1), (5, I6 (a1.size : Int)), (6, I6 (k1 : Int))]) (by kernel_rfl) ?_
  refine W.seq ?_
  refine W.block ?_
  refine W.seq ?_
  refine W.regT [0, 3, 5, 6] [] [] [] (e2 := [(0, .str a1), (3, I6 (k1 : Int)), (5, I6 (a1.size : Int)), (6, I6 (k1 : Int))]) (by kernel_rfl) (by kernel_rfl) (fun _ h => h) ?_
  refine W.seq ?_
  refine W.join (σ := (Bool)) (fun s => [(0, .str a1), (5, I6 (a1.size : Int)), (6, I6 (k1 : Int)), (18, .bool s)]) (fun s => (rf4_Label_j7 (rf4_Label_l1 a1 (rf4_Label_j3 a1) r1 (k1 + 1))) s = some r) (fun s h => ?_) (fun hK7 => ?_)
  ·obtain ⟨v10, rfl⟩ : ∃ x, x = s := ⟨s, rfl⟩
   have h : (rf4_Label_j7 (rf4_Label_l1 a1 (rf4_Label_j3 a1) r1 (k1 + 1))) v10 = some r := h
   unfold rf4_Label_j7 at h
   refine W.condB v10 (by kernel_rfl) (fun hb => ?_) (fun hb => ?_)
   ·replace h := cond_t hb h
    refine W.seq ?_
    refine W.regT [2] [] [] [] (e2 := [(2, .bool false)]) (by kernel_rfl) (by kernel_rfl) (fun _ h => h) ?_
    refine W.weak [2] [] [] [] (env' := [(2, .bool false)]) (by kernel_rfl) ?_
    have hr : aresults Try.prog Try.f17 [(2, .bool false)] = some (.bool false) := by kernel_rfl
    cases h
    exact W.ret hr
   replace h := cond_f hb h
   refine W.skip ?_
   refine W.weak [0, 5, 6] [] [] [] (env' := [(0, .str a1), (5, I6 (a1.size : Int)), (6, I6 (k1 : Int))]) (by kernel_rfl) ?_
   refine W.region (by kernel_rfl) ?_
   refine WO.pureK 0 (some (I6 (IntKind.wrap .i64 ((k1 : Int) + 1)))) (v := I6 ((k1 + 1 : Nat) : Int)) (by kernel_rfl) (by rw [wrap_succ hl1 hk1]) (e1 := [(0, .str a1), (5, I6 (a1.size : Int)), (6, I6 (k1 : Int)), (19, I6 ((k1 + 1 : Nat) : Int))]) (by kernel_rfl) ?_
   refine WO.fin [0, 5, 6] [] [] [] (e2 := [(0, .str a1), (5, I6 (a1.size : Int)), (6, I6 ((k1 + 1 : Nat) : Int))]) (by kernel_rfl) (fun _ h => h) ?_
   exact hN1 () h
  refine W.region (by kernel_rfl) ?_
  obtain ⟨e8, he8, h⟩ := bind_some h
  refine WO.pureK 2 (if (0 : Int) ≤ (k1 : Int) then (a1[Int.toNat (k1 : Int)]?).map fun b => AV.int .u8 b.toNat else none) (v := .int .u8 e8) (by kernel_rfl) (sidx_av he8) (e1 := [(0, .str a1), (3, I6 (k1 : Int)), (5, I6 (a1.size : Int)), (6, I6 (k1 : Int)), (9, .str a1), (10, I6 (k1 : Int)), (11, .int .u8 e8)]) (by kernel_rfl) ?_
  refine WO.boolK 2 (fun b => [(0, .str a1), (3, I6 (k1 : Int)), (5, I6 (a1.size : Int)), (6, I6 (k1 : Int)), (9, .str a1), (10, I6 (k1 : Int)), (11, .int .u8 e8), (12, .bool b), (13, .bool b)]) (decide (e8 < 32)) (by kernel_rfl) (fun hb => ?_) (fun hb => ?_)
  ·replace h := cond_t hb h
   refine WO.fin [0, 5, 6, 18] [] [] [] (e2 := [(0, .str a1), (5, I6 (a1.size : Int)), (6, I6 (k1 : Int)), (18, .bool true)]) (by kernel_rfl) (fun _ h => h) ?_
   exact hK7 true h
  replace h := cond_f hb h
  obtain ⟨e9, he9, h⟩ := bind_some h
  refine WO.pureK 2 (if (0 : Int) ≤ (k1 : Int) then (a1[Int.toNat (k1 : Int)]?).map fun b => AV.int .u8 b.toNat else none) (v := .int .u8 e9) (by kernel_rfl) (sidx_av he9) (e1 := [(0, .str a1), (3, I6 (k1 : Int)), (5, I6 (a1.size : Int)), (6, I6 (k1 : Int)), (9, .str a1), (10, I6 (k1 : Int)), (11, .int .u8 e8), (12, .bool false), (13, .bool false), (14, .str a1), (15, I6 (k1 : Int)), (16, .int .u8 e9)]) (by kernel_rfl) ?_
  refine WO.fin [0, 5, 6, 18] [] [] [] (e2 := [(0, .str a1), (5, I6 (a1.size : Int)), (6, I6 (k1 : Int)), (18, .bool (decide (e9 > 126)))]) (by kernel_rfl) (fun _ h => h) ?_
  exact hK7 (decide (e9 > 126)) h
def ix_Sort (a1 : ByteArray) : Option ((List Int) × Int) :=
 ((ix_valid a1).bind fun w5 => (bif (!w5) then (some (([] : (List Int)), 2)) else ((ix_suffixes a1).bind fun w8 => (some (w8, 0)))))
theorem run_ix_Sort (a1 : ByteArray) (r : ((List Int) × Int)) (h : ix_Sort a1 = some r) : Run Try.prog (.call 15 [.str a1] (.tup [l3 none r.1, I6 r.2])) := by
 refine call_of_W Try.func15 rfl (by kernel_rfl) (env0 := [(0, .str a1)]) (by kernel_rfl) ?_
 unfold ix_Sort at h
 refine W.seq ?_
 refine W.regT [0] [] [] [] (e2 := [(0, .str a1)]) (by kernel_rfl) (by kernel_rfl) (fun _ h => h) ?_
 refine W.seq ?_
 refine W.seq ?_
 refine W.region (by kernel_rfl) ?_
 obtain ⟨w5, hw5, h⟩ := bind_some h
 refine WO.callK 1 (F := 40) (l := [.str a1]) (C := []) (r := .bool w5) (by kernel_rfl) (by kernel_rfl) (run_ix_valid a1 w5 hw5) (e1 := [(0, .str a1), (4, .str a1), (5, .bool w5)]) (by kernel_rfl) ?_
 refine WO.fin [0, 6] [] [] [] (e2 := [(0, .str a1), (6, .bool (!w5))]) (by kernel_rfl) (fun _ h => h) ?_
 refine W.condB (!w5) (by kernel_rfl) (fun hb => ?_) (fun hb => ?_)
 ·replace h := cond_t hb h
  refine W.seq ?_
  refine W.regT [2, 3] [] [] [] (e2 := [(2, .nils), (3, .int .i64 2)]) (by kernel_rfl) (by kernel_rfl) (fun _ h => h) ?_
  refine W.weak [2, 3] [] [(2, 0, 3, 1, 70002)] [] (env' := [(2, l3 (some 70002) ([] : (List Int))), (3, .int .i64 2)]) (by kernel_rfl) ?_
  have hr : aresults Try.prog Try.f15 [(2, l3 (some 70002) ([] : (List Int))), (3, .int .i64 2)] = some (.tup [l3 none ([] : (List Int)), .int .i64 2]) := by kernel_rfl
  cases h
  exact W.ret hr
 replace h := cond_f hb h
 refine W.skip ?_
 refine W.weak [0] [] [] [] (env' := [(0, .str a1)]) (by kernel_rfl) ?_
 refine W.seq ?_
 refine W.region (by kernel_rfl) ?_
 obtain ⟨w8, hw8, h⟩ := bind_some h
 refine WO.callK 1 (F := 41) (l := [.str a1]) (C := []) (r := l3 none w8) (by kernel_rfl) (by kernel_rfl) (run_ix_suffixes a1 w8 hw8) (e1 := [(0, .str a1), (7, .str a1), (8, l3 none w8)]) (by kernel_rfl) ?_
 refine WO.fin [2, 3] [] [] [] (e2 := [(2, l3 none w8), (3, .int .i64 0)]) (by kernel_rfl) (fun _ h => h) ?_
 refine W.weak [2, 3] [] [] [] (env' := [(2, l3 none w8), (3, .int .i64 0)]) (by kernel_rfl) ?_
 have hr : aresults Try.prog Try.f15 [(2, l3 none w8), (3, .int .i64 0)] = some (.tup [l3 none w8, .int .i64 0]) := by kernel_rfl
 cases h
 exact W.ret hr
def sl_Equal_int_j7 : Option Bool :=
 (some true)
def sl_Equal_int_l1 (a2 : (List Int)) (K7 : (Option Bool)) : List Int → Nat → Option Bool
 | [], k1 => K7
 | x1 :: r1, k1 => ((idx a2 (k1 : Int)).bind fun e12 => (bif (x1 != e12) then (some false) else (sl_Equal_int_l1 a2 K7 r1 (k1 + 1))))
def sl_Equal_int (a1 : (List Int)) (a2 : (List Int)) : Option Bool :=
 (bif ((a1.length : Int) != (a2.length : Int)) then (some false) else (chk (lenOk a1) (sl_Equal_int_l1 a2 (sl_Equal_int_j7) a1 0)))
theorem run_sl_Equal_int (a1 : (List Int)) (a2 : (List Int)) (r : Bool) (h : sl_Equal_int a1 a2 = some r) : Run Try.prog (.call 19 [l3 none a1, l3 none a2] (.bool r)) := by
 refine call_of_W Try.func19 rfl (by kernel_rfl) (env0 := [(0, l3 none a1), (1, l3 none a2)]) (by kernel_rfl) ?_
 unfold sl_Equal_int at h
 refine W.seq ?_
 refine W.regT [0, 1] [] [] [] (e2 := [(0, l3 none a1), (1, l3 none a2)]) (by kernel_rfl) (by kernel_rfl) (fun _ h => h) ?_
 refine W.seq ?_
 refine W.seq ?_
 refine W.region (by kernel_rfl) ?_
 refine WO.pureK 1 (some (I6 ((M6 a1).length : Int))) (v := I6 (a1.length : Int)) (by kernel_rfl) (by rw [List.length_map]) (e1 := [(0, l3 none a1), (1, l3 none a2), (6, l3 none a1), (7, I6 (a1.length : Int))]) (by kernel_rfl) ?_
 refine WO.pureK 1 (some (I6 ((M6 a2).length : Int))) (v := I6 (a2.length : Int)) (by kernel_rfl) (by rw [List.length_map]) (e1 := [(0, l3 none a1), (1, l3 none a2), (6, l3 none a1), (7, I6 (a1.length : Int)), (8, l3 none a2), (9, I6 (a2.length : Int))]) (by kernel_rfl) ?_
 refine WO.fin [0, 1, 10] [] [] [] (e2 := [(0, l3 none a1), (1, l3 none a2), (10, .bool ((a1.length : Int) != (a2.length : Int)))]) (by kernel_rfl) (fun _ h => h) ?_
 refine W.condB ((a1.length : Int) != (a2.length : Int)) (by kernel_rfl) (fun hb => ?_) (fun hb => ?_)
 ·replace h := cond_t hb h
  refine W.seq ?_
  refine W.regT [4] [] [] [] (e2 := [(4, .bool false)]) (by kernel_rfl) (by kernel_rfl) (fun _ h => h) ?_
  refine W.weak [4] [] [] [] (env' := [(4, .bool false)]) (by kernel_rfl) ?_
  have hr : aresults Try.prog Try.f19 [(4, .bool false)] = some (.bool false) := by kernel_rfl
  cases h
  exact W.ret hr
 replace h := cond_f hb h
 refine W.skip ?_
 refine W.weak [0, 1] [] [] [] (env' := [(0, l3 none a1), (1, l3 none a2)]) (by kernel_rfl) ?_
 refine W.seq ?_
 refine W.join (σ := Unit) (fun s => []) (fun s => (sl_Equal_int_j7) = some r) (fun s h => ?_) (fun hK7 => ?_)
 ·have h : (sl_Equal_int_j7) = some r := h
  unfold sl_Equal_int_j7 at h
  refine W.seq ?_
  refine W.regT [4] [] [] [] (e2 := [(4, .bool true)]) (by kernel_rfl) (by kernel_rfl) (fun _ h => h) ?_
  refine W.weak [4] [] [] [] (env' := [(4, .bool true)]) (by kernel_rfl) ?_
  have hr : aresults Try.prog Try.f19 [(4, .bool true)] = some (.bool true) := by kernel_rfl
  cases h
  exact W.ret hr
 refine W.seq ?_
 refine W.region (by kernel_rfl) ?_
 refine WO.pureK 1 (some (I6 ((M6 a1).length : Int))) (v := I6 (a1.length : Int)) (by kernel_rfl) (by rw [List.length_map]) (e1 := [(0, l3 none a1), (1, l3 none a2), (11, l3 none a1), (12, I6 (a1.length : Int))]) (by kernel_rfl) ?_
 refine WO.fin [0, 1, 12, 13] [] [] [] (e2 := [(0, l3 none a1), (1, l3 none a2), (12, I6 (a1.length : Int)), (13, .int .i64 0)]) (by kernel_rfl) (fun _ h => h) ?_
 refine W.block ?_
 obtain ⟨hl1, h⟩ := chk_some h
 refine W.weak [0, 1, 12, 13] [] [] [] (env' := [(0, l3 none a1), (1, l3 none a2), (12, I6 (a1.length : Int)), (13, I6 ((0 : Nat) : Int))]) (by kernel_rfl) ?_
 refine W.range (σ := Unit) a1 (fun k1 s => [(0, l3 none a1), (1, l3 none a2), (12, I6 (a1.length : Int)), (13, I6 (k1 : Int))]) (fun r0 k0 s => sl_Equal_int_l1 a2 (sl_Equal_int_j7) r0 k0 = some r) (fun s h => ?_) (fun x1 r1 k1 s hx1 hk1 h hN1 => ?_) () h
 ·have h : sl_Equal_int_l1 a2 (sl_Equal_int_j7) [] (a1).length = some r := h
  rw [sl_Equal_int_l1.eq_1] at h
  refine W.seq ?_
  refine W.region (by kernel_rfl) ?_
  refine WO.pureK 0 (some (.bool (decide (((a1).length : Int) < (a1.length : Int))))) (v := .bool false) (by kernel_rfl) (by rw [lt_false (l := a1)]) (e1 := [(0, l3 none a1), (1, l3 none a2), (12, I6 (a1.length : Int)), (13, I6 ((a1).length : Int)), (14, .bool false)]) (by kernel_rfl) ?_
  refine WO.fin ([0, 1, 12, 13, 14]) [] [] [] (e2 := [(0, l3 none a1), (1, l3 none a2), (12, I6 (a1.length : Int)), (13, I6 ((a1).length : Int)), (14, .bool false)]) (by kernel_rfl) (fun _ h => h) ?_
  refine W.seq ?_
  refine W.condB false (by kernel_rfl) (fun h => Bool.noConfusion h) (fun _ => ?_)
  refine W.exit ?_
  refine W.weak [] [] [] [] (env' := []) (by kernel_rfl) ?_
  exact hK7 () h
 ·have h : sl_Equal_int_l1 a2 (sl_Equal_int_j7) (x1 :: r1) k1 = some r := h
  rw [sl_Equal_int_l1.eq_2] at h
  refine W.seq ?_
  refine W.region (by kernel_rfl) ?_
  refine WO.pureK 0 (some (.bool (decide ((k1 : Int) < (a1.length : Int))))) (v := .bool true) (by kernel_rfl) (by rw [lt_true hk1]) (e1 := [(0, l3 none a1), (1, l3 none a2), (12, I6 (a1.length : Int)), (13, I6 (k1 : Int)), (14, .bool true)]) (by kernel_rfl) ?_
  refine WO.fin ([0, 1, 12, 13, 14]) [] [] [] (e2 := [(0, l3 none a1), (1, l3 none a2), (12, I6 (a1.length : Int)), (13, I6 (k1 : Int)), (14, .bool true)]) (by kernel_rfl) (fun _ h => h) ?_
  refine W.seq ?_
  refine W.condB true (by kernel_rfl) (fun _ => ?_) (fun h => Bool.noConfusion h)
  refine W.skip ?_
  refine W.weak [0, 1, 12, 13] [] [] [] (env' := [(0, l3 none a1), (1, l3 none a2), (12, I6 (a1.length : Int)), (13, I6 (k1 : Int))]) (by kernel_rfl) ?_
  refine W.seq ?_
  refine W.block ?_
  refine W.seq ?_
  refine W.regT [0, 1, 5, 12, 13] [] [] [] (e2 := [(0, l3 none a1), (1, l3 none a2), (5, I6 (k1 : Int)), (12, I6 (a1.length : Int)), (13, I6 (k1 : Int))]) (by kernel_rfl) (by kernel_rfl) (fun _ h => h) ?_
  refine W.seq ?_
  refine W.region (by kernel_rfl) ?_
  refine WO.pureK 2 (if (0 : Int) ≤ (k1 : Int) then ((M6 a1)[Int.toNat (k1 : Int)]?).map AV.ptr else none) (v := .ptr (I6 x1)) (by kernel_rfl) (idx_nat (f := (AV.int .i64)) hx1) (e1 := [(0, l3 none a1), (1, l3 none a2), (5, I6 (k1 : Int)), (12, I6 (a1.length : Int)), (13, I6 (k1 : Int)), (16, l3 none a1), (17, I6 (k1 : Int)), (18, .ptr (I6 x1))]) (by kernel_rfl) ?_
  obtain ⟨e12, he12, h⟩ := bind_some h
  refine WO.pureK 3 (if (0 : Int) ≤ (k1 : Int) then ((M6 a2)[Int.toNat (k1 : Int)]?).map AV.ptr else none) (v := .ptr (I6 e12)) (by kernel_rfl) (idx_av (f := (AV.int .i64)) he12) (e1 := [(0, l3 none a1), (1, l3 none a2), (5, I6 (k1 : Int)), (12, I6 (a1.length : Int)), (13, I6 (k1 : Int)), (16, l3 none a1), (17, I6 (k1 : Int)), (18, .ptr (I6 x1)), (19, I6 x1), (20, l3 none a2), (21, I6 (k1 : Int)), (22, .ptr (I6 e12))]) (by kernel_rfl) ?_
  refine WO.fin [0, 1, 12, 13, 24] [] [] [] (e2 := [(0, l3 none a1), (1, l3 none a2), (12, I6 (a1.length : Int)), (13, I6 (k1 : Int)), (24, .bool (x1 != e12))]) (by kernel_rfl) (fun _ h => h) ?_
  refine W.condB (x1 != e12) (by kernel_rfl) (fun hb => ?_) (fun hb => ?_)
  ·replace h := cond_t hb h
   refine W.seq ?_
   refine W.regT [4] [] [] [] (e2 := [(4, .bool false)]) (by kernel_rfl) (by kernel_rfl) (fun _ h => h) ?_
   refine W.weak [4] [] [] [] (env' := [(4, .bool false)]) (by kernel_rfl) ?_
   have hr : aresults Try.prog Try.f19 [(4, .bool false)] = some (.bool false) := by kernel_rfl
   cases h
   exact W.ret hr
  replace h := cond_f hb h
  refine W.skip ?_
  refine W.weak [0, 1, 12, 13] [] [] [] (env' := [(0, l3 none a1), (1, l3 none a2), (12, I6 (a1.length : Int)), (13, I6 (k1 : Int))]) (by kernel_rfl) ?_
  refine W.region (by kernel_rfl) ?_
  refine WO.pureK 0 (some (I6 (IntKind.wrap .i64 ((k1 : Int) + 1)))) (v := I6 ((k1 + 1 : Nat) : Int)) (by kernel_rfl) (by rw [wrap_succ hl1 hk1]) (e1 := [(0, l3 none a1), (1, l3 none a2), (12, I6 (a1.length : Int)), (13, I6 (k1 : Int)), (25, I6 ((k1 + 1 : Nat) : Int))]) (by kernel_rfl) ?_
  refine WO.fin [0, 1, 12, 13] [] [] [] (e2 := [(0, l3 none a1), (1, l3 none a2), (12, I6 (a1.length : Int)), (13, I6 ((k1 + 1 : Nat) : Int))]) (by kernel_rfl) (fun _ h => h) ?_
  exact hN1 () h
def lw4_awake_j4 (v6 : Bool) : Option Bool :=
 (some v6)
def lw4_awake : Option Bool :=
 ((ix_Sort (ByteArray.mk #[97, 98, 97, 98])).bind fun w3 => (bif (w3.2 == 0) then ((sl_Equal_int w3.1 [4, 2, 0, 3, 1]).bind fun w5 => ((lw4_awake_j4) w5)) else ((lw4_awake_j4) false)))
theorem run_lw4_awake  (r : Bool) (h : lw4_awake = some r) : Run Try.prog (.call 18 [] (.bool r)) := by
 refine call_of_W Try.func18 rfl (by kernel_rfl) (env0 := []) (by kernel_rfl) ?_
 unfold lw4_awake at h
 refine W.seq ?_
 refine W.regT [] [] [] [] (e2 := []) (by kernel_rfl) (by kernel_rfl) (fun _ h => h) ?_
 refine W.seq ?_
 refine W.region (by kernel_rfl) ?_
 obtain ⟨w3, hw3, h⟩ := bind_some h
 refine WO.callK 0 (F := 15) (l := [.str (ByteArray.mk #[97, 98, 97, 98])]) (C := []) (r := .tup [l3 none w3.1, I6 w3.2]) (by kernel_rfl) (by kernel_rfl) (run_ix_Sort (ByteArray.mk #[97, 98, 97, 98]) w3 hw3) (e1 := [(4, .tup [l3 none w3.1, I6 w3.2])]) (by kernel_rfl) ?_
 refine WO.fin [1, 2] [] [] [] (e2 := [(1, l3 none w3.1), (2, I6 w3.2)]) (by kernel_rfl) (fun _ h => h) ?_
 refine W.seq ?_
 refine W.join (σ := (Bool)) (fun s => [(0, .bool s)]) (fun s => (lw4_awake_j4) s = some r) (fun s h => ?_) (fun hK4 => ?_)
 ·obtain ⟨v6, rfl⟩ : ∃ x, x = s := ⟨s, rfl⟩
  have h : (lw4_awake_j4) v6 = some r := h
  unfold lw4_awake_j4 at h
  refine W.weak [0] [] [] [] (env' := [(0, .bool v6)]) (by kernel_rfl) ?_
  have hr : aresults Try.prog Try.f18 [(0, .bool v6)] = some (.bool v6) := by kernel_rfl
  cases h
  exact W.ret hr
 refine W.region (by kernel_rfl) ?_
 refine WO.boolK 3 (fun b => [(1, l3 none w3.1), (2, I6 w3.2), (7, I6 w3.2), (8, .bool b), (9, .bool b)]) (w3.2 == 0) (by kernel_rfl) (fun hb => ?_) (fun hb => ?_)
 ·replace h := cond_t hb h
  obtain ⟨w5, hw5, h⟩ := bind_some h
  refine WO.callK 2 (F := 19) (l := [l3 none w3.1, l3 none [4, 2, 0, 3, 1]]) (C := []) (r := .bool w5) (by kernel_rfl) (by kernel_rfl) (run_sl_Equal_int w3.1 [4, 2, 0, 3, 1] w5 hw5) (e1 := [(1, l3 none w3.1), (2, I6 w3.2), (7, I6 w3.2), (8, .bool true), (9, .bool true), (10, l3 none w3.1), (11, l3 (some 11) [4, 2, 0, 3, 1]), (12, .bool w5)]) (by kernel_rfl) ?_
  refine WO.fin [0] [] [] [] (e2 := [(0, .bool w5)]) (by kernel_rfl) (fun _ h => h) ?_
  exact hK4 w5 h
 replace h := cond_f hb h
 refine WO.fin [0] [] [] [] (e2 := [(0, .bool false)]) (by kernel_rfl) (fun _ h => h) ?_
 exact hK4 false h
def rf4_Locate_j5 (v15 : (List Int)) : Option (List Int) :=
 (some v15)
def rf4_Locate_j10 (k1 : Nat) (v7 : (List Int)) (K8 : ((List Int) → Option (List Int))) (v12 : Bool) : Option (List Int) :=
 (bif v12 then (chk (capOk 8 ((v7 ++ [(k1 : Int)])).length) (K8 (v7 ++ [(k1 : Int)]))) else (K8 v7))
def rf4_Locate_j8 (N1 : ((List Int) → Option (List Int))) (v14 : (List Int)) : Option (List Int) :=
 (N1 v14)
def rf4_Locate_l1 (a1 : ByteArray) (a2 : ByteArray) (K5 : ((List Int) → Option (List Int))) : List Nat → Nat → (List Int) → Option (List Int)
 | [], k1, v7 => (K5 v7)
 | x1 :: r1, k1, v7 => (bif (decide ((a2.size : Int) ≤ (IntKind.wrap .i64 ((a1.size : Int) - (k1 : Int))))) then ((ssub a1 (k1 : Int) (IntKind.wrap .i64 ((k1 : Int) + (a2.size : Int)))).bind fun e11 => ((rf4_Locate_j10 k1 v7 (rf4_Locate_j8 (rf4_Locate_l1 a1 a2 K5 r1 (k1 + 1)))) (e11.toList == a2.toList))) else ((rf4_Locate_j10 k1 v7 (rf4_Locate_j8 (rf4_Locate_l1 a1 a2 K5 r1 (k1 + 1)))) false))
def rf4_Locate (a1 : ByteArray) (a2 : ByteArray) : Option (List Int) :=
 (chk (lenOk (List.range (Int.toNat (IntKind.wrap .i64 ((a1.size : Int) + 1))))) (rf4_Locate_l1 a1 a2 (rf4_Locate_j5) (List.range (Int.toNat (IntKind.wrap .i64 ((a1.size : Int) + 1)))) 0 ([] : (List Int))))
theorem run_rf4_Locate (a1 : ByteArray) (a2 : ByteArray) (r : (List Int)) (h : rf4_Locate a1 a2 = some r) : Run Try.prog (.call 37 [.str a1, .str a2] (l3 (some 1) r)) := by
 refine call_of_W Try.func37 rfl (by kernel_rfl) (env0 := [(0, .str a1), (1, .str a2)]) (by kernel_rfl) ?_
 unfold rf4_Locate at h
 refine W.seq ?_
 refine W.regT [0, 1] [] [] [] (e2 := [(0, .str a1), (1, .str a2)]) (by kernel_rfl) (by kernel_rfl) (fun _ h => h) ?_
 refine W.seq ?_
 refine W.regT [0, 1, 5] [] [] [] (e2 := [(0, .str a1), (1, .str a2), (5, .nils)]) (by kernel_rfl) (by kernel_rfl) (fun _ h => h) ?_
 refine W.seq ?_
 refine W.join (σ := ((List Int))) (fun s => [(5, l3 (some 10500) s)]) (fun s => (rf4_Locate_j5) s = some r) (fun s h => ?_) (fun hK5 => ?_)
 ·obtain ⟨v15, rfl⟩ : ∃ x, x = s := ⟨s, rfl⟩
  have h : (rf4_Locate_j5) v15 = some r := h
  unfold rf4_Locate_j5 at h
  refine W.seq ?_
  refine W.regT [4] [] [] [] (e2 := [(4, l3 (some 10500) v15)]) (by kernel_rfl) (by kernel_rfl) (fun _ h => h) ?_
  refine W.weak [4] [] [] [(10500, some 1)] (env' := [(4, l3 (some 1) v15)]) (by kernel_rfl) ?_
  have hr : aresults Try.prog Try.f37 [(4, l3 (some 1) v15)] = some (l3 (some 1) v15) := by kernel_rfl
  cases h
  exact W.ret hr
 refine W.seq ?_
 refine W.regT [0, 1, 5, 9, 10] [] [] [] (e2 := [(0, .str a1), (1, .str a2), (5, .nils), (9, I6 (W6 ((a1.size : Int) + 1))), (10, .int .i64 0)]) (by kernel_rfl) (by kernel_rfl) (fun _ h => h) ?_
 refine W.block ?_
 obtain ⟨hl1, h⟩ := chk_some h
 refine W.weak [0, 1, 5, 9, 10] [] [(5, 0, 3, 1, 10500)] [] (env' := [(0, .str a1), (1, .str a2), (5, l3 (some 10500) ([] : (List Int))), (9, I6 (W6 ((a1.size : Int) + 1))), (10, I6 ((0 : Nat) : Int))]) (by kernel_rfl) ?_
 refine W.range (σ := ((List Int))) (List.range (Int.toNat (W6 ((a1.size : Int) + 1)))) (fun k1 s => [(0, .str a1), (1, .str a2), (5, l3 (some 10500) s), (9, I6 (W6 ((a1.size : Int) + 1))), (10, I6 (k1 : Int))]) (fun r0 k0 s => rf4_Locate_l1 a1 a2 (rf4_Locate_j5) r0 k0 s = some r) (fun s h => ?_) (fun x1 r1 k1 s hx1 hk1 h hN1 => ?_) ([] : (List Int)) h
 ·obtain ⟨v7, rfl⟩ : ∃ x, x = s := ⟨s, rfl⟩
  have h : rf4_Locate_l1 a1 a2 (rf4_Locate_j5) [] ((List.range (Int.toNat (W6 ((a1.size : Int) + 1))))).length v7 = some r := h
  rw [rf4_Locate_l1.eq_1] at h
  refine W.seq ?_
  refine W.region (by kernel_rfl) ?_
  refine WO.pureK 0 (some (.bool (decide ((((List.range (Int.toNat (W6 ((a1.size : Int) + 1))))).length : Int) < (W6 ((a1.size : Int) + 1)))))) (v := .bool false) (by kernel_rfl) (by rw [ltr_false (n := (W6 ((a1.size : Int) + 1)))]) (e1 := [(0, .str a1), (1, .str a2), (5, l3 (some 10500) v7), (9, I6 (W6 ((a1.size : Int) + 1))), (10, I6 (((List.range (Int.toNat (W6 ((a1.size : Int) + 1))))).length : Int)), (11, .bool false)]) (by kernel_rfl) ?_
  refine WO.fin ([0, 1, 5, 9, 10, 11]) [] [] [] (e2 := [(0, .str a1), (1, .str a2), (5, l3 (some 10500) v7), (9, I6 (W6 ((a1.size : Int) + 1))), (10, I6 (((List.range (Int.toNat (W6 ((a1.size : Int) + 1))))).length : Int)), (11, .bool false)]) (by kernel_rfl) (fun _ h => h) ?_
  refine W.seq ?_
  refine W.condB false (by kernel_rfl) (fun h => Bool.noConfusion h) (fun _ => ?_)
  refine W.exit ?_
  refine W.weak [5] [] [] [] (env' := [(5, l3 (some 10500) v7)]) (by kernel_rfl) ?_
  exact hK5 v7 h
 ·obtain ⟨v7, rfl⟩ : ∃ x, x = s := ⟨s, rfl⟩
  have h : rf4_Locate_l1 a1 a2 (rf4_Locate_j5) (x1 :: r1) k1 v7 = some r := h
  rw [rf4_Locate_l1.eq_2] at h
  refine W.seq ?_
  refine W.region (by kernel_rfl) ?_
  refine WO.pureK 0 (some (.bool (decide ((k1 : Int) < (W6 ((a1.size : Int) + 1)))))) (v := .bool true) (by kernel_rfl) (by rw [ltr_true hk1]) (e1 := [(0, .str a1), (1, .str a2), (5, l3 (some 10500) v7), (9, I6 (W6 ((a1.size : Int) + 1))), (10, I6 (k1 : Int)), (11, .bool true)]) (by kernel_rfl) ?_
  refine WO.fin ([0, 1, 5, 9, 10, 11]) [] [] [] (e2 := [(0, .str a1), (1, .str a2), (5, l3 (some 10500) v7), (9, I6 (W6 ((a1.size : Int) + 1))), (10, I6 (k1 : Int)), (11, .bool true)]) (by kernel_rfl) (fun _ h => h) ?_
  refine W.seq ?_
  refine W.condB true (by kernel_rfl) (fun _ => ?_) (fun h => Bool.noConfusion h)
  refine W.skip ?_
  refine W.weak [0, 1, 5, 9, 10] [] [] [] (env' := [(0, .str a1), (1, .str a2), (5, l3 (some 10500) v7), (9, I6 (W6 ((a1.size : Int) + 1))), (10, I6 (k1 : Int))]) (by kernel_rfl) ?_
  refine W.seq ?_
  refine W.join (σ := ((List Int))) (fun s => [(0, .str a1), (1, .str a2), (5, l3 (some 10500) s), (9, I6 (W6 ((a1.size : Int) + 1))), (10, I6 (k1 : Int))]) (fun s => (rf4_Locate_j8 (rf4_Locate_l1 a1 a2 (rf4_Locate_j5) r1 (k1 + 1))) s = some r) (fun s h => ?_) (fun hK8 => ?_)
  ·obtain ⟨v14, rfl⟩ : ∃ x, x = s := ⟨s, rfl⟩
   have h : (rf4_Locate_j8 (rf4_Locate_l1 a1 a2 (rf4_Locate_j5) r1 (k1 + 1))) v14 = some r := h
   unfold rf4_Locate_j8 at h
   refine W.region (by kernel_rfl) ?_
   refine WO.pureK 0 (some (I6 (IntKind.wrap .i64 ((k1 : Int) + 1)))) (v := I6 ((k1 + 1 : Nat) : Int)) (by kernel_rfl) (by rw [wrap_succ hl1 hk1]) (e1 := [(0, .str a1), (1, .str a2), (5, l3 (some 10500) v14), (9, I6 (IntKind.wrap .i64 ((a1.size : Int) + 1))), (10, I6 (k1 : Int)), (35, I6 ((k1 + 1 : Nat) : Int))]) (by kernel_rfl) ?_
   refine WO.fin [0, 1, 5, 9, 10] [] [] [] (e2 := [(0, .str a1), (1, .str a2), (5, l3 (some 10500) v14), (9, I6 (W6 ((a1.size : Int) + 1))), (10, I6 ((k1 + 1 : Nat) : Int))]) (by kernel_rfl) (fun _ h => h) ?_
   exact hN1 v14 h
  refine W.block ?_
  refine W.seq ?_
  refine W.regT [0, 1, 5, 6, 9, 10] [] [] [] (e2 := [(0, .str a1), (1, .str a2), (5, l3 (some 10500) v7), (6, I6 (k1 : Int)), (9, I6 (W6 ((a1.size : Int) + 1))), (10, I6 (k1 : Int))]) (by kernel_rfl) (by kernel_rfl) (fun _ h => h) ?_
  refine W.seq ?_
  refine W.join (σ := (Bool)) (fun s => [(0, .str a1), (1, .str a2), (5, l3 (some 10500) v7), (6, I6 (k1 : Int)), (9, I6 (W6 ((a1.size : Int) + 1))), (10, I6 (k1 : Int)), (30, .bool s)]) (fun s => (rf4_Locate_j10 k1 v7 (rf4_Locate_j8 (rf4_Locate_l1 a1 a2 (rf4_Locate_j5) r1 (k1 + 1)))) s = some r) (fun s h => ?_) (fun hK10 => ?_)
  ·obtain ⟨v12, rfl⟩ : ∃ x, x = s := ⟨s, rfl⟩
   have h : (rf4_Locate_j10 k1 v7 (rf4_Locate_j8 (rf4_Locate_l1 a1 a2 (rf4_Locate_j5) r1 (k1 + 1)))) v12 = some r := h
   unfold rf4_Locate_j10 at h
   refine W.condB v12 (by kernel_rfl) (fun hb => ?_) (fun hb => ?_)
   ·replace h := cond_t hb h
    refine W.region (by kernel_rfl) ?_
    obtain ⟨hc13, h⟩ := chk_some h
    refine WO.appendK 3 (d := 34) (e := 3) (s := 1) (bytes := 8) (xs := (M6 v7)) (ys := (M6 [(k1 : Int)])) (zs := (M6 (v7 ++ [(k1 : Int)]))) (env1 := [(0, .str a1), (1, .str a2), (5, l3 none v7), (6, I6 (k1 : Int)), (9, I6 (W6 ((a1.size : Int) + 1))), (10, I6 (k1 : Int)), (30, .bool v12), (31, l3 none v7), (32, I6 (k1 : Int)), (33, l3 (some 33) [(k1 : Int)])]) (by kernel_rfl) (List.map_append.symm) (by rw [List.length_map]; exact hc13) (e1 := [(0, .str a1), (1, .str a2), (5, l3 none v7), (6, I6 (k1 : Int)), (9, I6 (W6 ((a1.size : Int) + 1))), (10, I6 (k1 : Int)), (30, .bool v12), (31, l3 none v7), (32, I6 (k1 : Int)), (33, l3 (some 33) [(k1 : Int)]), (34, l3 (some 34) (v7 ++ [(k1 : Int)]))]) (by kernel_rfl) ?_
    refine WO.fin [0, 1, 5, 9, 10] [] [] [(34, some 10500)] (e2 := [(0, .str a1), (1, .str a2), (5, l3 (some 10500) (v7 ++ [(k1 : Int)])), (9, I6 (W6 ((a1.size : Int) + 1))), (10, I6 (k1 : Int))]) (by kernel_rfl) (fun _ h => h) ?_
    exact hK8 (v7 ++ [(k1 : Int)]) h
   replace h := cond_f hb h
   refine W.skip ?_
   refine W.weak [0, 1, 5, 9, 10] [] [] [] (env' := [(0, .str a1), (1, .str a2), (5, l3 (some 10500) v7), (9, I6 (W6 ((a1.size : Int) + 1))), (10, I6 (k1 : Int))]) (by kernel_rfl) ?_
   exact hK8 v7 h
  refine W.region (by kernel_rfl) ?_
  refine WO.boolK 8 (fun b => [(0, .str a1), (1, .str a2), (5, l3 (some 10500) v7), (6, I6 (k1 : Int)), (9, I6 (W6 ((a1.size : Int) + 1))), (10, I6 (k1 : Int)), (13, .str a2), (14, I6 (a2.size : Int)), (15, .str a1), (16, I6 (a1.size : Int)), (17, I6 (k1 : Int)), (18, I6 (W6 ((a1.size : Int) - (k1 : Int)))), (19, .bool b), (20, .bool b)]) (decide ((a2.size : Int) ≤ (W6 ((a1.size : Int) - (k1 : Int))))) (by kernel_rfl) (fun hb => ?_) (fun hb => ?_)
  ·replace h := cond_t hb h
   obtain ⟨e11, he11, h⟩ := bind_some h
   refine WO.pureK 6 (if (0 : Int) ≤ (k1 : Int) ∧ (k1 : Int) ≤ (W6 ((k1 : Int) + (a2.size : Int))) ∧ (W6 ((k1 : Int) + (a2.size : Int))) ≤ (a1.size : Int) then some (AV.str (a1.extract (Int.toNat (k1 : Int)) (Int.toNat (W6 ((k1 : Int) + (a2.size : Int)))))) else none) (v := .str e11) (by kernel_rfl) (ssub_av he11) (e1 := [(0, .str a1), (1, .str a2), (5, l3 (some 10500) v7), (6, I6 (k1 : Int)), (9, I6 (W6 ((a1.size : Int) + 1))), (10, I6 (k1 : Int)), (13, .str a2), (14, I6 (a2.size : Int)), (15, .str a1), (16, I6 (a1.size : Int)), (17, I6 (k1 : Int)), (18, I6 (W6 ((a1.size : Int) - (k1 : Int)))), (19, .bool true), (20, .bool true), (21, .str a1), (22, I6 (k1 : Int)), (23, I6 (k1 : Int)), (24, .str a2), (25, I6 (a2.size : Int)), (26, I6 (W6 ((k1 : Int) + (a2.size : Int)))), (27, .str e11)]) (by kernel_rfl) ?_
   refine WO.fin [0, 1, 5, 6, 9, 10, 30] [] [] [] (e2 := [(0, .str a1), (1, .str a2), (5, l3 (some 10500) v7), (6, I6 (k1 : Int)), (9, I6 (W6 ((a1.size : Int) + 1))), (10, I6 (k1 : Int)), (30, .bool (e11.toList == a2.toList))]) (by kernel_rfl) (fun _ h => h) ?_
   exact hK10 (e11.toList == a2.toList) h
  replace h := cond_f hb h
  refine WO.fin [0, 1, 5, 6, 9, 10, 30] [] [] [] (e2 := [(0, .str a1), (1, .str a2), (5, l3 (some 10500) v7), (6, I6 (k1 : Int)), (9, I6 (W6 ((a1.size : Int) + 1))), (10, I6 (k1 : Int)), (30, .bool false)]) (by kernel_rfl) (fun _ h => h) ?_
  exact hK10 false h
def lw4_IndexCounts_j16 (v18 : Bool) : Option Bool :=
 (some v18)
def lw4_IndexCounts_j21 (v23 : Bool) : Option Bool :=
 (some v23)
def lw4_IndexCounts_j26 (v29 : Bool) : Option Bool :=
 (some v29)
def lw4_IndexCounts (fuel : Nat) (a1 : ByteArray) (a2 : ByteArray) : Option Bool :=
 ((lw4_few a1).bind fun w5 => ((lw4_few a2).bind fun w6 => ((ix_New fuel w5).bind fun w8 => ((ix_Index_Count fuel w8.1 w6).bind fun w10 => ((ix_Index_Locate fuel w8.1 w6).bind fun w12 => ((rf4_Label w5).bind fun w15 => (bif (!w15) then (bif w8.1.isNone then (bif (w8.2 == 2) then (bif (w10.1 == 0) then (bif ((w12.1.length : Int) == 0) then (bif (w10.2 == 1) then (bif (w12.2 == 1) then ((lw4_awake).bind fun w17 => ((lw4_IndexCounts_j16) w17)) else ((lw4_IndexCounts_j16) false)) else ((lw4_IndexCounts_j16) false)) else ((lw4_IndexCounts_j16) false)) else ((lw4_IndexCounts_j16) false)) else ((lw4_IndexCounts_j16) false)) else ((lw4_IndexCounts_j16) false)) else ((rf4_Label w6).bind fun w20 => (bif (!w20) then (bif (w8.2 == 0) then (bif (w10.1 == 0) then (bif ((w12.1.length : Int) == 0) then (bif (w10.2 == 2) then (bif (w12.2 == 2) then ((lw4_awake).bind fun w22 => ((lw4_IndexCounts_j21) w22)) else ((lw4_IndexCounts_j21) false)) else ((lw4_IndexCounts_j21) false)) else ((lw4_IndexCounts_j21) false)) else ((lw4_IndexCounts_j21) false)) else ((lw4_IndexCounts_j21) false)) else ((rf4_Locate w5 w6).bind fun w25 => (bif (w8.2 == 0) then (bif (w10.1 == (w25.length : Int)) then (bif (w10.2 == 0) then ((sl_Equal_int w12.1 w25).bind fun w27 => (bif w27 then (bif (w12.2 == 0) then ((lw4_awake).bind fun w28 => ((lw4_IndexCounts_j26) w28)) else ((lw4_IndexCounts_j26) false)) else ((lw4_IndexCounts_j26) false))) else ((lw4_IndexCounts_j26) false)) else ((lw4_IndexCounts_j26) false)) else ((lw4_IndexCounts_j26) false))))))))))))
theorem run_lw4_IndexCounts (fuel : Nat) (a1 : ByteArray) (a2 : ByteArray) (r : Bool) (h : lw4_IndexCounts fuel a1 a2 = some r) : Run Try.prog (.call 8 [.str a1, .str a2] (.bool r)) := by
 refine call_of_W Try.func8 rfl (by kernel_rfl) (env0 := [(0, .str a1), (1, .str a2)]) (by kernel_rfl) ?_
 unfold lw4_IndexCounts at h
 refine W.seq ?_
 refine W.regT [0, 1] [] [] [] (e2 := [(0, .str a1), (1, .str a2)]) (by kernel_rfl) (by kernel_rfl) (fun _ h => h) ?_
 refine W.seq ?_
 refine W.region (by kernel_rfl) ?_
 obtain ⟨w5, hw5, h⟩ := bind_some h
 refine WO.callK 1 (F := 14) (l := [.str a1]) (C := []) (r := .str w5) (by kernel_rfl) (by kernel_rfl) (run_lw4_few a1 w5 hw5) (e1 := [(0, .str a1), (1, .str a2), (12, .str a1), (13, .str w5)]) (by kernel_rfl) ?_
 obtain ⟨w6, hw6, h⟩ := bind_some h
 refine WO.callK 1 (F := 14) (l := [.str a2]) (C := []) (r := .str w6) (by kernel_rfl) (by kernel_rfl) (run_lw4_few a2 w6 hw6) (e1 := [(0, .str a1), (1, .str a2), (12, .str a1), (13, .str w5), (14, .str a2), (15, .str w6)]) (by kernel_rfl) ?_
 refine WO.fin [0, 1] [] [] [] (e2 := [(0, .str w5), (1, .str w6)]) (by kernel_rfl) (fun _ h => h) ?_
 refine W.seq ?_
 refine W.region (by kernel_rfl) ?_
 obtain ⟨w8, hw8, h⟩ := bind_some h
 refine WO.callK 1 (F := 36) (l := [.str w5]) (C := []) (r := .tup [ep e_ixIndex w8.1, I6 w8.2]) (by kernel_rfl) (by kernel_rfl) (run_ix_New fuel w5 w8 hw8) (e1 := [(0, .str w5), (1, .str w6), (17, .str w5), (18, .tup [ep e_ixIndex w8.1, I6 w8.2])]) (by kernel_rfl) ?_
 refine WO.fin [0, 1, 5, 6] [] [] [] (e2 := [(0, .str w5), (1, .str w6), (5, ep e_ixIndex w8.1), (6, I6 w8.2)]) (by kernel_rfl) (fun _ h => h) ?_
 refine W.seq ?_
 refine W.region (by kernel_rfl) ?_
 obtain ⟨w10, hw10, h⟩ := bind_some h
 refine WO.callK 2 (F := 32) (l := [ep e_ixIndex w8.1, .str w6]) (C := []) (r := .tup [I6 w10.1, I6 w10.2]) (by kernel_rfl) (by kernel_rfl) (run_ix_Index_Count fuel w8.1 w6 w10 hw10) (e1 := [(0, .str w5), (1, .str w6), (5, ep e_ixIndex w8.1), (6, I6 w8.2), (22, ep e_ixIndex w8.1), (23, .str w6), (24, .tup [I6 w10.1, I6 w10.2])]) (by kernel_rfl) ?_
 refine WO.fin [0, 1, 5, 6, 7, 8] [] [] [] (e2 := [(0, .str w5), (1, .str w6), (5, ep e_ixIndex w8.1), (6, I6 w8.2), (7, I6 w10.1), (8, I6 w10.2)]) (by kernel_rfl) (fun _ h => h) ?_
 refine W.seq ?_
 refine W.region (by kernel_rfl) ?_
 obtain ⟨w12, hw12, h⟩ := bind_some h
 refine WO.callK 2 (F := 33) (l := [ep e_ixIndex w8.1, .str w6]) (C := []) (r := .tup [l3 none w12.1, I6 w12.2]) (by kernel_rfl) (by kernel_rfl) (run_ix_Index_Locate fuel w8.1 w6 w12 hw12) (e1 := [(0, .str w5), (1, .str w6), (5, ep e_ixIndex w8.1), (6, I6 w8.2), (7, I6 w10.1), (8, I6 w10.2), (28, ep e_ixIndex w8.1), (29, .str w6), (30, .tup [l3 none w12.1, I6 w12.2])]) (by kernel_rfl) ?_
 refine WO.fin [0, 1, 5, 6, 7, 8, 9, 10] [] [] [] (e2 := [(0, .str w5), (1, .str w6), (5, ep e_ixIndex w8.1), (6, I6 w8.2), (7, I6 w10.1), (8, I6 w10.2), (9, l3 none w12.1), (10, I6 w12.2)]) (by kernel_rfl) (fun _ h => h) ?_
 refine W.seq ?_
 refine W.block ?_
 refine W.seq ?_
 refine W.region (by kernel_rfl) ?_
 obtain ⟨w15, hw15, h⟩ := bind_some h
 refine WO.callK 1 (F := 17) (l := [.str w5]) (C := []) (r := .bool w15) (by kernel_rfl) (by kernel_rfl) (run_rf4_Label w5 w15 hw15) (e1 := [(0, .str w5), (1, .str w6), (5, ep e_ixIndex w8.1), (6, I6 w8.2), (7, I6 w10.1), (8, I6 w10.2), (9, l3 none w12.1), (10, I6 w12.2), (34, .str w5), (35, .bool w15)]) (by kernel_rfl) ?_
 refine WO.fin [0, 1, 5, 6, 7, 8, 9, 10, 33] [] [] [] (e2 := [(0, .str w5), (1, .str w6), (5, ep e_ixIndex w8.1), (6, I6 w8.2), (7, I6 w10.1), (8, I6 w10.2), (9, l3 none w12.1), (10, I6 w12.2), (33, .bool (!w15))]) (by kernel_rfl) (fun _ h => h) ?_
 refine W.condB (!w15) (by kernel_rfl) (fun hb => ?_) (fun hb => ?_)
 ·replace h := cond_t hb h
  refine W.seq ?_
  refine W.join (σ := (Bool)) (fun s => [(4, .bool s)]) (fun s => (lw4_IndexCounts_j16) s = some r) (fun s h => ?_) (fun hK16 => ?_)
  ·obtain ⟨v18, rfl⟩ : ∃ x, x = s := ⟨s, rfl⟩
   have h : (lw4_IndexCounts_j16) v18 = some r := h
   unfold lw4_IndexCounts_j16 at h
   refine W.weak [4] [] [] [] (env' := [(4, .bool v18)]) (by kernel_rfl) ?_
   have hr : aresults Try.prog Try.f8 [(4, .bool v18)] = some (.bool v18) := by kernel_rfl
   cases h
   exact W.ret hr
  refine W.region (by kernel_rfl) ?_
  refine WO.boolK 3 (fun b => [(0, .str w5), (1, .str w6), (5, ep e_ixIndex w8.1), (6, I6 w8.2), (7, I6 w10.1), (8, I6 w10.2), (9, l3 none w12.1), (10, I6 w12.2), (33, .bool (!w15)), (37, ep e_ixIndex w8.1), (38, .bool b), (39, .bool b)]) w8.1.isNone (by kernel_rfl) (fun hb => ?_) (fun hb => ?_)
  ·replace h := cond_t hb h
   refine WO.boolK 4 (fun b => [(0, .str w5), (1, .str w6), (5, ep e_ixIndex w8.1), (6, I6 w8.2), (7, I6 w10.1), (8, I6 w10.2), (9, l3 none w12.1), (10, I6 w12.2), (33, .bool (!w15)), (37, ep e_ixIndex w8.1), (38, .bool true), (39, .bool true), (40, I6 w8.2), (41, .bool b), (42, .bool b), (43, .bool b)]) (w8.2 == 2) (by kernel_rfl) (fun hb => ?_) (fun hb => ?_)
   ·replace h := cond_t hb h
    refine WO.boolK 4 (fun b => [(0, .str w5), (1, .str w6), (5, ep e_ixIndex w8.1), (6, I6 w8.2), (7, I6 w10.1), (8, I6 w10.2), (9, l3 none w12.1), (10, I6 w12.2), (33, .bool (!w15)), (37, ep e_ixIndex w8.1), (38, .bool true), (39, .bool true), (40, I6 w8.2), (41, .bool true), (42, .bool true), (43, .bool true), (44, I6 w10.1), (45, .bool b), (46, .bool b), (47, .bool b)]) (w10.1 == 0) (by kernel_rfl) (fun hb => ?_) (fun hb => ?_)
    ·replace h := cond_t hb h
     refine WO.pureK 1 (some (I6 ((M6 w12.1).length : Int))) (v := I6 (w12.1.length : Int)) (by kernel_rfl) (by rw [List.length_map]) (e1 := [(0, .str w5), (1, .str w6), (5, ep e_ixIndex w8.1), (6, I6 w8.2), (7, I6 w10.1), (8, I6 w10.2), (9, l3 none w12.1), (10, I6 w12.2), (33, .bool (!w15)), (37, ep e_ixIndex w8.1), (38, .bool true), (39, .bool true), (40, I6 w8.2), (41, .bool true), (42, .bool true), (43, .bool true), (44, I6 w10.1), (45, .bool true), (46, .bool true), (47, .bool true), (48, l3 none w12.1), (49, I6 (w12.1.length : Int))]) (by kernel_rfl) ?_
     refine WO.boolK 3 (fun b => [(0, .str w5), (1, .str w6), (5, ep e_ixIndex w8.1), (6, I6 w8.2), (7, I6 w10.1), (8, I6 w10.2), (9, l3 none w12.1), (10, I6 w12.2), (33, .bool (!w15)), (37, ep e_ixIndex w8.1), (38, .bool true), (39, .bool true), (40, I6 w8.2), (41, .bool true), (42, .bool true), (43, .bool true), (44, I6 w10.1), (45, .bool true), (46, .bool true), (47, .bool true), (48, l3 none w12.1), (49, I6 (w12.1.length : Int)), (50, .bool b), (51, .bool b), (52, .bool b)]) ((w12.1.length : Int) == 0) (by kernel_rfl) (fun hb => ?_) (fun hb => ?_)
     ·replace h := cond_t hb h
      refine WO.boolK 4 (fun b => [(0, .str w5), (1, .str w6), (5, ep e_ixIndex w8.1), (6, I6 w8.2), (7, I6 w10.1), (8, I6 w10.2), (9, l3 none w12.1), (10, I6 w12.2), (33, .bool (!w15)), (37, ep e_ixIndex w8.1), (38, .bool true), (39, .bool true), (40, I6 w8.2), (41, .bool true), (42, .bool true), (43, .bool true), (44, I6 w10.1), (45, .bool true), (46, .bool true), (47, .bool true), (48, l3 none w12.1), (49, I6 (w12.1.length : Int)), (50, .bool true), (51, .bool true), (52, .bool true), (53, I6 w10.2), (54, .bool b), (55, .bool b), (56, .bool b)]) (w10.2 == 1) (by kernel_rfl) (fun hb => ?_) (fun hb => ?_)
      ·replace h := cond_t hb h
       refine WO.boolK 4 (fun b => [(0, .str w5), (1, .str w6), (5, ep e_ixIndex w8.1), (6, I6 w8.2), (7, I6 w10.1), (8, I6 w10.2), (9, l3 none w12.1), (10, I6 w12.2), (33, .bool (!w15)), (37, ep e_ixIndex w8.1), (38, .bool true), (39, .bool true), (40, I6 w8.2), (41, .bool true), (42, .bool true), (43, .bool true), (44, I6 w10.1), (45, .bool true), (46, .bool true), (47, .bool true), (48, l3 none w12.1), (49, I6 (w12.1.length : Int)), (50, .bool true), (51, .bool true), (52, .bool true), (53, I6 w10.2), (54, .bool true), (55, .bool true), (56, .bool true), (57, I6 w12.2), (58, .bool b), (59, .bool b), (60, .bool b)]) (w12.2 == 1) (by kernel_rfl) (fun hb => ?_) (fun hb => ?_)
       ·replace h := cond_t hb h
        obtain ⟨w17, hw17, h⟩ := bind_some h
        refine WO.callK 0 (F := 18) (l := []) (C := []) (r := .bool w17) (by kernel_rfl) (by kernel_rfl) (run_lw4_awake w17 hw17) (e1 := [(0, .str w5), (1, .str w6), (5, ep e_ixIndex w8.1), (6, I6 w8.2), (7, I6 w10.1), (8, I6 w10.2), (9, l3 none w12.1), (10, I6 w12.2), (33, .bool (!w15)), (37, ep e_ixIndex w8.1), (38, .bool true), (39, .bool true), (40, I6 w8.2), (41, .bool true), (42, .bool true), (43, .bool true), (44, I6 w10.1), (45, .bool true), (46, .bool true), (47, .bool true), (48, l3 none w12.1), (49, I6 (w12.1.length : Int)), (50, .bool true), (51, .bool true), (52, .bool true), (53, I6 w10.2), (54, .bool true), (55, .bool true), (56, .bool true), (57, I6 w12.2), (58, .bool true), (59, .bool true), (60, .bool true), (61, .bool w17)]) (by kernel_rfl) ?_
        refine WO.fin [4] [] [] [] (e2 := [(4, .bool w17)]) (by kernel_rfl) (fun _ h => h) ?_
        exact hK16 w17 h
       replace h := cond_f hb h
       refine WO.fin [4] [] [] [] (e2 := [(4, .bool false)]) (by kernel_rfl) (fun _ h => h) ?_
       exact hK16 false h
      replace h := cond_f hb h
      refine WO.fin [4] [] [] [] (e2 := [(4, .bool false)]) (by kernel_rfl) (fun _ h => h) ?_
      exact hK16 false h
     replace h := cond_f hb h
     refine WO.fin [4] [] [] [] (e2 := [(4, .bool false)]) (by kernel_rfl) (fun _ h => h) ?_
     exact hK16 false h
    replace h := cond_f hb h
    refine WO.fin [4] [] [] [] (e2 := [(4, .bool false)]) (by kernel_rfl) (fun _ h => h) ?_
    exact hK16 false h
   replace h := cond_f hb h
   refine WO.fin [4] [] [] [] (e2 := [(4, .bool false)]) (by kernel_rfl) (fun _ h => h) ?_
   exact hK16 false h
  replace h := cond_f hb h
  refine WO.fin [4] [] [] [] (e2 := [(4, .bool false)]) (by kernel_rfl) (fun _ h => h) ?_
  exact hK16 false h
 replace h := cond_f hb h
 refine W.seq ?_
 refine W.region (by kernel_rfl) ?_
 obtain ⟨w20, hw20, h⟩ := bind_some h
 refine WO.callK 1 (F := 17) (l := [.str w6]) (C := []) (r := .bool w20) (by kernel_rfl) (by kernel_rfl) (run_rf4_Label w6 w20 hw20) (e1 := [(0, .str w5), (1, .str w6), (5, ep e_ixIndex w8.1), (6, I6 w8.2), (7, I6 w10.1), (8, I6 w10.2), (9, l3 none w12.1), (10, I6 w12.2), (33, .bool (!w15)), (64, .str w6), (65, .bool w20)]) (by kernel_rfl) ?_
 refine WO.fin [0, 1, 6, 7, 8, 9, 10, 63] [] [] [] (e2 := [(0, .str w5), (1, .str w6), (6, I6 w8.2), (7, I6 w10.1), (8, I6 w10.2), (9, l3 none w12.1), (10, I6 w12.2), (63, .bool (!w20))]) (by kernel_rfl) (fun _ h => h) ?_
 refine W.condB (!w20) (by kernel_rfl) (fun hb => ?_) (fun hb => ?_)
 ·replace h := cond_t hb h
  refine W.seq ?_
  refine W.join (σ := (Bool)) (fun s => [(4, .bool s)]) (fun s => (lw4_IndexCounts_j21) s = some r) (fun s h => ?_) (fun hK21 => ?_)
  ·obtain ⟨v23, rfl⟩ : ∃ x, x = s := ⟨s, rfl⟩
   have h : (lw4_IndexCounts_j21) v23 = some r := h
   unfold lw4_IndexCounts_j21 at h
   refine W.weak [4] [] [] [] (env' := [(4, .bool v23)]) (by kernel_rfl) ?_
   have hr : aresults Try.prog Try.f8 [(4, .bool v23)] = some (.bool v23) := by kernel_rfl
   cases h
   exact W.ret hr
  refine W.region (by kernel_rfl) ?_
  refine WO.boolK 3 (fun b => [(0, .str w5), (1, .str w6), (6, I6 w8.2), (7, I6 w10.1), (8, I6 w10.2), (9, l3 none w12.1), (10, I6 w12.2), (63, .bool (!w20)), (67, I6 w8.2), (68, .bool b), (69, .bool b)]) (w8.2 == 0) (by kernel_rfl) (fun hb => ?_) (fun hb => ?_)
  ·replace h := cond_t hb h
   refine WO.boolK 4 (fun b => [(0, .str w5), (1, .str w6), (6, I6 w8.2), (7, I6 w10.1), (8, I6 w10.2), (9, l3 none w12.1), (10, I6 w12.2), (63, .bool (!w20)), (67, I6 w8.2), (68, .bool true), (69, .bool true), (70, I6 w10.1), (71, .bool b), (72, .bool b), (73, .bool b)]) (w10.1 == 0) (by kernel_rfl) (fun hb => ?_) (fun hb => ?_)
   ·replace h := cond_t hb h
    refine WO.pureK 1 (some (I6 ((M6 w12.1).length : Int))) (v := I6 (w12.1.length : Int)) (by kernel_rfl) (by rw [List.length_map]) (e1 := [(0, .str w5), (1, .str w6), (6, I6 w8.2), (7, I6 w10.1), (8, I6 w10.2), (9, l3 none w12.1), (10, I6 w12.2), (63, .bool (!w20)), (67, I6 w8.2), (68, .bool true), (69, .bool true), (70, I6 w10.1), (71, .bool true), (72, .bool true), (73, .bool true), (74, l3 none w12.1), (75, I6 (w12.1.length : Int))]) (by kernel_rfl) ?_
    refine WO.boolK 3 (fun b => [(0, .str w5), (1, .str w6), (6, I6 w8.2), (7, I6 w10.1), (8, I6 w10.2), (9, l3 none w12.1), (10, I6 w12.2), (63, .bool (!w20)), (67, I6 w8.2), (68, .bool true), (69, .bool true), (70, I6 w10.1), (71, .bool true), (72, .bool true), (73, .bool true), (74, l3 none w12.1), (75, I6 (w12.1.length : Int)), (76, .bool b), (77, .bool b), (78, .bool b)]) ((w12.1.length : Int) == 0) (by kernel_rfl) (fun hb => ?_) (fun hb => ?_)
    ·replace h := cond_t hb h
     refine WO.boolK 4 (fun b => [(0, .str w5), (1, .str w6), (6, I6 w8.2), (7, I6 w10.1), (8, I6 w10.2), (9, l3 none w12.1), (10, I6 w12.2), (63, .bool (!w20)), (67, I6 w8.2), (68, .bool true), (69, .bool true), (70, I6 w10.1), (71, .bool true), (72, .bool true), (73, .bool true), (74, l3 none w12.1), (75, I6 (w12.1.length : Int)), (76, .bool true), (77, .bool true), (78, .bool true), (79, I6 w10.2), (80, .bool b), (81, .bool b), (82, .bool b)]) (w10.2 == 2) (by kernel_rfl) (fun hb => ?_) (fun hb => ?_)
     ·replace h := cond_t hb h
      refine WO.boolK 4 (fun b => [(0, .str w5), (1, .str w6), (6, I6 w8.2), (7, I6 w10.1), (8, I6 w10.2), (9, l3 none w12.1), (10, I6 w12.2), (63, .bool (!w20)), (67, I6 w8.2), (68, .bool true), (69, .bool true), (70, I6 w10.1), (71, .bool true), (72, .bool true), (73, .bool true), (74, l3 none w12.1), (75, I6 (w12.1.length : Int)), (76, .bool true), (77, .bool true), (78, .bool true), (79, I6 w10.2), (80, .bool true), (81, .bool true), (82, .bool true), (83, I6 w12.2), (84, .bool b), (85, .bool b), (86, .bool b)]) (w12.2 == 2) (by kernel_rfl) (fun hb => ?_) (fun hb => ?_)
      ·replace h := cond_t hb h
       obtain ⟨w22, hw22, h⟩ := bind_some h
       refine WO.callK 0 (F := 18) (l := []) (C := []) (r := .bool w22) (by kernel_rfl) (by kernel_rfl) (run_lw4_awake w22 hw22) (e1 := [(0, .str w5), (1, .str w6), (6, I6 w8.2), (7, I6 w10.1), (8, I6 w10.2), (9, l3 none w12.1), (10, I6 w12.2), (63, .bool (!w20)), (67, I6 w8.2), (68, .bool true), (69, .bool true), (70, I6 w10.1), (71, .bool true), (72, .bool true), (73, .bool true), (74, l3 none w12.1), (75, I6 (w12.1.length : Int)), (76, .bool true), (77, .bool true), (78, .bool true), (79, I6 w10.2), (80, .bool true), (81, .bool true), (82, .bool true), (83, I6 w12.2), (84, .bool true), (85, .bool true), (86, .bool true), (87, .bool w22)]) (by kernel_rfl) ?_
       refine WO.fin [4] [] [] [] (e2 := [(4, .bool w22)]) (by kernel_rfl) (fun _ h => h) ?_
       exact hK21 w22 h
      replace h := cond_f hb h
      refine WO.fin [4] [] [] [] (e2 := [(4, .bool false)]) (by kernel_rfl) (fun _ h => h) ?_
      exact hK21 false h
     replace h := cond_f hb h
     refine WO.fin [4] [] [] [] (e2 := [(4, .bool false)]) (by kernel_rfl) (fun _ h => h) ?_
     exact hK21 false h
    replace h := cond_f hb h
    refine WO.fin [4] [] [] [] (e2 := [(4, .bool false)]) (by kernel_rfl) (fun _ h => h) ?_
    exact hK21 false h
   replace h := cond_f hb h
   refine WO.fin [4] [] [] [] (e2 := [(4, .bool false)]) (by kernel_rfl) (fun _ h => h) ?_
   exact hK21 false h
  replace h := cond_f hb h
  refine WO.fin [4] [] [] [] (e2 := [(4, .bool false)]) (by kernel_rfl) (fun _ h => h) ?_
  exact hK21 false h
 replace h := cond_f hb h
 refine W.skip ?_
 refine W.weak [0, 1, 6, 7, 8, 9, 10] [] [] [] (env' := [(0, .str w5), (1, .str w6), (6, I6 w8.2), (7, I6 w10.1), (8, I6 w10.2), (9, l3 none w12.1), (10, I6 w12.2)]) (by kernel_rfl) ?_
 refine W.seq ?_
 refine W.region (by kernel_rfl) ?_
 obtain ⟨w25, hw25, h⟩ := bind_some h
 refine WO.callK 2 (F := 37) (l := [.str w5, .str w6]) (C := []) (r := l3 (some 1) w25) (by kernel_rfl) (by kernel_rfl) (run_rf4_Locate w5 w6 w25 hw25) (e1 := [(0, .str w5), (1, .str w6), (6, I6 w8.2), (7, I6 w10.1), (8, I6 w10.2), (9, l3 none w12.1), (10, I6 w12.2), (89, .str w5), (90, .str w6), (91, l3 (some 91) w25)]) (by kernel_rfl) ?_
 refine WO.fin [6, 7, 8, 9, 10, 11] [] [] [] (e2 := [(6, I6 w8.2), (7, I6 w10.1), (8, I6 w10.2), (9, l3 none w12.1), (10, I6 w12.2), (11, l3 (some 91) w25)]) (by kernel_rfl) (fun _ h => h) ?_
 refine W.seq ?_
 refine W.join (σ := (Bool)) (fun s => [(4, .bool s)]) (fun s => (lw4_IndexCounts_j26) s = some r) (fun s h => ?_) (fun hK26 => ?_)
 ·obtain ⟨v29, rfl⟩ : ∃ x, x = s := ⟨s, rfl⟩
  have h : (lw4_IndexCounts_j26) v29 = some r := h
  unfold lw4_IndexCounts_j26 at h
  refine W.weak [4] [] [] [] (env' := [(4, .bool v29)]) (by kernel_rfl) ?_
  have hr : aresults Try.prog Try.f8 [(4, .bool v29)] = some (.bool v29) := by kernel_rfl
  cases h
  exact W.ret hr
 refine W.region (by kernel_rfl) ?_
 refine WO.boolK 3 (fun b => [(6, I6 w8.2), (7, I6 w10.1), (8, I6 w10.2), (9, l3 none w12.1), (10, I6 w12.2), (11, l3 (some 91) w25), (92, I6 w8.2), (93, .bool b), (94, .bool b)]) (w8.2 == 0) (by kernel_rfl) (fun hb => ?_) (fun hb => ?_)
 ·replace h := cond_t hb h
  refine WO.pureK 2 (some (I6 ((M6 w25).length : Int))) (v := I6 (w25.length : Int)) (by kernel_rfl) (by rw [List.length_map]) (e1 := [(6, I6 w8.2), (7, I6 w10.1), (8, I6 w10.2), (9, l3 none w12.1), (10, I6 w12.2), (11, l3 (some 91) w25), (92, I6 w8.2), (93, .bool true), (94, .bool true), (95, I6 w10.1), (96, l3 (some 91) w25), (97, I6 (w25.length : Int))]) (by kernel_rfl) ?_
  refine WO.boolK 3 (fun b => [(6, I6 w8.2), (7, I6 w10.1), (8, I6 w10.2), (9, l3 none w12.1), (10, I6 w12.2), (11, l3 (some 91) w25), (92, I6 w8.2), (93, .bool true), (94, .bool true), (95, I6 w10.1), (96, l3 (some 91) w25), (97, I6 (w25.length : Int)), (98, .bool b), (99, .bool b), (100, .bool b)]) (w10.1 == (w25.length : Int)) (by kernel_rfl) (fun hb => ?_) (fun hb => ?_)
  ·replace h := cond_t hb h
   refine WO.boolK 4 (fun b => [(6, I6 w8.2), (7, I6 w10.1), (8, I6 w10.2), (9, l3 none w12.1), (10, I6 w12.2), (11, l3 (some 91) w25), (92, I6 w8.2), (93, .bool true), (94, .bool true), (95, I6 w10.1), (96, l3 (some 91) w25), (97, I6 (w25.length : Int)), (98, .bool true), (99, .bool true), (100, .bool true), (101, I6 w10.2), (102, .bool b), (103, .bool b), (104, .bool b)]) (w10.2 == 0) (by kernel_rfl) (fun hb => ?_) (fun hb => ?_)
   ·replace h := cond_t hb h
    obtain ⟨w27, hw27, h⟩ := bind_some h
    refine WO.callK 2 (F := 19) (l := [l3 none w12.1, l3 none w25]) (C := []) (r := .bool w27) (by kernel_rfl) (by kernel_rfl) (run_sl_Equal_int w12.1 w25 w27 hw27) (e1 := [(6, I6 w8.2), (7, I6 w10.1), (8, I6 w10.2), (9, l3 none w12.1), (10, I6 w12.2), (11, l3 (some 91) w25), (92, I6 w8.2), (93, .bool true), (94, .bool true), (95, I6 w10.1), (96, l3 (some 91) w25), (97, I6 (w25.length : Int)), (98, .bool true), (99, .bool true), (100, .bool true), (101, I6 w10.2), (102, .bool true), (103, .bool true), (104, .bool true), (105, l3 none w12.1), (106, l3 (some 91) w25), (107, .bool w27)]) (by kernel_rfl) ?_
    refine WO.boolK 2 (fun b => [(6, I6 w8.2), (7, I6 w10.1), (8, I6 w10.2), (9, l3 none w12.1), (10, I6 w12.2), (11, l3 (some 91) w25), (92, I6 w8.2), (93, .bool true), (94, .bool true), (95, I6 w10.1), (96, l3 (some 91) w25), (97, I6 (w25.length : Int)), (98, .bool true), (99, .bool true), (100, .bool true), (101, I6 w10.2), (102, .bool true), (103, .bool true), (104, .bool true), (105, l3 none w12.1), (106, l3 (some 91) w25), (107, .bool b), (108, .bool b), (109, .bool b)]) w27 (by kernel_rfl) (fun hb => ?_) (fun hb => ?_)
    ·replace h := cond_t hb h
     refine WO.boolK 4 (fun b => [(6, I6 w8.2), (7, I6 w10.1), (8, I6 w10.2), (9, l3 none w12.1), (10, I6 w12.2), (11, l3 (some 91) w25), (92, I6 w8.2), (93, .bool true), (94, .bool true), (95, I6 w10.1), (96, l3 (some 91) w25), (97, I6 (w25.length : Int)), (98, .bool true), (99, .bool true), (100, .bool true), (101, I6 w10.2), (102, .bool true), (103, .bool true), (104, .bool true), (105, l3 none w12.1), (106, l3 (some 91) w25), (107, .bool true), (108, .bool true), (109, .bool true), (110, I6 w12.2), (111, .bool b), (112, .bool b), (113, .bool b)]) (w12.2 == 0) (by kernel_rfl) (fun hb => ?_) (fun hb => ?_)
     ·replace h := cond_t hb h
      obtain ⟨w28, hw28, h⟩ := bind_some h
      refine WO.callK 0 (F := 18) (l := []) (C := []) (r := .bool w28) (by kernel_rfl) (by kernel_rfl) (run_lw4_awake w28 hw28) (e1 := [(6, I6 w8.2), (7, I6 w10.1), (8, I6 w10.2), (9, l3 none w12.1), (10, I6 w12.2), (11, l3 (some 91) w25), (92, I6 w8.2), (93, .bool true), (94, .bool true), (95, I6 w10.1), (96, l3 (some 91) w25), (97, I6 (w25.length : Int)), (98, .bool true), (99, .bool true), (100, .bool true), (101, I6 w10.2), (102, .bool true), (103, .bool true), (104, .bool true), (105, l3 none w12.1), (106, l3 (some 91) w25), (107, .bool true), (108, .bool true), (109, .bool true), (110, I6 w12.2), (111, .bool true), (112, .bool true), (113, .bool true), (114, .bool w28)]) (by kernel_rfl) ?_
      refine WO.fin [4] [] [] [] (e2 := [(4, .bool w28)]) (by kernel_rfl) (fun _ h => h) ?_
      exact hK26 w28 h
     replace h := cond_f hb h
     refine WO.fin [4] [] [] [] (e2 := [(4, .bool false)]) (by kernel_rfl) (fun _ h => h) ?_
     exact hK26 false h
    replace h := cond_f hb h
    refine WO.fin [4] [] [] [] (e2 := [(4, .bool false)]) (by kernel_rfl) (fun _ h => h) ?_
    exact hK26 false h
   replace h := cond_f hb h
   refine WO.fin [4] [] [] [] (e2 := [(4, .bool false)]) (by kernel_rfl) (fun _ h => h) ?_
   exact hK26 false h
  replace h := cond_f hb h
  refine WO.fin [4] [] [] [] (e2 := [(4, .bool false)]) (by kernel_rfl) (fun _ h => h) ?_
  exact hK26 false h
 replace h := cond_f hb h
 refine WO.fin [4] [] [] [] (e2 := [(4, .bool false)]) (by kernel_rfl) (fun _ h => h) ?_
 exact hK26 false h
end Go.AM
