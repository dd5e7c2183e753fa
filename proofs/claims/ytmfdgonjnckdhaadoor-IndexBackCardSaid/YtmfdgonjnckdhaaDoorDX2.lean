/- s -/
import Derived.Test.YtmfdgonjnckdhaaDoorDX1
set_option maxRecDepth 100000
set_option linter.unusedVariables false
set_option linter.unusedSimpArgs false
namespace Go.AM
open Go.Proofs
def sl_symMergeCmpFunc_int_j24 (v41 : (List Int)) : Option (List Int) :=
 (some v41)
def sl_symMergeCmpFunc_int_l2 (n2 : Nat) (v23 : Int) (K24 : ((List Int) → Option (List Int))) : Nat → (List Int) → Int → Option (List Int)
 | 0, _, _ => none
 | m2 + 1, v26, v27 => (bif (decide (v27 < (IntKind.wrap .i64 (v23 - 1)))) then (chk (decide ((0 : Int) ≤ (IntKind.wrap .i64 (v27 + 1)) ∧ (IntKind.wrap .i64 (v27 + 1)) < ((n2 : Nat) : Int))) ((v26[(0 + Int.toNat (IntKind.wrap .i64 (v27 + 1)))]?).bind fun e32 => (chk (decide ((0 : Int) ≤ v27 ∧ v27 < ((n2 : Nat) : Int))) ((v26[(0 + Int.toNat v27)]?).bind fun e34 => (chk (decide ((0 : Int) ≤ v27 ∧ v27 < ((n2 : Nat) : Int))) ((upd v26 (0 + Int.toNat v27) e32).bind fun u36 => (chk (decide ((0 : Int) ≤ (IntKind.wrap .i64 (v27 + 1)) ∧ (IntKind.wrap .i64 (v27 + 1)) < ((n2 : Nat) : Int))) ((upd u36 (0 + Int.toNat (IntKind.wrap .i64 (v27 + 1))) e34).bind fun u39 => ((sl_symMergeCmpFunc_int_l2 n2 v23 K24 m2) u39 (IntKind.wrap .i64 (v27 + 1))))))))))) else (K24 v26))
def sl_symMergeCmpFunc_int_j11 (fuel : Nat) (a1 : (List Int)) (n2 : Nat) (a3 : Int) (v23 : Int) : Option (List Int) :=
 (sl_symMergeCmpFunc_int_l2 n2 v23 (sl_symMergeCmpFunc_int_j24) fuel a1 a3)
def sl_symMergeCmpFunc_int_j59 (v76 : (List Int)) : Option (List Int) :=
 (some v76)
def sl_symMergeCmpFunc_int_l4 (n2 : Nat) (v58 : Int) (K59 : ((List Int) → Option (List Int))) : Nat → (List Int) → Int → Option (List Int)
 | 0, _, _ => none
 | m4 + 1, v61, v62 => (bif (decide (v62 > v58)) then (chk (decide ((0 : Int) ≤ (IntKind.wrap .i64 (v62 - 1)) ∧ (IntKind.wrap .i64 (v62 - 1)) < ((n2 : Nat) : Int))) ((v61[(0 + Int.toNat (IntKind.wrap .i64 (v62 - 1)))]?).bind fun e67 => (chk (decide ((0 : Int) ≤ v62 ∧ v62 < ((n2 : Nat) : Int))) ((v61[(0 + Int.toNat v62)]?).bind fun e69 => (chk (decide ((0 : Int) ≤ v62 ∧ v62 < ((n2 : Nat) : Int))) ((upd v61 (0 + Int.toNat v62) e67).bind fun u71 => (chk (decide ((0 : Int) ≤ (IntKind.wrap .i64 (v62 - 1)) ∧ (IntKind.wrap .i64 (v62 - 1)) < ((n2 : Nat) : Int))) ((upd u71 (0 + Int.toNat (IntKind.wrap .i64 (v62 - 1))) e69).bind fun u74 => ((sl_symMergeCmpFunc_int_l4 n2 v58 K59 m4) u74 (IntKind.wrap .i64 (v62 - 1))))))))))) else (K59 v61))
def sl_symMergeCmpFunc_int_j46 (fuel : Nat) (a1 : (List Int)) (n2 : Nat) (a4 : Int) (v58 : Int) : Option (List Int) :=
 (sl_symMergeCmpFunc_int_l4 n2 v58 (sl_symMergeCmpFunc_int_j59) fuel a1 a4)
def sl_symMergeCmpFunc_int_j111 (n2 : Nat) (a3 : Int) (a4 : Int) (a5 : Int) (g6 : (Int → Int → Option Int)) (v99 : Int) (v110 : (List Int)) (K0 : ((List Int) → Nat → Int → Int → Int → (Int → Int → Option Int) → Option (List Int))) (v112 : Bool) : Option (List Int) :=
 (bif v112 then ((K0 v110 n2 (IntKind.wrap .i64 (iShr .u64 (IntKind.wrap .u64 (IntKind.wrap .i64 (a3 + a5))) 1)) (IntKind.wrap .i64 ((IntKind.wrap .i64 ((IntKind.wrap .i64 (iShr .u64 (IntKind.wrap .u64 (IntKind.wrap .i64 (a3 + a5))) 1)) + a4)) - v99)) a5 g6).bind fun w113 => (some w113)) else (some v110))
def sl_symMergeCmpFunc_int_j106 (n2 : Nat) (a3 : Int) (a4 : Int) (a5 : Int) (g6 : (Int → Int → Option Int)) (v99 : Int) (K0 : ((List Int) → Nat → Int → Int → Int → (Int → Int → Option Int) → Option (List Int))) (v110 : (List Int)) : Option (List Int) :=
 (bif (decide ((IntKind.wrap .i64 (iShr .u64 (IntKind.wrap .u64 (IntKind.wrap .i64 (a3 + a5))) 1)) < (IntKind.wrap .i64 ((IntKind.wrap .i64 ((IntKind.wrap .i64 (iShr .u64 (IntKind.wrap .u64 (IntKind.wrap .i64 (a3 + a5))) 1)) + a4)) - v99)))) then ((sl_symMergeCmpFunc_int_j111 n2 a3 a4 a5 g6 v99 v110 K0) (decide ((IntKind.wrap .i64 ((IntKind.wrap .i64 ((IntKind.wrap .i64 (iShr .u64 (IntKind.wrap .u64 (IntKind.wrap .i64 (a3 + a5))) 1)) + a4)) - v99)) < a5))) else ((sl_symMergeCmpFunc_int_j111 n2 a3 a4 a5 g6 v99 v110 K0) false))
def sl_symMergeCmpFunc_int_j107 (n2 : Nat) (a3 : Int) (a5 : Int) (g6 : (Int → Int → Option Int)) (v99 : Int) (v105 : (List Int)) (K0 : ((List Int) → Nat → Int → Int → Int → (Int → Int → Option Int) → Option (List Int))) (K106 : ((List Int) → Option (List Int))) (v108 : Bool) : Option (List Int) :=
 (bif v108 then ((K0 v105 n2 a3 v99 (IntKind.wrap .i64 (iShr .u64 (IntKind.wrap .u64 (IntKind.wrap .i64 (a3 + a5))) 1)) g6).bind fun w109 => (K106 w109)) else (K106 v105))
def sl_symMergeCmpFunc_int_j101 (n2 : Nat) (a3 : Int) (a4 : Int) (a5 : Int) (g6 : (Int → Int → Option Int)) (v99 : Int) (K0 : ((List Int) → Nat → Int → Int → Int → (Int → Int → Option Int) → Option (List Int))) (v105 : (List Int)) : Option (List Int) :=
 (bif (decide (a3 < v99)) then ((sl_symMergeCmpFunc_int_j107 n2 a3 a5 g6 v99 v105 K0 (sl_symMergeCmpFunc_int_j106 n2 a3 a4 a5 g6 v99 K0)) (decide (v99 < (IntKind.wrap .i64 (iShr .u64 (IntKind.wrap .u64 (IntKind.wrap .i64 (a3 + a5))) 1))))) else ((sl_symMergeCmpFunc_int_j107 n2 a3 a5 g6 v99 v105 K0 (sl_symMergeCmpFunc_int_j106 n2 a3 a4 a5 g6 v99 K0)) false))
def sl_symMergeCmpFunc_int_j102 (fuel : Nat) (a1 : (List Int)) (n2 : Nat) (a3 : Int) (a4 : Int) (a5 : Int) (g6 : (Int → Int → Option Int)) (v99 : Int) (K101 : ((List Int) → Option (List Int))) (v103 : Bool) : Option (List Int) :=
 (bif v103 then ((sl_rotateCmpFunc_int fuel a1 n2 v99 a4 (IntKind.wrap .i64 ((IntKind.wrap .i64 ((IntKind.wrap .i64 (iShr .u64 (IntKind.wrap .u64 (IntKind.wrap .i64 (a3 + a5))) 1)) + a4)) - v99)) g6).bind fun w104 => (K101 w104)) else (K101 a1))
def sl_symMergeCmpFunc_int_j87 (fuel : Nat) (a1 : (List Int)) (n2 : Nat) (a3 : Int) (a4 : Int) (a5 : Int) (g6 : (Int → Int → Option Int)) (K0 : ((List Int) → Nat → Int → Int → Int → (Int → Int → Option Int) → Option (List Int))) (v99 : Int) : Option (List Int) :=
 (bif (decide (v99 < a4)) then ((sl_symMergeCmpFunc_int_j102 fuel a1 n2 a3 a4 a5 g6 v99 (sl_symMergeCmpFunc_int_j101 n2 a3 a4 a5 g6 v99 K0)) (decide (a4 < (IntKind.wrap .i64 ((IntKind.wrap .i64 ((IntKind.wrap .i64 (iShr .u64 (IntKind.wrap .u64 (IntKind.wrap .i64 (a3 + a5))) 1)) + a4)) - v99))))) else ((sl_symMergeCmpFunc_int_j102 fuel a1 n2 a3 a4 a5 g6 v99 (sl_symMergeCmpFunc_int_j101 n2 a3 a4 a5 g6 v99 K0)) false))
def sl_symMergeCmpFunc_int_l5 (a1 : (List Int)) (n2 : Nat) (a3 : Int) (a4 : Int) (a5 : Int) (g6 : (Int → Int → Option Int)) (K87 : (Int → Option (List Int))) : Nat → Int → Int → Option (List Int)
 | 0, _, _ => none
 | m5 + 1, v88, v89 => (bif (decide (v88 < v89)) then (chk (decide ((0 : Int) ≤ (IntKind.wrap .i64 ((IntKind.wrap .i64 ((IntKind.wrap .i64 ((IntKind.wrap .i64 (iShr .u64 (IntKind.wrap .u64 (IntKind.wrap .i64 (a3 + a5))) 1)) + a4)) - 1)) - (IntKind.wrap .i64 (iShr .u64 (IntKind.wrap .u64 (IntKind.wrap .i64 (v88 + v89))) 1)))) ∧ (IntKind.wrap .i64 ((IntKind.wrap .i64 ((IntKind.wrap .i64 ((IntKind.wrap .i64 (iShr .u64 (IntKind.wrap .u64 (IntKind.wrap .i64 (a3 + a5))) 1)) + a4)) - 1)) - (IntKind.wrap .i64 (iShr .u64 (IntKind.wrap .u64 (IntKind.wrap .i64 (v88 + v89))) 1)))) < ((n2 : Nat) : Int))) ((a1[(0 + Int.toNat (IntKind.wrap .i64 ((IntKind.wrap .i64 ((IntKind.wrap .i64 ((IntKind.wrap .i64 (iShr .u64 (IntKind.wrap .u64 (IntKind.wrap .i64 (a3 + a5))) 1)) + a4)) - 1)) - (IntKind.wrap .i64 (iShr .u64 (IntKind.wrap .u64 (IntKind.wrap .i64 (v88 + v89))) 1)))))]?).bind fun e95 => (chk (decide ((0 : Int) ≤ (IntKind.wrap .i64 (iShr .u64 (IntKind.wrap .u64 (IntKind.wrap .i64 (v88 + v89))) 1)) ∧ (IntKind.wrap .i64 (iShr .u64 (IntKind.wrap .u64 (IntKind.wrap .i64 (v88 + v89))) 1)) < ((n2 : Nat) : Int))) ((a1[(0 + Int.toNat (IntKind.wrap .i64 (iShr .u64 (IntKind.wrap .u64 (IntKind.wrap .i64 (v88 + v89))) 1)))]?).bind fun e97 => ((g6 e95 e97).bind fun w98 => (bif (!(decide (w98 < 0))) then ((sl_symMergeCmpFunc_int_l5 a1 n2 a3 a4 a5 g6 K87 m5) (IntKind.wrap .i64 ((IntKind.wrap .i64 (iShr .u64 (IntKind.wrap .u64 (IntKind.wrap .i64 (v88 + v89))) 1)) + 1)) v89) else ((sl_symMergeCmpFunc_int_l5 a1 n2 a3 a4 a5 g6 K87 m5) v88 (IntKind.wrap .i64 (iShr .u64 (IntKind.wrap .u64 (IntKind.wrap .i64 (v88 + v89))) 1))))))))) else (K87 v88))
def sl_symMergeCmpFunc_int_j80 (fuel : Nat) (a1 : (List Int)) (n2 : Nat) (a3 : Int) (a4 : Int) (a5 : Int) (g6 : (Int → Int → Option Int)) (K0 : ((List Int) → Nat → Int → Int → Int → (Int → Int → Option Int) → Option (List Int))) (v84 : Int) (v85 : Int) : Option (List Int) :=
 (sl_symMergeCmpFunc_int_l5 a1 n2 a3 a4 a5 g6 (sl_symMergeCmpFunc_int_j87 fuel a1 n2 a3 a4 a5 g6 K0) fuel v84 v85)
def sl_symMergeCmpFunc_int_l1 (a1 : (List Int)) (n2 : Nat) (a3 : Int) (g6 : (Int → Int → Option Int)) (K11 : (Int → Option (List Int))) : Nat → Int → Int → Option (List Int)
 | 0, _, _ => none
 | m1 + 1, v12, v13 => (bif (decide (v12 < v13)) then (chk (decide ((0 : Int) ≤ (IntKind.wrap .i64 (iShr .u64 (IntKind.wrap .u64 (IntKind.wrap .i64 (v12 + v13))) 1)) ∧ (IntKind.wrap .i64 (iShr .u64 (IntKind.wrap .u64 (IntKind.wrap .i64 (v12 + v13))) 1)) < ((n2 : Nat) : Int))) ((a1[(0 + Int.toNat (IntKind.wrap .i64 (iShr .u64 (IntKind.wrap .u64 (IntKind.wrap .i64 (v12 + v13))) 1)))]?).bind fun e19 => (chk (decide ((0 : Int) ≤ a3 ∧ a3 < ((n2 : Nat) : Int))) ((a1[(0 + Int.toNat a3)]?).bind fun e21 => ((g6 e19 e21).bind fun w22 => (bif (decide (w22 < 0)) then ((sl_symMergeCmpFunc_int_l1 a1 n2 a3 g6 K11 m1) (IntKind.wrap .i64 ((IntKind.wrap .i64 (iShr .u64 (IntKind.wrap .u64 (IntKind.wrap .i64 (v12 + v13))) 1)) + 1)) v13) else ((sl_symMergeCmpFunc_int_l1 a1 n2 a3 g6 K11 m1) v12 (IntKind.wrap .i64 (iShr .u64 (IntKind.wrap .u64 (IntKind.wrap .i64 (v12 + v13))) 1))))))))) else (K11 v12))
def sl_symMergeCmpFunc_int_l3 (a1 : (List Int)) (n2 : Nat) (a4 : Int) (g6 : (Int → Int → Option Int)) (K46 : (Int → Option (List Int))) : Nat → Int → Int → Option (List Int)
 | 0, _, _ => none
 | m3 + 1, v47, v48 => (bif (decide (v47 < v48)) then (chk (decide ((0 : Int) ≤ a4 ∧ a4 < ((n2 : Nat) : Int))) ((a1[(0 + Int.toNat a4)]?).bind fun e54 => (chk (decide ((0 : Int) ≤ (IntKind.wrap .i64 (iShr .u64 (IntKind.wrap .u64 (IntKind.wrap .i64 (v47 + v48))) 1)) ∧ (IntKind.wrap .i64 (iShr .u64 (IntKind.wrap .u64 (IntKind.wrap .i64 (v47 + v48))) 1)) < ((n2 : Nat) : Int))) ((a1[(0 + Int.toNat (IntKind.wrap .i64 (iShr .u64 (IntKind.wrap .u64 (IntKind.wrap .i64 (v47 + v48))) 1)))]?).bind fun e56 => ((g6 e54 e56).bind fun w57 => (bif (!(decide (w57 < 0))) then ((sl_symMergeCmpFunc_int_l3 a1 n2 a4 g6 K46 m3) (IntKind.wrap .i64 ((IntKind.wrap .i64 (iShr .u64 (IntKind.wrap .u64 (IntKind.wrap .i64 (v47 + v48))) 1)) + 1)) v48) else ((sl_symMergeCmpFunc_int_l3 a1 n2 a4 g6 K46 m3) v47 (IntKind.wrap .i64 (iShr .u64 (IntKind.wrap .u64 (IntKind.wrap .i64 (v47 + v48))) 1))))))))) else (K46 v47))
def sl_symMergeCmpFunc_int : Nat → (List Int) → Nat → Int → Int → Int → (Int → Int → Option Int) → Option (List Int)
 | 0, _, _, _, _, _, _ => none
 | fuel + 1, a1, n2, a3, a4, a5, g6 => (bif ((IntKind.wrap .i64 (a4 - a3)) == 1) then (sl_symMergeCmpFunc_int_l1 a1 n2 a3 g6 (sl_symMergeCmpFunc_int_j11 fuel a1 n2 a3) fuel a4 a5) else (bif ((IntKind.wrap .i64 (a5 - a4)) == 1) then (sl_symMergeCmpFunc_int_l3 a1 n2 a4 g6 (sl_symMergeCmpFunc_int_j46 fuel a1 n2 a4) fuel a3 a4) else (bif (decide (a4 > (IntKind.wrap .i64 (iShr .u64 (IntKind.wrap .u64 (IntKind.wrap .i64 (a3 + a5))) 1)))) then ((sl_symMergeCmpFunc_int_j80 fuel a1 n2 a3 a4 a5 g6 (sl_symMergeCmpFunc_int fuel)) (IntKind.wrap .i64 ((IntKind.wrap .i64 ((IntKind.wrap .i64 (iShr .u64 (IntKind.wrap .u64 (IntKind.wrap .i64 (a3 + a5))) 1)) + a4)) - a5)) (IntKind.wrap .i64 (iShr .u64 (IntKind.wrap .u64 (IntKind.wrap .i64 (a3 + a5))) 1))) else ((sl_symMergeCmpFunc_int_j80 fuel a1 n2 a3 a4 a5 g6 (sl_symMergeCmpFunc_int fuel)) a3 a4))))
theorem run_sl_symMergeCmpFunc_int : ∀ (fuel : Nat) (a1 : (List Int)) (n2 : Nat) (a3 : Int) (a4 : Int) (a5 : Int) (g6 : (Int → Int → Option Int)) (F_g6 : Nat) (C_g6 : List AV) (hok_g6 : okFn Tryd.prog F_g6 = true) (hrun_g6 : ∀ (x0 : Int) (x1 : Int) r, g6 x0 x1 = some r → Run Tryd.prog (.call F_g6 ([I6 x0, I6 x1] ++ C_g6) (I6 r))) (r : (List Int)) (h : sl_symMergeCmpFunc_int fuel a1 n2 a3 a4 a5 g6 = some r), Run Tryd.prog (.callM 67 [.sb 2000000 3 1 0 n2, I6 a3, I6 a4, I6 a5, .clo F_g6 C_g6] [(2000000, .obj 3 1 (M6 a1))] (.tup []) [(2000000, .obj 3 1 (M6 r))]) := by
 intro fuel
 induction fuel with
 | zero => intro a1 n2 a3 a4 a5 g6 F_g6 C_g6 hok_g6 hrun_g6 r h; cases h
 | succ fuel ih =>
  intro a1 n2 a3 a4 a5 g6 F_g6 C_g6 hok_g6 hrun_g6 r h
  refine cM Tryd.func67 rfl (env0 := [(0, .sb 2000000 3 1 0 n2), (1, I6 a3), (2, I6 a4), (3, I6 a5), (4, .clo F_g6 C_g6), (2000000, .obj 3 1 (M6 a1))]) ?_
  rw [sl_symMergeCmpFunc_int.eq_2] at h
  refine W.seq ?_
  refine W.seq ?_
  let z0 := fun t => EN ((0, .sb 2000000 3 1 0 n2) :: (1, I6 a3) :: (2, I6 a4) :: (3, I6 a5) :: (4, .clo F_g6 C_g6) :: t)
  refine W.rt (e2 := z0 [(28, .bool ((W6 (a4 - a3)) == 1)), (2000000, .obj 3 1 (M6 a1))]) ?_
  refine W.cb ((W6 (a4 - a3)) == 1) (fun hb => ?_) (fun hb => ?_)
  ·replace h := cond_t hb h
   refine W.seq ?_
   let z1 := fun t => EN ((0, .sb 2000000 3 1 0 n2) :: t)
   let z2 := fun t => z1 ((1, I6 a3) :: t)
   refine W.rt (e2 := z2 [(3, I6 a5), (4, .clo F_g6 C_g6), (10, I6 a4), (2000000, .obj 3 1 (M6 a1))]) ?_
   refine W.seq ?_
   let z3 := fun t => z2 ((4, .clo F_g6 C_g6) :: t)
   let z4 := fun t => z3 ((10, I6 a4) :: (11, I6 a5) :: (2000000, .obj 3 1 (M6 a1)) :: t)
   refine W.rt (e2 := z4 []) ?_
   refine W.seq ?_
   refine W.join (σ := (Int)) (fun s => z2 [(10, I6 s), (2000000, .obj 3 1 (M6 a1))]) (fun s => (sl_symMergeCmpFunc_int_j11 fuel a1 n2 a3) s = some r) (fun s h => ?_) (fun hK11 => ?_)
   ·obtain ⟨v23, rfl⟩ : ∃ x, x = s := ⟨s, rfl⟩
    have h : (sl_symMergeCmpFunc_int_j11 fuel a1 n2 a3) v23 = some r := h
    unfold sl_symMergeCmpFunc_int_j11 at h
    refine W.seq ?_
    refine W.join (σ := ((List Int))) (fun s => [(2000000, .obj 3 1 (M6 s))]) (fun s => (sl_symMergeCmpFunc_int_j24) s = some r) (fun s h => ?_) (fun hK24 => ?_)
    ·obtain ⟨v41, rfl⟩ : ∃ x, x = s := ⟨s, rfl⟩
     have h : (sl_symMergeCmpFunc_int_j24) v41 = some r := h
     unfold sl_symMergeCmpFunc_int_j24 at h
     refine W.wk (env' := [(2000000, .obj 3 1 (M6 v41))]) ?_
     have hr : PostM Tryd.prog Tryd.f67 (.tup []) [(2000000, .obj 3 1 (M6 v41))] .ret [(2000000, .obj 3 1 (M6 v41))] := ⟨by kernel_rfl, by kernel_rfl⟩
     cases h
     exact W.ret hr
    refine W.seq ?_
    let z5 := fun t => z1 ((10, I6 v23) :: t)
    let z6 := fun t => z5 ((13, I6 a3) :: (2000000, .obj 3 1 (M6 a1)) :: t)
    refine W.rt (e2 := z6 []) ?_
    refine W.block ?_
    refine W.wk (env' := z6 []) ?_
    refine W.fuel (σ := ((List Int) × Int)) (fun s => z5 [(13, I6 s.2), (2000000, .obj 3 1 (M6 s.1))]) (fun m0 s => sl_symMergeCmpFunc_int_l2 n2 v23 (sl_symMergeCmpFunc_int_j24) m0 s.1 s.2 = some r) (fun s h => ?_) (fun m2 s h hN2 => ?_) fuel (a1, a3) h
    ·obtain ⟨v26, v27⟩ := s
     have h : sl_symMergeCmpFunc_int_l2 n2 v23 (sl_symMergeCmpFunc_int_j24) 0 v26 v27 = some r := h
     rw [sl_symMergeCmpFunc_int_l2.eq_1] at h
     cases h
    ·obtain ⟨v26, v27⟩ := s
     have h : sl_symMergeCmpFunc_int_l2 n2 v23 (sl_symMergeCmpFunc_int_j24) (m2 + 1) v26 v27 = some r := h
     rw [sl_symMergeCmpFunc_int_l2.eq_2] at h
     refine W.seq ?_
     refine W.seq ?_
     let z7 := fun t => z5 ((13, I6 v27) :: t)
     refine W.rt (e2 := z7 [(58, .bool (decide (v27 < (W6 (v23 - 1))))), (2000000, .obj 3 1 (M6 v26))]) ?_
     refine W.cb (decide (v27 < (W6 (v23 - 1)))) (fun hb => ?_) (fun hb => ?_)
     ·replace h := cond_t hb h
      refine W.skip ?_
      refine W.wk (env' := z7 [(2000000, .obj 3 1 (M6 v26))]) ?_
      refine W.seq ?_
      refine W.block ?_
      refine W.rg ?_
      obtain ⟨hc31, h⟩ := chk_some h
      let z8 := fun t => z7 ((61, .sb 2000000 3 1 0 n2) :: (62, I6 v27) :: (63, .sb 2000000 3 1 0 n2) :: (64, I6 v27) :: (65, I6 (W6 (v27 + 1))) :: (66, .sb 2000000 3 1 0 n2) :: (67, I6 v27) :: (68, I6 (W6 (v27 + 1))) :: (69, .pe 2000000 1 (0 + Int.toNat (W6 (v27 + 1))) 0) :: t)
      refine WO.pi 8 (v := .pe 2000000 1 (0 + Int.toNat (W6 (v27 + 1))) 0) hc31 (e1 := z8 [(2000000, .obj 3 1 (M6 v26))]) ?_
      obtain ⟨e32, he32, h⟩ := bind_some h
      let z9 := fun t => z8 ((70, I6 e32) :: t)
      refine WO.pk 0 (match (M6 v26)[(0 + Int.toNat (W6 (v27 + 1)))]? with | some y => cut Tryd.prog 3 (y.cells.map AV.strip) 0 | none => none) (v := I6 e32) ((pe_ld (f := (AV.int .i64)) (G := (fun y => cut Tryd.prog 3 (y.cells.map AV.strip) 0)) he32).trans (by kernel_rfl)) (e1 := z9 [(2000000, .obj 3 1 (M6 v26))]) ?_
      obtain ⟨hc33, h⟩ := chk_some h
      let z10 := fun t => z9 ((71, .sb 2000000 3 1 0 n2) :: (72, I6 v27) :: (73, .pe 2000000 1 (0 + Int.toNat v27) 0) :: t)
      refine WO.pi 2 (v := .pe 2000000 1 (0 + Int.toNat v27) 0) hc33 (e1 := z10 [(2000000, .obj 3 1 (M6 v26))]) ?_
      obtain ⟨e34, he34, h⟩ := bind_some h
      let z11 := fun t => z10 ((74, I6 e34) :: t)
      refine WO.pk 0 (match (M6 v26)[(0 + Int.toNat v27)]? with | some y => cut Tryd.prog 3 (y.cells.map AV.strip) 0 | none => none) (v := I6 e34) ((pe_ld (f := (AV.int .i64)) (G := (fun y => cut Tryd.prog 3 (y.cells.map AV.strip) 0)) he34).trans (by kernel_rfl)) (e1 := z11 [(2000000, .obj 3 1 (M6 v26))]) ?_
      obtain ⟨hc35, h⟩ := chk_some h
      let z12 := fun t => z11 ((75, .pe 2000000 1 (0 + Int.toNat v27) 0) :: t)
      refine WO.pi 0 (v := .pe 2000000 1 (0 + Int.toNat v27) 0) hc35 (e1 := z12 [(2000000, .obj 3 1 (M6 v26))]) ?_
      obtain ⟨u36, hu36, h⟩ := bind_some h
      obtain ⟨y37, hyy37, hzy37⟩ := upd_some hu36
      refine WO.sk 0 (id := 2000000) (e := 3) (s := 1) (off := 0) (vs := [I6 e32]) (AV.int .i64) hyy37 hzy37 (e1 := z12 [(2000000, .obj 3 1 (M6 u36))]) ?_
      obtain ⟨hc38, h⟩ := chk_some h
      let z13 := fun t => z12 ((76, .pe 2000000 1 (0 + Int.toNat (W6 (v27 + 1))) 0) :: t)
      refine WO.pi 0 (v := .pe 2000000 1 (0 + Int.toNat (W6 (v27 + 1))) 0) hc38 (e1 := z13 [(2000000, .obj 3 1 (M6 u36))]) ?_
      obtain ⟨u39, hu39, h⟩ := bind_some h
      obtain ⟨y40, hyy40, hzy40⟩ := upd_some hu39
      refine WO.sk 0 (id := 2000000) (e := 3) (s := 1) (off := 0) (vs := [I6 e34]) (AV.int .i64) hyy40 hzy40 (e1 := z13 [(2000000, .obj 3 1 (M6 u39))]) ?_
      refine WO.fn (e2 := z7 [(2000000, .obj 3 1 (M6 u39))]) ?_
      refine W.rt (e2 := z5 [(13, I6 (W6 (v27 + 1))), (2000000, .obj 3 1 (M6 u39))]) ?_
      exact hN2 (u39, (W6 (v27 + 1))) h
     replace h := cond_f hb h
     refine W.exit ?_
     refine W.wk (env' := [(2000000, .obj 3 1 (M6 v26))]) ?_
     exact hK24 v26 h
   refine W.block ?_
   refine W.wk (env' := z4 []) ?_
   refine W.fuel (σ := (Int × Int)) (fun s => z3 [(10, I6 s.1), (11, I6 s.2), (2000000, .obj 3 1 (M6 a1))]) (fun m0 s => sl_symMergeCmpFunc_int_l1 a1 n2 a3 g6 (sl_symMergeCmpFunc_int_j11 fuel a1 n2 a3) m0 s.1 s.2 = some r) (fun s h => ?_) (fun m1 s h hN1 => ?_) fuel (a4, a5) h
   ·obtain ⟨v12, v13⟩ := s
    have h : sl_symMergeCmpFunc_int_l1 a1 n2 a3 g6 (sl_symMergeCmpFunc_int_j11 fuel a1 n2 a3) 0 v12 v13 = some r := h
    rw [sl_symMergeCmpFunc_int_l1.eq_1] at h
    cases h
   ·obtain ⟨v12, v13⟩ := s
    have h : sl_symMergeCmpFunc_int_l1 a1 n2 a3 g6 (sl_symMergeCmpFunc_int_j11 fuel a1 n2 a3) (m1 + 1) v12 v13 = some r := h
    rw [sl_symMergeCmpFunc_int_l1.eq_2] at h
    refine W.seq ?_
    refine W.seq ?_
    let z14 := fun t => z3 ((10, I6 v12) :: (11, I6 v13) :: t)
    refine W.rt (e2 := z14 [(33, .bool (decide (v12 < v13))), (2000000, .obj 3 1 (M6 a1))]) ?_
    refine W.cb (decide (v12 < v13)) (fun hb => ?_) (fun hb => ?_)
    ·replace h := cond_t hb h
     refine W.skip ?_
     refine W.wk (env' := z14 [(2000000, .obj 3 1 (M6 a1))]) ?_
     refine W.block ?_
     refine W.seq ?_
     let z15 := fun t => z14 ((12, I6 (W6 (iShr .u64 (IntKind.wrap .u64 (W6 (v12 + v13))) 1))) :: t)
     refine W.rt (e2 := z15 [(2000000, .obj 3 1 (M6 a1))]) ?_
     refine W.seq ?_
     refine W.rg ?_
     obtain ⟨hc18, h⟩ := chk_some h
     let z16 := fun t => z15 ((40, .clo F_g6 C_g6) :: (41, .sb 2000000 3 1 0 n2) :: (42, I6 (W6 (iShr .u64 (IntKind.wrap .u64 (W6 (v12 + v13))) 1))) :: (43, .pe 2000000 1 (0 + Int.toNat (W6 (iShr .u64 (IntKind.wrap .u64 (W6 (v12 + v13))) 1))) 0) :: t)
     refine WO.pi 3 (v := .pe 2000000 1 (0 + Int.toNat (W6 (iShr .u64 (IntKind.wrap .u64 (W6 (v12 + v13))) 1))) 0) hc18 (e1 := z16 [(2000000, .obj 3 1 (M6 a1))]) ?_
     obtain ⟨e19, he19, h⟩ := bind_some h
     refine WO.pk 0 (match (M6 a1)[(0 + Int.toNat (W6 (iShr .u64 (IntKind.wrap .u64 (W6 (v12 + v13))) 1)))]? with | some y => cut Tryd.prog 3 (y.cells.map AV.strip) 0 | none => none) (v := I6 e19) ((pe_ld (f := (AV.int .i64)) (G := (fun y => cut Tryd.prog 3 (y.cells.map AV.strip) 0)) he19).trans (by kernel_rfl)) (e1 := z16 [(44, I6 e19), (2000000, .obj 3 1 (M6 a1))]) ?_
     obtain ⟨hc20, h⟩ := chk_some h
     let z17 := fun t => z16 ((44, I6 e19) :: (45, .sb 2000000 3 1 0 n2) :: (46, I6 a3) :: (47, .pe 2000000 1 (0 + Int.toNat a3) 0) :: t)
     refine WO.pi 2 (v := .pe 2000000 1 (0 + Int.toNat a3) 0) hc20 (e1 := z17 [(2000000, .obj 3 1 (M6 a1))]) ?_
     obtain ⟨e21, he21, h⟩ := bind_some h
     refine WO.pk 0 (match (M6 a1)[(0 + Int.toNat a3)]? with | some y => cut Tryd.prog 3 (y.cells.map AV.strip) 0 | none => none) (v := I6 e21) ((pe_ld (f := (AV.int .i64)) (G := (fun y => cut Tryd.prog 3 (y.cells.map AV.strip) 0)) he21).trans (by kernel_rfl)) (e1 := z17 [(48, I6 e21), (2000000, .obj 3 1 (M6 a1))]) ?_
     obtain ⟨w22, hw22, h⟩ := bind_some h
     refine WO.callK 0 (F := F_g6) (l := [I6 e19, I6 e21]) (C := C_g6) (r := I6 w22) (by kernel_rfl) hok_g6 (hrun_g6 e19 e21 w22 hw22) (e1 := z17 [(48, I6 e21), (49, I6 w22), (2000000, .obj 3 1 (M6 a1))]) (by kernel_rfl) ?_
     refine WO.fn (e2 := z15 [(50, .bool (decide (w22 < 0))), (2000000, .obj 3 1 (M6 a1))]) ?_
     refine W.cb (decide (w22 < 0)) (fun hb => ?_) (fun hb => ?_)
     ·replace h := cond_t hb h
      refine W.rt (e2 := z3 [(10, I6 (W6 ((W6 (iShr .u64 (IntKind.wrap .u64 (W6 (v12 + v13))) 1)) + 1))), (11, I6 v13), (2000000, .obj 3 1 (M6 a1))]) ?_
      exact hN1 ((W6 ((W6 (iShr .u64 (IntKind.wrap .u64 (W6 (v12 + v13))) 1)) + 1)), v13) h
     replace h := cond_f hb h
     refine W.rt (e2 := z3 [(10, I6 v12), (11, I6 (W6 (iShr .u64 (IntKind.wrap .u64 (W6 (v12 + v13))) 1))), (2000000, .obj 3 1 (M6 a1))]) ?_
     exact hN1 (v12, (W6 (iShr .u64 (IntKind.wrap .u64 (W6 (v12 + v13))) 1))) h
    replace h := cond_f hb h
    refine W.exit ?_
    refine W.wk (env' := z2 [(10, I6 v12), (2000000, .obj 3 1 (M6 a1))]) ?_
    exact hK11 v12 h
  replace h := cond_f hb h
  refine W.skip ?_
  refine W.wk (env' := z0 [(2000000, .obj 3 1 (M6 a1))]) ?_
  refine W.seq ?_
  refine W.seq ?_
  refine W.rt (e2 := z0 [(80, .bool ((W6 (a5 - a4)) == 1)), (2000000, .obj 3 1 (M6 a1))]) ?_
  refine W.cb ((W6 (a5 - a4)) == 1) (fun hb => ?_) (fun hb => ?_)
  ·replace h := cond_t hb h
   refine W.seq ?_
   let z18 := fun t => EN ((0, .sb 2000000 3 1 0 n2) :: (2, I6 a4) :: (4, .clo F_g6 C_g6) :: t)
   refine W.rt (e2 := z18 [(14, I6 a3), (2000000, .obj 3 1 (M6 a1))]) ?_
   refine W.seq ?_
   let z19 := fun t => z18 ((14, I6 a3) :: (15, I6 a4) :: (2000000, .obj 3 1 (M6 a1)) :: t)
   refine W.rt (e2 := z19 []) ?_
   refine W.seq ?_
   let z20 := fun t => EN ((0, .sb 2000000 3 1 0 n2) :: t)
   let z21 := fun t => z20 ((2, I6 a4) :: t)
   refine W.join (σ := (Int)) (fun s => z21 [(14, I6 s), (2000000, .obj 3 1 (M6 a1))]) (fun s => (sl_symMergeCmpFunc_int_j46 fuel a1 n2 a4) s = some r) (fun s h => ?_) (fun hK46 => ?_)
   ·obtain ⟨v58, rfl⟩ : ∃ x, x = s := ⟨s, rfl⟩
    have h : (sl_symMergeCmpFunc_int_j46 fuel a1 n2 a4) v58 = some r := h
    unfold sl_symMergeCmpFunc_int_j46 at h
    refine W.seq ?_
    refine W.join (σ := ((List Int))) (fun s => [(2000000, .obj 3 1 (M6 s))]) (fun s => (sl_symMergeCmpFunc_int_j59) s = some r) (fun s h => ?_) (fun hK59 => ?_)
    ·obtain ⟨v76, rfl⟩ : ∃ x, x = s := ⟨s, rfl⟩
     have h : (sl_symMergeCmpFunc_int_j59) v76 = some r := h
     unfold sl_symMergeCmpFunc_int_j59 at h
     refine W.wk (env' := [(2000000, .obj 3 1 (M6 v76))]) ?_
     have hr : PostM Tryd.prog Tryd.f67 (.tup []) [(2000000, .obj 3 1 (M6 v76))] .ret [(2000000, .obj 3 1 (M6 v76))] := ⟨by kernel_rfl, by kernel_rfl⟩
     cases h
     exact W.ret hr
    refine W.seq ?_
    let z22 := fun t => z20 ((14, I6 v58) :: t)
    let z23 := fun t => z22 ((17, I6 a4) :: (2000000, .obj 3 1 (M6 a1)) :: t)
    refine W.rt (e2 := z23 []) ?_
    refine W.block ?_
    refine W.wk (env' := z23 []) ?_
    refine W.fuel (σ := ((List Int) × Int)) (fun s => z22 [(17, I6 s.2), (2000000, .obj 3 1 (M6 s.1))]) (fun m0 s => sl_symMergeCmpFunc_int_l4 n2 v58 (sl_symMergeCmpFunc_int_j59) m0 s.1 s.2 = some r) (fun s h => ?_) (fun m4 s h hN4 => ?_) fuel (a1, a4) h
    ·obtain ⟨v61, v62⟩ := s
     have h : sl_symMergeCmpFunc_int_l4 n2 v58 (sl_symMergeCmpFunc_int_j59) 0 v61 v62 = some r := h
     rw [sl_symMergeCmpFunc_int_l4.eq_1] at h
     cases h
    ·obtain ⟨v61, v62⟩ := s
     have h : sl_symMergeCmpFunc_int_l4 n2 v58 (sl_symMergeCmpFunc_int_j59) (m4 + 1) v61 v62 = some r := h
     rw [sl_symMergeCmpFunc_int_l4.eq_2] at h
     refine W.seq ?_
     refine W.seq ?_
     let z24 := fun t => z22 ((17, I6 v62) :: t)
     refine W.rt (e2 := z24 [(110, .bool (decide (v62 > v58))), (2000000, .obj 3 1 (M6 v61))]) ?_
     refine W.cb (decide (v62 > v58)) (fun hb => ?_) (fun hb => ?_)
     ·replace h := cond_t hb h
      refine W.skip ?_
      refine W.wk (env' := z24 [(2000000, .obj 3 1 (M6 v61))]) ?_
      refine W.seq ?_
      refine W.block ?_
      refine W.rg ?_
      obtain ⟨hc66, h⟩ := chk_some h
      let z25 := fun t => z24 ((113, .sb 2000000 3 1 0 n2) :: (114, I6 v62) :: (115, .sb 2000000 3 1 0 n2) :: (116, I6 v62) :: (117, I6 (W6 (v62 - 1))) :: (118, .sb 2000000 3 1 0 n2) :: (119, I6 v62) :: (120, I6 (W6 (v62 - 1))) :: (121, .pe 2000000 1 (0 + Int.toNat (W6 (v62 - 1))) 0) :: t)
      refine WO.pi 8 (v := .pe 2000000 1 (0 + Int.toNat (W6 (v62 - 1))) 0) hc66 (e1 := z25 [(2000000, .obj 3 1 (M6 v61))]) ?_
      obtain ⟨e67, he67, h⟩ := bind_some h
      let z26 := fun t => z25 ((122, I6 e67) :: t)
      refine WO.pk 0 (match (M6 v61)[(0 + Int.toNat (W6 (v62 - 1)))]? with | some y => cut Tryd.prog 3 (y.cells.map AV.strip) 0 | none => none) (v := I6 e67) ((pe_ld (f := (AV.int .i64)) (G := (fun y => cut Tryd.prog 3 (y.cells.map AV.strip) 0)) he67).trans (by kernel_rfl)) (e1 := z26 [(2000000, .obj 3 1 (M6 v61))]) ?_
      obtain ⟨hc68, h⟩ := chk_some h
      let z27 := fun t => z26 ((123, .sb 2000000 3 1 0 n2) :: (124, I6 v62) :: (125, .pe 2000000 1 (0 + Int.toNat v62) 0) :: t)
      refine WO.pi 2 (v := .pe 2000000 1 (0 + Int.toNat v62) 0) hc68 (e1 := z27 [(2000000, .obj 3 1 (M6 v61))]) ?_
      obtain ⟨e69, he69, h⟩ := bind_some h
      let z28 := fun t => z27 ((126, I6 e69) :: t)
      refine WO.pk 0 (match (M6 v61)[(0 + Int.toNat v62)]? with | some y => cut Tryd.prog 3 (y.cells.map AV.strip) 0 | none => none) (v := I6 e69) ((pe_ld (f := (AV.int .i64)) (G := (fun y => cut Tryd.prog 3 (y.cells.map AV.strip) 0)) he69).trans (by kernel_rfl)) (e1 := z28 [(2000000, .obj 3 1 (M6 v61))]) ?_
      obtain ⟨hc70, h⟩ := chk_some h
      let z29 := fun t => z28 ((127, .pe 2000000 1 (0 + Int.toNat v62) 0) :: t)
      refine WO.pi 0 (v := .pe 2000000 1 (0 + Int.toNat v62) 0) hc70 (e1 := z29 [(2000000, .obj 3 1 (M6 v61))]) ?_
      obtain ⟨u71, hu71, h⟩ := bind_some h
      obtain ⟨y72, hyy72, hzy72⟩ := upd_some hu71
      refine WO.sk 0 (id := 2000000) (e := 3) (s := 1) (off := 0) (vs := [I6 e67]) (AV.int .i64) hyy72 hzy72 (e1 := z29 [(2000000, .obj 3 1 (M6 u71))]) ?_
      obtain ⟨hc73, h⟩ := chk_some h
      let z30 := fun t => z29 ((128, .pe 2000000 1 (0 + Int.toNat (W6 (v62 - 1))) 0) :: t)
      refine WO.pi 0 (v := .pe 2000000 1 (0 + Int.toNat (W6 (v62 - 1))) 0) hc73 (e1 := z30 [(2000000, .obj 3 1 (M6 u71))]) ?_
      obtain ⟨u74, hu74, h⟩ := bind_some h
      obtain ⟨y75, hyy75, hzy75⟩ := upd_some hu74
      refine WO.sk 0 (id := 2000000) (e := 3) (s := 1) (off := 0) (vs := [I6 e69]) (AV.int .i64) hyy75 hzy75 (e1 := z30 [(2000000, .obj 3 1 (M6 u74))]) ?_
      refine WO.fn (e2 := z24 [(2000000, .obj 3 1 (M6 u74))]) ?_
      refine W.rt (e2 := z22 [(17, I6 (W6 (v62 - 1))), (2000000, .obj 3 1 (M6 u74))]) ?_
      exact hN4 (u74, (W6 (v62 - 1))) h
     replace h := cond_f hb h
     refine W.exit ?_
     refine W.wk (env' := [(2000000, .obj 3 1 (M6 v61))]) ?_
     exact hK59 v61 h
   refine W.block ?_
   refine W.wk (env' := z19 []) ?_
   refine W.fuel (σ := (Int × Int)) (fun s => z18 [(14, I6 s.1), (15, I6 s.2), (2000000, .obj 3 1 (M6 a1))]) (fun m0 s => sl_symMergeCmpFunc_int_l3 a1 n2 a4 g6 (sl_symMergeCmpFunc_int_j46 fuel a1 n2 a4) m0 s.1 s.2 = some r) (fun s h => ?_) (fun m3 s h hN3 => ?_) fuel (a3, a4) h
   ·obtain ⟨v47, v48⟩ := s
    have h : sl_symMergeCmpFunc_int_l3 a1 n2 a4 g6 (sl_symMergeCmpFunc_int_j46 fuel a1 n2 a4) 0 v47 v48 = some r := h
    rw [sl_symMergeCmpFunc_int_l3.eq_1] at h
    cases h
   ·obtain ⟨v47, v48⟩ := s
    have h : sl_symMergeCmpFunc_int_l3 a1 n2 a4 g6 (sl_symMergeCmpFunc_int_j46 fuel a1 n2 a4) (m3 + 1) v47 v48 = some r := h
    rw [sl_symMergeCmpFunc_int_l3.eq_2] at h
    refine W.seq ?_
    refine W.seq ?_
    let z31 := fun t => z18 ((14, I6 v47) :: (15, I6 v48) :: t)
    refine W.rt (e2 := z31 [(85, .bool (decide (v47 < v48))), (2000000, .obj 3 1 (M6 a1))]) ?_
    refine W.cb (decide (v47 < v48)) (fun hb => ?_) (fun hb => ?_)
    ·replace h := cond_t hb h
     refine W.skip ?_
     refine W.wk (env' := z31 [(2000000, .obj 3 1 (M6 a1))]) ?_
     refine W.block ?_
     refine W.seq ?_
     let z32 := fun t => z31 ((16, I6 (W6 (iShr .u64 (IntKind.wrap .u64 (W6 (v47 + v48))) 1))) :: t)
     refine W.rt (e2 := z32 [(2000000, .obj 3 1 (M6 a1))]) ?_
     refine W.seq ?_
     refine W.rg ?_
     obtain ⟨hc53, h⟩ := chk_some h
     let z33 := fun t => z32 ((92, .clo F_g6 C_g6) :: (93, .sb 2000000 3 1 0 n2) :: (94, I6 a4) :: (95, .pe 2000000 1 (0 + Int.toNat a4) 0) :: t)
     refine WO.pi 3 (v := .pe 2000000 1 (0 + Int.toNat a4) 0) hc53 (e1 := z33 [(2000000, .obj 3 1 (M6 a1))]) ?_
     obtain ⟨e54, he54, h⟩ := bind_some h
     refine WO.pk 0 (match (M6 a1)[(0 + Int.toNat a4)]? with | some y => cut Tryd.prog 3 (y.cells.map AV.strip) 0 | none => none) (v := I6 e54) ((pe_ld (f := (AV.int .i64)) (G := (fun y => cut Tryd.prog 3 (y.cells.map AV.strip) 0)) he54).trans (by kernel_rfl)) (e1 := z33 [(96, I6 e54), (2000000, .obj 3 1 (M6 a1))]) ?_
     obtain ⟨hc55, h⟩ := chk_some h
     let z34 := fun t => z33 ((96, I6 e54) :: (97, .sb 2000000 3 1 0 n2) :: (98, I6 (W6 (iShr .u64 (IntKind.wrap .u64 (W6 (v47 + v48))) 1))) :: (99, .pe 2000000 1 (0 + Int.toNat (W6 (iShr .u64 (IntKind.wrap .u64 (W6 (v47 + v48))) 1))) 0) :: t)
     refine WO.pi 2 (v := .pe 2000000 1 (0 + Int.toNat (W6 (iShr .u64 (IntKind.wrap .u64 (W6 (v47 + v48))) 1))) 0) hc55 (e1 := z34 [(2000000, .obj 3 1 (M6 a1))]) ?_
     obtain ⟨e56, he56, h⟩ := bind_some h
     refine WO.pk 0 (match (M6 a1)[(0 + Int.toNat (W6 (iShr .u64 (IntKind.wrap .u64 (W6 (v47 + v48))) 1)))]? with | some y => cut Tryd.prog 3 (y.cells.map AV.strip) 0 | none => none) (v := I6 e56) ((pe_ld (f := (AV.int .i64)) (G := (fun y => cut Tryd.prog 3 (y.cells.map AV.strip) 0)) he56).trans (by kernel_rfl)) (e1 := z34 [(100, I6 e56), (2000000, .obj 3 1 (M6 a1))]) ?_
     obtain ⟨w57, hw57, h⟩ := bind_some h
     refine WO.callK 0 (F := F_g6) (l := [I6 e54, I6 e56]) (C := C_g6) (r := I6 w57) (by kernel_rfl) hok_g6 (hrun_g6 e54 e56 w57 hw57) (e1 := z34 [(100, I6 e56), (101, I6 w57), (2000000, .obj 3 1 (M6 a1))]) (by kernel_rfl) ?_
     refine WO.fn (e2 := z32 [(103, .bool (!(decide (w57 < 0)))), (2000000, .obj 3 1 (M6 a1))]) ?_
     refine W.cb (!(decide (w57 < 0))) (fun hb => ?_) (fun hb => ?_)
     ·replace h := cond_t hb h
      refine W.rt (e2 := z18 [(14, I6 (W6 ((W6 (iShr .u64 (IntKind.wrap .u64 (W6 (v47 + v48))) 1)) + 1))), (15, I6 v48), (2000000, .obj 3 1 (M6 a1))]) ?_
      exact hN3 ((W6 ((W6 (iShr .u64 (IntKind.wrap .u64 (W6 (v47 + v48))) 1)) + 1)), v48) h
     replace h := cond_f hb h
     refine W.rt (e2 := z18 [(14, I6 v47), (15, I6 (W6 (iShr .u64 (IntKind.wrap .u64 (W6 (v47 + v48))) 1))), (2000000, .obj 3 1 (M6 a1))]) ?_
     exact hN3 (v47, (W6 (iShr .u64 (IntKind.wrap .u64 (W6 (v47 + v48))) 1))) h
    replace h := cond_f hb h
    refine W.exit ?_
    refine W.wk (env' := z21 [(14, I6 v47), (2000000, .obj 3 1 (M6 a1))]) ?_
    exact hK46 v47 h
  replace h := cond_f hb h
  refine W.skip ?_
  refine W.wk (env' := z0 [(2000000, .obj 3 1 (M6 a1))]) ?_
  refine W.seq ?_
  let z35 := fun t => z0 ((18, I6 (W6 (iShr .u64 (IntKind.wrap .u64 (W6 (a3 + a5))) 1))) :: t)
  refine W.rt (e2 := z35 [(2000000, .obj 3 1 (M6 a1))]) ?_
  refine W.seq ?_
  let z36 := fun t => z35 ((19, I6 (W6 ((W6 (iShr .u64 (IntKind.wrap .u64 (W6 (a3 + a5))) 1)) + a4))) :: t)
  refine W.rt (e2 := z36 [(2000000, .obj 3 1 (M6 a1))]) ?_
  refine W.seq ?_
  refine W.rt (e2 := z36 [(2000000, .obj 3 1 (M6 a1))]) ?_
  refine W.seq ?_
  refine W.join (σ := (Int × Int)) (fun s => z36 [(20, I6 s.1), (21, I6 s.2), (2000000, .obj 3 1 (M6 a1))]) (fun s => (sl_symMergeCmpFunc_int_j80 fuel a1 n2 a3 a4 a5 g6 (sl_symMergeCmpFunc_int fuel)) s.1 s.2 = some r) (fun s h => ?_) (fun hK80 => ?_)
  ·obtain ⟨v84, v85⟩ := s
   have h : (sl_symMergeCmpFunc_int_j80 fuel a1 n2 a3 a4 a5 g6 (sl_symMergeCmpFunc_int fuel)) v84 v85 = some r := h
   unfold sl_symMergeCmpFunc_int_j80 at h
   refine W.seq ?_
   let z37 := fun t => z36 ((20, I6 v84) :: (21, I6 v85) :: (22, I6 (W6 ((W6 ((W6 (iShr .u64 (IntKind.wrap .u64 (W6 (a3 + a5))) 1)) + a4)) - 1))) :: (2000000, .obj 3 1 (M6 a1)) :: t)
   refine W.rt (e2 := z37 []) ?_
   refine W.seq ?_
   refine W.join (σ := (Int)) (fun s => z36 [(20, I6 s), (2000000, .obj 3 1 (M6 a1))]) (fun s => (sl_symMergeCmpFunc_int_j87 fuel a1 n2 a3 a4 a5 g6 (sl_symMergeCmpFunc_int fuel)) s = some r) (fun s h => ?_) (fun hK87 => ?_)
   ·obtain ⟨v99, rfl⟩ : ∃ x, x = s := ⟨s, rfl⟩
    have h : (sl_symMergeCmpFunc_int_j87 fuel a1 n2 a3 a4 a5 g6 (sl_symMergeCmpFunc_int fuel)) v99 = some r := h
    unfold sl_symMergeCmpFunc_int_j87 at h
    refine W.seq ?_
    let z38 := fun t => z35 ((20, I6 v99) :: (24, I6 (W6 ((W6 ((W6 (iShr .u64 (IntKind.wrap .u64 (W6 (a3 + a5))) 1)) + a4)) - v99))) :: t)
    refine W.rt (e2 := z38 [(2000000, .obj 3 1 (M6 a1))]) ?_
    refine W.seq ?_
    let z39 := fun t => EN ((0, .sb 2000000 3 1 0 n2) :: (1, I6 a3) :: (3, I6 a5) :: (4, .clo F_g6 C_g6) :: (18, I6 (W6 (iShr .u64 (IntKind.wrap .u64 (W6 (a3 + a5))) 1))) :: (20, I6 v99) :: (24, I6 (W6 ((W6 ((W6 (iShr .u64 (IntKind.wrap .u64 (W6 (a3 + a5))) 1)) + a4)) - v99))) :: t)
    refine W.join (σ := ((List Int))) (fun s => z39 [(2000000, .obj 3 1 (M6 s))]) (fun s => (sl_symMergeCmpFunc_int_j101 n2 a3 a4 a5 g6 v99 (sl_symMergeCmpFunc_int fuel)) s = some r) (fun s h => ?_) (fun hK101 => ?_)
    ·obtain ⟨v105, rfl⟩ : ∃ x, x = s := ⟨s, rfl⟩
     have h : (sl_symMergeCmpFunc_int_j101 n2 a3 a4 a5 g6 v99 (sl_symMergeCmpFunc_int fuel)) v105 = some r := h
     unfold sl_symMergeCmpFunc_int_j101 at h
     refine W.seq ?_
     let z40 := fun t => EN ((0, .sb 2000000 3 1 0 n2) :: (3, I6 a5) :: (4, .clo F_g6 C_g6) :: (18, I6 (W6 (iShr .u64 (IntKind.wrap .u64 (W6 (a3 + a5))) 1))) :: (24, I6 (W6 ((W6 ((W6 (iShr .u64 (IntKind.wrap .u64 (W6 (a3 + a5))) 1)) + a4)) - v99))) :: t)
     refine W.join (σ := ((List Int))) (fun s => z40 [(2000000, .obj 3 1 (M6 s))]) (fun s => (sl_symMergeCmpFunc_int_j106 n2 a3 a4 a5 g6 v99 (sl_symMergeCmpFunc_int fuel)) s = some r) (fun s h => ?_) (fun hK106 => ?_)
     ·obtain ⟨v110, rfl⟩ : ∃ x, x = s := ⟨s, rfl⟩
      have h : (sl_symMergeCmpFunc_int_j106 n2 a3 a4 a5 g6 v99 (sl_symMergeCmpFunc_int fuel)) v110 = some r := h
      unfold sl_symMergeCmpFunc_int_j106 at h
      refine W.seq ?_
      refine W.join (σ := (Bool)) (fun s => z40 [(213, .bool s), (2000000, .obj 3 1 (M6 v110))]) (fun s => (sl_symMergeCmpFunc_int_j111 n2 a3 a4 a5 g6 v99 v110 (sl_symMergeCmpFunc_int fuel)) s = some r) (fun s h => ?_) (fun hK111 => ?_)
      ·obtain ⟨v112, rfl⟩ : ∃ x, x = s := ⟨s, rfl⟩
       have h : (sl_symMergeCmpFunc_int_j111 n2 a3 a4 a5 g6 v99 v110 (sl_symMergeCmpFunc_int fuel)) v112 = some r := h
       unfold sl_symMergeCmpFunc_int_j111 at h
       refine W.cb v112 (fun hb => ?_) (fun hb => ?_)
       ·replace h := cond_t hb h
        refine W.rg ?_
        obtain ⟨w113, hw113, h⟩ := bind_some h
        let z41 := fun t => z40 ((213, .bool v112) :: (214, .sb 2000000 3 1 0 n2) :: (215, I6 (W6 (iShr .u64 (IntKind.wrap .u64 (W6 (a3 + a5))) 1))) :: (216, I6 (W6 ((W6 ((W6 (iShr .u64 (IntKind.wrap .u64 (W6 (a3 + a5))) 1)) + a4)) - v99))) :: (217, I6 a5) :: (218, .clo F_g6 C_g6) :: (219, .tup []) :: (2000000, .obj 3 1 (M6 w113)) :: t)
        refine WO.cm 5 [(2000000, 2000000)] [] (F := 67) (args := [.sb 2000000 3 1 0 n2, I6 (W6 (iShr .u64 (IntKind.wrap .u64 (W6 (a3 + a5))) 1)), I6 (W6 ((W6 ((W6 (iShr .u64 (IntKind.wrap .u64 (W6 (a3 + a5))) 1)) + a4)) - v99)), I6 a5, .clo F_g6 C_g6]) (hp := [(2000000, .obj 3 1 (M6 v110))]) (hp2 := [(2000000, .obj 3 1 (M6 w113))]) (r := .tup []) (ih v110 n2 (W6 (iShr .u64 (IntKind.wrap .u64 (W6 (a3 + a5))) 1)) (W6 ((W6 ((W6 (iShr .u64 (IntKind.wrap .u64 (W6 (a3 + a5))) 1)) + a4)) - v99)) a5 g6 F_g6 C_g6 hok_g6 hrun_g6 w113 hw113) (e1 := z41 []) ?_
        refine WO.end0 (e2 := z41 []) (by kernel_rfl) ?_
        have hr : PostM Tryd.prog Tryd.f67 (.tup []) [(2000000, .obj 3 1 (M6 w113))] .normal (z41 []) := ⟨by kernel_rfl, by kernel_rfl⟩
        cases h
        exact hr
       replace h := cond_f hb h
       have hr : PostM Tryd.prog Tryd.f67 (.tup []) [(2000000, .obj 3 1 (M6 v110))] .normal (z40 [(213, .bool v112), (2000000, .obj 3 1 (M6 v110))]) := ⟨by kernel_rfl, by kernel_rfl⟩
       cases h
       exact W.skip hr
      refine W.rg ?_
      refine WO.bk 4 (fun b => z40 [(206, I6 (W6 (iShr .u64 (IntKind.wrap .u64 (W6 (a3 + a5))) 1))), (207, I6 (W6 ((W6 ((W6 (iShr .u64 (IntKind.wrap .u64 (W6 (a3 + a5))) 1)) + a4)) - v99))), (208, .bool b), (209, .bool b), (2000000, .obj 3 1 (M6 v110))]) (decide ((W6 (iShr .u64 (IntKind.wrap .u64 (W6 (a3 + a5))) 1)) < (W6 ((W6 ((W6 (iShr .u64 (IntKind.wrap .u64 (W6 (a3 + a5))) 1)) + a4)) - v99)))) (fun hb => ?_) (fun hb => ?_)
      ·replace h := cond_t hb h
       refine WO.fn (e2 := z40 [(213, .bool (decide ((W6 ((W6 ((W6 (iShr .u64 (IntKind.wrap .u64 (W6 (a3 + a5))) 1)) + a4)) - v99)) < a5))), (2000000, .obj 3 1 (M6 v110))]) ?_
       exact hK111 (decide ((W6 ((W6 ((W6 (iShr .u64 (IntKind.wrap .u64 (W6 (a3 + a5))) 1)) + a4)) - v99)) < a5)) h
      replace h := cond_f hb h
      refine WO.fn (e2 := z40 [(213, .bool false), (2000000, .obj 3 1 (M6 v110))]) ?_
      exact hK111 false h
     refine W.seq ?_
     refine W.join (σ := (Bool)) (fun s => z39 [(199, .bool s), (2000000, .obj 3 1 (M6 v105))]) (fun s => (sl_symMergeCmpFunc_int_j107 n2 a3 a5 g6 v99 v105 (sl_symMergeCmpFunc_int fuel) (sl_symMergeCmpFunc_int_j106 n2 a3 a4 a5 g6 v99 (sl_symMergeCmpFunc_int fuel))) s = some r) (fun s h => ?_) (fun hK107 => ?_)
     ·obtain ⟨v108, rfl⟩ : ∃ x, x = s := ⟨s, rfl⟩
      have h : (sl_symMergeCmpFunc_int_j107 n2 a3 a5 g6 v99 v105 (sl_symMergeCmpFunc_int fuel) (sl_symMergeCmpFunc_int_j106 n2 a3 a4 a5 g6 v99 (sl_symMergeCmpFunc_int fuel))) v108 = some r := h
      unfold sl_symMergeCmpFunc_int_j107 at h
      refine W.cb v108 (fun hb => ?_) (fun hb => ?_)
      ·replace h := cond_t hb h
       refine W.rg ?_
       obtain ⟨w109, hw109, h⟩ := bind_some h
       refine WO.cm 5 [(2000000, 2000000)] [] (F := 67) (args := [.sb 2000000 3 1 0 n2, I6 a3, I6 v99, I6 (W6 (iShr .u64 (IntKind.wrap .u64 (W6 (a3 + a5))) 1)), .clo F_g6 C_g6]) (hp := [(2000000, .obj 3 1 (M6 v105))]) (hp2 := [(2000000, .obj 3 1 (M6 w109))]) (r := .tup []) (ih v105 n2 a3 v99 (W6 (iShr .u64 (IntKind.wrap .u64 (W6 (a3 + a5))) 1)) g6 F_g6 C_g6 hok_g6 hrun_g6 w109 hw109) (e1 := z39 [(199, .bool v108), (200, .sb 2000000 3 1 0 n2), (201, I6 a3), (202, I6 v99), (203, I6 (W6 (iShr .u64 (IntKind.wrap .u64 (W6 (a3 + a5))) 1))), (204, .clo F_g6 C_g6), (205, .tup []), (2000000, .obj 3 1 (M6 w109))]) ?_
       refine WO.fn (e2 := z40 [(2000000, .obj 3 1 (M6 w109))]) ?_
       exact hK106 w109 h
      replace h := cond_f hb h
      refine W.skip ?_
      refine W.wk (env' := z40 [(2000000, .obj 3 1 (M6 v105))]) ?_
      exact hK106 v105 h
     refine W.rg ?_
     refine WO.bk 4 (fun b => z39 [(192, I6 a3), (193, I6 v99), (194, .bool b), (195, .bool b), (2000000, .obj 3 1 (M6 v105))]) (decide (a3 < v99)) (fun hb => ?_) (fun hb => ?_)
     ·replace h := cond_t hb h
      refine WO.fn (e2 := z39 [(199, .bool (decide (v99 < (W6 (iShr .u64 (IntKind.wrap .u64 (W6 (a3 + a5))) 1))))), (2000000, .obj 3 1 (M6 v105))]) ?_
      exact hK107 (decide (v99 < (W6 (iShr .u64 (IntKind.wrap .u64 (W6 (a3 + a5))) 1)))) h
     replace h := cond_f hb h
     refine WO.fn (e2 := z39 [(199, .bool false), (2000000, .obj 3 1 (M6 v105))]) ?_
     exact hK107 false h
    refine W.seq ?_
    refine W.join (σ := (Bool)) (fun s => z38 [(185, .bool s), (2000000, .obj 3 1 (M6 a1))]) (fun s => (sl_symMergeCmpFunc_int_j102 fuel a1 n2 a3 a4 a5 g6 v99 (sl_symMergeCmpFunc_int_j101 n2 a3 a4 a5 g6 v99 (sl_symMergeCmpFunc_int fuel))) s = some r) (fun s h => ?_) (fun hK102 => ?_)
    ·obtain ⟨v103, rfl⟩ : ∃ x, x = s := ⟨s, rfl⟩
     have h : (sl_symMergeCmpFunc_int_j102 fuel a1 n2 a3 a4 a5 g6 v99 (sl_symMergeCmpFunc_int_j101 n2 a3 a4 a5 g6 v99 (sl_symMergeCmpFunc_int fuel))) v103 = some r := h
     unfold sl_symMergeCmpFunc_int_j102 at h
     refine W.cb v103 (fun hb => ?_) (fun hb => ?_)
     ·replace h := cond_t hb h
      refine W.rg ?_
      obtain ⟨w104, hw104, h⟩ := bind_some h
      refine WO.cm 5 [(2000000, 2000000)] [] (F := 91) (args := [.sb 2000000 3 1 0 n2, I6 v99, I6 a4, I6 (W6 ((W6 ((W6 (iShr .u64 (IntKind.wrap .u64 (W6 (a3 + a5))) 1)) + a4)) - v99)), .clo F_g6 C_g6]) (hp := [(2000000, .obj 3 1 (M6 a1))]) (hp2 := [(2000000, .obj 3 1 (M6 w104))]) (r := .tup []) (run_sl_rotateCmpFunc_int fuel a1 n2 v99 a4 (W6 ((W6 ((W6 (iShr .u64 (IntKind.wrap .u64 (W6 (a3 + a5))) 1)) + a4)) - v99)) g6 F_g6 C_g6 hok_g6 hrun_g6 w104 hw104) (e1 := z38 [(185, .bool v103), (186, .sb 2000000 3 1 0 n2), (187, I6 v99), (188, I6 a4), (189, I6 (W6 ((W6 ((W6 (iShr .u64 (IntKind.wrap .u64 (W6 (a3 + a5))) 1)) + a4)) - v99))), (190, .clo F_g6 C_g6), (191, .tup []), (2000000, .obj 3 1 (M6 w104))]) ?_
      refine WO.fn (e2 := z39 [(2000000, .obj 3 1 (M6 w104))]) ?_
      exact hK101 w104 h
     replace h := cond_f hb h
     refine W.skip ?_
     refine W.wk (env' := z39 [(2000000, .obj 3 1 (M6 a1))]) ?_
     exact hK101 a1 h
    refine W.rg ?_
    refine WO.bk 4 (fun b => z38 [(178, I6 v99), (179, I6 a4), (180, .bool b), (181, .bool b), (2000000, .obj 3 1 (M6 a1))]) (decide (v99 < a4)) (fun hb => ?_) (fun hb => ?_)
    ·replace h := cond_t hb h
     refine WO.fn (e2 := z38 [(185, .bool (decide (a4 < (W6 ((W6 ((W6 (iShr .u64 (IntKind.wrap .u64 (W6 (a3 + a5))) 1)) + a4)) - v99))))), (2000000, .obj 3 1 (M6 a1))]) ?_
     exact hK102 (decide (a4 < (W6 ((W6 ((W6 (iShr .u64 (IntKind.wrap .u64 (W6 (a3 + a5))) 1)) + a4)) - v99)))) h
    replace h := cond_f hb h
    refine WO.fn (e2 := z38 [(185, .bool false), (2000000, .obj 3 1 (M6 a1))]) ?_
    exact hK102 false h
   refine W.block ?_
   refine W.wk (env' := z37 []) ?_
   refine W.fuel (σ := (Int × Int)) (fun s => z36 [(20, I6 s.1), (21, I6 s.2), (22, I6 (W6 ((W6 ((W6 (iShr .u64 (IntKind.wrap .u64 (W6 (a3 + a5))) 1)) + a4)) - 1))), (2000000, .obj 3 1 (M6 a1))]) (fun m0 s => sl_symMergeCmpFunc_int_l5 a1 n2 a3 a4 a5 g6 (sl_symMergeCmpFunc_int_j87 fuel a1 n2 a3 a4 a5 g6 (sl_symMergeCmpFunc_int fuel)) m0 s.1 s.2 = some r) (fun s h => ?_) (fun m5 s h hN5 => ?_) fuel (v84, v85) h
   ·obtain ⟨v88, v89⟩ := s
    have h : sl_symMergeCmpFunc_int_l5 a1 n2 a3 a4 a5 g6 (sl_symMergeCmpFunc_int_j87 fuel a1 n2 a3 a4 a5 g6 (sl_symMergeCmpFunc_int fuel)) 0 v88 v89 = some r := h
    rw [sl_symMergeCmpFunc_int_l5.eq_1] at h
    cases h
   ·obtain ⟨v88, v89⟩ := s
    have h : sl_symMergeCmpFunc_int_l5 a1 n2 a3 a4 a5 g6 (sl_symMergeCmpFunc_int_j87 fuel a1 n2 a3 a4 a5 g6 (sl_symMergeCmpFunc_int fuel)) (m5 + 1) v88 v89 = some r := h
    rw [sl_symMergeCmpFunc_int_l5.eq_2] at h
    refine W.seq ?_
    refine W.seq ?_
    let z42 := fun t => z36 ((20, I6 v88) :: (21, I6 v89) :: (22, I6 (W6 ((W6 ((W6 (iShr .u64 (IntKind.wrap .u64 (W6 (a3 + a5))) 1)) + a4)) - 1))) :: t)
    refine W.rt (e2 := z42 [(151, .bool (decide (v88 < v89))), (2000000, .obj 3 1 (M6 a1))]) ?_
    refine W.cb (decide (v88 < v89)) (fun hb => ?_) (fun hb => ?_)
    ·replace h := cond_t hb h
     refine W.skip ?_
     refine W.wk (env' := z42 [(2000000, .obj 3 1 (M6 a1))]) ?_
     refine W.block ?_
     refine W.seq ?_
     let z43 := fun t => z42 ((23, I6 (W6 (iShr .u64 (IntKind.wrap .u64 (W6 (v88 + v89))) 1))) :: t)
     refine W.rt (e2 := z43 [(2000000, .obj 3 1 (M6 a1))]) ?_
     refine W.seq ?_
     refine W.rg ?_
     obtain ⟨hc94, h⟩ := chk_some h
     let z44 := fun t => z43 ((158, .clo F_g6 C_g6) :: (159, .sb 2000000 3 1 0 n2) :: (160, I6 (W6 ((W6 ((W6 (iShr .u64 (IntKind.wrap .u64 (W6 (a3 + a5))) 1)) + a4)) - 1))) :: (161, I6 (W6 (iShr .u64 (IntKind.wrap .u64 (W6 (v88 + v89))) 1))) :: (162, I6 (W6 ((W6 ((W6 ((W6 (iShr .u64 (IntKind.wrap .u64 (W6 (a3 + a5))) 1)) + a4)) - 1)) - (W6 (iShr .u64 (IntKind.wrap .u64 (W6 (v88 + v89))) 1))))) :: (163, .pe 2000000 1 (0 + Int.toNat (W6 ((W6 ((W6 ((W6 (iShr .u64 (IntKind.wrap .u64 (W6 (a3 + a5))) 1)) + a4)) - 1)) - (W6 (iShr .u64 (IntKind.wrap .u64 (W6 (v88 + v89))) 1))))) 0) :: t)
     refine WO.pi 5 (v := .pe 2000000 1 (0 + Int.toNat (W6 ((W6 ((W6 ((W6 (iShr .u64 (IntKind.wrap .u64 (W6 (a3 + a5))) 1)) + a4)) - 1)) - (W6 (iShr .u64 (IntKind.wrap .u64 (W6 (v88 + v89))) 1))))) 0) hc94 (e1 := z44 [(2000000, .obj 3 1 (M6 a1))]) ?_
     obtain ⟨e95, he95, h⟩ := bind_some h
     let z45 := fun t => z44 ((164, I6 e95) :: t)
     refine WO.pk 0 (match (M6 a1)[(0 + Int.toNat (W6 ((W6 ((W6 ((W6 (iShr .u64 (IntKind.wrap .u64 (W6 (a3 + a5))) 1)) + a4)) - 1)) - (W6 (iShr .u64 (IntKind.wrap .u64 (W6 (v88 + v89))) 1)))))]? with | some y => cut Tryd.prog 3 (y.cells.map AV.strip) 0 | none => none) (v := I6 e95) ((pe_ld (f := (AV.int .i64)) (G := (fun y => cut Tryd.prog 3 (y.cells.map AV.strip) 0)) he95).trans (by kernel_rfl)) (e1 := z45 [(2000000, .obj 3 1 (M6 a1))]) ?_
     obtain ⟨hc96, h⟩ := chk_some h
     let z46 := fun t => z45 ((165, .sb 2000000 3 1 0 n2) :: (166, I6 (W6 (iShr .u64 (IntKind.wrap .u64 (W6 (v88 + v89))) 1))) :: (167, .pe 2000000 1 (0 + Int.toNat (W6 (iShr .u64 (IntKind.wrap .u64 (W6 (v88 + v89))) 1))) 0) :: t)
     refine WO.pi 2 (v := .pe 2000000 1 (0 + Int.toNat (W6 (iShr .u64 (IntKind.wrap .u64 (W6 (v88 + v89))) 1))) 0) hc96 (e1 := z46 [(2000000, .obj 3 1 (M6 a1))]) ?_
     obtain ⟨e97, he97, h⟩ := bind_some h
     refine WO.pk 0 (match (M6 a1)[(0 + Int.toNat (W6 (iShr .u64 (IntKind.wrap .u64 (W6 (v88 + v89))) 1)))]? with | some y => cut Tryd.prog 3 (y.cells.map AV.strip) 0 | none => none) (v := I6 e97) ((pe_ld (f := (AV.int .i64)) (G := (fun y => cut Tryd.prog 3 (y.cells.map AV.strip) 0)) he97).trans (by kernel_rfl)) (e1 := z46 [(168, I6 e97), (2000000, .obj 3 1 (M6 a1))]) ?_
     obtain ⟨w98, hw98, h⟩ := bind_some h
     refine WO.callK 0 (F := F_g6) (l := [I6 e95, I6 e97]) (C := C_g6) (r := I6 w98) (by kernel_rfl) hok_g6 (hrun_g6 e95 e97 w98 hw98) (e1 := z46 [(168, I6 e97), (169, I6 w98), (2000000, .obj 3 1 (M6 a1))]) (by kernel_rfl) ?_
     refine WO.fn (e2 := z43 [(171, .bool (!(decide (w98 < 0)))), (2000000, .obj 3 1 (M6 a1))]) ?_
     refine W.cb (!(decide (w98 < 0))) (fun hb => ?_) (fun hb => ?_)
     ·replace h := cond_t hb h
      refine W.rt (e2 := z36 [(20, I6 (W6 ((W6 (iShr .u64 (IntKind.wrap .u64 (W6 (v88 + v89))) 1)) + 1))), (21, I6 v89), (22, I6 (W6 ((W6 ((W6 (iShr .u64 (IntKind.wrap .u64 (W6 (a3 + a5))) 1)) + a4)) - 1))), (2000000, .obj 3 1 (M6 a1))]) ?_
      exact hN5 ((W6 ((W6 (iShr .u64 (IntKind.wrap .u64 (W6 (v88 + v89))) 1)) + 1)), v89) h
     replace h := cond_f hb h
     refine W.rt (e2 := z36 [(20, I6 v88), (21, I6 (W6 (iShr .u64 (IntKind.wrap .u64 (W6 (v88 + v89))) 1))), (22, I6 (W6 ((W6 ((W6 (iShr .u64 (IntKind.wrap .u64 (W6 (a3 + a5))) 1)) + a4)) - 1))), (2000000, .obj 3 1 (M6 a1))]) ?_
     exact hN5 (v88, (W6 (iShr .u64 (IntKind.wrap .u64 (W6 (v88 + v89))) 1))) h
    replace h := cond_f hb h
    refine W.exit ?_
    refine W.wk (env' := z36 [(20, I6 v88), (2000000, .obj 3 1 (M6 a1))]) ?_
    exact hK87 v88 h
  refine W.seq ?_
  refine W.rt (e2 := z36 [(140, .bool (decide (a4 > (W6 (iShr .u64 (IntKind.wrap .u64 (W6 (a3 + a5))) 1))))), (2000000, .obj 3 1 (M6 a1))]) ?_
  refine W.cb (decide (a4 > (W6 (iShr .u64 (IntKind.wrap .u64 (W6 (a3 + a5))) 1)))) (fun hb => ?_) (fun hb => ?_)
  ·replace h := cond_t hb h
   refine W.seq ?_
   let z47 := fun t => z36 ((20, I6 (W6 ((W6 ((W6 (iShr .u64 (IntKind.wrap .u64 (W6 (a3 + a5))) 1)) + a4)) - a5))) :: t)
   refine W.rt (e2 := z47 [(2000000, .obj 3 1 (M6 a1))]) ?_
   refine W.rt (e2 := z47 [(21, I6 (W6 (iShr .u64 (IntKind.wrap .u64 (W6 (a3 + a5))) 1))), (2000000, .obj 3 1 (M6 a1))]) ?_
   exact hK80 ((W6 ((W6 ((W6 (iShr .u64 (IntKind.wrap .u64 (W6 (a3 + a5))) 1)) + a4)) - a5)), (W6 (iShr .u64 (IntKind.wrap .u64 (W6 (a3 + a5))) 1))) h
  replace h := cond_f hb h
  refine W.seq ?_
  refine W.rt (e2 := z36 [(20, I6 a3), (2000000, .obj 3 1 (M6 a1))]) ?_
  refine W.rt (e2 := z36 [(20, I6 a3), (21, I6 a4), (2000000, .obj 3 1 (M6 a1))]) ?_
  exact hK80 (a3, a4) h
end Go.AM
