/- s -/
import Derived.Test.YtdghpfejmlpjhaaRXT
set_option maxRecDepth 100000
set_option linter.unusedVariables false
set_option linter.unusedSimpArgs false
namespace Go.AM
open Go.Proofs
def jw:Option Int :=
 (some (-1))
def qT (g2:(ruRule→Option Bool)) (K4:(Option Int)):List ruRule→Nat→Option Int
 | [],k1=>K4
 | x1::r1,k1=>((g2 x1).bind fun w9=>(bif w9 then (some (k1:Int)) else (qT g2 K4 r1 (k1+1))))
def Xb (a1:(List ruRule)) (g2:(ruRule→Option Bool)):Option Int :=
 (chk (lenOk a1) (qT g2 (jw) a1 0))
theorem Ve (a1:(List ruRule)) (g2:(ruRule→Option Bool)) (F_g2:Nat) (C_g2:List AV) (hok_g2:okFn Try.prog F_g2=true) (hrun_g2:∀ (x0:ruRule) r,g2 x0=some r→Run Try.prog (.call F_g2 ([.agg [I6 x0.qf.qb,l3 none x0.qf.qa,l56 none x0.qc]]++C_g2) (.bool r))) (r:Int) (h:Xb a1 g2=some r):Run Try.prog (.call 119 [l54 none a1,.clo F_g2 C_g2] (I6 r)):=by
 refine cW Try.func119 rfl (env0:=[(0,l54 none a1),(1,.clo F_g2 C_g2)]) ?_;unfold Xb at h;refine W.seq ?_
 let z0:=fun t=>EN ((0,l54 none a1)::(1,.clo F_g2 C_g2)::t)
 refine W.rt (e2:=z0 []) ?_;refine W.seq ?_;refine W.join (σ:=Unit) (fun s=>[]) (fun s=>(jw)=some r) (fun s h=>?_) (fun hK4=>?_)
 ·have h:(jw)=some r:=h;unfold jw at h;refine W.seq ?_;refine W.rt (e2:=[(4,I6 (-1))]) ?_;refine W.wk (env':=[(4,I6 (-1))]) ?_;cases h;exact W.ret (show qi _ _ _=some _ by kernel_rfl)
 refine W.seq ?_;refine W.rg ?_;refine WO.pk 1 (some (I6 ((List.map Jq a1).length:Int))) (v:=I6 (a1.length:Int)) (by rw[List.length_map]) (e1:=z0 [(6,l54 none a1),(7,I6 (a1.length:Int))]) ?_
 let z1:=fun t=>z0 ((7,I6 (a1.length:Int))::t)
 refine WO.fn (e2:=z1 [(8,.int .i64 0)]) ?_;refine W.block ?_;obtain⟨hl1,h⟩:=qg h;refine W.wk (env':=z1 [(8,I6 ((0:Nat):Int))]) ?_;refine W.range (σ:=Unit) a1 (fun k1 s=>z1 [(8,I6 (k1:Int))]) (fun r0 k0 s=>qT g2 (jw) r0 k0=some r) (fun s h=>?_) (fun x1 r1 k1 s hx1 hk1 h hN1=>?_) () h
 ·have h:qT g2 (jw) [] (a1).length=some r:=h;rw[qT.eq_1]at h;refine W.seq ?_;refine W.rg ?_
  let z2:=fun t=>z1 ((8,I6 ((a1).length:Int))::(9,.bool false)::t)
  refine WO.pk 0 (some (.bool (decide (((a1).length:Int)<(a1.length:Int))))) (v:=.bool false) (by rw[qM (l:=a1)]) (e1:=z2 []) ?_;refine WO.fn (e2:=z2 []) ?_;refine W.seq ?_;refine W.cb false (fun h=>Bool.noConfusion h) (fun _=>?_);refine W.exit ?_;refine W.wk (env':=[]) ?_;exact hK4 () h
 ·have h:qT g2 (jw) (x1::r1) k1=some r:=h;rw[qT.eq_2]at h;refine W.seq ?_;refine W.rg ?_
  let z3:=fun t=>z1 ((8,I6 (k1:Int))::t)
  refine WO.pk 0 (some (.bool (decide ((k1:Int)<(a1.length:Int))))) (v:=.bool true) (by rw[qY hk1]) (e1:=z3 [(9,.bool true)]) ?_;refine WO.fn (e2:=z3 [(9,.bool true)]) ?_;refine W.seq ?_;refine W.cb true (fun _=>?_) (fun h=>Bool.noConfusion h);refine W.skip ?_;refine W.wk (env':=z3 []) ?_;refine W.seq ?_;refine W.block ?_;refine W.seq ?_
  let z4:=fun t=>z0 ((5,I6 (k1:Int))::(7,I6 (a1.length:Int))::(8,I6 (k1:Int))::t)
  refine W.rt (e2:=z4 []) ?_;refine W.seq ?_;refine W.rg ?_
  let z5:=fun t=>z4 ((11,.clo F_g2 C_g2)::(12,l54 none a1)::(13,I6 (k1:Int))::(14,.ptr (.agg [I6 x1.qf.qb,l3 none x1.qf.qa,l56 none x1.qc]))::t)
  refine WO.pk 3 (if (0:Int)≤(k1:Int) then ((List.map Jq a1)[Int.toNat (k1:Int)]?).map AV.ptr else none) (v:=.ptr (.agg [I6 x1.qf.qb,l3 none x1.qf.qa,l56 none x1.qc])) (qZ (f:=Jq) hx1) (e1:=z5 []) ?_;obtain⟨w9,hw9,h⟩:=qe h;refine WO.callK 1 (F:=F_g2) (l:=[.agg [I6 x1.qf.qb,l3 none x1.qf.qa,l56 none x1.qc]]) (C:=C_g2) (r:=.bool w9) (by kernel_rfl) hok_g2 (hrun_g2 x1 w9 hw9) (e1:=z5 [(15,.agg [I6 x1.qf.qb,l3 none x1.qf.qa,l56 none x1.qc]),(16,.bool w9)]) (by kernel_rfl) ?_;refine WO.fn (e2:=z4 [(16,.bool w9)]) ?_;refine W.cb w9 (fun hb=>?_) (fun hb=>?_)
  ·replace h:=qo hb h;refine W.seq ?_;refine W.rt (e2:=[(4,I6 (k1:Int))]) ?_;refine W.wk (env':=[(4,I6 (k1:Int))]) ?_;cases h;exact W.ret (show qi _ _ _=some _ by kernel_rfl)
  replace h:=qp hb h;refine W.skip ?_;refine W.wk (env':=z3 []) ?_;refine W.rg ?_;refine WO.pk 0 (some (I6 (IntKind.wrap .i64 ((k1:Int)+1)))) (v:=I6 ((k1+1:Nat):Int)) (by rw[qC hl1 hk1]) (e1:=z3 [(18,I6 ((k1+1:Nat):Int))]) ?_;refine WO.fn (e2:=z1 [(8,I6 ((k1+1:Nat):Int))]) ?_;exact hN1 () h
def JK (a1:(List ruRule)) (g2:(ruRule→Option Bool)):Option Bool :=
 ((Xb a1 g2).bind fun w5=>(some (decide (w5 ≥ 0))))
theorem Zu (a1:(List ruRule)) (g2:(ruRule→Option Bool)) (F_g2:Nat) (C_g2:List AV) (hok_g2:okFn Try.prog F_g2=true) (hrun_g2:∀ (x0:ruRule) r,g2 x0=some r→Run Try.prog (.call F_g2 ([.agg [I6 x0.qf.qb,l3 none x0.qf.qa,l56 none x0.qc]]++C_g2) (.bool r))) (r:Bool) (h:JK a1 g2=some r):Run Try.prog (.call 76 [l54 none a1,.clo F_g2 C_g2] (.bool r)):=by
 refine cW Try.func76 rfl (env0:=[(0,l54 none a1),(1,.clo F_g2 C_g2)]) ?_;unfold JK at h;refine W.seq ?_;refine W.rt (e2:=[(0,l54 none a1),(1,.clo F_g2 C_g2)]) ?_;refine W.seq ?_;refine W.rg ?_;obtain⟨w5,hw5,h⟩:=qe h;refine WO.ck 2 (F:=119) (l:=[l54 none a1,.clo F_g2 C_g2]) (C:=[]) (r:=I6 w5) (Ve a1 g2 F_g2 C_g2 hok_g2 hrun_g2 w5 hw5) (e1:=[(0,l54 none a1),(1,.clo F_g2 C_g2),(5,l54 none a1),(6,.clo F_g2 C_g2),(7,I6 w5)]) ?_;refine WO.fn (e2:=[(4,.bool (decide (w5 ≥ 0)))]) ?_;refine W.wk (env':=[(4,.bool (decide (w5 ≥ 0)))]) ?_;cases h;exact W.ret (show qi _ _ _=some _ by kernel_rfl)
def jA:Option Int :=
 (some (-1))
def ja (g2:(ruLit→Option Bool)) (K4:(Option Int)):List ruLit→Nat→Option Int
 | [],k1=>K4
 | x1::r1,k1=>((g2 x1).bind fun w9=>(bif w9 then (some (k1:Int)) else (ja g2 K4 r1 (k1+1))))
def Xf (a1:(List ruLit)) (g2:(ruLit→Option Bool)):Option Int :=
 (chk (lenOk a1) (ja g2 (jA) a1 0))
theorem Vw (a1:(List ruLit)) (g2:(ruLit→Option Bool)) (F_g2:Nat) (C_g2:List AV) (hok_g2:okFn Try.prog F_g2=true) (hrun_g2:∀ (x0:ruLit) r,g2 x0=some r→Run Try.prog (.call F_g2 ([.agg [.bool x0.qr,I6 x0.qd.qb,l3 none x0.qd.qa]]++C_g2) (.bool r))) (r:Int) (h:Xf a1 g2=some r):Run Try.prog (.call 120 [l56 none a1,.clo F_g2 C_g2] (I6 r)):=by
 refine cW Try.func120 rfl (env0:=[(0,l56 none a1),(1,.clo F_g2 C_g2)]) ?_;unfold Xf at h;refine W.seq ?_
 let z0:=fun t=>EN ((0,l56 none a1)::(1,.clo F_g2 C_g2)::t)
 refine W.rt (e2:=z0 []) ?_;refine W.seq ?_;refine W.join (σ:=Unit) (fun s=>[]) (fun s=>(jA)=some r) (fun s h=>?_) (fun hK4=>?_)
 ·have h:(jA)=some r:=h;unfold jA at h;refine W.seq ?_;refine W.rt (e2:=[(4,I6 (-1))]) ?_;refine W.wk (env':=[(4,I6 (-1))]) ?_;cases h;exact W.ret (show qi _ _ _=some _ by kernel_rfl)
 refine W.seq ?_;refine W.rg ?_;refine WO.pk 1 (some (I6 ((List.map QL a1).length:Int))) (v:=I6 (a1.length:Int)) (by rw[List.length_map]) (e1:=z0 [(6,l56 none a1),(7,I6 (a1.length:Int))]) ?_
 let z1:=fun t=>z0 ((7,I6 (a1.length:Int))::t)
 refine WO.fn (e2:=z1 [(8,.int .i64 0)]) ?_;refine W.block ?_;obtain⟨hl1,h⟩:=qg h;refine W.wk (env':=z1 [(8,I6 ((0:Nat):Int))]) ?_;refine W.range (σ:=Unit) a1 (fun k1 s=>z1 [(8,I6 (k1:Int))]) (fun r0 k0 s=>ja g2 (jA) r0 k0=some r) (fun s h=>?_) (fun x1 r1 k1 s hx1 hk1 h hN1=>?_) () h
 ·have h:ja g2 (jA) [] (a1).length=some r:=h;rw[ja.eq_1]at h;refine W.seq ?_;refine W.rg ?_
  let z2:=fun t=>z1 ((8,I6 ((a1).length:Int))::(9,.bool false)::t)
  refine WO.pk 0 (some (.bool (decide (((a1).length:Int)<(a1.length:Int))))) (v:=.bool false) (by rw[qM (l:=a1)]) (e1:=z2 []) ?_;refine WO.fn (e2:=z2 []) ?_;refine W.seq ?_;refine W.cb false (fun h=>Bool.noConfusion h) (fun _=>?_);refine W.exit ?_;refine W.wk (env':=[]) ?_;exact hK4 () h
 ·have h:ja g2 (jA) (x1::r1) k1=some r:=h;rw[ja.eq_2]at h;refine W.seq ?_;refine W.rg ?_
  let z3:=fun t=>z1 ((8,I6 (k1:Int))::t)
  refine WO.pk 0 (some (.bool (decide ((k1:Int)<(a1.length:Int))))) (v:=.bool true) (by rw[qY hk1]) (e1:=z3 [(9,.bool true)]) ?_;refine WO.fn (e2:=z3 [(9,.bool true)]) ?_;refine W.seq ?_;refine W.cb true (fun _=>?_) (fun h=>Bool.noConfusion h);refine W.skip ?_;refine W.wk (env':=z3 []) ?_;refine W.seq ?_;refine W.block ?_;refine W.seq ?_
  let z4:=fun t=>z0 ((5,I6 (k1:Int))::(7,I6 (a1.length:Int))::(8,I6 (k1:Int))::t)
  refine W.rt (e2:=z4 []) ?_;refine W.seq ?_;refine W.rg ?_
  let z5:=fun t=>z4 ((11,.clo F_g2 C_g2)::(12,l56 none a1)::(13,I6 (k1:Int))::(14,.ptr (.agg [.bool x1.qr,I6 x1.qd.qb,l3 none x1.qd.qa]))::t)
  refine WO.pk 3 (if (0:Int)≤(k1:Int) then ((List.map QL a1)[Int.toNat (k1:Int)]?).map AV.ptr else none) (v:=.ptr (.agg [.bool x1.qr,I6 x1.qd.qb,l3 none x1.qd.qa])) (qZ (f:=QL) hx1) (e1:=z5 []) ?_;obtain⟨w9,hw9,h⟩:=qe h;refine WO.callK 1 (F:=F_g2) (l:=[.agg [.bool x1.qr,I6 x1.qd.qb,l3 none x1.qd.qa]]) (C:=C_g2) (r:=.bool w9) (by kernel_rfl) hok_g2 (hrun_g2 x1 w9 hw9) (e1:=z5 [(15,.agg [.bool x1.qr,I6 x1.qd.qb,l3 none x1.qd.qa]),(16,.bool w9)]) (by kernel_rfl) ?_;refine WO.fn (e2:=z4 [(16,.bool w9)]) ?_;refine W.cb w9 (fun hb=>?_) (fun hb=>?_)
  ·replace h:=qo hb h;refine W.seq ?_;refine W.rt (e2:=[(4,I6 (k1:Int))]) ?_;refine W.wk (env':=[(4,I6 (k1:Int))]) ?_;cases h;exact W.ret (show qi _ _ _=some _ by kernel_rfl)
  replace h:=qp hb h;refine W.skip ?_;refine W.wk (env':=z3 []) ?_;refine W.rg ?_;refine WO.pk 0 (some (I6 (IntKind.wrap .i64 ((k1:Int)+1)))) (v:=I6 ((k1+1:Nat):Int)) (by rw[qC hl1 hk1]) (e1:=z3 [(18,I6 ((k1+1:Nat):Int))]) ?_;refine WO.fn (e2:=z1 [(8,I6 ((k1+1:Nat):Int))]) ?_;exact hN1 () h
def QK (a1:(List ruLit)) (g2:(ruLit→Option Bool)):Option Bool :=
 ((Xf a1 g2).bind fun w5=>(some (decide (w5 ≥ 0))))
theorem ZH (a1:(List ruLit)) (g2:(ruLit→Option Bool)) (F_g2:Nat) (C_g2:List AV) (hok_g2:okFn Try.prog F_g2=true) (hrun_g2:∀ (x0:ruLit) r,g2 x0=some r→Run Try.prog (.call F_g2 ([.agg [.bool x0.qr,I6 x0.qd.qb,l3 none x0.qd.qa]]++C_g2) (.bool r))) (r:Bool) (h:QK a1 g2=some r):Run Try.prog (.call 78 [l56 none a1,.clo F_g2 C_g2] (.bool r)):=by
 refine cW Try.func78 rfl (env0:=[(0,l56 none a1),(1,.clo F_g2 C_g2)]) ?_;unfold QK at h;refine W.seq ?_;refine W.rt (e2:=[(0,l56 none a1),(1,.clo F_g2 C_g2)]) ?_;refine W.seq ?_;refine W.rg ?_;obtain⟨w5,hw5,h⟩:=qe h;refine WO.ck 2 (F:=120) (l:=[l56 none a1,.clo F_g2 C_g2]) (C:=[]) (r:=I6 w5) (Vw a1 g2 F_g2 C_g2 hok_g2 hrun_g2 w5 hw5) (e1:=[(0,l56 none a1),(1,.clo F_g2 C_g2),(5,l56 none a1),(6,.clo F_g2 C_g2),(7,I6 w5)]) ?_;refine WO.fn (e2:=[(4,.bool (decide (w5 ≥ 0)))]) ?_;refine W.wk (env':=[(4,.bool (decide (w5 ≥ 0)))]) ?_;cases h;exact W.ret (show qi _ _ _=some _ by kernel_rfl)
def XJ (a1:ruLit):Option Bool :=
 (some a1.qr)
theorem Nf (a1:ruLit) (r:Bool) (h:XJ a1=some r):Run Try.prog (.call 79 [.agg [.bool a1.qr,I6 a1.qd.qb,l3 none a1.qd.qa]] (.bool r)):=by
 refine cW Try.func79 rfl (env0:=[(0,.agg [.bool a1.qr,I6 a1.qd.qb,l3 none a1.qd.qa])]) ?_;unfold XJ at h;refine W.seq ?_;refine W.regT [1] [1] [] [] (e2:=[(1,.ptr (.agg [.bool a1.qr,I6 a1.qd.qb,l3 none a1.qd.qa]))]) (by kernel_rfl) (by kernel_rfl) (fun _ h=>h) ?_;refine W.seq ?_;refine W.rt (e2:=[(2,.bool a1.qr)]) ?_;refine W.wk (env':=[(2,.bool a1.qr)]) ?_;cases h;exact W.ret (show qi _ _ _=some _ by kernel_rfl)
def Xn (a1:ruRule):Option Bool :=
 ((QK a1.qc (fun y0=>XJ y0)).bind fun w4=>(some w4))
theorem Hv (a1:ruRule) (r:Bool) (h:Xn a1=some r):Run Try.prog (.call 77 [.agg [I6 a1.qf.qb,l3 none a1.qf.qa,l56 none a1.qc]] (.bool r)):=by
 refine cW Try.func77 rfl (env0:=[(0,.agg [I6 a1.qf.qb,l3 none a1.qf.qa,l56 none a1.qc])]) ?_;unfold Xn at h;refine W.seq ?_
 let z0:=fun t=>EN ((1,.ptr (.agg [I6 a1.qf.qb,l3 none a1.qf.qa,l56 none a1.qc]))::t)
 refine W.regT [1] [1] [] [] (e2:=z0 []) (by kernel_rfl) (by kernel_rfl) (fun _ h=>h) ?_;refine W.seq ?_;refine W.rg ?_;obtain⟨w4,hw4,h⟩:=qe h;refine WO.ck 2 (F:=78) (l:=[l56 none a1.qc,.clo 79 []]) (C:=[]) (r:=.bool w4) (ZH a1.qc (fun y0=>XJ y0) 79 [] (by kernel_rfl) (fun y0 r h=>Nf y0 r h) w4 hw4) (e1:=z0 [(3,.ptr (l56 none a1.qc)),(4,l56 none a1.qc),(5,.bool w4)]) ?_;refine WO.fn (e2:=[(2,.bool w4)]) ?_;refine W.wk (env':=[(2,.bool w4)]) ?_;cases h;exact W.ret (show qi _ _ _=some _ by kernel_rfl)
def Jc (fuel:Nat) (c3:(List ruRule)) (c4:apiFact) (v18:(List (rufact×Bool))):Option Bool :=
 ((Yh fuel c3 v18 ([]:(List (rufact×Bool)))).bind fun w20=>((ZU c4).bind fun w21=>(chk (wfI .i64 w21.qn && wfI .i64 w21.f_a && wfI .i64 w21.f_b) (some (mget qm false w21 w20)))))
def JT (N1:((List (rufact×Bool))→Option Bool)) (v17:(List (rufact×Bool))):Option Bool :=
 (N1 v17)
def ju (a1:Int) (K7:((List (rufact×Bool))→Option Bool)):List apiFact→Nat→(List (rufact×Bool))→Option Bool
 | [],k1,v9=>(K7 v9)
 | x1::r1,k1,v9=>(chk (decide (0≤(k1:Int))) (bif ((iAnd .i64 (iShr .i64 a1 (k1:Int)) 1) == 1) then ((ZU x1).bind fun w14=>(chk (wfI .i64 w14.qn && wfI .i64 w14.f_a && wfI .i64 w14.f_b) (chk (Nat.blt v9.length 1000000000) ((JT (ju a1 K7 r1 (k1+1))) (mset qm w14 true v9))))) else ((JT (ju a1 K7 r1 (k1+1))) v9)))
def Xm (fuel:Nat) (a1:Int) (c2:(List apiFact)) (c3:(List ruRule)) (c4:apiFact):Option Bool :=
 (chk (lenOk c2) (ju a1 (Jc fuel c3 c4) c2 0 ([]:(List (rufact×Bool)))))
theorem Vh (fuel:Nat) (a1:Int) (c2:(List apiFact)) (c3:(List ruRule)) (c4:apiFact) (r:Bool) (h:Xm fuel a1 c2 c3 c4=some r):Run Try.prog (.call 80 [I6 a1,.ptr (l41 none c2),.ptr (l54 none c3),.ptr (.agg [I6 c4.qb,l3 none c4.qa])] (.bool r)):=by
 refine cW Try.func80 rfl (env0:=[(0,I6 a1),(1,.ptr (l41 none c2)),(2,.ptr (l54 none c3)),(3,.ptr (.agg [I6 c4.qb,l3 none c4.qa]))]) ?_;unfold Xm at h;refine W.seq ?_
 let z0:=fun t=>EN ((0,I6 a1)::(1,.ptr (l41 none c2))::(2,.ptr (l54 none c3))::(3,.ptr (.agg [I6 c4.qb,l3 none c4.qa]))::t)
 refine W.rt (e2:=z0 []) ?_;refine W.seq ?_;refine W.rt (e2:=z0 [(6,.mb 0 1000009),(1000009,hobE qh AV.bool ([]:(List (rufact×Bool))))]) ?_;refine W.seq ?_
 let z1:=fun t=>EN ((2,.ptr (l54 none c3))::(3,.ptr (.agg [I6 c4.qb,l3 none c4.qa]))::t)
 refine W.join (σ:=((List (rufact×Bool)))) (fun s=>z1 [(6,.mb 0 1000009),(1000009,hobE qh AV.bool s)]) (fun s=>(Jc fuel c3 c4) s=some r) (fun v18 h=>?_) (fun hK7=>?_)
 ·have h:(Jc fuel c3 c4) v18=some r:=h;unfold Jc at h;refine W.seq ?_;obtain⟨w20,hw20,h⟩:=qe h;obtain⟨w21,hw21,h⟩:=qe h;obtain⟨hc22,h⟩:=qg h;refine W.regionA (e1:=z1 [(5,.bool (mget qm false w21 w20)),(6,mpE qh AV.bool v18),(26,l54 none c3),(27,mpE qh AV.bool v18),(28,mpE qh AV.bool w20),(29,.agg [I6 c4.qb,l3 none c4.qa]),(30,.agg [I6 w21.qn,I6 w21.f_a,I6 w21.f_b]),(31,.bool (mget qm false w21 w20))]) (by kernel_rfl) ?_ ?_
  ·generalize hall:Array.toList _=all;let y0:Nat×AV:=(2,.ptr (l54 none c3));let y1:Nat×AV:=(3,.ptr (.agg [I6 c4.qb,l3 none c4.qa]));let y2:Nat×AV:=(26,l54 none c3);let y3:Nat×AV:=(29,.agg [I6 c4.qb,l3 none c4.qa]);let y4:Nat×AV:=(6,mpE qh AV.bool v18);let y5:Nat×AV:=(27,mpE qh AV.bool v18);let y6:Nat×AV:=(6,.mb 0 1000009);let y7:Nat×AV:=(1000009,hobE qh AV.bool v18);let y8:Nat×AV:=(28,mpE qh AV.bool w20);let y9:Nat×AV:=(30,.agg [I6 w21.qn,I6 w21.f_a,I6 w21.f_b]);let y10:Nat×AV:=(27,.mb 0 1000009);let y11:Nat×AV:=(31,.bool (mget qm false w21 w20));let y12:Nat×AV:=(5,.bool (mget qm false w21 w20));have s_:Run Try.prog (.any 32 all [] ([y0,y1,y12,y4,y2,y5,y8,y3,y9,y11]) ([y0,y1,y12,y4,y2,y5,y8,y3,y9,y11])):=.anyNil
   have s_6:Run Try.prog (.any 32 all [6] ([y0,y1,y4,y2,y5,y8,y3,y9,y11]) ([y0,y1,y12,y4,y2,y5,y8,y3,y9,y11])):=by
    subst hall;refine Run.anyC [(6,[y0,y1,y12,y4,y2,y5,y8,y3,y9,y11])] (by kernel_rfl) (by kernel_rfl) ?_ (.cons s_ .nil);refine .cons ?_ (.nil)
    ·refine⟨_,rfl,?_⟩;refine WO.steps 1 (e1:=[y0,y1,y12,y4,y2,y5,y8,y3,y9,y11]) (by kernel_rfl) ?_;exact WO.nil rfl
   have s_5_6:Run Try.prog (.any 32 all [5,6] ([y0,y1,y4,y2,y5,y8,y3,y9]) ([y0,y1,y12,y4,y2,y5,y8,y3,y9,y11])):=by
    subst hall;refine Run.anyC [(5,[y0,y1,y4,y2,y5,y8,y3,y9,y11])] (by kernel_rfl) (by kernel_rfl) ?_ (.cons s_6 .nil);refine .cons ?_ (.nil)
    ·refine⟨_,rfl,?_⟩;refine WO.pk 0 ((alookup Try.prog 105 [] (mpE qh AV.bool w20) (.agg [I6 w21.qn,I6 w21.f_a,I6 w21.f_b])).map AV.strip) (v:=.bool (mget qm false w21 w20)) (congrArg (Option.map AV.strip) (VM (F:=qh) (G:=AV.bool) (eq:=qm) (l:=w20) (k:=w21) (z:=false) (kt:=127) (e:=4) (Np hc22) (by kernel_rfl) (fun x=>by kernel_rfl) (fun x y=>by kernel_rfl) (by kernel_rfl))) (e1:=[y0,y1,y4,y2,y5,y8,y3,y9,y11]) ?_;exact WO.nil rfl
   have s_4_5_6:Run Try.prog (.any 32 all [4,5,6] ([y0,y1,y4,y2,y5,y8,y3]) ([y0,y1,y12,y4,y2,y5,y8,y3,y9,y11])):=by
    subst hall;refine Run.anyC [(4,[y0,y1,y4,y2,y5,y8,y3,y9])] (by kernel_rfl) (by kernel_rfl) ?_ (.cons s_5_6 .nil);refine .cons ?_ (.nil)
    ·refine⟨_,rfl,?_⟩;refine WO.ck 0 (F:=81) (l:=[.agg [I6 c4.qb,l3 none c4.qa]]) (C:=[]) (r:=.agg [I6 w21.qn,I6 w21.f_a,I6 w21.f_b]) (Nd c4 w21 hw21) (e1:=[y0,y1,y4,y2,y5,y8,y3,y9]) ?_;exact WO.nil rfl
   have s_3_4_5_6:Run Try.prog (.any 32 all [3,4,5,6] ([y0,y1,y4,y2,y5,y8]) ([y0,y1,y12,y4,y2,y5,y8,y3,y9,y11])):=by
    subst hall;refine Run.anyC [(3,[y0,y1,y4,y2,y5,y8,y3])] (by kernel_rfl) (by kernel_rfl) ?_ (.cons s_4_5_6 .nil);refine .cons ?_ (.nil)
    ·refine⟨_,rfl,?_⟩;refine WO.steps 1 (e1:=[y0,y1,y4,y2,y5,y8,y3]) (by kernel_rfl) ?_;exact WO.nil rfl
   have s_2_4_5_6:Run Try.prog (.any 32 all [2,4,5,6] ([y0,y1,y6,y2,y10,y3,y7]) ([y0,y1,y12,y4,y2,y5,y8,y3,y9,y11])):=by
    subst hall;refine Run.anyC [(2,[y0,y1,y4,y2,y5,y8,y3])] (by kernel_rfl) (by kernel_rfl) ?_ (.cons s_4_5_6 .nil);refine .cons ?_ (.nil)
    ·refine⟨_,rfl,?_⟩;refine WO.mv [.frz 1000009] (env':=[y0,y1,y4,y2,y5,y3]) (by kernel_rfl) ?_;refine WO.ck 0 (F:=74) (l:=[l54 none c3,mpE qh AV.bool v18,mpE qh AV.bool ([]:(List (rufact×Bool)))]) (C:=[]) (r:=mpE qh AV.bool w20) (XX fuel c3 v18 ([]:(List (rufact×Bool))) w20 hw20) (e1:=[y0,y1,y4,y2,y5,y8,y3]) ?_;exact WO.nil rfl
   have s_2_3_4_5_6:Run Try.prog (.any 32 all [2,3,4,5,6] ([y0,y1,y6,y2,y10,y7]) ([y0,y1,y12,y4,y2,y5,y8,y3,y9,y11])):=by
    subst hall;refine Run.anyC [(2,[y0,y1,y4,y2,y5,y8]),(3,[y0,y1,y6,y2,y10,y3,y7])] (by kernel_rfl) (by kernel_rfl) ?_ (.cons s_3_4_5_6 (.cons s_2_4_5_6 .nil));refine .cons ?_ (.cons ?_ (.nil))
    ·refine⟨_,rfl,?_⟩;refine WO.mv [.frz 1000009] (env':=[y0,y1,y4,y2,y5]) (by kernel_rfl) ?_;refine WO.ck 0 (F:=74) (l:=[l54 none c3,mpE qh AV.bool v18,mpE qh AV.bool ([]:(List (rufact×Bool)))]) (C:=[]) (r:=mpE qh AV.bool w20) (XX fuel c3 v18 ([]:(List (rufact×Bool))) w20 hw20) (e1:=[y0,y1,y4,y2,y5,y8]) ?_;exact WO.nil rfl
    ·refine⟨_,rfl,?_⟩;refine WO.steps 1 (e1:=[y0,y1,y6,y2,y10,y3,y7]) (by kernel_rfl) ?_;exact WO.nil rfl
   have s_1_2_4_5_6:Run Try.prog (.any 32 all [1,2,4,5,6] ([y0,y1,y6,y2,y3,y7]) ([y0,y1,y12,y4,y2,y5,y8,y3,y9,y11])):=by
    subst hall;refine Run.anyC [(1,[y0,y1,y6,y2,y10,y3,y7])] (by kernel_rfl) (by kernel_rfl) ?_ (.cons s_2_4_5_6 .nil);refine .cons ?_ (.nil)
    ·refine⟨_,rfl,?_⟩;refine WO.steps 1 (e1:=[y0,y1,y6,y2,y10,y3,y7]) (by kernel_rfl) ?_;exact WO.nil rfl
   have s_0_2_4_5_6:Run Try.prog (.any 32 all [0,2,4,5,6] ([y0,y1,y6,y10,y3,y7]) ([y0,y1,y12,y4,y2,y5,y8,y3,y9,y11])):=by
    subst hall;refine Run.anyC [(0,[y0,y1,y6,y2,y10,y3,y7])] (by kernel_rfl) (by kernel_rfl) ?_ (.cons s_2_4_5_6 .nil);refine .cons ?_ (.nil)
    ·refine⟨_,rfl,?_⟩;refine WO.steps 1 (e1:=[y0,y1,y6,y2,y10,y3,y7]) (by kernel_rfl) ?_;exact WO.nil rfl
   have s_1_2_3_4_5_6:Run Try.prog (.any 32 all [1,2,3,4,5,6] ([y0,y1,y6,y2,y7]) ([y0,y1,y12,y4,y2,y5,y8,y3,y9,y11])):=by
    subst hall;refine Run.anyC [(1,[y0,y1,y6,y2,y10,y7]),(3,[y0,y1,y6,y2,y3,y7])] (by kernel_rfl) (by kernel_rfl) ?_ (.cons s_2_3_4_5_6 (.cons s_1_2_4_5_6 .nil));refine .cons ?_ (.cons ?_ (.nil))
    ·refine⟨_,rfl,?_⟩;refine WO.steps 1 (e1:=[y0,y1,y6,y2,y10,y7]) (by kernel_rfl) ?_;exact WO.nil rfl
    ·refine⟨_,rfl,?_⟩;refine WO.steps 1 (e1:=[y0,y1,y6,y2,y3,y7]) (by kernel_rfl) ?_;exact WO.nil rfl
   have s_0_2_3_4_5_6:Run Try.prog (.any 32 all [0,2,3,4,5,6] ([y0,y1,y6,y10,y7]) ([y0,y1,y12,y4,y2,y5,y8,y3,y9,y11])):=by
    subst hall;refine Run.anyC [(0,[y0,y1,y6,y2,y10,y7]),(3,[y0,y1,y6,y10,y3,y7])] (by kernel_rfl) (by kernel_rfl) ?_ (.cons s_2_3_4_5_6 (.cons s_0_2_4_5_6 .nil));refine .cons ?_ (.cons ?_ (.nil))
    ·refine⟨_,rfl,?_⟩;refine WO.steps 1 (e1:=[y0,y1,y6,y2,y10,y7]) (by kernel_rfl) ?_;exact WO.nil rfl
    ·refine⟨_,rfl,?_⟩;refine WO.steps 1 (e1:=[y0,y1,y6,y10,y3,y7]) (by kernel_rfl) ?_;exact WO.nil rfl
   have s_0_1_2_4_5_6:Run Try.prog (.any 32 all [0,1,2,4,5,6] ([y0,y1,y6,y3,y7]) ([y0,y1,y12,y4,y2,y5,y8,y3,y9,y11])):=by
    subst hall;refine Run.anyC [(0,[y0,y1,y6,y2,y3,y7]),(1,[y0,y1,y6,y10,y3,y7])] (by kernel_rfl) (by kernel_rfl) ?_ (.cons s_1_2_4_5_6 (.cons s_0_2_4_5_6 .nil));refine .cons ?_ (.cons ?_ (.nil))
    ·refine⟨_,rfl,?_⟩;refine WO.steps 1 (e1:=[y0,y1,y6,y2,y3,y7]) (by kernel_rfl) ?_;exact WO.nil rfl
    ·refine⟨_,rfl,?_⟩;refine WO.steps 1 (e1:=[y0,y1,y6,y10,y3,y7]) (by kernel_rfl) ?_;exact WO.nil rfl
   have s_0_1_2_3_4_5_6:Run Try.prog (.any 32 all [0,1,2,3,4,5,6] ([y0,y1,y6,y7]) ([y0,y1,y12,y4,y2,y5,y8,y3,y9,y11])):=by
    subst hall;refine Run.anyC [(0,[y0,y1,y6,y2,y7]),(1,[y0,y1,y6,y10,y7]),(3,[y0,y1,y6,y3,y7])] (by kernel_rfl) (by kernel_rfl) ?_ (.cons s_1_2_3_4_5_6 (.cons s_0_2_3_4_5_6 (.cons s_0_1_2_4_5_6 .nil)));refine .cons ?_ (.cons ?_ (.cons ?_ (.nil)))
    ·refine⟨_,rfl,?_⟩;refine WO.steps 1 (e1:=[y0,y1,y6,y2,y7]) (by kernel_rfl) ?_;exact WO.nil rfl
    ·refine⟨_,rfl,?_⟩;refine WO.steps 1 (e1:=[y0,y1,y6,y10,y7]) (by kernel_rfl) ?_;exact WO.nil rfl
    ·refine⟨_,rfl,?_⟩;refine WO.steps 1 (e1:=[y0,y1,y6,y3,y7]) (by kernel_rfl) ?_;exact WO.nil rfl
   exact s_0_1_2_3_4_5_6
  refine WO.fn (e2:=[(5,.bool (mget qm false w21 w20))]) ?_;refine W.wk (env':=[(5,.bool (mget qm false w21 w20))]) ?_;cases h;exact W.ret (show qi _ _ _=some _ by kernel_rfl)
 refine W.seq ?_;refine W.rg ?_;refine WO.pk 1 (some (I6 ((List.map qt c2).length:Int))) (v:=I6 (c2.length:Int)) (by rw[List.length_map]) (e1:=z0 [(6,.mb 0 1000009),(10,l41 none c2),(11,I6 (c2.length:Int)),(1000009,hobE qh AV.bool ([]:(List (rufact×Bool))))]) ?_
 let z2:=fun t=>EN ((0,I6 a1)::(2,.ptr (l54 none c3))::(3,.ptr (.agg [I6 c4.qb,l3 none c4.qa]))::(6,.mb 0 1000009)::(10,l41 none c2)::(11,I6 (c2.length:Int))::t)
 refine WO.fn (e2:=z2 [(12,.int .i64 0),(1000009,hobE qh AV.bool ([]:(List (rufact×Bool))))]) ?_;refine W.block ?_;obtain⟨hl1,h⟩:=qg h;refine W.wk (env':=z2 [(12,I6 ((0:Nat):Int)),(1000009,hobE qh AV.bool ([]:(List (rufact×Bool))))]) ?_;refine W.range (σ:=((List (rufact×Bool)))) c2 (fun k1 s=>z2 [(12,I6 (k1:Int)),(1000009,hobE qh AV.bool s)]) (fun r0 k0 s=>ju a1 (Jc fuel c3 c4) r0 k0 s=some r) (fun v9 h=>?_) (fun x1 r1 k1 s hx1 hk1 h hN1=>?_) ([]:(List (rufact×Bool))) h
 ·have h:ju a1 (Jc fuel c3 c4) [] (c2).length v9=some r:=h;rw[ju.eq_1]at h;refine W.seq ?_;refine W.rg ?_
  let z3:=fun t=>z2 ((12,I6 ((c2).length:Int))::(13,.bool false)::(1000009,hobE qh AV.bool v9)::t)
  refine WO.pk 0 (some (.bool (decide (((c2).length:Int)<(c2.length:Int))))) (v:=.bool false) (by rw[qM (l:=c2)]) (e1:=z3 []) ?_;refine WO.fn (e2:=z3 []) ?_;refine W.seq ?_;refine W.cb false (fun h=>Bool.noConfusion h) (fun _=>?_);refine W.exit ?_;refine W.wk (env':=z1 [(6,.mb 0 1000009),(1000009,hobE qh AV.bool v9)]) ?_;exact hK7 v9 h
 ·obtain⟨v9,rfl⟩:∃ x,x=s:=⟨s,rfl⟩;have h:ju a1 (Jc fuel c3 c4) (x1::r1) k1 v9=some r:=h;rw[ju.eq_2]at h;refine W.seq ?_;refine W.rg ?_
  let z4:=fun t=>z2 ((12,I6 (k1:Int))::t)
  let z5:=fun t=>z4 ((13,.bool true)::(1000009,hobE qh AV.bool v9)::t)
  refine WO.pk 0 (some (.bool (decide ((k1:Int)<(c2.length:Int))))) (v:=.bool true) (by rw[qY hk1]) (e1:=z5 []) ?_;refine WO.fn (e2:=z5 []) ?_;refine W.seq ?_;refine W.cb true (fun _=>?_) (fun h=>Bool.noConfusion h);refine W.skip ?_
  let z6:=fun t=>z4 ((1000009,hobE qh AV.bool v9)::t)
  refine W.wk (env':=z6 []) ?_;refine W.seq ?_;refine W.join (σ:=((List (rufact×Bool)))) (fun s=>z4 [(1000009,hobE qh AV.bool s)]) (fun s=>(JT (ju a1 (Jc fuel c3 c4) r1 (k1+1))) s=some r) (fun v17 h=>?_) (fun hK10=>?_)
  ·have h:(JT (ju a1 (Jc fuel c3 c4) r1 (k1+1))) v17=some r:=h;unfold JT at h;refine W.rg ?_;refine WO.pk 0 (some (I6 (IntKind.wrap .i64 ((k1:Int)+1)))) (v:=I6 ((k1+1:Nat):Int)) (by rw[qC hl1 hk1]) (e1:=z4 [(25,I6 ((k1+1:Nat):Int)),(1000009,hobE qh AV.bool v17)]) ?_;refine WO.fn (e2:=z2 [(12,I6 ((k1+1:Nat):Int)),(1000009,hobE qh AV.bool v17)]) ?_;exact hN1 v17 h
  refine W.block ?_;refine W.seq ?_;refine W.rg ?_;refine WO.pk 1 (if (0:Int)≤(k1:Int) then ((List.map qt c2)[Int.toNat (k1:Int)]?).map AV.ptr else none) (v:=.ptr (.agg [I6 x1.qb,l3 none x1.qa])) (qZ (f:=qt) hx1) (e1:=z4 [(14,I6 (k1:Int)),(15,.ptr (.agg [I6 x1.qb,l3 none x1.qa])),(1000009,hobE qh AV.bool v9)]) ?_
  let z7:=fun t=>EN ((0,I6 a1)::(2,.ptr (l54 none c3))::(3,.ptr (.agg [I6 c4.qb,l3 none c4.qa]))::(6,.mb 0 1000009)::t)
  let z8:=fun t=>z7 ((7,I6 (k1:Int))::(8,.ptr (.agg [I6 x1.qb,l3 none x1.qa]))::(10,l41 none c2)::(11,I6 (c2.length:Int))::(12,I6 (k1:Int))::t)
  refine WO.fin [0,2,3,6,7,8,10,11,12,1000009] [8] [] [] (e2:=z8 [(1000009,hobE qh AV.bool v9)]) (by kernel_rfl) (fun _ h=>h) ?_;refine W.seq ?_;refine W.rg ?_;obtain⟨hc13,h⟩:=qg h;refine WO.pk 2 (if (k1:Int)<0 then none else some (I6 (iShr .i64 a1 (k1:Int)))) (v:=I6 (iShr .i64 a1 (k1:Int))) (if_neg (Xa hc13)) (e1:=z8 [(17,I6 a1),(18,I6 (k1:Int)),(19,I6 (iShr .i64 a1 (k1:Int))),(1000009,hobE qh AV.bool v9)]) ?_
  let z9:=fun t=>z7 ((8,.ptr (.agg [I6 x1.qb,l3 none x1.qa]))::(10,l41 none c2)::(11,I6 (c2.length:Int))::(12,I6 (k1:Int))::(21,.bool ((iAnd .i64 (iShr .i64 a1 (k1:Int)) 1) == 1))::t)
  refine WO.fn (e2:=z9 [(1000009,hobE qh AV.bool v9)]) ?_;refine W.cb ((iAnd .i64 (iShr .i64 a1 (k1:Int)) 1) == 1) (fun hb=>?_) (fun hb=>?_)
  ·replace h:=qo hb h;refine W.rg ?_;obtain⟨w14,hw14,h⟩:=qe h
   let z10:=fun t=>z9 ((22,.mb 0 1000009)::(23,.agg [I6 x1.qb,l3 none x1.qa])::(24,.agg [I6 w14.qn,I6 w14.f_a,I6 w14.f_b])::t)
   refine WO.ck 2 (F:=81) (l:=[.agg [I6 x1.qb,l3 none x1.qa]]) (C:=[]) (r:=.agg [I6 w14.qn,I6 w14.f_a,I6 w14.f_b]) (Nd x1 w14 hw14) (e1:=z10 [(1000009,hobE qh AV.bool v9)]) ?_;obtain⟨hc15,h⟩:=qg h;obtain⟨hc16,h⟩:=qg h;refine WO.mapK (F:=qh) (G:=AV.bool) (eq:=qm) (l:=v9) (a:=w14) (b:=true) (id:=1000009) (kt:=127) 0 (Np hc15) hc16 (e1:=z10 [(1000009,hobE qh AV.bool (mset qm w14 true v9))]) ?_ (fun x=>by kernel_rfl) (fun x y=>by kernel_rfl);refine WO.fn (e2:=z4 [(1000009,hobE qh AV.bool (mset qm w14 true v9))]) ?_;exact hK10 (mset qm w14 true v9) h
  replace h:=qp hb h;refine W.skip ?_;refine W.wk (env':=z6 []) ?_;exact hK10 v9 h
def jX:Option Int :=
 (some (-1))
def jn (g2:(Int→Option Bool)) (K4:(Option Int)):List Int→Nat→Option Int
 | [],k1=>K4
 | x1::r1,k1=>((g2 x1).bind fun w9=>(bif w9 then (some (k1:Int)) else (jn g2 K4 r1 (k1+1))))
def XL (a1:(List Int)) (g2:(Int→Option Bool)):Option Int :=
 (chk (lenOk a1) (jn g2 (jX) a1 0))
theorem Ua (a1:(List Int)) (g2:(Int→Option Bool)) (F_g2:Nat) (C_g2:List AV) (hok_g2:okFn Try.prog F_g2=true) (hrun_g2:∀ (x0:Int) r,g2 x0=some r→Run Try.prog (.call F_g2 ([I6 x0]++C_g2) (.bool r))) (r:Int) (h:XL a1 g2=some r):Run Try.prog (.call 84 [l3 none a1,.clo F_g2 C_g2] (I6 r)):=by
 refine cW Try.func84 rfl (env0:=[(0,l3 none a1),(1,.clo F_g2 C_g2)]) ?_;unfold XL at h;refine W.seq ?_
 let z0:=fun t=>EN ((0,l3 none a1)::(1,.clo F_g2 C_g2)::t)
 refine W.rt (e2:=z0 []) ?_;refine W.seq ?_;refine W.join (σ:=Unit) (fun s=>[]) (fun s=>(jX)=some r) (fun s h=>?_) (fun hK4=>?_)
 ·have h:(jX)=some r:=h;unfold jX at h;refine W.seq ?_;refine W.rt (e2:=[(4,I6 (-1))]) ?_;refine W.wk (env':=[(4,I6 (-1))]) ?_;cases h;exact W.ret (show qi _ _ _=some _ by kernel_rfl)
 refine W.seq ?_;refine W.rg ?_;refine WO.pk 1 (some (I6 ((M6 a1).length:Int))) (v:=I6 (a1.length:Int)) (by rw[List.length_map]) (e1:=z0 [(6,l3 none a1),(7,I6 (a1.length:Int))]) ?_
 let z1:=fun t=>z0 ((7,I6 (a1.length:Int))::t)
 refine WO.fn (e2:=z1 [(8,.int .i64 0)]) ?_;refine W.block ?_;obtain⟨hl1,h⟩:=qg h;refine W.wk (env':=z1 [(8,I6 ((0:Nat):Int))]) ?_;refine W.range (σ:=Unit) a1 (fun k1 s=>z1 [(8,I6 (k1:Int))]) (fun r0 k0 s=>jn g2 (jX) r0 k0=some r) (fun s h=>?_) (fun x1 r1 k1 s hx1 hk1 h hN1=>?_) () h
 ·have h:jn g2 (jX) [] (a1).length=some r:=h;rw[jn.eq_1]at h;refine W.seq ?_;refine W.rg ?_
  let z2:=fun t=>z1 ((8,I6 ((a1).length:Int))::(9,.bool false)::t)
  refine WO.pk 0 (some (.bool (decide (((a1).length:Int)<(a1.length:Int))))) (v:=.bool false) (by rw[qM (l:=a1)]) (e1:=z2 []) ?_;refine WO.fn (e2:=z2 []) ?_;refine W.seq ?_;refine W.cb false (fun h=>Bool.noConfusion h) (fun _=>?_);refine W.exit ?_;refine W.wk (env':=[]) ?_;exact hK4 () h
 ·have h:jn g2 (jX) (x1::r1) k1=some r:=h;rw[jn.eq_2]at h;refine W.seq ?_;refine W.rg ?_
  let z3:=fun t=>z1 ((8,I6 (k1:Int))::t)
  refine WO.pk 0 (some (.bool (decide ((k1:Int)<(a1.length:Int))))) (v:=.bool true) (by rw[qY hk1]) (e1:=z3 [(9,.bool true)]) ?_;refine WO.fn (e2:=z3 [(9,.bool true)]) ?_;refine W.seq ?_;refine W.cb true (fun _=>?_) (fun h=>Bool.noConfusion h);refine W.skip ?_;refine W.wk (env':=z3 []) ?_;refine W.seq ?_;refine W.block ?_;refine W.seq ?_
  let z4:=fun t=>z0 ((5,I6 (k1:Int))::(7,I6 (a1.length:Int))::(8,I6 (k1:Int))::t)
  refine W.rt (e2:=z4 []) ?_;refine W.seq ?_;refine W.rg ?_
  let z5:=fun t=>z4 ((11,.clo F_g2 C_g2)::(12,l3 none a1)::(13,I6 (k1:Int))::(14,.ptr (I6 x1))::t)
  refine WO.pk 3 (if (0:Int)≤(k1:Int) then ((M6 a1)[Int.toNat (k1:Int)]?).map AV.ptr else none) (v:=.ptr (I6 x1)) (qZ (f:=(AV.int .i64)) hx1) (e1:=z5 []) ?_;obtain⟨w9,hw9,h⟩:=qe h;refine WO.callK 1 (F:=F_g2) (l:=[I6 x1]) (C:=C_g2) (r:=.bool w9) (by kernel_rfl) hok_g2 (hrun_g2 x1 w9 hw9) (e1:=z5 [(15,I6 x1),(16,.bool w9)]) (by kernel_rfl) ?_;refine WO.fn (e2:=z4 [(16,.bool w9)]) ?_;refine W.cb w9 (fun hb=>?_) (fun hb=>?_)
  ·replace h:=qo hb h;refine W.seq ?_;refine W.rt (e2:=[(4,I6 (k1:Int))]) ?_;refine W.wk (env':=[(4,I6 (k1:Int))]) ?_;cases h;exact W.ret (show qi _ _ _=some _ by kernel_rfl)
  replace h:=qp hb h;refine W.skip ?_;refine W.wk (env':=z3 []) ?_;refine W.rg ?_;refine WO.pk 0 (some (I6 (IntKind.wrap .i64 ((k1:Int)+1)))) (v:=I6 ((k1+1:Nat):Int)) (by rw[qC hl1 hk1]) (e1:=z3 [(18,I6 ((k1+1:Nat):Int))]) ?_;refine WO.fn (e2:=z1 [(8,I6 ((k1+1:Nat):Int))]) ?_;exact hN1 () h
def Qq (a1:(List Int)) (g2:(Int→Option Bool)):Option Bool :=
 ((XL a1 g2).bind fun w5=>(some (decide (w5 ≥ 0))))
theorem Vg (a1:(List Int)) (g2:(Int→Option Bool)) (F_g2:Nat) (C_g2:List AV) (hok_g2:okFn Try.prog F_g2=true) (hrun_g2:∀ (x0:Int) r,g2 x0=some r→Run Try.prog (.call F_g2 ([I6 x0]++C_g2) (.bool r))) (r:Bool) (h:Qq a1 g2=some r):Run Try.prog (.call 36 [l3 none a1,.clo F_g2 C_g2] (.bool r)):=by
 refine cW Try.func36 rfl (env0:=[(0,l3 none a1),(1,.clo F_g2 C_g2)]) ?_;unfold Qq at h;refine W.seq ?_;refine W.rt (e2:=[(0,l3 none a1),(1,.clo F_g2 C_g2)]) ?_;refine W.seq ?_;refine W.rg ?_;obtain⟨w5,hw5,h⟩:=qe h;refine WO.ck 2 (F:=84) (l:=[l3 none a1,.clo F_g2 C_g2]) (C:=[]) (r:=I6 w5) (Ua a1 g2 F_g2 C_g2 hok_g2 hrun_g2 w5 hw5) (e1:=[(0,l3 none a1),(1,.clo F_g2 C_g2),(5,l3 none a1),(6,.clo F_g2 C_g2),(7,I6 w5)]) ?_;refine WO.fn (e2:=[(4,.bool (decide (w5 ≥ 0)))]) ?_;refine W.wk (env':=[(4,.bool (decide (w5 ≥ 0)))]) ?_;cases h;exact W.ret (show qi _ _ _=some _ by kernel_rfl)
def YB (a1:Int) (c2:Int):Option Bool :=
 (some ((iAndNot .i64 a1 c2) == 0))
theorem Hu (a1:Int) (c2:Int) (r:Bool) (h:YB a1 c2=some r):Run Try.prog (.call 82 [I6 a1,.ptr (I6 c2)] (.bool r)):=by
 refine cW Try.func82 rfl (env0:=[(0,I6 a1),(1,.ptr (I6 c2))]) ?_;unfold YB at h;refine W.seq ?_;refine W.rt (e2:=[(0,I6 a1),(1,.ptr (I6 c2))]) ?_;refine W.seq ?_;refine W.rt (e2:=[(3,.bool ((iAndNot .i64 a1 c2) == 0))]) ?_;refine W.wk (env':=[(3,.bool ((iAndNot .i64 a1 c2) == 0))]) ?_;cases h;exact W.ret (show qi _ _ _=some _ by kernel_rfl)
def Jb (v34:(List Int)):Option ((List Int)×Int) :=
 (some (v34,0))
def JN (N1:((List Int)→Option ((List Int)×Int))) (v33:(List Int)):Option ((List Int)×Int) :=
 (N1 v33)
def QG (k1:Nat) (v25:(List Int)) (K26:((List Int)→Option ((List Int)×Int))) (v31:Bool):Option ((List Int)×Int) :=
 (bif v31 then (chk (capOk 8 ((v25++[(k1:Int)])).length) (K26 (v25++[(k1:Int)]))) else (K26 v25))
def jy (fuel:Nat) (a1:(List ruRule)) (a2:(List apiFact)) (a3:apiFact) (K22:((List Int)→Option ((List Int)×Int))):List Nat→Nat→(List Int)→Option ((List Int)×Int)
 | [],k1,v25=>(K22 v25)
 | x1::r1,k1,v25=>((Qq v25 (fun y0=>YB y0 (k1:Int))).bind fun w29=>(bif (!w29) then ((Xm fuel (k1:Int) a2 a1 a3).bind fun w30=>((QG k1 v25 (JN (jy fuel a1 a2 a3 K22 r1 (k1+1)))) w30)) else ((QG k1 v25 (JN (jy fuel a1 a2 a3 K22 r1 (k1+1)))) false)))
def Qx (fuel:Nat) (a1:(List ruRule)) (a2:(List apiFact)) (a3:apiFact) (v10:Bool):Option ((List Int)×Int) :=
 (bif v10 then (some (([]:(List Int)),2)) else (bif (decide ((a2.length:Int) > 10)) then (some (([]:(List Int)),3)) else (chk (decide (0≤(a2.length:Int))) ((Xm fuel (IntKind.wrap .i64 ((iShl .i64 1 (a2.length:Int)) - 1)) a2 a1 a3).bind fun w20=>(bif (!w20) then (some (([]:(List Int)),0)) else (chk (decide (0≤(a2.length:Int))) (chk (lenOk (List.range (Int.toNat (iShl .i64 1 (a2.length:Int))))) (jy fuel a1 a2 a3 (Jb) (List.range (Int.toNat (iShl .i64 1 (a2.length:Int)))) 0 ([]:(List Int))))))))))
def Xo (fuel:Nat) (a1:(List ruRule)) (a2:(List apiFact)) (a3:apiFact):Option ((List Int)×Int) :=
 ((XY fuel a1 a2).bind fun w7=>(bif (!w7) then ((Qx fuel a1 a2 a3) true) else ((Zm fuel a3).bind fun w8=>(bif (!w8) then ((Qx fuel a1 a2 a3) true) else ((JK a1 (fun y0=>Xn y0)).bind fun w9=>((Qx fuel a1 a2 a3) w9))))))
theorem DQ (fuel:Nat) (a1:(List ruRule)) (a2:(List apiFact)) (a3:apiFact) (r:((List Int)×Int)) (h:Xo fuel a1 a2 a3=some r):Run Try.prog (.call 32 [l54 none a1,l41 none a2,.agg [I6 a3.qb,l3 none a3.qa]] (.tup [l3 none r.1,I6 r.2])):=by
 refine cW Try.func32 rfl (env0:=[(0,l54 none a1),(1,l41 none a2),(2,.agg [I6 a3.qb,l3 none a3.qa])]) ?_;unfold Xo at h;refine W.seq ?_
 let z0:=fun t=>EN ((3,.ptr (l54 none a1))::(4,.ptr (l41 none a2))::(5,.ptr (.agg [I6 a3.qb,l3 none a3.qa]))::t)
 refine W.regT [3,4,5] [3,4,5] [] [] (e2:=z0 []) (by kernel_rfl) (by kernel_rfl) (fun _ h=>h) ?_;refine W.seq ?_;refine W.seq ?_;refine W.join (σ:=(Bool)) (fun s=>z0 [(23,.bool s)]) (fun s=>(Qx fuel a1 a2 a3) s=some r) (fun v10 h=>?_) (fun hK6=>?_)
 ·have h:(Qx fuel a1 a2 a3) v10=some r:=h;unfold Qx at h;refine W.cb v10 (fun hb=>?_) (fun hb=>?_)
  ·replace h:=qo hb h;refine W.seq ?_;refine W.rt (e2:=[(6,.nils),(7,.int .i64 2)]) ?_;refine W.weak [6,7] [] [(6,0,3,1,70006)] [] (env':=[(6,l3 (some 70006) ([]:(List Int))),(7,.int .i64 2)]) (by kernel_rfl) ?_;cases h;exact W.ret (show qi _ _ _=some _ by kernel_rfl)
  replace h:=qp hb h;refine W.skip ?_;refine W.wk (env':=z0 []) ?_;refine W.seq ?_;refine W.seq ?_;refine W.rg ?_;refine WO.pk 1 (some (I6 ((List.map qt a2).length:Int))) (v:=I6 (a2.length:Int)) (by rw[List.length_map]) (e1:=z0 [(24,l41 none a2),(25,I6 (a2.length:Int))]) ?_;refine WO.fn (e2:=z0 [(26,.bool (decide ((a2.length:Int) > 10)))]) ?_;refine W.cb (decide ((a2.length:Int) > 10)) (fun hb=>?_) (fun hb=>?_)
  ·replace h:=qo hb h;refine W.seq ?_;refine W.rt (e2:=[(6,.nils),(7,.int .i64 3)]) ?_;refine W.weak [6,7] [] [(6,0,3,1,70006)] [] (env':=[(6,l3 (some 70006) ([]:(List Int))),(7,.int .i64 3)]) (by kernel_rfl) ?_;cases h;exact W.ret (show qi _ _ _=some _ by kernel_rfl)
  replace h:=qp hb h;refine W.skip ?_;refine W.wk (env':=z0 []) ?_;refine W.seq ?_
  let z1:=fun t=>EN ((4,.ptr (l41 none a2))::(8,.clo 80 [.ptr (l41 none a2),.ptr (l54 none a1),.ptr (.agg [I6 a3.qb,l3 none a3.qa])])::t)
  refine W.rt (e2:=z1 []) ?_;refine W.seq ?_
  let z2:=fun t=>z1 ((9,.nils)::t)
  refine W.rt (e2:=z2 []) ?_;refine W.seq ?_;refine W.seq ?_;refine W.rg ?_
  let z3:=fun t=>z2 ((28,.clo 80 [.ptr (l41 none a2),.ptr (l54 none a1),.ptr (.agg [I6 a3.qb,l3 none a3.qa])])::(29,l41 none a2)::(30,I6 (a2.length:Int))::t)
  refine WO.pk 2 (some (I6 ((List.map qt a2).length:Int))) (v:=I6 (a2.length:Int)) (by rw[List.length_map]) (e1:=z3 []) ?_;obtain⟨hc19,h⟩:=qg h
  let z4:=fun t=>z3 ((31,I6 (iShl .i64 1 (a2.length:Int)))::t)
  refine WO.pk 0 (if (a2.length:Int)<0 then none else some (I6 (iShl .i64 1 (a2.length:Int)))) (v:=I6 (iShl .i64 1 (a2.length:Int))) (if_neg (Xa hc19)) (e1:=z4 []) ?_;obtain⟨w20,hw20,h⟩:=qe h;refine WO.ck 1 (F:=80) (l:=[I6 (W6 ((iShl .i64 1 (a2.length:Int)) - 1))]) (C:=[.ptr (l41 none a2),.ptr (l54 none a1),.ptr (.agg [I6 a3.qb,l3 none a3.qa])]) (r:=.bool w20) (Vh fuel (W6 ((iShl .i64 1 (a2.length:Int)) - 1)) a2 a1 a3 w20 hw20) (e1:=z4 [(32,I6 (W6 ((iShl .i64 1 (a2.length:Int)) - 1))),(33,.bool w20)]) ?_;refine WO.fn (e2:=z2 [(34,.bool (!w20))]) ?_;refine W.cb (!w20) (fun hb=>?_) (fun hb=>?_)
  ·replace h:=qo hb h;refine W.seq ?_;refine W.rt (e2:=[(6,.nils),(7,.int .i64 0)]) ?_;refine W.weak [6,7] [] [(6,0,3,1,70006)] [] (env':=[(6,l3 (some 70006) ([]:(List Int))),(7,.int .i64 0)]) (by kernel_rfl) ?_;cases h;exact W.ret (show qi _ _ _=some _ by kernel_rfl)
  replace h:=qp hb h;refine W.skip ?_;refine W.wk (env':=z2 []) ?_;refine W.seq ?_;refine W.join (σ:=((List Int))) (fun s=>[(9,l3 (some 10900) s)]) (fun s=>(Jb) s=some r) (fun v34 h=>?_) (fun hK22=>?_)
  ·have h:(Jb) v34=some r:=h;unfold Jb at h;refine W.seq ?_;refine W.rt (e2:=[(6,l3 (some 10900) v34),(7,.int .i64 0)]) ?_;refine W.wk (env':=[(6,l3 (some 10900) v34),(7,.int .i64 0)]) ?_;cases h;exact W.ret (show qi _ _ _=some _ by kernel_rfl)
  refine W.seq ?_;refine W.rg ?_
  let z5:=fun t=>z2 ((35,l41 none a2)::(36,I6 (a2.length:Int))::t)
  refine WO.pk 1 (some (I6 ((List.map qt a2).length:Int))) (v:=I6 (a2.length:Int)) (by rw[List.length_map]) (e1:=z5 []) ?_;obtain⟨hc24,h⟩:=qg h;refine WO.pk 0 (if (a2.length:Int)<0 then none else some (I6 (iShl .i64 1 (a2.length:Int)))) (v:=I6 (iShl .i64 1 (a2.length:Int))) (if_neg (Xa hc24)) (e1:=z5 [(37,I6 (iShl .i64 1 (a2.length:Int)))]) ?_
  let z6:=fun t=>EN ((8,.clo 80 [.ptr (l41 none a2),.ptr (l54 none a1),.ptr (.agg [I6 a3.qb,l3 none a3.qa])])::t)
  refine WO.fn (e2:=z6 [(9,.nils),(37,I6 (iShl .i64 1 (a2.length:Int))),(38,.int .i64 0)]) ?_;refine W.block ?_;obtain⟨hl1,h⟩:=qg h;refine W.weak [8,9,37,38] [] [(9,0,3,1,10900)] [] (env':=z6 [(9,l3 (some 10900) ([]:(List Int))),(37,I6 (iShl .i64 1 (a2.length:Int))),(38,I6 ((0:Nat):Int))]) (by kernel_rfl) ?_;refine W.range (σ:=((List Int))) (List.range (Int.toNat (iShl .i64 1 (a2.length:Int)))) (fun k1 s=>z6 [(9,l3 (some 10900) s),(37,I6 (iShl .i64 1 (a2.length:Int))),(38,I6 (k1:Int))]) (fun r0 k0 s=>jy fuel a1 a2 a3 (Jb) r0 k0 s=some r) (fun v25 h=>?_) (fun x1 r1 k1 s hx1 hk1 h hN1=>?_) ([]:(List Int)) h
  ·have h:jy fuel a1 a2 a3 (Jb) [] ((List.range (Int.toNat (iShl .i64 1 (a2.length:Int))))).length v25=some r:=h;rw[jy.eq_1]at h;refine W.seq ?_;refine W.rg ?_
   let z7:=fun t=>z6 ((9,l3 (some 10900) v25)::(37,I6 (iShl .i64 1 (a2.length:Int)))::(38,I6 (((List.range (Int.toNat (iShl .i64 1 (a2.length:Int))))).length:Int))::(39,.bool false)::t)
   refine WO.pk 0 (some (.bool (decide ((((List.range (Int.toNat (iShl .i64 1 (a2.length:Int))))).length:Int)<(iShl .i64 1 (a2.length:Int)))))) (v:=.bool false) (by rw[UF (n:=(iShl .i64 1 (a2.length:Int)))]) (e1:=z7 []) ?_;refine WO.fn (e2:=z7 []) ?_;refine W.seq ?_;refine W.cb false (fun h=>Bool.noConfusion h) (fun _=>?_);refine W.exit ?_;refine W.wk (env':=[(9,l3 (some 10900) v25)]) ?_;exact hK22 v25 h
  ·obtain⟨v25,rfl⟩:∃ x,x=s:=⟨s,rfl⟩;have h:jy fuel a1 a2 a3 (Jb) (x1::r1) k1 v25=some r:=h;rw[jy.eq_2]at h;refine W.seq ?_;refine W.rg ?_
   let z8:=fun t=>z6 ((9,l3 (some 10900) v25)::(37,I6 (iShl .i64 1 (a2.length:Int)))::(38,I6 (k1:Int))::t)
   refine WO.pk 0 (some (.bool (decide ((k1:Int)<(iShl .i64 1 (a2.length:Int)))))) (v:=.bool true) (by rw[NQ hk1]) (e1:=z8 [(39,.bool true)]) ?_;refine WO.fn (e2:=z8 [(39,.bool true)]) ?_;refine W.seq ?_;refine W.cb true (fun _=>?_) (fun h=>Bool.noConfusion h);refine W.skip ?_;refine W.wk (env':=z8 []) ?_;refine W.seq ?_;refine W.join (σ:=((List Int))) (fun s=>z6 [(9,l3 (some 10900) s),(37,I6 (iShl .i64 1 (a2.length:Int))),(38,I6 (k1:Int))]) (fun s=>(JN (jy fuel a1 a2 a3 (Jb) r1 (k1+1))) s=some r) (fun v33 h=>?_) (fun hK26=>?_)
   ·have h:(JN (jy fuel a1 a2 a3 (Jb) r1 (k1+1))) v33=some r:=h;unfold JN at h;refine W.rg ?_
    let z9:=fun t=>z6 ((9,l3 (some 10900) v33)::(37,I6 (iShl .i64 1 (a2.length:Int)))::t)
    refine WO.pk 0 (some (I6 (IntKind.wrap .i64 ((k1:Int)+1)))) (v:=I6 ((k1+1:Nat):Int)) (by rw[qC hl1 hk1]) (e1:=z9 [(38,I6 (k1:Int)),(54,I6 ((k1+1:Nat):Int))]) ?_;refine WO.fn (e2:=z9 [(38,I6 ((k1+1:Nat):Int))]) ?_;exact hN1 v33 h
   refine W.block ?_;refine W.seq ?_
   let z10:=fun t=>z6 ((9,l3 (some 10900) v25)::(10,.ptr (I6 (k1:Int)))::(37,I6 (iShl .i64 1 (a2.length:Int)))::(38,I6 (k1:Int))::t)
   refine W.regT [8,9,10,37,38] [10] [] [] (e2:=z10 []) (by kernel_rfl) (by kernel_rfl) (fun _ h=>h) ?_;refine W.seq ?_;refine W.join (σ:=(Bool)) (fun s=>z10 [(49,.bool s)]) (fun s=>(QG k1 v25 (JN (jy fuel a1 a2 a3 (Jb) r1 (k1+1)))) s=some r) (fun v31 h=>?_) (fun hK28=>?_)
   ·have h:(QG k1 v25 (JN (jy fuel a1 a2 a3 (Jb) r1 (k1+1)))) v31=some r:=h;unfold QG at h;refine W.cb v31 (fun hb=>?_) (fun hb=>?_)
    ·replace h:=qo hb h;refine W.rg ?_;obtain⟨hc32,h⟩:=qg h;refine WO.appendK 3 (d:=53) (e:=3) (s:=1) (bytes:=8) (xs:=(M6 v25)) (ys:=(M6 [(k1:Int)])) (zs:=(M6 (v25++[(k1:Int)]))) (env1:=[(8,.clo 80 [.ptr (l41 none a2),.ptr (l54 none a1),.ptr (.agg [I6 a3.qb,l3 none a3.qa])]),(9,l3 none v25),(10,.ptr (I6 (k1:Int))),(37,I6 (iShl .i64 1 (a2.length:Int))),(38,I6 (k1:Int)),(49,.bool v31),(50,l3 none v25),(51,I6 (k1:Int)),(52,l3 (some 52) [(k1:Int)])]) (by kernel_rfl) (List.map_append.symm) (by rw[List.length_map];exact hc32) (e1:=z6 [(9,l3 none v25),(10,.ptr (I6 (k1:Int))),(37,I6 (iShl .i64 1 (a2.length:Int))),(38,I6 (k1:Int)),(49,.bool v31),(50,l3 none v25),(51,I6 (k1:Int)),(52,l3 (some 52) [(k1:Int)]),(53,l3 (some 53) (v25++[(k1:Int)]))]) (by kernel_rfl) ?_;refine WO.fin [8,9,37,38] [] [] [(53,some 10900)] (e2:=z6 [(9,l3 (some 10900) (v25++[(k1:Int)])),(37,I6 (iShl .i64 1 (a2.length:Int))),(38,I6 (k1:Int))]) (by kernel_rfl) (fun _ h=>h) ?_;exact hK26 (v25++[(k1:Int)]) h
    replace h:=qp hb h;refine W.skip ?_;refine W.wk (env':=z8 []) ?_;exact hK26 v25 h
   refine W.rg ?_;obtain⟨w29,hw29,h⟩:=qe h
   let z11:=fun t=>z10 ((41,l3 (some 10900) v25)::(42,.clo 82 [.ptr (I6 (k1:Int))])::(43,.bool w29)::t)
   refine WO.ck 2 (F:=36) (l:=[l3 none v25,.clo 82 [.ptr (I6 (k1:Int))]]) (C:=[]) (r:=.bool w29) (Vg v25 (fun y0=>YB y0 (k1:Int)) 82 [.ptr (I6 (k1:Int))] (by kernel_rfl) (fun y0 r h=>Hu y0 (k1:Int) r h) w29 hw29) (e1:=z11 []) ?_;refine WO.bk 2 (fun b=>z11 [(44,.bool b),(45,.bool b)]) (!w29) (fun hb=>?_) (fun hb=>?_)
   ·replace h:=qo hb h;obtain⟨w30,hw30,h⟩:=qe h;refine WO.ck 2 (F:=80) (l:=[I6 (k1:Int)]) (C:=[.ptr (l41 none a2),.ptr (l54 none a1),.ptr (.agg [I6 a3.qb,l3 none a3.qa])]) (r:=.bool w30) (Vh fuel (k1:Int) a2 a1 a3 w30 hw30) (e1:=z11 [(44,.bool true),(45,.bool true),(46,.clo 80 [.ptr (l41 none a2),.ptr (l54 none a1),.ptr (.agg [I6 a3.qb,l3 none a3.qa])]),(47,I6 (k1:Int)),(48,.bool w30)]) ?_;refine WO.fn (e2:=z10 [(49,.bool w30)]) ?_;exact hK28 w30 h
   replace h:=qp hb h;refine WO.fn (e2:=z10 [(49,.bool false)]) ?_;exact hK28 false h
 refine W.rg ?_;obtain⟨w7,hw7,h⟩:=qe h
 let z12:=fun t=>z0 ((11,l54 none a1)::(12,l41 none a2)::(13,.bool w7)::t)
 refine WO.ck 2 (F:=56) (l:=[l54 none a1,l41 none a2]) (C:=[]) (r:=.bool w7) (NF fuel a1 a2 w7 hw7) (e1:=z12 []) ?_;refine WO.bk 2 (fun b=>z12 [(14,.bool b),(15,.bool b)]) (!w7) (fun hb=>?_) (fun hb=>?_)
 ·replace h:=qo hb h;refine WO.fn (e2:=z0 [(23,.bool true)]) ?_;exact hK6 true h
 replace h:=qp hb h;obtain⟨w8,hw8,h⟩:=qe h
 let z13:=fun t=>z12 ((14,.bool false)::(15,.bool false)::(16,.agg [I6 a3.qb,l3 none a3.qa])::(17,.bool w8)::t)
 refine WO.ck 1 (F:=75) (l:=[.agg [I6 a3.qb,l3 none a3.qa]]) (C:=[]) (r:=.bool w8) (UT fuel a3 w8 hw8) (e1:=z13 []) ?_;refine WO.bk 3 (fun b=>z13 [(18,.bool b),(19,.bool b),(20,.bool b)]) (!w8) (fun hb=>?_) (fun hb=>?_)
 ·replace h:=qo hb h;refine WO.fn (e2:=z0 [(23,.bool true)]) ?_;exact hK6 true h
 replace h:=qp hb h;obtain⟨w9,hw9,h⟩:=qe h;refine WO.ck 1 (F:=76) (l:=[l54 none a1,.clo 77 []]) (C:=[]) (r:=.bool w9) (Zu a1 (fun y0=>Xn y0) 77 [] (by kernel_rfl) (fun y0 r h=>Hv y0 r h) w9 hw9) (e1:=z13 [(18,.bool false),(19,.bool false),(20,.bool false),(21,l54 none a1),(22,.bool w9)]) ?_;refine WO.fn (e2:=z0 [(23,.bool w9)]) ?_;exact hK6 w9 h
def JB (v18:Bool):Option Bool :=
 (some v18)
def JA (v22:Bool):Option Bool :=
 (some v22)
def Jz (v27:Bool):Option Bool :=
 (some v27)
def jg (fuel:Nat) (a1:(List rf3Rule)) (a2:(List apiFact)) (a3:apiFact) (w9:((List Int)×Int)) (v15:Bool):Option Bool :=
 (bif v15 then (bif ((w9.1.length:Int) == 0) then (bif (w9.2 == 2) then ((YO fuel).bind fun w17=>((JB) w17)) else ((JB) false)) else ((JB) false)) else (bif (decide ((a2.length:Int) > 10)) then (bif ((w9.1.length:Int) == 0) then (bif (w9.2 == 3) then ((YO fuel).bind fun w21=>((JA) w21)) else ((JA) false)) else ((JA) false)) else ((Za fuel a1 a2 a3).bind fun w24=>((Xg w9.1 w24).bind fun w25=>(bif w25 then (bif (w9.2 == 0) then ((YO fuel).bind fun w26=>((Jz) w26)) else ((Jz) false)) else ((Jz) false))))))
def XV (fuel:Nat) (a1:(List rf3Rule)) (a2:(List apiFact)) (a3:apiFact):Option Bool :=
 ((DY a1).bind fun w6=>((Vp a2).bind fun w7=>((Un a3).bind fun w8=>((Xo fuel w6 w7 w8).bind fun w9=>((Zn a1 a2).bind fun w12=>(bif (!w12) then ((jg fuel a1 a2 a3 w9) true) else ((YN a3).bind fun w13=>(bif (!w13) then ((jg fuel a1 a2 a3 w9) true) else ((Vl a1).bind fun w14=>((jg fuel a1 a2 a3 w9) (!w14)))))))))))
theorem Ue (fuel:Nat) (a1:(List rf3Rule)) (a2:(List apiFact)) (a3:apiFact) (r:Bool) (h:XV fuel a1 a2 a3=some r):Run Try.prog (.call 9 [l94 none a1,l41 none a2,.agg [I6 a3.qb,l3 none a3.qa]] (.bool r)):=by
 refine cW Try.func9 rfl (env0:=[(0,l94 none a1),(1,l41 none a2),(2,.agg [I6 a3.qb,l3 none a3.qa])]) ?_;unfold XV at h;refine W.seq ?_
 let z0:=fun t=>EN ((0,l94 none a1)::(1,l41 none a2)::(5,.ptr (.agg [I6 a3.qb,l3 none a3.qa]))::t)
 refine W.regT [0,1,5] [5] [] [] (e2:=z0 []) (by kernel_rfl) (by kernel_rfl) (fun _ h=>h) ?_;refine W.seq ?_;refine W.rg ?_;obtain⟨w6,hw6,h⟩:=qe h
 let z1:=fun t=>z0 ((10,l94 none a1)::(11,l54 none w6)::t)
 refine WO.ck 1 (F:=18) (l:=[l94 none a1]) (C:=[]) (r:=l54 (some 1) w6) (qel a1 w6 hw6) (e1:=z1 []) ?_;obtain⟨w7,hw7,h⟩:=qe h
 let z2:=fun t=>z1 ((12,l41 none a2)::(13,l41 none w7)::t)
 refine WO.ck 1 (F:=19) (l:=[l41 none a2]) (C:=[]) (r:=l41 (some 1) w7) (qaJ a2 w7 hw7) (e1:=z2 []) ?_;obtain⟨w8,hw8,h⟩:=qe h
 let z3:=fun t=>z2 ((14,.agg [I6 a3.qb,l3 none a3.qa])::(15,.agg [I6 w8.qb,l3 none w8.qa])::t)
 refine WO.ck 1 (F:=26) (l:=[.agg [I6 a3.qb,l3 none a3.qa]]) (C:=[]) (r:=.agg [I6 w8.qb,l3 none w8.qa]) (qcm a3 w8 hw8) (e1:=z3 []) ?_;obtain⟨w9,hw9,h⟩:=qe h;refine WO.ck 0 (F:=32) (l:=[l54 none w6,l41 none w7,.agg [I6 w8.qb,l3 none w8.qa]]) (C:=[]) (r:=.tup [l3 none w9.1,I6 w9.2]) (DQ fuel w6 w7 w8 w9 hw9) (e1:=z3 [(16,.tup [l3 none w9.1,I6 w9.2])]) ?_
 let z4:=fun t=>z0 ((7,l3 none w9.1)::(8,I6 w9.2)::t)
 refine WO.fn (e2:=z4 []) ?_;refine W.seq ?_;refine W.block ?_;refine W.seq ?_;refine W.join (σ:=(Bool)) (fun s=>z4 [(19,.bool s)]) (fun s=>(jg fuel a1 a2 a3 w9) s=some r) (fun v15 h=>?_) (fun hK11=>?_)
 ·have h:(jg fuel a1 a2 a3 w9) v15=some r:=h;unfold jg at h;refine W.cb v15 (fun hb=>?_) (fun hb=>?_)
  ·replace h:=qo hb h;refine W.seq ?_;refine W.join (σ:=(Bool)) (fun s=>[(6,.bool s)]) (fun s=>(JB) s=some r) (fun v18 h=>?_) (fun hK16=>?_)
   ·have h:(JB) v18=some r:=h;unfold JB at h;refine W.wk (env':=[(6,.bool v18)]) ?_;cases h;exact W.ret (show qi _ _ _=some _ by kernel_rfl)
   refine W.rg ?_
   let z5:=fun t=>z4 ((19,.bool v15)::(34,l3 none w9.1)::(35,I6 (w9.1.length:Int))::t)
   refine WO.pk 1 (some (I6 ((M6 w9.1).length:Int))) (v:=I6 (w9.1.length:Int)) (by rw[List.length_map]) (e1:=z5 []) ?_;refine WO.bk 2 (fun b=>z5 [(36,.bool b),(37,.bool b)]) ((w9.1.length:Int) == 0) (fun hb=>?_) (fun hb=>?_)
   ·replace h:=qo hb h
    let z6:=fun t=>z5 ((36,.bool true)::(37,.bool true)::(38,I6 w9.2)::t)
    refine WO.bk 4 (fun b=>z6 [(39,.bool b),(40,.bool b),(41,.bool b)]) (w9.2 == 2) (fun hb=>?_) (fun hb=>?_)
    ·replace h:=qo hb h;obtain⟨w17,hw17,h⟩:=qe h;refine WO.ck 0 (F:=21) (l:=[]) (C:=[]) (r:=.bool w17) (ZT fuel w17 hw17) (e1:=z6 [(39,.bool true),(40,.bool true),(41,.bool true),(42,.bool w17)]) ?_;refine WO.fn (e2:=[(6,.bool w17)]) ?_;exact hK16 w17 h
    replace h:=qp hb h;refine WO.fn (e2:=[(6,.bool false)]) ?_;exact hK16 false h
   replace h:=qp hb h;refine WO.fn (e2:=[(6,.bool false)]) ?_;exact hK16 false h
  replace h:=qp hb h;refine W.seq ?_;refine W.rg ?_;refine WO.pk 1 (some (I6 ((List.map qt a2).length:Int))) (v:=I6 (a2.length:Int)) (by rw[List.length_map]) (e1:=z4 [(19,.bool v15),(45,l41 none a2),(46,I6 (a2.length:Int))]) ?_
  let z7:=fun t=>z4 ((44,.bool (decide ((a2.length:Int) > 10)))::t)
  refine WO.fn (e2:=z7 []) ?_;refine W.cb (decide ((a2.length:Int) > 10)) (fun hb=>?_) (fun hb=>?_)
  ·replace h:=qo hb h;refine W.seq ?_;refine W.join (σ:=(Bool)) (fun s=>[(6,.bool s)]) (fun s=>(JA) s=some r) (fun v22 h=>?_) (fun hK20=>?_)
   ·have h:(JA) v22=some r:=h;unfold JA at h;refine W.wk (env':=[(6,.bool v22)]) ?_;cases h;exact W.ret (show qi _ _ _=some _ by kernel_rfl)
   refine W.rg ?_
   let z8:=fun t=>z7 ((48,l3 none w9.1)::(49,I6 (w9.1.length:Int))::t)
   refine WO.pk 1 (some (I6 ((M6 w9.1).length:Int))) (v:=I6 (w9.1.length:Int)) (by rw[List.length_map]) (e1:=z8 []) ?_;refine WO.bk 2 (fun b=>z8 [(50,.bool b),(51,.bool b)]) ((w9.1.length:Int) == 0) (fun hb=>?_) (fun hb=>?_)
   ·replace h:=qo hb h
    let z9:=fun t=>z8 ((50,.bool true)::(51,.bool true)::(52,I6 w9.2)::t)
    refine WO.bk 4 (fun b=>z9 [(53,.bool b),(54,.bool b),(55,.bool b)]) (w9.2 == 3) (fun hb=>?_) (fun hb=>?_)
    ·replace h:=qo hb h;obtain⟨w21,hw21,h⟩:=qe h;refine WO.ck 0 (F:=21) (l:=[]) (C:=[]) (r:=.bool w21) (ZT fuel w21 hw21) (e1:=z9 [(53,.bool true),(54,.bool true),(55,.bool true),(56,.bool w21)]) ?_;refine WO.fn (e2:=[(6,.bool w21)]) ?_;exact hK20 w21 h
    replace h:=qp hb h;refine WO.fn (e2:=[(6,.bool false)]) ?_;exact hK20 false h
   replace h:=qp hb h;refine WO.fn (e2:=[(6,.bool false)]) ?_;exact hK20 false h
  replace h:=qp hb h;refine W.skip ?_;refine W.wk (env':=z4 []) ?_;refine W.seq ?_;refine W.join (σ:=(Bool)) (fun s=>[(6,.bool s)]) (fun s=>(Jz) s=some r) (fun v27 h=>?_) (fun hK23=>?_)
  ·have h:(Jz) v27=some r:=h;unfold Jz at h;refine W.wk (env':=[(6,.bool v27)]) ?_;cases h;exact W.ret (show qi _ _ _=some _ by kernel_rfl)
  refine W.rg ?_;obtain⟨w24,hw24,h⟩:=qe h
  let z10:=fun t=>z4 ((58,l3 none w9.1)::(59,l94 none a1)::(60,l41 none a2)::(61,.agg [I6 a3.qb,l3 none a3.qa])::(62,l3 (some 62) w24)::t)
  refine WO.ck 4 (F:=35) (l:=[l94 none a1,l41 none a2,.agg [I6 a3.qb,l3 none a3.qa]]) (C:=[]) (r:=l3 (some 1) w24) (Dz fuel a1 a2 a3 w24 hw24) (e1:=z10 []) ?_;obtain⟨w25,hw25,h⟩:=qe h;refine WO.ck 0 (F:=34) (l:=[l3 none w9.1,l3 none w24]) (C:=[]) (r:=.bool w25) (Vf w9.1 w24 w25 hw25) (e1:=z10 [(63,.bool w25)]) ?_;refine WO.bk 1 (fun b=>z10 [(63,.bool b),(64,.bool b)]) w25 (fun hb=>?_) (fun hb=>?_)
  ·replace h:=qo hb h
   let z11:=fun t=>z10 ((63,.bool true)::(64,.bool true)::(65,I6 w9.2)::t)
   refine WO.bk 4 (fun b=>z11 [(66,.bool b),(67,.bool b),(68,.bool b)]) (w9.2 == 0) (fun hb=>?_) (fun hb=>?_)
   ·replace h:=qo hb h;obtain⟨w26,hw26,h⟩:=qe h;refine WO.ck 0 (F:=21) (l:=[]) (C:=[]) (r:=.bool w26) (ZT fuel w26 hw26) (e1:=z11 [(66,.bool true),(67,.bool true),(68,.bool true),(69,.bool w26)]) ?_;refine WO.fn (e2:=[(6,.bool w26)]) ?_;exact hK23 w26 h
   replace h:=qp hb h;refine WO.fn (e2:=[(6,.bool false)]) ?_;exact hK23 false h
  replace h:=qp hb h;refine WO.fn (e2:=[(6,.bool false)]) ?_;exact hK23 false h
 refine W.rg ?_;obtain⟨w12,hw12,h⟩:=qe h
 let z12:=fun t=>z4 ((20,l94 none a1)::(21,l41 none a2)::(22,.bool w12)::t)
 refine WO.ck 2 (F:=20) (l:=[l94 none a1,l41 none a2]) (C:=[]) (r:=.bool w12) (qaH a1 a2 w12 hw12) (e1:=z12 []) ?_;refine WO.bk 2 (fun b=>z12 [(23,.bool b),(24,.bool b)]) (!w12) (fun hb=>?_) (fun hb=>?_)
 ·replace h:=qo hb h;refine WO.fn (e2:=z4 [(19,.bool true)]) ?_;exact hK11 true h
 replace h:=qp hb h;obtain⟨w13,hw13,h⟩:=qe h
 let z13:=fun t=>z12 ((23,.bool false)::(24,.bool false)::(25,.agg [I6 a3.qb,l3 none a3.qa])::(26,.bool w13)::t)
 refine WO.ck 1 (F:=33) (l:=[.agg [I6 a3.qb,l3 none a3.qa]]) (C:=[]) (r:=.bool w13) (Ub a3 w13 hw13) (e1:=z13 []) ?_;refine WO.bk 3 (fun b=>z13 [(27,.bool b),(28,.bool b),(29,.bool b)]) (!w13) (fun hb=>?_) (fun hb=>?_)
 ·replace h:=qo hb h;refine WO.fn (e2:=z4 [(19,.bool true)]) ?_;exact hK11 true h
 replace h:=qp hb h;obtain⟨w14,hw14,h⟩:=qe h;refine WO.ck 1 (F:=25) (l:=[l94 none a1]) (C:=[]) (r:=.bool w14) (qaI a1 w14 hw14) (e1:=z13 [(27,.bool false),(28,.bool false),(29,.bool false),(30,l94 none a1),(31,.bool w14)]) ?_;refine WO.fn (e2:=z4 [(19,.bool (!w14))]) ?_;exact hK11 (!w14) h
end Go.AM
