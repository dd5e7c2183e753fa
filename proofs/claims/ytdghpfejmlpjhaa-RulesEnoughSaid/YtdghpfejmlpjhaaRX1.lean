/- s -/
import Derived.Test.YtdghpfejmlpjhaaRXT
set_option maxRecDepth 100000
set_option linter.unusedVariables false
set_option linter.unusedSimpArgs false
namespace Go.AM
open Go.Proofs
def ji:Option Int :=
 (some (-1))
def qK (g2:(ruRule→Option Bool)) (K4:(Option Int)):List ruRule→Nat→Option Int
 | [],k1=>K4
 | x1::r1,k1=>((g2 x1).bind fun w9=>(bif w9 then (some (k1:Int)) else (qK g2 K4 r1 (k1+1))))
def QI (a1:(List ruRule)) (g2:(ruRule→Option Bool)):Option Int :=
 (chk (lenOk a1) (qK g2 (ji) a1 0))
theorem ZX (a1:(List ruRule)) (g2:(ruRule→Option Bool)) (F_g2:Nat) (C_g2:List AV) (hok_g2:okFn Try.prog F_g2=true) (hrun_g2:∀ (x0:ruRule) r,g2 x0=some r→Run Try.prog (.call F_g2 ([.agg [I6 x0.qf.qb,l3 none x0.qf.qa,l56 none x0.qe]]++C_g2) (.bool r))) (r:Int) (h:QI a1 g2=some r):Run Try.prog (.call 119 [l54 none a1,.clo F_g2 C_g2] (I6 r)):=by
 refine cW Try.func119 rfl (env0:=[(0,l54 none a1),(1,.clo F_g2 C_g2)]) ?_;unfold QI at h;refine W.seq ?_
 let z0:=fun t=>EN ((0,l54 none a1)::(1,.clo F_g2 C_g2)::t)
 refine W.rt (e2:=z0 []) ?_;refine W.seq ?_;refine W.join (σ:=Unit) (fun s=>[]) (fun s=>(ji)=some r) (fun s h=>?_) (fun hK4=>?_)
 ·have h:(ji)=some r:=h;unfold ji at h;refine W.seq ?_;refine W.rt (e2:=[(4,I6 (-1))]) ?_;refine W.wk (env':=[(4,I6 (-1))]) ?_;cases h;exact W.ret (show qj _ _ _=some _ by kernel_rfl)
 refine W.seq ?_;refine W.rg ?_;refine WO.pk 1 (some (I6 ((List.map Ja a1).length:Int))) (v:=I6 (a1.length:Int)) (by rw[List.length_map]) (e1:=z0 [(6,l54 none a1),(7,I6 (a1.length:Int))]) ?_
 let z1:=fun t=>z0 ((7,I6 (a1.length:Int))::t)
 refine WO.fn (e2:=z1 [(8,.int .i64 0)]) ?_;refine W.block ?_;obtain⟨hl1,h⟩:=qh h;refine W.wk (env':=z1 [(8,I6 ((0:Nat):Int))]) ?_;refine W.range (σ:=Unit) a1 (fun k1 s=>z1 [(8,I6 (k1:Int))]) (fun r0 k0 s=>qK g2 (ji) r0 k0=some r) (fun s h=>?_) (fun x1 r1 k1 s hx1 hk1 h hN1=>?_) () h
 ·have h:qK g2 (ji) [] (a1).length=some r:=h;rw[qK.eq_1]at h;refine W.seq ?_;refine W.rg ?_
  let z2:=fun t=>z1 ((8,I6 ((a1).length:Int))::(9,.bool false)::t)
  refine WO.pk 0 (some (.bool (decide (((a1).length:Int)<(a1.length:Int))))) (v:=.bool false) (by rw[qR (l:=a1)]) (e1:=z2 []) ?_;refine WO.fn (e2:=z2 []) ?_;refine W.seq ?_;refine W.cb false (fun h=>Bool.noConfusion h) (fun _=>?_);refine W.exit ?_;refine W.wk (env':=[]) ?_;exact hK4 () h
 ·have h:qK g2 (ji) (x1::r1) k1=some r:=h;rw[qK.eq_2]at h;refine W.seq ?_;refine W.rg ?_
  let z3:=fun t=>z1 ((8,I6 (k1:Int))::t)
  refine WO.pk 0 (some (.bool (decide ((k1:Int)<(a1.length:Int))))) (v:=.bool true) (by rw[jr hk1]) (e1:=z3 [(9,.bool true)]) ?_;refine WO.fn (e2:=z3 [(9,.bool true)]) ?_;refine W.seq ?_;refine W.cb true (fun _=>?_) (fun h=>Bool.noConfusion h);refine W.skip ?_;refine W.wk (env':=z3 []) ?_;refine W.seq ?_;refine W.block ?_;refine W.seq ?_
  let z4:=fun t=>z0 ((5,I6 (k1:Int))::(7,I6 (a1.length:Int))::(8,I6 (k1:Int))::t)
  refine W.rt (e2:=z4 []) ?_;refine W.seq ?_;refine W.rg ?_
  let z5:=fun t=>z4 ((11,.clo F_g2 C_g2)::(12,l54 none a1)::(13,I6 (k1:Int))::(14,.ptr (.agg [I6 x1.qf.qb,l3 none x1.qf.qa,l56 none x1.qe]))::t)
  refine WO.pk 3 (if (0:Int)≤(k1:Int) then ((List.map Ja a1)[Int.toNat (k1:Int)]?).map AV.ptr else none) (v:=.ptr (.agg [I6 x1.qf.qb,l3 none x1.qf.qa,l56 none x1.qe])) (js (f:=Ja) hx1) (e1:=z5 []) ?_;obtain⟨w9,hw9,h⟩:=qc h;refine WO.callK 1 (F:=F_g2) (l:=[.agg [I6 x1.qf.qb,l3 none x1.qf.qa,l56 none x1.qe]]) (C:=C_g2) (r:=.bool w9) (by kernel_rfl) hok_g2 (hrun_g2 x1 w9 hw9) (e1:=z5 [(15,.agg [I6 x1.qf.qb,l3 none x1.qf.qa,l56 none x1.qe]),(16,.bool w9)]) (by kernel_rfl) ?_;refine WO.fn (e2:=z4 [(16,.bool w9)]) ?_;refine W.cb w9 (fun hb=>?_) (fun hb=>?_)
  ·replace h:=qt hb h;refine W.seq ?_;refine W.rt (e2:=[(4,I6 (k1:Int))]) ?_;refine W.wk (env':=[(4,I6 (k1:Int))]) ?_;cases h;exact W.ret (show qj _ _ _=some _ by kernel_rfl)
  replace h:=qu hb h;refine W.skip ?_;refine W.wk (env':=z3 []) ?_;refine W.rg ?_;refine WO.pk 0 (some (I6 (IntKind.wrap .i64 ((k1:Int)+1)))) (v:=I6 ((k1+1:Nat):Int)) (by rw[qz hl1 hk1]) (e1:=z3 [(18,I6 ((k1+1:Nat):Int))]) ?_;refine WO.fn (e2:=z1 [(8,I6 ((k1+1:Nat):Int))]) ?_;exact hN1 () h
def Jp (a1:(List ruRule)) (g2:(ruRule→Option Bool)):Option Bool :=
 ((QI a1 g2).bind fun w5=>(some (decide (w5 ≥ 0))))
theorem Zl (a1:(List ruRule)) (g2:(ruRule→Option Bool)) (F_g2:Nat) (C_g2:List AV) (hok_g2:okFn Try.prog F_g2=true) (hrun_g2:∀ (x0:ruRule) r,g2 x0=some r→Run Try.prog (.call F_g2 ([.agg [I6 x0.qf.qb,l3 none x0.qf.qa,l56 none x0.qe]]++C_g2) (.bool r))) (r:Bool) (h:Jp a1 g2=some r):Run Try.prog (.call 76 [l54 none a1,.clo F_g2 C_g2] (.bool r)):=by
 refine cW Try.func76 rfl (env0:=[(0,l54 none a1),(1,.clo F_g2 C_g2)]) ?_;unfold Jp at h;refine W.seq ?_;refine W.rt (e2:=[(0,l54 none a1),(1,.clo F_g2 C_g2)]) ?_;refine W.seq ?_;refine W.rg ?_;obtain⟨w5,hw5,h⟩:=qc h;refine WO.ck 2 (F:=119) (l:=[l54 none a1,.clo F_g2 C_g2]) (C:=[]) (r:=I6 w5) (ZX a1 g2 F_g2 C_g2 hok_g2 hrun_g2 w5 hw5) (e1:=[(0,l54 none a1),(1,.clo F_g2 C_g2),(5,l54 none a1),(6,.clo F_g2 C_g2),(7,I6 w5)]) ?_;refine WO.fn (e2:=[(4,.bool (decide (w5 ≥ 0)))]) ?_;refine W.wk (env':=[(4,.bool (decide (w5 ≥ 0)))]) ?_;cases h;exact W.ret (show qj _ _ _=some _ by kernel_rfl)
def jl:Option Int :=
 (some (-1))
def qO (g2:(ruLit→Option Bool)) (K4:(Option Int)):List ruLit→Nat→Option Int
 | [],k1=>K4
 | x1::r1,k1=>((g2 x1).bind fun w9=>(bif w9 then (some (k1:Int)) else (qO g2 K4 r1 (k1+1))))
def QL (a1:(List ruLit)) (g2:(ruLit→Option Bool)):Option Int :=
 (chk (lenOk a1) (qO g2 (jl) a1 0))
theorem Vs (a1:(List ruLit)) (g2:(ruLit→Option Bool)) (F_g2:Nat) (C_g2:List AV) (hok_g2:okFn Try.prog F_g2=true) (hrun_g2:∀ (x0:ruLit) r,g2 x0=some r→Run Try.prog (.call F_g2 ([.agg [.bool x0.qp,I6 x0.qd.qb,l3 none x0.qd.qa]]++C_g2) (.bool r))) (r:Int) (h:QL a1 g2=some r):Run Try.prog (.call 120 [l56 none a1,.clo F_g2 C_g2] (I6 r)):=by
 refine cW Try.func120 rfl (env0:=[(0,l56 none a1),(1,.clo F_g2 C_g2)]) ?_;unfold QL at h;refine W.seq ?_
 let z0:=fun t=>EN ((0,l56 none a1)::(1,.clo F_g2 C_g2)::t)
 refine W.rt (e2:=z0 []) ?_;refine W.seq ?_;refine W.join (σ:=Unit) (fun s=>[]) (fun s=>(jl)=some r) (fun s h=>?_) (fun hK4=>?_)
 ·have h:(jl)=some r:=h;unfold jl at h;refine W.seq ?_;refine W.rt (e2:=[(4,I6 (-1))]) ?_;refine W.wk (env':=[(4,I6 (-1))]) ?_;cases h;exact W.ret (show qj _ _ _=some _ by kernel_rfl)
 refine W.seq ?_;refine W.rg ?_;refine WO.pk 1 (some (I6 ((List.map Qu a1).length:Int))) (v:=I6 (a1.length:Int)) (by rw[List.length_map]) (e1:=z0 [(6,l56 none a1),(7,I6 (a1.length:Int))]) ?_
 let z1:=fun t=>z0 ((7,I6 (a1.length:Int))::t)
 refine WO.fn (e2:=z1 [(8,.int .i64 0)]) ?_;refine W.block ?_;obtain⟨hl1,h⟩:=qh h;refine W.wk (env':=z1 [(8,I6 ((0:Nat):Int))]) ?_;refine W.range (σ:=Unit) a1 (fun k1 s=>z1 [(8,I6 (k1:Int))]) (fun r0 k0 s=>qO g2 (jl) r0 k0=some r) (fun s h=>?_) (fun x1 r1 k1 s hx1 hk1 h hN1=>?_) () h
 ·have h:qO g2 (jl) [] (a1).length=some r:=h;rw[qO.eq_1]at h;refine W.seq ?_;refine W.rg ?_
  let z2:=fun t=>z1 ((8,I6 ((a1).length:Int))::(9,.bool false)::t)
  refine WO.pk 0 (some (.bool (decide (((a1).length:Int)<(a1.length:Int))))) (v:=.bool false) (by rw[qR (l:=a1)]) (e1:=z2 []) ?_;refine WO.fn (e2:=z2 []) ?_;refine W.seq ?_;refine W.cb false (fun h=>Bool.noConfusion h) (fun _=>?_);refine W.exit ?_;refine W.wk (env':=[]) ?_;exact hK4 () h
 ·have h:qO g2 (jl) (x1::r1) k1=some r:=h;rw[qO.eq_2]at h;refine W.seq ?_;refine W.rg ?_
  let z3:=fun t=>z1 ((8,I6 (k1:Int))::t)
  refine WO.pk 0 (some (.bool (decide ((k1:Int)<(a1.length:Int))))) (v:=.bool true) (by rw[jr hk1]) (e1:=z3 [(9,.bool true)]) ?_;refine WO.fn (e2:=z3 [(9,.bool true)]) ?_;refine W.seq ?_;refine W.cb true (fun _=>?_) (fun h=>Bool.noConfusion h);refine W.skip ?_;refine W.wk (env':=z3 []) ?_;refine W.seq ?_;refine W.block ?_;refine W.seq ?_
  let z4:=fun t=>z0 ((5,I6 (k1:Int))::(7,I6 (a1.length:Int))::(8,I6 (k1:Int))::t)
  refine W.rt (e2:=z4 []) ?_;refine W.seq ?_;refine W.rg ?_
  let z5:=fun t=>z4 ((11,.clo F_g2 C_g2)::(12,l56 none a1)::(13,I6 (k1:Int))::(14,.ptr (.agg [.bool x1.qp,I6 x1.qd.qb,l3 none x1.qd.qa]))::t)
  refine WO.pk 3 (if (0:Int)≤(k1:Int) then ((List.map Qu a1)[Int.toNat (k1:Int)]?).map AV.ptr else none) (v:=.ptr (.agg [.bool x1.qp,I6 x1.qd.qb,l3 none x1.qd.qa])) (js (f:=Qu) hx1) (e1:=z5 []) ?_;obtain⟨w9,hw9,h⟩:=qc h;refine WO.callK 1 (F:=F_g2) (l:=[.agg [.bool x1.qp,I6 x1.qd.qb,l3 none x1.qd.qa]]) (C:=C_g2) (r:=.bool w9) (by kernel_rfl) hok_g2 (hrun_g2 x1 w9 hw9) (e1:=z5 [(15,.agg [.bool x1.qp,I6 x1.qd.qb,l3 none x1.qd.qa]),(16,.bool w9)]) (by kernel_rfl) ?_;refine WO.fn (e2:=z4 [(16,.bool w9)]) ?_;refine W.cb w9 (fun hb=>?_) (fun hb=>?_)
  ·replace h:=qt hb h;refine W.seq ?_;refine W.rt (e2:=[(4,I6 (k1:Int))]) ?_;refine W.wk (env':=[(4,I6 (k1:Int))]) ?_;cases h;exact W.ret (show qj _ _ _=some _ by kernel_rfl)
  replace h:=qu hb h;refine W.skip ?_;refine W.wk (env':=z3 []) ?_;refine W.rg ?_;refine WO.pk 0 (some (I6 (IntKind.wrap .i64 ((k1:Int)+1)))) (v:=I6 ((k1+1:Nat):Int)) (by rw[qz hl1 hk1]) (e1:=z3 [(18,I6 ((k1+1:Nat):Int))]) ?_;refine WO.fn (e2:=z1 [(8,I6 ((k1+1:Nat):Int))]) ?_;exact hN1 () h
def Qt (a1:(List ruLit)) (g2:(ruLit→Option Bool)):Option Bool :=
 ((QL a1 g2).bind fun w5=>(some (decide (w5 ≥ 0))))
theorem Zz (a1:(List ruLit)) (g2:(ruLit→Option Bool)) (F_g2:Nat) (C_g2:List AV) (hok_g2:okFn Try.prog F_g2=true) (hrun_g2:∀ (x0:ruLit) r,g2 x0=some r→Run Try.prog (.call F_g2 ([.agg [.bool x0.qp,I6 x0.qd.qb,l3 none x0.qd.qa]]++C_g2) (.bool r))) (r:Bool) (h:Qt a1 g2=some r):Run Try.prog (.call 78 [l56 none a1,.clo F_g2 C_g2] (.bool r)):=by
 refine cW Try.func78 rfl (env0:=[(0,l56 none a1),(1,.clo F_g2 C_g2)]) ?_;unfold Qt at h;refine W.seq ?_;refine W.rt (e2:=[(0,l56 none a1),(1,.clo F_g2 C_g2)]) ?_;refine W.seq ?_;refine W.rg ?_;obtain⟨w5,hw5,h⟩:=qc h;refine WO.ck 2 (F:=120) (l:=[l56 none a1,.clo F_g2 C_g2]) (C:=[]) (r:=I6 w5) (Vs a1 g2 F_g2 C_g2 hok_g2 hrun_g2 w5 hw5) (e1:=[(0,l56 none a1),(1,.clo F_g2 C_g2),(5,l56 none a1),(6,.clo F_g2 C_g2),(7,I6 w5)]) ?_;refine WO.fn (e2:=[(4,.bool (decide (w5 ≥ 0)))]) ?_;refine W.wk (env':=[(4,.bool (decide (w5 ≥ 0)))]) ?_;cases h;exact W.ret (show qj _ _ _=some _ by kernel_rfl)
def Xs (a1:ruLit):Option Bool :=
 (some a1.qp)
theorem Nc (a1:ruLit) (r:Bool) (h:Xs a1=some r):Run Try.prog (.call 79 [.agg [.bool a1.qp,I6 a1.qd.qb,l3 none a1.qd.qa]] (.bool r)):=by
 refine cW Try.func79 rfl (env0:=[(0,.agg [.bool a1.qp,I6 a1.qd.qb,l3 none a1.qd.qa])]) ?_;unfold Xs at h;refine W.seq ?_;refine W.regT [1] [1] [] [] (e2:=[(1,.ptr (.agg [.bool a1.qp,I6 a1.qd.qb,l3 none a1.qd.qa]))]) (by kernel_rfl) (by kernel_rfl) (fun _ h=>h) ?_;refine W.seq ?_;refine W.rt (e2:=[(2,.bool a1.qp)]) ?_;refine W.wk (env':=[(2,.bool a1.qp)]) ?_;cases h;exact W.ret (show qj _ _ _=some _ by kernel_rfl)
def QT (a1:ruRule):Option Bool :=
 ((Qt a1.qe (fun y0=>Xs y0)).bind fun w4=>(some w4))
theorem Hs (a1:ruRule) (r:Bool) (h:QT a1=some r):Run Try.prog (.call 77 [.agg [I6 a1.qf.qb,l3 none a1.qf.qa,l56 none a1.qe]] (.bool r)):=by
 refine cW Try.func77 rfl (env0:=[(0,.agg [I6 a1.qf.qb,l3 none a1.qf.qa,l56 none a1.qe])]) ?_;unfold QT at h;refine W.seq ?_
 let z0:=fun t=>EN ((1,.ptr (.agg [I6 a1.qf.qb,l3 none a1.qf.qa,l56 none a1.qe]))::t)
 refine W.regT [1] [1] [] [] (e2:=z0 []) (by kernel_rfl) (by kernel_rfl) (fun _ h=>h) ?_;refine W.seq ?_;refine W.rg ?_;obtain⟨w4,hw4,h⟩:=qc h;refine WO.ck 2 (F:=78) (l:=[l56 none a1.qe,.clo 79 []]) (C:=[]) (r:=.bool w4) (Zz a1.qe (fun y0=>Xs y0) 79 [] (by kernel_rfl) (fun y0 r h=>Nc y0 r h) w4 hw4) (e1:=z0 [(3,.ptr (l56 none a1.qe)),(4,l56 none a1.qe),(5,.bool w4)]) ?_;refine WO.fn (e2:=[(2,.bool w4)]) ?_;refine W.wk (env':=[(2,.bool w4)]) ?_;cases h;exact W.ret (show qj _ _ _=some _ by kernel_rfl)
def jM (fuel:Nat) (c3:(List ruRule)) (c4:apiFact) (v18:(List (rufact×Bool))):Option Bool :=
 ((QY fuel c3 v18 ([]:(List (rufact×Bool)))).bind fun w20=>((ZM c4).bind fun w21=>(chk (wfI .i64 w21.qn && wfI .i64 w21.f_a && wfI .i64 w21.f_b) (some (mget qm false w21 w20)))))
def JG (N1:((List (rufact×Bool))→Option Bool)) (v17:(List (rufact×Bool))):Option Bool :=
 (N1 v17)
def jg (a1:Int) (K7:((List (rufact×Bool))→Option Bool)):List apiFact→Nat→(List (rufact×Bool))→Option Bool
 | [],k1,v9=>(K7 v9)
 | x1::r1,k1,v9=>(chk (decide (0≤(k1:Int))) (bif ((iAnd .i64 (iShr .i64 a1 (k1:Int)) 1) == 1) then ((ZM x1).bind fun w14=>(chk (wfI .i64 w14.qn && wfI .i64 w14.f_a && wfI .i64 w14.f_b) (chk (Nat.blt v9.length 1000000000) ((JG (jg a1 K7 r1 (k1+1))) (mset qm w14 true v9))))) else ((JG (jg a1 K7 r1 (k1+1))) v9)))
def QS (fuel:Nat) (a1:Int) (c2:(List apiFact)) (c3:(List ruRule)) (c4:apiFact):Option Bool :=
 (chk (lenOk c2) (jg a1 (jM fuel c3 c4) c2 0 ([]:(List (rufact×Bool)))))
theorem ZZ (fuel:Nat) (a1:Int) (c2:(List apiFact)) (c3:(List ruRule)) (c4:apiFact) (r:Bool) (h:QS fuel a1 c2 c3 c4=some r):Run Try.prog (.call 80 [I6 a1,.ptr (l41 none c2),.ptr (l54 none c3),.ptr (.agg [I6 c4.qb,l3 none c4.qa])] (.bool r)):=by
 refine cW Try.func80 rfl (env0:=[(0,I6 a1),(1,.ptr (l41 none c2)),(2,.ptr (l54 none c3)),(3,.ptr (.agg [I6 c4.qb,l3 none c4.qa]))]) ?_;unfold QS at h;refine W.seq ?_
 let z0:=fun t=>EN ((0,I6 a1)::(1,.ptr (l41 none c2))::(2,.ptr (l54 none c3))::(3,.ptr (.agg [I6 c4.qb,l3 none c4.qa]))::t)
 refine W.rt (e2:=z0 []) ?_;refine W.seq ?_;refine W.rt (e2:=z0 [(6,.mb 0 1000009),(1000009,hobE qg AV.bool ([]:(List (rufact×Bool))))]) ?_;refine W.seq ?_
 let z1:=fun t=>EN ((2,.ptr (l54 none c3))::(3,.ptr (.agg [I6 c4.qb,l3 none c4.qa]))::t)
 refine W.join (σ:=((List (rufact×Bool)))) (fun s=>z1 [(6,.mb 0 1000009),(1000009,hobE qg AV.bool s)]) (fun s=>(jM fuel c3 c4) s=some r) (fun v18 h=>?_) (fun hK7=>?_)
 ·have h:(jM fuel c3 c4) v18=some r:=h;unfold jM at h;refine W.seq ?_;obtain⟨w20,hw20,h⟩:=qc h;obtain⟨w21,hw21,h⟩:=qc h;obtain⟨hc22,h⟩:=qh h;refine W.regionA (e1:=z1 [(5,.bool (mget qm false w21 w20)),(6,mpE qg AV.bool v18),(26,l54 none c3),(27,mpE qg AV.bool v18),(28,mpE qg AV.bool w20),(29,.agg [I6 c4.qb,l3 none c4.qa]),(30,.agg [I6 w21.qn,I6 w21.f_a,I6 w21.f_b]),(31,.bool (mget qm false w21 w20))]) (by kernel_rfl) ?_ ?_
  ·generalize hall:Array.toList _=all;let y0:Nat×AV:=(2,.ptr (l54 none c3));let y1:Nat×AV:=(3,.ptr (.agg [I6 c4.qb,l3 none c4.qa]));let y2:Nat×AV:=(26,l54 none c3);let y3:Nat×AV:=(29,.agg [I6 c4.qb,l3 none c4.qa]);let y4:Nat×AV:=(6,mpE qg AV.bool v18);let y5:Nat×AV:=(27,mpE qg AV.bool v18);let y6:Nat×AV:=(6,.mb 0 1000009);let y7:Nat×AV:=(1000009,hobE qg AV.bool v18);let y8:Nat×AV:=(28,mpE qg AV.bool w20);let y9:Nat×AV:=(30,.agg [I6 w21.qn,I6 w21.f_a,I6 w21.f_b]);let y10:Nat×AV:=(27,.mb 0 1000009);let y11:Nat×AV:=(31,.bool (mget qm false w21 w20));let y12:Nat×AV:=(5,.bool (mget qm false w21 w20));have s_:Run Try.prog (.any 32 all [] ([y0,y1,y12,y4,y2,y5,y8,y3,y9,y11]) ([y0,y1,y12,y4,y2,y5,y8,y3,y9,y11])):=.anyNil
   have s_6:Run Try.prog (.any 32 all [6] ([y0,y1,y4,y2,y5,y8,y3,y9,y11]) ([y0,y1,y12,y4,y2,y5,y8,y3,y9,y11])):=by
    subst hall;refine Run.anyC [(6,[y0,y1,y12,y4,y2,y5,y8,y3,y9,y11])] (by kernel_rfl) (by kernel_rfl) ?_ (.cons s_ .nil);refine .cons ?_ (.nil)
    ·refine⟨_,rfl,?_⟩;refine WO.steps 1 (e1:=[y0,y1,y12,y4,y2,y5,y8,y3,y9,y11]) (by kernel_rfl) ?_;exact WO.nil rfl
   have s_5_6:Run Try.prog (.any 32 all [5,6] ([y0,y1,y4,y2,y5,y8,y3,y9]) ([y0,y1,y12,y4,y2,y5,y8,y3,y9,y11])):=by
    subst hall;refine Run.anyC [(5,[y0,y1,y4,y2,y5,y8,y3,y9,y11])] (by kernel_rfl) (by kernel_rfl) ?_ (.cons s_6 .nil);refine .cons ?_ (.nil)
    ·refine⟨_,rfl,?_⟩;refine WO.pk 0 ((alookup Try.prog 105 [] (mpE qg AV.bool w20) (.agg [I6 w21.qn,I6 w21.f_a,I6 w21.f_b])).map AV.strip) (v:=.bool (mget qm false w21 w20)) (congrArg (Option.map AV.strip) (VH (F:=qg) (G:=AV.bool) (eq:=qm) (l:=w20) (k:=w21) (z:=false) (kt:=127) (e:=4) (Nl hc22) (by kernel_rfl) (fun x=>by kernel_rfl) (fun x y=>by kernel_rfl) (by kernel_rfl))) (e1:=[y0,y1,y4,y2,y5,y8,y3,y9,y11]) ?_;exact WO.nil rfl
   have s_4_5_6:Run Try.prog (.any 32 all [4,5,6] ([y0,y1,y4,y2,y5,y8,y3]) ([y0,y1,y12,y4,y2,y5,y8,y3,y9,y11])):=by
    subst hall;refine Run.anyC [(4,[y0,y1,y4,y2,y5,y8,y3,y9])] (by kernel_rfl) (by kernel_rfl) ?_ (.cons s_5_6 .nil);refine .cons ?_ (.nil)
    ·refine⟨_,rfl,?_⟩;refine WO.ck 0 (F:=81) (l:=[.agg [I6 c4.qb,l3 none c4.qa]]) (C:=[]) (r:=.agg [I6 w21.qn,I6 w21.f_a,I6 w21.f_b]) (Nb c4 w21 hw21) (e1:=[y0,y1,y4,y2,y5,y8,y3,y9]) ?_;exact WO.nil rfl
   have s_3_4_5_6:Run Try.prog (.any 32 all [3,4,5,6] ([y0,y1,y4,y2,y5,y8]) ([y0,y1,y12,y4,y2,y5,y8,y3,y9,y11])):=by
    subst hall;refine Run.anyC [(3,[y0,y1,y4,y2,y5,y8,y3])] (by kernel_rfl) (by kernel_rfl) ?_ (.cons s_4_5_6 .nil);refine .cons ?_ (.nil)
    ·refine⟨_,rfl,?_⟩;refine WO.steps 1 (e1:=[y0,y1,y4,y2,y5,y8,y3]) (by kernel_rfl) ?_;exact WO.nil rfl
   have s_2_4_5_6:Run Try.prog (.any 32 all [2,4,5,6] ([y0,y1,y6,y2,y10,y3,y7]) ([y0,y1,y12,y4,y2,y5,y8,y3,y9,y11])):=by
    subst hall;refine Run.anyC [(2,[y0,y1,y4,y2,y5,y8,y3])] (by kernel_rfl) (by kernel_rfl) ?_ (.cons s_4_5_6 .nil);refine .cons ?_ (.nil)
    ·refine⟨_,rfl,?_⟩;refine WO.mv [.frz 1000009] (env':=[y0,y1,y4,y2,y5,y3]) (by kernel_rfl) ?_;refine WO.ck 0 (F:=74) (l:=[l54 none c3,mpE qg AV.bool v18,mpE qg AV.bool ([]:(List (rufact×Bool)))]) (C:=[]) (r:=mpE qg AV.bool w20) (XJ fuel c3 v18 ([]:(List (rufact×Bool))) w20 hw20) (e1:=[y0,y1,y4,y2,y5,y8,y3]) ?_;exact WO.nil rfl
   have s_2_3_4_5_6:Run Try.prog (.any 32 all [2,3,4,5,6] ([y0,y1,y6,y2,y10,y7]) ([y0,y1,y12,y4,y2,y5,y8,y3,y9,y11])):=by
    subst hall;refine Run.anyC [(2,[y0,y1,y4,y2,y5,y8]),(3,[y0,y1,y6,y2,y10,y3,y7])] (by kernel_rfl) (by kernel_rfl) ?_ (.cons s_3_4_5_6 (.cons s_2_4_5_6 .nil));refine .cons ?_ (.cons ?_ (.nil))
    ·refine⟨_,rfl,?_⟩;refine WO.mv [.frz 1000009] (env':=[y0,y1,y4,y2,y5]) (by kernel_rfl) ?_;refine WO.ck 0 (F:=74) (l:=[l54 none c3,mpE qg AV.bool v18,mpE qg AV.bool ([]:(List (rufact×Bool)))]) (C:=[]) (r:=mpE qg AV.bool w20) (XJ fuel c3 v18 ([]:(List (rufact×Bool))) w20 hw20) (e1:=[y0,y1,y4,y2,y5,y8]) ?_;exact WO.nil rfl
    ·refine⟨_,rfl,?_⟩;refine WO.steps 1 (e1:=[y0,y1,y6,y2,y10,y3,y7]) (by kernel_rfl) ?_;exact WO.nil rfl
   have s_1_2_4_5_6:Run Try.prog (.any 32 all [1,2,4,5,6] ([y0,y1,y6,y2,y3,y7]) ([y0,y1,y12,y4,y2,y5,y8,y3,y9,y11])):=by
    subst hall;refine Run.anyC [(1,[y0,y1,y6,y2,y10,y3,y7])] (by kernel_rfl) (by kernel_rfl) ?_ (.cons s_2_4_5_6 .nil);refine .cons ?_ (.nil)
    ·refine⟨_,rfl,?_⟩;refine WO.steps 1 (e1:=[y0,y1,y6,y2,y10,y3,y7]) (by kernel_rfl) ?_;exact WO.nil rfl
   have s_0_2_4_5_6:Run Try.prog (.any 32 all [0,2,4,5,6] ([y0,y1,y6,y10,y3,y7]) ([y0,y1,y12,y4,y2,y5,y8,y3,y9,y11])):=by
    subst hall;refine Run.anyC [(0,[y0,y1,y6,y2,y10,y3,y7])] (by kernel_rfl) (by kernel_rfl) ?_ (.cons s_2_4_5_6 .nil);refine .cons ?_ (.nil)
    ·refine⟨_,rfl,?_⟩;refine WO.steps 1 (e1:=[y0,y1,y6,y2,y10,y3,y7]) (by kernel_rfl) ?_;exact WO.nil rfl
   have s_1_2_3_4_5_6:Run Try.prog (.any 32 all [1,2,3,4,5,6] ([y0,y1,y6,y2,y7]) ([y0,y1,y12,y4,y2,y5,y8,y3,y9,y11])):=by
    subst hall;refine Run.anyC [(1,[y0,y1,y6,y2,y10,y7]),(3,[y0,y1,y6,y2,y3,y7])] (by kernel_rfl) (by kernel_rfl) ?_ (.cons s_2_3_4_5_6 (.cons s_1_2_4_5_6 .nil));refine .cons ?_ (.cons ?_ (.nil))
    ·refine⟨_,rfl,?_⟩;refine WO.steps 1 (e1:=[y0,y1,y6,y2,y10,y7]) (by kernel_rfl) ?_;exact WO.nil rfl
    ·refine⟨_,rfl,?_⟩;refine WO.steps 1 (e1:=[y0,y1,y6,y2,y3,y7]) (by kernel_rfl) ?_;exact WO.nil rfl
   have s_0_2_3_4_5_6:Run Try.prog (.any 32 all [0,2,3,4,5,6] ([y0,y1,y6,y10,y7]) ([y0,y1,y12,y4,y2,y5,y8,y3,y9,y11])):=by
    subst hall;refine Run.anyC [(0,[y0,y1,y6,y2,y10,y7]),(3,[y0,y1,y6,y10,y3,y7])] (by kernel_rfl) (by kernel_rfl) ?_ (.cons s_2_3_4_5_6 (.cons s_0_2_4_5_6 .nil));refine .cons ?_ (.cons ?_ (.nil))
    ·refine⟨_,rfl,?_⟩;refine WO.steps 1 (e1:=[y0,y1,y6,y2,y10,y7]) (by kernel_rfl) ?_;exact WO.nil rfl
    ·refine⟨_,rfl,?_⟩;refine WO.steps 1 (e1:=[y0,y1,y6,y10,y3,y7]) (by kernel_rfl) ?_;exact WO.nil rfl
   have s_0_1_2_4_5_6:Run Try.prog (.any 32 all [0,1,2,4,5,6] ([y0,y1,y6,y3,y7]) ([y0,y1,y12,y4,y2,y5,y8,y3,y9,y11])):=by
    subst hall;refine Run.anyC [(0,[y0,y1,y6,y2,y3,y7]),(1,[y0,y1,y6,y10,y3,y7])] (by kernel_rfl) (by kernel_rfl) ?_ (.cons s_1_2_4_5_6 (.cons s_0_2_4_5_6 .nil));refine .cons ?_ (.cons ?_ (.nil))
    ·refine⟨_,rfl,?_⟩;refine WO.steps 1 (e1:=[y0,y1,y6,y2,y3,y7]) (by kernel_rfl) ?_;exact WO.nil rfl
    ·refine⟨_,rfl,?_⟩;refine WO.steps 1 (e1:=[y0,y1,y6,y10,y3,y7]) (by kernel_rfl) ?_;exact WO.nil rfl
   have s_0_1_2_3_4_5_6:Run Try.prog (.any 32 all [0,1,2,3,4,5,6] ([y0,y1,y6,y7]) ([y0,y1,y12,y4,y2,y5,y8,y3,y9,y11])):=by
    subst hall;refine Run.anyC [(0,[y0,y1,y6,y2,y7]),(1,[y0,y1,y6,y10,y7]),(3,[y0,y1,y6,y3,y7])] (by kernel_rfl) (by kernel_rfl) ?_ (.cons s_1_2_3_4_5_6 (.cons s_0_2_3_4_5_6 (.cons s_0_1_2_4_5_6 .nil)));refine .cons ?_ (.cons ?_ (.cons ?_ (.nil)))
    ·refine⟨_,rfl,?_⟩;refine WO.steps 1 (e1:=[y0,y1,y6,y2,y7]) (by kernel_rfl) ?_;exact WO.nil rfl
    ·refine⟨_,rfl,?_⟩;refine WO.steps 1 (e1:=[y0,y1,y6,y10,y7]) (by kernel_rfl) ?_;exact WO.nil rfl
    ·refine⟨_,rfl,?_⟩;refine WO.steps 1 (e1:=[y0,y1,y6,y3,y7]) (by kernel_rfl) ?_;exact WO.nil rfl
   exact s_0_1_2_3_4_5_6
  refine WO.fn (e2:=[(5,.bool (mget qm false w21 w20))]) ?_;refine W.wk (env':=[(5,.bool (mget qm false w21 w20))]) ?_;cases h;exact W.ret (show qj _ _ _=some _ by kernel_rfl)
 refine W.seq ?_;refine W.rg ?_;refine WO.pk 1 (some (I6 ((List.map qr c2).length:Int))) (v:=I6 (c2.length:Int)) (by rw[List.length_map]) (e1:=z0 [(6,.mb 0 1000009),(10,l41 none c2),(11,I6 (c2.length:Int)),(1000009,hobE qg AV.bool ([]:(List (rufact×Bool))))]) ?_
 let z2:=fun t=>EN ((0,I6 a1)::(2,.ptr (l54 none c3))::(3,.ptr (.agg [I6 c4.qb,l3 none c4.qa]))::(6,.mb 0 1000009)::(10,l41 none c2)::(11,I6 (c2.length:Int))::t)
 refine WO.fn (e2:=z2 [(12,.int .i64 0),(1000009,hobE qg AV.bool ([]:(List (rufact×Bool))))]) ?_;refine W.block ?_;obtain⟨hl1,h⟩:=qh h;refine W.wk (env':=z2 [(12,I6 ((0:Nat):Int)),(1000009,hobE qg AV.bool ([]:(List (rufact×Bool))))]) ?_;refine W.range (σ:=((List (rufact×Bool)))) c2 (fun k1 s=>z2 [(12,I6 (k1:Int)),(1000009,hobE qg AV.bool s)]) (fun r0 k0 s=>jg a1 (jM fuel c3 c4) r0 k0 s=some r) (fun v9 h=>?_) (fun x1 r1 k1 s hx1 hk1 h hN1=>?_) ([]:(List (rufact×Bool))) h
 ·have h:jg a1 (jM fuel c3 c4) [] (c2).length v9=some r:=h;rw[jg.eq_1]at h;refine W.seq ?_;refine W.rg ?_
  let z3:=fun t=>z2 ((12,I6 ((c2).length:Int))::(13,.bool false)::(1000009,hobE qg AV.bool v9)::t)
  refine WO.pk 0 (some (.bool (decide (((c2).length:Int)<(c2.length:Int))))) (v:=.bool false) (by rw[qR (l:=c2)]) (e1:=z3 []) ?_;refine WO.fn (e2:=z3 []) ?_;refine W.seq ?_;refine W.cb false (fun h=>Bool.noConfusion h) (fun _=>?_);refine W.exit ?_;refine W.wk (env':=z1 [(6,.mb 0 1000009),(1000009,hobE qg AV.bool v9)]) ?_;exact hK7 v9 h
 ·obtain⟨v9,rfl⟩:∃ x,x=s:=⟨s,rfl⟩;have h:jg a1 (jM fuel c3 c4) (x1::r1) k1 v9=some r:=h;rw[jg.eq_2]at h;refine W.seq ?_;refine W.rg ?_
  let z4:=fun t=>z2 ((12,I6 (k1:Int))::t)
  let z5:=fun t=>z4 ((13,.bool true)::(1000009,hobE qg AV.bool v9)::t)
  refine WO.pk 0 (some (.bool (decide ((k1:Int)<(c2.length:Int))))) (v:=.bool true) (by rw[jr hk1]) (e1:=z5 []) ?_;refine WO.fn (e2:=z5 []) ?_;refine W.seq ?_;refine W.cb true (fun _=>?_) (fun h=>Bool.noConfusion h);refine W.skip ?_
  let z6:=fun t=>z4 ((1000009,hobE qg AV.bool v9)::t)
  refine W.wk (env':=z6 []) ?_;refine W.seq ?_;refine W.join (σ:=((List (rufact×Bool)))) (fun s=>z4 [(1000009,hobE qg AV.bool s)]) (fun s=>(JG (jg a1 (jM fuel c3 c4) r1 (k1+1))) s=some r) (fun v17 h=>?_) (fun hK10=>?_)
  ·have h:(JG (jg a1 (jM fuel c3 c4) r1 (k1+1))) v17=some r:=h;unfold JG at h;refine W.rg ?_;refine WO.pk 0 (some (I6 (IntKind.wrap .i64 ((k1:Int)+1)))) (v:=I6 ((k1+1:Nat):Int)) (by rw[qz hl1 hk1]) (e1:=z4 [(25,I6 ((k1+1:Nat):Int)),(1000009,hobE qg AV.bool v17)]) ?_;refine WO.fn (e2:=z2 [(12,I6 ((k1+1:Nat):Int)),(1000009,hobE qg AV.bool v17)]) ?_;exact hN1 v17 h
  refine W.block ?_;refine W.seq ?_;refine W.rg ?_;refine WO.pk 1 (if (0:Int)≤(k1:Int) then ((List.map qr c2)[Int.toNat (k1:Int)]?).map AV.ptr else none) (v:=.ptr (.agg [I6 x1.qb,l3 none x1.qa])) (js (f:=qr) hx1) (e1:=z4 [(14,I6 (k1:Int)),(15,.ptr (.agg [I6 x1.qb,l3 none x1.qa])),(1000009,hobE qg AV.bool v9)]) ?_
  let z7:=fun t=>EN ((0,I6 a1)::(2,.ptr (l54 none c3))::(3,.ptr (.agg [I6 c4.qb,l3 none c4.qa]))::(6,.mb 0 1000009)::t)
  let z8:=fun t=>z7 ((7,I6 (k1:Int))::(8,.ptr (.agg [I6 x1.qb,l3 none x1.qa]))::(10,l41 none c2)::(11,I6 (c2.length:Int))::(12,I6 (k1:Int))::t)
  refine WO.fin [0,2,3,6,7,8,10,11,12,1000009] [8] [] [] (e2:=z8 [(1000009,hobE qg AV.bool v9)]) (by kernel_rfl) (fun _ h=>h) ?_;refine W.seq ?_;refine W.rg ?_;obtain⟨hc13,h⟩:=qh h;refine WO.pk 2 (if (k1:Int)<0 then none else some (I6 (iShr .i64 a1 (k1:Int)))) (v:=I6 (iShr .i64 a1 (k1:Int))) (if_neg (XM hc13)) (e1:=z8 [(17,I6 a1),(18,I6 (k1:Int)),(19,I6 (iShr .i64 a1 (k1:Int))),(1000009,hobE qg AV.bool v9)]) ?_
  let z9:=fun t=>z7 ((8,.ptr (.agg [I6 x1.qb,l3 none x1.qa]))::(10,l41 none c2)::(11,I6 (c2.length:Int))::(12,I6 (k1:Int))::(21,.bool ((iAnd .i64 (iShr .i64 a1 (k1:Int)) 1) == 1))::t)
  refine WO.fn (e2:=z9 [(1000009,hobE qg AV.bool v9)]) ?_;refine W.cb ((iAnd .i64 (iShr .i64 a1 (k1:Int)) 1) == 1) (fun hb=>?_) (fun hb=>?_)
  ·replace h:=qt hb h;refine W.rg ?_;obtain⟨w14,hw14,h⟩:=qc h
   let z10:=fun t=>z9 ((22,.mb 0 1000009)::(23,.agg [I6 x1.qb,l3 none x1.qa])::(24,.agg [I6 w14.qn,I6 w14.f_a,I6 w14.f_b])::t)
   refine WO.ck 2 (F:=81) (l:=[.agg [I6 x1.qb,l3 none x1.qa]]) (C:=[]) (r:=.agg [I6 w14.qn,I6 w14.f_a,I6 w14.f_b]) (Nb x1 w14 hw14) (e1:=z10 [(1000009,hobE qg AV.bool v9)]) ?_;obtain⟨hc15,h⟩:=qh h;obtain⟨hc16,h⟩:=qh h;refine WO.mapK (F:=qg) (G:=AV.bool) (eq:=qm) (l:=v9) (a:=w14) (b:=true) (id:=1000009) (kt:=127) 0 (Nl hc15) hc16 (e1:=z10 [(1000009,hobE qg AV.bool (mset qm w14 true v9))]) ?_ (fun x=>by kernel_rfl) (fun x y=>by kernel_rfl);refine WO.fn (e2:=z4 [(1000009,hobE qg AV.bool (mset qm w14 true v9))]) ?_;exact hK10 (mset qm w14 true v9) h
  replace h:=qu hb h;refine W.skip ?_;refine W.wk (env':=z6 []) ?_;exact hK10 v9 h
def jE:Option Int :=
 (some (-1))
def qZ (g2:(Int→Option Bool)) (K4:(Option Int)):List Int→Nat→Option Int
 | [],k1=>K4
 | x1::r1,k1=>((g2 x1).bind fun w9=>(bif w9 then (some (k1:Int)) else (qZ g2 K4 r1 (k1+1))))
def Xy (a1:(List Int)) (g2:(Int→Option Bool)):Option Int :=
 (chk (lenOk a1) (qZ g2 (jE) a1 0))
theorem VX (a1:(List Int)) (g2:(Int→Option Bool)) (F_g2:Nat) (C_g2:List AV) (hok_g2:okFn Try.prog F_g2=true) (hrun_g2:∀ (x0:Int) r,g2 x0=some r→Run Try.prog (.call F_g2 ([I6 x0]++C_g2) (.bool r))) (r:Int) (h:Xy a1 g2=some r):Run Try.prog (.call 84 [l3 none a1,.clo F_g2 C_g2] (I6 r)):=by
 refine cW Try.func84 rfl (env0:=[(0,l3 none a1),(1,.clo F_g2 C_g2)]) ?_;unfold Xy at h;refine W.seq ?_
 let z0:=fun t=>EN ((0,l3 none a1)::(1,.clo F_g2 C_g2)::t)
 refine W.rt (e2:=z0 []) ?_;refine W.seq ?_;refine W.join (σ:=Unit) (fun s=>[]) (fun s=>(jE)=some r) (fun s h=>?_) (fun hK4=>?_)
 ·have h:(jE)=some r:=h;unfold jE at h;refine W.seq ?_;refine W.rt (e2:=[(4,I6 (-1))]) ?_;refine W.wk (env':=[(4,I6 (-1))]) ?_;cases h;exact W.ret (show qj _ _ _=some _ by kernel_rfl)
 refine W.seq ?_;refine W.rg ?_;refine WO.pk 1 (some (I6 ((M6 a1).length:Int))) (v:=I6 (a1.length:Int)) (by rw[List.length_map]) (e1:=z0 [(6,l3 none a1),(7,I6 (a1.length:Int))]) ?_
 let z1:=fun t=>z0 ((7,I6 (a1.length:Int))::t)
 refine WO.fn (e2:=z1 [(8,.int .i64 0)]) ?_;refine W.block ?_;obtain⟨hl1,h⟩:=qh h;refine W.wk (env':=z1 [(8,I6 ((0:Nat):Int))]) ?_;refine W.range (σ:=Unit) a1 (fun k1 s=>z1 [(8,I6 (k1:Int))]) (fun r0 k0 s=>qZ g2 (jE) r0 k0=some r) (fun s h=>?_) (fun x1 r1 k1 s hx1 hk1 h hN1=>?_) () h
 ·have h:qZ g2 (jE) [] (a1).length=some r:=h;rw[qZ.eq_1]at h;refine W.seq ?_;refine W.rg ?_
  let z2:=fun t=>z1 ((8,I6 ((a1).length:Int))::(9,.bool false)::t)
  refine WO.pk 0 (some (.bool (decide (((a1).length:Int)<(a1.length:Int))))) (v:=.bool false) (by rw[qR (l:=a1)]) (e1:=z2 []) ?_;refine WO.fn (e2:=z2 []) ?_;refine W.seq ?_;refine W.cb false (fun h=>Bool.noConfusion h) (fun _=>?_);refine W.exit ?_;refine W.wk (env':=[]) ?_;exact hK4 () h
 ·have h:qZ g2 (jE) (x1::r1) k1=some r:=h;rw[qZ.eq_2]at h;refine W.seq ?_;refine W.rg ?_
  let z3:=fun t=>z1 ((8,I6 (k1:Int))::t)
  refine WO.pk 0 (some (.bool (decide ((k1:Int)<(a1.length:Int))))) (v:=.bool true) (by rw[jr hk1]) (e1:=z3 [(9,.bool true)]) ?_;refine WO.fn (e2:=z3 [(9,.bool true)]) ?_;refine W.seq ?_;refine W.cb true (fun _=>?_) (fun h=>Bool.noConfusion h);refine W.skip ?_;refine W.wk (env':=z3 []) ?_;refine W.seq ?_;refine W.block ?_;refine W.seq ?_
  let z4:=fun t=>z0 ((5,I6 (k1:Int))::(7,I6 (a1.length:Int))::(8,I6 (k1:Int))::t)
  refine W.rt (e2:=z4 []) ?_;refine W.seq ?_;refine W.rg ?_
  let z5:=fun t=>z4 ((11,.clo F_g2 C_g2)::(12,l3 none a1)::(13,I6 (k1:Int))::(14,.ptr (I6 x1))::t)
  refine WO.pk 3 (if (0:Int)≤(k1:Int) then ((M6 a1)[Int.toNat (k1:Int)]?).map AV.ptr else none) (v:=.ptr (I6 x1)) (js (f:=(AV.int .i64)) hx1) (e1:=z5 []) ?_;obtain⟨w9,hw9,h⟩:=qc h;refine WO.callK 1 (F:=F_g2) (l:=[I6 x1]) (C:=C_g2) (r:=.bool w9) (by kernel_rfl) hok_g2 (hrun_g2 x1 w9 hw9) (e1:=z5 [(15,I6 x1),(16,.bool w9)]) (by kernel_rfl) ?_;refine WO.fn (e2:=z4 [(16,.bool w9)]) ?_;refine W.cb w9 (fun hb=>?_) (fun hb=>?_)
  ·replace h:=qt hb h;refine W.seq ?_;refine W.rt (e2:=[(4,I6 (k1:Int))]) ?_;refine W.wk (env':=[(4,I6 (k1:Int))]) ?_;cases h;exact W.ret (show qj _ _ _=some _ by kernel_rfl)
  replace h:=qu hb h;refine W.skip ?_;refine W.wk (env':=z3 []) ?_;refine W.rg ?_;refine WO.pk 0 (some (I6 (IntKind.wrap .i64 ((k1:Int)+1)))) (v:=I6 ((k1+1:Nat):Int)) (by rw[qz hl1 hk1]) (e1:=z3 [(18,I6 ((k1+1:Nat):Int))]) ?_;refine WO.fn (e2:=z1 [(8,I6 ((k1+1:Nat):Int))]) ?_;exact hN1 () h
def Jy (a1:(List Int)) (g2:(Int→Option Bool)):Option Bool :=
 ((Xy a1 g2).bind fun w5=>(some (decide (w5 ≥ 0))))
theorem Yc (a1:(List Int)) (g2:(Int→Option Bool)) (F_g2:Nat) (C_g2:List AV) (hok_g2:okFn Try.prog F_g2=true) (hrun_g2:∀ (x0:Int) r,g2 x0=some r→Run Try.prog (.call F_g2 ([I6 x0]++C_g2) (.bool r))) (r:Bool) (h:Jy a1 g2=some r):Run Try.prog (.call 36 [l3 none a1,.clo F_g2 C_g2] (.bool r)):=by
 refine cW Try.func36 rfl (env0:=[(0,l3 none a1),(1,.clo F_g2 C_g2)]) ?_;unfold Jy at h;refine W.seq ?_;refine W.rt (e2:=[(0,l3 none a1),(1,.clo F_g2 C_g2)]) ?_;refine W.seq ?_;refine W.rg ?_;obtain⟨w5,hw5,h⟩:=qc h;refine WO.ck 2 (F:=84) (l:=[l3 none a1,.clo F_g2 C_g2]) (C:=[]) (r:=I6 w5) (VX a1 g2 F_g2 C_g2 hok_g2 hrun_g2 w5 hw5) (e1:=[(0,l3 none a1),(1,.clo F_g2 C_g2),(5,l3 none a1),(6,.clo F_g2 C_g2),(7,I6 w5)]) ?_;refine WO.fn (e2:=[(4,.bool (decide (w5 ≥ 0)))]) ?_;refine W.wk (env':=[(4,.bool (decide (w5 ≥ 0)))]) ?_;cases h;exact W.ret (show qj _ _ _=some _ by kernel_rfl)
def Ym (a1:Int) (c2:Int):Option Bool :=
 (some ((iAndNot .i64 a1 c2) == 0))
theorem Hr (a1:Int) (c2:Int) (r:Bool) (h:Ym a1 c2=some r):Run Try.prog (.call 82 [I6 a1,.ptr (I6 c2)] (.bool r)):=by
 refine cW Try.func82 rfl (env0:=[(0,I6 a1),(1,.ptr (I6 c2))]) ?_;unfold Ym at h;refine W.seq ?_;refine W.rt (e2:=[(0,I6 a1),(1,.ptr (I6 c2))]) ?_;refine W.seq ?_;refine W.rt (e2:=[(3,.bool ((iAndNot .i64 a1 c2) == 0))]) ?_;refine W.wk (env':=[(3,.bool ((iAndNot .i64 a1 c2) == 0))]) ?_;cases h;exact W.ret (show qj _ _ _=some _ by kernel_rfl)
def jK (v34:(List Int)):Option ((List Int)×Int) :=
 (some (v34,0))
def Js (N1:((List Int)→Option ((List Int)×Int))) (v33:(List Int)):Option ((List Int)×Int) :=
 (N1 v33)
def Qp (k1:Nat) (v25:(List Int)) (K26:((List Int)→Option ((List Int)×Int))) (v31:Bool):Option ((List Int)×Int) :=
 (bif v31 then (chk (capOk 8 ((v25++[(k1:Int)])).length) (K26 (v25++[(k1:Int)]))) else (K26 v25))
def jk (fuel:Nat) (a1:(List ruRule)) (a2:(List apiFact)) (a3:apiFact) (K22:((List Int)→Option ((List Int)×Int))):List Nat→Nat→(List Int)→Option ((List Int)×Int)
 | [],k1,v25=>(K22 v25)
 | x1::r1,k1,v25=>((Jy v25 (fun y0=>Ym y0 (k1:Int))).bind fun w29=>(bif (!w29) then ((QS fuel (k1:Int) a2 a1 a3).bind fun w30=>((Qp k1 v25 (Js (jk fuel a1 a2 a3 K22 r1 (k1+1)))) w30)) else ((Qp k1 v25 (Js (jk fuel a1 a2 a3 K22 r1 (k1+1)))) false)))
def Qg (fuel:Nat) (a1:(List ruRule)) (a2:(List apiFact)) (a3:apiFact) (v10:Bool):Option ((List Int)×Int) :=
 (bif v10 then (some (([]:(List Int)),2)) else (bif (decide ((a2.length:Int) > 10)) then (some (([]:(List Int)),3)) else (chk (decide (0≤(a2.length:Int))) ((QS fuel (IntKind.wrap .i64 ((iShl .i64 1 (a2.length:Int)) - 1)) a2 a1 a3).bind fun w20=>(bif (!w20) then (some (([]:(List Int)),0)) else (chk (decide (0≤(a2.length:Int))) (chk (lenOk (List.range (Int.toNat (iShl .i64 1 (a2.length:Int))))) (jk fuel a1 a2 a3 (jK) (List.range (Int.toNat (iShl .i64 1 (a2.length:Int)))) 0 ([]:(List Int))))))))))
def QU (fuel:Nat) (a1:(List ruRule)) (a2:(List apiFact)) (a3:apiFact):Option ((List Int)×Int) :=
 ((XL fuel a1 a2).bind fun w7=>(bif (!w7) then ((Qg fuel a1 a2 a3) true) else ((Zc fuel a3).bind fun w8=>(bif (!w8) then ((Qg fuel a1 a2 a3) true) else ((Jp a1 (fun y0=>QT y0)).bind fun w9=>((Qg fuel a1 a2 a3) w9))))))
theorem DR (fuel:Nat) (a1:(List ruRule)) (a2:(List apiFact)) (a3:apiFact) (r:((List Int)×Int)) (h:QU fuel a1 a2 a3=some r):Run Try.prog (.call 32 [l54 none a1,l41 none a2,.agg [I6 a3.qb,l3 none a3.qa]] (.tup [l3 none r.1,I6 r.2])):=by
 refine cW Try.func32 rfl (env0:=[(0,l54 none a1),(1,l41 none a2),(2,.agg [I6 a3.qb,l3 none a3.qa])]) ?_;unfold QU at h;refine W.seq ?_
 let z0:=fun t=>EN ((3,.ptr (l54 none a1))::(4,.ptr (l41 none a2))::(5,.ptr (.agg [I6 a3.qb,l3 none a3.qa]))::t)
 refine W.regT [3,4,5] [3,4,5] [] [] (e2:=z0 []) (by kernel_rfl) (by kernel_rfl) (fun _ h=>h) ?_;refine W.seq ?_;refine W.seq ?_;refine W.join (σ:=(Bool)) (fun s=>z0 [(23,.bool s)]) (fun s=>(Qg fuel a1 a2 a3) s=some r) (fun v10 h=>?_) (fun hK6=>?_)
 ·have h:(Qg fuel a1 a2 a3) v10=some r:=h;unfold Qg at h;refine W.cb v10 (fun hb=>?_) (fun hb=>?_)
  ·replace h:=qt hb h;refine W.seq ?_;refine W.rt (e2:=[(6,.nils),(7,.int .i64 2)]) ?_;refine W.weak [6,7] [] [(6,0,3,1,70006)] [] (env':=[(6,l3 (some 70006) ([]:(List Int))),(7,.int .i64 2)]) (by kernel_rfl) ?_;cases h;exact W.ret (show qj _ _ _=some _ by kernel_rfl)
  replace h:=qu hb h;refine W.skip ?_;refine W.wk (env':=z0 []) ?_;refine W.seq ?_;refine W.seq ?_;refine W.rg ?_;refine WO.pk 1 (some (I6 ((List.map qr a2).length:Int))) (v:=I6 (a2.length:Int)) (by rw[List.length_map]) (e1:=z0 [(24,l41 none a2),(25,I6 (a2.length:Int))]) ?_;refine WO.fn (e2:=z0 [(26,.bool (decide ((a2.length:Int) > 10)))]) ?_;refine W.cb (decide ((a2.length:Int) > 10)) (fun hb=>?_) (fun hb=>?_)
  ·replace h:=qt hb h;refine W.seq ?_;refine W.rt (e2:=[(6,.nils),(7,.int .i64 3)]) ?_;refine W.weak [6,7] [] [(6,0,3,1,70006)] [] (env':=[(6,l3 (some 70006) ([]:(List Int))),(7,.int .i64 3)]) (by kernel_rfl) ?_;cases h;exact W.ret (show qj _ _ _=some _ by kernel_rfl)
  replace h:=qu hb h;refine W.skip ?_;refine W.wk (env':=z0 []) ?_;refine W.seq ?_
  let z1:=fun t=>EN ((4,.ptr (l41 none a2))::(8,.clo 80 [.ptr (l41 none a2),.ptr (l54 none a1),.ptr (.agg [I6 a3.qb,l3 none a3.qa])])::t)
  refine W.rt (e2:=z1 []) ?_;refine W.seq ?_
  let z2:=fun t=>z1 ((9,.nils)::t)
  refine W.rt (e2:=z2 []) ?_;refine W.seq ?_;refine W.seq ?_;refine W.rg ?_
  let z3:=fun t=>z2 ((28,.clo 80 [.ptr (l41 none a2),.ptr (l54 none a1),.ptr (.agg [I6 a3.qb,l3 none a3.qa])])::(29,l41 none a2)::(30,I6 (a2.length:Int))::t)
  refine WO.pk 2 (some (I6 ((List.map qr a2).length:Int))) (v:=I6 (a2.length:Int)) (by rw[List.length_map]) (e1:=z3 []) ?_;obtain⟨hc19,h⟩:=qh h
  let z4:=fun t=>z3 ((31,I6 (iShl .i64 1 (a2.length:Int)))::t)
  refine WO.pk 0 (if (a2.length:Int)<0 then none else some (I6 (iShl .i64 1 (a2.length:Int)))) (v:=I6 (iShl .i64 1 (a2.length:Int))) (if_neg (XM hc19)) (e1:=z4 []) ?_;obtain⟨w20,hw20,h⟩:=qc h;refine WO.ck 1 (F:=80) (l:=[I6 (W6 ((iShl .i64 1 (a2.length:Int)) - 1))]) (C:=[.ptr (l41 none a2),.ptr (l54 none a1),.ptr (.agg [I6 a3.qb,l3 none a3.qa])]) (r:=.bool w20) (ZZ fuel (W6 ((iShl .i64 1 (a2.length:Int)) - 1)) a2 a1 a3 w20 hw20) (e1:=z4 [(32,I6 (W6 ((iShl .i64 1 (a2.length:Int)) - 1))),(33,.bool w20)]) ?_;refine WO.fn (e2:=z2 [(34,.bool (!w20))]) ?_;refine W.cb (!w20) (fun hb=>?_) (fun hb=>?_)
  ·replace h:=qt hb h;refine W.seq ?_;refine W.rt (e2:=[(6,.nils),(7,.int .i64 0)]) ?_;refine W.weak [6,7] [] [(6,0,3,1,70006)] [] (env':=[(6,l3 (some 70006) ([]:(List Int))),(7,.int .i64 0)]) (by kernel_rfl) ?_;cases h;exact W.ret (show qj _ _ _=some _ by kernel_rfl)
  replace h:=qu hb h;refine W.skip ?_;refine W.wk (env':=z2 []) ?_;refine W.seq ?_;refine W.join (σ:=((List Int))) (fun s=>[(9,l3 (some 10900) s)]) (fun s=>(jK) s=some r) (fun v34 h=>?_) (fun hK22=>?_)
  ·have h:(jK) v34=some r:=h;unfold jK at h;refine W.seq ?_;refine W.rt (e2:=[(6,l3 (some 10900) v34),(7,.int .i64 0)]) ?_;refine W.wk (env':=[(6,l3 (some 10900) v34),(7,.int .i64 0)]) ?_;cases h;exact W.ret (show qj _ _ _=some _ by kernel_rfl)
  refine W.seq ?_;refine W.rg ?_
  let z5:=fun t=>z2 ((35,l41 none a2)::(36,I6 (a2.length:Int))::t)
  refine WO.pk 1 (some (I6 ((List.map qr a2).length:Int))) (v:=I6 (a2.length:Int)) (by rw[List.length_map]) (e1:=z5 []) ?_;obtain⟨hc24,h⟩:=qh h;refine WO.pk 0 (if (a2.length:Int)<0 then none else some (I6 (iShl .i64 1 (a2.length:Int)))) (v:=I6 (iShl .i64 1 (a2.length:Int))) (if_neg (XM hc24)) (e1:=z5 [(37,I6 (iShl .i64 1 (a2.length:Int)))]) ?_
  let z6:=fun t=>EN ((8,.clo 80 [.ptr (l41 none a2),.ptr (l54 none a1),.ptr (.agg [I6 a3.qb,l3 none a3.qa])])::t)
  refine WO.fn (e2:=z6 [(9,.nils),(37,I6 (iShl .i64 1 (a2.length:Int))),(38,.int .i64 0)]) ?_;refine W.block ?_;obtain⟨hl1,h⟩:=qh h;refine W.weak [8,9,37,38] [] [(9,0,3,1,10900)] [] (env':=z6 [(9,l3 (some 10900) ([]:(List Int))),(37,I6 (iShl .i64 1 (a2.length:Int))),(38,I6 ((0:Nat):Int))]) (by kernel_rfl) ?_;refine W.range (σ:=((List Int))) (List.range (Int.toNat (iShl .i64 1 (a2.length:Int)))) (fun k1 s=>z6 [(9,l3 (some 10900) s),(37,I6 (iShl .i64 1 (a2.length:Int))),(38,I6 (k1:Int))]) (fun r0 k0 s=>jk fuel a1 a2 a3 (jK) r0 k0 s=some r) (fun v25 h=>?_) (fun x1 r1 k1 s hx1 hk1 h hN1=>?_) ([]:(List Int)) h
  ·have h:jk fuel a1 a2 a3 (jK) [] ((List.range (Int.toNat (iShl .i64 1 (a2.length:Int))))).length v25=some r:=h;rw[jk.eq_1]at h;refine W.seq ?_;refine W.rg ?_
   let z7:=fun t=>z6 ((9,l3 (some 10900) v25)::(37,I6 (iShl .i64 1 (a2.length:Int)))::(38,I6 (((List.range (Int.toNat (iShl .i64 1 (a2.length:Int))))).length:Int))::(39,.bool false)::t)
   refine WO.pk 0 (some (.bool (decide ((((List.range (Int.toNat (iShl .i64 1 (a2.length:Int))))).length:Int)<(iShl .i64 1 (a2.length:Int)))))) (v:=.bool false) (by rw[qbx (n:=(iShl .i64 1 (a2.length:Int)))]) (e1:=z7 []) ?_;refine WO.fn (e2:=z7 []) ?_;refine W.seq ?_;refine W.cb false (fun h=>Bool.noConfusion h) (fun _=>?_);refine W.exit ?_;refine W.wk (env':=[(9,l3 (some 10900) v25)]) ?_;exact hK22 v25 h
  ·obtain⟨v25,rfl⟩:∃ x,x=s:=⟨s,rfl⟩;have h:jk fuel a1 a2 a3 (jK) (x1::r1) k1 v25=some r:=h;rw[jk.eq_2]at h;refine W.seq ?_;refine W.rg ?_
   let z8:=fun t=>z6 ((9,l3 (some 10900) v25)::(37,I6 (iShl .i64 1 (a2.length:Int)))::(38,I6 (k1:Int))::t)
   refine WO.pk 0 (some (.bool (decide ((k1:Int)<(iShl .i64 1 (a2.length:Int)))))) (v:=.bool true) (by rw[qdB hk1]) (e1:=z8 [(39,.bool true)]) ?_;refine WO.fn (e2:=z8 [(39,.bool true)]) ?_;refine W.seq ?_;refine W.cb true (fun _=>?_) (fun h=>Bool.noConfusion h);refine W.skip ?_;refine W.wk (env':=z8 []) ?_;refine W.seq ?_;refine W.join (σ:=((List Int))) (fun s=>z6 [(9,l3 (some 10900) s),(37,I6 (iShl .i64 1 (a2.length:Int))),(38,I6 (k1:Int))]) (fun s=>(Js (jk fuel a1 a2 a3 (jK) r1 (k1+1))) s=some r) (fun v33 h=>?_) (fun hK26=>?_)
   ·have h:(Js (jk fuel a1 a2 a3 (jK) r1 (k1+1))) v33=some r:=h;unfold Js at h;refine W.rg ?_
    let z9:=fun t=>z6 ((9,l3 (some 10900) v33)::(37,I6 (iShl .i64 1 (a2.length:Int)))::t)
    refine WO.pk 0 (some (I6 (IntKind.wrap .i64 ((k1:Int)+1)))) (v:=I6 ((k1+1:Nat):Int)) (by rw[qz hl1 hk1]) (e1:=z9 [(38,I6 (k1:Int)),(54,I6 ((k1+1:Nat):Int))]) ?_;refine WO.fn (e2:=z9 [(38,I6 ((k1+1:Nat):Int))]) ?_;exact hN1 v33 h
   refine W.block ?_;refine W.seq ?_
   let z10:=fun t=>z6 ((9,l3 (some 10900) v25)::(10,.ptr (I6 (k1:Int)))::(37,I6 (iShl .i64 1 (a2.length:Int)))::(38,I6 (k1:Int))::t)
   refine W.regT [8,9,10,37,38] [10] [] [] (e2:=z10 []) (by kernel_rfl) (by kernel_rfl) (fun _ h=>h) ?_;refine W.seq ?_;refine W.join (σ:=(Bool)) (fun s=>z10 [(49,.bool s)]) (fun s=>(Qp k1 v25 (Js (jk fuel a1 a2 a3 (jK) r1 (k1+1)))) s=some r) (fun v31 h=>?_) (fun hK28=>?_)
   ·have h:(Qp k1 v25 (Js (jk fuel a1 a2 a3 (jK) r1 (k1+1)))) v31=some r:=h;unfold Qp at h;refine W.cb v31 (fun hb=>?_) (fun hb=>?_)
    ·replace h:=qt hb h;refine W.rg ?_;obtain⟨hc32,h⟩:=qh h;refine WO.appendK 3 (d:=53) (e:=3) (s:=1) (bytes:=8) (xs:=(M6 v25)) (ys:=(M6 [(k1:Int)])) (zs:=(M6 (v25++[(k1:Int)]))) (env1:=[(8,.clo 80 [.ptr (l41 none a2),.ptr (l54 none a1),.ptr (.agg [I6 a3.qb,l3 none a3.qa])]),(9,l3 none v25),(10,.ptr (I6 (k1:Int))),(37,I6 (iShl .i64 1 (a2.length:Int))),(38,I6 (k1:Int)),(49,.bool v31),(50,l3 none v25),(51,I6 (k1:Int)),(52,l3 (some 52) [(k1:Int)])]) (by kernel_rfl) (List.map_append.symm) (by rw[List.length_map];exact hc32) (e1:=z6 [(9,l3 none v25),(10,.ptr (I6 (k1:Int))),(37,I6 (iShl .i64 1 (a2.length:Int))),(38,I6 (k1:Int)),(49,.bool v31),(50,l3 none v25),(51,I6 (k1:Int)),(52,l3 (some 52) [(k1:Int)]),(53,l3 (some 53) (v25++[(k1:Int)]))]) (by kernel_rfl) ?_;refine WO.fin [8,9,37,38] [] [] [(53,some 10900)] (e2:=z6 [(9,l3 (some 10900) (v25++[(k1:Int)])),(37,I6 (iShl .i64 1 (a2.length:Int))),(38,I6 (k1:Int))]) (by kernel_rfl) (fun _ h=>h) ?_;exact hK26 (v25++[(k1:Int)]) h
    replace h:=qu hb h;refine W.skip ?_;refine W.wk (env':=z8 []) ?_;exact hK26 v25 h
   refine W.rg ?_;obtain⟨w29,hw29,h⟩:=qc h
   let z11:=fun t=>z10 ((41,l3 (some 10900) v25)::(42,.clo 82 [.ptr (I6 (k1:Int))])::(43,.bool w29)::t)
   refine WO.ck 2 (F:=36) (l:=[l3 none v25,.clo 82 [.ptr (I6 (k1:Int))]]) (C:=[]) (r:=.bool w29) (Yc v25 (fun y0=>Ym y0 (k1:Int)) 82 [.ptr (I6 (k1:Int))] (by kernel_rfl) (fun y0 r h=>Hr y0 (k1:Int) r h) w29 hw29) (e1:=z11 []) ?_;refine WO.bk 2 (fun b=>z11 [(44,.bool b),(45,.bool b)]) (!w29) (fun hb=>?_) (fun hb=>?_)
   ·replace h:=qt hb h;obtain⟨w30,hw30,h⟩:=qc h;refine WO.ck 2 (F:=80) (l:=[I6 (k1:Int)]) (C:=[.ptr (l41 none a2),.ptr (l54 none a1),.ptr (.agg [I6 a3.qb,l3 none a3.qa])]) (r:=.bool w30) (ZZ fuel (k1:Int) a2 a1 a3 w30 hw30) (e1:=z11 [(44,.bool true),(45,.bool true),(46,.clo 80 [.ptr (l41 none a2),.ptr (l54 none a1),.ptr (.agg [I6 a3.qb,l3 none a3.qa])]),(47,I6 (k1:Int)),(48,.bool w30)]) ?_;refine WO.fn (e2:=z10 [(49,.bool w30)]) ?_;exact hK28 w30 h
   replace h:=qu hb h;refine WO.fn (e2:=z10 [(49,.bool false)]) ?_;exact hK28 false h
 refine W.rg ?_;obtain⟨w7,hw7,h⟩:=qc h
 let z12:=fun t=>z0 ((11,l54 none a1)::(12,l41 none a2)::(13,.bool w7)::t)
 refine WO.ck 2 (F:=56) (l:=[l54 none a1,l41 none a2]) (C:=[]) (r:=.bool w7) (Nz fuel a1 a2 w7 hw7) (e1:=z12 []) ?_;refine WO.bk 2 (fun b=>z12 [(14,.bool b),(15,.bool b)]) (!w7) (fun hb=>?_) (fun hb=>?_)
 ·replace h:=qt hb h;refine WO.fn (e2:=z0 [(23,.bool true)]) ?_;exact hK6 true h
 replace h:=qu hb h;obtain⟨w8,hw8,h⟩:=qc h
 let z13:=fun t=>z12 ((14,.bool false)::(15,.bool false)::(16,.agg [I6 a3.qb,l3 none a3.qa])::(17,.bool w8)::t)
 refine WO.ck 1 (F:=75) (l:=[.agg [I6 a3.qb,l3 none a3.qa]]) (C:=[]) (r:=.bool w8) (UR fuel a3 w8 hw8) (e1:=z13 []) ?_;refine WO.bk 3 (fun b=>z13 [(18,.bool b),(19,.bool b),(20,.bool b)]) (!w8) (fun hb=>?_) (fun hb=>?_)
 ·replace h:=qt hb h;refine WO.fn (e2:=z0 [(23,.bool true)]) ?_;exact hK6 true h
 replace h:=qu hb h;obtain⟨w9,hw9,h⟩:=qc h;refine WO.ck 1 (F:=76) (l:=[l54 none a1,.clo 77 []]) (C:=[]) (r:=.bool w9) (Zl a1 (fun y0=>QT y0) 77 [] (by kernel_rfl) (fun y0 r h=>Hs y0 r h) w9 hw9) (e1:=z13 [(18,.bool false),(19,.bool false),(20,.bool false),(21,l54 none a1),(22,.bool w9)]) ?_;refine WO.fn (e2:=z0 [(23,.bool w9)]) ?_;exact hK6 w9 h
def QC (a1:Int) (c2:Int):Option Bool :=
 (some ((iAndNot .i64 a1 c2) == 0))
theorem VO (a1:Int) (c2:Int) (r:Bool) (h:QC a1 c2=some r):Run Try.prog (.call 37 [I6 a1,.ptr (I6 c2)] (.bool r)):=by
 refine cW Try.func37 rfl (env0:=[(0,I6 a1),(1,.ptr (I6 c2))]) ?_;unfold QC at h;refine W.seq ?_;refine W.rt (e2:=[(0,I6 a1),(1,.ptr (I6 c2))]) ?_;refine W.seq ?_;refine W.rt (e2:=[(3,.bool ((iAndNot .i64 a1 c2) == 0))]) ?_;refine W.wk (env':=[(3,.bool ((iAndNot .i64 a1 c2) == 0))]) ?_;cases h;exact W.ret (show qj _ _ _=some _ by kernel_rfl)
def JD (v18:Bool):Option Bool :=
 (some v18)
def JC (v39:Bool):Option Bool :=
 (some v39)
def jc (fuel:Nat) (a1:(List rf3Rule)) (a3:apiFact) (a4:Int) (w10:((List Int)×Int)) (v29:(List apiFact)):Option Bool :=
 ((HE a1).bind fun w31=>((Ze v29).bind fun w32=>((YM fuel w31 w32).bind fun w33=>((Jy w10.1 (fun y0=>QC y0 a4)).bind fun w35=>(bif (w33.2 == 0) then ((Zq w33.1 a3).bind fun w37=>(bif (w35 == w37) then ((YB fuel).bind fun w38=>((JC) w38)) else ((JC) false))) else ((JC) false))))))
def jR (N1:((List apiFact)→Option Bool)) (v28:(List apiFact)):Option Bool :=
 (N1 v28)
def qI (a4:Int) (K20:((List apiFact)→Option Bool)):List apiFact→Nat→(List apiFact)→Option Bool
 | [],k1,v22=>(K20 v22)
 | x1::r1,k1,v22=>(chk (decide (0≤(k1:Int))) (bif ((iAnd .i64 (iShr .i64 a4 (k1:Int)) 1) == 1) then (chk (capOk 32 ((v22++[x1])).length) ((jR (qI a4 K20 r1 (k1+1))) (v22++[x1]))) else ((jR (qI a4 K20 r1 (k1+1))) v22)))
def jG (fuel:Nat) (a1:(List rf3Rule)) (a2:(List apiFact)) (a3:apiFact) (a4:Int) (w10:((List Int)×Int)) (v14:Bool):Option Bool :=
 (bif v14 then (bif (w10.2 == 2) then ((YB fuel).bind fun w16=>((JD) w16)) else (bif (w10.2 == 3) then ((YB fuel).bind fun w17=>((JD) w17)) else ((JD) false))) else (chk (lenOk a2) (qI a4 (jc fuel a1 a3 a4 w10) a2 0 ([]:(List apiFact)))))
def XT (fuel:Nat) (a1:(List rf3Rule)) (a2:(List apiFact)) (a3:apiFact) (a4:Int):Option Bool :=
 ((HE a1).bind fun w7=>((Ze a2).bind fun w8=>((Ue a3).bind fun w9=>((QU fuel w7 w8 w9).bind fun w10=>(bif (w10.2 != 0) then ((jG fuel a1 a2 a3 a4 w10) true) else ((Zd a1 a2).bind fun w13=>((jG fuel a1 a2 a3 a4 w10) (!w13))))))))
theorem UO (fuel:Nat) (a1:(List rf3Rule)) (a2:(List apiFact)) (a3:apiFact) (a4:Int) (r:Bool) (h:XT fuel a1 a2 a3 a4=some r):Run Try.prog (.call 10 [l94 none a1,l41 none a2,.agg [I6 a3.qb,l3 none a3.qa],I6 a4] (.bool r)):=by
 refine cW Try.func10 rfl (env0:=[(0,l94 none a1),(1,l41 none a2),(2,.agg [I6 a3.qb,l3 none a3.qa]),(3,I6 a4)]) ?_;unfold XT at h;refine W.seq ?_
 let z0:=fun t=>EN ((0,l94 none a1)::(1,l41 none a2)::(6,.ptr (.agg [I6 a3.qb,l3 none a3.qa]))::(7,.ptr (I6 a4))::t)
 refine W.regT [0,1,6,7] [6,7] [] [] (e2:=z0 []) (by kernel_rfl) (by kernel_rfl) (fun _ h=>h) ?_;refine W.seq ?_;refine W.rg ?_;obtain⟨w7,hw7,h⟩:=qc h
 let z1:=fun t=>z0 ((17,l94 none a1)::(18,l54 none w7)::t)
 refine WO.ck 1 (F:=18) (l:=[l94 none a1]) (C:=[]) (r:=l54 (some 1) w7) (DU a1 w7 hw7) (e1:=z1 []) ?_;obtain⟨w8,hw8,h⟩:=qc h
 let z2:=fun t=>z1 ((19,l41 none a2)::(20,l41 none w8)::t)
 refine WO.ck 1 (F:=19) (l:=[l41 none a2]) (C:=[]) (r:=l41 (some 1) w8) (US a2 w8 hw8) (e1:=z2 []) ?_;obtain⟨w9,hw9,h⟩:=qc h
 let z3:=fun t=>z2 ((21,.agg [I6 a3.qb,l3 none a3.qa])::(22,.agg [I6 w9.qb,l3 none w9.qa])::t)
 refine WO.ck 1 (F:=26) (l:=[.agg [I6 a3.qb,l3 none a3.qa]]) (C:=[]) (r:=.agg [I6 w9.qb,l3 none w9.qa]) (qcu a3 w9 hw9) (e1:=z3 []) ?_;obtain⟨w10,hw10,h⟩:=qc h;refine WO.ck 0 (F:=32) (l:=[l54 none w7,l41 none w8,.agg [I6 w9.qb,l3 none w9.qa]]) (C:=[]) (r:=.tup [l3 none w10.1,I6 w10.2]) (DR fuel w7 w8 w9 w10 hw10) (e1:=z3 [(23,.tup [l3 none w10.1,I6 w10.2])]) ?_
 let z4:=fun t=>z0 ((9,l3 none w10.1)::(10,I6 w10.2)::t)
 refine WO.fn (e2:=z4 []) ?_;refine W.seq ?_;refine W.seq ?_;refine W.join (σ:=(Bool)) (fun s=>z4 [(33,.bool s)]) (fun s=>(jG fuel a1 a2 a3 a4 w10) s=some r) (fun v14 h=>?_) (fun hK12=>?_)
 ·have h:(jG fuel a1 a2 a3 a4 w10) v14=some r:=h;unfold jG at h;refine W.cb v14 (fun hb=>?_) (fun hb=>?_)
  ·replace h:=qt hb h;refine W.seq ?_;refine W.join (σ:=(Bool)) (fun s=>[(8,.bool s)]) (fun s=>(JD) s=some r) (fun v18 h=>?_) (fun hK15=>?_)
   ·have h:(JD) v18=some r:=h;unfold JD at h;refine W.wk (env':=[(8,.bool v18)]) ?_;cases h;exact W.ret (show qj _ _ _=some _ by kernel_rfl)
   refine W.rg ?_
   let z5:=fun t=>z4 ((33,.bool v14)::(34,I6 w10.2)::t)
   refine WO.bk 3 (fun b=>z5 [(35,.bool b),(36,.bool b)]) (w10.2 == 2) (fun hb=>?_) (fun hb=>?_)
   ·replace h:=qt hb h;obtain⟨w16,hw16,h⟩:=qc h;refine WO.ck 4 (F:=21) (l:=[]) (C:=[]) (r:=.bool w16) (ZL fuel w16 hw16) (e1:=z5 [(35,.bool true),(36,.bool true),(37,.und),(38,.und),(39,.bool true),(40,.bool true),(41,.bool w16)]) ?_;refine WO.fn (e2:=[(8,.bool w16)]) ?_;exact hK15 w16 h
   replace h:=qu hb h
   let z6:=fun t=>z5 ((35,.bool false)::(36,.bool false)::(37,I6 w10.2)::t)
   refine WO.bk 4 (fun b=>z6 [(38,.bool b),(39,.bool b),(40,.bool b)]) (w10.2 == 3) (fun hb=>?_) (fun hb=>?_)
   ·replace h:=qt hb h;obtain⟨w17,hw17,h⟩:=qc h;refine WO.ck 0 (F:=21) (l:=[]) (C:=[]) (r:=.bool w17) (ZL fuel w17 hw17) (e1:=z6 [(38,.bool true),(39,.bool true),(40,.bool true),(41,.bool w17)]) ?_;refine WO.fn (e2:=[(8,.bool w17)]) ?_;exact hK15 w17 h
   replace h:=qu hb h;refine WO.fn (e2:=[(8,.bool false)]) ?_;exact hK15 false h
  replace h:=qu hb h;refine W.skip ?_
  let z7:=fun t=>z0 ((9,l3 none w10.1)::t)
  refine W.wk (env':=z7 []) ?_;refine W.seq ?_;refine W.rt (e2:=z7 [(11,.nils)]) ?_;refine W.seq ?_
  let z8:=fun t=>EN ((0,l94 none a1)::(6,.ptr (.agg [I6 a3.qb,l3 none a3.qa]))::(7,.ptr (I6 a4))::(9,l3 none w10.1)::t)
  refine W.join (σ:=((List apiFact))) (fun s=>z8 [(11,l41 (some 11100) s)]) (fun s=>(jc fuel a1 a3 a4 w10) s=some r) (fun v29 h=>?_) (fun hK20=>?_)
  ·have h:(jc fuel a1 a3 a4 w10) v29=some r:=h;unfold jc at h;refine W.seq ?_;refine W.rg ?_;obtain⟨w31,hw31,h⟩:=qc h
   let z9:=fun t=>z8 ((11,l41 (some 11100) v29)::(61,l94 none a1)::(62,l54 (some 62) w31)::t)
   refine WO.ck 1 (F:=18) (l:=[l94 none a1]) (C:=[]) (r:=l54 (some 1) w31) (DU a1 w31 hw31) (e1:=z9 []) ?_;obtain⟨w32,hw32,h⟩:=qc h
   let z10:=fun t=>z9 ((63,l41 (some 11100) v29)::(64,l41 (some 64) w32)::t)
   refine WO.ck 1 (F:=19) (l:=[l41 none v29]) (C:=[]) (r:=l41 (some 1) w32) (US v29 w32 hw32) (e1:=z10 []) ?_;obtain⟨w33,hw33,h⟩:=qc h;refine WO.ck 0 (F:=17) (l:=[l54 none w31,l41 none w32]) (C:=[]) (r:=.tup [l41 none w33.1,I6 w33.2]) (NB fuel w31 w32 w33 hw33) (e1:=z10 [(65,.tup [l41 none w33.1,I6 w33.2])]) ?_
   let z11:=fun t=>EN ((6,.ptr (.agg [I6 a3.qb,l3 none a3.qa]))::t)
   let z12:=fun t=>z11 ((7,.ptr (I6 a4))::(9,l3 none w10.1)::(10,I6 w33.2)::(14,l41 none w33.1)::t)
   refine WO.fn (e2:=z12 []) ?_;refine W.seq ?_;refine W.rg ?_;obtain⟨w35,hw35,h⟩:=qc h;refine WO.ck 2 (F:=36) (l:=[l3 none w10.1,.clo 37 [.ptr (I6 a4)]]) (C:=[]) (r:=.bool w35) (Yc w10.1 (fun y0=>QC y0 a4) 37 [.ptr (I6 a4)] (by kernel_rfl) (fun y0 r h=>VO y0 a4 r h) w35 hw35) (e1:=z12 [(68,l3 none w10.1),(69,.clo 37 [.ptr (I6 a4)]),(70,.bool w35)]) ?_
   let z13:=fun t=>z11 ((10,I6 w33.2)::(14,l41 none w33.1)::(15,.bool w35)::t)
   refine WO.fn (e2:=z13 []) ?_;refine W.seq ?_;refine W.join (σ:=(Bool)) (fun s=>[(8,.bool s)]) (fun s=>(JC) s=some r) (fun v39 h=>?_) (fun hK36=>?_)
   ·have h:(JC) v39=some r:=h;unfold JC at h;refine W.wk (env':=[(8,.bool v39)]) ?_;cases h;exact W.ret (show qj _ _ _=some _ by kernel_rfl)
   refine W.rg ?_
   let z14:=fun t=>z13 ((71,I6 w33.2)::t)
   refine WO.bk 3 (fun b=>z14 [(72,.bool b),(73,.bool b)]) (w33.2 == 0) (fun hb=>?_) (fun hb=>?_)
   ·replace h:=qt hb h;obtain⟨w37,hw37,h⟩:=qc h
    let z15:=fun t=>z14 ((72,.bool true)::(73,.bool true)::(74,.bool w35)::(75,l41 none w33.1)::(76,.agg [I6 a3.qb,l3 none a3.qa])::(77,.bool w37)::t)
    refine WO.ck 3 (F:=27) (l:=[l41 none w33.1,.agg [I6 a3.qb,l3 none a3.qa]]) (C:=[]) (r:=.bool w37) (DT w33.1 a3 w37 hw37) (e1:=z15 []) ?_;refine WO.bk 3 (fun b=>z15 [(78,.bool b),(79,.bool b),(80,.bool b)]) (w35 == w37) (fun hb=>?_) (fun hb=>?_)
    ·replace h:=qt hb h;obtain⟨w38,hw38,h⟩:=qc h;refine WO.ck 0 (F:=21) (l:=[]) (C:=[]) (r:=.bool w38) (ZL fuel w38 hw38) (e1:=z15 [(78,.bool true),(79,.bool true),(80,.bool true),(81,.bool w38)]) ?_;refine WO.fn (e2:=[(8,.bool w38)]) ?_;exact hK36 w38 h
    replace h:=qu hb h;refine WO.fn (e2:=[(8,.bool false)]) ?_;exact hK36 false h
   replace h:=qu hb h;refine WO.fn (e2:=[(8,.bool false)]) ?_;exact hK36 false h
  refine W.seq ?_;refine W.rg ?_;refine WO.pk 1 (some (I6 ((List.map qr a2).length:Int))) (v:=I6 (a2.length:Int)) (by rw[List.length_map]) (e1:=z7 [(11,.nils),(43,l41 none a2),(44,I6 (a2.length:Int))]) ?_;refine WO.fn (e2:=z8 [(11,.nils),(43,l41 none a2),(44,I6 (a2.length:Int)),(45,.int .i64 0)]) ?_;refine W.block ?_;obtain⟨hl1,h⟩:=qh h;refine W.weak [0,6,7,9,11,43,44,45] [] [(11,0,41,2,11100)] [] (env':=z8 [(11,l41 (some 11100) ([]:(List apiFact))),(43,l41 none a2),(44,I6 (a2.length:Int)),(45,I6 ((0:Nat):Int))]) (by kernel_rfl) ?_;refine W.range (σ:=((List apiFact))) a2 (fun k1 s=>z8 [(11,l41 (some 11100) s),(43,l41 none a2),(44,I6 (a2.length:Int)),(45,I6 (k1:Int))]) (fun r0 k0 s=>qI a4 (jc fuel a1 a3 a4 w10) r0 k0 s=some r) (fun v22 h=>?_) (fun x1 r1 k1 s hx1 hk1 h hN1=>?_) ([]:(List apiFact)) h
  ·have h:qI a4 (jc fuel a1 a3 a4 w10) [] (a2).length v22=some r:=h;rw[qI.eq_1]at h;refine W.seq ?_;refine W.rg ?_
   let z16:=fun t=>z8 ((11,l41 (some 11100) v22)::(43,l41 none a2)::(44,I6 (a2.length:Int))::(45,I6 ((a2).length:Int))::(46,.bool false)::t)
   refine WO.pk 0 (some (.bool (decide (((a2).length:Int)<(a2.length:Int))))) (v:=.bool false) (by rw[qR (l:=a2)]) (e1:=z16 []) ?_;refine WO.fn (e2:=z16 []) ?_;refine W.seq ?_;refine W.cb false (fun h=>Bool.noConfusion h) (fun _=>?_);refine W.exit ?_;refine W.wk (env':=z8 [(11,l41 (some 11100) v22)]) ?_;exact hK20 v22 h
  ·obtain⟨v22,rfl⟩:∃ x,x=s:=⟨s,rfl⟩;have h:qI a4 (jc fuel a1 a3 a4 w10) (x1::r1) k1 v22=some r:=h;rw[qI.eq_2]at h;refine W.seq ?_;refine W.rg ?_
   let z17:=fun t=>z8 ((11,l41 (some 11100) v22)::(43,l41 none a2)::(44,I6 (a2.length:Int))::(45,I6 (k1:Int))::t)
   refine WO.pk 0 (some (.bool (decide ((k1:Int)<(a2.length:Int))))) (v:=.bool true) (by rw[jr hk1]) (e1:=z17 [(46,.bool true)]) ?_;refine WO.fn (e2:=z17 [(46,.bool true)]) ?_;refine W.seq ?_;refine W.cb true (fun _=>?_) (fun h=>Bool.noConfusion h);refine W.skip ?_;refine W.wk (env':=z17 []) ?_;refine W.seq ?_;refine W.join (σ:=((List apiFact))) (fun s=>z8 [(11,l41 (some 11100) s),(43,l41 none a2),(44,I6 (a2.length:Int)),(45,I6 (k1:Int))]) (fun s=>(jR (qI a4 (jc fuel a1 a3 a4 w10) r1 (k1+1))) s=some r) (fun v28 h=>?_) (fun hK23=>?_)
   ·have h:(jR (qI a4 (jc fuel a1 a3 a4 w10) r1 (k1+1))) v28=some r:=h;unfold jR at h;refine W.rg ?_
    let z18:=fun t=>z8 ((11,l41 (some 11100) v28)::(43,l41 none a2)::(44,I6 (a2.length:Int))::t)
    refine WO.pk 0 (some (I6 (IntKind.wrap .i64 ((k1:Int)+1)))) (v:=I6 ((k1+1:Nat):Int)) (by rw[qz hl1 hk1]) (e1:=z18 [(45,I6 (k1:Int)),(59,I6 ((k1+1:Nat):Int))]) ?_;refine WO.fn (e2:=z18 [(45,I6 ((k1+1:Nat):Int))]) ?_;exact hN1 v28 h
   refine W.block ?_;refine W.seq ?_;refine W.rg ?_;refine WO.pk 1 (if (0:Int)≤(k1:Int) then ((List.map qr a2)[Int.toNat (k1:Int)]?).map AV.ptr else none) (v:=.ptr (.agg [I6 x1.qb,l3 none x1.qa])) (js (f:=qr) hx1) (e1:=z17 [(47,I6 (k1:Int)),(48,.ptr (.agg [I6 x1.qb,l3 none x1.qa]))]) ?_
   let z19:=fun t=>z8 ((11,l41 (some 11100) v22)::(12,I6 (k1:Int))::(13,.ptr (.agg [I6 x1.qb,l3 none x1.qa]))::(43,l41 none a2)::(44,I6 (a2.length:Int))::(45,I6 (k1:Int))::t)
   refine WO.fin [0,6,7,9,11,12,13,43,44,45] [13] [] [] (e2:=z19 []) (by kernel_rfl) (fun _ h=>h) ?_;refine W.seq ?_;refine W.rg ?_;obtain⟨hc26,h⟩:=qh h;refine WO.pk 2 (if (k1:Int)<0 then none else some (I6 (iShr .i64 a4 (k1:Int)))) (v:=I6 (iShr .i64 a4 (k1:Int))) (if_neg (XM hc26)) (e1:=z19 [(50,I6 a4),(51,I6 (k1:Int)),(52,I6 (iShr .i64 a4 (k1:Int)))]) ?_;refine WO.fn (e2:=z8 [(11,l41 (some 11100) v22),(13,.ptr (.agg [I6 x1.qb,l3 none x1.qa])),(43,l41 none a2),(44,I6 (a2.length:Int)),(45,I6 (k1:Int)),(54,.bool ((iAnd .i64 (iShr .i64 a4 (k1:Int)) 1) == 1))]) ?_;refine W.cb ((iAnd .i64 (iShr .i64 a4 (k1:Int)) 1) == 1) (fun hb=>?_) (fun hb=>?_)
   ·replace h:=qt hb h;refine W.rg ?_;obtain⟨hc27,h⟩:=qh h;refine WO.appendK 3 (d:=58) (e:=41) (s:=2) (bytes:=32) (xs:=(List.map qr v22)) (ys:=(List.map qr [x1])) (zs:=(List.map qr (v22++[x1]))) (env1:=[(0,l94 none a1),(6,.ptr (.agg [I6 a3.qb,l3 none a3.qa])),(7,.ptr (I6 a4)),(9,l3 none w10.1),(11,l41 none v22),(13,.ptr (.agg [I6 x1.qb,l3 none x1.qa])),(43,l41 none a2),(44,I6 (a2.length:Int)),(45,I6 (k1:Int)),(54,.bool ((iAnd .i64 (iShr .i64 a4 (k1:Int)) 1) == 1)),(55,l41 none v22),(56,.agg [I6 x1.qb,l3 none x1.qa]),(57,l41 (some 57) [x1])]) (by kernel_rfl) (List.map_append.symm) (by rw[List.length_map];exact hc27) (e1:=z8 [(11,l41 none v22),(13,.ptr (.agg [I6 x1.qb,l3 none x1.qa])),(43,l41 none a2),(44,I6 (a2.length:Int)),(45,I6 (k1:Int)),(54,.bool ((iAnd .i64 (iShr .i64 a4 (k1:Int)) 1) == 1)),(55,l41 none v22),(56,.agg [I6 x1.qb,l3 none x1.qa]),(57,l41 (some 57) [x1]),(58,l41 (some 58) (v22++[x1]))]) (by kernel_rfl) ?_;refine WO.fin [0,6,7,9,11,43,44,45] [] [] [(58,some 11100)] (e2:=z8 [(11,l41 (some 11100) (v22++[x1])),(43,l41 none a2),(44,I6 (a2.length:Int)),(45,I6 (k1:Int))]) (by kernel_rfl) (fun _ h=>h) ?_;exact hK23 (v22++[x1]) h
   replace h:=qu hb h;refine W.skip ?_;refine W.wk (env':=z17 []) ?_;exact hK23 v22 h
 refine W.rg ?_;refine WO.bk 3 (fun b=>z4 [(26,I6 w10.2),(27,.bool b),(28,.bool b)]) (w10.2 != 0) (fun hb=>?_) (fun hb=>?_)
 ·replace h:=qt hb h;refine WO.fn (e2:=z4 [(33,.bool true)]) ?_;exact hK12 true h
 replace h:=qu hb h;obtain⟨w13,hw13,h⟩:=qc h;refine WO.ck 2 (F:=20) (l:=[l94 none a1,l41 none a2]) (C:=[]) (r:=.bool w13) (qaR a1 a2 w13 hw13) (e1:=z4 [(26,I6 w10.2),(27,.bool false),(28,.bool false),(29,l94 none a1),(30,l41 none a2),(31,.bool w13)]) ?_;refine WO.fn (e2:=z4 [(33,.bool (!w13))]) ?_;exact hK12 (!w13) h
end Go.AM
