/- s -/
import Derived.Test.YtdghpfejmlpjhaaRA1
set_option maxRecDepth 100000
set_option linter.unusedVariables false
set_option linter.unusedSimpArgs false
namespace Go.AM
open Go.Proofs
def Jq (a1:(List Int)):Option (List Int):=chk (capOk 8 a1.length) (some a1)
theorem je (a1:(List Int)) (r:(List Int)) (h:Jq a1=some r):Run Try.prog (.call 70 [l3 none a1] (l3 (some 1) r)):=by
 refine cW Try.func70 rfl (env0:=[(0,l3 none a1)]) ?_;unfold Jq at h;obtain⟨hc,h⟩:=qi h;cases h;refine W.regS [0] [] [] [] (e2:=[(0,l3 none a1)]) (by kernel_rfl) (by kernel_rfl) ?_;refine W.seqU (e0:=[(0,l3 none a1),(3,l3 none a1),(4,.ub (M6 a1).isEmpty)]) (e2:=[(2,l3 (some 1) a1)]) (ei:=[(0,l3 none a1)]) (M6 a1).isEmpty ?_ (by kernel_rfl) (fun hp=>?_) ?_ ?_ ?_
 ·exact W.region (by kernel_rfl) (WO.end0 (e2:=[(0,l3 none a1),(3,l3 none a1),(4,.ub (M6 a1).isEmpty)]) (by kernel_rfl) ⟨rfl,rfl⟩)
 ·have hl:a1=[]:=by simpa using hp
  subst hl;refine W.regS [2] [] [] [] (e2:=[(2,.nils)]) (by kernel_rfl) (by kernel_rfl) ?_;refine W.weak [2] [] [(2,0,3,1,1)] [] (env':=[(2,l3 (some 1) [])]) (by kernel_rfl) ?_;exact W.ret ⟨rfl,rfl⟩
 ·refine W.weak [0] [] [] [] (env':=[(0,l3 none a1)]) (by kernel_rfl) ?_;exact W.skip ⟨rfl,rfl⟩
 ·refine W.seq ?_;refine W.rg ?_;refine WO.appendK 2 (d:=7) (e:=3) (s:=1) (bytes:=8) (xs:=[]) (ys:=(M6 a1)) (zs:=(M6 a1)) (env1:=[(0,l3 none a1),(5,.lst 3 1 none []),(6,l3 none a1)]) (by kernel_rfl) rfl (by rw[List.length_map];exact hc) (e1:=[(0,l3 none a1),(5,.lst 3 1 none []),(6,l3 none a1),(7,l3 (some 7) a1)]) (by kernel_rfl) ?_;refine WO.fin [2] [] [] [(7,some 1)] (e2:=[(2,l3 (some 1) a1)]) (by kernel_rfl) (fun _ h=>h) ?_;exact W.ret ⟨rfl,rfl⟩
 ·have hr:qq Try.prog Try.f70 [(2,l3 (some 1) a1)]=some (l3 (some 1) a1):=by kernel_rfl
  exact hr
def Zk (a1:rf2Atom):Option qj :=
 ((sub a1.qa 0 (if 5<(a1.qa.length:Int) then 5 else (a1.qa.length:Int))).bind fun e4=>((Jq e4).bind fun w5=>(some (qj.mk a1.qb w5))))
theorem Uz (a1:rf2Atom) (r:qj) (h:Zk a1=some r):Run Try.prog (.call 59 [.agg [I6 a1.qb,l3 none a1.qa]] (.agg [I6 r.qb,l3 none r.qa])):=by
 refine cW Try.func59 rfl (env0:=[(0,.agg [I6 a1.qb,l3 none a1.qa])]) ?_;unfold Zk at h;refine W.seq ?_
 let z0:=fun t=>EN ((1,.ptr (.agg [I6 a1.qb,l3 none a1.qa]))::(2,.box [.int .i64 0,.nils])::t)
 refine W.regT [1,2] [1] [] [] (e2:=z0 []) (by kernel_rfl) (by kernel_rfl) (fun _ h=>h) ?_;refine W.seq ?_;refine W.rg ?_
 let z1:=fun t=>z0 ((3,.ptr (I6 a1.qb))::(4,I6 a1.qb)::(5,.ptr (l3 none a1.qa))::(6,l3 none a1.qa)::(7,.ptr (l3 none a1.qa))::(8,l3 none a1.qa)::(9,I6 (a1.qa.length:Int))::t)
 refine WO.pk 6 (some (I6 ((M6 a1.qa).length:Int))) (v:=I6 (a1.qa.length:Int)) (by rw[List.length_map]) (e1:=z1 []) ?_;obtain⟨e4,he4,h⟩:=qf h
 let z2:=fun t=>z1 ((10,I6 (if 5<(a1.qa.length:Int) then 5 else (a1.qa.length:Int)))::(11,l3 none e4)::t)
 refine WO.pk 1 (if (0:Int)≤0∧0≤(if 5<(a1.qa.length:Int) then 5 else (a1.qa.length:Int))∧(if 5<(a1.qa.length:Int) then 5 else (a1.qa.length:Int))≤((M6 a1.qa).length:Int) then some (.lst 3 1 none (((M6 a1.qa).take (Int.toNat (if 5<(a1.qa.length:Int) then 5 else (a1.qa.length:Int)))).drop (Int.toNat 0))) else none) (v:=l3 none e4) (qfp he4) (e1:=z2 []) ?_;obtain⟨w5,hw5,h⟩:=qf h;refine WO.ck 0 (F:=70) (l:=[l3 none e4]) (C:=[]) (r:=l3 (some 1) w5) (je e4 w5 hw5) (e1:=z2 [(12,l3 none w5)]) ?_;refine WO.fn (e2:=[(2,.box [I6 a1.qb,l3 none w5])]) ?_;refine W.wk (env':=[(2,.box [I6 a1.qb,l3 none w5])]) ?_;cases h;exact W.ret (show qq _ _ _=some _ by kernel_rfl)
def Jz (v26:(List ruRule)):Option (List ruRule) :=
 (some v26)
def Qm (v6:(List ruRule)) (N1:((List ruRule)→Option (List ruRule))) (v24:ruRule):Option (List ruRule) :=
 (chk (capOk 56 ((v6++[v24])).length) (N1 (v6++[v24])))
def Xn (v15:Int) (v16:(List Int)) (N2:(Int→(List Int)→(List ruLit)→Option (List ruRule))) (v23:(List ruLit)):Option (List ruRule) :=
 (N2 v15 v16 v23)
def JM (K13:(ruRule→Option (List ruRule))):List rf3Lit→Nat→Int→(List Int)→(List ruLit)→Option (List ruRule)
 | [],k2,v15,v16,v17=>(K13 (ruRule.mk (qj.mk v15 v16) v17))
 | x2::r2,k2,v15,v16,v17=>(bif (decide ((k2:Int)<5)) then ((Zk x2.qe).bind fun w21=>(chk (capOk 40 ((v17++[(ruLit.mk x2.qn w21)])).length) ((Xn v15 v16 (JM K13 r2 (k2+1))) (v17++[(ruLit.mk x2.qn w21)])))) else ((Xn v15 v16 (JM K13 r2 (k2+1))) v17))
def jR (K4:((List ruRule)→Option (List ruRule))):List rf3Rule→Nat→(List ruRule)→Option (List ruRule)
 | [],k1,v6=>(K4 v6)
 | x1::r1,k1,v6=>(bif (decide ((k1:Int) > 11)) then (K4 v6) else ((Zk x1.qc).bind fun w12=>(chk (lenOk x1.qd) (JM (Qm v6 (jR K4 r1 (k1+1))) x1.qd 0 w12.qb w12.qa ([]:(List ruLit))))))
def Ns (a1:(List rf3Rule)):Option (List ruRule) :=
 (chk (lenOk a1) (jR (Jz) a1 0 ([]:(List ruRule))))
theorem Hs (a1:(List rf3Rule)) (r:(List ruRule)) (h:Ns a1=some r):Run Try.prog (.call 18 [l94 none a1] (l54 (some 1) r)):=by
 refine cW Try.func18 rfl (env0:=[(0,l94 none a1)]) ?_;unfold Ns at h;refine W.seq ?_;refine W.rt (e2:=[(0,l94 none a1)]) ?_;refine W.seq ?_;refine W.rt (e2:=[(0,l94 none a1),(3,.nils)]) ?_;refine W.seq ?_;refine W.join (σ:=((List ruRule))) (fun s=>[(3,l54 (some 10300) s)]) (fun s=>(Jz) s=some r) (fun v26 h=>?_) (fun hK4=>?_)
 ·have h:(Jz) v26=some r:=h;unfold Jz at h;refine W.seq ?_;refine W.rt (e2:=[(2,l54 (some 10300) v26)]) ?_;refine W.weak [2] [] [] [(10300,some 1)] (env':=[(2,l54 (some 1) v26)]) (by kernel_rfl) ?_;cases h;exact W.ret (show qq _ _ _=some _ by kernel_rfl)
 refine W.seq ?_;refine W.rg ?_;refine WO.pk 1 (some (I6 ((List.map XR a1).length:Int))) (v:=I6 (a1.length:Int)) (by rw[List.length_map]) (e1:=[(0,l94 none a1),(3,.nils),(9,l94 none a1),(10,I6 (a1.length:Int))]) ?_;refine WO.fn (e2:=[(3,.nils),(9,l94 none a1),(10,I6 (a1.length:Int)),(11,.int .i64 0)]) ?_;refine W.block ?_;obtain⟨hl1,h⟩:=qi h;refine W.weak [3,9,10,11] [] [(3,0,54,3,10300)] [] (env':=[(3,l54 (some 10300) ([]:(List ruRule))),(9,l94 none a1),(10,I6 (a1.length:Int)),(11,I6 ((0:Nat):Int))]) (by kernel_rfl) ?_;refine W.range (σ:=((List ruRule))) a1 (fun k1 s=>[(3,l54 (some 10300) s),(9,l94 none a1),(10,I6 (a1.length:Int)),(11,I6 (k1:Int))]) (fun r0 k0 s=>jR (Jz) r0 k0 s=some r) (fun v6 h=>?_) (fun x1 r1 k1 s hx1 hk1 h hN1=>?_) ([]:(List ruRule)) h
 ·have h:jR (Jz) [] (a1).length v6=some r:=h;rw[jR.eq_1]at h;refine W.seq ?_;refine W.rg ?_
  let z0:=fun t=>EN ((3,l54 (some 10300) v6)::(9,l94 none a1)::(10,I6 (a1.length:Int))::(11,I6 ((a1).length:Int))::(12,.bool false)::t)
  refine WO.pk 0 (some (.bool (decide (((a1).length:Int)<(a1.length:Int))))) (v:=.bool false) (by rw[jw (l:=a1)]) (e1:=z0 []) ?_;refine WO.fn (e2:=z0 []) ?_;refine W.seq ?_;refine W.cb false (fun h=>Bool.noConfusion h) (fun _=>?_);refine W.exit ?_;refine W.wk (env':=[(3,l54 (some 10300) v6)]) ?_;exact hK4 v6 h
 ·obtain⟨v6,rfl⟩:∃ x,x=s:=⟨s,rfl⟩;have h:jR (Jz) (x1::r1) k1 v6=some r:=h;rw[jR.eq_2]at h;refine W.seq ?_;refine W.rg ?_
  let z1:=fun t=>EN ((3,l54 (some 10300) v6)::t)
  let z2:=fun t=>z1 ((9,l94 none a1)::(10,I6 (a1.length:Int))::(11,I6 (k1:Int))::t)
  refine WO.pk 0 (some (.bool (decide ((k1:Int)<(a1.length:Int))))) (v:=.bool true) (by rw[jT hk1]) (e1:=z2 [(12,.bool true)]) ?_;refine WO.fn (e2:=z2 [(12,.bool true)]) ?_;refine W.seq ?_;refine W.cb true (fun _=>?_) (fun h=>Bool.noConfusion h);refine W.skip ?_;refine W.wk (env':=z2 []) ?_;refine W.seq ?_;refine W.block ?_;refine W.seq ?_;refine W.rg ?_;refine WO.pk 1 (if (0:Int)≤(k1:Int) then ((List.map XR a1)[Int.toNat (k1:Int)]?).map AV.ptr else none) (v:=.ptr (.agg [I6 x1.qc.qb,l3 none x1.qc.qa,l96 none x1.qd])) (jU (f:=XR) hx1) (e1:=z2 [(13,I6 (k1:Int)),(14,.ptr (.agg [I6 x1.qc.qb,l3 none x1.qc.qa,l96 none x1.qd]))]) ?_;refine WO.fin [3,4,5,9,10,11] [5] [] [] (e2:=z1 [(4,I6 (k1:Int)),(5,.ptr (.agg [I6 x1.qc.qb,l3 none x1.qc.qa,l96 none x1.qd])),(9,l94 none a1),(10,I6 (a1.length:Int)),(11,I6 (k1:Int))]) (by kernel_rfl) (fun _ h=>h) ?_;refine W.seq ?_;refine W.seq ?_
  let z3:=fun t=>z1 ((5,.ptr (.agg [I6 x1.qc.qb,l3 none x1.qc.qa,l96 none x1.qd]))::t)
  let z4:=fun t=>z3 ((9,l94 none a1)::(10,I6 (a1.length:Int))::(11,I6 (k1:Int))::t)
  refine W.rt (e2:=z4 [(17,.bool (decide ((k1:Int) > 11)))]) ?_;refine W.cb (decide ((k1:Int) > 11)) (fun hb=>?_) (fun hb=>?_)
  ·replace h:=qv hb h;refine W.exit ?_;refine W.wk (env':=z1 []) ?_;exact hK4 v6 h
  replace h:=qw hb h;refine W.skip ?_;refine W.wk (env':=z4 []) ?_;refine W.seq ?_;refine W.rg ?_;obtain⟨w12,hw12,h⟩:=qf h;refine WO.ck 2 (F:=59) (l:=[.agg [I6 x1.qc.qb,l3 none x1.qc.qa]]) (C:=[]) (r:=.agg [I6 w12.qb,l3 none w12.qa]) (Uz x1.qc w12 hw12) (e1:=z4 [(18,.ptr (.agg [I6 x1.qc.qb,l3 none x1.qc.qa])),(19,.agg [I6 x1.qc.qb,l3 none x1.qc.qa]),(20,.agg [I6 w12.qb,l3 none w12.qa])]) ?_
  let z5:=fun t=>z3 ((6,.box [I6 w12.qb,l3 none w12.qa,.nils])::(9,l94 none a1)::(10,I6 (a1.length:Int))::(11,I6 (k1:Int))::t)
  refine WO.fn (e2:=z5 []) ?_;refine W.seq ?_;refine W.join (σ:=(ruRule)) (fun s=>z1 [(6,.ptr (.agg [I6 s.qc.qb,l3 none s.qc.qa,l56 none s.qd])),(9,l94 none a1),(10,I6 (a1.length:Int)),(11,I6 (k1:Int))]) (fun s=>(Qm v6 (jR (Jz) r1 (k1+1))) s=some r) (fun v24 h=>?_) (fun hK13=>?_)
  ·have h:(Qm v6 (jR (Jz) r1 (k1+1))) v24=some r:=h;unfold Qm at h;refine W.rg ?_;obtain⟨hc25,h⟩:=qi h;refine WO.appendK 3 (d:=47) (e:=54) (s:=3) (bytes:=56) (xs:=(List.map ja v6)) (ys:=(List.map ja [v24])) (zs:=(List.map ja (v6++[v24]))) (env1:=[(3,l54 none v6),(6,.ptr (.agg [I6 v24.qc.qb,l3 none v24.qc.qa,l56 none v24.qd])),(9,l94 none a1),(10,I6 (a1.length:Int)),(11,I6 (k1:Int)),(44,l54 none v6),(45,.agg [I6 v24.qc.qb,l3 none v24.qc.qa,l56 none v24.qd]),(46,l54 (some 46) [v24])]) (by kernel_rfl) (List.map_append.symm) (by rw[List.length_map];exact hc25) (e1:=[(3,l54 none v6),(6,.ptr (.agg [I6 v24.qc.qb,l3 none v24.qc.qa,l56 none v24.qd])),(9,l94 none a1),(10,I6 (a1.length:Int)),(11,I6 (k1:Int)),(44,l54 none v6),(45,.agg [I6 v24.qc.qb,l3 none v24.qc.qa,l56 none v24.qd]),(46,l54 (some 46) [v24]),(47,l54 (some 47) (v6++[v24]))]) (by kernel_rfl) ?_
   let z6:=fun t=>EN ((3,l54 (some 47) (v6++[v24]))::(9,l94 none a1)::(10,I6 (a1.length:Int))::(11,I6 (k1:Int))::t)
   refine WO.fn (e2:=z6 []) ?_;refine W.rg ?_;refine WO.pk 0 (some (I6 (IntKind.wrap .i64 ((k1:Int)+1)))) (v:=I6 ((k1+1:Nat):Int)) (by rw[qX hl1 hk1]) (e1:=z6 [(48,I6 ((k1+1:Nat):Int))]) ?_;refine WO.fin [3,9,10,11] [] [] [(47,some 10300)] (e2:=[(3,l54 (some 10300) (v6++[v24])),(9,l94 none a1),(10,I6 (a1.length:Int)),(11,I6 ((k1+1:Nat):Int))]) (by kernel_rfl) (fun _ h=>h) ?_;exact hN1 (v6++[v24]) h
  refine W.seq ?_;refine W.rg ?_;refine WO.pk 2 (some (I6 ((List.map YE x1.qd).length:Int))) (v:=I6 (x1.qd.length:Int)) (by rw[List.length_map]) (e1:=z5 [(22,.ptr (l96 none x1.qd)),(23,l96 none x1.qd),(24,I6 (x1.qd.length:Int))]) ?_;refine WO.fn (e2:=z1 [(6,.box [I6 w12.qb,l3 none w12.qa,.nils]),(9,l94 none a1),(10,I6 (a1.length:Int)),(11,I6 (k1:Int)),(23,l96 none x1.qd),(24,I6 (x1.qd.length:Int)),(25,.int .i64 0)]) ?_;refine W.block ?_;obtain⟨hl2,h⟩:=qi h;refine W.weak [3,6,9,10,11,23,24,25] [] [(6,2,56,3,10602)] [] (env':=z1 [(6,.box [I6 w12.qb,l3 none w12.qa,l56 (some 10602) ([]:(List ruLit))]),(9,l94 none a1),(10,I6 (a1.length:Int)),(11,I6 (k1:Int)),(23,l96 none x1.qd),(24,I6 (x1.qd.length:Int)),(25,I6 ((0:Nat):Int))]) (by kernel_rfl) ?_;refine W.range (σ:=(Int×(List Int)×(List ruLit))) x1.qd (fun k2 s=>z1 [(6,.box [I6 s.1,l3 none s.2.1,l56 (some 10602) s.2.2]),(9,l94 none a1),(10,I6 (a1.length:Int)),(11,I6 (k1:Int)),(23,l96 none x1.qd),(24,I6 (x1.qd.length:Int)),(25,I6 (k2:Int))]) (fun r0 k0 s=>JM (Qm v6 (jR (Jz) r1 (k1+1))) r0 k0 s.1 s.2.1 s.2.2=some r) (fun s h=>?_) (fun x2 r2 k2 s hx2 hk2 h hN2=>?_) (w12.qb,w12.qa,([]:(List ruLit))) h
  ·obtain⟨v15,v16,v17⟩:=s;have h:JM (Qm v6 (jR (Jz) r1 (k1+1))) [] (x1.qd).length v15 v16 v17=some r:=h;rw[JM.eq_1]at h;refine W.seq ?_;refine W.rg ?_
   let z7:=fun t=>z1 ((6,.box [I6 v15,l3 none v16,l56 (some 10602) v17])::(9,l94 none a1)::(10,I6 (a1.length:Int))::(11,I6 (k1:Int))::(23,l96 none x1.qd)::(24,I6 (x1.qd.length:Int))::(25,I6 ((x1.qd).length:Int))::(26,.bool false)::t)
   refine WO.pk 0 (some (.bool (decide (((x1.qd).length:Int)<(x1.qd.length:Int))))) (v:=.bool false) (by rw[jw (l:=x1.qd)]) (e1:=z7 []) ?_;refine WO.fn (e2:=z7 []) ?_;refine W.seq ?_;refine W.cb false (fun h=>Bool.noConfusion h) (fun _=>?_);refine W.exit ?_;refine W.weak [3,6,9,10,11] [6] [] [] (env':=z1 [(6,.ptr (.agg [I6 (ruRule.mk (qj.mk v15 v16) v17).qc.qb,l3 none (ruRule.mk (qj.mk v15 v16) v17).qc.qa,l56 none (ruRule.mk (qj.mk v15 v16) v17).qd])),(9,l94 none a1),(10,I6 (a1.length:Int)),(11,I6 (k1:Int))]) (by kernel_rfl) ?_;exact hK13 (ruRule.mk (qj.mk v15 v16) v17) h
  ·obtain⟨v15,v16,v17⟩:=s;have h:JM (Qm v6 (jR (Jz) r1 (k1+1))) (x2::r2) k2 v15 v16 v17=some r:=h;rw[JM.eq_2]at h;refine W.seq ?_;refine W.rg ?_
   let z8:=fun t=>z1 ((6,.box [I6 v15,l3 none v16,l56 (some 10602) v17])::(9,l94 none a1)::(10,I6 (a1.length:Int))::(11,I6 (k1:Int))::(23,l96 none x1.qd)::(24,I6 (x1.qd.length:Int))::(25,I6 (k2:Int))::t)
   refine WO.pk 0 (some (.bool (decide ((k2:Int)<(x1.qd.length:Int))))) (v:=.bool true) (by rw[jT hk2]) (e1:=z8 [(26,.bool true)]) ?_;refine WO.fn (e2:=z8 [(26,.bool true)]) ?_;refine W.seq ?_;refine W.cb true (fun _=>?_) (fun h=>Bool.noConfusion h);refine W.skip ?_;refine W.wk (env':=z8 []) ?_;refine W.seq ?_;refine W.join (σ:=((List ruLit))) (fun s=>z1 [(6,.box [I6 v15,l3 none v16,l56 (some 10602) s]),(9,l94 none a1),(10,I6 (a1.length:Int)),(11,I6 (k1:Int)),(23,l96 none x1.qd),(24,I6 (x1.qd.length:Int)),(25,I6 (k2:Int))]) (fun s=>(Xn v15 v16 (JM (Qm v6 (jR (Jz) r1 (k1+1))) r2 (k2+1))) s=some r) (fun v23 h=>?_) (fun hK18=>?_)
   ·have h:(Xn v15 v16 (JM (Qm v6 (jR (Jz) r1 (k1+1))) r2 (k2+1))) v23=some r:=h;unfold Xn at h;refine W.rg ?_
    let z9:=fun t=>z1 ((6,.box [I6 v15,l3 none v16,l56 (some 10602) v23])::(9,l94 none a1)::(10,I6 (a1.length:Int))::(11,I6 (k1:Int))::(23,l96 none x1.qd)::(24,I6 (x1.qd.length:Int))::t)
    refine WO.pk 0 (some (I6 (IntKind.wrap .i64 ((k2:Int)+1)))) (v:=I6 ((k2+1:Nat):Int)) (by rw[qX hl2 hk2]) (e1:=z9 [(25,I6 (k2:Int)),(43,I6 ((k2+1:Nat):Int))]) ?_;refine WO.fn (e2:=z9 [(25,I6 ((k2+1:Nat):Int))]) ?_;exact hN2 (v15,v16,v23) h
   refine W.block ?_;refine W.seq ?_;refine W.rg ?_;refine WO.pk 1 (if (0:Int)≤(k2:Int) then ((List.map YE x1.qd)[Int.toNat (k2:Int)]?).map AV.ptr else none) (v:=.ptr (.agg [.bool x2.qn,I6 x2.qe.qb,l3 none x2.qe.qa])) (jU (f:=YE) hx2) (e1:=z8 [(27,I6 (k2:Int)),(28,.ptr (.agg [.bool x2.qn,I6 x2.qe.qb,l3 none x2.qe.qa]))]) ?_
   let z10:=fun t=>z1 ((6,.box [I6 v15,l3 none v16,l56 (some 10602) v17])::t)
   refine WO.fin [3,6,7,8,9,10,11,23,24,25] [8] [] [] (e2:=z10 [(7,I6 (k2:Int)),(8,.ptr (.agg [.bool x2.qn,I6 x2.qe.qb,l3 none x2.qe.qa])),(9,l94 none a1),(10,I6 (a1.length:Int)),(11,I6 (k1:Int)),(23,l96 none x1.qd),(24,I6 (x1.qd.length:Int)),(25,I6 (k2:Int))]) (by kernel_rfl) (fun _ h=>h) ?_;refine W.seq ?_
   let z11:=fun t=>z10 ((8,.ptr (.agg [.bool x2.qn,I6 x2.qe.qb,l3 none x2.qe.qa]))::(9,l94 none a1)::(10,I6 (a1.length:Int))::(11,I6 (k1:Int))::(23,l96 none x1.qd)::(24,I6 (x1.qd.length:Int))::(25,I6 (k2:Int))::(31,.bool (decide ((k2:Int)<5)))::t)
   refine W.rt (e2:=z11 []) ?_;refine W.cb (decide ((k2:Int)<5)) (fun hb=>?_) (fun hb=>?_)
   ·replace h:=qv hb h;refine W.rg ?_;obtain⟨w21,hw21,h⟩:=qf h;refine WO.ck 6 (F:=59) (l:=[.agg [I6 x2.qe.qb,l3 none x2.qe.qa]]) (C:=[]) (r:=.agg [I6 w21.qb,l3 none w21.qa]) (Uz x2.qe w21 hw21) (e1:=z11 [(32,.pb 6 2),(33,l56 (some 10602) v17),(34,.ptr (.bool x2.qn)),(35,.bool x2.qn),(36,.ptr (.agg [I6 x2.qe.qb,l3 none x2.qe.qa])),(37,.agg [I6 x2.qe.qb,l3 none x2.qe.qa]),(38,.agg [I6 w21.qb,l3 none w21.qa])]) ?_;obtain⟨hc22,h⟩:=qi h;refine WO.appendK 2 (d:=41) (e:=56) (s:=3) (bytes:=40) (xs:=(List.map jV v17)) (ys:=(List.map jV [(ruLit.mk x2.qn w21)])) (zs:=(List.map jV (v17++[(ruLit.mk x2.qn w21)]))) (env1:=[(3,l54 (some 10300) v6),(6,.box [I6 v15,l3 none v16,l56 none v17]),(8,.ptr (.agg [.bool x2.qn,I6 x2.qe.qb,l3 none x2.qe.qa])),(9,l94 none a1),(10,I6 (a1.length:Int)),(11,I6 (k1:Int)),(23,l96 none x1.qd),(24,I6 (x1.qd.length:Int)),(25,I6 (k2:Int)),(31,.bool (decide ((k2:Int)<5))),(32,.pb 6 2),(33,l56 none v17),(34,.ptr (.bool x2.qn)),(35,.bool x2.qn),(36,.ptr (.agg [I6 x2.qe.qb,l3 none x2.qe.qa])),(37,.agg [I6 x2.qe.qb,l3 none x2.qe.qa]),(38,.agg [I6 w21.qb,l3 none w21.qa]),(39,.agg [.bool x2.qn,I6 w21.qb,l3 none w21.qa]),(40,l56 none [(ruLit.mk x2.qn w21)])]) (by kernel_rfl) (List.map_append.symm) (by rw[List.length_map];exact hc22) (e1:=z1 [(6,.box [I6 v15,l3 none v16,l56 none v17]),(8,.ptr (.agg [.bool x2.qn,I6 x2.qe.qb,l3 none x2.qe.qa])),(9,l94 none a1),(10,I6 (a1.length:Int)),(11,I6 (k1:Int)),(23,l96 none x1.qd),(24,I6 (x1.qd.length:Int)),(25,I6 (k2:Int)),(31,.bool (decide ((k2:Int)<5))),(32,.pb 6 2),(33,l56 none v17),(34,.ptr (.bool x2.qn)),(35,.bool x2.qn),(36,.ptr (.agg [I6 x2.qe.qb,l3 none x2.qe.qa])),(37,.agg [I6 x2.qe.qb,l3 none x2.qe.qa]),(38,.agg [I6 w21.qb,l3 none w21.qa]),(39,.agg [.bool x2.qn,I6 w21.qb,l3 none w21.qa]),(40,l56 none [(ruLit.mk x2.qn w21)]),(41,l56 (some 41) (v17++[(ruLit.mk x2.qn w21)]))]) (by kernel_rfl) ?_;refine WO.fin [3,6,9,10,11,23,24,25] [] [] [(41,some 10602)] (e2:=z1 [(6,.box [I6 v15,l3 none v16,l56 (some 10602) (v17++[(ruLit.mk x2.qn w21)])]),(9,l94 none a1),(10,I6 (a1.length:Int)),(11,I6 (k1:Int)),(23,l96 none x1.qd),(24,I6 (x1.qd.length:Int)),(25,I6 (k2:Int))]) (by kernel_rfl) (fun _ h=>h) ?_;exact hK18 (v17++[(ruLit.mk x2.qn w21)]) h
   replace h:=qw hb h;refine W.skip ?_;refine W.wk (env':=z8 []) ?_;exact hK18 v17 h
def UH (a1:(List Int)):Option (List Int) :=
 ((sub a1 0 (if 9<(a1.length:Int) then 9 else (a1.length:Int))).bind fun e4=>((Jq e4).bind fun w5=>(some w5)))
theorem qbE (a1:(List Int)) (r:(List Int)) (h:UH a1=some r):Run Try.prog (.call 60 [l3 none a1] (l3 (some 1) r)):=by
 refine cW Try.func60 rfl (env0:=[(0,l3 none a1)]) ?_;unfold UH at h;refine W.seq ?_;refine W.rt (e2:=[(0,l3 none a1)]) ?_;refine W.seq ?_;refine W.rg ?_
 let z0:=fun t=>EN ((0,l3 none a1)::(3,l3 none a1)::(4,l3 none a1)::(5,I6 (a1.length:Int))::t)
 refine WO.pk 2 (some (I6 ((M6 a1).length:Int))) (v:=I6 (a1.length:Int)) (by rw[List.length_map]) (e1:=z0 []) ?_;obtain⟨e4,he4,h⟩:=qf h
 let z1:=fun t=>z0 ((6,I6 (if 9<(a1.length:Int) then 9 else (a1.length:Int)))::(7,l3 none e4)::t)
 refine WO.pk 1 (if (0:Int)≤0∧0≤(if 9<(a1.length:Int) then 9 else (a1.length:Int))∧(if 9<(a1.length:Int) then 9 else (a1.length:Int))≤((M6 a1).length:Int) then some (.lst 3 1 none (((M6 a1).take (Int.toNat (if 9<(a1.length:Int) then 9 else (a1.length:Int)))).drop (Int.toNat 0))) else none) (v:=l3 none e4) (qfp he4) (e1:=z1 []) ?_;obtain⟨w5,hw5,h⟩:=qf h;refine WO.ck 0 (F:=70) (l:=[l3 none e4]) (C:=[]) (r:=l3 (some 1) w5) (je e4 w5 hw5) (e1:=z1 [(8,l3 (some 8) w5)]) ?_;refine WO.fn (e2:=[(2,l3 (some 8) w5)]) ?_;refine W.weak [2] [] [] [(8,some 1)] (env':=[(2,l3 (some 1) w5)]) (by kernel_rfl) ?_;cases h;exact W.ret (show qq _ _ _=some _ by kernel_rfl)
def Qn (v13:(List apiFact)):Option (List apiFact) :=
 (some v13)
def Jv (K4:((List apiFact)→Option (List apiFact))):List apiFact→Nat→(List apiFact)→Option (List apiFact)
 | [],k1,v6=>(K4 v6)
 | x1::r1,k1,v6=>(bif (decide ((k1:Int) > 25)) then (K4 v6) else ((UH x1.qa).bind fun w11=>(chk (capOk 32 ((v6++[(apiFact.mk x1.qb w11)])).length) ((Jv K4 r1 (k1+1)) (v6++[(apiFact.mk x1.qb w11)])))))
def Yl (a1:(List apiFact)):Option (List apiFact) :=
 (chk (lenOk a1) (Jv (Qn) a1 0 ([]:(List apiFact))))
theorem VP (a1:(List apiFact)) (r:(List apiFact)) (h:Yl a1=some r):Run Try.prog (.call 19 [l41 none a1] (l41 (some 1) r)):=by
 refine cW Try.func19 rfl (env0:=[(0,l41 none a1)]) ?_;unfold Yl at h;refine W.seq ?_;refine W.rt (e2:=[(0,l41 none a1)]) ?_;refine W.seq ?_;refine W.rt (e2:=[(0,l41 none a1),(3,.nils)]) ?_;refine W.seq ?_;refine W.join (σ:=((List apiFact))) (fun s=>[(3,l41 (some 10300) s)]) (fun s=>(Qn) s=some r) (fun v13 h=>?_) (fun hK4=>?_)
 ·have h:(Qn) v13=some r:=h;unfold Qn at h;refine W.seq ?_;refine W.rt (e2:=[(2,l41 (some 10300) v13)]) ?_;refine W.weak [2] [] [] [(10300,some 1)] (env':=[(2,l41 (some 1) v13)]) (by kernel_rfl) ?_;cases h;exact W.ret (show qq _ _ _=some _ by kernel_rfl)
 refine W.seq ?_;refine W.rg ?_;refine WO.pk 1 (some (I6 ((List.map qg a1).length:Int))) (v:=I6 (a1.length:Int)) (by rw[List.length_map]) (e1:=[(0,l41 none a1),(3,.nils),(6,l41 none a1),(7,I6 (a1.length:Int))]) ?_;refine WO.fn (e2:=[(3,.nils),(6,l41 none a1),(7,I6 (a1.length:Int)),(8,.int .i64 0)]) ?_;refine W.block ?_;obtain⟨hl1,h⟩:=qi h;refine W.weak [3,6,7,8] [] [(3,0,41,2,10300)] [] (env':=[(3,l41 (some 10300) ([]:(List apiFact))),(6,l41 none a1),(7,I6 (a1.length:Int)),(8,I6 ((0:Nat):Int))]) (by kernel_rfl) ?_;refine W.range (σ:=((List apiFact))) a1 (fun k1 s=>[(3,l41 (some 10300) s),(6,l41 none a1),(7,I6 (a1.length:Int)),(8,I6 (k1:Int))]) (fun r0 k0 s=>Jv (Qn) r0 k0 s=some r) (fun v6 h=>?_) (fun x1 r1 k1 s hx1 hk1 h hN1=>?_) ([]:(List apiFact)) h
 ·have h:Jv (Qn) [] (a1).length v6=some r:=h;rw[Jv.eq_1]at h;refine W.seq ?_;refine W.rg ?_
  let z0:=fun t=>EN ((3,l41 (some 10300) v6)::(6,l41 none a1)::(7,I6 (a1.length:Int))::(8,I6 ((a1).length:Int))::(9,.bool false)::t)
  refine WO.pk 0 (some (.bool (decide (((a1).length:Int)<(a1.length:Int))))) (v:=.bool false) (by rw[jw (l:=a1)]) (e1:=z0 []) ?_;refine WO.fn (e2:=z0 []) ?_;refine W.seq ?_;refine W.cb false (fun h=>Bool.noConfusion h) (fun _=>?_);refine W.exit ?_;refine W.wk (env':=[(3,l41 (some 10300) v6)]) ?_;exact hK4 v6 h
 ·obtain⟨v6,rfl⟩:∃ x,x=s:=⟨s,rfl⟩;have h:Jv (Qn) (x1::r1) k1 v6=some r:=h;rw[Jv.eq_2]at h;refine W.seq ?_;refine W.rg ?_
  let z1:=fun t=>EN ((3,l41 (some 10300) v6)::(6,l41 none a1)::(7,I6 (a1.length:Int))::(8,I6 (k1:Int))::t)
  refine WO.pk 0 (some (.bool (decide ((k1:Int)<(a1.length:Int))))) (v:=.bool true) (by rw[jT hk1]) (e1:=z1 [(9,.bool true)]) ?_;refine WO.fn (e2:=z1 [(9,.bool true)]) ?_;refine W.seq ?_;refine W.cb true (fun _=>?_) (fun h=>Bool.noConfusion h);refine W.skip ?_;refine W.wk (env':=z1 []) ?_;refine W.seq ?_;refine W.block ?_;refine W.seq ?_;refine W.rg ?_;refine WO.pk 1 (if (0:Int)≤(k1:Int) then ((List.map qg a1)[Int.toNat (k1:Int)]?).map AV.ptr else none) (v:=.ptr (.agg [I6 x1.qb,l3 none x1.qa])) (jU (f:=qg) hx1) (e1:=z1 [(10,I6 (k1:Int)),(11,.ptr (.agg [I6 x1.qb,l3 none x1.qa]))]) ?_
  let z2:=fun t=>EN ((3,l41 (some 10300) v6)::t)
  refine WO.fin [3,4,5,6,7,8] [5] [] [] (e2:=z2 [(4,I6 (k1:Int)),(5,.ptr (.agg [I6 x1.qb,l3 none x1.qa])),(6,l41 none a1),(7,I6 (a1.length:Int)),(8,I6 (k1:Int))]) (by kernel_rfl) (fun _ h=>h) ?_;refine W.seq ?_;refine W.seq ?_
  let z3:=fun t=>z2 ((5,.ptr (.agg [I6 x1.qb,l3 none x1.qa]))::(6,l41 none a1)::(7,I6 (a1.length:Int))::(8,I6 (k1:Int))::t)
  refine W.rt (e2:=z3 [(14,.bool (decide ((k1:Int) > 25)))]) ?_;refine W.cb (decide ((k1:Int) > 25)) (fun hb=>?_) (fun hb=>?_)
  ·replace h:=qv hb h;refine W.exit ?_;refine W.wk (env':=z2 []) ?_;exact hK4 v6 h
  replace h:=qw hb h;refine W.skip ?_;refine W.wk (env':=z3 []) ?_;refine W.rg ?_;obtain⟨w11,hw11,h⟩:=qf h;refine WO.ck 5 (F:=60) (l:=[l3 none x1.qa]) (C:=[]) (r:=l3 (some 1) w11) (qbE x1.qa w11 hw11) (e1:=z3 [(15,l41 (some 10300) v6),(16,.ptr (I6 x1.qb)),(17,I6 x1.qb),(18,.ptr (l3 none x1.qa)),(19,l3 none x1.qa),(20,l3 none w11)]) ?_;obtain⟨hc12,h⟩:=qi h;refine WO.appendK 2 (d:=23) (e:=41) (s:=2) (bytes:=32) (xs:=(List.map qg v6)) (ys:=(List.map qg [(apiFact.mk x1.qb w11)])) (zs:=(List.map qg (v6++[(apiFact.mk x1.qb w11)]))) (env1:=[(3,l41 none v6),(5,.ptr (.agg [I6 x1.qb,l3 none x1.qa])),(6,l41 none a1),(7,I6 (a1.length:Int)),(8,I6 (k1:Int)),(15,l41 none v6),(16,.ptr (I6 x1.qb)),(17,I6 x1.qb),(18,.ptr (l3 none x1.qa)),(19,l3 none x1.qa),(20,l3 none w11),(21,.agg [I6 x1.qb,l3 none w11]),(22,l41 none [(apiFact.mk x1.qb w11)])]) (by kernel_rfl) (List.map_append.symm) (by rw[List.length_map];exact hc12) (e1:=[(3,l41 none v6),(5,.ptr (.agg [I6 x1.qb,l3 none x1.qa])),(6,l41 none a1),(7,I6 (a1.length:Int)),(8,I6 (k1:Int)),(15,l41 none v6),(16,.ptr (I6 x1.qb)),(17,I6 x1.qb),(18,.ptr (l3 none x1.qa)),(19,l3 none x1.qa),(20,l3 none w11),(21,.agg [I6 x1.qb,l3 none w11]),(22,l41 none [(apiFact.mk x1.qb w11)]),(23,l41 (some 23) (v6++[(apiFact.mk x1.qb w11)]))]) (by kernel_rfl) ?_
  let z4:=fun t=>EN ((3,l41 (some 23) (v6++[(apiFact.mk x1.qb w11)]))::(6,l41 none a1)::(7,I6 (a1.length:Int))::(8,I6 (k1:Int))::t)
  refine WO.fn (e2:=z4 []) ?_;refine W.rg ?_;refine WO.pk 0 (some (I6 (IntKind.wrap .i64 ((k1:Int)+1)))) (v:=I6 ((k1+1:Nat):Int)) (by rw[qX hl1 hk1]) (e1:=z4 [(24,I6 ((k1+1:Nat):Int))]) ?_;refine WO.fin [3,6,7,8] [] [] [(23,some 10300)] (e2:=[(3,l41 (some 10300) (v6++[(apiFact.mk x1.qb w11)])),(6,l41 none a1),(7,I6 (a1.length:Int)),(8,I6 ((k1+1:Nat):Int))]) (by kernel_rfl) (fun _ h=>h) ?_;exact hN1 (v6++[(apiFact.mk x1.qb w11)]) h
def qV:Option Bool :=
 (some true)
def qG (a2:(List apiFact)) (g3:(apiFact→apiFact→Option Bool)) (K8:(Option Bool)):List apiFact→Nat→Option Bool
 | [],k1=>K8
 | x1::r1,k1=>((idx a2 (k1:Int)).bind fun e13=>((g3 x1 e13).bind fun w15=>(bif (!w15) then (some false) else (qG a2 g3 K8 r1 (k1+1)))))
def JV (a1:(List apiFact)) (a2:(List apiFact)) (g3:(apiFact→apiFact→Option Bool)):Option Bool :=
 (bif ((a1.length:Int) != (a2.length:Int)) then (some false) else (chk (lenOk a1) (qG a2 g3 (qV) a1 0)))
theorem YS (a1:(List apiFact)) (a2:(List apiFact)) (g3:(apiFact→apiFact→Option Bool)) (F_g3:Nat) (C_g3:List AV) (hok_g3:okFn Try.prog F_g3=true) (hrun_g3:∀ (x0:apiFact) (x1:apiFact) r,g3 x0 x1=some r→Run Try.prog (.call F_g3 ([.agg [I6 x0.qb,l3 none x0.qa],.agg [I6 x1.qb,l3 none x1.qa]]++C_g3) (.bool r))) (r:Bool) (h:JV a1 a2 g3=some r):Run Try.prog (.call 65 [l41 none a1,l41 none a2,.clo F_g3 C_g3] (.bool r)):=by
 refine cW Try.func65 rfl (env0:=[(0,l41 none a1),(1,l41 none a2),(2,.clo F_g3 C_g3)]) ?_;unfold JV at h;refine W.seq ?_
 let z0:=fun t=>EN ((0,l41 none a1)::(1,l41 none a2)::(2,.clo F_g3 C_g3)::t)
 refine W.rt (e2:=z0 []) ?_;refine W.seq ?_;refine W.seq ?_;refine W.rg ?_
 let z1:=fun t=>z0 ((10,l41 none a1)::(11,I6 (a1.length:Int))::t)
 refine WO.pk 1 (some (I6 ((List.map qg a1).length:Int))) (v:=I6 (a1.length:Int)) (by rw[List.length_map]) (e1:=z1 []) ?_;refine WO.pk 1 (some (I6 ((List.map qg a2).length:Int))) (v:=I6 (a2.length:Int)) (by rw[List.length_map]) (e1:=z1 [(12,l41 none a2),(13,I6 (a2.length:Int))]) ?_;refine WO.fn (e2:=z0 [(14,.bool ((a1.length:Int) != (a2.length:Int)))]) ?_;refine W.cb ((a1.length:Int) != (a2.length:Int)) (fun hb=>?_) (fun hb=>?_)
 ·replace h:=qv hb h;refine W.seq ?_;refine W.rt (e2:=[(6,.bool false)]) ?_;refine W.wk (env':=[(6,.bool false)]) ?_;cases h;exact W.ret (show qq _ _ _=some _ by kernel_rfl)
 replace h:=qw hb h;refine W.skip ?_;refine W.wk (env':=z0 []) ?_;refine W.seq ?_;refine W.join (σ:=Unit) (fun s=>[]) (fun s=>(qV)=some r) (fun s h=>?_) (fun hK8=>?_)
 ·have h:(qV)=some r:=h;unfold qV at h;refine W.seq ?_;refine W.rt (e2:=[(6,.bool true)]) ?_;refine W.wk (env':=[(6,.bool true)]) ?_;cases h;exact W.ret (show qq _ _ _=some _ by kernel_rfl)
 refine W.seq ?_;refine W.rg ?_;refine WO.pk 1 (some (I6 ((List.map qg a1).length:Int))) (v:=I6 (a1.length:Int)) (by rw[List.length_map]) (e1:=z0 [(15,l41 none a1),(16,I6 (a1.length:Int))]) ?_
 let z2:=fun t=>EN ((1,l41 none a2)::(2,.clo F_g3 C_g3)::(15,l41 none a1)::(16,I6 (a1.length:Int))::t)
 refine WO.fn (e2:=z2 [(17,.int .i64 0)]) ?_;refine W.block ?_;obtain⟨hl1,h⟩:=qi h;refine W.wk (env':=z2 [(17,I6 ((0:Nat):Int))]) ?_;refine W.range (σ:=Unit) a1 (fun k1 s=>z2 [(17,I6 (k1:Int))]) (fun r0 k0 s=>qG a2 g3 (qV) r0 k0=some r) (fun s h=>?_) (fun x1 r1 k1 s hx1 hk1 h hN1=>?_) () h
 ·have h:qG a2 g3 (qV) [] (a1).length=some r:=h;rw[qG.eq_1]at h;refine W.seq ?_;refine W.rg ?_
  let z3:=fun t=>z2 ((17,I6 ((a1).length:Int))::(18,.bool false)::t)
  refine WO.pk 0 (some (.bool (decide (((a1).length:Int)<(a1.length:Int))))) (v:=.bool false) (by rw[jw (l:=a1)]) (e1:=z3 []) ?_;refine WO.fn (e2:=z3 []) ?_;refine W.seq ?_;refine W.cb false (fun h=>Bool.noConfusion h) (fun _=>?_);refine W.exit ?_;refine W.wk (env':=[]) ?_;exact hK8 () h
 ·have h:qG a2 g3 (qV) (x1::r1) k1=some r:=h;rw[qG.eq_2]at h;refine W.seq ?_;refine W.rg ?_
  let z4:=fun t=>z2 ((17,I6 (k1:Int))::t)
  refine WO.pk 0 (some (.bool (decide ((k1:Int)<(a1.length:Int))))) (v:=.bool true) (by rw[jT hk1]) (e1:=z4 [(18,.bool true)]) ?_;refine WO.fn (e2:=z4 [(18,.bool true)]) ?_;refine W.seq ?_;refine W.cb true (fun _=>?_) (fun h=>Bool.noConfusion h);refine W.skip ?_;refine W.wk (env':=z4 []) ?_;refine W.seq ?_;refine W.block ?_;refine W.seq ?_;refine W.rg ?_;refine WO.pk 1 (if (0:Int)≤(k1:Int) then ((List.map qg a1)[Int.toNat (k1:Int)]?).map AV.ptr else none) (v:=.ptr (.agg [I6 x1.qb,l3 none x1.qa])) (jU (f:=qg) hx1) (e1:=z4 [(19,I6 (k1:Int)),(20,.ptr (.agg [I6 x1.qb,l3 none x1.qa]))]) ?_
  let z5:=fun t=>EN ((1,l41 none a2)::(2,.clo F_g3 C_g3)::t)
  let z6:=fun t=>z5 ((7,I6 (k1:Int))::(8,.ptr (.agg [I6 x1.qb,l3 none x1.qa]))::(15,l41 none a1)::(16,I6 (a1.length:Int))::(17,I6 (k1:Int))::t)
  refine WO.fin [1,2,7,8,15,16,17] [8] [] [] (e2:=z6 []) (by kernel_rfl) (fun _ h=>h) ?_;refine W.seq ?_;refine W.rg ?_;obtain⟨e13,he13,h⟩:=qf h;refine WO.pk 2 (if (0:Int)≤(k1:Int) then ((List.map qg a2)[Int.toNat (k1:Int)]?).map AV.ptr else none) (v:=.ptr (.agg [I6 e13.qb,l3 none e13.qa])) (Vo (f:=qg) he13) (e1:=z6 [(22,l41 none a2),(23,I6 (k1:Int)),(24,.ptr (.agg [I6 e13.qb,l3 none e13.qa]))]) ?_
  let z7:=fun t=>z5 ((8,.ptr (.agg [I6 x1.qb,l3 none x1.qa]))::(9,.ptr (.agg [I6 e13.qb,l3 none e13.qa]))::(15,l41 none a1)::(16,I6 (a1.length:Int))::(17,I6 (k1:Int))::t)
  refine WO.fin [1,2,8,9,15,16,17] [9] [] [] (e2:=z7 []) (by kernel_rfl) (fun _ h=>h) ?_;refine W.seq ?_;refine W.rg ?_;obtain⟨w15,hw15,h⟩:=qf h;refine WO.callK 3 (F:=F_g3) (l:=[.agg [I6 x1.qb,l3 none x1.qa],.agg [I6 e13.qb,l3 none e13.qa]]) (C:=C_g3) (r:=.bool w15) (by kernel_rfl) hok_g3 (hrun_g3 x1 e13 w15 hw15) (e1:=z7 [(26,.clo F_g3 C_g3),(27,.agg [I6 x1.qb,l3 none x1.qa]),(28,.agg [I6 e13.qb,l3 none e13.qa]),(29,.bool w15)]) (by kernel_rfl) ?_;refine WO.fn (e2:=z4 [(30,.bool (!w15))]) ?_;refine W.cb (!w15) (fun hb=>?_) (fun hb=>?_)
  ·replace h:=qv hb h;refine W.seq ?_;refine W.rt (e2:=[(6,.bool false)]) ?_;refine W.wk (env':=[(6,.bool false)]) ?_;cases h;exact W.ret (show qq _ _ _=some _ by kernel_rfl)
  replace h:=qw hb h;refine W.skip ?_;refine W.wk (env':=z4 []) ?_;refine W.rg ?_;refine WO.pk 0 (some (I6 (IntKind.wrap .i64 ((k1:Int)+1)))) (v:=I6 ((k1+1:Nat):Int)) (by rw[qX hl1 hk1]) (e1:=z4 [(31,I6 ((k1+1:Nat):Int))]) ?_;refine WO.fn (e2:=z2 [(17,I6 ((k1+1:Nat):Int))]) ?_;exact hN1 () h
def Jh:Option Bool :=
 (some true)
def jA (a2:(List Int)) (K7:(Option Bool)):List Int→Nat→Option Bool
 | [],k1=>K7
 | x1::r1,k1=>((idx a2 (k1:Int)).bind fun e12=>(bif (x1 != e12) then (some false) else (jA a2 K7 r1 (k1+1))))
def Yf (a1:(List Int)) (a2:(List Int)):Option Bool :=
 (bif ((a1.length:Int) != (a2.length:Int)) then (some false) else (chk (lenOk a1) (jA a2 (Jh) a1 0)))
theorem Nh (a1:(List Int)) (a2:(List Int)) (r:Bool) (h:Yf a1 a2=some r):Run Try.prog (.call 34 [l3 none a1,l3 none a2] (.bool r)):=by
 refine cW Try.func34 rfl (env0:=[(0,l3 none a1),(1,l3 none a2)]) ?_;unfold Yf at h;refine W.seq ?_
 let z0:=fun t=>EN ((0,l3 none a1)::(1,l3 none a2)::t)
 refine W.rt (e2:=z0 []) ?_;refine W.seq ?_;refine W.seq ?_;refine W.rg ?_
 let z1:=fun t=>z0 ((6,l3 none a1)::(7,I6 (a1.length:Int))::t)
 refine WO.pk 1 (some (I6 ((M6 a1).length:Int))) (v:=I6 (a1.length:Int)) (by rw[List.length_map]) (e1:=z1 []) ?_;refine WO.pk 1 (some (I6 ((M6 a2).length:Int))) (v:=I6 (a2.length:Int)) (by rw[List.length_map]) (e1:=z1 [(8,l3 none a2),(9,I6 (a2.length:Int))]) ?_;refine WO.fn (e2:=z0 [(10,.bool ((a1.length:Int) != (a2.length:Int)))]) ?_;refine W.cb ((a1.length:Int) != (a2.length:Int)) (fun hb=>?_) (fun hb=>?_)
 ·replace h:=qv hb h;refine W.seq ?_;refine W.rt (e2:=[(4,.bool false)]) ?_;refine W.wk (env':=[(4,.bool false)]) ?_;cases h;exact W.ret (show qq _ _ _=some _ by kernel_rfl)
 replace h:=qw hb h;refine W.skip ?_;refine W.wk (env':=z0 []) ?_;refine W.seq ?_;refine W.join (σ:=Unit) (fun s=>[]) (fun s=>(Jh)=some r) (fun s h=>?_) (fun hK7=>?_)
 ·have h:(Jh)=some r:=h;unfold Jh at h;refine W.seq ?_;refine W.rt (e2:=[(4,.bool true)]) ?_;refine W.wk (env':=[(4,.bool true)]) ?_;cases h;exact W.ret (show qq _ _ _=some _ by kernel_rfl)
 refine W.seq ?_;refine W.rg ?_;refine WO.pk 1 (some (I6 ((M6 a1).length:Int))) (v:=I6 (a1.length:Int)) (by rw[List.length_map]) (e1:=z0 [(11,l3 none a1),(12,I6 (a1.length:Int))]) ?_
 let z2:=fun t=>z0 ((12,I6 (a1.length:Int))::t)
 refine WO.fn (e2:=z2 [(13,.int .i64 0)]) ?_;refine W.block ?_;obtain⟨hl1,h⟩:=qi h;refine W.wk (env':=z2 [(13,I6 ((0:Nat):Int))]) ?_;refine W.range (σ:=Unit) a1 (fun k1 s=>z2 [(13,I6 (k1:Int))]) (fun r0 k0 s=>jA a2 (Jh) r0 k0=some r) (fun s h=>?_) (fun x1 r1 k1 s hx1 hk1 h hN1=>?_) () h
 ·have h:jA a2 (Jh) [] (a1).length=some r:=h;rw[jA.eq_1]at h;refine W.seq ?_;refine W.rg ?_
  let z3:=fun t=>z2 ((13,I6 ((a1).length:Int))::(14,.bool false)::t)
  refine WO.pk 0 (some (.bool (decide (((a1).length:Int)<(a1.length:Int))))) (v:=.bool false) (by rw[jw (l:=a1)]) (e1:=z3 []) ?_;refine WO.fn (e2:=z3 []) ?_;refine W.seq ?_;refine W.cb false (fun h=>Bool.noConfusion h) (fun _=>?_);refine W.exit ?_;refine W.wk (env':=[]) ?_;exact hK7 () h
 ·have h:jA a2 (Jh) (x1::r1) k1=some r:=h;rw[jA.eq_2]at h;refine W.seq ?_;refine W.rg ?_
  let z4:=fun t=>z2 ((13,I6 (k1:Int))::t)
  refine WO.pk 0 (some (.bool (decide ((k1:Int)<(a1.length:Int))))) (v:=.bool true) (by rw[jT hk1]) (e1:=z4 [(14,.bool true)]) ?_;refine WO.fn (e2:=z4 [(14,.bool true)]) ?_;refine W.seq ?_;refine W.cb true (fun _=>?_) (fun h=>Bool.noConfusion h);refine W.skip ?_;refine W.wk (env':=z4 []) ?_;refine W.seq ?_;refine W.block ?_;refine W.seq ?_
  let z5:=fun t=>z0 ((5,I6 (k1:Int))::(12,I6 (a1.length:Int))::(13,I6 (k1:Int))::t)
  refine W.rt (e2:=z5 []) ?_;refine W.seq ?_;refine W.rg ?_
  let z6:=fun t=>z5 ((16,l3 none a1)::(17,I6 (k1:Int))::(18,.ptr (I6 x1))::t)
  refine WO.pk 2 (if (0:Int)≤(k1:Int) then ((M6 a1)[Int.toNat (k1:Int)]?).map AV.ptr else none) (v:=.ptr (I6 x1)) (jU (f:=(AV.int .i64)) hx1) (e1:=z6 []) ?_;obtain⟨e12,he12,h⟩:=qf h;refine WO.pk 3 (if (0:Int)≤(k1:Int) then ((M6 a2)[Int.toNat (k1:Int)]?).map AV.ptr else none) (v:=.ptr (I6 e12)) (Vo (f:=(AV.int .i64)) he12) (e1:=z6 [(19,I6 x1),(20,l3 none a2),(21,I6 (k1:Int)),(22,.ptr (I6 e12))]) ?_;refine WO.fn (e2:=z4 [(24,.bool (x1 != e12))]) ?_;refine W.cb (x1 != e12) (fun hb=>?_) (fun hb=>?_)
  ·replace h:=qv hb h;refine W.seq ?_;refine W.rt (e2:=[(4,.bool false)]) ?_;refine W.wk (env':=[(4,.bool false)]) ?_;cases h;exact W.ret (show qq _ _ _=some _ by kernel_rfl)
  replace h:=qw hb h;refine W.skip ?_;refine W.wk (env':=z4 []) ?_;refine W.rg ?_;refine WO.pk 0 (some (I6 (IntKind.wrap .i64 ((k1:Int)+1)))) (v:=I6 ((k1+1:Nat):Int)) (by rw[qX hl1 hk1]) (e1:=z4 [(25,I6 ((k1+1:Nat):Int))]) ?_;refine WO.fn (e2:=z2 [(13,I6 ((k1+1:Nat):Int))]) ?_;exact hN1 () h
def Xd (v6:Bool):Option Bool :=
 (some v6)
def Xo (a1:apiFact) (a2:apiFact):Option Bool :=
 (bif (a1.qb == a2.qb) then ((Yf a1.qa a2.qa).bind fun w5=>((Xd) w5)) else ((Xd) false))
theorem Ht (a1:apiFact) (a2:apiFact) (r:Bool) (h:Xo a1 a2=some r):Run Try.prog (.call 66 [.agg [I6 a1.qb,l3 none a1.qa],.agg [I6 a2.qb,l3 none a2.qa]] (.bool r)):=by
 refine cW Try.func66 rfl (env0:=[(0,.agg [I6 a1.qb,l3 none a1.qa]),(1,.agg [I6 a2.qb,l3 none a2.qa])]) ?_;unfold Xo at h;refine W.seq ?_
 let z0:=fun t=>EN ((2,.ptr (.agg [I6 a1.qb,l3 none a1.qa]))::(3,.ptr (.agg [I6 a2.qb,l3 none a2.qa]))::t)
 refine W.regT [2,3] [2,3] [] [] (e2:=z0 []) (by kernel_rfl) (by kernel_rfl) (fun _ h=>h) ?_;refine W.seq ?_;refine W.join (σ:=(Bool)) (fun s=>[(4,.bool s)]) (fun s=>(Xd) s=some r) (fun v6 h=>?_) (fun hK4=>?_)
 ·have h:(Xd) v6=some r:=h;unfold Xd at h;refine W.wk (env':=[(4,.bool v6)]) ?_;cases h;exact W.ret (show qq _ _ _=some _ by kernel_rfl)
 refine W.rg ?_
 let z1:=fun t=>z0 ((5,.ptr (I6 a1.qb))::(6,I6 a1.qb)::(7,.ptr (I6 a2.qb))::(8,I6 a2.qb)::t)
 refine WO.bk 6 (fun b=>z1 [(9,.bool b),(10,.bool b)]) (a1.qb == a2.qb) (fun hb=>?_) (fun hb=>?_)
 ·replace h:=qv hb h;obtain⟨w5,hw5,h⟩:=qf h;refine WO.ck 4 (F:=34) (l:=[l3 none a1.qa,l3 none a2.qa]) (C:=[]) (r:=.bool w5) (Nh a1.qa a2.qa w5 hw5) (e1:=z1 [(9,.bool true),(10,.bool true),(11,.ptr (l3 none a1.qa)),(12,l3 none a1.qa),(13,.ptr (l3 none a2.qa)),(14,l3 none a2.qa),(15,.bool w5)]) ?_;refine WO.fn (e2:=[(4,.bool w5)]) ?_;exact hK4 w5 h
 replace h:=qw hb h;refine WO.fn (e2:=[(4,.bool false)]) ?_;exact hK4 false h
def Zl (a1:(List apiFact)) (a2:(List apiFact)):Option Bool :=
 ((JV a1 a2 (fun y0 y1=>Xo y0 y1)).bind fun w5=>(some w5))
theorem UA (a1:(List apiFact)) (a2:(List apiFact)) (r:Bool) (h:Zl a1 a2=some r):Run Try.prog (.call 23 [l41 none a1,l41 none a2] (.bool r)):=by
 refine cW Try.func23 rfl (env0:=[(0,l41 none a1),(1,l41 none a2)]) ?_;unfold Zl at h;refine W.seq ?_;refine W.rt (e2:=[(0,l41 none a1),(1,l41 none a2)]) ?_;refine W.seq ?_;refine W.rg ?_;obtain⟨w5,hw5,h⟩:=qf h;refine WO.ck 2 (F:=65) (l:=[l41 none a1,l41 none a2,.clo 66 []]) (C:=[]) (r:=.bool w5) (YS a1 a2 (fun y0 y1=>Xo y0 y1) 66 [] (by kernel_rfl) (fun y0 y1 r h=>Ht y0 y1 r h) w5 hw5) (e1:=[(0,l41 none a1),(1,l41 none a2),(5,l41 none a1),(6,l41 none a2),(7,.bool w5)]) ?_;refine WO.fn (e2:=[(4,.bool w5)]) ?_;refine W.wk (env':=[(4,.bool w5)]) ?_;cases h;exact W.ret (show qq _ _ _=some _ by kernel_rfl)
def qU:Option Int :=
 (some (-1))
def qF (g2:(apiFact→Option Bool)) (K4:(Option Int)):List apiFact→Nat→Option Int
 | [],k1=>K4
 | x1::r1,k1=>((g2 x1).bind fun w9=>(bif w9 then (some (k1:Int)) else (qF g2 K4 r1 (k1+1))))
def Jw (a1:(List apiFact)) (g2:(apiFact→Option Bool)):Option Int :=
 (chk (lenOk a1) (qF g2 (qU) a1 0))
theorem YR (a1:(List apiFact)) (g2:(apiFact→Option Bool)) (F_g2:Nat) (C_g2:List AV) (hok_g2:okFn Try.prog F_g2=true) (hrun_g2:∀ (x0:apiFact) r,g2 x0=some r→Run Try.prog (.call F_g2 ([.agg [I6 x0.qb,l3 none x0.qa]]++C_g2) (.bool r))) (r:Int) (h:Jw a1 g2=some r):Run Try.prog (.call 92 [l41 none a1,.clo F_g2 C_g2] (I6 r)):=by
 refine cW Try.func92 rfl (env0:=[(0,l41 none a1),(1,.clo F_g2 C_g2)]) ?_;unfold Jw at h;refine W.seq ?_
 let z0:=fun t=>EN ((0,l41 none a1)::(1,.clo F_g2 C_g2)::t)
 refine W.rt (e2:=z0 []) ?_;refine W.seq ?_;refine W.join (σ:=Unit) (fun s=>[]) (fun s=>(qU)=some r) (fun s h=>?_) (fun hK4=>?_)
 ·have h:(qU)=some r:=h;unfold qU at h;refine W.seq ?_;refine W.rt (e2:=[(4,I6 (-1))]) ?_;refine W.wk (env':=[(4,I6 (-1))]) ?_;cases h;exact W.ret (show qq _ _ _=some _ by kernel_rfl)
 refine W.seq ?_;refine W.rg ?_;refine WO.pk 1 (some (I6 ((List.map qg a1).length:Int))) (v:=I6 (a1.length:Int)) (by rw[List.length_map]) (e1:=z0 [(6,l41 none a1),(7,I6 (a1.length:Int))]) ?_
 let z1:=fun t=>z0 ((7,I6 (a1.length:Int))::t)
 refine WO.fn (e2:=z1 [(8,.int .i64 0)]) ?_;refine W.block ?_;obtain⟨hl1,h⟩:=qi h;refine W.wk (env':=z1 [(8,I6 ((0:Nat):Int))]) ?_;refine W.range (σ:=Unit) a1 (fun k1 s=>z1 [(8,I6 (k1:Int))]) (fun r0 k0 s=>qF g2 (qU) r0 k0=some r) (fun s h=>?_) (fun x1 r1 k1 s hx1 hk1 h hN1=>?_) () h
 ·have h:qF g2 (qU) [] (a1).length=some r:=h;rw[qF.eq_1]at h;refine W.seq ?_;refine W.rg ?_
  let z2:=fun t=>z1 ((8,I6 ((a1).length:Int))::(9,.bool false)::t)
  refine WO.pk 0 (some (.bool (decide (((a1).length:Int)<(a1.length:Int))))) (v:=.bool false) (by rw[jw (l:=a1)]) (e1:=z2 []) ?_;refine WO.fn (e2:=z2 []) ?_;refine W.seq ?_;refine W.cb false (fun h=>Bool.noConfusion h) (fun _=>?_);refine W.exit ?_;refine W.wk (env':=[]) ?_;exact hK4 () h
 ·have h:qF g2 (qU) (x1::r1) k1=some r:=h;rw[qF.eq_2]at h;refine W.seq ?_;refine W.rg ?_
  let z3:=fun t=>z1 ((8,I6 (k1:Int))::t)
  refine WO.pk 0 (some (.bool (decide ((k1:Int)<(a1.length:Int))))) (v:=.bool true) (by rw[jT hk1]) (e1:=z3 [(9,.bool true)]) ?_;refine WO.fn (e2:=z3 [(9,.bool true)]) ?_;refine W.seq ?_;refine W.cb true (fun _=>?_) (fun h=>Bool.noConfusion h);refine W.skip ?_;refine W.wk (env':=z3 []) ?_;refine W.seq ?_;refine W.block ?_;refine W.seq ?_
  let z4:=fun t=>z0 ((5,I6 (k1:Int))::(7,I6 (a1.length:Int))::(8,I6 (k1:Int))::t)
  refine W.rt (e2:=z4 []) ?_;refine W.seq ?_;refine W.rg ?_
  let z5:=fun t=>z4 ((11,.clo F_g2 C_g2)::(12,l41 none a1)::(13,I6 (k1:Int))::(14,.ptr (.agg [I6 x1.qb,l3 none x1.qa]))::t)
  refine WO.pk 3 (if (0:Int)≤(k1:Int) then ((List.map qg a1)[Int.toNat (k1:Int)]?).map AV.ptr else none) (v:=.ptr (.agg [I6 x1.qb,l3 none x1.qa])) (jU (f:=qg) hx1) (e1:=z5 []) ?_;obtain⟨w9,hw9,h⟩:=qf h;refine WO.callK 1 (F:=F_g2) (l:=[.agg [I6 x1.qb,l3 none x1.qa]]) (C:=C_g2) (r:=.bool w9) (by kernel_rfl) hok_g2 (hrun_g2 x1 w9 hw9) (e1:=z5 [(15,.agg [I6 x1.qb,l3 none x1.qa]),(16,.bool w9)]) (by kernel_rfl) ?_;refine WO.fn (e2:=z4 [(16,.bool w9)]) ?_;refine W.cb w9 (fun hb=>?_) (fun hb=>?_)
  ·replace h:=qv hb h;refine W.seq ?_;refine W.rt (e2:=[(4,I6 (k1:Int))]) ?_;refine W.wk (env':=[(4,I6 (k1:Int))]) ?_;cases h;exact W.ret (show qq _ _ _=some _ by kernel_rfl)
  replace h:=qw hb h;refine W.skip ?_;refine W.wk (env':=z3 []) ?_;refine W.rg ?_;refine WO.pk 0 (some (I6 (IntKind.wrap .i64 ((k1:Int)+1)))) (v:=I6 ((k1+1:Nat):Int)) (by rw[qX hl1 hk1]) (e1:=z3 [(18,I6 ((k1+1:Nat):Int))]) ?_;refine WO.fn (e2:=z1 [(8,I6 ((k1+1:Nat):Int))]) ?_;exact hN1 () h
end Go.AM
