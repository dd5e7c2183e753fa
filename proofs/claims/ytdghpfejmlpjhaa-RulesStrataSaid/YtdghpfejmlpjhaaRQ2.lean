/- s -/
import Derived.Test.YtdghpfejmlpjhaaRQ1
set_option maxRecDepth 100000
set_option linter.unusedVariables false
set_option linter.unusedSimpArgs false
namespace Go.AM
open Go.Proofs
def Qc (v20:(List rf3Rule)):Option (List rf3Rule) :=
 (some v20)
def QO (v6:(List rf3Rule)) (N1:((List rf3Rule)→Option (List rf3Rule))) (v18:rf3Rule):Option (List rf3Rule) :=
 (chk (capOk 56 ((v6++[v18])).length) (N1 (v6++[v18])))
def QH (K10:(rf3Rule→Option (List rf3Rule))):List ruLit→Nat→Int→(List Int)→(List rf3Lit)→Option (List rf3Rule)
 | [],k2,v12,v13,v14=>(K10 (rf3Rule.mk (rf2Atom.mk v12 v13) v14))
 | x2::r2,k2,v12,v13,v14=>(chk (capOk 40 ((v14++[(rf3Lit.mk x2.qi (rf2Atom.mk x2.qc.qb x2.qc.qa))])).length) ((QH K10 r2 (k2+1)) v12 v13 (v14++[(rf3Lit.mk x2.qi (rf2Atom.mk x2.qc.qb x2.qc.qa))])))
def Jp (K4:((List rf3Rule)→Option (List rf3Rule))):List ruRule→Nat→(List rf3Rule)→Option (List rf3Rule)
 | [],k1,v6=>(K4 v6)
 | x1::r1,k1,v6=>(chk (lenOk x1.qe) (QH (QO v6 (Jp K4 r1 (k1+1))) x1.qe 0 x1.qd.qb x1.qd.qa ([]:(List rf3Lit))))
def UT (a1:(List ruRule)):Option (List rf3Rule) :=
 (chk (lenOk a1) (Jp (Qc) a1 0 ([]:(List rf3Rule))))
theorem qbX (a1:(List ruRule)) (r:(List rf3Rule)) (h:UT a1=some r):Run Try.prog (.call 42 [l54 none a1] (l94 (some 1) r)):=by
 refine cW Try.func42 rfl (env0:=[(0,l54 none a1)]) ?_;unfold UT at h;refine W.seq ?_;refine W.rt (e2:=[(0,l54 none a1)]) ?_;refine W.seq ?_;refine W.rt (e2:=[(0,l54 none a1),(3,.nils)]) ?_;refine W.seq ?_;refine W.join (σ:=((List rf3Rule))) (fun s=>[(3,l94 (some 10300) s)]) (fun s=>(Qc) s=some r) (fun v20 h=>?_) (fun hK4=>?_)
 ·have h:(Qc) v20=some r:=h;unfold Qc at h;refine W.seq ?_;refine W.rt (e2:=[(2,l94 (some 10300) v20)]) ?_;refine W.weak [2] [] [] [(10300,some 1)] (env':=[(2,l94 (some 1) v20)]) (by kernel_rfl) ?_;cases h;exact W.ret (show qm _ _ _=some _ by kernel_rfl)
 refine W.seq ?_;refine W.rg ?_;refine WO.pk 1 (some (I6 ((List.map jd a1).length:Int))) (v:=I6 (a1.length:Int)) (by rw[List.length_map]) (e1:=[(0,l54 none a1),(3,.nils),(9,l54 none a1),(10,I6 (a1.length:Int))]) ?_;refine WO.fn (e2:=[(3,.nils),(9,l54 none a1),(10,I6 (a1.length:Int)),(11,.int .i64 0)]) ?_;refine W.block ?_;obtain⟨hl1,h⟩:=qg h;refine W.weak [3,9,10,11] [] [(3,0,94,3,10300)] [] (env':=[(3,l94 (some 10300) ([]:(List rf3Rule))),(9,l54 none a1),(10,I6 (a1.length:Int)),(11,I6 ((0:Nat):Int))]) (by kernel_rfl) ?_;refine W.range (σ:=((List rf3Rule))) a1 (fun k1 s=>[(3,l94 (some 10300) s),(9,l54 none a1),(10,I6 (a1.length:Int)),(11,I6 (k1:Int))]) (fun r0 k0 s=>Jp (Qc) r0 k0 s=some r) (fun v6 h=>?_) (fun x1 r1 k1 s hx1 hk1 h hN1=>?_) ([]:(List rf3Rule)) h
 ·have h:Jp (Qc) [] (a1).length v6=some r:=h;rw[Jp.eq_1]at h;refine W.seq ?_;refine W.rg ?_
  let z0:=fun t=>EN ((3,l94 (some 10300) v6)::(9,l54 none a1)::(10,I6 (a1.length:Int))::(11,I6 ((a1).length:Int))::(12,.bool false)::t)
  refine WO.pk 0 (some (.bool (decide (((a1).length:Int)<(a1.length:Int))))) (v:=.bool false) (by rw[qD (l:=a1)]) (e1:=z0 []) ?_;refine WO.fn (e2:=z0 []) ?_;refine W.seq ?_;refine W.cb false (fun h=>Bool.noConfusion h) (fun _=>?_);refine W.exit ?_;refine W.wk (env':=[(3,l94 (some 10300) v6)]) ?_;exact hK4 v6 h
 ·obtain⟨v6,rfl⟩:∃ x,x=s:=⟨s,rfl⟩;have h:Jp (Qc) (x1::r1) k1 v6=some r:=h;rw[Jp.eq_2]at h;refine W.seq ?_;refine W.rg ?_
  let z1:=fun t=>EN ((3,l94 (some 10300) v6)::t)
  let z2:=fun t=>z1 ((9,l54 none a1)::(10,I6 (a1.length:Int))::(11,I6 (k1:Int))::t)
  refine WO.pk 0 (some (.bool (decide ((k1:Int)<(a1.length:Int))))) (v:=.bool true) (by rw[qX hk1]) (e1:=z2 [(12,.bool true)]) ?_;refine WO.fn (e2:=z2 [(12,.bool true)]) ?_;refine W.seq ?_;refine W.cb true (fun _=>?_) (fun h=>Bool.noConfusion h);refine W.skip ?_;refine W.wk (env':=z2 []) ?_;refine W.seq ?_;refine W.block ?_;refine W.seq ?_;refine W.rg ?_;refine WO.pk 0 (if (0:Int)≤(k1:Int) then ((List.map jd a1)[Int.toNat (k1:Int)]?).map AV.ptr else none) (v:=.ptr (.agg [I6 x1.qd.qb,l3 none x1.qd.qa,l56 none x1.qe])) (qY (f:=jd) hx1) (e1:=z2 [(13,.ptr (.agg [I6 x1.qd.qb,l3 none x1.qd.qa,l56 none x1.qe]))]) ?_
  let z3:=fun t=>z1 ((5,.ptr (.agg [I6 x1.qd.qb,l3 none x1.qd.qa,l56 none x1.qe]))::t)
  refine WO.fin [3,5,9,10,11] [5] [] [] (e2:=z3 [(9,l54 none a1),(10,I6 (a1.length:Int)),(11,I6 (k1:Int))]) (by kernel_rfl) (fun _ h=>h) ?_;refine W.seq ?_
  let z4:=fun t=>z3 ((6,.box [I6 x1.qd.qb,l3 none x1.qd.qa,.nils])::(9,l54 none a1)::(10,I6 (a1.length:Int))::(11,I6 (k1:Int))::t)
  refine W.rt (e2:=z4 []) ?_;refine W.seq ?_;refine W.join (σ:=(rf3Rule)) (fun s=>z1 [(6,.ptr (.agg [I6 s.qd.qb,l3 none s.qd.qa,l96 none s.qe])),(9,l54 none a1),(10,I6 (a1.length:Int)),(11,I6 (k1:Int))]) (fun s=>(QO v6 (Jp (Qc) r1 (k1+1))) s=some r) (fun v18 h=>?_) (fun hK10=>?_)
  ·have h:(QO v6 (Jp (Qc) r1 (k1+1))) v18=some r:=h;unfold QO at h;refine W.rg ?_;obtain⟨hc19,h⟩:=qg h;refine WO.appendK 3 (d:=49) (e:=94) (s:=3) (bytes:=56) (xs:=(List.map qK v6)) (ys:=(List.map qK [v18])) (zs:=(List.map qK (v6++[v18]))) (env1:=[(3,l94 none v6),(6,.ptr (.agg [I6 v18.qd.qb,l3 none v18.qd.qa,l96 none v18.qe])),(9,l54 none a1),(10,I6 (a1.length:Int)),(11,I6 (k1:Int)),(46,l94 none v6),(47,.agg [I6 v18.qd.qb,l3 none v18.qd.qa,l96 none v18.qe]),(48,l94 (some 48) [v18])]) (by kernel_rfl) (List.map_append.symm) (by rw[List.length_map];exact hc19) (e1:=[(3,l94 none v6),(6,.ptr (.agg [I6 v18.qd.qb,l3 none v18.qd.qa,l96 none v18.qe])),(9,l54 none a1),(10,I6 (a1.length:Int)),(11,I6 (k1:Int)),(46,l94 none v6),(47,.agg [I6 v18.qd.qb,l3 none v18.qd.qa,l96 none v18.qe]),(48,l94 (some 48) [v18]),(49,l94 (some 49) (v6++[v18]))]) (by kernel_rfl) ?_
   let z5:=fun t=>EN ((3,l94 (some 49) (v6++[v18]))::(9,l54 none a1)::(10,I6 (a1.length:Int))::(11,I6 (k1:Int))::t)
   refine WO.fn (e2:=z5 []) ?_;refine W.rg ?_;refine WO.pk 0 (some (I6 (IntKind.wrap .i64 ((k1:Int)+1)))) (v:=I6 ((k1+1:Nat):Int)) (by rw[qu hl1 hk1]) (e1:=z5 [(50,I6 ((k1+1:Nat):Int))]) ?_;refine WO.fin [3,9,10,11] [] [] [(49,some 10300)] (e2:=[(3,l94 (some 10300) (v6++[v18])),(9,l54 none a1),(10,I6 (a1.length:Int)),(11,I6 ((k1+1:Nat):Int))]) (by kernel_rfl) (fun _ h=>h) ?_;exact hN1 (v6++[v18]) h
  refine W.seq ?_;refine W.rg ?_;refine WO.pk 2 (some (I6 ((List.map Jc x1.qe).length:Int))) (v:=I6 (x1.qe.length:Int)) (by rw[List.length_map]) (e1:=z4 [(23,.ptr (l56 none x1.qe)),(24,l56 none x1.qe),(25,I6 (x1.qe.length:Int))]) ?_;refine WO.fn (e2:=z1 [(6,.box [I6 x1.qd.qb,l3 none x1.qd.qa,.nils]),(9,l54 none a1),(10,I6 (a1.length:Int)),(11,I6 (k1:Int)),(24,l56 none x1.qe),(25,I6 (x1.qe.length:Int)),(26,.int .i64 0)]) ?_;refine W.block ?_;obtain⟨hl2,h⟩:=qg h;refine W.weak [3,6,9,10,11,24,25,26] [] [(6,2,96,3,10602)] [] (env':=z1 [(6,.box [I6 x1.qd.qb,l3 none x1.qd.qa,l96 (some 10602) ([]:(List rf3Lit))]),(9,l54 none a1),(10,I6 (a1.length:Int)),(11,I6 (k1:Int)),(24,l56 none x1.qe),(25,I6 (x1.qe.length:Int)),(26,I6 ((0:Nat):Int))]) (by kernel_rfl) ?_;refine W.range (σ:=(Int×(List Int)×(List rf3Lit))) x1.qe (fun k2 s=>z1 [(6,.box [I6 s.1,l3 none s.2.1,l96 (some 10602) s.2.2]),(9,l54 none a1),(10,I6 (a1.length:Int)),(11,I6 (k1:Int)),(24,l56 none x1.qe),(25,I6 (x1.qe.length:Int)),(26,I6 (k2:Int))]) (fun r0 k0 s=>QH (QO v6 (Jp (Qc) r1 (k1+1))) r0 k0 s.1 s.2.1 s.2.2=some r) (fun s h=>?_) (fun x2 r2 k2 s hx2 hk2 h hN2=>?_) (x1.qd.qb,x1.qd.qa,([]:(List rf3Lit))) h
  ·obtain⟨v12,v13,v14⟩:=s;have h:QH (QO v6 (Jp (Qc) r1 (k1+1))) [] (x1.qe).length v12 v13 v14=some r:=h;rw[QH.eq_1]at h;refine W.seq ?_;refine W.rg ?_
   let z6:=fun t=>z1 ((6,.box [I6 v12,l3 none v13,l96 (some 10602) v14])::(9,l54 none a1)::(10,I6 (a1.length:Int))::(11,I6 (k1:Int))::(24,l56 none x1.qe)::(25,I6 (x1.qe.length:Int))::(26,I6 ((x1.qe).length:Int))::(27,.bool false)::t)
   refine WO.pk 0 (some (.bool (decide (((x1.qe).length:Int)<(x1.qe.length:Int))))) (v:=.bool false) (by rw[qD (l:=x1.qe)]) (e1:=z6 []) ?_;refine WO.fn (e2:=z6 []) ?_;refine W.seq ?_;refine W.cb false (fun h=>Bool.noConfusion h) (fun _=>?_);refine W.exit ?_;refine W.weak [3,6,9,10,11] [6] [] [] (env':=z1 [(6,.ptr (.agg [I6 (rf3Rule.mk (rf2Atom.mk v12 v13) v14).qd.qb,l3 none (rf3Rule.mk (rf2Atom.mk v12 v13) v14).qd.qa,l96 none (rf3Rule.mk (rf2Atom.mk v12 v13) v14).qe])),(9,l54 none a1),(10,I6 (a1.length:Int)),(11,I6 (k1:Int))]) (by kernel_rfl) ?_;exact hK10 (rf3Rule.mk (rf2Atom.mk v12 v13) v14) h
  ·obtain⟨v12,v13,v14⟩:=s;have h:QH (QO v6 (Jp (Qc) r1 (k1+1))) (x2::r2) k2 v12 v13 v14=some r:=h;rw[QH.eq_2]at h;refine W.seq ?_;refine W.rg ?_
   let z7:=fun t=>z1 ((6,.box [I6 v12,l3 none v13,l96 (some 10602) v14])::(9,l54 none a1)::(10,I6 (a1.length:Int))::(11,I6 (k1:Int))::(24,l56 none x1.qe)::(25,I6 (x1.qe.length:Int))::(26,I6 (k2:Int))::t)
   refine WO.pk 0 (some (.bool (decide ((k2:Int)<(x1.qe.length:Int))))) (v:=.bool true) (by rw[qX hk2]) (e1:=z7 [(27,.bool true)]) ?_;refine WO.fn (e2:=z7 [(27,.bool true)]) ?_;refine W.seq ?_;refine W.cb true (fun _=>?_) (fun h=>Bool.noConfusion h);refine W.skip ?_;refine W.wk (env':=z7 []) ?_;refine W.seq ?_;refine W.block ?_;refine W.seq ?_;refine W.rg ?_;refine WO.pk 0 (if (0:Int)≤(k2:Int) then ((List.map Jc x1.qe)[Int.toNat (k2:Int)]?).map AV.ptr else none) (v:=.ptr (.agg [.bool x2.qi,I6 x2.qc.qb,l3 none x2.qc.qa])) (qY (f:=Jc) hx2) (e1:=z7 [(28,.ptr (.agg [.bool x2.qi,I6 x2.qc.qb,l3 none x2.qc.qa]))]) ?_;refine WO.fin [3,6,8,9,10,11,24,25,26] [8] [] [] (e2:=z1 [(6,.box [I6 v12,l3 none v13,l96 (some 10602) v14]),(8,.ptr (.agg [.bool x2.qi,I6 x2.qc.qb,l3 none x2.qc.qa])),(9,l54 none a1),(10,I6 (a1.length:Int)),(11,I6 (k1:Int)),(24,l56 none x1.qe),(25,I6 (x1.qe.length:Int)),(26,I6 (k2:Int))]) (by kernel_rfl) (fun _ h=>h) ?_;refine W.rg ?_;obtain⟨hc17,h⟩:=qg h;refine WO.appendK 13 (d:=43) (e:=96) (s:=3) (bytes:=40) (xs:=(List.map jB v14)) (ys:=(List.map jB [(rf3Lit.mk x2.qi (rf2Atom.mk x2.qc.qb x2.qc.qa))])) (zs:=(List.map jB (v14++[(rf3Lit.mk x2.qi (rf2Atom.mk x2.qc.qb x2.qc.qa))]))) (env1:=[(3,l94 (some 10300) v6),(6,.box [I6 v12,l3 none v13,l96 none v14]),(8,.ptr (.agg [.bool x2.qi,I6 x2.qc.qb,l3 none x2.qc.qa])),(9,l54 none a1),(10,I6 (a1.length:Int)),(11,I6 (k1:Int)),(24,l56 none x1.qe),(25,I6 (x1.qe.length:Int)),(26,I6 (k2:Int)),(30,.pb 6 2),(31,l96 none v14),(32,.ptr (.bool x2.qi)),(33,.bool x2.qi),(34,.ptr (.agg [I6 x2.qc.qb,l3 none x2.qc.qa])),(35,.ptr (I6 x2.qc.qb)),(36,I6 x2.qc.qb),(37,.ptr (.agg [I6 x2.qc.qb,l3 none x2.qc.qa])),(38,.ptr (l3 none x2.qc.qa)),(39,l3 none x2.qc.qa),(40,.agg [I6 x2.qc.qb,l3 none x2.qc.qa]),(41,.agg [.bool x2.qi,I6 x2.qc.qb,l3 none x2.qc.qa]),(42,l96 (some 42) [(rf3Lit.mk x2.qi (rf2Atom.mk x2.qc.qb x2.qc.qa))])]) (by kernel_rfl) (List.map_append.symm) (by rw[List.length_map];exact hc17) (e1:=z1 [(6,.box [I6 v12,l3 none v13,l96 none v14]),(8,.ptr (.agg [.bool x2.qi,I6 x2.qc.qb,l3 none x2.qc.qa])),(9,l54 none a1),(10,I6 (a1.length:Int)),(11,I6 (k1:Int)),(24,l56 none x1.qe),(25,I6 (x1.qe.length:Int)),(26,I6 (k2:Int)),(30,.pb 6 2),(31,l96 none v14),(32,.ptr (.bool x2.qi)),(33,.bool x2.qi),(34,.ptr (.agg [I6 x2.qc.qb,l3 none x2.qc.qa])),(35,.ptr (I6 x2.qc.qb)),(36,I6 x2.qc.qb),(37,.ptr (.agg [I6 x2.qc.qb,l3 none x2.qc.qa])),(38,.ptr (l3 none x2.qc.qa)),(39,l3 none x2.qc.qa),(40,.agg [I6 x2.qc.qb,l3 none x2.qc.qa]),(41,.agg [.bool x2.qi,I6 x2.qc.qb,l3 none x2.qc.qa]),(42,l96 (some 42) [(rf3Lit.mk x2.qi (rf2Atom.mk x2.qc.qb x2.qc.qa))]),(43,l96 (some 43) (v14++[(rf3Lit.mk x2.qi (rf2Atom.mk x2.qc.qb x2.qc.qa))]))]) (by kernel_rfl) ?_
   let z8:=fun t=>z1 ((6,.box [I6 v12,l3 none v13,l96 (some 43) (v14++[(rf3Lit.mk x2.qi (rf2Atom.mk x2.qc.qb x2.qc.qa))])])::(9,l54 none a1)::(10,I6 (a1.length:Int))::(11,I6 (k1:Int))::(24,l56 none x1.qe)::(25,I6 (x1.qe.length:Int))::(26,I6 (k2:Int))::t)
   refine WO.fn (e2:=z8 []) ?_;refine W.rg ?_;refine WO.pk 0 (some (I6 (IntKind.wrap .i64 ((k2:Int)+1)))) (v:=I6 ((k2+1:Nat):Int)) (by rw[qu hl2 hk2]) (e1:=z8 [(45,I6 ((k2+1:Nat):Int))]) ?_;refine WO.fin [3,6,9,10,11,24,25,26] [] [] [(43,some 10602)] (e2:=z1 [(6,.box [I6 v12,l3 none v13,l96 (some 10602) (v14++[(rf3Lit.mk x2.qi (rf2Atom.mk x2.qc.qb x2.qc.qa))])]),(9,l54 none a1),(10,I6 (a1.length:Int)),(11,I6 (k1:Int)),(24,l56 none x1.qe),(25,I6 (x1.qe.length:Int)),(26,I6 ((k2+1:Nat):Int))]) (by kernel_rfl) (fun _ h=>h) ?_;exact hN2 (v12,v13,(v14++[(rf3Lit.mk x2.qi (rf2Atom.mk x2.qc.qb x2.qc.qa))])) h
def JC (v43:(List rf3Rule)):Option (List rf3Rule) :=
 (some v43)
def QL (N4:((List rf3Rule)→Option (List rf3Rule))) (v42:(List rf3Rule)):Option (List rf3Rule) :=
 (N4 v42)
def jQ (v31:(List Bool)) (K33:((List rf3Rule)→Option (List rf3Rule))):List rf3Rule→Nat→(List rf3Rule)→Option (List rf3Rule)
 | [],k4,v35=>(K33 v35)
 | x4::r4,k4,v35=>(chk (decide ((0:Int)≤x4.qd.qb∧x4.qd.qb<((6:Nat):Int)∧0<1)) ((v31[(0+Int.toNat x4.qd.qb * 1)]?).bind fun e40=>(bif e40 then (chk (capOk 56 ((v35++[x4])).length) ((QL (jQ v31 K33 r4 (k4+1))) (v35++[x4]))) else ((QL (jQ v31 K33 r4 (k4+1))) v35))))
def qA (a1:(List rf3Rule)) (v31:(List Bool)):Option (List rf3Rule) :=
 (chk (lenOk a1) (jQ v31 (JC) a1 0 ([]:(List rf3Rule))))
def jg (N1:((List Bool)→Option (List rf3Rule))) (v30:(List Bool)):Option (List rf3Rule) :=
 (N1 v30)
def Jm (N2:((List Bool)→Option (List rf3Rule))) (v29:(List Bool)):Option (List rf3Rule) :=
 (N2 v29)
def QM (N3:((List Bool)→Option (List rf3Rule))) (v28:(List Bool)):Option (List rf3Rule) :=
 (N3 v28)
def jE (x2:rf3Rule) (K14:((List Bool)→Option (List rf3Rule))):List rf3Lit→Nat→(List Bool)→Option (List rf3Rule)
 | [],k3,v17=>(K14 v17)
 | x3::r3,k3,v17=>(chk (decide ((0:Int)≤x3.qc.qb∧x3.qc.qb<((6:Nat):Int)∧0<1)) ((v17[(0+Int.toNat x3.qc.qb * 1)]?).bind fun e21=>(bif e21 then (chk (decide ((0:Int)≤x3.qc.qb∧x3.qc.qb<((6:Nat):Int)∧0<1)) (chk (decide ((0+Int.toNat x3.qc.qb * 1)<v17.length)) ((QM (jE x2 K14 r3 (k3+1))) (v17.set (0+Int.toNat x3.qc.qb * 1) true)))) else (chk (decide ((0:Int)≤x2.qd.qb∧x2.qd.qb<((6:Nat):Int)∧0<1)) ((v17[(0+Int.toNat x2.qd.qb * 1)]?).bind fun e25=>(chk (decide ((0:Int)≤x3.qc.qb∧x3.qc.qb<((6:Nat):Int)∧0<1)) (chk (decide ((0+Int.toNat x3.qc.qb * 1)<v17.length)) ((QM (jE x2 K14 r3 (k3+1))) (v17.set (0+Int.toNat x3.qc.qb * 1) e25)))))))))
def qU (K11:((List Bool)→Option (List rf3Rule))):List rf3Rule→Nat→(List Bool)→Option (List rf3Rule)
 | [],k2,v13=>(K11 v13)
 | x2::r2,k2,v13=>(chk (lenOk x2.qe) (jE x2 (Jm (qU K11 r2 (k2+1))) x2.qe 0 v13))
def qw (a1:(List rf3Rule)) (K8:((List Bool)→Option (List rf3Rule))):List Nat→Nat→(List Bool)→Option (List rf3Rule)
 | [],k1,v10=>(K8 v10)
 | x1::r1,k1,v10=>(chk (lenOk a1) (qU (jg (qw a1 K8 r1 (k1+1))) a1 0 v10))
def Zb (a1:(List rf3Rule)) (a2:Int):Option (List rf3Rule) :=
 (chk (decide ((0:Int)≤a2∧a2<((6:Nat):Int)∧0<1)) (chk (decide ((0+Int.toNat a2 * 1)<(List.replicate 6 false).length)) (chk (lenOk (List.range (Int.toNat 6))) (qw a1 (qA a1) (List.range (Int.toNat 6)) 0 ((List.replicate 6 false).set (0+Int.toNat a2 * 1) true)))))
theorem HP (a1:(List rf3Rule)) (a2:Int) (r:(List rf3Rule)) (h:Zb a1 a2=some r):Run Try.prog (.call 43 [l94 none a1,I6 a2] (l94 (some 1) r)):=by
 refine cW Try.func43 rfl (env0:=[(0,l94 none a1),(1,I6 a2)]) ?_;unfold Zb at h;refine W.seq ?_
 let z0:=fun t=>EN ((0,l94 none a1)::t)
 let z1:=fun t=>z0 ((1,I6 a2)::t)
 refine W.rt (e2:=z1 []) ?_;refine W.seq ?_;refine W.rg ?_;refine WO.steps 1 (e1:=z1 [(5,.box [.bool false,.bool false,.bool false,.bool false,.bool false,.bool false])]) (by kernel_rfl) ?_
 let z2:=fun t=>z1 ((5,.pb 1000005 0)::(1000005,.hob 3 [] (List.map AV.bool (List.replicate 6 false)))::t)
 refine WO.mv [.arr 5] (env':=z2 []) (by kernel_rfl) ?_;refine WO.fn (e2:=z2 []) ?_;refine W.seq ?_;refine W.rg ?_;obtain⟨hc6,h⟩:=qg h
 let z3:=fun t=>z1 ((5,.pb 1000005 0)::(13,I6 a2)::(14,.pb 1000005 (0+Int.toNat a2 * 1))::t)
 refine WO.pi 1 (v:=.pb 1000005 (0+Int.toNat a2 * 1)) hc6 (e1:=z3 [(1000005,.hob 3 [] (List.map AV.bool (List.replicate 6 false)))]) ?_;obtain⟨hc7,h⟩:=qg h;refine WO.setA (enc:=AV.bool) (l:=(List.replicate 6 false)) (x:=true) (s:=1000005) (off:=(0+Int.toNat a2 * 1)) 0 YW hc7 (e1:=z3 [(1000005,.hob 3 [] (List.map AV.bool ((List.replicate 6 false).set (0+Int.toNat a2 * 1) true)))]) ?_
 let z4:=fun t=>z0 ((5,.pb 1000005 0)::t)
 refine WO.fn (e2:=z4 [(1000005,.hob 3 [] (List.map AV.bool ((List.replicate 6 false).set (0+Int.toNat a2 * 1) true)))]) ?_;refine W.seq ?_;refine W.join (σ:=((List Bool))) (fun s=>z4 [(1000005,.hob 3 [] (List.map AV.bool s))]) (fun s=>(qA a1) s=some r) (fun v31 h=>?_) (fun hK8=>?_)
 ·have h:(qA a1) v31=some r:=h;unfold qA at h;refine W.seq ?_;refine W.rt (e2:=z4 [(10,.nils),(1000005,.hob 3 [] (List.map AV.bool v31))]) ?_;refine W.seq ?_;refine W.join (σ:=((List rf3Rule))) (fun s=>[(10,l94 (some 11000) s)]) (fun s=>(JC) s=some r) (fun v43 h=>?_) (fun hK33=>?_)
  ·have h:(JC) v43=some r:=h;unfold JC at h;refine W.seq ?_;refine W.rt (e2:=[(4,l94 (some 11000) v43)]) ?_;refine W.weak [4] [] [] [(11000,some 1)] (env':=[(4,l94 (some 1) v43)]) (by kernel_rfl) ?_;cases h;exact W.ret (show qm _ _ _=some _ by kernel_rfl)
  refine W.seq ?_;refine W.rg ?_;refine WO.pk 1 (some (I6 ((List.map qK a1).length:Int))) (v:=I6 (a1.length:Int)) (by rw[List.length_map]) (e1:=z4 [(10,.nils),(49,l94 none a1),(50,I6 (a1.length:Int)),(1000005,.hob 3 [] (List.map AV.bool v31))]) ?_
  let z5:=fun t=>EN ((5,.pb 1000005 0)::t)
  refine WO.fn (e2:=z5 [(10,.nils),(49,l94 none a1),(50,I6 (a1.length:Int)),(51,.int .i64 0),(1000005,.hob 3 [] (List.map AV.bool v31))]) ?_;refine W.block ?_;obtain⟨hl4,h⟩:=qg h;refine W.weak [5,10,49,50,51,1000005] [] [(10,0,94,3,11000)] [] (env':=z5 [(10,l94 (some 11000) ([]:(List rf3Rule))),(49,l94 none a1),(50,I6 (a1.length:Int)),(51,I6 ((0:Nat):Int)),(1000005,.hob 3 [] (List.map AV.bool v31))]) (by kernel_rfl) ?_;refine W.range (σ:=((List rf3Rule))) a1 (fun k4 s=>z5 [(10,l94 (some 11000) s),(49,l94 none a1),(50,I6 (a1.length:Int)),(51,I6 (k4:Int)),(1000005,.hob 3 [] (List.map AV.bool v31))]) (fun r0 k0 s=>jQ v31 (JC) r0 k0 s=some r) (fun v35 h=>?_) (fun x4 r4 k4 s hx4 hk4 h hN4=>?_) ([]:(List rf3Rule)) h
  ·have h:jQ v31 (JC) [] (a1).length v35=some r:=h;rw[jQ.eq_1]at h;refine W.seq ?_;refine W.rg ?_
   let z6:=fun t=>z5 ((10,l94 (some 11000) v35)::(49,l94 none a1)::(50,I6 (a1.length:Int))::(51,I6 ((a1).length:Int))::(52,.bool false)::(1000005,.hob 3 [] (List.map AV.bool v31))::t)
   refine WO.pk 0 (some (.bool (decide (((a1).length:Int)<(a1.length:Int))))) (v:=.bool false) (by rw[qD (l:=a1)]) (e1:=z6 []) ?_;refine WO.fn (e2:=z6 []) ?_;refine W.seq ?_;refine W.cb false (fun h=>Bool.noConfusion h) (fun _=>?_);refine W.exit ?_;refine W.wk (env':=[(10,l94 (some 11000) v35)]) ?_;exact hK33 v35 h
  ·obtain⟨v35,rfl⟩:∃ x,x=s:=⟨s,rfl⟩;have h:jQ v31 (JC) (x4::r4) k4 v35=some r:=h;rw[jQ.eq_2]at h;refine W.seq ?_;refine W.rg ?_
   let z7:=fun t=>z5 ((10,l94 (some 11000) v35)::(49,l94 none a1)::(50,I6 (a1.length:Int))::(51,I6 (k4:Int))::t)
   let z8:=fun t=>z7 ((52,.bool true)::(1000005,.hob 3 [] (List.map AV.bool v31))::t)
   refine WO.pk 0 (some (.bool (decide ((k4:Int)<(a1.length:Int))))) (v:=.bool true) (by rw[qX hk4]) (e1:=z8 []) ?_;refine WO.fn (e2:=z8 []) ?_;refine W.seq ?_;refine W.cb true (fun _=>?_) (fun h=>Bool.noConfusion h);refine W.skip ?_
   let z9:=fun t=>z7 ((1000005,.hob 3 [] (List.map AV.bool v31))::t)
   refine W.wk (env':=z9 []) ?_;refine W.seq ?_;refine W.join (σ:=((List rf3Rule))) (fun s=>z5 [(10,l94 (some 11000) s),(49,l94 none a1),(50,I6 (a1.length:Int)),(51,I6 (k4:Int)),(1000005,.hob 3 [] (List.map AV.bool v31))]) (fun s=>(QL (jQ v31 (JC) r4 (k4+1))) s=some r) (fun v42 h=>?_) (fun hK36=>?_)
   ·have h:(QL (jQ v31 (JC) r4 (k4+1))) v42=some r:=h;unfold QL at h;refine W.rg ?_
    let z10:=fun t=>z5 ((10,l94 (some 11000) v42)::(49,l94 none a1)::(50,I6 (a1.length:Int))::t)
    refine WO.pk 0 (some (I6 (IntKind.wrap .i64 ((k4:Int)+1)))) (v:=I6 ((k4+1:Nat):Int)) (by rw[qu hl4 hk4]) (e1:=z10 [(51,I6 (k4:Int)),(64,I6 ((k4+1:Nat):Int)),(1000005,.hob 3 [] (List.map AV.bool v31))]) ?_;refine WO.fn (e2:=z10 [(51,I6 ((k4+1:Nat):Int)),(1000005,.hob 3 [] (List.map AV.bool v31))]) ?_;exact hN4 v42 h
   refine W.block ?_;refine W.seq ?_;refine W.rg ?_;refine WO.pk 0 (if (0:Int)≤(k4:Int) then ((List.map qK a1)[Int.toNat (k4:Int)]?).map AV.ptr else none) (v:=.ptr (.agg [I6 x4.qd.qb,l3 none x4.qd.qa,l96 none x4.qe])) (qY (f:=qK) hx4) (e1:=z7 [(53,.ptr (.agg [I6 x4.qd.qb,l3 none x4.qd.qa,l96 none x4.qe])),(1000005,.hob 3 [] (List.map AV.bool v31))]) ?_
   let z11:=fun t=>z5 ((10,l94 (some 11000) v35)::(12,.ptr (.agg [I6 x4.qd.qb,l3 none x4.qd.qa,l96 none x4.qe]))::(49,l94 none a1)::(50,I6 (a1.length:Int))::(51,I6 (k4:Int))::t)
   refine WO.fin [5,10,12,49,50,51,1000005] [12] [] [] (e2:=z11 [(1000005,.hob 3 [] (List.map AV.bool v31))]) (by kernel_rfl) (fun _ h=>h) ?_;refine W.seq ?_;refine W.rg ?_;obtain⟨hc39,h⟩:=qg h
   let z12:=fun t=>z11 ((55,.ptr (.agg [I6 x4.qd.qb,l3 none x4.qd.qa]))::(56,.ptr (I6 x4.qd.qb))::(57,I6 x4.qd.qb)::(58,.pb 1000005 (0+Int.toNat x4.qd.qb * 1))::t)
   refine WO.pi 3 (v:=.pb 1000005 (0+Int.toNat x4.qd.qb * 1)) hc39 (e1:=z12 [(1000005,.hob 3 [] (List.map AV.bool v31))]) ?_;obtain⟨e40,he40,h⟩:=qf h;refine WO.pk 0 (cut Try.prog 4 (List.map AV.bool v31) (0+Int.toNat x4.qd.qb * 1)) (v:=.bool e40) (YD YW (by kernel_rfl) he40) (e1:=z12 [(59,.bool e40),(1000005,.hob 3 [] (List.map AV.bool v31))]) ?_;refine WO.fn (e2:=z11 [(59,.bool e40),(1000005,.hob 3 [] (List.map AV.bool v31))]) ?_;refine W.cb e40 (fun hb=>?_) (fun hb=>?_)
   ·replace h:=qo hb h;refine W.rg ?_;obtain⟨hc41,h⟩:=qg h;refine WO.appendK 3 (d:=63) (e:=94) (s:=3) (bytes:=56) (xs:=(List.map qK v35)) (ys:=(List.map qK [x4])) (zs:=(List.map qK (v35++[x4]))) (env1:=[(5,.pb 1000005 0),(10,l94 none v35),(12,.ptr (.agg [I6 x4.qd.qb,l3 none x4.qd.qa,l96 none x4.qe])),(49,l94 none a1),(50,I6 (a1.length:Int)),(51,I6 (k4:Int)),(59,.bool e40),(60,l94 none v35),(61,.agg [I6 x4.qd.qb,l3 none x4.qd.qa,l96 none x4.qe]),(62,l94 (some 62) [x4]),(1000005,.hob 3 [] (List.map AV.bool v31))]) (by kernel_rfl) (List.map_append.symm) (by rw[List.length_map];exact hc41) (e1:=z5 [(10,l94 none v35),(12,.ptr (.agg [I6 x4.qd.qb,l3 none x4.qd.qa,l96 none x4.qe])),(49,l94 none a1),(50,I6 (a1.length:Int)),(51,I6 (k4:Int)),(59,.bool e40),(60,l94 none v35),(61,.agg [I6 x4.qd.qb,l3 none x4.qd.qa,l96 none x4.qe]),(62,l94 (some 62) [x4]),(63,l94 (some 63) (v35++[x4])),(1000005,.hob 3 [] (List.map AV.bool v31))]) (by kernel_rfl) ?_;refine WO.fin [5,10,49,50,51,1000005] [] [] [(63,some 11000)] (e2:=z5 [(10,l94 (some 11000) (v35++[x4])),(49,l94 none a1),(50,I6 (a1.length:Int)),(51,I6 (k4:Int)),(1000005,.hob 3 [] (List.map AV.bool v31))]) (by kernel_rfl) (fun _ h=>h) ?_;exact hK36 (v35++[x4]) h
   replace h:=qp hb h;refine W.skip ?_;refine W.wk (env':=z9 []) ?_;exact hK36 v35 h
 refine W.seq ?_;refine W.rt (e2:=z4 [(15,.int .i64 0),(1000005,.hob 3 [] (List.map AV.bool ((List.replicate 6 false).set (0+Int.toNat a2 * 1) true)))]) ?_;refine W.block ?_;obtain⟨hl1,h⟩:=qg h;refine W.wk (env':=z4 [(15,I6 ((0:Nat):Int)),(1000005,.hob 3 [] (List.map AV.bool ((List.replicate 6 false).set (0+Int.toNat a2 * 1) true)))]) ?_;refine W.range (σ:=((List Bool))) (List.range (Int.toNat 6)) (fun k1 s=>z4 [(15,I6 (k1:Int)),(1000005,.hob 3 [] (List.map AV.bool s))]) (fun r0 k0 s=>qw a1 (qA a1) r0 k0 s=some r) (fun v10 h=>?_) (fun x1 r1 k1 s hx1 hk1 h hN1=>?_) ((List.replicate 6 false).set (0+Int.toNat a2 * 1) true) h
 ·have h:qw a1 (qA a1) [] ((List.range (Int.toNat 6))).length v10=some r:=h;rw[qw.eq_1]at h;refine W.seq ?_;refine W.rg ?_
  let z13:=fun t=>z4 ((15,I6 (((List.range (Int.toNat 6))).length:Int))::(16,.bool false)::(1000005,.hob 3 [] (List.map AV.bool v10))::t)
  refine WO.pk 0 (some (.bool (decide ((((List.range (Int.toNat 6))).length:Int)<6)))) (v:=.bool false) (by rw[VW (n:=6)]) (e1:=z13 []) ?_;refine WO.fn (e2:=z13 []) ?_;refine W.seq ?_;refine W.cb false (fun h=>Bool.noConfusion h) (fun _=>?_);refine W.exit ?_;refine W.wk (env':=z4 [(1000005,.hob 3 [] (List.map AV.bool v10))]) ?_;exact hK8 v10 h
 ·obtain⟨v10,rfl⟩:∃ x,x=s:=⟨s,rfl⟩;have h:qw a1 (qA a1) (x1::r1) k1 v10=some r:=h;rw[qw.eq_2]at h;refine W.seq ?_;refine W.rg ?_
  let z14:=fun t=>z4 ((15,I6 (k1:Int))::t)
  let z15:=fun t=>z14 ((16,.bool true)::(1000005,.hob 3 [] (List.map AV.bool v10))::t)
  refine WO.pk 0 (some (.bool (decide ((k1:Int)<6)))) (v:=.bool true) (by rw[UU hk1]) (e1:=z15 []) ?_;refine WO.fn (e2:=z15 []) ?_;refine W.seq ?_;refine W.cb true (fun _=>?_) (fun h=>Bool.noConfusion h);refine W.skip ?_;refine W.wk (env':=z14 [(1000005,.hob 3 [] (List.map AV.bool v10))]) ?_;refine W.seq ?_;refine W.join (σ:=((List Bool))) (fun s=>z14 [(1000005,.hob 3 [] (List.map AV.bool s))]) (fun s=>(jg (qw a1 (qA a1) r1 (k1+1))) s=some r) (fun v30 h=>?_) (fun hK11=>?_)
  ·have h:(jg (qw a1 (qA a1) r1 (k1+1))) v30=some r:=h;unfold jg at h;refine W.rg ?_;refine WO.pk 0 (some (I6 (IntKind.wrap .i64 ((k1:Int)+1)))) (v:=I6 ((k1+1:Nat):Int)) (by rw[qu hl1 hk1]) (e1:=z14 [(48,I6 ((k1+1:Nat):Int)),(1000005,.hob 3 [] (List.map AV.bool v30))]) ?_;refine WO.fn (e2:=z4 [(15,I6 ((k1+1:Nat):Int)),(1000005,.hob 3 [] (List.map AV.bool v30))]) ?_;exact hN1 v30 h
  refine W.block ?_;refine W.seq ?_;refine W.rg ?_
  let z16:=fun t=>z14 ((17,l94 none a1)::(18,I6 (a1.length:Int))::t)
  refine WO.pk 1 (some (I6 ((List.map qK a1).length:Int))) (v:=I6 (a1.length:Int)) (by rw[List.length_map]) (e1:=z16 [(1000005,.hob 3 [] (List.map AV.bool v10))]) ?_;refine WO.fn (e2:=z16 [(19,.int .i64 0),(1000005,.hob 3 [] (List.map AV.bool v10))]) ?_;refine W.block ?_;obtain⟨hl2,h⟩:=qg h;refine W.wk (env':=z16 [(19,I6 ((0:Nat):Int)),(1000005,.hob 3 [] (List.map AV.bool v10))]) ?_;refine W.range (σ:=((List Bool))) a1 (fun k2 s=>z16 [(19,I6 (k2:Int)),(1000005,.hob 3 [] (List.map AV.bool s))]) (fun r0 k0 s=>qU (jg (qw a1 (qA a1) r1 (k1+1))) r0 k0 s=some r) (fun v13 h=>?_) (fun x2 r2 k2 s hx2 hk2 h hN2=>?_) v10 h
  ·have h:qU (jg (qw a1 (qA a1) r1 (k1+1))) [] (a1).length v13=some r:=h;rw[qU.eq_1]at h;refine W.seq ?_;refine W.rg ?_
   let z17:=fun t=>z16 ((19,I6 ((a1).length:Int))::(20,.bool false)::(1000005,.hob 3 [] (List.map AV.bool v13))::t)
   refine WO.pk 0 (some (.bool (decide (((a1).length:Int)<(a1.length:Int))))) (v:=.bool false) (by rw[qD (l:=a1)]) (e1:=z17 []) ?_;refine WO.fn (e2:=z17 []) ?_;refine W.seq ?_;refine W.cb false (fun h=>Bool.noConfusion h) (fun _=>?_);refine W.exit ?_;refine W.wk (env':=z14 [(1000005,.hob 3 [] (List.map AV.bool v13))]) ?_;exact hK11 v13 h
  ·obtain⟨v13,rfl⟩:∃ x,x=s:=⟨s,rfl⟩;have h:qU (jg (qw a1 (qA a1) r1 (k1+1))) (x2::r2) k2 v13=some r:=h;rw[qU.eq_2]at h;refine W.seq ?_;refine W.rg ?_
   let z18:=fun t=>z16 ((19,I6 (k2:Int))::t)
   let z19:=fun t=>z18 ((20,.bool true)::(1000005,.hob 3 [] (List.map AV.bool v13))::t)
   refine WO.pk 0 (some (.bool (decide ((k2:Int)<(a1.length:Int))))) (v:=.bool true) (by rw[qX hk2]) (e1:=z19 []) ?_;refine WO.fn (e2:=z19 []) ?_;refine W.seq ?_;refine W.cb true (fun _=>?_) (fun h=>Bool.noConfusion h);refine W.skip ?_;refine W.wk (env':=z18 [(1000005,.hob 3 [] (List.map AV.bool v13))]) ?_;refine W.seq ?_;refine W.join (σ:=((List Bool))) (fun s=>z18 [(1000005,.hob 3 [] (List.map AV.bool s))]) (fun s=>(Jm (qU (jg (qw a1 (qA a1) r1 (k1+1))) r2 (k2+1))) s=some r) (fun v29 h=>?_) (fun hK14=>?_)
   ·have h:(Jm (qU (jg (qw a1 (qA a1) r1 (k1+1))) r2 (k2+1))) v29=some r:=h;unfold Jm at h;refine W.rg ?_;refine WO.pk 0 (some (I6 (IntKind.wrap .i64 ((k2:Int)+1)))) (v:=I6 ((k2+1:Nat):Int)) (by rw[qu hl2 hk2]) (e1:=z18 [(47,I6 ((k2+1:Nat):Int)),(1000005,.hob 3 [] (List.map AV.bool v29))]) ?_;refine WO.fn (e2:=z16 [(19,I6 ((k2+1:Nat):Int)),(1000005,.hob 3 [] (List.map AV.bool v29))]) ?_;exact hN2 v29 h
   refine W.block ?_;refine W.seq ?_;refine W.rg ?_;refine WO.pk 0 (if (0:Int)≤(k2:Int) then ((List.map qK a1)[Int.toNat (k2:Int)]?).map AV.ptr else none) (v:=.ptr (.agg [I6 x2.qd.qb,l3 none x2.qd.qa,l96 none x2.qe])) (qY (f:=qK) hx2) (e1:=z18 [(21,.ptr (.agg [I6 x2.qd.qb,l3 none x2.qd.qa,l96 none x2.qe])),(1000005,.hob 3 [] (List.map AV.bool v13))]) ?_
   let z20:=fun t=>z4 ((7,.ptr (.agg [I6 x2.qd.qb,l3 none x2.qd.qa,l96 none x2.qe]))::(15,I6 (k1:Int))::(17,l94 none a1)::(18,I6 (a1.length:Int))::(19,I6 (k2:Int))::t)
   refine WO.fin [0,5,7,15,17,18,19,1000005] [7] [] [] (e2:=z20 [(1000005,.hob 3 [] (List.map AV.bool v13))]) (by kernel_rfl) (fun _ h=>h) ?_;refine W.seq ?_;refine W.rg ?_;refine WO.pk 2 (some (I6 ((List.map jB x2.qe).length:Int))) (v:=I6 (x2.qe.length:Int)) (by rw[List.length_map]) (e1:=z20 [(23,.ptr (l96 none x2.qe)),(24,l96 none x2.qe),(25,I6 (x2.qe.length:Int)),(1000005,.hob 3 [] (List.map AV.bool v13))]) ?_
   let z21:=fun t=>z20 ((24,l96 none x2.qe)::(25,I6 (x2.qe.length:Int))::t)
   refine WO.fn (e2:=z21 [(26,.int .i64 0),(1000005,.hob 3 [] (List.map AV.bool v13))]) ?_;refine W.block ?_;obtain⟨hl3,h⟩:=qg h;refine W.wk (env':=z21 [(26,I6 ((0:Nat):Int)),(1000005,.hob 3 [] (List.map AV.bool v13))]) ?_;refine W.range (σ:=((List Bool))) x2.qe (fun k3 s=>z21 [(26,I6 (k3:Int)),(1000005,.hob 3 [] (List.map AV.bool s))]) (fun r0 k0 s=>jE x2 (Jm (qU (jg (qw a1 (qA a1) r1 (k1+1))) r2 (k2+1))) r0 k0 s=some r) (fun v17 h=>?_) (fun x3 r3 k3 s hx3 hk3 h hN3=>?_) v13 h
   ·have h:jE x2 (Jm (qU (jg (qw a1 (qA a1) r1 (k1+1))) r2 (k2+1))) [] (x2.qe).length v17=some r:=h;rw[jE.eq_1]at h;refine W.seq ?_;refine W.rg ?_
    let z22:=fun t=>z21 ((26,I6 ((x2.qe).length:Int))::(27,.bool false)::(1000005,.hob 3 [] (List.map AV.bool v17))::t)
    refine WO.pk 0 (some (.bool (decide (((x2.qe).length:Int)<(x2.qe.length:Int))))) (v:=.bool false) (by rw[qD (l:=x2.qe)]) (e1:=z22 []) ?_;refine WO.fn (e2:=z22 []) ?_;refine W.seq ?_;refine W.cb false (fun h=>Bool.noConfusion h) (fun _=>?_);refine W.exit ?_;refine W.wk (env':=z18 [(1000005,.hob 3 [] (List.map AV.bool v17))]) ?_;exact hK14 v17 h
   ·obtain⟨v17,rfl⟩:∃ x,x=s:=⟨s,rfl⟩;have h:jE x2 (Jm (qU (jg (qw a1 (qA a1) r1 (k1+1))) r2 (k2+1))) (x3::r3) k3 v17=some r:=h;rw[jE.eq_2]at h;refine W.seq ?_;refine W.rg ?_
    let z23:=fun t=>z21 ((26,I6 (k3:Int))::t)
    let z24:=fun t=>z23 ((27,.bool true)::(1000005,.hob 3 [] (List.map AV.bool v17))::t)
    refine WO.pk 0 (some (.bool (decide ((k3:Int)<(x2.qe.length:Int))))) (v:=.bool true) (by rw[qX hk3]) (e1:=z24 []) ?_;refine WO.fn (e2:=z24 []) ?_;refine W.seq ?_;refine W.cb true (fun _=>?_) (fun h=>Bool.noConfusion h);refine W.skip ?_;refine W.wk (env':=z23 [(1000005,.hob 3 [] (List.map AV.bool v17))]) ?_;refine W.seq ?_;refine W.join (σ:=((List Bool))) (fun s=>z23 [(1000005,.hob 3 [] (List.map AV.bool s))]) (fun s=>(QM (jE x2 (Jm (qU (jg (qw a1 (qA a1) r1 (k1+1))) r2 (k2+1))) r3 (k3+1))) s=some r) (fun v28 h=>?_) (fun hK18=>?_)
    ·have h:(QM (jE x2 (Jm (qU (jg (qw a1 (qA a1) r1 (k1+1))) r2 (k2+1))) r3 (k3+1))) v28=some r:=h;unfold QM at h;refine W.rg ?_;refine WO.pk 0 (some (I6 (IntKind.wrap .i64 ((k3:Int)+1)))) (v:=I6 ((k3+1:Nat):Int)) (by rw[qu hl3 hk3]) (e1:=z23 [(46,I6 ((k3+1:Nat):Int)),(1000005,.hob 3 [] (List.map AV.bool v28))]) ?_;refine WO.fn (e2:=z21 [(26,I6 ((k3+1:Nat):Int)),(1000005,.hob 3 [] (List.map AV.bool v28))]) ?_;exact hN3 v28 h
    refine W.block ?_;refine W.seq ?_;refine W.rg ?_;refine WO.pk 0 (if (0:Int)≤(k3:Int) then ((List.map jB x2.qe)[Int.toNat (k3:Int)]?).map AV.ptr else none) (v:=.ptr (.agg [.bool x3.qi,I6 x3.qc.qb,l3 none x3.qc.qa])) (qY (f:=jB) hx3) (e1:=z23 [(28,.ptr (.agg [.bool x3.qi,I6 x3.qc.qb,l3 none x3.qc.qa])),(1000005,.hob 3 [] (List.map AV.bool v17))]) ?_
    let z25:=fun t=>z4 ((7,.ptr (.agg [I6 x2.qd.qb,l3 none x2.qd.qa,l96 none x2.qe]))::(9,.ptr (.agg [.bool x3.qi,I6 x3.qc.qb,l3 none x3.qc.qa]))::(15,I6 (k1:Int))::(17,l94 none a1)::(18,I6 (a1.length:Int))::(19,I6 (k2:Int))::(24,l96 none x2.qe)::(25,I6 (x2.qe.length:Int))::(26,I6 (k3:Int))::t)
    refine WO.fin [0,5,7,9,15,17,18,19,24,25,26,1000005] [9] [] [] (e2:=z25 [(1000005,.hob 3 [] (List.map AV.bool v17))]) (by kernel_rfl) (fun _ h=>h) ?_;refine W.rg ?_;obtain⟨hc20,h⟩:=qg h
    let z26:=fun t=>z25 ((30,.ptr (.agg [I6 x3.qc.qb,l3 none x3.qc.qa]))::(31,.ptr (I6 x3.qc.qb))::(32,I6 x3.qc.qb)::(33,.ptr (.agg [I6 x3.qc.qb,l3 none x3.qc.qa]))::(34,.ptr (I6 x3.qc.qb))::(35,I6 x3.qc.qb)::(36,.pb 1000005 (0+Int.toNat x3.qc.qb * 1))::t)
    refine WO.pi 6 (v:=.pb 1000005 (0+Int.toNat x3.qc.qb * 1)) hc20 (e1:=z26 [(1000005,.hob 3 [] (List.map AV.bool v17))]) ?_;obtain⟨e21,he21,h⟩:=qf h;refine WO.pk 0 (cut Try.prog 4 (List.map AV.bool v17) (0+Int.toNat x3.qc.qb * 1)) (v:=.bool e21) (YD YW (by kernel_rfl) he21) (e1:=z26 [(37,.bool e21),(1000005,.hob 3 [] (List.map AV.bool v17))]) ?_;refine WO.bk 1 (fun b=>z26 [(37,.bool b),(38,.bool b),(1000005,.hob 3 [] (List.map AV.bool v17))]) e21 (fun hb=>?_) (fun hb=>?_)
    ·replace h:=qo hb h;obtain⟨hc22,h⟩:=qg h
     let z27:=fun t=>z26 ((37,.bool true)::(38,.bool true)::(39,.und)::(40,.und)::(41,.und)::(42,.und)::(43,.und)::(44,.bool true)::(45,.pb 1000005 (0+Int.toNat x3.qc.qb * 1))::t)
     refine WO.pi 6 (v:=.pb 1000005 (0+Int.toNat x3.qc.qb * 1)) hc22 (e1:=z27 [(1000005,.hob 3 [] (List.map AV.bool v17))]) ?_;obtain⟨hc23,h⟩:=qg h;refine WO.setA (enc:=AV.bool) (l:=v17) (x:=true) (s:=1000005) (off:=(0+Int.toNat x3.qc.qb * 1)) 0 YW hc23 (e1:=z27 [(1000005,.hob 3 [] (List.map AV.bool (v17.set (0+Int.toNat x3.qc.qb * 1) true)))]) ?_;refine WO.fn (e2:=z23 [(1000005,.hob 3 [] (List.map AV.bool (v17.set (0+Int.toNat x3.qc.qb * 1) true)))]) ?_;exact hK18 (v17.set (0+Int.toNat x3.qc.qb * 1) true) h
    replace h:=qp hb h;obtain⟨hc24,h⟩:=qg h
    let z28:=fun t=>z26 ((37,.bool false)::(38,.bool false)::(39,.ptr (.agg [I6 x2.qd.qb,l3 none x2.qd.qa]))::(40,.ptr (I6 x2.qd.qb))::(41,I6 x2.qd.qb)::(42,.pb 1000005 (0+Int.toNat x2.qd.qb * 1))::t)
    refine WO.pi 3 (v:=.pb 1000005 (0+Int.toNat x2.qd.qb * 1)) hc24 (e1:=z28 [(1000005,.hob 3 [] (List.map AV.bool v17))]) ?_;obtain⟨e25,he25,h⟩:=qf h;refine WO.pk 0 (cut Try.prog 4 (List.map AV.bool v17) (0+Int.toNat x2.qd.qb * 1)) (v:=.bool e25) (YD YW (by kernel_rfl) he25) (e1:=z28 [(43,.bool e25),(1000005,.hob 3 [] (List.map AV.bool v17))]) ?_;obtain⟨hc26,h⟩:=qg h
    let z29:=fun t=>z28 ((43,.bool e25)::(44,.bool e25)::(45,.pb 1000005 (0+Int.toNat x3.qc.qb * 1))::t)
    refine WO.pi 1 (v:=.pb 1000005 (0+Int.toNat x3.qc.qb * 1)) hc26 (e1:=z29 [(1000005,.hob 3 [] (List.map AV.bool v17))]) ?_;obtain⟨hc27,h⟩:=qg h;refine WO.setA (enc:=AV.bool) (l:=v17) (x:=e25) (s:=1000005) (off:=(0+Int.toNat x3.qc.qb * 1)) 0 YW hc27 (e1:=z29 [(1000005,.hob 3 [] (List.map AV.bool (v17.set (0+Int.toNat x3.qc.qb * 1) e25)))]) ?_;refine WO.fn (e2:=z23 [(1000005,.hob 3 [] (List.map AV.bool (v17.set (0+Int.toNat x3.qc.qb * 1) e25)))]) ?_;exact hK18 (v17.set (0+Int.toNat x3.qc.qb * 1) e25) h
def jj:Option Bool :=
 (some true)
def qH (a2:(List rf3Rule)) (g3:(rf3Rule→rf3Rule→Option Bool)) (K8:(Option Bool)):List rf3Rule→Nat→Option Bool
 | [],k1=>K8
 | x1::r1,k1=>((idx a2 (k1:Int)).bind fun e13=>((g3 x1 e13).bind fun w15=>(bif (!w15) then (some false) else (qH a2 g3 K8 r1 (k1+1)))))
def Qz (a1:(List rf3Rule)) (a2:(List rf3Rule)) (g3:(rf3Rule→rf3Rule→Option Bool)):Option Bool :=
 (bif ((a1.length:Int) != (a2.length:Int)) then (some false) else (chk (lenOk a1) (qH a2 g3 (jj) a1 0)))
theorem Zv (a1:(List rf3Rule)) (a2:(List rf3Rule)) (g3:(rf3Rule→rf3Rule→Option Bool)) (F_g3:Nat) (C_g3:List AV) (hok_g3:okFn Try.prog F_g3=true) (hrun_g3:∀ (x0:rf3Rule) (x1:rf3Rule) r,g3 x0 x1=some r→Run Try.prog (.call F_g3 ([.agg [I6 x0.qd.qb,l3 none x0.qd.qa,l96 none x0.qe],.agg [I6 x1.qd.qb,l3 none x1.qd.qa,l96 none x1.qe]]++C_g3) (.bool r))) (r:Bool) (h:Qz a1 a2 g3=some r):Run Try.prog (.call 87 [l94 none a1,l94 none a2,.clo F_g3 C_g3] (.bool r)):=by
 refine cW Try.func87 rfl (env0:=[(0,l94 none a1),(1,l94 none a2),(2,.clo F_g3 C_g3)]) ?_;unfold Qz at h;refine W.seq ?_
 let z0:=fun t=>EN ((0,l94 none a1)::(1,l94 none a2)::(2,.clo F_g3 C_g3)::t)
 refine W.rt (e2:=z0 []) ?_;refine W.seq ?_;refine W.seq ?_;refine W.rg ?_
 let z1:=fun t=>z0 ((10,l94 none a1)::(11,I6 (a1.length:Int))::t)
 refine WO.pk 1 (some (I6 ((List.map qK a1).length:Int))) (v:=I6 (a1.length:Int)) (by rw[List.length_map]) (e1:=z1 []) ?_;refine WO.pk 1 (some (I6 ((List.map qK a2).length:Int))) (v:=I6 (a2.length:Int)) (by rw[List.length_map]) (e1:=z1 [(12,l94 none a2),(13,I6 (a2.length:Int))]) ?_;refine WO.fn (e2:=z0 [(14,.bool ((a1.length:Int) != (a2.length:Int)))]) ?_;refine W.cb ((a1.length:Int) != (a2.length:Int)) (fun hb=>?_) (fun hb=>?_)
 ·replace h:=qo hb h;refine W.seq ?_;refine W.rt (e2:=[(6,.bool false)]) ?_;refine W.wk (env':=[(6,.bool false)]) ?_;cases h;exact W.ret (show qm _ _ _=some _ by kernel_rfl)
 replace h:=qp hb h;refine W.skip ?_;refine W.wk (env':=z0 []) ?_;refine W.seq ?_;refine W.join (σ:=Unit) (fun s=>[]) (fun s=>(jj)=some r) (fun s h=>?_) (fun hK8=>?_)
 ·have h:(jj)=some r:=h;unfold jj at h;refine W.seq ?_;refine W.rt (e2:=[(6,.bool true)]) ?_;refine W.wk (env':=[(6,.bool true)]) ?_;cases h;exact W.ret (show qm _ _ _=some _ by kernel_rfl)
 refine W.seq ?_;refine W.rg ?_;refine WO.pk 1 (some (I6 ((List.map qK a1).length:Int))) (v:=I6 (a1.length:Int)) (by rw[List.length_map]) (e1:=z0 [(15,l94 none a1),(16,I6 (a1.length:Int))]) ?_
 let z2:=fun t=>EN ((1,l94 none a2)::(2,.clo F_g3 C_g3)::(15,l94 none a1)::(16,I6 (a1.length:Int))::t)
 refine WO.fn (e2:=z2 [(17,.int .i64 0)]) ?_;refine W.block ?_;obtain⟨hl1,h⟩:=qg h;refine W.wk (env':=z2 [(17,I6 ((0:Nat):Int))]) ?_;refine W.range (σ:=Unit) a1 (fun k1 s=>z2 [(17,I6 (k1:Int))]) (fun r0 k0 s=>qH a2 g3 (jj) r0 k0=some r) (fun s h=>?_) (fun x1 r1 k1 s hx1 hk1 h hN1=>?_) () h
 ·have h:qH a2 g3 (jj) [] (a1).length=some r:=h;rw[qH.eq_1]at h;refine W.seq ?_;refine W.rg ?_
  let z3:=fun t=>z2 ((17,I6 ((a1).length:Int))::(18,.bool false)::t)
  refine WO.pk 0 (some (.bool (decide (((a1).length:Int)<(a1.length:Int))))) (v:=.bool false) (by rw[qD (l:=a1)]) (e1:=z3 []) ?_;refine WO.fn (e2:=z3 []) ?_;refine W.seq ?_;refine W.cb false (fun h=>Bool.noConfusion h) (fun _=>?_);refine W.exit ?_;refine W.wk (env':=[]) ?_;exact hK8 () h
 ·have h:qH a2 g3 (jj) (x1::r1) k1=some r:=h;rw[qH.eq_2]at h;refine W.seq ?_;refine W.rg ?_
  let z4:=fun t=>z2 ((17,I6 (k1:Int))::t)
  refine WO.pk 0 (some (.bool (decide ((k1:Int)<(a1.length:Int))))) (v:=.bool true) (by rw[qX hk1]) (e1:=z4 [(18,.bool true)]) ?_;refine WO.fn (e2:=z4 [(18,.bool true)]) ?_;refine W.seq ?_;refine W.cb true (fun _=>?_) (fun h=>Bool.noConfusion h);refine W.skip ?_;refine W.wk (env':=z4 []) ?_;refine W.seq ?_;refine W.block ?_;refine W.seq ?_;refine W.rg ?_;refine WO.pk 1 (if (0:Int)≤(k1:Int) then ((List.map qK a1)[Int.toNat (k1:Int)]?).map AV.ptr else none) (v:=.ptr (.agg [I6 x1.qd.qb,l3 none x1.qd.qa,l96 none x1.qe])) (qY (f:=qK) hx1) (e1:=z4 [(19,I6 (k1:Int)),(20,.ptr (.agg [I6 x1.qd.qb,l3 none x1.qd.qa,l96 none x1.qe]))]) ?_
  let z5:=fun t=>EN ((1,l94 none a2)::(2,.clo F_g3 C_g3)::t)
  let z6:=fun t=>z5 ((7,I6 (k1:Int))::(8,.ptr (.agg [I6 x1.qd.qb,l3 none x1.qd.qa,l96 none x1.qe]))::(15,l94 none a1)::(16,I6 (a1.length:Int))::(17,I6 (k1:Int))::t)
  refine WO.fin [1,2,7,8,15,16,17] [8] [] [] (e2:=z6 []) (by kernel_rfl) (fun _ h=>h) ?_;refine W.seq ?_;refine W.rg ?_;obtain⟨e13,he13,h⟩:=qf h;refine WO.pk 2 (if (0:Int)≤(k1:Int) then ((List.map qK a2)[Int.toNat (k1:Int)]?).map AV.ptr else none) (v:=.ptr (.agg [I6 e13.qd.qb,l3 none e13.qd.qa,l96 none e13.qe])) (ZB (f:=qK) he13) (e1:=z6 [(22,l94 none a2),(23,I6 (k1:Int)),(24,.ptr (.agg [I6 e13.qd.qb,l3 none e13.qd.qa,l96 none e13.qe]))]) ?_
  let z7:=fun t=>z5 ((8,.ptr (.agg [I6 x1.qd.qb,l3 none x1.qd.qa,l96 none x1.qe]))::(9,.ptr (.agg [I6 e13.qd.qb,l3 none e13.qd.qa,l96 none e13.qe]))::(15,l94 none a1)::(16,I6 (a1.length:Int))::(17,I6 (k1:Int))::t)
  refine WO.fin [1,2,8,9,15,16,17] [9] [] [] (e2:=z7 []) (by kernel_rfl) (fun _ h=>h) ?_;refine W.seq ?_;refine W.rg ?_;obtain⟨w15,hw15,h⟩:=qf h;refine WO.callK 3 (F:=F_g3) (l:=[.agg [I6 x1.qd.qb,l3 none x1.qd.qa,l96 none x1.qe],.agg [I6 e13.qd.qb,l3 none e13.qd.qa,l96 none e13.qe]]) (C:=C_g3) (r:=.bool w15) (by kernel_rfl) hok_g3 (hrun_g3 x1 e13 w15 hw15) (e1:=z7 [(26,.clo F_g3 C_g3),(27,.agg [I6 x1.qd.qb,l3 none x1.qd.qa,l96 none x1.qe]),(28,.agg [I6 e13.qd.qb,l3 none e13.qd.qa,l96 none e13.qe]),(29,.bool w15)]) (by kernel_rfl) ?_;refine WO.fn (e2:=z4 [(30,.bool (!w15))]) ?_;refine W.cb (!w15) (fun hb=>?_) (fun hb=>?_)
  ·replace h:=qo hb h;refine W.seq ?_;refine W.rt (e2:=[(6,.bool false)]) ?_;refine W.wk (env':=[(6,.bool false)]) ?_;cases h;exact W.ret (show qm _ _ _=some _ by kernel_rfl)
  replace h:=qp hb h;refine W.skip ?_;refine W.wk (env':=z4 []) ?_;refine W.rg ?_;refine WO.pk 0 (some (I6 (IntKind.wrap .i64 ((k1:Int)+1)))) (v:=I6 ((k1+1:Nat):Int)) (by rw[qu hl1 hk1]) (e1:=z4 [(31,I6 ((k1+1:Nat):Int))]) ?_;refine WO.fn (e2:=z2 [(17,I6 ((k1+1:Nat):Int))]) ?_;exact hN1 () h
def Ym (v6:Bool):Option Bool :=
 (some v6)
def YT (a1:rf2Atom) (a2:rf2Atom):Option Bool :=
 (bif (a1.qb == a2.qb) then ((Qg a1.qa a2.qa).bind fun w5=>((Ym) w5)) else ((Ym) false))
theorem Uk (a1:rf2Atom) (a2:rf2Atom) (r:Bool) (h:YT a1 a2=some r):Run Try.prog (.call 89 [.agg [I6 a1.qb,l3 none a1.qa],.agg [I6 a2.qb,l3 none a2.qa]] (.bool r)):=by
 refine cW Try.func89 rfl (env0:=[(0,.agg [I6 a1.qb,l3 none a1.qa]),(1,.agg [I6 a2.qb,l3 none a2.qa])]) ?_;unfold YT at h;refine W.seq ?_
 let z0:=fun t=>EN ((2,.ptr (.agg [I6 a1.qb,l3 none a1.qa]))::(3,.ptr (.agg [I6 a2.qb,l3 none a2.qa]))::t)
 refine W.regT [2,3] [2,3] [] [] (e2:=z0 []) (by kernel_rfl) (by kernel_rfl) (fun _ h=>h) ?_;refine W.seq ?_;refine W.join (σ:=(Bool)) (fun s=>[(4,.bool s)]) (fun s=>(Ym) s=some r) (fun v6 h=>?_) (fun hK4=>?_)
 ·have h:(Ym) v6=some r:=h;unfold Ym at h;refine W.wk (env':=[(4,.bool v6)]) ?_;cases h;exact W.ret (show qm _ _ _=some _ by kernel_rfl)
 refine W.rg ?_
 let z1:=fun t=>z0 ((5,.ptr (I6 a1.qb))::(6,I6 a1.qb)::(7,.ptr (I6 a2.qb))::(8,I6 a2.qb)::t)
 refine WO.bk 6 (fun b=>z1 [(9,.bool b),(10,.bool b)]) (a1.qb == a2.qb) (fun hb=>?_) (fun hb=>?_)
 ·replace h:=qo hb h;obtain⟨w5,hw5,h⟩:=qf h;refine WO.ck 4 (F:=34) (l:=[l3 none a1.qa,l3 none a2.qa]) (C:=[]) (r:=.bool w5) (Yt a1.qa a2.qa w5 hw5) (e1:=z1 [(9,.bool true),(10,.bool true),(11,.ptr (l3 none a1.qa)),(12,l3 none a1.qa),(13,.ptr (l3 none a2.qa)),(14,l3 none a2.qa),(15,.bool w5)]) ?_;refine WO.fn (e2:=[(4,.bool w5)]) ?_;exact hK4 w5 h
 replace h:=qp hb h;refine WO.fn (e2:=[(4,.bool false)]) ?_;exact hK4 false h
def js:Option Bool :=
 (some true)
def qN (a2:(List rf3Lit)) (g3:(rf3Lit→rf3Lit→Option Bool)) (K8:(Option Bool)):List rf3Lit→Nat→Option Bool
 | [],k1=>K8
 | x1::r1,k1=>((idx a2 (k1:Int)).bind fun e13=>((g3 x1 e13).bind fun w15=>(bif (!w15) then (some false) else (qN a2 g3 K8 r1 (k1+1)))))
def QI (a1:(List rf3Lit)) (a2:(List rf3Lit)) (g3:(rf3Lit→rf3Lit→Option Bool)):Option Bool :=
 (bif ((a1.length:Int) != (a2.length:Int)) then (some false) else (chk (lenOk a1) (qN a2 g3 (js) a1 0)))
theorem ZH (a1:(List rf3Lit)) (a2:(List rf3Lit)) (g3:(rf3Lit→rf3Lit→Option Bool)) (F_g3:Nat) (C_g3:List AV) (hok_g3:okFn Try.prog F_g3=true) (hrun_g3:∀ (x0:rf3Lit) (x1:rf3Lit) r,g3 x0 x1=some r→Run Try.prog (.call F_g3 ([.agg [.bool x0.qi,I6 x0.qc.qb,l3 none x0.qc.qa],.agg [.bool x1.qi,I6 x1.qc.qb,l3 none x1.qc.qa]]++C_g3) (.bool r))) (r:Bool) (h:QI a1 a2 g3=some r):Run Try.prog (.call 90 [l96 none a1,l96 none a2,.clo F_g3 C_g3] (.bool r)):=by
 refine cW Try.func90 rfl (env0:=[(0,l96 none a1),(1,l96 none a2),(2,.clo F_g3 C_g3)]) ?_;unfold QI at h;refine W.seq ?_
 let z0:=fun t=>EN ((0,l96 none a1)::(1,l96 none a2)::(2,.clo F_g3 C_g3)::t)
 refine W.rt (e2:=z0 []) ?_;refine W.seq ?_;refine W.seq ?_;refine W.rg ?_
 let z1:=fun t=>z0 ((10,l96 none a1)::(11,I6 (a1.length:Int))::t)
 refine WO.pk 1 (some (I6 ((List.map jB a1).length:Int))) (v:=I6 (a1.length:Int)) (by rw[List.length_map]) (e1:=z1 []) ?_;refine WO.pk 1 (some (I6 ((List.map jB a2).length:Int))) (v:=I6 (a2.length:Int)) (by rw[List.length_map]) (e1:=z1 [(12,l96 none a2),(13,I6 (a2.length:Int))]) ?_;refine WO.fn (e2:=z0 [(14,.bool ((a1.length:Int) != (a2.length:Int)))]) ?_;refine W.cb ((a1.length:Int) != (a2.length:Int)) (fun hb=>?_) (fun hb=>?_)
 ·replace h:=qo hb h;refine W.seq ?_;refine W.rt (e2:=[(6,.bool false)]) ?_;refine W.wk (env':=[(6,.bool false)]) ?_;cases h;exact W.ret (show qm _ _ _=some _ by kernel_rfl)
 replace h:=qp hb h;refine W.skip ?_;refine W.wk (env':=z0 []) ?_;refine W.seq ?_;refine W.join (σ:=Unit) (fun s=>[]) (fun s=>(js)=some r) (fun s h=>?_) (fun hK8=>?_)
 ·have h:(js)=some r:=h;unfold js at h;refine W.seq ?_;refine W.rt (e2:=[(6,.bool true)]) ?_;refine W.wk (env':=[(6,.bool true)]) ?_;cases h;exact W.ret (show qm _ _ _=some _ by kernel_rfl)
 refine W.seq ?_;refine W.rg ?_;refine WO.pk 1 (some (I6 ((List.map jB a1).length:Int))) (v:=I6 (a1.length:Int)) (by rw[List.length_map]) (e1:=z0 [(15,l96 none a1),(16,I6 (a1.length:Int))]) ?_
 let z2:=fun t=>EN ((1,l96 none a2)::(2,.clo F_g3 C_g3)::(15,l96 none a1)::(16,I6 (a1.length:Int))::t)
 refine WO.fn (e2:=z2 [(17,.int .i64 0)]) ?_;refine W.block ?_;obtain⟨hl1,h⟩:=qg h;refine W.wk (env':=z2 [(17,I6 ((0:Nat):Int))]) ?_;refine W.range (σ:=Unit) a1 (fun k1 s=>z2 [(17,I6 (k1:Int))]) (fun r0 k0 s=>qN a2 g3 (js) r0 k0=some r) (fun s h=>?_) (fun x1 r1 k1 s hx1 hk1 h hN1=>?_) () h
 ·have h:qN a2 g3 (js) [] (a1).length=some r:=h;rw[qN.eq_1]at h;refine W.seq ?_;refine W.rg ?_
  let z3:=fun t=>z2 ((17,I6 ((a1).length:Int))::(18,.bool false)::t)
  refine WO.pk 0 (some (.bool (decide (((a1).length:Int)<(a1.length:Int))))) (v:=.bool false) (by rw[qD (l:=a1)]) (e1:=z3 []) ?_;refine WO.fn (e2:=z3 []) ?_;refine W.seq ?_;refine W.cb false (fun h=>Bool.noConfusion h) (fun _=>?_);refine W.exit ?_;refine W.wk (env':=[]) ?_;exact hK8 () h
 ·have h:qN a2 g3 (js) (x1::r1) k1=some r:=h;rw[qN.eq_2]at h;refine W.seq ?_;refine W.rg ?_
  let z4:=fun t=>z2 ((17,I6 (k1:Int))::t)
  refine WO.pk 0 (some (.bool (decide ((k1:Int)<(a1.length:Int))))) (v:=.bool true) (by rw[qX hk1]) (e1:=z4 [(18,.bool true)]) ?_;refine WO.fn (e2:=z4 [(18,.bool true)]) ?_;refine W.seq ?_;refine W.cb true (fun _=>?_) (fun h=>Bool.noConfusion h);refine W.skip ?_;refine W.wk (env':=z4 []) ?_;refine W.seq ?_;refine W.block ?_;refine W.seq ?_;refine W.rg ?_;refine WO.pk 1 (if (0:Int)≤(k1:Int) then ((List.map jB a1)[Int.toNat (k1:Int)]?).map AV.ptr else none) (v:=.ptr (.agg [.bool x1.qi,I6 x1.qc.qb,l3 none x1.qc.qa])) (qY (f:=jB) hx1) (e1:=z4 [(19,I6 (k1:Int)),(20,.ptr (.agg [.bool x1.qi,I6 x1.qc.qb,l3 none x1.qc.qa]))]) ?_
  let z5:=fun t=>EN ((1,l96 none a2)::(2,.clo F_g3 C_g3)::t)
  let z6:=fun t=>z5 ((7,I6 (k1:Int))::(8,.ptr (.agg [.bool x1.qi,I6 x1.qc.qb,l3 none x1.qc.qa]))::(15,l96 none a1)::(16,I6 (a1.length:Int))::(17,I6 (k1:Int))::t)
  refine WO.fin [1,2,7,8,15,16,17] [8] [] [] (e2:=z6 []) (by kernel_rfl) (fun _ h=>h) ?_;refine W.seq ?_;refine W.rg ?_;obtain⟨e13,he13,h⟩:=qf h;refine WO.pk 2 (if (0:Int)≤(k1:Int) then ((List.map jB a2)[Int.toNat (k1:Int)]?).map AV.ptr else none) (v:=.ptr (.agg [.bool e13.qi,I6 e13.qc.qb,l3 none e13.qc.qa])) (ZB (f:=jB) he13) (e1:=z6 [(22,l96 none a2),(23,I6 (k1:Int)),(24,.ptr (.agg [.bool e13.qi,I6 e13.qc.qb,l3 none e13.qc.qa]))]) ?_
  let z7:=fun t=>z5 ((8,.ptr (.agg [.bool x1.qi,I6 x1.qc.qb,l3 none x1.qc.qa]))::(9,.ptr (.agg [.bool e13.qi,I6 e13.qc.qb,l3 none e13.qc.qa]))::(15,l96 none a1)::(16,I6 (a1.length:Int))::(17,I6 (k1:Int))::t)
  refine WO.fin [1,2,8,9,15,16,17] [9] [] [] (e2:=z7 []) (by kernel_rfl) (fun _ h=>h) ?_;refine W.seq ?_;refine W.rg ?_;obtain⟨w15,hw15,h⟩:=qf h;refine WO.callK 3 (F:=F_g3) (l:=[.agg [.bool x1.qi,I6 x1.qc.qb,l3 none x1.qc.qa],.agg [.bool e13.qi,I6 e13.qc.qb,l3 none e13.qc.qa]]) (C:=C_g3) (r:=.bool w15) (by kernel_rfl) hok_g3 (hrun_g3 x1 e13 w15 hw15) (e1:=z7 [(26,.clo F_g3 C_g3),(27,.agg [.bool x1.qi,I6 x1.qc.qb,l3 none x1.qc.qa]),(28,.agg [.bool e13.qi,I6 e13.qc.qb,l3 none e13.qc.qa]),(29,.bool w15)]) (by kernel_rfl) ?_;refine WO.fn (e2:=z4 [(30,.bool (!w15))]) ?_;refine W.cb (!w15) (fun hb=>?_) (fun hb=>?_)
  ·replace h:=qo hb h;refine W.seq ?_;refine W.rt (e2:=[(6,.bool false)]) ?_;refine W.wk (env':=[(6,.bool false)]) ?_;cases h;exact W.ret (show qm _ _ _=some _ by kernel_rfl)
  replace h:=qp hb h;refine W.skip ?_;refine W.wk (env':=z4 []) ?_;refine W.rg ?_;refine WO.pk 0 (some (I6 (IntKind.wrap .i64 ((k1:Int)+1)))) (v:=I6 ((k1+1:Nat):Int)) (by rw[qu hl1 hk1]) (e1:=z4 [(31,I6 ((k1+1:Nat):Int))]) ?_;refine WO.fn (e2:=z2 [(17,I6 ((k1+1:Nat):Int))]) ?_;exact hN1 () h
def Xa (v6:Bool):Option Bool :=
 (some v6)
def XD (a1:rf3Lit) (a2:rf3Lit):Option Bool :=
 (bif (a1.qi == a2.qi) then ((YT a1.qc a2.qc).bind fun w5=>((Xa) w5)) else ((Xa) false))
theorem Nz (a1:rf3Lit) (a2:rf3Lit) (r:Bool) (h:XD a1 a2=some r):Run Try.prog (.call 91 [.agg [.bool a1.qi,I6 a1.qc.qb,l3 none a1.qc.qa],.agg [.bool a2.qi,I6 a2.qc.qb,l3 none a2.qc.qa]] (.bool r)):=by
 refine cW Try.func91 rfl (env0:=[(0,.agg [.bool a1.qi,I6 a1.qc.qb,l3 none a1.qc.qa]),(1,.agg [.bool a2.qi,I6 a2.qc.qb,l3 none a2.qc.qa])]) ?_;unfold XD at h;refine W.seq ?_
 let z0:=fun t=>EN ((2,.ptr (.agg [.bool a1.qi,I6 a1.qc.qb,l3 none a1.qc.qa]))::(3,.ptr (.agg [.bool a2.qi,I6 a2.qc.qb,l3 none a2.qc.qa]))::t)
 refine W.regT [2,3] [2,3] [] [] (e2:=z0 []) (by kernel_rfl) (by kernel_rfl) (fun _ h=>h) ?_;refine W.seq ?_;refine W.join (σ:=(Bool)) (fun s=>[(4,.bool s)]) (fun s=>(Xa) s=some r) (fun v6 h=>?_) (fun hK4=>?_)
 ·have h:(Xa) v6=some r:=h;unfold Xa at h;refine W.wk (env':=[(4,.bool v6)]) ?_;cases h;exact W.ret (show qm _ _ _=some _ by kernel_rfl)
 refine W.rg ?_
 let z1:=fun t=>z0 ((5,.ptr (.bool a1.qi))::(6,.bool a1.qi)::(7,.ptr (.bool a2.qi))::(8,.bool a2.qi)::t)
 refine WO.bk 6 (fun b=>z1 [(9,.bool b),(10,.bool b)]) (a1.qi == a2.qi) (fun hb=>?_) (fun hb=>?_)
 ·replace h:=qo hb h;obtain⟨w5,hw5,h⟩:=qf h;refine WO.ck 4 (F:=89) (l:=[.agg [I6 a1.qc.qb,l3 none a1.qc.qa],.agg [I6 a2.qc.qb,l3 none a2.qc.qa]]) (C:=[]) (r:=.bool w5) (Uk a1.qc a2.qc w5 hw5) (e1:=z1 [(9,.bool true),(10,.bool true),(11,.ptr (.agg [I6 a1.qc.qb,l3 none a1.qc.qa])),(12,.agg [I6 a1.qc.qb,l3 none a1.qc.qa]),(13,.ptr (.agg [I6 a2.qc.qb,l3 none a2.qc.qa])),(14,.agg [I6 a2.qc.qb,l3 none a2.qc.qa]),(15,.bool w5)]) ?_;refine WO.fn (e2:=[(4,.bool w5)]) ?_;exact hK4 w5 h
 replace h:=qp hb h;refine WO.fn (e2:=[(4,.bool false)]) ?_;exact hK4 false h
def XM (v7:Bool):Option Bool :=
 (some v7)
def XX (a1:rf3Rule) (a2:rf3Rule):Option Bool :=
 ((YT a1.qd a2.qd).bind fun w5=>(bif w5 then ((QI a1.qe a2.qe (fun y0 y1=>XD y0 y1)).bind fun w6=>((XM) w6)) else ((XM) false)))
theorem HV (a1:rf3Rule) (a2:rf3Rule) (r:Bool) (h:XX a1 a2=some r):Run Try.prog (.call 88 [.agg [I6 a1.qd.qb,l3 none a1.qd.qa,l96 none a1.qe],.agg [I6 a2.qd.qb,l3 none a2.qd.qa,l96 none a2.qe]] (.bool r)):=by
 refine cW Try.func88 rfl (env0:=[(0,.agg [I6 a1.qd.qb,l3 none a1.qd.qa,l96 none a1.qe]),(1,.agg [I6 a2.qd.qb,l3 none a2.qd.qa,l96 none a2.qe])]) ?_;unfold XX at h;refine W.seq ?_
 let z0:=fun t=>EN ((2,.ptr (.agg [I6 a1.qd.qb,l3 none a1.qd.qa,l96 none a1.qe]))::(3,.ptr (.agg [I6 a2.qd.qb,l3 none a2.qd.qa,l96 none a2.qe]))::t)
 refine W.regT [2,3] [2,3] [] [] (e2:=z0 []) (by kernel_rfl) (by kernel_rfl) (fun _ h=>h) ?_;refine W.seq ?_;refine W.join (σ:=(Bool)) (fun s=>[(4,.bool s)]) (fun s=>(XM) s=some r) (fun v7 h=>?_) (fun hK4=>?_)
 ·have h:(XM) v7=some r:=h;unfold XM at h;refine W.wk (env':=[(4,.bool v7)]) ?_;cases h;exact W.ret (show qm _ _ _=some _ by kernel_rfl)
 refine W.rg ?_;obtain⟨w5,hw5,h⟩:=qf h
 let z1:=fun t=>z0 ((5,.ptr (.agg [I6 a1.qd.qb,l3 none a1.qd.qa]))::(6,.agg [I6 a1.qd.qb,l3 none a1.qd.qa])::(7,.ptr (.agg [I6 a2.qd.qb,l3 none a2.qd.qa]))::(8,.agg [I6 a2.qd.qb,l3 none a2.qd.qa])::t)
 refine WO.ck 4 (F:=89) (l:=[.agg [I6 a1.qd.qb,l3 none a1.qd.qa],.agg [I6 a2.qd.qb,l3 none a2.qd.qa]]) (C:=[]) (r:=.bool w5) (Uk a1.qd a2.qd w5 hw5) (e1:=z1 [(9,.bool w5)]) ?_;refine WO.bk 1 (fun b=>z1 [(9,.bool b),(10,.bool b)]) w5 (fun hb=>?_) (fun hb=>?_)
 ·replace h:=qo hb h;obtain⟨w6,hw6,h⟩:=qf h;refine WO.ck 4 (F:=90) (l:=[l96 none a1.qe,l96 none a2.qe,.clo 91 []]) (C:=[]) (r:=.bool w6) (ZH a1.qe a2.qe (fun y0 y1=>XD y0 y1) 91 [] (by kernel_rfl) (fun y0 y1 r h=>Nz y0 y1 r h) w6 hw6) (e1:=z1 [(9,.bool true),(10,.bool true),(11,.ptr (l96 none a1.qe)),(12,l96 none a1.qe),(13,.ptr (l96 none a2.qe)),(14,l96 none a2.qe),(15,.bool w6)]) ?_;refine WO.fn (e2:=[(4,.bool w6)]) ?_;exact hK4 w6 h
 replace h:=qp hb h;refine WO.fn (e2:=[(4,.bool false)]) ?_;exact hK4 false h
def VB (a1:(List rf3Rule)) (a2:(List rf3Rule)):Option Bool :=
 ((Qz a1 a2 (fun y0 y1=>XX y0 y1)).bind fun w5=>(some w5))
theorem qbk (a1:(List rf3Rule)) (a2:(List rf3Rule)) (r:Bool) (h:VB a1 a2=some r):Run Try.prog (.call 41 [l94 none a1,l94 none a2] (.bool r)):=by
 refine cW Try.func41 rfl (env0:=[(0,l94 none a1),(1,l94 none a2)]) ?_;unfold VB at h;refine W.seq ?_;refine W.rt (e2:=[(0,l94 none a1),(1,l94 none a2)]) ?_;refine W.seq ?_;refine W.rg ?_;obtain⟨w5,hw5,h⟩:=qf h;refine WO.ck 2 (F:=87) (l:=[l94 none a1,l94 none a2,.clo 88 []]) (C:=[]) (r:=.bool w5) (Zv a1 a2 (fun y0 y1=>XX y0 y1) 88 [] (by kernel_rfl) (fun y0 y1 r h=>HV y0 y1 r h) w5 hw5) (e1:=[(0,l94 none a1),(1,l94 none a2),(5,l94 none a1),(6,l94 none a2),(7,.bool w5)]) ?_;refine WO.fn (e2:=[(4,.bool w5)]) ?_;refine W.wk (env':=[(4,.bool w5)]) ?_;cases h;exact W.ret (show qm _ _ _=some _ by kernel_rfl)
def qV (v15:Bool):Option Bool :=
 (some v15)
def JG (v28:Bool):Option Bool :=
 (some v28)
def JF (v34:Bool):Option Bool :=
 (some v34)
def jT (fuel:Nat) (a1:(List rf3Rule)) (a2:Int) (w9:((List ruRule)×Int)) (v25:Bool):Option Bool :=
 (bif v25 then (bif ((w9.1.length:Int) == 0) then (bif (w9.2 == 2) then ((Yf fuel).bind fun w27=>((JG) w27)) else ((JG) false)) else ((JG) false)) else ((UT w9.1).bind fun w30=>((Zb a1 a2).bind fun w31=>((VB w30 w31).bind fun w32=>(bif w32 then (bif (w9.2 == 0) then ((Yf fuel).bind fun w33=>((JF) w33)) else ((JF) false)) else ((JF) false))))))
def jn (fuel:Nat) (a1:(List rf3Rule)) (a2:Int) (w9:((List ruRule)×Int)) (v21:Bool):Option Bool :=
 (bif v21 then (some false) else (bif (decide (a2<0)) then ((jT fuel a1 a2 w9) true) else ((jT fuel a1 a2 w9) (decide (a2 > 5)))))
def XS (fuel:Nat) (a1:(List rf3Rule)) (a2:Int):Option Bool :=
 ((NH a1).bind fun w5=>((VQ fuel w5).bind fun w6=>((NH a1).bind fun w8=>((Yv fuel w8 a2).bind fun w9=>((Yw a1 ([]:(List apiFact))).bind fun w12=>(bif (!w12) then (bif ((IntKind.wrap .i64 ((w6.1.length:Int)+(w9.1.length:Int))) == 0) then (bif (w6.2 == 2) then (bif (w9.2 == 2) then ((Yf fuel).bind fun w14=>((qV) w14)) else ((qV) false)) else ((qV) false)) else ((qV) false)) else ((QV a1).bind fun w17=>((Qg w6.1 w17.1).bind fun w20=>(bif (!w20) then ((jn fuel a1 a2 w9) true) else ((jn fuel a1 a2 w9) (w6.2 != w17.2)))))))))))
theorem Ug (fuel:Nat) (a1:(List rf3Rule)) (a2:Int) (r:Bool) (h:XS fuel a1 a2=some r):Run Try.prog (.call 11 [l94 none a1,I6 a2] (.bool r)):=by
 refine cW Try.func11 rfl (env0:=[(0,l94 none a1),(1,I6 a2)]) ?_;unfold XS at h;refine W.seq ?_
 let z0:=fun t=>EN ((0,l94 none a1)::(1,I6 a2)::t)
 refine W.rt (e2:=z0 []) ?_;refine W.seq ?_;refine W.rg ?_;obtain⟨w5,hw5,h⟩:=qf h
 let z1:=fun t=>z0 ((12,l94 none a1)::(13,l54 (some 13) w5)::t)
 refine WO.ck 1 (F:=18) (l:=[l94 none a1]) (C:=[]) (r:=l54 (some 1) w5) (HX a1 w5 hw5) (e1:=z1 []) ?_;obtain⟨w6,hw6,h⟩:=qf h;refine WO.ck 0 (F:=38) (l:=[l54 none w5]) (C:=[]) (r:=.tup [l3 none w6.1,I6 w6.2]) (DL fuel w5 w6 hw6) (e1:=z1 [(14,.tup [l3 none w6.1,I6 w6.2])]) ?_
 let z2:=fun t=>z0 ((5,l3 none w6.1)::(6,I6 w6.2)::t)
 refine WO.fn (e2:=z2 []) ?_;refine W.seq ?_;refine W.rg ?_;obtain⟨w8,hw8,h⟩:=qf h
 let z3:=fun t=>z2 ((18,l94 none a1)::(19,l54 (some 19) w8)::t)
 refine WO.ck 1 (F:=18) (l:=[l94 none a1]) (C:=[]) (r:=l54 (some 1) w8) (HX a1 w8 hw8) (e1:=z3 []) ?_;obtain⟨w9,hw9,h⟩:=qf h;refine WO.ck 1 (F:=39) (l:=[l54 none w8,I6 a2]) (C:=[]) (r:=.tup [l54 none w9.1,I6 w9.2]) (DM fuel w8 a2 w9 hw9) (e1:=z3 [(20,I6 a2),(21,.tup [l54 none w9.1,I6 w9.2])]) ?_
 let z4:=fun t=>z2 ((7,l54 none w9.1)::(8,I6 w9.2)::t)
 refine WO.fn (e2:=z4 []) ?_;refine W.seq ?_;refine W.seq ?_;refine W.rg ?_;obtain⟨w12,hw12,h⟩:=qf h;refine WO.ck 1 (F:=20) (l:=[l94 none a1,.nils]) (C:=[]) (r:=.bool w12) (HU (by kernel_rfl) 1 (by kernel_rfl) (DN a1 ([]:(List apiFact)) w12 hw12)) (e1:=z4 [(24,l94 none a1),(25,.bool w12)]) ?_
 let z5:=fun t=>z4 ((26,.bool (!w12))::t)
 refine WO.fn (e2:=z5 []) ?_;refine W.cb (!w12) (fun hb=>?_) (fun hb=>?_)
 ·replace h:=qo hb h;refine W.seq ?_;refine W.join (σ:=(Bool)) (fun s=>[(4,.bool s)]) (fun s=>(qV) s=some r) (fun v15 h=>?_) (fun hK13=>?_)
  ·have h:(qV) v15=some r:=h;unfold qV at h;refine W.wk (env':=[(4,.bool v15)]) ?_;cases h;exact W.ret (show qm _ _ _=some _ by kernel_rfl)
  refine W.rg ?_
  let z6:=fun t=>z5 ((27,l3 none w6.1)::(28,I6 (w6.1.length:Int))::t)
  refine WO.pk 1 (some (I6 ((M6 w6.1).length:Int))) (v:=I6 (w6.1.length:Int)) (by rw[List.length_map]) (e1:=z6 []) ?_
  let z7:=fun t=>z6 ((29,l54 none w9.1)::(30,I6 (w9.1.length:Int))::t)
  refine WO.pk 1 (some (I6 ((List.map jd w9.1).length:Int))) (v:=I6 (w9.1.length:Int)) (by rw[List.length_map]) (e1:=z7 []) ?_
  let z8:=fun t=>z7 ((31,I6 (W6 ((w6.1.length:Int)+(w9.1.length:Int))))::t)
  refine WO.bk 3 (fun b=>z8 [(32,.bool b),(33,.bool b)]) ((W6 ((w6.1.length:Int)+(w9.1.length:Int))) == 0) (fun hb=>?_) (fun hb=>?_)
  ·replace h:=qo hb h
   let z9:=fun t=>z8 ((32,.bool true)::(33,.bool true)::(34,I6 w6.2)::t)
   refine WO.bk 4 (fun b=>z9 [(35,.bool b),(36,.bool b),(37,.bool b)]) (w6.2 == 2) (fun hb=>?_) (fun hb=>?_)
   ·replace h:=qo hb h
    let z10:=fun t=>z9 ((35,.bool true)::(36,.bool true)::(37,.bool true)::(38,I6 w9.2)::t)
    refine WO.bk 4 (fun b=>z10 [(39,.bool b),(40,.bool b),(41,.bool b)]) (w9.2 == 2) (fun hb=>?_) (fun hb=>?_)
    ·replace h:=qo hb h;obtain⟨w14,hw14,h⟩:=qf h;refine WO.ck 0 (F:=21) (l:=[]) (C:=[]) (r:=.bool w14) (Zx fuel w14 hw14) (e1:=z10 [(39,.bool true),(40,.bool true),(41,.bool true),(42,.bool w14)]) ?_;refine WO.fn (e2:=[(4,.bool w14)]) ?_;exact hK13 w14 h
    replace h:=qp hb h;refine WO.fn (e2:=[(4,.bool false)]) ?_;exact hK13 false h
   replace h:=qp hb h;refine WO.fn (e2:=[(4,.bool false)]) ?_;exact hK13 false h
  replace h:=qp hb h;refine WO.fn (e2:=[(4,.bool false)]) ?_;exact hK13 false h
 replace h:=qp hb h;refine W.skip ?_;refine W.wk (env':=z4 []) ?_;refine W.seq ?_;refine W.rg ?_;obtain⟨w17,hw17,h⟩:=qf h;refine WO.ck 1 (F:=40) (l:=[l94 none a1]) (C:=[]) (r:=.tup [l3 none w17.1,I6 w17.2]) (HO a1 w17 hw17) (e1:=z4 [(45,l94 none a1),(46,.tup [l3 none w17.1,I6 w17.2])]) ?_
 let z11:=fun t=>z4 ((9,l3 none w17.1)::(10,I6 w17.2)::t)
 refine WO.fn (e2:=z11 []) ?_;refine W.seq ?_;refine W.seq ?_
 let z12:=fun t=>z0 ((7,l54 none w9.1)::(8,I6 w9.2)::t)
 refine W.join (σ:=(Bool)) (fun s=>z12 [(57,.bool s)]) (fun s=>(jn fuel a1 a2 w9) s=some r) (fun v21 h=>?_) (fun hK19=>?_)
 ·have h:(jn fuel a1 a2 w9) v21=some r:=h;unfold jn at h;refine W.cb v21 (fun hb=>?_) (fun hb=>?_)
  ·replace h:=qo hb h;refine W.seq ?_;refine W.rt (e2:=[(4,.bool false)]) ?_;refine W.wk (env':=[(4,.bool false)]) ?_;cases h;exact W.ret (show qm _ _ _=some _ by kernel_rfl)
  replace h:=qp hb h;refine W.skip ?_;refine W.wk (env':=z12 []) ?_;refine W.seq ?_;refine W.seq ?_;refine W.join (σ:=(Bool)) (fun s=>z12 [(63,.bool s)]) (fun s=>(jT fuel a1 a2 w9) s=some r) (fun v25 h=>?_) (fun hK24=>?_)
  ·have h:(jT fuel a1 a2 w9) v25=some r:=h;unfold jT at h;refine W.cb v25 (fun hb=>?_) (fun hb=>?_)
   ·replace h:=qo hb h;refine W.seq ?_;refine W.join (σ:=(Bool)) (fun s=>[(4,.bool s)]) (fun s=>(JG) s=some r) (fun v28 h=>?_) (fun hK26=>?_)
    ·have h:(JG) v28=some r:=h;unfold JG at h;refine W.wk (env':=[(4,.bool v28)]) ?_;cases h;exact W.ret (show qm _ _ _=some _ by kernel_rfl)
    refine W.rg ?_
    let z13:=fun t=>z12 ((63,.bool v25)::(64,l54 none w9.1)::(65,I6 (w9.1.length:Int))::t)
    refine WO.pk 1 (some (I6 ((List.map jd w9.1).length:Int))) (v:=I6 (w9.1.length:Int)) (by rw[List.length_map]) (e1:=z13 []) ?_;refine WO.bk 2 (fun b=>z13 [(66,.bool b),(67,.bool b)]) ((w9.1.length:Int) == 0) (fun hb=>?_) (fun hb=>?_)
    ·replace h:=qo hb h
     let z14:=fun t=>z13 ((66,.bool true)::(67,.bool true)::(68,I6 w9.2)::t)
     refine WO.bk 4 (fun b=>z14 [(69,.bool b),(70,.bool b),(71,.bool b)]) (w9.2 == 2) (fun hb=>?_) (fun hb=>?_)
     ·replace h:=qo hb h;obtain⟨w27,hw27,h⟩:=qf h;refine WO.ck 0 (F:=21) (l:=[]) (C:=[]) (r:=.bool w27) (Zx fuel w27 hw27) (e1:=z14 [(69,.bool true),(70,.bool true),(71,.bool true),(72,.bool w27)]) ?_;refine WO.fn (e2:=[(4,.bool w27)]) ?_;exact hK26 w27 h
     replace h:=qp hb h;refine WO.fn (e2:=[(4,.bool false)]) ?_;exact hK26 false h
    replace h:=qp hb h;refine WO.fn (e2:=[(4,.bool false)]) ?_;exact hK26 false h
   replace h:=qp hb h;refine W.skip ?_;refine W.wk (env':=z12 []) ?_;refine W.seq ?_;refine W.join (σ:=(Bool)) (fun s=>[(4,.bool s)]) (fun s=>(JF) s=some r) (fun v34 h=>?_) (fun hK29=>?_)
   ·have h:(JF) v34=some r:=h;unfold JF at h;refine W.wk (env':=[(4,.bool v34)]) ?_;cases h;exact W.ret (show qm _ _ _=some _ by kernel_rfl)
   refine W.rg ?_;obtain⟨w30,hw30,h⟩:=qf h
   let z15:=fun t=>z12 ((74,l54 none w9.1)::(75,l94 (some 75) w30)::t)
   refine WO.ck 1 (F:=42) (l:=[l54 none w9.1]) (C:=[]) (r:=l94 (some 1) w30) (qbX w9.1 w30 hw30) (e1:=z15 []) ?_;obtain⟨w31,hw31,h⟩:=qf h
   let z16:=fun t=>z15 ((76,l94 none a1)::(77,I6 a2)::(78,l94 (some 78) w31)::t)
   refine WO.ck 2 (F:=43) (l:=[l94 none a1,I6 a2]) (C:=[]) (r:=l94 (some 1) w31) (HP a1 a2 w31 hw31) (e1:=z16 []) ?_;obtain⟨w32,hw32,h⟩:=qf h;refine WO.ck 0 (F:=41) (l:=[l94 none w30,l94 none w31]) (C:=[]) (r:=.bool w32) (qbk w30 w31 w32 hw32) (e1:=z16 [(79,.bool w32)]) ?_;refine WO.bk 1 (fun b=>z16 [(79,.bool b),(80,.bool b)]) w32 (fun hb=>?_) (fun hb=>?_)
   ·replace h:=qo hb h
    let z17:=fun t=>z16 ((79,.bool true)::(80,.bool true)::(81,I6 w9.2)::t)
    refine WO.bk 4 (fun b=>z17 [(82,.bool b),(83,.bool b),(84,.bool b)]) (w9.2 == 0) (fun hb=>?_) (fun hb=>?_)
    ·replace h:=qo hb h;obtain⟨w33,hw33,h⟩:=qf h;refine WO.ck 0 (F:=21) (l:=[]) (C:=[]) (r:=.bool w33) (Zx fuel w33 hw33) (e1:=z17 [(82,.bool true),(83,.bool true),(84,.bool true),(85,.bool w33)]) ?_;refine WO.fn (e2:=[(4,.bool w33)]) ?_;exact hK29 w33 h
    replace h:=qp hb h;refine WO.fn (e2:=[(4,.bool false)]) ?_;exact hK29 false h
   replace h:=qp hb h;refine WO.fn (e2:=[(4,.bool false)]) ?_;exact hK29 false h
  refine W.rg ?_;refine WO.bk 3 (fun b=>z12 [(58,I6 a2),(59,.bool b),(60,.bool b)]) (decide (a2<0)) (fun hb=>?_) (fun hb=>?_)
  ·replace h:=qo hb h;refine WO.fn (e2:=z12 [(63,.bool true)]) ?_;exact hK24 true h
  replace h:=qp hb h;refine WO.fn (e2:=z12 [(63,.bool (decide (a2 > 5)))]) ?_;exact hK24 (decide (a2 > 5)) h
 refine W.rg ?_;obtain⟨w20,hw20,h⟩:=qf h
 let z18:=fun t=>z11 ((49,l3 none w6.1)::(50,l3 none w17.1)::(51,.bool w20)::t)
 refine WO.ck 2 (F:=34) (l:=[l3 none w6.1,l3 none w17.1]) (C:=[]) (r:=.bool w20) (Yt w6.1 w17.1 w20 hw20) (e1:=z18 []) ?_;refine WO.bk 2 (fun b=>z18 [(52,.bool b),(53,.bool b)]) (!w20) (fun hb=>?_) (fun hb=>?_)
 ·replace h:=qo hb h;refine WO.fn (e2:=z12 [(57,.bool true)]) ?_;exact hK19 true h
 replace h:=qp hb h;refine WO.fn (e2:=z12 [(57,.bool (w6.2 != w17.2))]) ?_;exact hK19 (w6.2 != w17.2) h
end Go.AM
