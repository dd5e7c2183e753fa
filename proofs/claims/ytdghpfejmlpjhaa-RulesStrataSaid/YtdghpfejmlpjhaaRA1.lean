/- s -/
import Derived.Test.YtdghpfejmlpjhaaRAT
set_option maxRecDepth 100000
set_option linter.unusedVariables false
set_option linter.unusedSimpArgs false
namespace Go.AM
open Go.Proofs
def JX (v11:Bool):Option Bool :=
 (some v11)
def Jx (a1:apiFact):Option Bool :=
 (bif (decide (a1.qb ≥ 0)) then (bif (decide (a1.qb≤5)) then (bif (decide ((a1.qa.length:Int) ≥ 1)) then ((JX) (decide ((a1.qa.length:Int)≤2))) else ((JX) false)) else ((JX) false)) else ((JX) false))
def Xk (N1:(Option Bool)) (v8:Bool):Option Bool :=
 (bif v8 then (some false) else N1)
def jR (K3:(Option Bool)):List Int→Nat→Option Bool
 | [],k1=>K3
 | x1::r1,k1=>(bif (decide (x1<1)) then ((Xk (jR K3 r1 (k1+1))) true) else ((Xk (jR K3 r1 (k1+1))) (decide (x1 > 6))))
def Zc (a1:apiFact):Option Bool :=
 (chk (lenOk a1.qa) (jR (Jx a1) a1.qa 0))
theorem HQ (a1:apiFact) (r:Bool) (h:Zc a1=some r):Run Try.prog (.call 33 [.agg [I6 a1.qb,l3 none a1.qa]] (.bool r)):=by
 refine cW Try.func33 rfl (env0:=[(0,.agg [I6 a1.qb,l3 none a1.qa])]) ?_;unfold Zc at h;refine W.seq ?_
 let z0:=fun t=>EN ((1,.ptr (.agg [I6 a1.qb,l3 none a1.qa]))::t)
 refine W.regT [1] [1] [] [] (e2:=z0 []) (by kernel_rfl) (by kernel_rfl) (fun _ h=>h) ?_;refine W.seq ?_;refine W.join (σ:=Unit) (fun s=>z0 []) (fun s=>(Jx a1)=some r) (fun s h=>?_) (fun hK3=>?_)
 ·have h:(Jx a1)=some r:=h;unfold Jx at h;refine W.seq ?_;refine W.join (σ:=(Bool)) (fun s=>[(2,.bool s)]) (fun s=>(JX) s=some r) (fun v11 h=>?_) (fun hK10=>?_)
  ·have h:(JX) v11=some r:=h;unfold JX at h;refine W.wk (env':=[(2,.bool v11)]) ?_;cases h;exact W.ret (show qm _ _ _=some _ by kernel_rfl)
  refine W.rg ?_
  let z1:=fun t=>z0 ((19,.ptr (I6 a1.qb))::(20,I6 a1.qb)::t)
  refine WO.bk 4 (fun b=>z1 [(21,.bool b),(22,.bool b)]) (decide (a1.qb ≥ 0)) (fun hb=>?_) (fun hb=>?_)
  ·replace h:=qo hb h
   let z2:=fun t=>z1 ((21,.bool true)::(22,.bool true)::(23,.ptr (I6 a1.qb))::(24,I6 a1.qb)::t)
   refine WO.bk 5 (fun b=>z2 [(25,.bool b),(26,.bool b),(27,.bool b)]) (decide (a1.qb≤5)) (fun hb=>?_) (fun hb=>?_)
   ·replace h:=qo hb h
    let z3:=fun t=>z2 ((25,.bool true)::(26,.bool true)::(27,.bool true)::(28,.ptr (l3 none a1.qa))::(29,l3 none a1.qa)::(30,I6 (a1.qa.length:Int))::t)
    refine WO.pk 2 (some (I6 ((M6 a1.qa).length:Int))) (v:=I6 (a1.qa.length:Int)) (by rw[List.length_map]) (e1:=z3 []) ?_;refine WO.bk 3 (fun b=>z3 [(31,.bool b),(32,.bool b),(33,.bool b)]) (decide ((a1.qa.length:Int) ≥ 1)) (fun hb=>?_) (fun hb=>?_)
    ·replace h:=qo hb h;refine WO.pk 2 (some (I6 ((M6 a1.qa).length:Int))) (v:=I6 (a1.qa.length:Int)) (by rw[List.length_map]) (e1:=z3 [(31,.bool true),(32,.bool true),(33,.bool true),(34,.ptr (l3 none a1.qa)),(35,l3 none a1.qa),(36,I6 (a1.qa.length:Int))]) ?_;refine WO.fn (e2:=[(2,.bool (decide ((a1.qa.length:Int)≤2)))]) ?_;exact hK10 (decide ((a1.qa.length:Int)≤2)) h
    replace h:=qp hb h;refine WO.fn (e2:=[(2,.bool false)]) ?_;exact hK10 false h
   replace h:=qp hb h;refine WO.fn (e2:=[(2,.bool false)]) ?_;exact hK10 false h
  replace h:=qp hb h;refine WO.fn (e2:=[(2,.bool false)]) ?_;exact hK10 false h
 refine W.seq ?_;refine W.rg ?_;refine WO.pk 2 (some (I6 ((M6 a1.qa).length:Int))) (v:=I6 (a1.qa.length:Int)) (by rw[List.length_map]) (e1:=z0 [(5,.ptr (l3 none a1.qa)),(6,l3 none a1.qa),(7,I6 (a1.qa.length:Int))]) ?_
 let z4:=fun t=>z0 ((6,l3 none a1.qa)::(7,I6 (a1.qa.length:Int))::t)
 refine WO.fn (e2:=z4 [(8,.int .i64 0)]) ?_;refine W.block ?_;obtain⟨hl1,h⟩:=qg h;refine W.wk (env':=z4 [(8,I6 ((0:Nat):Int))]) ?_;refine W.range (σ:=Unit) a1.qa (fun k1 s=>z4 [(8,I6 (k1:Int))]) (fun r0 k0 s=>jR (Jx a1) r0 k0=some r) (fun s h=>?_) (fun x1 r1 k1 s hx1 hk1 h hN1=>?_) () h
 ·have h:jR (Jx a1) [] (a1.qa).length=some r:=h;rw[jR.eq_1]at h;refine W.seq ?_;refine W.rg ?_
  let z5:=fun t=>z4 ((8,I6 ((a1.qa).length:Int))::(9,.bool false)::t)
  refine WO.pk 0 (some (.bool (decide (((a1.qa).length:Int)<(a1.qa.length:Int))))) (v:=.bool false) (by rw[qD (l:=a1.qa)]) (e1:=z5 []) ?_;refine WO.fn (e2:=z5 []) ?_;refine W.seq ?_;refine W.cb false (fun h=>Bool.noConfusion h) (fun _=>?_);refine W.exit ?_;refine W.wk (env':=z0 []) ?_;exact hK3 () h
 ·have h:jR (Jx a1) (x1::r1) k1=some r:=h;rw[jR.eq_2]at h;refine W.seq ?_;refine W.rg ?_
  let z6:=fun t=>z4 ((8,I6 (k1:Int))::t)
  refine WO.pk 0 (some (.bool (decide ((k1:Int)<(a1.qa.length:Int))))) (v:=.bool true) (by rw[qX hk1]) (e1:=z6 [(9,.bool true)]) ?_;refine WO.fn (e2:=z6 [(9,.bool true)]) ?_;refine W.seq ?_;refine W.cb true (fun _=>?_) (fun h=>Bool.noConfusion h);refine W.skip ?_;refine W.wk (env':=z6 []) ?_;refine W.seq ?_;refine W.block ?_;refine W.seq ?_;refine W.rg ?_;refine WO.pk 0 (if (0:Int)≤(k1:Int) then ((M6 a1.qa)[Int.toNat (k1:Int)]?).map AV.ptr else none) (v:=.ptr (I6 x1)) (qY (f:=(AV.int .i64)) hx1) (e1:=z6 [(10,.ptr (I6 x1))]) ?_
  let z7:=fun t=>z0 ((4,I6 x1)::(6,l3 none a1.qa)::(7,I6 (a1.qa.length:Int))::(8,I6 (k1:Int))::t)
  refine WO.fn (e2:=z7 []) ?_;refine W.seq ?_;refine W.join (σ:=(Bool)) (fun s=>z6 [(17,.bool s)]) (fun s=>(Xk (jR (Jx a1) r1 (k1+1))) s=some r) (fun v8 h=>?_) (fun hK7=>?_)
  ·have h:(Xk (jR (Jx a1) r1 (k1+1))) v8=some r:=h;unfold Xk at h;refine W.cb v8 (fun hb=>?_) (fun hb=>?_)
   ·replace h:=qo hb h;refine W.seq ?_;refine W.rt (e2:=[(2,.bool false)]) ?_;refine W.wk (env':=[(2,.bool false)]) ?_;cases h;exact W.ret (show qm _ _ _=some _ by kernel_rfl)
   replace h:=qp hb h;refine W.skip ?_;refine W.wk (env':=z6 []) ?_;refine W.rg ?_;refine WO.pk 0 (some (I6 (IntKind.wrap .i64 ((k1:Int)+1)))) (v:=I6 ((k1+1:Nat):Int)) (by rw[qu hl1 hk1]) (e1:=z6 [(18,I6 ((k1+1:Nat):Int))]) ?_;refine WO.fn (e2:=z4 [(8,I6 ((k1+1:Nat):Int))]) ?_;exact hN1 () h
  refine W.rg ?_;refine WO.bk 3 (fun b=>z7 [(12,I6 x1),(13,.bool b),(14,.bool b)]) (decide (x1<1)) (fun hb=>?_) (fun hb=>?_)
  ·replace h:=qo hb h;refine WO.fn (e2:=z6 [(17,.bool true)]) ?_;exact hK7 true h
  replace h:=qp hb h;refine WO.fn (e2:=z6 [(17,.bool (decide (x1 > 6)))]) ?_;exact hK7 (decide (x1 > 6)) h
def QC (v11:Bool):Option Bool :=
 (some v11)
def Ql (a1:rf2Atom):Option Bool :=
 (bif (decide (a1.qb ≥ 0)) then (bif (decide (a1.qb≤5)) then (bif (decide ((a1.qa.length:Int) ≥ 1)) then ((QC) (decide ((a1.qa.length:Int)≤2))) else ((QC) false)) else ((QC) false)) else ((QC) false))
def Yd (N1:(Option Bool)) (v8:Bool):Option Bool :=
 (bif v8 then (some false) else N1)
def Jr (K3:(Option Bool)):List Int→Nat→Option Bool
 | [],k1=>K3
 | x1::r1,k1=>(bif (decide (x1<(-6))) then ((Yd (Jr K3 r1 (k1+1))) true) else ((Yd (Jr K3 r1 (k1+1))) (decide (x1 > 7))))
def ZL (a1:rf2Atom):Option Bool :=
 (chk (lenOk a1.qa) (Jr (Ql a1) a1.qa 0))
theorem UL (a1:rf2Atom) (r:Bool) (h:ZL a1=some r):Run Try.prog (.call 61 [.agg [I6 a1.qb,l3 none a1.qa]] (.bool r)):=by
 refine cW Try.func61 rfl (env0:=[(0,.agg [I6 a1.qb,l3 none a1.qa])]) ?_;unfold ZL at h;refine W.seq ?_
 let z0:=fun t=>EN ((1,.ptr (.agg [I6 a1.qb,l3 none a1.qa]))::t)
 refine W.regT [1] [1] [] [] (e2:=z0 []) (by kernel_rfl) (by kernel_rfl) (fun _ h=>h) ?_;refine W.seq ?_;refine W.join (σ:=Unit) (fun s=>z0 []) (fun s=>(Ql a1)=some r) (fun s h=>?_) (fun hK3=>?_)
 ·have h:(Ql a1)=some r:=h;unfold Ql at h;refine W.seq ?_;refine W.join (σ:=(Bool)) (fun s=>[(2,.bool s)]) (fun s=>(QC) s=some r) (fun v11 h=>?_) (fun hK10=>?_)
  ·have h:(QC) v11=some r:=h;unfold QC at h;refine W.wk (env':=[(2,.bool v11)]) ?_;cases h;exact W.ret (show qm _ _ _=some _ by kernel_rfl)
  refine W.rg ?_
  let z1:=fun t=>z0 ((19,.ptr (I6 a1.qb))::(20,I6 a1.qb)::t)
  refine WO.bk 4 (fun b=>z1 [(21,.bool b),(22,.bool b)]) (decide (a1.qb ≥ 0)) (fun hb=>?_) (fun hb=>?_)
  ·replace h:=qo hb h
   let z2:=fun t=>z1 ((21,.bool true)::(22,.bool true)::(23,.ptr (I6 a1.qb))::(24,I6 a1.qb)::t)
   refine WO.bk 5 (fun b=>z2 [(25,.bool b),(26,.bool b),(27,.bool b)]) (decide (a1.qb≤5)) (fun hb=>?_) (fun hb=>?_)
   ·replace h:=qo hb h
    let z3:=fun t=>z2 ((25,.bool true)::(26,.bool true)::(27,.bool true)::(28,.ptr (l3 none a1.qa))::(29,l3 none a1.qa)::(30,I6 (a1.qa.length:Int))::t)
    refine WO.pk 2 (some (I6 ((M6 a1.qa).length:Int))) (v:=I6 (a1.qa.length:Int)) (by rw[List.length_map]) (e1:=z3 []) ?_;refine WO.bk 3 (fun b=>z3 [(31,.bool b),(32,.bool b),(33,.bool b)]) (decide ((a1.qa.length:Int) ≥ 1)) (fun hb=>?_) (fun hb=>?_)
    ·replace h:=qo hb h;refine WO.pk 2 (some (I6 ((M6 a1.qa).length:Int))) (v:=I6 (a1.qa.length:Int)) (by rw[List.length_map]) (e1:=z3 [(31,.bool true),(32,.bool true),(33,.bool true),(34,.ptr (l3 none a1.qa)),(35,l3 none a1.qa),(36,I6 (a1.qa.length:Int))]) ?_;refine WO.fn (e2:=[(2,.bool (decide ((a1.qa.length:Int)≤2)))]) ?_;exact hK10 (decide ((a1.qa.length:Int)≤2)) h
    replace h:=qp hb h;refine WO.fn (e2:=[(2,.bool false)]) ?_;exact hK10 false h
   replace h:=qp hb h;refine WO.fn (e2:=[(2,.bool false)]) ?_;exact hK10 false h
  replace h:=qp hb h;refine WO.fn (e2:=[(2,.bool false)]) ?_;exact hK10 false h
 refine W.seq ?_;refine W.rg ?_;refine WO.pk 2 (some (I6 ((M6 a1.qa).length:Int))) (v:=I6 (a1.qa.length:Int)) (by rw[List.length_map]) (e1:=z0 [(5,.ptr (l3 none a1.qa)),(6,l3 none a1.qa),(7,I6 (a1.qa.length:Int))]) ?_
 let z4:=fun t=>z0 ((6,l3 none a1.qa)::(7,I6 (a1.qa.length:Int))::t)
 refine WO.fn (e2:=z4 [(8,.int .i64 0)]) ?_;refine W.block ?_;obtain⟨hl1,h⟩:=qg h;refine W.wk (env':=z4 [(8,I6 ((0:Nat):Int))]) ?_;refine W.range (σ:=Unit) a1.qa (fun k1 s=>z4 [(8,I6 (k1:Int))]) (fun r0 k0 s=>Jr (Ql a1) r0 k0=some r) (fun s h=>?_) (fun x1 r1 k1 s hx1 hk1 h hN1=>?_) () h
 ·have h:Jr (Ql a1) [] (a1.qa).length=some r:=h;rw[Jr.eq_1]at h;refine W.seq ?_;refine W.rg ?_
  let z5:=fun t=>z4 ((8,I6 ((a1.qa).length:Int))::(9,.bool false)::t)
  refine WO.pk 0 (some (.bool (decide (((a1.qa).length:Int)<(a1.qa.length:Int))))) (v:=.bool false) (by rw[qD (l:=a1.qa)]) (e1:=z5 []) ?_;refine WO.fn (e2:=z5 []) ?_;refine W.seq ?_;refine W.cb false (fun h=>Bool.noConfusion h) (fun _=>?_);refine W.exit ?_;refine W.wk (env':=z0 []) ?_;exact hK3 () h
 ·have h:Jr (Ql a1) (x1::r1) k1=some r:=h;rw[Jr.eq_2]at h;refine W.seq ?_;refine W.rg ?_
  let z6:=fun t=>z4 ((8,I6 (k1:Int))::t)
  refine WO.pk 0 (some (.bool (decide ((k1:Int)<(a1.qa.length:Int))))) (v:=.bool true) (by rw[qX hk1]) (e1:=z6 [(9,.bool true)]) ?_;refine WO.fn (e2:=z6 [(9,.bool true)]) ?_;refine W.seq ?_;refine W.cb true (fun _=>?_) (fun h=>Bool.noConfusion h);refine W.skip ?_;refine W.wk (env':=z6 []) ?_;refine W.seq ?_;refine W.block ?_;refine W.seq ?_;refine W.rg ?_;refine WO.pk 0 (if (0:Int)≤(k1:Int) then ((M6 a1.qa)[Int.toNat (k1:Int)]?).map AV.ptr else none) (v:=.ptr (I6 x1)) (qY (f:=(AV.int .i64)) hx1) (e1:=z6 [(10,.ptr (I6 x1))]) ?_
  let z7:=fun t=>z0 ((4,I6 x1)::(6,l3 none a1.qa)::(7,I6 (a1.qa.length:Int))::(8,I6 (k1:Int))::t)
  refine WO.fn (e2:=z7 []) ?_;refine W.seq ?_;refine W.join (σ:=(Bool)) (fun s=>z6 [(17,.bool s)]) (fun s=>(Yd (Jr (Ql a1) r1 (k1+1))) s=some r) (fun v8 h=>?_) (fun hK7=>?_)
  ·have h:(Yd (Jr (Ql a1) r1 (k1+1))) v8=some r:=h;unfold Yd at h;refine W.cb v8 (fun hb=>?_) (fun hb=>?_)
   ·replace h:=qo hb h;refine W.seq ?_;refine W.rt (e2:=[(2,.bool false)]) ?_;refine W.wk (env':=[(2,.bool false)]) ?_;cases h;exact W.ret (show qm _ _ _=some _ by kernel_rfl)
   replace h:=qp hb h;refine W.skip ?_;refine W.wk (env':=z6 []) ?_;refine W.rg ?_;refine WO.pk 0 (some (I6 (IntKind.wrap .i64 ((k1:Int)+1)))) (v:=I6 ((k1+1:Nat):Int)) (by rw[qu hl1 hk1]) (e1:=z6 [(18,I6 ((k1+1:Nat):Int))]) ?_;refine WO.fn (e2:=z4 [(8,I6 ((k1+1:Nat):Int))]) ?_;exact hN1 () h
  refine W.rg ?_;refine WO.bk 3 (fun b=>z7 [(12,I6 x1),(13,.bool b),(14,.bool b)]) (decide (x1<(-6))) (fun hb=>?_) (fun hb=>?_)
  ·replace h:=qo hb h;refine WO.fn (e2:=z6 [(17,.bool true)]) ?_;exact hK7 true h
  replace h:=qp hb h;refine WO.fn (e2:=z6 [(17,.bool (decide (x1 > 7)))]) ?_;exact hK7 (decide (x1 > 7)) h
def Qm (v12:Int):Option Int :=
 (some v12)
def Ye (N1:(Int→Option Int)) (v11:Int):Option Int :=
 (N1 v11)
def Js (K4:(Int→Option Int)):List Int→Nat→Int→Option Int
 | [],k1,v6=>(K4 v6)
 | x1::r1,k1,v6=>(bif (decide (x1 ≥ 0)) then (chk (decide (0≤x1)) ((Ye (Js K4 r1 (k1+1))) (iOr .i64 v6 (iShl .i64 1 x1)))) else ((Ye (Js K4 r1 (k1+1))) v6))
def Zd (a1:rf2Atom):Option Int :=
 (chk (lenOk a1.qa) (Js (Qm) a1.qa 0 0))
theorem ZX (a1:rf2Atom) (r:Int) (h:Zd a1=some r):Run Try.prog (.call 62 [.agg [I6 a1.qb,l3 none a1.qa]] (I6 r)):=by
 refine cW Try.func62 rfl (env0:=[(0,.agg [I6 a1.qb,l3 none a1.qa])]) ?_;unfold Zd at h;refine W.seq ?_
 let z0:=fun t=>EN ((1,.ptr (.agg [I6 a1.qb,l3 none a1.qa]))::t)
 refine W.regT [1] [1] [] [] (e2:=z0 []) (by kernel_rfl) (by kernel_rfl) (fun _ h=>h) ?_;refine W.seq ?_;refine W.rt (e2:=z0 [(3,.int .i64 0)]) ?_;refine W.seq ?_;refine W.join (σ:=(Int)) (fun s=>[(3,I6 s)]) (fun s=>(Qm) s=some r) (fun v12 h=>?_) (fun hK4=>?_)
 ·have h:(Qm) v12=some r:=h;unfold Qm at h;refine W.seq ?_;refine W.rt (e2:=[(2,I6 v12)]) ?_;refine W.wk (env':=[(2,I6 v12)]) ?_;cases h;exact W.ret (show qm _ _ _=some _ by kernel_rfl)
 refine W.seq ?_;refine W.rg ?_;refine WO.pk 2 (some (I6 ((M6 a1.qa).length:Int))) (v:=I6 (a1.qa.length:Int)) (by rw[List.length_map]) (e1:=z0 [(3,.int .i64 0),(6,.ptr (l3 none a1.qa)),(7,l3 none a1.qa),(8,I6 (a1.qa.length:Int))]) ?_
 let z1:=fun t=>EN ((3,.int .i64 0)::(7,l3 none a1.qa)::(8,I6 (a1.qa.length:Int))::t)
 refine WO.fn (e2:=z1 [(9,.int .i64 0)]) ?_;refine W.block ?_;obtain⟨hl1,h⟩:=qg h;refine W.wk (env':=z1 [(9,I6 ((0:Nat):Int))]) ?_;refine W.range (σ:=(Int)) a1.qa (fun k1 s=>[(3,I6 s),(7,l3 none a1.qa),(8,I6 (a1.qa.length:Int)),(9,I6 (k1:Int))]) (fun r0 k0 s=>Js (Qm) r0 k0 s=some r) (fun v6 h=>?_) (fun x1 r1 k1 s hx1 hk1 h hN1=>?_) 0 h
 ·have h:Js (Qm) [] (a1.qa).length v6=some r:=h;rw[Js.eq_1]at h;refine W.seq ?_;refine W.rg ?_
  let z2:=fun t=>EN ((3,I6 v6)::(7,l3 none a1.qa)::(8,I6 (a1.qa.length:Int))::(9,I6 ((a1.qa).length:Int))::(10,.bool false)::t)
  refine WO.pk 0 (some (.bool (decide (((a1.qa).length:Int)<(a1.qa.length:Int))))) (v:=.bool false) (by rw[qD (l:=a1.qa)]) (e1:=z2 []) ?_;refine WO.fn (e2:=z2 []) ?_;refine W.seq ?_;refine W.cb false (fun h=>Bool.noConfusion h) (fun _=>?_);refine W.exit ?_;refine W.wk (env':=[(3,I6 v6)]) ?_;exact hK4 v6 h
 ·obtain⟨v6,rfl⟩:∃ x,x=s:=⟨s,rfl⟩;have h:Js (Qm) (x1::r1) k1 v6=some r:=h;rw[Js.eq_2]at h;refine W.seq ?_;refine W.rg ?_
  let z3:=fun t=>EN ((3,I6 v6)::(7,l3 none a1.qa)::(8,I6 (a1.qa.length:Int))::(9,I6 (k1:Int))::t)
  refine WO.pk 0 (some (.bool (decide ((k1:Int)<(a1.qa.length:Int))))) (v:=.bool true) (by rw[qX hk1]) (e1:=z3 [(10,.bool true)]) ?_;refine WO.fn (e2:=z3 [(10,.bool true)]) ?_;refine W.seq ?_;refine W.cb true (fun _=>?_) (fun h=>Bool.noConfusion h);refine W.skip ?_;refine W.wk (env':=z3 []) ?_;refine W.seq ?_;refine W.join (σ:=(Int)) (fun s=>[(3,I6 s),(7,l3 none a1.qa),(8,I6 (a1.qa.length:Int)),(9,I6 (k1:Int))]) (fun s=>(Ye (Js (Qm) r1 (k1+1))) s=some r) (fun v11 h=>?_) (fun hK7=>?_)
  ·have h:(Ye (Js (Qm) r1 (k1+1))) v11=some r:=h;unfold Ye at h;refine W.rg ?_
   let z4:=fun t=>EN ((3,I6 v11)::(7,l3 none a1.qa)::(8,I6 (a1.qa.length:Int))::t)
   refine WO.pk 0 (some (I6 (IntKind.wrap .i64 ((k1:Int)+1)))) (v:=I6 ((k1+1:Nat):Int)) (by rw[qu hl1 hk1]) (e1:=z4 [(9,I6 (k1:Int)),(19,I6 ((k1+1:Nat):Int))]) ?_;refine WO.fn (e2:=z4 [(9,I6 ((k1+1:Nat):Int))]) ?_;exact hN1 v11 h
  refine W.block ?_;refine W.seq ?_;refine W.rg ?_;refine WO.pk 0 (if (0:Int)≤(k1:Int) then ((M6 a1.qa)[Int.toNat (k1:Int)]?).map AV.ptr else none) (v:=.ptr (I6 x1)) (qY (f:=(AV.int .i64)) hx1) (e1:=z3 [(11,.ptr (I6 x1))]) ?_
  let z5:=fun t=>EN ((3,I6 v6)::(5,I6 x1)::(7,l3 none a1.qa)::(8,I6 (a1.qa.length:Int))::(9,I6 (k1:Int))::t)
  refine WO.fn (e2:=z5 []) ?_;refine W.seq ?_
  let z6:=fun t=>z5 ((14,.bool (decide (x1 ≥ 0)))::t)
  refine W.rt (e2:=z6 []) ?_;refine W.cb (decide (x1 ≥ 0)) (fun hb=>?_) (fun hb=>?_)
  ·replace h:=qo hb h;refine W.rg ?_;obtain⟨hc10,h⟩:=qg h;refine WO.pk 2 (if x1<0 then none else some (I6 (iShl .i64 1 x1))) (v:=I6 (iShl .i64 1 x1)) (if_neg (Xm hc10)) (e1:=z6 [(15,I6 v6),(16,I6 x1),(17,I6 (iShl .i64 1 x1))]) ?_;refine WO.fn (e2:=[(3,I6 (iOr .i64 v6 (iShl .i64 1 x1))),(7,l3 none a1.qa),(8,I6 (a1.qa.length:Int)),(9,I6 (k1:Int))]) ?_;exact hK7 (iOr .i64 v6 (iShl .i64 1 x1)) h
  replace h:=qp hb h;refine W.skip ?_;refine W.wk (env':=z3 []) ?_;exact hK7 v6 h
def jm:Option Bool :=
 (some true)
def Jv (N4:(Option Bool)):Option Bool :=
 N4
def Xh (N5:(Option Bool)) (v67:Bool):Option Bool :=
 (bif v67 then (some false) else N5)
def Jb (x4:ql) (K61:(Option Bool)):List ql→Nat→Option Bool
 | [],k5=>K61
 | x5::r5,k5=>(bif (x4.f_0 == x5.f_0) then ((Xh (Jb x4 K61 r5 (k5+1))) (x4.f_1 != x5.f_1)) else ((Xh (Jb x4 K61 r5 (k5+1))) false))
def ju (v58:(List ql)) (K59:(Option Bool)):List ql→Nat→Option Bool
 | [],k4=>K59
 | x4::r4,k4=>(chk (lenOk v58) (Jb x4 (Jv (ju v58 K59 r4 (k4+1))) v58 0))
def qT (v58:(List ql)):Option Bool :=
 (chk (lenOk v58) (ju v58 (jm) v58 0))
def Jk (N2:((List ql)→Option Bool)) (v53:(List ql)) (v54:Int) (v55:Int):Option Bool :=
 (bif (v54 != v55) then (some false) else (N2 v53))
def Xi (x3:rf3Lit) (v36:(List ql)) (N3:((List ql)→Int→Int→Option Bool)) (v51:Int) (v52:Int):Option Bool :=
 (N3 (v36++[(ql.mk x3.qc.qb (x3.qc.qa.length:Int))]) v51 v52)
def jA (K34:((List ql)→Int→Int→Option Bool)):List rf3Lit→Nat→(List ql)→Int→Int→Option Bool
 | [],k3,v36,v37,v38=>(K34 v36 v37 v38)
 | x3::r3,k3,v36,v37,v38=>((ZL x3.qc).bind fun w43=>(bif (!w43) then (some false) else (chk (capOk 16 ((v36++[(ql.mk x3.qc.qb (x3.qc.qa.length:Int))])).length) ((Zd x3.qc).bind fun w48=>(bif (!x3.qi) then ((Zd x3.qc).bind fun w50=>((Xi x3 v36 (jA K34 r3 (k3+1))) (iOr .i64 v37 w48) (iOr .i64 v38 w50))) else ((Xi x3 v36 (jA K34 r3 (k3+1))) (iOr .i64 v37 w48) v38))))))
def Xj (x2:rf3Rule) (v22:(List ql)) (N2:((List ql)→Option Bool)) (v28:Bool):Option Bool :=
 (bif v28 then (some false) else (chk (capOk 16 ((v22++[(ql.mk x2.qd.qb (x2.qd.qa.length:Int))])).length) ((Zd x2.qd).bind fun w33=>(chk (lenOk x2.qe) (jA (Jk N2) x2.qe 0 (v22++[(ql.mk x2.qd.qb (x2.qd.qa.length:Int))]) w33 0)))))
def qQ (K20:((List ql)→Option Bool)):List rf3Rule→Nat→(List ql)→Option Bool
 | [],k2,v22=>(K20 v22)
 | x2::r2,k2,v22=>((ZL x2.qd).bind fun w27=>(bif (!w27) then ((Xj x2 v22 (qQ K20 r2 (k2+1))) true) else ((Xj x2 v22 (qQ K20 r2 (k2+1))) (decide ((x2.qe.length:Int) > 3)))))
def QD (a1:(List rf3Rule)) (v19:(List ql)):Option Bool :=
 (chk (lenOk a1) (qQ (qT) a1 0 v19))
def JS (K9:((List ql)→Option Bool)):List apiFact→Nat→(List ql)→Option Bool
 | [],k1,v11=>(K9 v11)
 | x1::r1,k1,v11=>((Zc x1).bind fun w16=>(bif (!w16) then (some false) else (chk (capOk 16 ((v11++[(ql.mk x1.qb (x1.qa.length:Int))])).length) ((JS K9 r1 (k1+1)) (v11++[(ql.mk x1.qb (x1.qa.length:Int))])))))
def XA (a1:(List rf3Rule)) (a2:(List apiFact)) (v6:Bool):Option Bool :=
 (bif v6 then (some false) else (chk (lenOk a2) (JS (QD a1) a2 0 ([]:(List ql)))))
def Yw (a1:(List rf3Rule)) (a2:(List apiFact)):Option Bool :=
 (bif (decide ((a1.length:Int) > 10)) then ((XA a1 a2) true) else ((XA a1 a2) (decide ((a2.length:Int) > 20))))
theorem DN (a1:(List rf3Rule)) (a2:(List apiFact)) (r:Bool) (h:Yw a1 a2=some r):Run Try.prog (.call 20 [l94 none a1,l41 none a2] (.bool r)):=by
 refine cW Try.func20 rfl (env0:=[(0,l94 none a1),(1,l41 none a2)]) ?_;unfold Yw at h;refine W.seq ?_
 let z0:=fun t=>EN ((0,l94 none a1)::t)
 let z1:=fun t=>z0 ((1,l41 none a2)::t)
 refine W.rt (e2:=z1 []) ?_;refine W.seq ?_;refine W.seq ?_;refine W.join (σ:=(Bool)) (fun s=>z1 [(25,.bool s)]) (fun s=>(XA a1 a2) s=some r) (fun v6 h=>?_) (fun hK5=>?_)
 ·have h:(XA a1 a2) v6=some r:=h;unfold XA at h;refine W.cb v6 (fun hb=>?_) (fun hb=>?_)
  ·replace h:=qo hb h;refine W.seq ?_;refine W.rt (e2:=[(4,.bool false)]) ?_;refine W.wk (env':=[(4,.bool false)]) ?_;cases h;exact W.ret (show qm _ _ _=some _ by kernel_rfl)
  replace h:=qp hb h;refine W.skip ?_;refine W.wk (env':=z1 []) ?_;refine W.seq ?_;refine W.rt (e2:=z1 [(5,.nils)]) ?_;refine W.seq ?_;refine W.join (σ:=((List ql))) (fun s=>z0 [(5,l112 (some 10500) s)]) (fun s=>(QD a1) s=some r) (fun v19 h=>?_) (fun hK9=>?_)
  ·have h:(QD a1) v19=some r:=h;unfold QD at h;refine W.seq ?_;refine W.join (σ:=((List ql))) (fun s=>[(5,l112 (some 10500) s)]) (fun s=>(qT) s=some r) (fun v58 h=>?_) (fun hK20=>?_)
   ·have h:(qT) v58=some r:=h;unfold qT at h;refine W.seq ?_;refine W.join (σ:=Unit) (fun s=>[]) (fun s=>(jm)=some r) (fun s h=>?_) (fun hK59=>?_)
    ·have h:(jm)=some r:=h;unfold jm at h;refine W.seq ?_;refine W.rt (e2:=[(4,.bool true)]) ?_;refine W.wk (env':=[(4,.bool true)]) ?_;cases h;exact W.ret (show qm _ _ _=some _ by kernel_rfl)
    refine W.seq ?_;refine W.rg ?_
    let z2:=fun t=>EN ((5,l112 (some 10500) v58)::(115,l112 (some 10500) v58)::(116,I6 (v58.length:Int))::t)
    refine WO.pk 1 (some (I6 ((List.map Jd v58).length:Int))) (v:=I6 (v58.length:Int)) (by rw[List.length_map]) (e1:=z2 []) ?_;refine WO.fn (e2:=z2 [(117,.int .i64 0)]) ?_;refine W.block ?_;obtain⟨hl4,h⟩:=qg h;refine W.wk (env':=z2 [(117,I6 ((0:Nat):Int))]) ?_;refine W.range (σ:=Unit) v58 (fun k4 s=>z2 [(117,I6 (k4:Int))]) (fun r0 k0 s=>ju v58 (jm) r0 k0=some r) (fun s h=>?_) (fun x4 r4 k4 s hx4 hk4 h hN4=>?_) () h
    ·have h:ju v58 (jm) [] (v58).length=some r:=h;rw[ju.eq_1]at h;refine W.seq ?_;refine W.rg ?_
     let z3:=fun t=>z2 ((117,I6 ((v58).length:Int))::(118,.bool false)::t)
     refine WO.pk 0 (some (.bool (decide (((v58).length:Int)<(v58.length:Int))))) (v:=.bool false) (by rw[qD (l:=v58)]) (e1:=z3 []) ?_;refine WO.fn (e2:=z3 []) ?_;refine W.seq ?_;refine W.cb false (fun h=>Bool.noConfusion h) (fun _=>?_);refine W.exit ?_;refine W.wk (env':=[]) ?_;exact hK59 () h
    ·have h:ju v58 (jm) (x4::r4) k4=some r:=h;rw[ju.eq_2]at h;refine W.seq ?_;refine W.rg ?_
     let z4:=fun t=>z2 ((117,I6 (k4:Int))::t)
     refine WO.pk 0 (some (.bool (decide ((k4:Int)<(v58.length:Int))))) (v:=.bool true) (by rw[qX hk4]) (e1:=z4 [(118,.bool true)]) ?_;refine WO.fn (e2:=z4 [(118,.bool true)]) ?_;refine W.seq ?_;refine W.cb true (fun _=>?_) (fun h=>Bool.noConfusion h);refine W.skip ?_;refine W.wk (env':=z4 []) ?_;refine W.seq ?_;refine W.join (σ:=Unit) (fun s=>z4 []) (fun s=>(Jv (ju v58 (jm) r4 (k4+1)))=some r) (fun s h=>?_) (fun hK61=>?_)
     ·have h:(Jv (ju v58 (jm) r4 (k4+1)))=some r:=h;unfold Jv at h;refine W.rg ?_;refine WO.pk 0 (some (I6 (IntKind.wrap .i64 ((k4:Int)+1)))) (v:=I6 ((k4+1:Nat):Int)) (by rw[qu hl4 hk4]) (e1:=z4 [(140,I6 ((k4+1:Nat):Int))]) ?_;refine WO.fn (e2:=z2 [(117,I6 ((k4+1:Nat):Int))]) ?_;exact hN4 () h
     refine W.block ?_;refine W.seq ?_;refine W.rg ?_;refine WO.pk 0 (if (0:Int)≤(k4:Int) then ((List.map Jd v58)[Int.toNat (k4:Int)]?).map AV.ptr else none) (v:=.ptr (.agg [I6 x4.f_0,I6 x4.f_1])) (qY (f:=Jd) hx4) (e1:=z4 [(119,.ptr (.agg [I6 x4.f_0,I6 x4.f_1]))]) ?_
     let z5:=fun t=>EN ((5,l112 (some 10500) v58)::(15,.ptr (.agg [I6 x4.f_0,I6 x4.f_1]))::(115,l112 (some 10500) v58)::(116,I6 (v58.length:Int))::(117,I6 (k4:Int))::t)
     refine WO.fin [5,15,115,116,117] [15] [] [] (e2:=z5 []) (by kernel_rfl) (fun _ h=>h) ?_;refine W.seq ?_;refine W.rg ?_
     let z6:=fun t=>z5 ((121,l112 (some 10500) v58)::(122,I6 (v58.length:Int))::t)
     refine WO.pk 1 (some (I6 ((List.map Jd v58).length:Int))) (v:=I6 (v58.length:Int)) (by rw[List.length_map]) (e1:=z6 []) ?_;refine WO.fn (e2:=z6 [(123,.int .i64 0)]) ?_;refine W.block ?_;obtain⟨hl5,h⟩:=qg h;refine W.wk (env':=z6 [(123,I6 ((0:Nat):Int))]) ?_;refine W.range (σ:=Unit) v58 (fun k5 s=>z6 [(123,I6 (k5:Int))]) (fun r0 k0 s=>Jb x4 (Jv (ju v58 (jm) r4 (k4+1))) r0 k0=some r) (fun s h=>?_) (fun x5 r5 k5 s hx5 hk5 h hN5=>?_) () h
     ·have h:Jb x4 (Jv (ju v58 (jm) r4 (k4+1))) [] (v58).length=some r:=h;rw[Jb.eq_1]at h;refine W.seq ?_;refine W.rg ?_
      let z7:=fun t=>z6 ((123,I6 ((v58).length:Int))::(124,.bool false)::t)
      refine WO.pk 0 (some (.bool (decide (((v58).length:Int)<(v58.length:Int))))) (v:=.bool false) (by rw[qD (l:=v58)]) (e1:=z7 []) ?_;refine WO.fn (e2:=z7 []) ?_;refine W.seq ?_;refine W.cb false (fun h=>Bool.noConfusion h) (fun _=>?_);refine W.exit ?_;refine W.wk (env':=z4 []) ?_;exact hK61 () h
     ·have h:Jb x4 (Jv (ju v58 (jm) r4 (k4+1))) (x5::r5) k5=some r:=h;rw[Jb.eq_2]at h;refine W.seq ?_;refine W.rg ?_
      let z8:=fun t=>z6 ((123,I6 (k5:Int))::t)
      refine WO.pk 0 (some (.bool (decide ((k5:Int)<(v58.length:Int))))) (v:=.bool true) (by rw[qX hk5]) (e1:=z8 [(124,.bool true)]) ?_;refine WO.fn (e2:=z8 [(124,.bool true)]) ?_;refine W.seq ?_;refine W.cb true (fun _=>?_) (fun h=>Bool.noConfusion h);refine W.skip ?_;refine W.wk (env':=z8 []) ?_;refine W.seq ?_;refine W.block ?_;refine W.seq ?_;refine W.rg ?_;refine WO.pk 0 (if (0:Int)≤(k5:Int) then ((List.map Jd v58)[Int.toNat (k5:Int)]?).map AV.ptr else none) (v:=.ptr (.agg [I6 x5.f_0,I6 x5.f_1])) (qY (f:=Jd) hx5) (e1:=z8 [(125,.ptr (.agg [I6 x5.f_0,I6 x5.f_1]))]) ?_
      let z9:=fun t=>EN ((5,l112 (some 10500) v58)::(15,.ptr (.agg [I6 x4.f_0,I6 x4.f_1]))::t)
      let z10:=fun t=>z9 ((17,.ptr (.agg [I6 x5.f_0,I6 x5.f_1]))::(115,l112 (some 10500) v58)::(116,I6 (v58.length:Int))::(117,I6 (k4:Int))::(121,l112 (some 10500) v58)::(122,I6 (v58.length:Int))::(123,I6 (k5:Int))::t)
      refine WO.fin [5,15,17,115,116,117,121,122,123] [17] [] [] (e2:=z10 []) (by kernel_rfl) (fun _ h=>h) ?_;refine W.seq ?_;refine W.join (σ:=(Bool)) (fun s=>z8 [(138,.bool s)]) (fun s=>(Xh (Jb x4 (Jv (ju v58 (jm) r4 (k4+1))) r5 (k5+1))) s=some r) (fun v67 h=>?_) (fun hK66=>?_)
      ·have h:(Xh (Jb x4 (Jv (ju v58 (jm) r4 (k4+1))) r5 (k5+1))) v67=some r:=h;unfold Xh at h;refine W.cb v67 (fun hb=>?_) (fun hb=>?_)
       ·replace h:=qo hb h;refine W.seq ?_;refine W.rt (e2:=[(4,.bool false)]) ?_;refine W.wk (env':=[(4,.bool false)]) ?_;cases h;exact W.ret (show qm _ _ _=some _ by kernel_rfl)
       replace h:=qp hb h;refine W.skip ?_;refine W.wk (env':=z8 []) ?_;refine W.rg ?_;refine WO.pk 0 (some (I6 (IntKind.wrap .i64 ((k5:Int)+1)))) (v:=I6 ((k5+1:Nat):Int)) (by rw[qu hl5 hk5]) (e1:=z8 [(139,I6 ((k5+1:Nat):Int))]) ?_;refine WO.fn (e2:=z6 [(123,I6 ((k5+1:Nat):Int))]) ?_;exact hN5 () h
      refine W.rg ?_;refine WO.bk 6 (fun b=>z10 [(127,.ptr (I6 x4.f_0)),(128,I6 x4.f_0),(129,.ptr (I6 x5.f_0)),(130,I6 x5.f_0),(131,.bool b),(132,.bool b)]) (x4.f_0 == x5.f_0) (fun hb=>?_) (fun hb=>?_)
      ·replace h:=qo hb h;refine WO.fn (e2:=z8 [(138,.bool (x4.f_1 != x5.f_1))]) ?_;exact hK66 (x4.f_1 != x5.f_1) h
      replace h:=qp hb h;refine WO.fn (e2:=z8 [(138,.bool false)]) ?_;exact hK66 false h
   refine W.seq ?_;refine W.rg ?_;refine WO.pk 1 (some (I6 ((List.map qK a1).length:Int))) (v:=I6 (a1.length:Int)) (by rw[List.length_map]) (e1:=z0 [(5,l112 (some 10500) v19),(45,l94 none a1),(46,I6 (a1.length:Int))]) ?_
   let z11:=fun t=>EN ((5,l112 (some 10500) v19)::(45,l94 none a1)::(46,I6 (a1.length:Int))::t)
   refine WO.fn (e2:=z11 [(47,.int .i64 0)]) ?_;refine W.block ?_;obtain⟨hl2,h⟩:=qg h;refine W.wk (env':=z11 [(47,I6 ((0:Nat):Int))]) ?_;refine W.range (σ:=((List ql))) a1 (fun k2 s=>[(5,l112 (some 10500) s),(45,l94 none a1),(46,I6 (a1.length:Int)),(47,I6 (k2:Int))]) (fun r0 k0 s=>qQ (qT) r0 k0 s=some r) (fun v22 h=>?_) (fun x2 r2 k2 s hx2 hk2 h hN2=>?_) v19 h
   ·have h:qQ (qT) [] (a1).length v22=some r:=h;rw[qQ.eq_1]at h;refine W.seq ?_;refine W.rg ?_
    let z12:=fun t=>EN ((5,l112 (some 10500) v22)::(45,l94 none a1)::(46,I6 (a1.length:Int))::(47,I6 ((a1).length:Int))::(48,.bool false)::t)
    refine WO.pk 0 (some (.bool (decide (((a1).length:Int)<(a1.length:Int))))) (v:=.bool false) (by rw[qD (l:=a1)]) (e1:=z12 []) ?_;refine WO.fn (e2:=z12 []) ?_;refine W.seq ?_;refine W.cb false (fun h=>Bool.noConfusion h) (fun _=>?_);refine W.exit ?_;refine W.wk (env':=[(5,l112 (some 10500) v22)]) ?_;exact hK20 v22 h
   ·obtain⟨v22,rfl⟩:∃ x,x=s:=⟨s,rfl⟩;have h:qQ (qT) (x2::r2) k2 v22=some r:=h;rw[qQ.eq_2]at h;refine W.seq ?_;refine W.rg ?_
    let z13:=fun t=>EN ((5,l112 (some 10500) v22)::(45,l94 none a1)::(46,I6 (a1.length:Int))::(47,I6 (k2:Int))::t)
    refine WO.pk 0 (some (.bool (decide ((k2:Int)<(a1.length:Int))))) (v:=.bool true) (by rw[qX hk2]) (e1:=z13 [(48,.bool true)]) ?_;refine WO.fn (e2:=z13 [(48,.bool true)]) ?_;refine W.seq ?_;refine W.cb true (fun _=>?_) (fun h=>Bool.noConfusion h);refine W.skip ?_;refine W.wk (env':=z13 []) ?_;refine W.seq ?_;refine W.block ?_;refine W.seq ?_;refine W.rg ?_;refine WO.pk 0 (if (0:Int)≤(k2:Int) then ((List.map qK a1)[Int.toNat (k2:Int)]?).map AV.ptr else none) (v:=.ptr (.agg [I6 x2.qd.qb,l3 none x2.qd.qa,l96 none x2.qe])) (qY (f:=qK) hx2) (e1:=z13 [(49,.ptr (.agg [I6 x2.qd.qb,l3 none x2.qd.qa,l96 none x2.qe]))]) ?_
    let z14:=fun t=>EN ((5,l112 (some 10500) v22)::(9,.ptr (.agg [I6 x2.qd.qb,l3 none x2.qd.qa,l96 none x2.qe]))::(45,l94 none a1)::(46,I6 (a1.length:Int))::(47,I6 (k2:Int))::t)
    refine WO.fin [5,9,45,46,47] [9] [] [] (e2:=z14 []) (by kernel_rfl) (fun _ h=>h) ?_;refine W.seq ?_;refine W.seq ?_;refine W.join (σ:=(Bool)) (fun s=>z14 [(60,.bool s)]) (fun s=>(Xj x2 v22 (qQ (qT) r2 (k2+1))) s=some r) (fun v28 h=>?_) (fun hK26=>?_)
    ·have h:(Xj x2 v22 (qQ (qT) r2 (k2+1))) v28=some r:=h;unfold Xj at h;refine W.cb v28 (fun hb=>?_) (fun hb=>?_)
     ·replace h:=qo hb h;refine W.seq ?_;refine W.rt (e2:=[(4,.bool false)]) ?_;refine W.wk (env':=[(4,.bool false)]) ?_;cases h;exact W.ret (show qm _ _ _=some _ by kernel_rfl)
     replace h:=qp hb h;refine W.skip ?_;refine W.wk (env':=z14 []) ?_;refine W.seq ?_;refine W.rg ?_;refine WO.pk 7 (some (I6 ((M6 x2.qd.qa).length:Int))) (v:=I6 (x2.qd.qa.length:Int)) (by rw[List.length_map]) (e1:=z14 [(61,l112 (some 10500) v22),(62,.ptr (.agg [I6 x2.qd.qb,l3 none x2.qd.qa])),(63,.ptr (I6 x2.qd.qb)),(64,I6 x2.qd.qb),(65,.ptr (.agg [I6 x2.qd.qb,l3 none x2.qd.qa])),(66,.ptr (l3 none x2.qd.qa)),(67,l3 none x2.qd.qa),(68,I6 (x2.qd.qa.length:Int))]) ?_;obtain⟨hc31,h⟩:=qg h;refine WO.appendK 2 (d:=71) (e:=112) (s:=2) (bytes:=16) (xs:=(List.map Jd v22)) (ys:=(List.map Jd [(ql.mk x2.qd.qb (x2.qd.qa.length:Int))])) (zs:=(List.map Jd (v22++[(ql.mk x2.qd.qb (x2.qd.qa.length:Int))]))) (env1:=[(5,l112 none v22),(9,.ptr (.agg [I6 x2.qd.qb,l3 none x2.qd.qa,l96 none x2.qe])),(45,l94 none a1),(46,I6 (a1.length:Int)),(47,I6 (k2:Int)),(61,l112 none v22),(62,.ptr (.agg [I6 x2.qd.qb,l3 none x2.qd.qa])),(63,.ptr (I6 x2.qd.qb)),(64,I6 x2.qd.qb),(65,.ptr (.agg [I6 x2.qd.qb,l3 none x2.qd.qa])),(66,.ptr (l3 none x2.qd.qa)),(67,l3 none x2.qd.qa),(68,I6 (x2.qd.qa.length:Int)),(69,.agg [I6 x2.qd.qb,I6 (x2.qd.qa.length:Int)]),(70,l112 (some 70) [(ql.mk x2.qd.qb (x2.qd.qa.length:Int))])]) (by kernel_rfl) (List.map_append.symm) (by rw[List.length_map];exact hc31) (e1:=[(5,l112 none v22),(9,.ptr (.agg [I6 x2.qd.qb,l3 none x2.qd.qa,l96 none x2.qe])),(45,l94 none a1),(46,I6 (a1.length:Int)),(47,I6 (k2:Int)),(61,l112 none v22),(62,.ptr (.agg [I6 x2.qd.qb,l3 none x2.qd.qa])),(63,.ptr (I6 x2.qd.qb)),(64,I6 x2.qd.qb),(65,.ptr (.agg [I6 x2.qd.qb,l3 none x2.qd.qa])),(66,.ptr (l3 none x2.qd.qa)),(67,l3 none x2.qd.qa),(68,I6 (x2.qd.qa.length:Int)),(69,.agg [I6 x2.qd.qb,I6 (x2.qd.qa.length:Int)]),(70,l112 (some 70) [(ql.mk x2.qd.qb (x2.qd.qa.length:Int))]),(71,l112 (some 71) (v22++[(ql.mk x2.qd.qb (x2.qd.qa.length:Int))]))]) (by kernel_rfl) ?_
     let z15:=fun t=>EN ((5,l112 (some 71) (v22++[(ql.mk x2.qd.qb (x2.qd.qa.length:Int))]))::(9,.ptr (.agg [I6 x2.qd.qb,l3 none x2.qd.qa,l96 none x2.qe]))::t)
     let z16:=fun t=>z15 ((45,l94 none a1)::(46,I6 (a1.length:Int))::(47,I6 (k2:Int))::t)
     refine WO.fn (e2:=z16 []) ?_;refine W.seq ?_;refine W.rg ?_;obtain⟨w33,hw33,h⟩:=qf h;refine WO.ck 2 (F:=62) (l:=[.agg [I6 x2.qd.qb,l3 none x2.qd.qa]]) (C:=[]) (r:=I6 w33) (ZX x2.qd w33 hw33) (e1:=z16 [(72,.ptr (.agg [I6 x2.qd.qb,l3 none x2.qd.qa])),(73,.agg [I6 x2.qd.qb,l3 none x2.qd.qa]),(74,I6 w33)]) ?_
     let z17:=fun t=>z15 ((10,I6 w33)::(11,.int .i64 0)::(45,l94 none a1)::(46,I6 (a1.length:Int))::(47,I6 (k2:Int))::t)
     refine WO.fn (e2:=z17 []) ?_;refine W.seq ?_;refine W.join (σ:=((List ql)×Int×Int)) (fun s=>[(5,l112 (some 10500) s.1),(10,I6 s.2.1),(11,I6 s.2.2),(45,l94 none a1),(46,I6 (a1.length:Int)),(47,I6 (k2:Int))]) (fun s=>(Jk (qQ (qT) r2 (k2+1))) s.1 s.2.1 s.2.2=some r) (fun s h=>?_) (fun hK34=>?_)
     ·obtain⟨v53,v54,v55⟩:=s;have h:(Jk (qQ (qT) r2 (k2+1))) v53 v54 v55=some r:=h;unfold Jk at h;refine W.seq ?_
      let z18:=fun t=>EN ((5,l112 (some 10500) v53)::(45,l94 none a1)::(46,I6 (a1.length:Int))::t)
      refine W.rt (e2:=z18 [(47,I6 (k2:Int)),(113,.bool (v54 != v55))]) ?_;refine W.cb (v54 != v55) (fun hb=>?_) (fun hb=>?_)
      ·replace h:=qo hb h;refine W.seq ?_;refine W.rt (e2:=[(4,.bool false)]) ?_;refine W.wk (env':=[(4,.bool false)]) ?_;cases h;exact W.ret (show qm _ _ _=some _ by kernel_rfl)
      replace h:=qp hb h;refine W.skip ?_;refine W.wk (env':=z18 [(47,I6 (k2:Int))]) ?_;refine W.rg ?_;refine WO.pk 0 (some (I6 (IntKind.wrap .i64 ((k2:Int)+1)))) (v:=I6 ((k2+1:Nat):Int)) (by rw[qu hl2 hk2]) (e1:=z18 [(47,I6 (k2:Int)),(114,I6 ((k2+1:Nat):Int))]) ?_;refine WO.fn (e2:=z18 [(47,I6 ((k2+1:Nat):Int))]) ?_;exact hN2 v53 h
     refine W.seq ?_;refine W.rg ?_;refine WO.pk 2 (some (I6 ((List.map jB x2.qe).length:Int))) (v:=I6 (x2.qe.length:Int)) (by rw[List.length_map]) (e1:=z17 [(75,.ptr (l96 none x2.qe)),(76,l96 none x2.qe),(77,I6 (x2.qe.length:Int))]) ?_;refine WO.fn (e2:=[(5,l112 (some 71) (v22++[(ql.mk x2.qd.qb (x2.qd.qa.length:Int))])),(10,I6 w33),(11,.int .i64 0),(45,l94 none a1),(46,I6 (a1.length:Int)),(47,I6 (k2:Int)),(76,l96 none x2.qe),(77,I6 (x2.qe.length:Int)),(78,.int .i64 0)]) ?_;refine W.block ?_;obtain⟨hl3,h⟩:=qg h;refine W.weak [5,10,11,45,46,47,76,77,78] [] [] [(71,some 10500)] (env':=[(5,l112 (some 10500) (v22++[(ql.mk x2.qd.qb (x2.qd.qa.length:Int))])),(10,I6 w33),(11,.int .i64 0),(45,l94 none a1),(46,I6 (a1.length:Int)),(47,I6 (k2:Int)),(76,l96 none x2.qe),(77,I6 (x2.qe.length:Int)),(78,I6 ((0:Nat):Int))]) (by kernel_rfl) ?_;refine W.range (σ:=((List ql)×Int×Int)) x2.qe (fun k3 s=>[(5,l112 (some 10500) s.1),(10,I6 s.2.1),(11,I6 s.2.2),(45,l94 none a1),(46,I6 (a1.length:Int)),(47,I6 (k2:Int)),(76,l96 none x2.qe),(77,I6 (x2.qe.length:Int)),(78,I6 (k3:Int))]) (fun r0 k0 s=>jA (Jk (qQ (qT) r2 (k2+1))) r0 k0 s.1 s.2.1 s.2.2=some r) (fun s h=>?_) (fun x3 r3 k3 s hx3 hk3 h hN3=>?_) ((v22++[(ql.mk x2.qd.qb (x2.qd.qa.length:Int))]),w33,0) h
     ·obtain⟨v36,v37,v38⟩:=s;have h:jA (Jk (qQ (qT) r2 (k2+1))) [] (x2.qe).length v36 v37 v38=some r:=h;rw[jA.eq_1]at h;refine W.seq ?_;refine W.rg ?_
      let z19:=fun t=>EN ((5,l112 (some 10500) v36)::(10,I6 v37)::(11,I6 v38)::(45,l94 none a1)::(46,I6 (a1.length:Int))::(47,I6 (k2:Int))::t)
      let z20:=fun t=>z19 ((76,l96 none x2.qe)::(77,I6 (x2.qe.length:Int))::(78,I6 ((x2.qe).length:Int))::(79,.bool false)::t)
      refine WO.pk 0 (some (.bool (decide (((x2.qe).length:Int)<(x2.qe.length:Int))))) (v:=.bool false) (by rw[qD (l:=x2.qe)]) (e1:=z20 []) ?_;refine WO.fn (e2:=z20 []) ?_;refine W.seq ?_;refine W.cb false (fun h=>Bool.noConfusion h) (fun _=>?_);refine W.exit ?_;refine W.wk (env':=z19 []) ?_;exact hK34 (v36,v37,v38) h
     ·obtain⟨v36,v37,v38⟩:=s;have h:jA (Jk (qQ (qT) r2 (k2+1))) (x3::r3) k3 v36 v37 v38=some r:=h;rw[jA.eq_2]at h;refine W.seq ?_;refine W.rg ?_
      let z21:=fun t=>EN ((5,l112 (some 10500) v36)::(10,I6 v37)::(11,I6 v38)::(45,l94 none a1)::(46,I6 (a1.length:Int))::(47,I6 (k2:Int))::(76,l96 none x2.qe)::(77,I6 (x2.qe.length:Int))::(78,I6 (k3:Int))::t)
      refine WO.pk 0 (some (.bool (decide ((k3:Int)<(x2.qe.length:Int))))) (v:=.bool true) (by rw[qX hk3]) (e1:=z21 [(79,.bool true)]) ?_;refine WO.fn (e2:=z21 [(79,.bool true)]) ?_;refine W.seq ?_;refine W.cb true (fun _=>?_) (fun h=>Bool.noConfusion h);refine W.skip ?_;refine W.wk (env':=z21 []) ?_;refine W.seq ?_
      let z22:=fun t=>EN ((5,l112 (some 96) (v36++[(ql.mk x3.qc.qb (x3.qc.qa.length:Int))]))::t)
      refine W.join (σ:=(Int×Int)) (fun s=>z22 [(10,I6 s.1),(11,I6 s.2),(45,l94 none a1),(46,I6 (a1.length:Int)),(47,I6 (k2:Int)),(76,l96 none x2.qe),(77,I6 (x2.qe.length:Int)),(78,I6 (k3:Int))]) (fun s=>(Xi x3 v36 (jA (Jk (qQ (qT) r2 (k2+1))) r3 (k3+1))) s.1 s.2=some r) (fun s h=>?_) (fun hK39=>?_)
      ·obtain⟨v51,v52⟩:=s;have h:(Xi x3 v36 (jA (Jk (qQ (qT) r2 (k2+1))) r3 (k3+1))) v51 v52=some r:=h;unfold Xi at h;refine W.rg ?_;refine WO.pk 0 (some (I6 (IntKind.wrap .i64 ((k3:Int)+1)))) (v:=I6 ((k3+1:Nat):Int)) (by rw[qu hl3 hk3]) (e1:=z22 [(10,I6 v51),(11,I6 v52),(45,l94 none a1),(46,I6 (a1.length:Int)),(47,I6 (k2:Int)),(76,l96 none x2.qe),(77,I6 (x2.qe.length:Int)),(78,I6 (k3:Int)),(110,I6 ((k3+1:Nat):Int))]) ?_;refine WO.fin [5,10,11,45,46,47,76,77,78] [] [] [(96,some 10500)] (e2:=[(5,l112 (some 10500) (v36++[(ql.mk x3.qc.qb (x3.qc.qa.length:Int))])),(10,I6 v51),(11,I6 v52),(45,l94 none a1),(46,I6 (a1.length:Int)),(47,I6 (k2:Int)),(76,l96 none x2.qe),(77,I6 (x2.qe.length:Int)),(78,I6 ((k3+1:Nat):Int))]) (by kernel_rfl) (fun _ h=>h) ?_;exact hN3 ((v36++[(ql.mk x3.qc.qb (x3.qc.qa.length:Int))]),v51,v52) h
      refine W.block ?_;refine W.seq ?_;refine W.rg ?_;refine WO.pk 0 (if (0:Int)≤(k3:Int) then ((List.map jB x2.qe)[Int.toNat (k3:Int)]?).map AV.ptr else none) (v:=.ptr (.agg [.bool x3.qi,I6 x3.qc.qb,l3 none x3.qc.qa])) (qY (f:=jB) hx3) (e1:=z21 [(80,.ptr (.agg [.bool x3.qi,I6 x3.qc.qb,l3 none x3.qc.qa]))]) ?_
      let z23:=fun t=>EN ((5,l112 (some 10500) v36)::(10,I6 v37)::(11,I6 v38)::(13,.ptr (.agg [.bool x3.qi,I6 x3.qc.qb,l3 none x3.qc.qa]))::(45,l94 none a1)::(46,I6 (a1.length:Int))::(47,I6 (k2:Int))::(76,l96 none x2.qe)::(77,I6 (x2.qe.length:Int))::(78,I6 (k3:Int))::t)
      refine WO.fin [5,10,11,13,45,46,47,76,77,78] [13] [] [] (e2:=z23 []) (by kernel_rfl) (fun _ h=>h) ?_;refine W.seq ?_;refine W.seq ?_;refine W.rg ?_;obtain⟨w43,hw43,h⟩:=qf h;refine WO.ck 2 (F:=61) (l:=[.agg [I6 x3.qc.qb,l3 none x3.qc.qa]]) (C:=[]) (r:=.bool w43) (UL x3.qc w43 hw43) (e1:=z23 [(82,.ptr (.agg [I6 x3.qc.qb,l3 none x3.qc.qa])),(83,.agg [I6 x3.qc.qb,l3 none x3.qc.qa]),(84,.bool w43)]) ?_;refine WO.fn (e2:=z23 [(85,.bool (!w43))]) ?_;refine W.cb (!w43) (fun hb=>?_) (fun hb=>?_)
      ·replace h:=qo hb h;refine W.seq ?_;refine W.rt (e2:=[(4,.bool false)]) ?_;refine W.wk (env':=[(4,.bool false)]) ?_;cases h;exact W.ret (show qm _ _ _=some _ by kernel_rfl)
      replace h:=qp hb h;refine W.skip ?_;refine W.wk (env':=z23 []) ?_;refine W.seq ?_;refine W.rg ?_;refine WO.pk 7 (some (I6 ((M6 x3.qc.qa).length:Int))) (v:=I6 (x3.qc.qa.length:Int)) (by rw[List.length_map]) (e1:=z23 [(86,l112 (some 10500) v36),(87,.ptr (.agg [I6 x3.qc.qb,l3 none x3.qc.qa])),(88,.ptr (I6 x3.qc.qb)),(89,I6 x3.qc.qb),(90,.ptr (.agg [I6 x3.qc.qb,l3 none x3.qc.qa])),(91,.ptr (l3 none x3.qc.qa)),(92,l3 none x3.qc.qa),(93,I6 (x3.qc.qa.length:Int))]) ?_;obtain⟨hc46,h⟩:=qg h;refine WO.appendK 2 (d:=96) (e:=112) (s:=2) (bytes:=16) (xs:=(List.map Jd v36)) (ys:=(List.map Jd [(ql.mk x3.qc.qb (x3.qc.qa.length:Int))])) (zs:=(List.map Jd (v36++[(ql.mk x3.qc.qb (x3.qc.qa.length:Int))]))) (env1:=[(5,l112 none v36),(10,I6 v37),(11,I6 v38),(13,.ptr (.agg [.bool x3.qi,I6 x3.qc.qb,l3 none x3.qc.qa])),(45,l94 none a1),(46,I6 (a1.length:Int)),(47,I6 (k2:Int)),(76,l96 none x2.qe),(77,I6 (x2.qe.length:Int)),(78,I6 (k3:Int)),(86,l112 none v36),(87,.ptr (.agg [I6 x3.qc.qb,l3 none x3.qc.qa])),(88,.ptr (I6 x3.qc.qb)),(89,I6 x3.qc.qb),(90,.ptr (.agg [I6 x3.qc.qb,l3 none x3.qc.qa])),(91,.ptr (l3 none x3.qc.qa)),(92,l3 none x3.qc.qa),(93,I6 (x3.qc.qa.length:Int)),(94,.agg [I6 x3.qc.qb,I6 (x3.qc.qa.length:Int)]),(95,l112 (some 95) [(ql.mk x3.qc.qb (x3.qc.qa.length:Int))])]) (by kernel_rfl) (List.map_append.symm) (by rw[List.length_map];exact hc46) (e1:=[(5,l112 none v36),(10,I6 v37),(11,I6 v38),(13,.ptr (.agg [.bool x3.qi,I6 x3.qc.qb,l3 none x3.qc.qa])),(45,l94 none a1),(46,I6 (a1.length:Int)),(47,I6 (k2:Int)),(76,l96 none x2.qe),(77,I6 (x2.qe.length:Int)),(78,I6 (k3:Int)),(86,l112 none v36),(87,.ptr (.agg [I6 x3.qc.qb,l3 none x3.qc.qa])),(88,.ptr (I6 x3.qc.qb)),(89,I6 x3.qc.qb),(90,.ptr (.agg [I6 x3.qc.qb,l3 none x3.qc.qa])),(91,.ptr (l3 none x3.qc.qa)),(92,l3 none x3.qc.qa),(93,I6 (x3.qc.qa.length:Int)),(94,.agg [I6 x3.qc.qb,I6 (x3.qc.qa.length:Int)]),(95,l112 (some 95) [(ql.mk x3.qc.qb (x3.qc.qa.length:Int))]),(96,l112 (some 96) (v36++[(ql.mk x3.qc.qb (x3.qc.qa.length:Int))]))]) (by kernel_rfl) ?_
      let z24:=fun t=>z22 ((10,I6 v37)::(11,I6 v38)::(13,.ptr (.agg [.bool x3.qi,I6 x3.qc.qb,l3 none x3.qc.qa]))::(45,l94 none a1)::(46,I6 (a1.length:Int))::(47,I6 (k2:Int))::(76,l96 none x2.qe)::(77,I6 (x2.qe.length:Int))::(78,I6 (k3:Int))::t)
      refine WO.fn (e2:=z24 []) ?_;refine W.seq ?_;refine W.rg ?_;obtain⟨w48,hw48,h⟩:=qf h;refine WO.ck 3 (F:=62) (l:=[.agg [I6 x3.qc.qb,l3 none x3.qc.qa]]) (C:=[]) (r:=I6 w48) (ZX x3.qc w48 hw48) (e1:=z24 [(97,I6 v37),(98,.ptr (.agg [I6 x3.qc.qb,l3 none x3.qc.qa])),(99,.agg [I6 x3.qc.qb,l3 none x3.qc.qa]),(100,I6 w48)]) ?_
      let z25:=fun t=>z22 ((10,I6 (iOr .i64 v37 w48))::(11,I6 v38)::(13,.ptr (.agg [.bool x3.qi,I6 x3.qc.qb,l3 none x3.qc.qa]))::(45,l94 none a1)::(46,I6 (a1.length:Int))::(47,I6 (k2:Int))::(76,l96 none x2.qe)::(77,I6 (x2.qe.length:Int))::(78,I6 (k3:Int))::t)
      refine WO.fn (e2:=z25 []) ?_;refine W.seq ?_;refine W.rt (e2:=z25 [(104,.bool (!x3.qi))]) ?_;refine W.cb (!x3.qi) (fun hb=>?_) (fun hb=>?_)
      ·replace h:=qo hb h;refine W.rg ?_;obtain⟨w50,hw50,h⟩:=qf h;refine WO.ck 3 (F:=62) (l:=[.agg [I6 x3.qc.qb,l3 none x3.qc.qa]]) (C:=[]) (r:=I6 w50) (ZX x3.qc w50 hw50) (e1:=z25 [(104,.bool (!x3.qi)),(105,I6 v38),(106,.ptr (.agg [I6 x3.qc.qb,l3 none x3.qc.qa])),(107,.agg [I6 x3.qc.qb,l3 none x3.qc.qa]),(108,I6 w50)]) ?_;refine WO.fn (e2:=z22 [(10,I6 (iOr .i64 v37 w48)),(11,I6 (iOr .i64 v38 w50)),(45,l94 none a1),(46,I6 (a1.length:Int)),(47,I6 (k2:Int)),(76,l96 none x2.qe),(77,I6 (x2.qe.length:Int)),(78,I6 (k3:Int))]) ?_;exact hK39 ((iOr .i64 v37 w48),(iOr .i64 v38 w50)) h
      replace h:=qp hb h;refine W.skip ?_;refine W.wk (env':=z22 [(10,I6 (iOr .i64 v37 w48)),(11,I6 v38),(45,l94 none a1),(46,I6 (a1.length:Int)),(47,I6 (k2:Int)),(76,l96 none x2.qe),(77,I6 (x2.qe.length:Int)),(78,I6 (k3:Int))]) ?_;exact hK39 ((iOr .i64 v37 w48),v38) h
    refine W.rg ?_;obtain⟨w27,hw27,h⟩:=qf h
    let z26:=fun t=>z14 ((51,.ptr (.agg [I6 x2.qd.qb,l3 none x2.qd.qa]))::(52,.agg [I6 x2.qd.qb,l3 none x2.qd.qa])::(53,.bool w27)::t)
    refine WO.ck 2 (F:=61) (l:=[.agg [I6 x2.qd.qb,l3 none x2.qd.qa]]) (C:=[]) (r:=.bool w27) (UL x2.qd w27 hw27) (e1:=z26 []) ?_;refine WO.bk 2 (fun b=>z26 [(54,.bool b),(55,.bool b)]) (!w27) (fun hb=>?_) (fun hb=>?_)
    ·replace h:=qo hb h;refine WO.fn (e2:=z14 [(60,.bool true)]) ?_;exact hK26 true h
    replace h:=qp hb h;refine WO.pk 2 (some (I6 ((List.map jB x2.qe).length:Int))) (v:=I6 (x2.qe.length:Int)) (by rw[List.length_map]) (e1:=z26 [(54,.bool false),(55,.bool false),(56,.ptr (l96 none x2.qe)),(57,l96 none x2.qe),(58,I6 (x2.qe.length:Int))]) ?_;refine WO.fn (e2:=z14 [(60,.bool (decide ((x2.qe.length:Int) > 3)))]) ?_;exact hK26 (decide ((x2.qe.length:Int) > 3)) h
  refine W.seq ?_;refine W.rg ?_;refine WO.pk 1 (some (I6 ((List.map qF a2).length:Int))) (v:=I6 (a2.length:Int)) (by rw[List.length_map]) (e1:=z1 [(5,.nils),(26,l41 none a2),(27,I6 (a2.length:Int))]) ?_;refine WO.fn (e2:=z0 [(5,.nils),(26,l41 none a2),(27,I6 (a2.length:Int)),(28,.int .i64 0)]) ?_;refine W.block ?_;obtain⟨hl1,h⟩:=qg h;refine W.weak [0,5,26,27,28] [] [(5,0,112,2,10500)] [] (env':=z0 [(5,l112 (some 10500) ([]:(List ql))),(26,l41 none a2),(27,I6 (a2.length:Int)),(28,I6 ((0:Nat):Int))]) (by kernel_rfl) ?_;refine W.range (σ:=((List ql))) a2 (fun k1 s=>z0 [(5,l112 (some 10500) s),(26,l41 none a2),(27,I6 (a2.length:Int)),(28,I6 (k1:Int))]) (fun r0 k0 s=>JS (QD a1) r0 k0 s=some r) (fun v11 h=>?_) (fun x1 r1 k1 s hx1 hk1 h hN1=>?_) ([]:(List ql)) h
  ·have h:JS (QD a1) [] (a2).length v11=some r:=h;rw[JS.eq_1]at h;refine W.seq ?_;refine W.rg ?_
   let z27:=fun t=>z0 ((5,l112 (some 10500) v11)::(26,l41 none a2)::(27,I6 (a2.length:Int))::(28,I6 ((a2).length:Int))::(29,.bool false)::t)
   refine WO.pk 0 (some (.bool (decide (((a2).length:Int)<(a2.length:Int))))) (v:=.bool false) (by rw[qD (l:=a2)]) (e1:=z27 []) ?_;refine WO.fn (e2:=z27 []) ?_;refine W.seq ?_;refine W.cb false (fun h=>Bool.noConfusion h) (fun _=>?_);refine W.exit ?_;refine W.wk (env':=z0 [(5,l112 (some 10500) v11)]) ?_;exact hK9 v11 h
  ·obtain⟨v11,rfl⟩:∃ x,x=s:=⟨s,rfl⟩;have h:JS (QD a1) (x1::r1) k1 v11=some r:=h;rw[JS.eq_2]at h;refine W.seq ?_;refine W.rg ?_
   let z28:=fun t=>z0 ((5,l112 (some 10500) v11)::(26,l41 none a2)::(27,I6 (a2.length:Int))::(28,I6 (k1:Int))::t)
   refine WO.pk 0 (some (.bool (decide ((k1:Int)<(a2.length:Int))))) (v:=.bool true) (by rw[qX hk1]) (e1:=z28 [(29,.bool true)]) ?_;refine WO.fn (e2:=z28 [(29,.bool true)]) ?_;refine W.seq ?_;refine W.cb true (fun _=>?_) (fun h=>Bool.noConfusion h);refine W.skip ?_;refine W.wk (env':=z28 []) ?_;refine W.seq ?_;refine W.block ?_;refine W.seq ?_;refine W.rg ?_;refine WO.pk 0 (if (0:Int)≤(k1:Int) then ((List.map qF a2)[Int.toNat (k1:Int)]?).map AV.ptr else none) (v:=.ptr (.agg [I6 x1.qb,l3 none x1.qa])) (qY (f:=qF) hx1) (e1:=z28 [(30,.ptr (.agg [I6 x1.qb,l3 none x1.qa]))]) ?_
   let z29:=fun t=>z0 ((5,l112 (some 10500) v11)::(7,.ptr (.agg [I6 x1.qb,l3 none x1.qa]))::(26,l41 none a2)::(27,I6 (a2.length:Int))::(28,I6 (k1:Int))::t)
   refine WO.fin [0,5,7,26,27,28] [7] [] [] (e2:=z29 []) (by kernel_rfl) (fun _ h=>h) ?_;refine W.seq ?_;refine W.seq ?_;refine W.rg ?_;obtain⟨w16,hw16,h⟩:=qf h;refine WO.ck 1 (F:=33) (l:=[.agg [I6 x1.qb,l3 none x1.qa]]) (C:=[]) (r:=.bool w16) (HQ x1 w16 hw16) (e1:=z29 [(32,.agg [I6 x1.qb,l3 none x1.qa]),(33,.bool w16)]) ?_;refine WO.fn (e2:=z29 [(34,.bool (!w16))]) ?_;refine W.cb (!w16) (fun hb=>?_) (fun hb=>?_)
   ·replace h:=qo hb h;refine W.seq ?_;refine W.rt (e2:=[(4,.bool false)]) ?_;refine W.wk (env':=[(4,.bool false)]) ?_;cases h;exact W.ret (show qm _ _ _=some _ by kernel_rfl)
   replace h:=qp hb h;refine W.skip ?_;refine W.wk (env':=z29 []) ?_;refine W.rg ?_;refine WO.pk 5 (some (I6 ((M6 x1.qa).length:Int))) (v:=I6 (x1.qa.length:Int)) (by rw[List.length_map]) (e1:=z29 [(35,l112 (some 10500) v11),(36,.ptr (I6 x1.qb)),(37,I6 x1.qb),(38,.ptr (l3 none x1.qa)),(39,l3 none x1.qa),(40,I6 (x1.qa.length:Int))]) ?_;obtain⟨hc18,h⟩:=qg h;refine WO.appendK 2 (d:=43) (e:=112) (s:=2) (bytes:=16) (xs:=(List.map Jd v11)) (ys:=(List.map Jd [(ql.mk x1.qb (x1.qa.length:Int))])) (zs:=(List.map Jd (v11++[(ql.mk x1.qb (x1.qa.length:Int))]))) (env1:=[(0,l94 none a1),(5,l112 none v11),(7,.ptr (.agg [I6 x1.qb,l3 none x1.qa])),(26,l41 none a2),(27,I6 (a2.length:Int)),(28,I6 (k1:Int)),(35,l112 none v11),(36,.ptr (I6 x1.qb)),(37,I6 x1.qb),(38,.ptr (l3 none x1.qa)),(39,l3 none x1.qa),(40,I6 (x1.qa.length:Int)),(41,.agg [I6 x1.qb,I6 (x1.qa.length:Int)]),(42,l112 (some 42) [(ql.mk x1.qb (x1.qa.length:Int))])]) (by kernel_rfl) (List.map_append.symm) (by rw[List.length_map];exact hc18) (e1:=z0 [(5,l112 none v11),(7,.ptr (.agg [I6 x1.qb,l3 none x1.qa])),(26,l41 none a2),(27,I6 (a2.length:Int)),(28,I6 (k1:Int)),(35,l112 none v11),(36,.ptr (I6 x1.qb)),(37,I6 x1.qb),(38,.ptr (l3 none x1.qa)),(39,l3 none x1.qa),(40,I6 (x1.qa.length:Int)),(41,.agg [I6 x1.qb,I6 (x1.qa.length:Int)]),(42,l112 (some 42) [(ql.mk x1.qb (x1.qa.length:Int))]),(43,l112 (some 43) (v11++[(ql.mk x1.qb (x1.qa.length:Int))]))]) (by kernel_rfl) ?_
   let z30:=fun t=>z0 ((5,l112 (some 43) (v11++[(ql.mk x1.qb (x1.qa.length:Int))]))::(26,l41 none a2)::(27,I6 (a2.length:Int))::(28,I6 (k1:Int))::t)
   refine WO.fn (e2:=z30 []) ?_;refine W.rg ?_;refine WO.pk 0 (some (I6 (IntKind.wrap .i64 ((k1:Int)+1)))) (v:=I6 ((k1+1:Nat):Int)) (by rw[qu hl1 hk1]) (e1:=z30 [(44,I6 ((k1+1:Nat):Int))]) ?_;refine WO.fin [0,5,26,27,28] [] [] [(43,some 10500)] (e2:=z0 [(5,l112 (some 10500) (v11++[(ql.mk x1.qb (x1.qa.length:Int))])),(26,l41 none a2),(27,I6 (a2.length:Int)),(28,I6 ((k1+1:Nat):Int))]) (by kernel_rfl) (fun _ h=>h) ?_;exact hN1 (v11++[(ql.mk x1.qb (x1.qa.length:Int))]) h
 refine W.rg ?_
 let z31:=fun t=>z1 ((18,l94 none a1)::(19,I6 (a1.length:Int))::t)
 refine WO.pk 1 (some (I6 ((List.map qK a1).length:Int))) (v:=I6 (a1.length:Int)) (by rw[List.length_map]) (e1:=z31 []) ?_;refine WO.bk 2 (fun b=>z31 [(20,.bool b),(21,.bool b)]) (decide ((a1.length:Int) > 10)) (fun hb=>?_) (fun hb=>?_)
 ·replace h:=qo hb h;refine WO.fn (e2:=z1 [(25,.bool true)]) ?_;exact hK5 true h
 replace h:=qp hb h;refine WO.pk 1 (some (I6 ((List.map qF a2).length:Int))) (v:=I6 (a2.length:Int)) (by rw[List.length_map]) (e1:=z31 [(20,.bool false),(21,.bool false),(22,l41 none a2),(23,I6 (a2.length:Int))]) ?_;refine WO.fn (e2:=z1 [(25,.bool (decide ((a2.length:Int) > 20)))]) ?_;exact hK5 (decide ((a2.length:Int) > 20)) h
def JW (v30:(List Int)):Option ((List Int)×Int) :=
 (some ((snap 0 (Int.toNat 6) v30),0))
def Jw (v30:(List Int)) (K31:(Option ((List Int)×Int))):List Nat→Nat→Option ((List Int)×Int)
 | [],k4=>K31
 | x4::r4,k4=>(chk (decide ((0:Int)≤(k4:Int)∧(k4:Int)<(((Int.toNat 6):Nat):Int))) ((v30[(0+Int.toNat (k4:Int))]?).bind fun e36=>(bif (decide (e36 > 5)) then (some ((snap 0 (([]:(List Int)).length) ([]:(List Int))),8)) else (Jw v30 K31 r4 (k4+1)))))
def qJ (v30:(List Int)):Option ((List Int)×Int) :=
 (chk (lenOk (List.range (Int.toNat (((Int.toNat 6):Nat):Int)))) (Jw v30 (JW v30) (List.range (Int.toNat (((Int.toNat 6):Nat):Int))) 0))
def jv (N1:((List Int)→Option ((List Int)×Int))) (v29:(List Int)):Option ((List Int)×Int) :=
 (N1 v29)
def Jl (N2:((List Int)→Option ((List Int)×Int))) (v28:(List Int)):Option ((List Int)×Int) :=
 (N2 v28)
def Qt (x2:rf3Rule) (v14:(List Int)) (N3:((List Int)→Option ((List Int)×Int))) (v22:Int):Option ((List Int)×Int) :=
 (chk (decide ((0:Int)≤x2.qd.qb∧x2.qd.qb<(((Int.toNat 6):Nat):Int))) ((v14[(0+Int.toNat x2.qd.qb)]?).bind fun e24=>(chk (decide ((0:Int)≤x2.qd.qb∧x2.qd.qb<(((Int.toNat 6):Nat):Int))) ((upd v14 (0+Int.toNat x2.qd.qb) (if v22 > e24 then v22 else e24)).bind fun u26=>(N3 u26)))))
def jD (x2:rf3Rule) (K11:((List Int)→Option ((List Int)×Int))):List rf3Lit→Nat→(List Int)→Option ((List Int)×Int)
 | [],k3,v14=>(K11 v14)
 | x3::r3,k3,v14=>(chk (decide ((0:Int)≤x3.qc.qb∧x3.qc.qb<(((Int.toNat 6):Nat):Int))) ((v14[(0+Int.toNat x3.qc.qb)]?).bind fun e19=>(bif x3.qi then ((Qt x2 v14 (jD x2 K11 r3 (k3+1))) (IntKind.wrap .i64 (e19+1))) else ((Qt x2 v14 (jD x2 K11 r3 (k3+1))) e19))))
def jc (K8:((List Int)→Option ((List Int)×Int))):List rf3Rule→Nat→(List Int)→Option ((List Int)×Int)
 | [],k2,v10=>(K8 v10)
 | x2::r2,k2,v10=>(chk (lenOk x2.qe) (jD x2 (Jl (jc K8 r2 (k2+1))) x2.qe 0 v10))
def qx (a1:(List rf3Rule)) (K5:((List Int)→Option ((List Int)×Int))):List Nat→Nat→(List Int)→Option ((List Int)×Int)
 | [],k1,v7=>(K5 v7)
 | x1::r1,k1,v7=>(chk (lenOk a1) (jc (jv (qx a1 K5 r1 (k1+1))) a1 0 v7))
def QV (a1:(List rf3Rule)):Option ((List Int)×Int) :=
 (chk (mkOk 8 6) (chk (lenOk (List.range (Int.toNat 60))) (qx a1 (qJ) (List.range (Int.toNat 60)) 0 (List.replicate (Int.toNat 6) 0))))
theorem HO (a1:(List rf3Rule)) (r:((List Int)×Int)) (h:QV a1=some r):Run Try.prog (.call 40 [l94 none a1] (.tup [l3 none r.1,I6 r.2])):=by
 refine cW Try.func40 rfl (env0:=[(0,l94 none a1)]) ?_;unfold QV at h;refine W.seq ?_;refine W.rg ?_
 let z0:=fun t=>EN ((0,l94 none a1)::t)
 refine WO.steps 1 (e1:=z0 [(2,.nils)]) (by kernel_rfl) ?_;refine WO.mv [.nil 2 3 1 1200002] (env':=z0 [(2,.sb 1200002 3 1 0 (([]:(List Int)).length)),(1200002,.obj 3 1 (M6 ([]:(List Int))))]) (by kernel_rfl) ?_;refine WO.fn (e2:=z0 []) ?_;refine W.seq ?_;refine W.rg ?_;obtain⟨hc4,h⟩:=qg h;refine WO.makeK 0 (d:=12) (e:=3) (s:=1) (bytes:=8) (m:=6) (z:=(.int .i64 0)) (zs:=(M6 (List.replicate (Int.toNat 6) 0))) (env1:=[(0,l94 none a1),(12,.sb 1000012 3 1 0 (Int.toNat 6))]) (by kernel_rfl) hc4 (by first | exact Hx | exact (Hx (f:=(AV.int .i64)))) (e1:=z0 [(12,.sb 1000012 3 1 0 (Int.toNat 6)),(1000012,.obj 3 1 (M6 (List.replicate (Int.toNat 6) 0)))]) (by kernel_rfl) ?_
 let z1:=fun t=>z0 ((4,.sb 1000012 3 1 0 (Int.toNat 6))::t)
 refine WO.fn (e2:=z1 [(1000012,.obj 3 1 (M6 (List.replicate (Int.toNat 6) 0)))]) ?_;refine W.seq ?_
 let z2:=fun t=>EN ((4,.sb 1000012 3 1 0 (Int.toNat 6))::t)
 refine W.join (σ:=((List Int))) (fun s=>z2 [(1000012,.obj 3 1 (M6 s))]) (fun s=>(qJ) s=some r) (fun v30 h=>?_) (fun hK5=>?_)
 ·have h:(qJ) v30=some r:=h;unfold qJ at h;refine W.seq ?_;refine W.join (σ:=Unit) (fun s=>z2 [(1000012,.obj 3 1 (M6 v30))]) (fun s=>(JW v30)=some r) (fun s h=>?_) (fun hK31=>?_)
  ·have h:(JW v30)=some r:=h;unfold JW at h;refine W.seq ?_;refine W.rt (e2:=[(2,.sb 1000012 3 1 0 (Int.toNat 6)),(3,.int .i64 0),(1000012,.obj 3 1 (M6 v30))]) ?_
   let z3:=fun t=>EN ((2,l3 none (snap 0 (Int.toNat 6) v30))::(3,.int .i64 0)::t)
   refine W.mv [.frz 1000012] (env':=z3 []) ((by kernel_rfl:mvAll [(2,.sb 1000012 3 1 0 (Int.toNat 6)),(3,.int .i64 0),(1000012,.obj 3 1 (M6 v30))] [.frz 1000012]=[(2,.lst 3 1 none (snapA 0 (Int.toNat 6) (M6 v30))),(3,.int .i64 0)]).trans (by first | (simp only[XI,Xd,XH];done) | (simp only[XI,Xd,XH];kernel_rfl))) ?_;refine W.wk (env':=z3 []) ?_;cases h;exact W.ret (show qm _ _ _=some _ by kernel_rfl)
  refine W.seq ?_
  let z4:=fun t=>z2 ((54,.sb 1000012 3 1 0 (Int.toNat 6))::(55,I6 (((Int.toNat 6):Nat):Int))::t)
  refine W.rt (e2:=z4 [(56,.int .i64 0),(1000012,.obj 3 1 (M6 v30))]) ?_;refine W.block ?_;obtain⟨hl4,h⟩:=qg h;refine W.wk (env':=z4 [(56,I6 ((0:Nat):Int)),(1000012,.obj 3 1 (M6 v30))]) ?_;refine W.range (σ:=Unit) (List.range (Int.toNat (((Int.toNat 6):Nat):Int))) (fun k4 s=>z4 [(56,I6 (k4:Int)),(1000012,.obj 3 1 (M6 v30))]) (fun r0 k0 s=>Jw v30 (JW v30) r0 k0=some r) (fun s h=>?_) (fun x4 r4 k4 s hx4 hk4 h hN4=>?_) () h
  ·have h:Jw v30 (JW v30) [] ((List.range (Int.toNat (((Int.toNat 6):Nat):Int)))).length=some r:=h;rw[Jw.eq_1]at h;refine W.seq ?_;refine W.rg ?_
   let z5:=fun t=>z4 ((56,I6 (((List.range (Int.toNat (((Int.toNat 6):Nat):Int)))).length:Int))::(57,.bool false)::(1000012,.obj 3 1 (M6 v30))::t)
   refine WO.pk 0 (some (.bool (decide ((((List.range (Int.toNat (((Int.toNat 6):Nat):Int)))).length:Int)<(((Int.toNat 6):Nat):Int))))) (v:=.bool false) (by rw[VW (n:=(((Int.toNat 6):Nat):Int))]) (e1:=z5 []) ?_;refine WO.fn (e2:=z5 []) ?_;refine W.seq ?_;refine W.cb false (fun h=>Bool.noConfusion h) (fun _=>?_);refine W.exit ?_;refine W.wk (env':=z2 [(1000012,.obj 3 1 (M6 v30))]) ?_;exact hK31 () h
  ·have h:Jw v30 (JW v30) (x4::r4) k4=some r:=h;rw[Jw.eq_2]at h;refine W.seq ?_;refine W.rg ?_
   let z6:=fun t=>z4 ((56,I6 (k4:Int))::t)
   let z7:=fun t=>z6 ((57,.bool true)::(1000012,.obj 3 1 (M6 v30))::t)
   refine WO.pk 0 (some (.bool (decide ((k4:Int)<(((Int.toNat 6):Nat):Int))))) (v:=.bool true) (by rw[UU hk4]) (e1:=z7 []) ?_;refine WO.fn (e2:=z7 []) ?_;refine W.seq ?_;refine W.cb true (fun _=>?_) (fun h=>Bool.noConfusion h);refine W.skip ?_;refine W.wk (env':=z6 [(1000012,.obj 3 1 (M6 v30))]) ?_;refine W.seq ?_;refine W.block ?_;refine W.seq ?_;refine W.rg ?_;obtain⟨hc35,h⟩:=qg h
   let z8:=fun t=>z6 ((58,.pe 1000012 1 (0+Int.toNat (k4:Int)) 0)::t)
   refine WO.pi 0 (v:=.pe 1000012 1 (0+Int.toNat (k4:Int)) 0) hc35 (e1:=z8 [(1000012,.obj 3 1 (M6 v30))]) ?_;obtain⟨e36,he36,h⟩:=qf h;refine WO.pl 0 (v:=I6 e36) (AV.int .i64) 3 0 he36 (e1:=z8 [(59,I6 e36),(1000012,.obj 3 1 (M6 v30))]) ?_;refine WO.fn (e2:=z2 [(11,I6 e36),(54,.sb 1000012 3 1 0 (Int.toNat 6)),(55,I6 (((Int.toNat 6):Nat):Int)),(56,I6 (k4:Int)),(1000012,.obj 3 1 (M6 v30))]) ?_;refine W.seq ?_;refine W.rt (e2:=z6 [(61,.bool (decide (e36 > 5))),(1000012,.obj 3 1 (M6 v30))]) ?_;refine W.cb (decide (e36 > 5)) (fun hb=>?_) (fun hb=>?_)
   ·replace h:=qo hb h;refine W.seq ?_;refine W.rg ?_;refine WO.steps 1 (e1:=[(2,.nils),(4,.sb 1000012 3 1 0 (Int.toNat 6)),(54,.sb 1000012 3 1 0 (Int.toNat 6)),(55,I6 (((Int.toNat 6):Nat):Int)),(56,I6 (k4:Int)),(61,.bool (decide (e36 > 5))),(1000012,.obj 3 1 (M6 v30))]) (by kernel_rfl) ?_
    let z9:=fun t=>EN ((2,.sb 1200002 3 1 0 (([]:(List Int)).length))::t)
    refine WO.mv [.nil 2 3 1 1200002] (env':=z9 [(4,.sb 1000012 3 1 0 (Int.toNat 6)),(54,.sb 1000012 3 1 0 (Int.toNat 6)),(55,I6 (((Int.toNat 6):Nat):Int)),(56,I6 (k4:Int)),(61,.bool (decide (e36 > 5))),(1000012,.obj 3 1 (M6 v30)),(1200002,.obj 3 1 (M6 ([]:(List Int))))]) (by kernel_rfl) ?_;refine WO.fn (e2:=z9 [(3,.int .i64 8),(1200002,.obj 3 1 (M6 ([]:(List Int))))]) ?_
    let z10:=fun t=>EN ((2,l3 none (snap 0 (([]:(List Int)).length) ([]:(List Int))))::(3,.int .i64 8)::t)
    refine W.mv [.frz 1200002] (env':=z10 []) ((by kernel_rfl:mvAll [(2,.sb 1200002 3 1 0 (([]:(List Int)).length)),(3,.int .i64 8),(1200002,.obj 3 1 (M6 ([]:(List Int))))] [.frz 1200002]=[(2,.lst 3 1 none (snapA 0 (([]:(List Int)).length) (M6 ([]:(List Int))))),(3,.int .i64 8)]).trans (by first | (simp only[XI,Xd,XH];done) | (simp only[XI,Xd,XH];kernel_rfl))) ?_;refine W.wk (env':=z10 []) ?_;cases h;exact W.ret (show qm _ _ _=some _ by kernel_rfl)
   replace h:=qp hb h;refine W.skip ?_;refine W.wk (env':=z6 [(1000012,.obj 3 1 (M6 v30))]) ?_;refine W.rg ?_;refine WO.pk 0 (some (I6 (IntKind.wrap .i64 ((k4:Int)+1)))) (v:=I6 ((k4+1:Nat):Int)) (by rw[qu hl4 hk4]) (e1:=z6 [(62,I6 ((k4+1:Nat):Int)),(1000012,.obj 3 1 (M6 v30))]) ?_;refine WO.fn (e2:=z4 [(56,I6 ((k4+1:Nat):Int)),(1000012,.obj 3 1 (M6 v30))]) ?_;exact hN4 () h
 refine W.seq ?_;refine W.rt (e2:=z1 [(13,.int .i64 0),(1000012,.obj 3 1 (M6 (List.replicate (Int.toNat 6) 0)))]) ?_;refine W.block ?_;obtain⟨hl1,h⟩:=qg h;refine W.wk (env':=z1 [(13,I6 ((0:Nat):Int)),(1000012,.obj 3 1 (M6 (List.replicate (Int.toNat 6) 0)))]) ?_;refine W.range (σ:=((List Int))) (List.range (Int.toNat 60)) (fun k1 s=>z1 [(13,I6 (k1:Int)),(1000012,.obj 3 1 (M6 s))]) (fun r0 k0 s=>qx a1 (qJ) r0 k0 s=some r) (fun v7 h=>?_) (fun x1 r1 k1 s hx1 hk1 h hN1=>?_) (List.replicate (Int.toNat 6) 0) h
 ·have h:qx a1 (qJ) [] ((List.range (Int.toNat 60))).length v7=some r:=h;rw[qx.eq_1]at h;refine W.seq ?_;refine W.rg ?_
  let z11:=fun t=>z1 ((13,I6 (((List.range (Int.toNat 60))).length:Int))::(14,.bool false)::(1000012,.obj 3 1 (M6 v7))::t)
  refine WO.pk 0 (some (.bool (decide ((((List.range (Int.toNat 60))).length:Int)<60)))) (v:=.bool false) (by rw[VW (n:=60)]) (e1:=z11 []) ?_;refine WO.fn (e2:=z11 []) ?_;refine W.seq ?_;refine W.cb false (fun h=>Bool.noConfusion h) (fun _=>?_);refine W.exit ?_;refine W.wk (env':=z2 [(1000012,.obj 3 1 (M6 v7))]) ?_;exact hK5 v7 h
 ·obtain⟨v7,rfl⟩:∃ x,x=s:=⟨s,rfl⟩;have h:qx a1 (qJ) (x1::r1) k1 v7=some r:=h;rw[qx.eq_2]at h;refine W.seq ?_;refine W.rg ?_
  let z12:=fun t=>z1 ((13,I6 (k1:Int))::t)
  let z13:=fun t=>z12 ((14,.bool true)::(1000012,.obj 3 1 (M6 v7))::t)
  refine WO.pk 0 (some (.bool (decide ((k1:Int)<60)))) (v:=.bool true) (by rw[UU hk1]) (e1:=z13 []) ?_;refine WO.fn (e2:=z13 []) ?_;refine W.seq ?_;refine W.cb true (fun _=>?_) (fun h=>Bool.noConfusion h);refine W.skip ?_;refine W.wk (env':=z12 [(1000012,.obj 3 1 (M6 v7))]) ?_;refine W.seq ?_;refine W.join (σ:=((List Int))) (fun s=>z12 [(1000012,.obj 3 1 (M6 s))]) (fun s=>(jv (qx a1 (qJ) r1 (k1+1))) s=some r) (fun v29 h=>?_) (fun hK8=>?_)
  ·have h:(jv (qx a1 (qJ) r1 (k1+1))) v29=some r:=h;unfold jv at h;refine W.rg ?_;refine WO.pk 0 (some (I6 (IntKind.wrap .i64 ((k1:Int)+1)))) (v:=I6 ((k1+1:Nat):Int)) (by rw[qu hl1 hk1]) (e1:=z12 [(53,I6 ((k1+1:Nat):Int)),(1000012,.obj 3 1 (M6 v29))]) ?_;refine WO.fn (e2:=z1 [(13,I6 ((k1+1:Nat):Int)),(1000012,.obj 3 1 (M6 v29))]) ?_;exact hN1 v29 h
  refine W.block ?_;refine W.seq ?_;refine W.rg ?_
  let z14:=fun t=>z12 ((15,l94 none a1)::(16,I6 (a1.length:Int))::t)
  refine WO.pk 1 (some (I6 ((List.map qK a1).length:Int))) (v:=I6 (a1.length:Int)) (by rw[List.length_map]) (e1:=z14 [(1000012,.obj 3 1 (M6 v7))]) ?_;refine WO.fn (e2:=z14 [(17,.int .i64 0),(1000012,.obj 3 1 (M6 v7))]) ?_;refine W.block ?_;obtain⟨hl2,h⟩:=qg h;refine W.wk (env':=z14 [(17,I6 ((0:Nat):Int)),(1000012,.obj 3 1 (M6 v7))]) ?_;refine W.range (σ:=((List Int))) a1 (fun k2 s=>z14 [(17,I6 (k2:Int)),(1000012,.obj 3 1 (M6 s))]) (fun r0 k0 s=>jc (jv (qx a1 (qJ) r1 (k1+1))) r0 k0 s=some r) (fun v10 h=>?_) (fun x2 r2 k2 s hx2 hk2 h hN2=>?_) v7 h
  ·have h:jc (jv (qx a1 (qJ) r1 (k1+1))) [] (a1).length v10=some r:=h;rw[jc.eq_1]at h;refine W.seq ?_;refine W.rg ?_
   let z15:=fun t=>z14 ((17,I6 ((a1).length:Int))::(18,.bool false)::(1000012,.obj 3 1 (M6 v10))::t)
   refine WO.pk 0 (some (.bool (decide (((a1).length:Int)<(a1.length:Int))))) (v:=.bool false) (by rw[qD (l:=a1)]) (e1:=z15 []) ?_;refine WO.fn (e2:=z15 []) ?_;refine W.seq ?_;refine W.cb false (fun h=>Bool.noConfusion h) (fun _=>?_);refine W.exit ?_;refine W.wk (env':=z12 [(1000012,.obj 3 1 (M6 v10))]) ?_;exact hK8 v10 h
  ·obtain⟨v10,rfl⟩:∃ x,x=s:=⟨s,rfl⟩;have h:jc (jv (qx a1 (qJ) r1 (k1+1))) (x2::r2) k2 v10=some r:=h;rw[jc.eq_2]at h;refine W.seq ?_;refine W.rg ?_
   let z16:=fun t=>z14 ((17,I6 (k2:Int))::t)
   let z17:=fun t=>z16 ((18,.bool true)::(1000012,.obj 3 1 (M6 v10))::t)
   refine WO.pk 0 (some (.bool (decide ((k2:Int)<(a1.length:Int))))) (v:=.bool true) (by rw[qX hk2]) (e1:=z17 []) ?_;refine WO.fn (e2:=z17 []) ?_;refine W.seq ?_;refine W.cb true (fun _=>?_) (fun h=>Bool.noConfusion h);refine W.skip ?_;refine W.wk (env':=z16 [(1000012,.obj 3 1 (M6 v10))]) ?_;refine W.seq ?_;refine W.join (σ:=((List Int))) (fun s=>z16 [(1000012,.obj 3 1 (M6 s))]) (fun s=>(Jl (jc (jv (qx a1 (qJ) r1 (k1+1))) r2 (k2+1))) s=some r) (fun v28 h=>?_) (fun hK11=>?_)
   ·have h:(Jl (jc (jv (qx a1 (qJ) r1 (k1+1))) r2 (k2+1))) v28=some r:=h;unfold Jl at h;refine W.rg ?_;refine WO.pk 0 (some (I6 (IntKind.wrap .i64 ((k2:Int)+1)))) (v:=I6 ((k2+1:Nat):Int)) (by rw[qu hl2 hk2]) (e1:=z16 [(52,I6 ((k2+1:Nat):Int)),(1000012,.obj 3 1 (M6 v28))]) ?_;refine WO.fn (e2:=z14 [(17,I6 ((k2+1:Nat):Int)),(1000012,.obj 3 1 (M6 v28))]) ?_;exact hN2 v28 h
   refine W.block ?_;refine W.seq ?_;refine W.rg ?_;refine WO.pk 0 (if (0:Int)≤(k2:Int) then ((List.map qK a1)[Int.toNat (k2:Int)]?).map AV.ptr else none) (v:=.ptr (.agg [I6 x2.qd.qb,l3 none x2.qd.qa,l96 none x2.qe])) (qY (f:=qK) hx2) (e1:=z16 [(19,.ptr (.agg [I6 x2.qd.qb,l3 none x2.qd.qa,l96 none x2.qe])),(1000012,.obj 3 1 (M6 v10))]) ?_
   let z18:=fun t=>z1 ((6,.ptr (.agg [I6 x2.qd.qb,l3 none x2.qd.qa,l96 none x2.qe]))::(13,I6 (k1:Int))::(15,l94 none a1)::(16,I6 (a1.length:Int))::(17,I6 (k2:Int))::t)
   refine WO.fin [0,4,6,13,15,16,17,1000012] [6] [] [] (e2:=z18 [(1000012,.obj 3 1 (M6 v10))]) (by kernel_rfl) (fun _ h=>h) ?_;refine W.seq ?_;refine W.rg ?_;refine WO.pk 2 (some (I6 ((List.map jB x2.qe).length:Int))) (v:=I6 (x2.qe.length:Int)) (by rw[List.length_map]) (e1:=z18 [(21,.ptr (l96 none x2.qe)),(22,l96 none x2.qe),(23,I6 (x2.qe.length:Int)),(1000012,.obj 3 1 (M6 v10))]) ?_
   let z19:=fun t=>z18 ((22,l96 none x2.qe)::(23,I6 (x2.qe.length:Int))::t)
   refine WO.fn (e2:=z19 [(24,.int .i64 0),(1000012,.obj 3 1 (M6 v10))]) ?_;refine W.block ?_;obtain⟨hl3,h⟩:=qg h;refine W.wk (env':=z19 [(24,I6 ((0:Nat):Int)),(1000012,.obj 3 1 (M6 v10))]) ?_;refine W.range (σ:=((List Int))) x2.qe (fun k3 s=>z19 [(24,I6 (k3:Int)),(1000012,.obj 3 1 (M6 s))]) (fun r0 k0 s=>jD x2 (Jl (jc (jv (qx a1 (qJ) r1 (k1+1))) r2 (k2+1))) r0 k0 s=some r) (fun v14 h=>?_) (fun x3 r3 k3 s hx3 hk3 h hN3=>?_) v10 h
   ·have h:jD x2 (Jl (jc (jv (qx a1 (qJ) r1 (k1+1))) r2 (k2+1))) [] (x2.qe).length v14=some r:=h;rw[jD.eq_1]at h;refine W.seq ?_;refine W.rg ?_
    let z20:=fun t=>z19 ((24,I6 ((x2.qe).length:Int))::(25,.bool false)::(1000012,.obj 3 1 (M6 v14))::t)
    refine WO.pk 0 (some (.bool (decide (((x2.qe).length:Int)<(x2.qe.length:Int))))) (v:=.bool false) (by rw[qD (l:=x2.qe)]) (e1:=z20 []) ?_;refine WO.fn (e2:=z20 []) ?_;refine W.seq ?_;refine W.cb false (fun h=>Bool.noConfusion h) (fun _=>?_);refine W.exit ?_;refine W.wk (env':=z16 [(1000012,.obj 3 1 (M6 v14))]) ?_;exact hK11 v14 h
   ·obtain⟨v14,rfl⟩:∃ x,x=s:=⟨s,rfl⟩;have h:jD x2 (Jl (jc (jv (qx a1 (qJ) r1 (k1+1))) r2 (k2+1))) (x3::r3) k3 v14=some r:=h;rw[jD.eq_2]at h;refine W.seq ?_;refine W.rg ?_
    let z21:=fun t=>z19 ((24,I6 (k3:Int))::t)
    let z22:=fun t=>z21 ((25,.bool true)::(1000012,.obj 3 1 (M6 v14))::t)
    refine WO.pk 0 (some (.bool (decide ((k3:Int)<(x2.qe.length:Int))))) (v:=.bool true) (by rw[qX hk3]) (e1:=z22 []) ?_;refine WO.fn (e2:=z22 []) ?_;refine W.seq ?_;refine W.cb true (fun _=>?_) (fun h=>Bool.noConfusion h);refine W.skip ?_;refine W.wk (env':=z21 [(1000012,.obj 3 1 (M6 v14))]) ?_;refine W.seq ?_;refine W.block ?_;refine W.seq ?_;refine W.rg ?_;refine WO.pk 0 (if (0:Int)≤(k3:Int) then ((List.map jB x2.qe)[Int.toNat (k3:Int)]?).map AV.ptr else none) (v:=.ptr (.agg [.bool x3.qi,I6 x3.qc.qb,l3 none x3.qc.qa])) (qY (f:=jB) hx3) (e1:=z21 [(26,.ptr (.agg [.bool x3.qi,I6 x3.qc.qb,l3 none x3.qc.qa])),(1000012,.obj 3 1 (M6 v14))]) ?_
    let z23:=fun t=>z1 ((6,.ptr (.agg [I6 x2.qd.qb,l3 none x2.qd.qa,l96 none x2.qe]))::t)
    let z24:=fun t=>z23 ((8,.ptr (.agg [.bool x3.qi,I6 x3.qc.qb,l3 none x3.qc.qa]))::(13,I6 (k1:Int))::(15,l94 none a1)::(16,I6 (a1.length:Int))::(17,I6 (k2:Int))::(22,l96 none x2.qe)::(23,I6 (x2.qe.length:Int))::(24,I6 (k3:Int))::t)
    refine WO.fin [0,4,6,8,13,15,16,17,22,23,24,1000012] [8] [] [] (e2:=z24 [(1000012,.obj 3 1 (M6 v14))]) (by kernel_rfl) (fun _ h=>h) ?_;refine W.seq ?_;refine W.rg ?_;obtain⟨hc18,h⟩:=qg h
    let z25:=fun t=>z24 ((28,.sb 1000012 3 1 0 (Int.toNat 6))::(29,.ptr (.agg [I6 x3.qc.qb,l3 none x3.qc.qa]))::(30,.ptr (I6 x3.qc.qb))::(31,I6 x3.qc.qb)::(32,.pe 1000012 1 (0+Int.toNat x3.qc.qb) 0)::t)
    refine WO.pi 4 (v:=.pe 1000012 1 (0+Int.toNat x3.qc.qb) 0) hc18 (e1:=z25 [(1000012,.obj 3 1 (M6 v14))]) ?_;obtain⟨e19,he19,h⟩:=qf h;refine WO.pl 0 (v:=I6 e19) (AV.int .i64) 3 0 he19 (e1:=z25 [(33,I6 e19),(1000012,.obj 3 1 (M6 v14))]) ?_;refine WO.fn (e2:=z23 [(8,.ptr (.agg [.bool x3.qi,I6 x3.qc.qb,l3 none x3.qc.qa])),(9,I6 e19),(13,I6 (k1:Int)),(15,l94 none a1),(16,I6 (a1.length:Int)),(17,I6 (k2:Int)),(22,l96 none x2.qe),(23,I6 (x2.qe.length:Int)),(24,I6 (k3:Int)),(1000012,.obj 3 1 (M6 v14))]) ?_;refine W.seq ?_;refine W.join (σ:=(Int)) (fun s=>z23 [(9,I6 s),(13,I6 (k1:Int)),(15,l94 none a1),(16,I6 (a1.length:Int)),(17,I6 (k2:Int)),(22,l96 none x2.qe),(23,I6 (x2.qe.length:Int)),(24,I6 (k3:Int)),(1000012,.obj 3 1 (M6 v14))]) (fun s=>(Qt x2 v14 (jD x2 (Jl (jc (jv (qx a1 (qJ) r1 (k1+1))) r2 (k2+1))) r3 (k3+1))) s=some r) (fun v22 h=>?_) (fun hK20=>?_)
    ·have h:(Qt x2 v14 (jD x2 (Jl (jc (jv (qx a1 (qJ) r1 (k1+1))) r2 (k2+1))) r3 (k3+1))) v22=some r:=h;unfold Qt at h;refine W.rg ?_;obtain⟨hc23,h⟩:=qg h
     let z26:=fun t=>z23 ((9,I6 v22)::(13,I6 (k1:Int))::(15,l94 none a1)::(16,I6 (a1.length:Int))::(17,I6 (k2:Int))::(22,l96 none x2.qe)::(23,I6 (x2.qe.length:Int))::(24,I6 (k3:Int))::(38,.sb 1000012 3 1 0 (Int.toNat 6))::(39,.ptr (.agg [I6 x2.qd.qb,l3 none x2.qd.qa]))::(40,.ptr (I6 x2.qd.qb))::(41,I6 x2.qd.qb)::(42,.sb 1000012 3 1 0 (Int.toNat 6))::(43,.ptr (.agg [I6 x2.qd.qb,l3 none x2.qd.qa]))::(44,.ptr (I6 x2.qd.qb))::(45,I6 x2.qd.qb)::(46,.pe 1000012 1 (0+Int.toNat x2.qd.qb) 0)::t)
     refine WO.pi 8 (v:=.pe 1000012 1 (0+Int.toNat x2.qd.qb) 0) hc23 (e1:=z26 [(1000012,.obj 3 1 (M6 v14))]) ?_;obtain⟨e24,he24,h⟩:=qf h;refine WO.pl 0 (v:=I6 e24) (AV.int .i64) 3 0 he24 (e1:=z26 [(47,I6 e24),(1000012,.obj 3 1 (M6 v14))]) ?_;obtain⟨hc25,h⟩:=qg h
     let z27:=fun t=>z26 ((47,I6 e24)::(48,I6 v22)::(49,I6 (if v22 > e24 then v22 else e24))::(50,.pe 1000012 1 (0+Int.toNat x2.qd.qb) 0)::t)
     refine WO.pi 2 (v:=.pe 1000012 1 (0+Int.toNat x2.qd.qb) 0) hc25 (e1:=z27 [(1000012,.obj 3 1 (M6 v14))]) ?_;obtain⟨u26,hu26,h⟩:=qf h;obtain⟨y27,hyy27,hzy27⟩:=qbP hu26;refine WO.sk 0 (id:=1000012) (e:=3) (s:=1) (off:=0) (vs:=[I6 (if v22 > e24 then v22 else e24)]) (AV.int .i64) hyy27 hzy27 (e1:=z27 [(1000012,.obj 3 1 (M6 u26))]) ?_;refine WO.fn (e2:=z21 [(1000012,.obj 3 1 (M6 u26))]) ?_;refine W.rg ?_;refine WO.pk 0 (some (I6 (IntKind.wrap .i64 ((k3:Int)+1)))) (v:=I6 ((k3+1:Nat):Int)) (by rw[qu hl3 hk3]) (e1:=z21 [(51,I6 ((k3+1:Nat):Int)),(1000012,.obj 3 1 (M6 u26))]) ?_;refine WO.fn (e2:=z19 [(24,I6 ((k3+1:Nat):Int)),(1000012,.obj 3 1 (M6 u26))]) ?_;exact hN3 u26 h
    refine W.seq ?_
    let z28:=fun t=>z23 ((9,I6 e19)::(13,I6 (k1:Int))::(15,l94 none a1)::(16,I6 (a1.length:Int))::(17,I6 (k2:Int))::(22,l96 none x2.qe)::(23,I6 (x2.qe.length:Int))::(24,I6 (k3:Int))::t)
    refine W.rt (e2:=z28 [(35,.bool x3.qi),(1000012,.obj 3 1 (M6 v14))]) ?_;refine W.cb x3.qi (fun hb=>?_) (fun hb=>?_)
    ·replace h:=qo hb h;refine W.rt (e2:=z23 [(9,I6 (W6 (e19+1))),(13,I6 (k1:Int)),(15,l94 none a1),(16,I6 (a1.length:Int)),(17,I6 (k2:Int)),(22,l96 none x2.qe),(23,I6 (x2.qe.length:Int)),(24,I6 (k3:Int)),(1000012,.obj 3 1 (M6 v14))]) ?_;exact hK20 (W6 (e19+1)) h
    replace h:=qp hb h;refine W.skip ?_;refine W.wk (env':=z28 [(1000012,.obj 3 1 (M6 v14))]) ?_;exact hK20 e19 h
end Go.AM
