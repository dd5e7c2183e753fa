/- s -/
import Derived.Test.YtdghpfejmlpjhaaRAT
set_option maxRecDepth 100000
set_option linter.unusedVariables false
set_option linter.unusedSimpArgs false
namespace Go.AM
open Go.Proofs
def Qj (v11:Bool):Option Bool :=
 (some v11)
def JF (a1:apiFact):Option Bool :=
 (bif (decide (a1.qb ≥ 0)) then (bif (decide (a1.qb≤5)) then (bif (decide ((a1.qa.length:Int) ≥ 1)) then ((Qj) (decide ((a1.qa.length:Int)≤2))) else ((Qj) false)) else ((Qj) false)) else ((Qj) false))
def XA (N1:(Option Bool)) (v8:Bool):Option Bool :=
 (bif v8 then (some false) else N1)
def jT (K3:(Option Bool)):List Int→Nat→Option Bool
 | [],k1=>K3
 | x1::r1,k1=>(bif (decide (x1<1)) then ((XA (jT K3 r1 (k1+1))) true) else ((XA (jT K3 r1 (k1+1))) (decide (x1 > 6))))
def YN (a1:apiFact):Option Bool :=
 (chk (lenOk a1.qa) (jT (JF a1) a1.qa 0))
theorem Ub (a1:apiFact) (r:Bool) (h:YN a1=some r):Run Try.prog (.call 33 [.agg [I6 a1.qb,l3 none a1.qa]] (.bool r)):=by
 refine cW Try.func33 rfl (env0:=[(0,.agg [I6 a1.qb,l3 none a1.qa])]) ?_;unfold YN at h;refine W.seq ?_
 let z0:=fun t=>EN ((1,.ptr (.agg [I6 a1.qb,l3 none a1.qa]))::t)
 refine W.regT [1] [1] [] [] (e2:=z0 []) (by kernel_rfl) (by kernel_rfl) (fun _ h=>h) ?_;refine W.seq ?_;refine W.join (σ:=Unit) (fun s=>z0 []) (fun s=>(JF a1)=some r) (fun s h=>?_) (fun hK3=>?_)
 ·have h:(JF a1)=some r:=h;unfold JF at h;refine W.seq ?_;refine W.join (σ:=(Bool)) (fun s=>[(2,.bool s)]) (fun s=>(Qj) s=some r) (fun v11 h=>?_) (fun hK10=>?_)
  ·have h:(Qj) v11=some r:=h;unfold Qj at h;refine W.wk (env':=[(2,.bool v11)]) ?_;cases h;exact W.ret (show qi _ _ _=some _ by kernel_rfl)
  refine W.rg ?_
  let z1:=fun t=>z0 ((19,.ptr (I6 a1.qb))::(20,I6 a1.qb)::t)
  refine WO.bk 4 (fun b=>z1 [(21,.bool b),(22,.bool b)]) (decide (a1.qb ≥ 0)) (fun hb=>?_) (fun hb=>?_)
  ·replace h:=qo hb h
   let z2:=fun t=>z1 ((21,.bool true)::(22,.bool true)::(23,.ptr (I6 a1.qb))::(24,I6 a1.qb)::t)
   refine WO.bk 5 (fun b=>z2 [(25,.bool b),(26,.bool b),(27,.bool b)]) (decide (a1.qb≤5)) (fun hb=>?_) (fun hb=>?_)
   ·replace h:=qo hb h
    let z3:=fun t=>z2 ((25,.bool true)::(26,.bool true)::(27,.bool true)::(28,.ptr (l3 none a1.qa))::(29,l3 none a1.qa)::(30,I6 (a1.qa.length:Int))::t)
    refine WO.pk 2 (some (I6 ((M6 a1.qa).length:Int))) (v:=I6 (a1.qa.length:Int)) (by rw[List.length_map]) (e1:=z3 []) ?_;refine WO.bk 3 (fun b=>z3 [(31,.bool b),(32,.bool b),(33,.bool b)]) (decide ((a1.qa.length:Int) ≥ 1)) (fun hb=>?_) (fun hb=>?_)
    ·replace h:=qo hb h;refine WO.pk 2 (some (I6 ((M6 a1.qa).length:Int))) (v:=I6 (a1.qa.length:Int)) (by rw[List.length_map]) (e1:=z3 [(31,.bool true),(32,.bool true),(33,.bool true),(34,.ptr (l3 none a1.qa)),(35,l3 none a1.qa),(36,I6 (a1.qa.length:Int))]) ?_;refine WO.fn (e2:=[(2,.bool (decide ((a1.qa.length:Int)≤2)))]) ?_;exact hK10 (decide ((a1.qa.length:Int)≤2)) h
    replace h:=qp hb h;refine WO.fn (e2:=[(2,.bool false)]) ?_;exact hK10 false h
   replace h:=qp hb h;refine WO.fn (e2:=[(2,.bool false)]) ?_;exact hK10 false h
  replace h:=qp hb h;refine WO.fn (e2:=[(2,.bool false)]) ?_;exact hK10 false h
 refine W.seq ?_;refine W.rg ?_;refine WO.pk 2 (some (I6 ((M6 a1.qa).length:Int))) (v:=I6 (a1.qa.length:Int)) (by rw[List.length_map]) (e1:=z0 [(5,.ptr (l3 none a1.qa)),(6,l3 none a1.qa),(7,I6 (a1.qa.length:Int))]) ?_
 let z4:=fun t=>z0 ((6,l3 none a1.qa)::(7,I6 (a1.qa.length:Int))::t)
 refine WO.fn (e2:=z4 [(8,.int .i64 0)]) ?_;refine W.block ?_;obtain⟨hl1,h⟩:=qg h;refine W.wk (env':=z4 [(8,I6 ((0:Nat):Int))]) ?_;refine W.range (σ:=Unit) a1.qa (fun k1 s=>z4 [(8,I6 (k1:Int))]) (fun r0 k0 s=>jT (JF a1) r0 k0=some r) (fun s h=>?_) (fun x1 r1 k1 s hx1 hk1 h hN1=>?_) () h
 ·have h:jT (JF a1) [] (a1.qa).length=some r:=h;rw[jT.eq_1]at h;refine W.seq ?_;refine W.rg ?_
  let z5:=fun t=>z4 ((8,I6 ((a1.qa).length:Int))::(9,.bool false)::t)
  refine WO.pk 0 (some (.bool (decide (((a1.qa).length:Int)<(a1.qa.length:Int))))) (v:=.bool false) (by rw[qM (l:=a1.qa)]) (e1:=z5 []) ?_;refine WO.fn (e2:=z5 []) ?_;refine W.seq ?_;refine W.cb false (fun h=>Bool.noConfusion h) (fun _=>?_);refine W.exit ?_;refine W.wk (env':=z0 []) ?_;exact hK3 () h
 ·have h:jT (JF a1) (x1::r1) k1=some r:=h;rw[jT.eq_2]at h;refine W.seq ?_;refine W.rg ?_
  let z6:=fun t=>z4 ((8,I6 (k1:Int))::t)
  refine WO.pk 0 (some (.bool (decide ((k1:Int)<(a1.qa.length:Int))))) (v:=.bool true) (by rw[qY hk1]) (e1:=z6 [(9,.bool true)]) ?_;refine WO.fn (e2:=z6 [(9,.bool true)]) ?_;refine W.seq ?_;refine W.cb true (fun _=>?_) (fun h=>Bool.noConfusion h);refine W.skip ?_;refine W.wk (env':=z6 []) ?_;refine W.seq ?_;refine W.block ?_;refine W.seq ?_;refine W.rg ?_;refine WO.pk 0 (if (0:Int)≤(k1:Int) then ((M6 a1.qa)[Int.toNat (k1:Int)]?).map AV.ptr else none) (v:=.ptr (I6 x1)) (qZ (f:=(AV.int .i64)) hx1) (e1:=z6 [(10,.ptr (I6 x1))]) ?_
  let z7:=fun t=>z0 ((4,I6 x1)::(6,l3 none a1.qa)::(7,I6 (a1.qa.length:Int))::(8,I6 (k1:Int))::t)
  refine WO.fn (e2:=z7 []) ?_;refine W.seq ?_;refine W.join (σ:=(Bool)) (fun s=>z6 [(17,.bool s)]) (fun s=>(XA (jT (JF a1) r1 (k1+1))) s=some r) (fun v8 h=>?_) (fun hK7=>?_)
  ·have h:(XA (jT (JF a1) r1 (k1+1))) v8=some r:=h;unfold XA at h;refine W.cb v8 (fun hb=>?_) (fun hb=>?_)
   ·replace h:=qo hb h;refine W.seq ?_;refine W.rt (e2:=[(2,.bool false)]) ?_;refine W.wk (env':=[(2,.bool false)]) ?_;cases h;exact W.ret (show qi _ _ _=some _ by kernel_rfl)
   replace h:=qp hb h;refine W.skip ?_;refine W.wk (env':=z6 []) ?_;refine W.rg ?_;refine WO.pk 0 (some (I6 (IntKind.wrap .i64 ((k1:Int)+1)))) (v:=I6 ((k1+1:Nat):Int)) (by rw[qC hl1 hk1]) (e1:=z6 [(18,I6 ((k1+1:Nat):Int))]) ?_;refine WO.fn (e2:=z4 [(8,I6 ((k1+1:Nat):Int))]) ?_;exact hN1 () h
  refine W.rg ?_;refine WO.bk 3 (fun b=>z7 [(12,I6 x1),(13,.bool b),(14,.bool b)]) (decide (x1<1)) (fun hb=>?_) (fun hb=>?_)
  ·replace h:=qo hb h;refine WO.fn (e2:=z6 [(17,.bool true)]) ?_;exact hK7 true h
  replace h:=qp hb h;refine WO.fn (e2:=z6 [(17,.bool (decide (x1 > 6)))]) ?_;exact hK7 (decide (x1 > 6)) h
def QR (v11:Bool):Option Bool :=
 (some v11)
def Qz (a1:rf2Atom):Option Bool :=
 (bif (decide (a1.qb ≥ 0)) then (bif (decide (a1.qb≤5)) then (bif (decide ((a1.qa.length:Int) ≥ 1)) then ((QR) (decide ((a1.qa.length:Int)≤2))) else ((QR) false)) else ((QR) false)) else ((QR) false))
def Yu (N1:(Option Bool)) (v8:Bool):Option Bool :=
 (bif v8 then (some false) else N1)
def Jw (K3:(Option Bool)):List Int→Nat→Option Bool
 | [],k1=>K3
 | x1::r1,k1=>(bif (decide (x1<(-6))) then ((Yu (Jw K3 r1 (k1+1))) true) else ((Yu (Jw K3 r1 (k1+1))) (decide (x1 > 7))))
def Vk (a1:rf2Atom):Option Bool :=
 (chk (lenOk a1.qa) (Jw (Qz a1) a1.qa 0))
theorem NH (a1:rf2Atom) (r:Bool) (h:Vk a1=some r):Run Try.prog (.call 61 [.agg [I6 a1.qb,l3 none a1.qa]] (.bool r)):=by
 refine cW Try.func61 rfl (env0:=[(0,.agg [I6 a1.qb,l3 none a1.qa])]) ?_;unfold Vk at h;refine W.seq ?_
 let z0:=fun t=>EN ((1,.ptr (.agg [I6 a1.qb,l3 none a1.qa]))::t)
 refine W.regT [1] [1] [] [] (e2:=z0 []) (by kernel_rfl) (by kernel_rfl) (fun _ h=>h) ?_;refine W.seq ?_;refine W.join (σ:=Unit) (fun s=>z0 []) (fun s=>(Qz a1)=some r) (fun s h=>?_) (fun hK3=>?_)
 ·have h:(Qz a1)=some r:=h;unfold Qz at h;refine W.seq ?_;refine W.join (σ:=(Bool)) (fun s=>[(2,.bool s)]) (fun s=>(QR) s=some r) (fun v11 h=>?_) (fun hK10=>?_)
  ·have h:(QR) v11=some r:=h;unfold QR at h;refine W.wk (env':=[(2,.bool v11)]) ?_;cases h;exact W.ret (show qi _ _ _=some _ by kernel_rfl)
  refine W.rg ?_
  let z1:=fun t=>z0 ((19,.ptr (I6 a1.qb))::(20,I6 a1.qb)::t)
  refine WO.bk 4 (fun b=>z1 [(21,.bool b),(22,.bool b)]) (decide (a1.qb ≥ 0)) (fun hb=>?_) (fun hb=>?_)
  ·replace h:=qo hb h
   let z2:=fun t=>z1 ((21,.bool true)::(22,.bool true)::(23,.ptr (I6 a1.qb))::(24,I6 a1.qb)::t)
   refine WO.bk 5 (fun b=>z2 [(25,.bool b),(26,.bool b),(27,.bool b)]) (decide (a1.qb≤5)) (fun hb=>?_) (fun hb=>?_)
   ·replace h:=qo hb h
    let z3:=fun t=>z2 ((25,.bool true)::(26,.bool true)::(27,.bool true)::(28,.ptr (l3 none a1.qa))::(29,l3 none a1.qa)::(30,I6 (a1.qa.length:Int))::t)
    refine WO.pk 2 (some (I6 ((M6 a1.qa).length:Int))) (v:=I6 (a1.qa.length:Int)) (by rw[List.length_map]) (e1:=z3 []) ?_;refine WO.bk 3 (fun b=>z3 [(31,.bool b),(32,.bool b),(33,.bool b)]) (decide ((a1.qa.length:Int) ≥ 1)) (fun hb=>?_) (fun hb=>?_)
    ·replace h:=qo hb h;refine WO.pk 2 (some (I6 ((M6 a1.qa).length:Int))) (v:=I6 (a1.qa.length:Int)) (by rw[List.length_map]) (e1:=z3 [(31,.bool true),(32,.bool true),(33,.bool true),(34,.ptr (l3 none a1.qa)),(35,l3 none a1.qa),(36,I6 (a1.qa.length:Int))]) ?_;refine WO.fn (e2:=[(2,.bool (decide ((a1.qa.length:Int)≤2)))]) ?_;exact hK10 (decide ((a1.qa.length:Int)≤2)) h
    replace h:=qp hb h;refine WO.fn (e2:=[(2,.bool false)]) ?_;exact hK10 false h
   replace h:=qp hb h;refine WO.fn (e2:=[(2,.bool false)]) ?_;exact hK10 false h
  replace h:=qp hb h;refine WO.fn (e2:=[(2,.bool false)]) ?_;exact hK10 false h
 refine W.seq ?_;refine W.rg ?_;refine WO.pk 2 (some (I6 ((M6 a1.qa).length:Int))) (v:=I6 (a1.qa.length:Int)) (by rw[List.length_map]) (e1:=z0 [(5,.ptr (l3 none a1.qa)),(6,l3 none a1.qa),(7,I6 (a1.qa.length:Int))]) ?_
 let z4:=fun t=>z0 ((6,l3 none a1.qa)::(7,I6 (a1.qa.length:Int))::t)
 refine WO.fn (e2:=z4 [(8,.int .i64 0)]) ?_;refine W.block ?_;obtain⟨hl1,h⟩:=qg h;refine W.wk (env':=z4 [(8,I6 ((0:Nat):Int))]) ?_;refine W.range (σ:=Unit) a1.qa (fun k1 s=>z4 [(8,I6 (k1:Int))]) (fun r0 k0 s=>Jw (Qz a1) r0 k0=some r) (fun s h=>?_) (fun x1 r1 k1 s hx1 hk1 h hN1=>?_) () h
 ·have h:Jw (Qz a1) [] (a1.qa).length=some r:=h;rw[Jw.eq_1]at h;refine W.seq ?_;refine W.rg ?_
  let z5:=fun t=>z4 ((8,I6 ((a1.qa).length:Int))::(9,.bool false)::t)
  refine WO.pk 0 (some (.bool (decide (((a1.qa).length:Int)<(a1.qa.length:Int))))) (v:=.bool false) (by rw[qM (l:=a1.qa)]) (e1:=z5 []) ?_;refine WO.fn (e2:=z5 []) ?_;refine W.seq ?_;refine W.cb false (fun h=>Bool.noConfusion h) (fun _=>?_);refine W.exit ?_;refine W.wk (env':=z0 []) ?_;exact hK3 () h
 ·have h:Jw (Qz a1) (x1::r1) k1=some r:=h;rw[Jw.eq_2]at h;refine W.seq ?_;refine W.rg ?_
  let z6:=fun t=>z4 ((8,I6 (k1:Int))::t)
  refine WO.pk 0 (some (.bool (decide ((k1:Int)<(a1.qa.length:Int))))) (v:=.bool true) (by rw[qY hk1]) (e1:=z6 [(9,.bool true)]) ?_;refine WO.fn (e2:=z6 [(9,.bool true)]) ?_;refine W.seq ?_;refine W.cb true (fun _=>?_) (fun h=>Bool.noConfusion h);refine W.skip ?_;refine W.wk (env':=z6 []) ?_;refine W.seq ?_;refine W.block ?_;refine W.seq ?_;refine W.rg ?_;refine WO.pk 0 (if (0:Int)≤(k1:Int) then ((M6 a1.qa)[Int.toNat (k1:Int)]?).map AV.ptr else none) (v:=.ptr (I6 x1)) (qZ (f:=(AV.int .i64)) hx1) (e1:=z6 [(10,.ptr (I6 x1))]) ?_
  let z7:=fun t=>z0 ((4,I6 x1)::(6,l3 none a1.qa)::(7,I6 (a1.qa.length:Int))::(8,I6 (k1:Int))::t)
  refine WO.fn (e2:=z7 []) ?_;refine W.seq ?_;refine W.join (σ:=(Bool)) (fun s=>z6 [(17,.bool s)]) (fun s=>(Yu (Jw (Qz a1) r1 (k1+1))) s=some r) (fun v8 h=>?_) (fun hK7=>?_)
  ·have h:(Yu (Jw (Qz a1) r1 (k1+1))) v8=some r:=h;unfold Yu at h;refine W.cb v8 (fun hb=>?_) (fun hb=>?_)
   ·replace h:=qo hb h;refine W.seq ?_;refine W.rt (e2:=[(2,.bool false)]) ?_;refine W.wk (env':=[(2,.bool false)]) ?_;cases h;exact W.ret (show qi _ _ _=some _ by kernel_rfl)
   replace h:=qp hb h;refine W.skip ?_;refine W.wk (env':=z6 []) ?_;refine W.rg ?_;refine WO.pk 0 (some (I6 (IntKind.wrap .i64 ((k1:Int)+1)))) (v:=I6 ((k1+1:Nat):Int)) (by rw[qC hl1 hk1]) (e1:=z6 [(18,I6 ((k1+1:Nat):Int))]) ?_;refine WO.fn (e2:=z4 [(8,I6 ((k1+1:Nat):Int))]) ?_;exact hN1 () h
  refine W.rg ?_;refine WO.bk 3 (fun b=>z7 [(12,I6 x1),(13,.bool b),(14,.bool b)]) (decide (x1<(-6))) (fun hb=>?_) (fun hb=>?_)
  ·replace h:=qo hb h;refine WO.fn (e2:=z6 [(17,.bool true)]) ?_;exact hK7 true h
  replace h:=qp hb h;refine WO.fn (e2:=z6 [(17,.bool (decide (x1 > 7)))]) ?_;exact hK7 (decide (x1 > 7)) h
def QA (v12:Int):Option Int :=
 (some v12)
def Yv (N1:(Int→Option Int)) (v11:Int):Option Int :=
 (N1 v11)
def Jy (K4:(Int→Option Int)):List Int→Nat→Int→Option Int
 | [],k1,v6=>(K4 v6)
 | x1::r1,k1,v6=>(bif (decide (x1 ≥ 0)) then (chk (decide (0≤x1)) ((Yv (Jy K4 r1 (k1+1))) (iOr .i64 v6 (iShl .i64 1 x1)))) else ((Yv (Jy K4 r1 (k1+1))) v6))
def Zw (a1:rf2Atom):Option Int :=
 (chk (lenOk a1.qa) (Jy (QA) a1.qa 0 0))
theorem Vy (a1:rf2Atom) (r:Int) (h:Zw a1=some r):Run Try.prog (.call 62 [.agg [I6 a1.qb,l3 none a1.qa]] (I6 r)):=by
 refine cW Try.func62 rfl (env0:=[(0,.agg [I6 a1.qb,l3 none a1.qa])]) ?_;unfold Zw at h;refine W.seq ?_
 let z0:=fun t=>EN ((1,.ptr (.agg [I6 a1.qb,l3 none a1.qa]))::t)
 refine W.regT [1] [1] [] [] (e2:=z0 []) (by kernel_rfl) (by kernel_rfl) (fun _ h=>h) ?_;refine W.seq ?_;refine W.rt (e2:=z0 [(3,.int .i64 0)]) ?_;refine W.seq ?_;refine W.join (σ:=(Int)) (fun s=>[(3,I6 s)]) (fun s=>(QA) s=some r) (fun v12 h=>?_) (fun hK4=>?_)
 ·have h:(QA) v12=some r:=h;unfold QA at h;refine W.seq ?_;refine W.rt (e2:=[(2,I6 v12)]) ?_;refine W.wk (env':=[(2,I6 v12)]) ?_;cases h;exact W.ret (show qi _ _ _=some _ by kernel_rfl)
 refine W.seq ?_;refine W.rg ?_;refine WO.pk 2 (some (I6 ((M6 a1.qa).length:Int))) (v:=I6 (a1.qa.length:Int)) (by rw[List.length_map]) (e1:=z0 [(3,.int .i64 0),(6,.ptr (l3 none a1.qa)),(7,l3 none a1.qa),(8,I6 (a1.qa.length:Int))]) ?_
 let z1:=fun t=>EN ((3,.int .i64 0)::(7,l3 none a1.qa)::(8,I6 (a1.qa.length:Int))::t)
 refine WO.fn (e2:=z1 [(9,.int .i64 0)]) ?_;refine W.block ?_;obtain⟨hl1,h⟩:=qg h;refine W.wk (env':=z1 [(9,I6 ((0:Nat):Int))]) ?_;refine W.range (σ:=(Int)) a1.qa (fun k1 s=>[(3,I6 s),(7,l3 none a1.qa),(8,I6 (a1.qa.length:Int)),(9,I6 (k1:Int))]) (fun r0 k0 s=>Jy (QA) r0 k0 s=some r) (fun v6 h=>?_) (fun x1 r1 k1 s hx1 hk1 h hN1=>?_) 0 h
 ·have h:Jy (QA) [] (a1.qa).length v6=some r:=h;rw[Jy.eq_1]at h;refine W.seq ?_;refine W.rg ?_
  let z2:=fun t=>EN ((3,I6 v6)::(7,l3 none a1.qa)::(8,I6 (a1.qa.length:Int))::(9,I6 ((a1.qa).length:Int))::(10,.bool false)::t)
  refine WO.pk 0 (some (.bool (decide (((a1.qa).length:Int)<(a1.qa.length:Int))))) (v:=.bool false) (by rw[qM (l:=a1.qa)]) (e1:=z2 []) ?_;refine WO.fn (e2:=z2 []) ?_;refine W.seq ?_;refine W.cb false (fun h=>Bool.noConfusion h) (fun _=>?_);refine W.exit ?_;refine W.wk (env':=[(3,I6 v6)]) ?_;exact hK4 v6 h
 ·obtain⟨v6,rfl⟩:∃ x,x=s:=⟨s,rfl⟩;have h:Jy (QA) (x1::r1) k1 v6=some r:=h;rw[Jy.eq_2]at h;refine W.seq ?_;refine W.rg ?_
  let z3:=fun t=>EN ((3,I6 v6)::(7,l3 none a1.qa)::(8,I6 (a1.qa.length:Int))::(9,I6 (k1:Int))::t)
  refine WO.pk 0 (some (.bool (decide ((k1:Int)<(a1.qa.length:Int))))) (v:=.bool true) (by rw[qY hk1]) (e1:=z3 [(10,.bool true)]) ?_;refine WO.fn (e2:=z3 [(10,.bool true)]) ?_;refine W.seq ?_;refine W.cb true (fun _=>?_) (fun h=>Bool.noConfusion h);refine W.skip ?_;refine W.wk (env':=z3 []) ?_;refine W.seq ?_;refine W.join (σ:=(Int)) (fun s=>[(3,I6 s),(7,l3 none a1.qa),(8,I6 (a1.qa.length:Int)),(9,I6 (k1:Int))]) (fun s=>(Yv (Jy (QA) r1 (k1+1))) s=some r) (fun v11 h=>?_) (fun hK7=>?_)
  ·have h:(Yv (Jy (QA) r1 (k1+1))) v11=some r:=h;unfold Yv at h;refine W.rg ?_
   let z4:=fun t=>EN ((3,I6 v11)::(7,l3 none a1.qa)::(8,I6 (a1.qa.length:Int))::t)
   refine WO.pk 0 (some (I6 (IntKind.wrap .i64 ((k1:Int)+1)))) (v:=I6 ((k1+1:Nat):Int)) (by rw[qC hl1 hk1]) (e1:=z4 [(9,I6 (k1:Int)),(19,I6 ((k1+1:Nat):Int))]) ?_;refine WO.fn (e2:=z4 [(9,I6 ((k1+1:Nat):Int))]) ?_;exact hN1 v11 h
  refine W.block ?_;refine W.seq ?_;refine W.rg ?_;refine WO.pk 0 (if (0:Int)≤(k1:Int) then ((M6 a1.qa)[Int.toNat (k1:Int)]?).map AV.ptr else none) (v:=.ptr (I6 x1)) (qZ (f:=(AV.int .i64)) hx1) (e1:=z3 [(11,.ptr (I6 x1))]) ?_
  let z5:=fun t=>EN ((3,I6 v6)::(5,I6 x1)::(7,l3 none a1.qa)::(8,I6 (a1.qa.length:Int))::(9,I6 (k1:Int))::t)
  refine WO.fn (e2:=z5 []) ?_;refine W.seq ?_
  let z6:=fun t=>z5 ((14,.bool (decide (x1 ≥ 0)))::t)
  refine W.rt (e2:=z6 []) ?_;refine W.cb (decide (x1 ≥ 0)) (fun hb=>?_) (fun hb=>?_)
  ·replace h:=qo hb h;refine W.rg ?_;obtain⟨hc10,h⟩:=qg h;refine WO.pk 2 (if x1<0 then none else some (I6 (iShl .i64 1 x1))) (v:=I6 (iShl .i64 1 x1)) (if_neg (Xa hc10)) (e1:=z6 [(15,I6 v6),(16,I6 x1),(17,I6 (iShl .i64 1 x1))]) ?_;refine WO.fn (e2:=[(3,I6 (iOr .i64 v6 (iShl .i64 1 x1))),(7,l3 none a1.qa),(8,I6 (a1.qa.length:Int)),(9,I6 (k1:Int))]) ?_;exact hK7 (iOr .i64 v6 (iShl .i64 1 x1)) h
  replace h:=qp hb h;refine W.skip ?_;refine W.wk (env':=z3 []) ?_;exact hK7 v6 h
def jq:Option Bool :=
 (some true)
def JE (N4:(Option Bool)):Option Bool :=
 N4
def Xw (N5:(Option Bool)) (v67:Bool):Option Bool :=
 (bif v67 then (some false) else N5)
def Jg (x4:qj) (K61:(Option Bool)):List qj→Nat→Option Bool
 | [],k5=>K61
 | x5::r5,k5=>(bif (x4.f_0 == x5.f_0) then ((Xw (Jg x4 K61 r5 (k5+1))) (x4.f_1 != x5.f_1)) else ((Xw (Jg x4 K61 r5 (k5+1))) false))
def jx (v58:(List qj)) (K59:(Option Bool)):List qj→Nat→Option Bool
 | [],k4=>K59
 | x4::r4,k4=>(chk (lenOk v58) (Jg x4 (JE (jx v58 K59 r4 (k4+1))) v58 0))
def jc (v58:(List qj)):Option Bool :=
 (chk (lenOk v58) (jx v58 (jq) v58 0))
def Jp (N2:((List qj)→Option Bool)) (v53:(List qj)) (v54:Int) (v55:Int):Option Bool :=
 (bif (v54 != v55) then (some false) else (N2 v53))
def Xx (x3:rf3Lit) (v36:(List qj)) (N3:((List qj)→Int→Int→Option Bool)) (v51:Int) (v52:Int):Option Bool :=
 (N3 (v36++[(qj.mk x3.qd.qb (x3.qd.qa.length:Int))]) v51 v52)
def jE (K34:((List qj)→Int→Int→Option Bool)):List rf3Lit→Nat→(List qj)→Int→Int→Option Bool
 | [],k3,v36,v37,v38=>(K34 v36 v37 v38)
 | x3::r3,k3,v36,v37,v38=>((Vk x3.qd).bind fun w43=>(bif (!w43) then (some false) else (chk (capOk 16 ((v36++[(qj.mk x3.qd.qb (x3.qd.qa.length:Int))])).length) ((Zw x3.qd).bind fun w48=>(bif (!x3.qr) then ((Zw x3.qd).bind fun w50=>((Xx x3 v36 (jE K34 r3 (k3+1))) (iOr .i64 v37 w48) (iOr .i64 v38 w50))) else ((Xx x3 v36 (jE K34 r3 (k3+1))) (iOr .i64 v37 w48) v38))))))
def Xy (x2:rf3Rule) (v22:(List qj)) (N2:((List qj)→Option Bool)) (v28:Bool):Option Bool :=
 (bif v28 then (some false) else (chk (capOk 16 ((v22++[(qj.mk x2.qf.qb (x2.qf.qa.length:Int))])).length) ((Zw x2.qf).bind fun w33=>(chk (lenOk x2.qc) (jE (Jp N2) x2.qc 0 (v22++[(qj.mk x2.qf.qb (x2.qf.qa.length:Int))]) w33 0)))))
def qV (K20:((List qj)→Option Bool)):List rf3Rule→Nat→(List qj)→Option Bool
 | [],k2,v22=>(K20 v22)
 | x2::r2,k2,v22=>((Vk x2.qf).bind fun w27=>(bif (!w27) then ((Xy x2 v22 (qV K20 r2 (k2+1))) true) else ((Xy x2 v22 (qV K20 r2 (k2+1))) (decide ((x2.qc.length:Int) > 3)))))
def QS (a1:(List rf3Rule)) (v19:(List qj)):Option Bool :=
 (chk (lenOk a1) (qV (jc) a1 0 v19))
def Qd (K9:((List qj)→Option Bool)):List apiFact→Nat→(List qj)→Option Bool
 | [],k1,v11=>(K9 v11)
 | x1::r1,k1,v11=>((YN x1).bind fun w16=>(bif (!w16) then (some false) else (chk (capOk 16 ((v11++[(qj.mk x1.qb (x1.qa.length:Int))])).length) ((Qd K9 r1 (k1+1)) (v11++[(qj.mk x1.qb (x1.qa.length:Int))])))))
def XR (a1:(List rf3Rule)) (a2:(List apiFact)) (v6:Bool):Option Bool :=
 (bif v6 then (some false) else (chk (lenOk a2) (Qd (QS a1) a2 0 ([]:(List qj)))))
def Zn (a1:(List rf3Rule)) (a2:(List apiFact)):Option Bool :=
 (bif (decide ((a1.length:Int) > 10)) then ((XR a1 a2) true) else ((XR a1 a2) (decide ((a2.length:Int) > 20))))
theorem qaH (a1:(List rf3Rule)) (a2:(List apiFact)) (r:Bool) (h:Zn a1 a2=some r):Run Try.prog (.call 20 [l94 none a1,l41 none a2] (.bool r)):=by
 refine cW Try.func20 rfl (env0:=[(0,l94 none a1),(1,l41 none a2)]) ?_;unfold Zn at h;refine W.seq ?_
 let z0:=fun t=>EN ((0,l94 none a1)::t)
 let z1:=fun t=>z0 ((1,l41 none a2)::t)
 refine W.rt (e2:=z1 []) ?_;refine W.seq ?_;refine W.seq ?_;refine W.join (σ:=(Bool)) (fun s=>z1 [(25,.bool s)]) (fun s=>(XR a1 a2) s=some r) (fun v6 h=>?_) (fun hK5=>?_)
 ·have h:(XR a1 a2) v6=some r:=h;unfold XR at h;refine W.cb v6 (fun hb=>?_) (fun hb=>?_)
  ·replace h:=qo hb h;refine W.seq ?_;refine W.rt (e2:=[(4,.bool false)]) ?_;refine W.wk (env':=[(4,.bool false)]) ?_;cases h;exact W.ret (show qi _ _ _=some _ by kernel_rfl)
  replace h:=qp hb h;refine W.skip ?_;refine W.wk (env':=z1 []) ?_;refine W.seq ?_;refine W.rt (e2:=z1 [(5,.nils)]) ?_;refine W.seq ?_;refine W.join (σ:=((List qj))) (fun s=>z0 [(5,l112 (some 10500) s)]) (fun s=>(QS a1) s=some r) (fun v19 h=>?_) (fun hK9=>?_)
  ·have h:(QS a1) v19=some r:=h;unfold QS at h;refine W.seq ?_;refine W.join (σ:=((List qj))) (fun s=>[(5,l112 (some 10500) s)]) (fun s=>(jc) s=some r) (fun v58 h=>?_) (fun hK20=>?_)
   ·have h:(jc) v58=some r:=h;unfold jc at h;refine W.seq ?_;refine W.join (σ:=Unit) (fun s=>[]) (fun s=>(jq)=some r) (fun s h=>?_) (fun hK59=>?_)
    ·have h:(jq)=some r:=h;unfold jq at h;refine W.seq ?_;refine W.rt (e2:=[(4,.bool true)]) ?_;refine W.wk (env':=[(4,.bool true)]) ?_;cases h;exact W.ret (show qi _ _ _=some _ by kernel_rfl)
    refine W.seq ?_;refine W.rg ?_
    let z2:=fun t=>EN ((5,l112 (some 10500) v58)::(115,l112 (some 10500) v58)::(116,I6 (v58.length:Int))::t)
    refine WO.pk 1 (some (I6 ((List.map Jj v58).length:Int))) (v:=I6 (v58.length:Int)) (by rw[List.length_map]) (e1:=z2 []) ?_;refine WO.fn (e2:=z2 [(117,.int .i64 0)]) ?_;refine W.block ?_;obtain⟨hl4,h⟩:=qg h;refine W.wk (env':=z2 [(117,I6 ((0:Nat):Int))]) ?_;refine W.range (σ:=Unit) v58 (fun k4 s=>z2 [(117,I6 (k4:Int))]) (fun r0 k0 s=>jx v58 (jq) r0 k0=some r) (fun s h=>?_) (fun x4 r4 k4 s hx4 hk4 h hN4=>?_) () h
    ·have h:jx v58 (jq) [] (v58).length=some r:=h;rw[jx.eq_1]at h;refine W.seq ?_;refine W.rg ?_
     let z3:=fun t=>z2 ((117,I6 ((v58).length:Int))::(118,.bool false)::t)
     refine WO.pk 0 (some (.bool (decide (((v58).length:Int)<(v58.length:Int))))) (v:=.bool false) (by rw[qM (l:=v58)]) (e1:=z3 []) ?_;refine WO.fn (e2:=z3 []) ?_;refine W.seq ?_;refine W.cb false (fun h=>Bool.noConfusion h) (fun _=>?_);refine W.exit ?_;refine W.wk (env':=[]) ?_;exact hK59 () h
    ·have h:jx v58 (jq) (x4::r4) k4=some r:=h;rw[jx.eq_2]at h;refine W.seq ?_;refine W.rg ?_
     let z4:=fun t=>z2 ((117,I6 (k4:Int))::t)
     refine WO.pk 0 (some (.bool (decide ((k4:Int)<(v58.length:Int))))) (v:=.bool true) (by rw[qY hk4]) (e1:=z4 [(118,.bool true)]) ?_;refine WO.fn (e2:=z4 [(118,.bool true)]) ?_;refine W.seq ?_;refine W.cb true (fun _=>?_) (fun h=>Bool.noConfusion h);refine W.skip ?_;refine W.wk (env':=z4 []) ?_;refine W.seq ?_;refine W.join (σ:=Unit) (fun s=>z4 []) (fun s=>(JE (jx v58 (jq) r4 (k4+1)))=some r) (fun s h=>?_) (fun hK61=>?_)
     ·have h:(JE (jx v58 (jq) r4 (k4+1)))=some r:=h;unfold JE at h;refine W.rg ?_;refine WO.pk 0 (some (I6 (IntKind.wrap .i64 ((k4:Int)+1)))) (v:=I6 ((k4+1:Nat):Int)) (by rw[qC hl4 hk4]) (e1:=z4 [(140,I6 ((k4+1:Nat):Int))]) ?_;refine WO.fn (e2:=z2 [(117,I6 ((k4+1:Nat):Int))]) ?_;exact hN4 () h
     refine W.block ?_;refine W.seq ?_;refine W.rg ?_;refine WO.pk 0 (if (0:Int)≤(k4:Int) then ((List.map Jj v58)[Int.toNat (k4:Int)]?).map AV.ptr else none) (v:=.ptr (.agg [I6 x4.f_0,I6 x4.f_1])) (qZ (f:=Jj) hx4) (e1:=z4 [(119,.ptr (.agg [I6 x4.f_0,I6 x4.f_1]))]) ?_
     let z5:=fun t=>EN ((5,l112 (some 10500) v58)::(15,.ptr (.agg [I6 x4.f_0,I6 x4.f_1]))::(115,l112 (some 10500) v58)::(116,I6 (v58.length:Int))::(117,I6 (k4:Int))::t)
     refine WO.fin [5,15,115,116,117] [15] [] [] (e2:=z5 []) (by kernel_rfl) (fun _ h=>h) ?_;refine W.seq ?_;refine W.rg ?_
     let z6:=fun t=>z5 ((121,l112 (some 10500) v58)::(122,I6 (v58.length:Int))::t)
     refine WO.pk 1 (some (I6 ((List.map Jj v58).length:Int))) (v:=I6 (v58.length:Int)) (by rw[List.length_map]) (e1:=z6 []) ?_;refine WO.fn (e2:=z6 [(123,.int .i64 0)]) ?_;refine W.block ?_;obtain⟨hl5,h⟩:=qg h;refine W.wk (env':=z6 [(123,I6 ((0:Nat):Int))]) ?_;refine W.range (σ:=Unit) v58 (fun k5 s=>z6 [(123,I6 (k5:Int))]) (fun r0 k0 s=>Jg x4 (JE (jx v58 (jq) r4 (k4+1))) r0 k0=some r) (fun s h=>?_) (fun x5 r5 k5 s hx5 hk5 h hN5=>?_) () h
     ·have h:Jg x4 (JE (jx v58 (jq) r4 (k4+1))) [] (v58).length=some r:=h;rw[Jg.eq_1]at h;refine W.seq ?_;refine W.rg ?_
      let z7:=fun t=>z6 ((123,I6 ((v58).length:Int))::(124,.bool false)::t)
      refine WO.pk 0 (some (.bool (decide (((v58).length:Int)<(v58.length:Int))))) (v:=.bool false) (by rw[qM (l:=v58)]) (e1:=z7 []) ?_;refine WO.fn (e2:=z7 []) ?_;refine W.seq ?_;refine W.cb false (fun h=>Bool.noConfusion h) (fun _=>?_);refine W.exit ?_;refine W.wk (env':=z4 []) ?_;exact hK61 () h
     ·have h:Jg x4 (JE (jx v58 (jq) r4 (k4+1))) (x5::r5) k5=some r:=h;rw[Jg.eq_2]at h;refine W.seq ?_;refine W.rg ?_
      let z8:=fun t=>z6 ((123,I6 (k5:Int))::t)
      refine WO.pk 0 (some (.bool (decide ((k5:Int)<(v58.length:Int))))) (v:=.bool true) (by rw[qY hk5]) (e1:=z8 [(124,.bool true)]) ?_;refine WO.fn (e2:=z8 [(124,.bool true)]) ?_;refine W.seq ?_;refine W.cb true (fun _=>?_) (fun h=>Bool.noConfusion h);refine W.skip ?_;refine W.wk (env':=z8 []) ?_;refine W.seq ?_;refine W.block ?_;refine W.seq ?_;refine W.rg ?_;refine WO.pk 0 (if (0:Int)≤(k5:Int) then ((List.map Jj v58)[Int.toNat (k5:Int)]?).map AV.ptr else none) (v:=.ptr (.agg [I6 x5.f_0,I6 x5.f_1])) (qZ (f:=Jj) hx5) (e1:=z8 [(125,.ptr (.agg [I6 x5.f_0,I6 x5.f_1]))]) ?_
      let z9:=fun t=>EN ((5,l112 (some 10500) v58)::(15,.ptr (.agg [I6 x4.f_0,I6 x4.f_1]))::t)
      let z10:=fun t=>z9 ((17,.ptr (.agg [I6 x5.f_0,I6 x5.f_1]))::(115,l112 (some 10500) v58)::(116,I6 (v58.length:Int))::(117,I6 (k4:Int))::(121,l112 (some 10500) v58)::(122,I6 (v58.length:Int))::(123,I6 (k5:Int))::t)
      refine WO.fin [5,15,17,115,116,117,121,122,123] [17] [] [] (e2:=z10 []) (by kernel_rfl) (fun _ h=>h) ?_;refine W.seq ?_;refine W.join (σ:=(Bool)) (fun s=>z8 [(138,.bool s)]) (fun s=>(Xw (Jg x4 (JE (jx v58 (jq) r4 (k4+1))) r5 (k5+1))) s=some r) (fun v67 h=>?_) (fun hK66=>?_)
      ·have h:(Xw (Jg x4 (JE (jx v58 (jq) r4 (k4+1))) r5 (k5+1))) v67=some r:=h;unfold Xw at h;refine W.cb v67 (fun hb=>?_) (fun hb=>?_)
       ·replace h:=qo hb h;refine W.seq ?_;refine W.rt (e2:=[(4,.bool false)]) ?_;refine W.wk (env':=[(4,.bool false)]) ?_;cases h;exact W.ret (show qi _ _ _=some _ by kernel_rfl)
       replace h:=qp hb h;refine W.skip ?_;refine W.wk (env':=z8 []) ?_;refine W.rg ?_;refine WO.pk 0 (some (I6 (IntKind.wrap .i64 ((k5:Int)+1)))) (v:=I6 ((k5+1:Nat):Int)) (by rw[qC hl5 hk5]) (e1:=z8 [(139,I6 ((k5+1:Nat):Int))]) ?_;refine WO.fn (e2:=z6 [(123,I6 ((k5+1:Nat):Int))]) ?_;exact hN5 () h
      refine W.rg ?_;refine WO.bk 6 (fun b=>z10 [(127,.ptr (I6 x4.f_0)),(128,I6 x4.f_0),(129,.ptr (I6 x5.f_0)),(130,I6 x5.f_0),(131,.bool b),(132,.bool b)]) (x4.f_0 == x5.f_0) (fun hb=>?_) (fun hb=>?_)
      ·replace h:=qo hb h;refine WO.fn (e2:=z8 [(138,.bool (x4.f_1 != x5.f_1))]) ?_;exact hK66 (x4.f_1 != x5.f_1) h
      replace h:=qp hb h;refine WO.fn (e2:=z8 [(138,.bool false)]) ?_;exact hK66 false h
   refine W.seq ?_;refine W.rg ?_;refine WO.pk 1 (some (I6 ((List.map JR a1).length:Int))) (v:=I6 (a1.length:Int)) (by rw[List.length_map]) (e1:=z0 [(5,l112 (some 10500) v19),(45,l94 none a1),(46,I6 (a1.length:Int))]) ?_
   let z11:=fun t=>EN ((5,l112 (some 10500) v19)::(45,l94 none a1)::(46,I6 (a1.length:Int))::t)
   refine WO.fn (e2:=z11 [(47,.int .i64 0)]) ?_;refine W.block ?_;obtain⟨hl2,h⟩:=qg h;refine W.wk (env':=z11 [(47,I6 ((0:Nat):Int))]) ?_;refine W.range (σ:=((List qj))) a1 (fun k2 s=>[(5,l112 (some 10500) s),(45,l94 none a1),(46,I6 (a1.length:Int)),(47,I6 (k2:Int))]) (fun r0 k0 s=>qV (jc) r0 k0 s=some r) (fun v22 h=>?_) (fun x2 r2 k2 s hx2 hk2 h hN2=>?_) v19 h
   ·have h:qV (jc) [] (a1).length v22=some r:=h;rw[qV.eq_1]at h;refine W.seq ?_;refine W.rg ?_
    let z12:=fun t=>EN ((5,l112 (some 10500) v22)::(45,l94 none a1)::(46,I6 (a1.length:Int))::(47,I6 ((a1).length:Int))::(48,.bool false)::t)
    refine WO.pk 0 (some (.bool (decide (((a1).length:Int)<(a1.length:Int))))) (v:=.bool false) (by rw[qM (l:=a1)]) (e1:=z12 []) ?_;refine WO.fn (e2:=z12 []) ?_;refine W.seq ?_;refine W.cb false (fun h=>Bool.noConfusion h) (fun _=>?_);refine W.exit ?_;refine W.wk (env':=[(5,l112 (some 10500) v22)]) ?_;exact hK20 v22 h
   ·obtain⟨v22,rfl⟩:∃ x,x=s:=⟨s,rfl⟩;have h:qV (jc) (x2::r2) k2 v22=some r:=h;rw[qV.eq_2]at h;refine W.seq ?_;refine W.rg ?_
    let z13:=fun t=>EN ((5,l112 (some 10500) v22)::(45,l94 none a1)::(46,I6 (a1.length:Int))::(47,I6 (k2:Int))::t)
    refine WO.pk 0 (some (.bool (decide ((k2:Int)<(a1.length:Int))))) (v:=.bool true) (by rw[qY hk2]) (e1:=z13 [(48,.bool true)]) ?_;refine WO.fn (e2:=z13 [(48,.bool true)]) ?_;refine W.seq ?_;refine W.cb true (fun _=>?_) (fun h=>Bool.noConfusion h);refine W.skip ?_;refine W.wk (env':=z13 []) ?_;refine W.seq ?_;refine W.block ?_;refine W.seq ?_;refine W.rg ?_;refine WO.pk 0 (if (0:Int)≤(k2:Int) then ((List.map JR a1)[Int.toNat (k2:Int)]?).map AV.ptr else none) (v:=.ptr (.agg [I6 x2.qf.qb,l3 none x2.qf.qa,l96 none x2.qc])) (qZ (f:=JR) hx2) (e1:=z13 [(49,.ptr (.agg [I6 x2.qf.qb,l3 none x2.qf.qa,l96 none x2.qc]))]) ?_
    let z14:=fun t=>EN ((5,l112 (some 10500) v22)::(9,.ptr (.agg [I6 x2.qf.qb,l3 none x2.qf.qa,l96 none x2.qc]))::(45,l94 none a1)::(46,I6 (a1.length:Int))::(47,I6 (k2:Int))::t)
    refine WO.fin [5,9,45,46,47] [9] [] [] (e2:=z14 []) (by kernel_rfl) (fun _ h=>h) ?_;refine W.seq ?_;refine W.seq ?_;refine W.join (σ:=(Bool)) (fun s=>z14 [(60,.bool s)]) (fun s=>(Xy x2 v22 (qV (jc) r2 (k2+1))) s=some r) (fun v28 h=>?_) (fun hK26=>?_)
    ·have h:(Xy x2 v22 (qV (jc) r2 (k2+1))) v28=some r:=h;unfold Xy at h;refine W.cb v28 (fun hb=>?_) (fun hb=>?_)
     ·replace h:=qo hb h;refine W.seq ?_;refine W.rt (e2:=[(4,.bool false)]) ?_;refine W.wk (env':=[(4,.bool false)]) ?_;cases h;exact W.ret (show qi _ _ _=some _ by kernel_rfl)
     replace h:=qp hb h;refine W.skip ?_;refine W.wk (env':=z14 []) ?_;refine W.seq ?_;refine W.rg ?_;refine WO.pk 7 (some (I6 ((M6 x2.qf.qa).length:Int))) (v:=I6 (x2.qf.qa.length:Int)) (by rw[List.length_map]) (e1:=z14 [(61,l112 (some 10500) v22),(62,.ptr (.agg [I6 x2.qf.qb,l3 none x2.qf.qa])),(63,.ptr (I6 x2.qf.qb)),(64,I6 x2.qf.qb),(65,.ptr (.agg [I6 x2.qf.qb,l3 none x2.qf.qa])),(66,.ptr (l3 none x2.qf.qa)),(67,l3 none x2.qf.qa),(68,I6 (x2.qf.qa.length:Int))]) ?_;obtain⟨hc31,h⟩:=qg h;refine WO.appendK 2 (d:=71) (e:=112) (s:=2) (bytes:=16) (xs:=(List.map Jj v22)) (ys:=(List.map Jj [(qj.mk x2.qf.qb (x2.qf.qa.length:Int))])) (zs:=(List.map Jj (v22++[(qj.mk x2.qf.qb (x2.qf.qa.length:Int))]))) (env1:=[(5,l112 none v22),(9,.ptr (.agg [I6 x2.qf.qb,l3 none x2.qf.qa,l96 none x2.qc])),(45,l94 none a1),(46,I6 (a1.length:Int)),(47,I6 (k2:Int)),(61,l112 none v22),(62,.ptr (.agg [I6 x2.qf.qb,l3 none x2.qf.qa])),(63,.ptr (I6 x2.qf.qb)),(64,I6 x2.qf.qb),(65,.ptr (.agg [I6 x2.qf.qb,l3 none x2.qf.qa])),(66,.ptr (l3 none x2.qf.qa)),(67,l3 none x2.qf.qa),(68,I6 (x2.qf.qa.length:Int)),(69,.agg [I6 x2.qf.qb,I6 (x2.qf.qa.length:Int)]),(70,l112 (some 70) [(qj.mk x2.qf.qb (x2.qf.qa.length:Int))])]) (by kernel_rfl) (List.map_append.symm) (by rw[List.length_map];exact hc31) (e1:=[(5,l112 none v22),(9,.ptr (.agg [I6 x2.qf.qb,l3 none x2.qf.qa,l96 none x2.qc])),(45,l94 none a1),(46,I6 (a1.length:Int)),(47,I6 (k2:Int)),(61,l112 none v22),(62,.ptr (.agg [I6 x2.qf.qb,l3 none x2.qf.qa])),(63,.ptr (I6 x2.qf.qb)),(64,I6 x2.qf.qb),(65,.ptr (.agg [I6 x2.qf.qb,l3 none x2.qf.qa])),(66,.ptr (l3 none x2.qf.qa)),(67,l3 none x2.qf.qa),(68,I6 (x2.qf.qa.length:Int)),(69,.agg [I6 x2.qf.qb,I6 (x2.qf.qa.length:Int)]),(70,l112 (some 70) [(qj.mk x2.qf.qb (x2.qf.qa.length:Int))]),(71,l112 (some 71) (v22++[(qj.mk x2.qf.qb (x2.qf.qa.length:Int))]))]) (by kernel_rfl) ?_
     let z15:=fun t=>EN ((5,l112 (some 71) (v22++[(qj.mk x2.qf.qb (x2.qf.qa.length:Int))]))::(9,.ptr (.agg [I6 x2.qf.qb,l3 none x2.qf.qa,l96 none x2.qc]))::t)
     let z16:=fun t=>z15 ((45,l94 none a1)::(46,I6 (a1.length:Int))::(47,I6 (k2:Int))::t)
     refine WO.fn (e2:=z16 []) ?_;refine W.seq ?_;refine W.rg ?_;obtain⟨w33,hw33,h⟩:=qe h;refine WO.ck 2 (F:=62) (l:=[.agg [I6 x2.qf.qb,l3 none x2.qf.qa]]) (C:=[]) (r:=I6 w33) (Vy x2.qf w33 hw33) (e1:=z16 [(72,.ptr (.agg [I6 x2.qf.qb,l3 none x2.qf.qa])),(73,.agg [I6 x2.qf.qb,l3 none x2.qf.qa]),(74,I6 w33)]) ?_
     let z17:=fun t=>z15 ((10,I6 w33)::(11,.int .i64 0)::(45,l94 none a1)::(46,I6 (a1.length:Int))::(47,I6 (k2:Int))::t)
     refine WO.fn (e2:=z17 []) ?_;refine W.seq ?_;refine W.join (σ:=((List qj)×Int×Int)) (fun s=>[(5,l112 (some 10500) s.1),(10,I6 s.2.1),(11,I6 s.2.2),(45,l94 none a1),(46,I6 (a1.length:Int)),(47,I6 (k2:Int))]) (fun s=>(Jp (qV (jc) r2 (k2+1))) s.1 s.2.1 s.2.2=some r) (fun s h=>?_) (fun hK34=>?_)
     ·obtain⟨v53,v54,v55⟩:=s;have h:(Jp (qV (jc) r2 (k2+1))) v53 v54 v55=some r:=h;unfold Jp at h;refine W.seq ?_
      let z18:=fun t=>EN ((5,l112 (some 10500) v53)::(45,l94 none a1)::(46,I6 (a1.length:Int))::t)
      refine W.rt (e2:=z18 [(47,I6 (k2:Int)),(113,.bool (v54 != v55))]) ?_;refine W.cb (v54 != v55) (fun hb=>?_) (fun hb=>?_)
      ·replace h:=qo hb h;refine W.seq ?_;refine W.rt (e2:=[(4,.bool false)]) ?_;refine W.wk (env':=[(4,.bool false)]) ?_;cases h;exact W.ret (show qi _ _ _=some _ by kernel_rfl)
      replace h:=qp hb h;refine W.skip ?_;refine W.wk (env':=z18 [(47,I6 (k2:Int))]) ?_;refine W.rg ?_;refine WO.pk 0 (some (I6 (IntKind.wrap .i64 ((k2:Int)+1)))) (v:=I6 ((k2+1:Nat):Int)) (by rw[qC hl2 hk2]) (e1:=z18 [(47,I6 (k2:Int)),(114,I6 ((k2+1:Nat):Int))]) ?_;refine WO.fn (e2:=z18 [(47,I6 ((k2+1:Nat):Int))]) ?_;exact hN2 v53 h
     refine W.seq ?_;refine W.rg ?_;refine WO.pk 2 (some (I6 ((List.map JD x2.qc).length:Int))) (v:=I6 (x2.qc.length:Int)) (by rw[List.length_map]) (e1:=z17 [(75,.ptr (l96 none x2.qc)),(76,l96 none x2.qc),(77,I6 (x2.qc.length:Int))]) ?_;refine WO.fn (e2:=[(5,l112 (some 71) (v22++[(qj.mk x2.qf.qb (x2.qf.qa.length:Int))])),(10,I6 w33),(11,.int .i64 0),(45,l94 none a1),(46,I6 (a1.length:Int)),(47,I6 (k2:Int)),(76,l96 none x2.qc),(77,I6 (x2.qc.length:Int)),(78,.int .i64 0)]) ?_;refine W.block ?_;obtain⟨hl3,h⟩:=qg h;refine W.weak [5,10,11,45,46,47,76,77,78] [] [] [(71,some 10500)] (env':=[(5,l112 (some 10500) (v22++[(qj.mk x2.qf.qb (x2.qf.qa.length:Int))])),(10,I6 w33),(11,.int .i64 0),(45,l94 none a1),(46,I6 (a1.length:Int)),(47,I6 (k2:Int)),(76,l96 none x2.qc),(77,I6 (x2.qc.length:Int)),(78,I6 ((0:Nat):Int))]) (by kernel_rfl) ?_;refine W.range (σ:=((List qj)×Int×Int)) x2.qc (fun k3 s=>[(5,l112 (some 10500) s.1),(10,I6 s.2.1),(11,I6 s.2.2),(45,l94 none a1),(46,I6 (a1.length:Int)),(47,I6 (k2:Int)),(76,l96 none x2.qc),(77,I6 (x2.qc.length:Int)),(78,I6 (k3:Int))]) (fun r0 k0 s=>jE (Jp (qV (jc) r2 (k2+1))) r0 k0 s.1 s.2.1 s.2.2=some r) (fun s h=>?_) (fun x3 r3 k3 s hx3 hk3 h hN3=>?_) ((v22++[(qj.mk x2.qf.qb (x2.qf.qa.length:Int))]),w33,0) h
     ·obtain⟨v36,v37,v38⟩:=s;have h:jE (Jp (qV (jc) r2 (k2+1))) [] (x2.qc).length v36 v37 v38=some r:=h;rw[jE.eq_1]at h;refine W.seq ?_;refine W.rg ?_
      let z19:=fun t=>EN ((5,l112 (some 10500) v36)::(10,I6 v37)::(11,I6 v38)::(45,l94 none a1)::(46,I6 (a1.length:Int))::(47,I6 (k2:Int))::t)
      let z20:=fun t=>z19 ((76,l96 none x2.qc)::(77,I6 (x2.qc.length:Int))::(78,I6 ((x2.qc).length:Int))::(79,.bool false)::t)
      refine WO.pk 0 (some (.bool (decide (((x2.qc).length:Int)<(x2.qc.length:Int))))) (v:=.bool false) (by rw[qM (l:=x2.qc)]) (e1:=z20 []) ?_;refine WO.fn (e2:=z20 []) ?_;refine W.seq ?_;refine W.cb false (fun h=>Bool.noConfusion h) (fun _=>?_);refine W.exit ?_;refine W.wk (env':=z19 []) ?_;exact hK34 (v36,v37,v38) h
     ·obtain⟨v36,v37,v38⟩:=s;have h:jE (Jp (qV (jc) r2 (k2+1))) (x3::r3) k3 v36 v37 v38=some r:=h;rw[jE.eq_2]at h;refine W.seq ?_;refine W.rg ?_
      let z21:=fun t=>EN ((5,l112 (some 10500) v36)::(10,I6 v37)::(11,I6 v38)::(45,l94 none a1)::(46,I6 (a1.length:Int))::(47,I6 (k2:Int))::(76,l96 none x2.qc)::(77,I6 (x2.qc.length:Int))::(78,I6 (k3:Int))::t)
      refine WO.pk 0 (some (.bool (decide ((k3:Int)<(x2.qc.length:Int))))) (v:=.bool true) (by rw[qY hk3]) (e1:=z21 [(79,.bool true)]) ?_;refine WO.fn (e2:=z21 [(79,.bool true)]) ?_;refine W.seq ?_;refine W.cb true (fun _=>?_) (fun h=>Bool.noConfusion h);refine W.skip ?_;refine W.wk (env':=z21 []) ?_;refine W.seq ?_
      let z22:=fun t=>EN ((5,l112 (some 96) (v36++[(qj.mk x3.qd.qb (x3.qd.qa.length:Int))]))::t)
      refine W.join (σ:=(Int×Int)) (fun s=>z22 [(10,I6 s.1),(11,I6 s.2),(45,l94 none a1),(46,I6 (a1.length:Int)),(47,I6 (k2:Int)),(76,l96 none x2.qc),(77,I6 (x2.qc.length:Int)),(78,I6 (k3:Int))]) (fun s=>(Xx x3 v36 (jE (Jp (qV (jc) r2 (k2+1))) r3 (k3+1))) s.1 s.2=some r) (fun s h=>?_) (fun hK39=>?_)
      ·obtain⟨v51,v52⟩:=s;have h:(Xx x3 v36 (jE (Jp (qV (jc) r2 (k2+1))) r3 (k3+1))) v51 v52=some r:=h;unfold Xx at h;refine W.rg ?_;refine WO.pk 0 (some (I6 (IntKind.wrap .i64 ((k3:Int)+1)))) (v:=I6 ((k3+1:Nat):Int)) (by rw[qC hl3 hk3]) (e1:=z22 [(10,I6 v51),(11,I6 v52),(45,l94 none a1),(46,I6 (a1.length:Int)),(47,I6 (k2:Int)),(76,l96 none x2.qc),(77,I6 (x2.qc.length:Int)),(78,I6 (k3:Int)),(110,I6 ((k3+1:Nat):Int))]) ?_;refine WO.fin [5,10,11,45,46,47,76,77,78] [] [] [(96,some 10500)] (e2:=[(5,l112 (some 10500) (v36++[(qj.mk x3.qd.qb (x3.qd.qa.length:Int))])),(10,I6 v51),(11,I6 v52),(45,l94 none a1),(46,I6 (a1.length:Int)),(47,I6 (k2:Int)),(76,l96 none x2.qc),(77,I6 (x2.qc.length:Int)),(78,I6 ((k3+1:Nat):Int))]) (by kernel_rfl) (fun _ h=>h) ?_;exact hN3 ((v36++[(qj.mk x3.qd.qb (x3.qd.qa.length:Int))]),v51,v52) h
      refine W.block ?_;refine W.seq ?_;refine W.rg ?_;refine WO.pk 0 (if (0:Int)≤(k3:Int) then ((List.map JD x2.qc)[Int.toNat (k3:Int)]?).map AV.ptr else none) (v:=.ptr (.agg [.bool x3.qr,I6 x3.qd.qb,l3 none x3.qd.qa])) (qZ (f:=JD) hx3) (e1:=z21 [(80,.ptr (.agg [.bool x3.qr,I6 x3.qd.qb,l3 none x3.qd.qa]))]) ?_
      let z23:=fun t=>EN ((5,l112 (some 10500) v36)::(10,I6 v37)::(11,I6 v38)::(13,.ptr (.agg [.bool x3.qr,I6 x3.qd.qb,l3 none x3.qd.qa]))::(45,l94 none a1)::(46,I6 (a1.length:Int))::(47,I6 (k2:Int))::(76,l96 none x2.qc)::(77,I6 (x2.qc.length:Int))::(78,I6 (k3:Int))::t)
      refine WO.fin [5,10,11,13,45,46,47,76,77,78] [13] [] [] (e2:=z23 []) (by kernel_rfl) (fun _ h=>h) ?_;refine W.seq ?_;refine W.seq ?_;refine W.rg ?_;obtain⟨w43,hw43,h⟩:=qe h;refine WO.ck 2 (F:=61) (l:=[.agg [I6 x3.qd.qb,l3 none x3.qd.qa]]) (C:=[]) (r:=.bool w43) (NH x3.qd w43 hw43) (e1:=z23 [(82,.ptr (.agg [I6 x3.qd.qb,l3 none x3.qd.qa])),(83,.agg [I6 x3.qd.qb,l3 none x3.qd.qa]),(84,.bool w43)]) ?_;refine WO.fn (e2:=z23 [(85,.bool (!w43))]) ?_;refine W.cb (!w43) (fun hb=>?_) (fun hb=>?_)
      ·replace h:=qo hb h;refine W.seq ?_;refine W.rt (e2:=[(4,.bool false)]) ?_;refine W.wk (env':=[(4,.bool false)]) ?_;cases h;exact W.ret (show qi _ _ _=some _ by kernel_rfl)
      replace h:=qp hb h;refine W.skip ?_;refine W.wk (env':=z23 []) ?_;refine W.seq ?_;refine W.rg ?_;refine WO.pk 7 (some (I6 ((M6 x3.qd.qa).length:Int))) (v:=I6 (x3.qd.qa.length:Int)) (by rw[List.length_map]) (e1:=z23 [(86,l112 (some 10500) v36),(87,.ptr (.agg [I6 x3.qd.qb,l3 none x3.qd.qa])),(88,.ptr (I6 x3.qd.qb)),(89,I6 x3.qd.qb),(90,.ptr (.agg [I6 x3.qd.qb,l3 none x3.qd.qa])),(91,.ptr (l3 none x3.qd.qa)),(92,l3 none x3.qd.qa),(93,I6 (x3.qd.qa.length:Int))]) ?_;obtain⟨hc46,h⟩:=qg h;refine WO.appendK 2 (d:=96) (e:=112) (s:=2) (bytes:=16) (xs:=(List.map Jj v36)) (ys:=(List.map Jj [(qj.mk x3.qd.qb (x3.qd.qa.length:Int))])) (zs:=(List.map Jj (v36++[(qj.mk x3.qd.qb (x3.qd.qa.length:Int))]))) (env1:=[(5,l112 none v36),(10,I6 v37),(11,I6 v38),(13,.ptr (.agg [.bool x3.qr,I6 x3.qd.qb,l3 none x3.qd.qa])),(45,l94 none a1),(46,I6 (a1.length:Int)),(47,I6 (k2:Int)),(76,l96 none x2.qc),(77,I6 (x2.qc.length:Int)),(78,I6 (k3:Int)),(86,l112 none v36),(87,.ptr (.agg [I6 x3.qd.qb,l3 none x3.qd.qa])),(88,.ptr (I6 x3.qd.qb)),(89,I6 x3.qd.qb),(90,.ptr (.agg [I6 x3.qd.qb,l3 none x3.qd.qa])),(91,.ptr (l3 none x3.qd.qa)),(92,l3 none x3.qd.qa),(93,I6 (x3.qd.qa.length:Int)),(94,.agg [I6 x3.qd.qb,I6 (x3.qd.qa.length:Int)]),(95,l112 (some 95) [(qj.mk x3.qd.qb (x3.qd.qa.length:Int))])]) (by kernel_rfl) (List.map_append.symm) (by rw[List.length_map];exact hc46) (e1:=[(5,l112 none v36),(10,I6 v37),(11,I6 v38),(13,.ptr (.agg [.bool x3.qr,I6 x3.qd.qb,l3 none x3.qd.qa])),(45,l94 none a1),(46,I6 (a1.length:Int)),(47,I6 (k2:Int)),(76,l96 none x2.qc),(77,I6 (x2.qc.length:Int)),(78,I6 (k3:Int)),(86,l112 none v36),(87,.ptr (.agg [I6 x3.qd.qb,l3 none x3.qd.qa])),(88,.ptr (I6 x3.qd.qb)),(89,I6 x3.qd.qb),(90,.ptr (.agg [I6 x3.qd.qb,l3 none x3.qd.qa])),(91,.ptr (l3 none x3.qd.qa)),(92,l3 none x3.qd.qa),(93,I6 (x3.qd.qa.length:Int)),(94,.agg [I6 x3.qd.qb,I6 (x3.qd.qa.length:Int)]),(95,l112 (some 95) [(qj.mk x3.qd.qb (x3.qd.qa.length:Int))]),(96,l112 (some 96) (v36++[(qj.mk x3.qd.qb (x3.qd.qa.length:Int))]))]) (by kernel_rfl) ?_
      let z24:=fun t=>z22 ((10,I6 v37)::(11,I6 v38)::(13,.ptr (.agg [.bool x3.qr,I6 x3.qd.qb,l3 none x3.qd.qa]))::(45,l94 none a1)::(46,I6 (a1.length:Int))::(47,I6 (k2:Int))::(76,l96 none x2.qc)::(77,I6 (x2.qc.length:Int))::(78,I6 (k3:Int))::t)
      refine WO.fn (e2:=z24 []) ?_;refine W.seq ?_;refine W.rg ?_;obtain⟨w48,hw48,h⟩:=qe h;refine WO.ck 3 (F:=62) (l:=[.agg [I6 x3.qd.qb,l3 none x3.qd.qa]]) (C:=[]) (r:=I6 w48) (Vy x3.qd w48 hw48) (e1:=z24 [(97,I6 v37),(98,.ptr (.agg [I6 x3.qd.qb,l3 none x3.qd.qa])),(99,.agg [I6 x3.qd.qb,l3 none x3.qd.qa]),(100,I6 w48)]) ?_
      let z25:=fun t=>z22 ((10,I6 (iOr .i64 v37 w48))::(11,I6 v38)::(13,.ptr (.agg [.bool x3.qr,I6 x3.qd.qb,l3 none x3.qd.qa]))::(45,l94 none a1)::(46,I6 (a1.length:Int))::(47,I6 (k2:Int))::(76,l96 none x2.qc)::(77,I6 (x2.qc.length:Int))::(78,I6 (k3:Int))::t)
      refine WO.fn (e2:=z25 []) ?_;refine W.seq ?_;refine W.rt (e2:=z25 [(104,.bool (!x3.qr))]) ?_;refine W.cb (!x3.qr) (fun hb=>?_) (fun hb=>?_)
      ·replace h:=qo hb h;refine W.rg ?_;obtain⟨w50,hw50,h⟩:=qe h;refine WO.ck 3 (F:=62) (l:=[.agg [I6 x3.qd.qb,l3 none x3.qd.qa]]) (C:=[]) (r:=I6 w50) (Vy x3.qd w50 hw50) (e1:=z25 [(104,.bool (!x3.qr)),(105,I6 v38),(106,.ptr (.agg [I6 x3.qd.qb,l3 none x3.qd.qa])),(107,.agg [I6 x3.qd.qb,l3 none x3.qd.qa]),(108,I6 w50)]) ?_;refine WO.fn (e2:=z22 [(10,I6 (iOr .i64 v37 w48)),(11,I6 (iOr .i64 v38 w50)),(45,l94 none a1),(46,I6 (a1.length:Int)),(47,I6 (k2:Int)),(76,l96 none x2.qc),(77,I6 (x2.qc.length:Int)),(78,I6 (k3:Int))]) ?_;exact hK39 ((iOr .i64 v37 w48),(iOr .i64 v38 w50)) h
      replace h:=qp hb h;refine W.skip ?_;refine W.wk (env':=z22 [(10,I6 (iOr .i64 v37 w48)),(11,I6 v38),(45,l94 none a1),(46,I6 (a1.length:Int)),(47,I6 (k2:Int)),(76,l96 none x2.qc),(77,I6 (x2.qc.length:Int)),(78,I6 (k3:Int))]) ?_;exact hK39 ((iOr .i64 v37 w48),v38) h
    refine W.rg ?_;obtain⟨w27,hw27,h⟩:=qe h
    let z26:=fun t=>z14 ((51,.ptr (.agg [I6 x2.qf.qb,l3 none x2.qf.qa]))::(52,.agg [I6 x2.qf.qb,l3 none x2.qf.qa])::(53,.bool w27)::t)
    refine WO.ck 2 (F:=61) (l:=[.agg [I6 x2.qf.qb,l3 none x2.qf.qa]]) (C:=[]) (r:=.bool w27) (NH x2.qf w27 hw27) (e1:=z26 []) ?_;refine WO.bk 2 (fun b=>z26 [(54,.bool b),(55,.bool b)]) (!w27) (fun hb=>?_) (fun hb=>?_)
    ·replace h:=qo hb h;refine WO.fn (e2:=z14 [(60,.bool true)]) ?_;exact hK26 true h
    replace h:=qp hb h;refine WO.pk 2 (some (I6 ((List.map JD x2.qc).length:Int))) (v:=I6 (x2.qc.length:Int)) (by rw[List.length_map]) (e1:=z26 [(54,.bool false),(55,.bool false),(56,.ptr (l96 none x2.qc)),(57,l96 none x2.qc),(58,I6 (x2.qc.length:Int))]) ?_;refine WO.fn (e2:=z14 [(60,.bool (decide ((x2.qc.length:Int) > 3)))]) ?_;exact hK26 (decide ((x2.qc.length:Int) > 3)) h
  refine W.seq ?_;refine W.rg ?_;refine WO.pk 1 (some (I6 ((List.map qt a2).length:Int))) (v:=I6 (a2.length:Int)) (by rw[List.length_map]) (e1:=z1 [(5,.nils),(26,l41 none a2),(27,I6 (a2.length:Int))]) ?_;refine WO.fn (e2:=z0 [(5,.nils),(26,l41 none a2),(27,I6 (a2.length:Int)),(28,.int .i64 0)]) ?_;refine W.block ?_;obtain⟨hl1,h⟩:=qg h;refine W.weak [0,5,26,27,28] [] [(5,0,112,2,10500)] [] (env':=z0 [(5,l112 (some 10500) ([]:(List qj))),(26,l41 none a2),(27,I6 (a2.length:Int)),(28,I6 ((0:Nat):Int))]) (by kernel_rfl) ?_;refine W.range (σ:=((List qj))) a2 (fun k1 s=>z0 [(5,l112 (some 10500) s),(26,l41 none a2),(27,I6 (a2.length:Int)),(28,I6 (k1:Int))]) (fun r0 k0 s=>Qd (QS a1) r0 k0 s=some r) (fun v11 h=>?_) (fun x1 r1 k1 s hx1 hk1 h hN1=>?_) ([]:(List qj)) h
  ·have h:Qd (QS a1) [] (a2).length v11=some r:=h;rw[Qd.eq_1]at h;refine W.seq ?_;refine W.rg ?_
   let z27:=fun t=>z0 ((5,l112 (some 10500) v11)::(26,l41 none a2)::(27,I6 (a2.length:Int))::(28,I6 ((a2).length:Int))::(29,.bool false)::t)
   refine WO.pk 0 (some (.bool (decide (((a2).length:Int)<(a2.length:Int))))) (v:=.bool false) (by rw[qM (l:=a2)]) (e1:=z27 []) ?_;refine WO.fn (e2:=z27 []) ?_;refine W.seq ?_;refine W.cb false (fun h=>Bool.noConfusion h) (fun _=>?_);refine W.exit ?_;refine W.wk (env':=z0 [(5,l112 (some 10500) v11)]) ?_;exact hK9 v11 h
  ·obtain⟨v11,rfl⟩:∃ x,x=s:=⟨s,rfl⟩;have h:Qd (QS a1) (x1::r1) k1 v11=some r:=h;rw[Qd.eq_2]at h;refine W.seq ?_;refine W.rg ?_
   let z28:=fun t=>z0 ((5,l112 (some 10500) v11)::(26,l41 none a2)::(27,I6 (a2.length:Int))::(28,I6 (k1:Int))::t)
   refine WO.pk 0 (some (.bool (decide ((k1:Int)<(a2.length:Int))))) (v:=.bool true) (by rw[qY hk1]) (e1:=z28 [(29,.bool true)]) ?_;refine WO.fn (e2:=z28 [(29,.bool true)]) ?_;refine W.seq ?_;refine W.cb true (fun _=>?_) (fun h=>Bool.noConfusion h);refine W.skip ?_;refine W.wk (env':=z28 []) ?_;refine W.seq ?_;refine W.block ?_;refine W.seq ?_;refine W.rg ?_;refine WO.pk 0 (if (0:Int)≤(k1:Int) then ((List.map qt a2)[Int.toNat (k1:Int)]?).map AV.ptr else none) (v:=.ptr (.agg [I6 x1.qb,l3 none x1.qa])) (qZ (f:=qt) hx1) (e1:=z28 [(30,.ptr (.agg [I6 x1.qb,l3 none x1.qa]))]) ?_
   let z29:=fun t=>z0 ((5,l112 (some 10500) v11)::(7,.ptr (.agg [I6 x1.qb,l3 none x1.qa]))::(26,l41 none a2)::(27,I6 (a2.length:Int))::(28,I6 (k1:Int))::t)
   refine WO.fin [0,5,7,26,27,28] [7] [] [] (e2:=z29 []) (by kernel_rfl) (fun _ h=>h) ?_;refine W.seq ?_;refine W.seq ?_;refine W.rg ?_;obtain⟨w16,hw16,h⟩:=qe h;refine WO.ck 1 (F:=33) (l:=[.agg [I6 x1.qb,l3 none x1.qa]]) (C:=[]) (r:=.bool w16) (Ub x1 w16 hw16) (e1:=z29 [(32,.agg [I6 x1.qb,l3 none x1.qa]),(33,.bool w16)]) ?_;refine WO.fn (e2:=z29 [(34,.bool (!w16))]) ?_;refine W.cb (!w16) (fun hb=>?_) (fun hb=>?_)
   ·replace h:=qo hb h;refine W.seq ?_;refine W.rt (e2:=[(4,.bool false)]) ?_;refine W.wk (env':=[(4,.bool false)]) ?_;cases h;exact W.ret (show qi _ _ _=some _ by kernel_rfl)
   replace h:=qp hb h;refine W.skip ?_;refine W.wk (env':=z29 []) ?_;refine W.rg ?_;refine WO.pk 5 (some (I6 ((M6 x1.qa).length:Int))) (v:=I6 (x1.qa.length:Int)) (by rw[List.length_map]) (e1:=z29 [(35,l112 (some 10500) v11),(36,.ptr (I6 x1.qb)),(37,I6 x1.qb),(38,.ptr (l3 none x1.qa)),(39,l3 none x1.qa),(40,I6 (x1.qa.length:Int))]) ?_;obtain⟨hc18,h⟩:=qg h;refine WO.appendK 2 (d:=43) (e:=112) (s:=2) (bytes:=16) (xs:=(List.map Jj v11)) (ys:=(List.map Jj [(qj.mk x1.qb (x1.qa.length:Int))])) (zs:=(List.map Jj (v11++[(qj.mk x1.qb (x1.qa.length:Int))]))) (env1:=[(0,l94 none a1),(5,l112 none v11),(7,.ptr (.agg [I6 x1.qb,l3 none x1.qa])),(26,l41 none a2),(27,I6 (a2.length:Int)),(28,I6 (k1:Int)),(35,l112 none v11),(36,.ptr (I6 x1.qb)),(37,I6 x1.qb),(38,.ptr (l3 none x1.qa)),(39,l3 none x1.qa),(40,I6 (x1.qa.length:Int)),(41,.agg [I6 x1.qb,I6 (x1.qa.length:Int)]),(42,l112 (some 42) [(qj.mk x1.qb (x1.qa.length:Int))])]) (by kernel_rfl) (List.map_append.symm) (by rw[List.length_map];exact hc18) (e1:=z0 [(5,l112 none v11),(7,.ptr (.agg [I6 x1.qb,l3 none x1.qa])),(26,l41 none a2),(27,I6 (a2.length:Int)),(28,I6 (k1:Int)),(35,l112 none v11),(36,.ptr (I6 x1.qb)),(37,I6 x1.qb),(38,.ptr (l3 none x1.qa)),(39,l3 none x1.qa),(40,I6 (x1.qa.length:Int)),(41,.agg [I6 x1.qb,I6 (x1.qa.length:Int)]),(42,l112 (some 42) [(qj.mk x1.qb (x1.qa.length:Int))]),(43,l112 (some 43) (v11++[(qj.mk x1.qb (x1.qa.length:Int))]))]) (by kernel_rfl) ?_
   let z30:=fun t=>z0 ((5,l112 (some 43) (v11++[(qj.mk x1.qb (x1.qa.length:Int))]))::(26,l41 none a2)::(27,I6 (a2.length:Int))::(28,I6 (k1:Int))::t)
   refine WO.fn (e2:=z30 []) ?_;refine W.rg ?_;refine WO.pk 0 (some (I6 (IntKind.wrap .i64 ((k1:Int)+1)))) (v:=I6 ((k1+1:Nat):Int)) (by rw[qC hl1 hk1]) (e1:=z30 [(44,I6 ((k1+1:Nat):Int))]) ?_;refine WO.fin [0,5,26,27,28] [] [] [(43,some 10500)] (e2:=z0 [(5,l112 (some 10500) (v11++[(qj.mk x1.qb (x1.qa.length:Int))])),(26,l41 none a2),(27,I6 (a2.length:Int)),(28,I6 ((k1+1:Nat):Int))]) (by kernel_rfl) (fun _ h=>h) ?_;exact hN1 (v11++[(qj.mk x1.qb (x1.qa.length:Int))]) h
 refine W.rg ?_
 let z31:=fun t=>z1 ((18,l94 none a1)::(19,I6 (a1.length:Int))::t)
 refine WO.pk 1 (some (I6 ((List.map JR a1).length:Int))) (v:=I6 (a1.length:Int)) (by rw[List.length_map]) (e1:=z31 []) ?_;refine WO.bk 2 (fun b=>z31 [(20,.bool b),(21,.bool b)]) (decide ((a1.length:Int) > 10)) (fun hb=>?_) (fun hb=>?_)
 ·replace h:=qo hb h;refine WO.fn (e2:=z1 [(25,.bool true)]) ?_;exact hK5 true h
 replace h:=qp hb h;refine WO.pk 1 (some (I6 ((List.map qt a2).length:Int))) (v:=I6 (a2.length:Int)) (by rw[List.length_map]) (e1:=z31 [(20,.bool false),(21,.bool false),(22,l41 none a2),(23,I6 (a2.length:Int))]) ?_;refine WO.fn (e2:=z1 [(25,.bool (decide ((a2.length:Int) > 20)))]) ?_;exact hK5 (decide ((a2.length:Int) > 20)) h
def Ya (a1:Int) (a2:(List Int)):Option Int :=
 (bif ((a2.length:Int) == 1) then ((idx a2 0).bind fun e7=>(some (IntKind.wrap .i64 ((IntKind.wrap .i64 ((IntKind.wrap .i64 (a1 * 42))+e7)) - 1)))) else ((idx a2 0).bind fun e9=>((idx a2 1).bind fun e10=>(some (IntKind.wrap .i64 ((IntKind.wrap .i64 ((IntKind.wrap .i64 ((IntKind.wrap .i64 (a1 * 42))+(IntKind.wrap .i64 (e9 * 6))))+e10)) - 1))))))
theorem Vx (a1:Int) (a2:(List Int)) (r:Int) (h:Ya a1 a2=some r):Run Try.prog (.call 95 [I6 a1,l3 none a2] (I6 r)):=by
 refine cW Try.func95 rfl (env0:=[(0,I6 a1),(1,l3 none a2)]) ?_;unfold Ya at h;refine W.seq ?_
 let z0:=fun t=>EN ((0,I6 a1)::(1,l3 none a2)::t)
 refine W.rt (e2:=z0 []) ?_;refine W.seq ?_;refine W.seq ?_;refine W.rg ?_;refine WO.pk 1 (some (I6 ((M6 a2).length:Int))) (v:=I6 (a2.length:Int)) (by rw[List.length_map]) (e1:=z0 [(5,l3 none a2),(6,I6 (a2.length:Int))]) ?_
 let z1:=fun t=>z0 ((7,.bool ((a2.length:Int) == 1))::t)
 refine WO.fn (e2:=z1 []) ?_;refine W.cb ((a2.length:Int) == 1) (fun hb=>?_) (fun hb=>?_)
 ·replace h:=qo hb h;refine W.seq ?_;refine W.rg ?_;obtain⟨e7,he7,h⟩:=qe h;refine WO.pk 3 (if (0:Int)≤0 then ((M6 a2)[Int.toNat 0]?).map AV.ptr else none) (v:=.ptr (I6 e7)) (Yp (f:=(AV.int .i64)) he7) (e1:=z1 [(8,I6 a1),(9,I6 (W6 (a1 * 42))),(10,l3 none a2),(11,.ptr (I6 e7))]) ?_
  let z2:=fun t=>EN ((4,I6 (W6 ((W6 ((W6 (a1 * 42))+e7)) - 1)))::t)
  refine WO.fn (e2:=z2 []) ?_;refine W.wk (env':=z2 []) ?_;cases h;exact W.ret (show qi _ _ _=some _ by kernel_rfl)
 replace h:=qp hb h;refine W.skip ?_;refine W.wk (env':=z0 []) ?_;refine W.seq ?_;refine W.rg ?_;obtain⟨e9,he9,h⟩:=qe h
 let z3:=fun t=>z0 ((15,I6 a1)::(16,I6 (W6 (a1 * 42)))::(17,l3 none a2)::(18,.ptr (I6 e9))::t)
 refine WO.pk 3 (if (0:Int)≤0 then ((M6 a2)[Int.toNat 0]?).map AV.ptr else none) (v:=.ptr (I6 e9)) (Yp (f:=(AV.int .i64)) he9) (e1:=z3 []) ?_;obtain⟨e10,he10,h⟩:=qe h;refine WO.pk 4 (if (0:Int)≤1 then ((M6 a2)[Int.toNat 1]?).map AV.ptr else none) (v:=.ptr (I6 e10)) (Yp (f:=(AV.int .i64)) he10) (e1:=z3 [(19,I6 e9),(20,I6 (W6 (e9 * 6))),(21,I6 (W6 ((W6 (a1 * 42))+(W6 (e9 * 6))))),(22,l3 none a2),(23,.ptr (I6 e10))]) ?_
 let z4:=fun t=>EN ((4,I6 (W6 ((W6 ((W6 ((W6 (a1 * 42))+(W6 (e9 * 6))))+e10)) - 1)))::t)
 refine WO.fn (e2:=z4 []) ?_;refine W.wk (env':=z4 []) ?_;cases h;exact W.ret (show qi _ _ _=some _ by kernel_rfl)
def XS (v12:(List Bool)):Option (List Bool) :=
 (chk (decide (v12.length=252)) (chk (decide (v12.length=252∧(List.replicate 252 false).length=252)) (chk (decide (v12.length=252)) (some v12))))
def Xz (K4:((List Bool)→Option (List Bool))):List apiFact→Nat→(List Bool)→Option (List Bool)
 | [],k1,v6=>(K4 v6)
 | x1::r1,k1,v6=>((Ya x1.qb x1.qa).bind fun w9=>(chk (decide ((0:Int)≤w9∧w9<((252:Nat):Int)∧0<1)) (chk (decide ((0+Int.toNat w9 * 1)<v6.length)) ((Xz K4 r1 (k1+1)) (v6.set (0+Int.toNat w9 * 1) true)))))
def DS (a1:(List apiFact)):Option (List Bool) :=
 (chk (lenOk a1) (Xz (XS) a1 0 (List.replicate 252 false)))
theorem qej (a1:(List apiFact)) (r:(List Bool)) (h:DS a1=some r):Run Try.prog (.call 63 [l41 none a1] (.agg (List.map AV.bool r))):=by
 refine cW Try.func63 rfl (env0:=[(0,l41 none a1)]) ?_;unfold DS at h;refine W.seq ?_;refine W.rg ?_
 let z0:=fun t=>EN ((0,l41 none a1)::t)
 refine WO.steps 1 (e1:=z0 [(2,.box z252)]) (by kernel_rfl) ?_
 let z1:=fun t=>z0 ((2,.pb 1000002 0)::t)
 let z2:=fun t=>z1 ((1000002,.hob 3 [] (List.map AV.bool (List.replicate 252 false)))::t)
 refine WO.mv [.arr 2] (env':=z2 []) (by kernel_rfl) ?_;refine WO.fn (e2:=z2 []) ?_;refine W.seq ?_;refine W.rg ?_;refine WO.steps 1 (e1:=z1 [(3,.box z252),(1000002,.hob 3 [] (List.map AV.bool (List.replicate 252 false)))]) (by kernel_rfl) ?_
 let z3:=fun t=>z1 ((3,.pb 1000003 0)::(1000002,.hob 3 [] (List.map AV.bool (List.replicate 252 false)))::(1000003,.hob 3 [] (List.map AV.bool (List.replicate 252 false)))::t)
 refine WO.mv [.arr 3] (env':=z3 []) (by kernel_rfl) ?_;refine WO.fn (e2:=z3 []) ?_;refine W.seq ?_
 let z4:=fun t=>EN ((2,.pb 1000002 0)::(3,.pb 1000003 0)::t)
 let z5:=fun t=>z4 ((1000002,.hob 3 [] (List.map AV.bool (List.replicate 252 false)))::t)
 refine W.join (σ:=((List Bool))) (fun s=>z5 [(1000003,.hob 3 [] (List.map AV.bool s))]) (fun s=>(XS) s=some r) (fun v12 h=>?_) (fun hK4=>?_)
 ·have h:(XS) v12=some r:=h;unfold XS at h;refine W.seq ?_;refine W.rg ?_;obtain⟨hc14,h⟩:=qg h
  let z6:=fun t=>z4 ((19,.agg (List.map AV.bool v12))::t)
  refine WO.pk 0 (cut Try.prog 33 (List.map AV.bool v12) 0) (v:=.agg (List.map AV.bool v12)) (qW jV (sz:=252) (by kernel_rfl) (of_decide_eq_true hc14)) (e1:=z6 [(1000002,.hob 3 [] (List.map AV.bool (List.replicate 252 false))),(1000003,.hob 3 [] (List.map AV.bool v12))]) ?_;obtain⟨hc15,h⟩:=qg h;refine WO.storeA (enc:=AV.bool) (l:=v12) (l':=(List.replicate 252 false)) (s:=1000002) (sz:=252) 0 jV hc15 (e1:=z6 [(1000002,.hob 3 [] (List.map AV.bool v12)),(1000003,.hob 3 [] (List.map AV.bool v12))]) ?_
  let z7:=fun t=>EN ((2,.pb 1000002 0)::(1000002,.hob 3 [] (List.map AV.bool v12))::t)
  refine WO.fn (e2:=z7 []) ?_;refine W.wk (env':=z7 []) ?_;obtain⟨hn16,h⟩:=qg h;have hr:qi Try.prog Try.f63 [(2,.pb 1000002 0),(1000002,.hob 3 [] (List.map AV.bool v12))]=some (.agg (List.map AV.bool v12)):=(by kernel_rfl:qi Try.prog Try.f63 [(2,.pb 1000002 0),(1000002,.hob 3 [] (List.map AV.bool v12))]=(cut Try.prog 33 (List.map AV.bool v12) 0).map AV.strip).trans (by rw[qW jV (sz:=252) (by kernel_rfl) (of_decide_eq_true hn16)];rfl);cases h;exact W.ret hr
 refine W.seq ?_;refine W.rg ?_;refine WO.pk 1 (some (I6 ((List.map qt a1).length:Int))) (v:=I6 (a1.length:Int)) (by rw[List.length_map]) (e1:=z1 [(3,.pb 1000003 0),(6,l41 none a1),(7,I6 (a1.length:Int)),(1000002,.hob 3 [] (List.map AV.bool (List.replicate 252 false))),(1000003,.hob 3 [] (List.map AV.bool (List.replicate 252 false)))]) ?_
 let z8:=fun t=>z4 ((6,l41 none a1)::(7,I6 (a1.length:Int))::t)
 refine WO.fn (e2:=z8 [(8,.int .i64 0),(1000002,.hob 3 [] (List.map AV.bool (List.replicate 252 false))),(1000003,.hob 3 [] (List.map AV.bool (List.replicate 252 false)))]) ?_;refine W.block ?_;obtain⟨hl1,h⟩:=qg h;refine W.wk (env':=z8 [(8,I6 ((0:Nat):Int)),(1000002,.hob 3 [] (List.map AV.bool (List.replicate 252 false))),(1000003,.hob 3 [] (List.map AV.bool (List.replicate 252 false)))]) ?_;refine W.range (σ:=((List Bool))) a1 (fun k1 s=>z8 [(8,I6 (k1:Int)),(1000002,.hob 3 [] (List.map AV.bool (List.replicate 252 false))),(1000003,.hob 3 [] (List.map AV.bool s))]) (fun r0 k0 s=>Xz (XS) r0 k0 s=some r) (fun v6 h=>?_) (fun x1 r1 k1 s hx1 hk1 h hN1=>?_) (List.replicate 252 false) h
 ·have h:Xz (XS) [] (a1).length v6=some r:=h;rw[Xz.eq_1]at h;refine W.seq ?_;refine W.rg ?_
  let z9:=fun t=>z8 ((8,I6 ((a1).length:Int))::(9,.bool false)::(1000002,.hob 3 [] (List.map AV.bool (List.replicate 252 false)))::(1000003,.hob 3 [] (List.map AV.bool v6))::t)
  refine WO.pk 0 (some (.bool (decide (((a1).length:Int)<(a1.length:Int))))) (v:=.bool false) (by rw[qM (l:=a1)]) (e1:=z9 []) ?_;refine WO.fn (e2:=z9 []) ?_;refine W.seq ?_;refine W.cb false (fun h=>Bool.noConfusion h) (fun _=>?_);refine W.exit ?_;refine W.wk (env':=z5 [(1000003,.hob 3 [] (List.map AV.bool v6))]) ?_;exact hK4 v6 h
 ·obtain⟨v6,rfl⟩:∃ x,x=s:=⟨s,rfl⟩;have h:Xz (XS) (x1::r1) k1 v6=some r:=h;rw[Xz.eq_2]at h;refine W.seq ?_;refine W.rg ?_
  let z10:=fun t=>z8 ((8,I6 (k1:Int))::(9,.bool true)::(1000002,.hob 3 [] (List.map AV.bool (List.replicate 252 false)))::(1000003,.hob 3 [] (List.map AV.bool v6))::t)
  refine WO.pk 0 (some (.bool (decide ((k1:Int)<(a1.length:Int))))) (v:=.bool true) (by rw[qY hk1]) (e1:=z10 []) ?_;refine WO.fn (e2:=z10 []) ?_;refine W.seq ?_;refine W.cb true (fun _=>?_) (fun h=>Bool.noConfusion h);refine W.skip ?_
  let z11:=fun t=>z8 ((8,I6 (k1:Int))::(1000002,.hob 3 [] (List.map AV.bool (List.replicate 252 false)))::t)
  refine W.wk (env':=z11 [(1000003,.hob 3 [] (List.map AV.bool v6))]) ?_;refine W.seq ?_;refine W.block ?_;refine W.seq ?_;refine W.rg ?_
  let z12:=fun t=>z8 ((8,I6 (k1:Int))::t)
  refine WO.pk 0 (if (0:Int)≤(k1:Int) then ((List.map qt a1)[Int.toNat (k1:Int)]?).map AV.ptr else none) (v:=.ptr (.agg [I6 x1.qb,l3 none x1.qa])) (qZ (f:=qt) hx1) (e1:=z12 [(10,.ptr (.agg [I6 x1.qb,l3 none x1.qa])),(1000002,.hob 3 [] (List.map AV.bool (List.replicate 252 false))),(1000003,.hob 3 [] (List.map AV.bool v6))]) ?_
  let z13:=fun t=>z4 ((5,.ptr (.agg [I6 x1.qb,l3 none x1.qa]))::(6,l41 none a1)::(7,I6 (a1.length:Int))::(8,I6 (k1:Int))::t)
  refine WO.fin [2,3,5,6,7,8,1000002,1000003] [5] [] [] (e2:=z13 [(1000002,.hob 3 [] (List.map AV.bool (List.replicate 252 false))),(1000003,.hob 3 [] (List.map AV.bool v6))]) (by kernel_rfl) (fun _ h=>h) ?_;refine W.rg ?_;obtain⟨w9,hw9,h⟩:=qe h
  let z14:=fun t=>z13 ((12,.ptr (I6 x1.qb))::(13,I6 x1.qb)::(14,.ptr (l3 none x1.qa))::(15,l3 none x1.qa)::(16,I6 w9)::t)
  refine WO.ck 4 (F:=95) (l:=[I6 x1.qb,l3 none x1.qa]) (C:=[]) (r:=I6 w9) (Vx x1.qb x1.qa w9 hw9) (e1:=z14 [(1000002,.hob 3 [] (List.map AV.bool (List.replicate 252 false))),(1000003,.hob 3 [] (List.map AV.bool v6))]) ?_;obtain⟨hc10,h⟩:=qg h
  let z15:=fun t=>z14 ((17,.pb 1000003 (0+Int.toNat w9 * 1))::(1000002,.hob 3 [] (List.map AV.bool (List.replicate 252 false)))::t)
  refine WO.pi 0 (v:=.pb 1000003 (0+Int.toNat w9 * 1)) hc10 (e1:=z15 [(1000003,.hob 3 [] (List.map AV.bool v6))]) ?_;obtain⟨hc11,h⟩:=qg h;refine WO.setA (enc:=AV.bool) (l:=v6) (x:=true) (s:=1000003) (off:=(0+Int.toNat w9 * 1)) 0 jV hc11 (e1:=z15 [(1000003,.hob 3 [] (List.map AV.bool (v6.set (0+Int.toNat w9 * 1) true)))]) ?_;refine WO.fn (e2:=z11 [(1000003,.hob 3 [] (List.map AV.bool (v6.set (0+Int.toNat w9 * 1) true)))]) ?_;refine W.rg ?_;refine WO.pk 0 (some (I6 (IntKind.wrap .i64 ((k1:Int)+1)))) (v:=I6 ((k1+1:Nat):Int)) (by rw[qC hl1 hk1]) (e1:=z12 [(18,I6 ((k1+1:Nat):Int)),(1000002,.hob 3 [] (List.map AV.bool (List.replicate 252 false))),(1000003,.hob 3 [] (List.map AV.bool (v6.set (0+Int.toNat w9 * 1) true)))]) ?_;refine WO.fn (e2:=z8 [(8,I6 ((k1+1:Nat):Int)),(1000002,.hob 3 [] (List.map AV.bool (List.replicate 252 false))),(1000003,.hob 3 [] (List.map AV.bool (v6.set (0+Int.toNat w9 * 1) true)))]) ?_;exact hN1 (v6.set (0+Int.toNat w9 * 1) true) h
def Uh (a1:Int):Option apiFact :=
 (bif (decide (((a1).tmod 42) ≥ 6)) then (some (apiFact.mk (IntKind.wrap .i64 ((a1).tdiv 42)) [(IntKind.wrap .i64 ((((a1).tmod 42)).tdiv 6)),(IntKind.wrap .i64 (((((a1).tmod 42)).tmod 6)+1))])) else (some (apiFact.mk (IntKind.wrap .i64 ((a1).tdiv 42)) [(IntKind.wrap .i64 (((a1).tmod 42)+1))])))
theorem qck (a1:Int) (r:apiFact) (h:Uh a1=some r):Run Try.prog (.call 69 [I6 a1] (.agg [I6 r.qb,l3 none r.qa])):=by
 refine cW Try.func69 rfl (env0:=[(0,I6 a1)]) ?_;unfold Uh at h;refine W.seq ?_
 let z0:=fun t=>EN ((0,I6 a1)::(2,.box [.int .i64 0,.nils])::t)
 refine W.rt (e2:=z0 []) ?_;refine W.seq ?_;refine W.seq ?_;refine W.rt (e2:=z0 [(3,I6 ((a1).tmod 42))]) ?_;refine W.seq ?_;refine W.rt (e2:=z0 [(3,I6 ((a1).tmod 42)),(7,.bool (decide (((a1).tmod 42) ≥ 6)))]) ?_;refine W.cb (decide (((a1).tmod 42) ≥ 6)) (fun hb=>?_) (fun hb=>?_)
 ·replace h:=qo hb h;refine W.seq ?_
  let z1:=fun t=>EN ((2,.box [I6 (W6 ((a1).tdiv 42)),l3 none [(W6 ((((a1).tmod 42)).tdiv 6)),(W6 (((((a1).tmod 42)).tmod 6)+1))]])::t)
  refine W.rt (e2:=z1 []) ?_;refine W.wk (env':=z1 []) ?_;cases h;exact W.ret (show qi _ _ _=some _ by kernel_rfl)
 replace h:=qp hb h;refine W.skip ?_;refine W.wk (env':=z0 []) ?_;refine W.seq ?_
 let z2:=fun t=>EN ((2,.box [I6 (W6 ((a1).tdiv 42)),l3 none [(W6 (((a1).tmod 42)+1))]])::t)
 refine W.rt (e2:=z2 []) ?_;refine W.wk (env':=z2 []) ?_;cases h;exact W.ret (show qi _ _ _=some _ by kernel_rfl)
def qE (v65:(List (List Int))):Option (List (List Int)) :=
 (some v65)
def qG (N1:((List (List Int))→Option (List (List Int)))) (v64:(List (List Int))):Option (List (List Int)) :=
 (N1 v64)
def jj (a1:rf3Rule) (a2:(List Bool)) (a3:Int) (v25:(List (List Int))) (K0:(rf3Rule→(List Bool)→Int→(List Int)→Option (List (List Int)))) (K26:((List (List Int))→Option (List (List Int)))) (v57:(List Int)) (v58:Bool):Option (List (List Int)) :=
 (bif v58 then (chk (decide (a2.length=252)) (chk (decide (v57.length=8)) ((K0 a1 a2 (IntKind.wrap .i64 (a3+1)) v57).bind fun w62=>(chk (capOk 64 ((v25++w62)).length) (K26 (v25++w62)))))) else (K26 v25))
def jH (N2:((List Int)→Bool→Option (List (List Int)))) (v55:(List Int)) (v56:Bool):Option (List (List Int)) :=
 (N2 v55 v56)
def qD (w31:apiFact) (K38:((List Int)→Bool→Option (List (List Int)))):List Int→Nat→(List Int)→Bool→Option (List (List Int))
 | [],k2,v40,v41=>(K38 v40 v41)
 | x2::r2,k2,v40,v41=>(bif (decide (x2<0)) then (bif v41 then ((idx w31.qa (k2:Int)).bind fun e45=>((jH (qD w31 K38 r2 (k2+1))) v40 (e45 == (IntKind.wrap .i64 (0 - x2))))) else ((jH (qD w31 K38 r2 (k2+1))) v40 false)) else (chk (decide ((0:Int)≤x2∧x2<((8:Nat):Int)∧0<1)) ((v40[(0+Int.toNat x2 * 1)]?).bind fun e48=>(bif (e48 != 0) then (bif v41 then ((idx w31.qa (k2:Int)).bind fun e49=>(chk (decide ((0:Int)≤x2∧x2<((8:Nat):Int)∧0<1)) ((v40[(0+Int.toNat x2 * 1)]?).bind fun e51=>((jH (qD w31 K38 r2 (k2+1))) v40 (e49 == e51))))) else ((jH (qD w31 K38 r2 (k2+1))) v40 false)) else ((idx w31.qa (k2:Int)).bind fun e52=>(chk (decide ((0:Int)≤x2∧x2<((8:Nat):Int)∧0<1)) (chk (decide ((0+Int.toNat x2 * 1)<v40.length)) ((jH (qD w31 K38 r2 (k2+1))) (v40.set (0+Int.toNat x2 * 1) e52) v41))))))))
def jI (a1:rf3Rule) (a2:(List Bool)) (a3:Int) (a4:(List Int)) (e14:rf3Lit) (v25:(List (List Int))) (w31:apiFact) (K0:(rf3Rule→(List Bool)→Int→(List Int)→Option (List (List Int)))) (K26:((List (List Int))→Option (List (List Int)))) (v34:Bool):Option (List (List Int)) :=
 (bif v34 then (K26 v25) else (chk (decide (a4.length=8)) (chk (decide (a4.length=8∧(List.replicate 8 0).length=8)) (chk (lenOk e14.qd.qa) (qD w31 (jj a1 a2 a3 v25 K0 K26) e14.qd.qa 0 a4 true)))))
def qx (a1:rf3Rule) (a2:(List Bool)) (a3:Int) (a4:(List Int)) (e14:rf3Lit) (K0:(rf3Rule→(List Bool)→Int→(List Int)→Option (List (List Int)))) (K22:((List (List Int))→Option (List (List Int)))):List Nat→Nat→(List (List Int))→Option (List (List Int))
 | [],k1,v25=>(K22 v25)
 | x1::r1,k1,v25=>(chk (decide ((0:Int)≤(k1:Int)∧(k1:Int)<((252:Nat):Int))) ((a2[Int.toNat (k1:Int) * 1]?).bind fun e29=>((Uh (k1:Int)).bind fun w31=>(bif (!e29) then ((jI a1 a2 a3 a4 e14 v25 w31 K0 (qG (qx a1 a2 a3 a4 e14 K0 K22 r1 (k1+1)))) true) else (bif (w31.qb != e14.qd.qb) then ((jI a1 a2 a3 a4 e14 v25 w31 K0 (qG (qx a1 a2 a3 a4 e14 K0 K22 r1 (k1+1)))) true) else ((jI a1 a2 a3 a4 e14 v25 w31 K0 (qG (qx a1 a2 a3 a4 e14 K0 K22 r1 (k1+1)))) ((w31.qa.length:Int) != (e14.qd.qa.length:Int))))))))
def qy:Nat→rf3Rule→(List Bool)→Int→(List Int)→Option (List (List Int))
 | 0,_,_,_,_=>none
 | fuel+1,a1,a2,a3,a4=>(chk (!a2.isEmpty) (chk (!a4.isEmpty) (bif (a3 == (a1.qc.length:Int)) then (chk (decide (a4.length=8)) (chk (decide (a4.length=8)) (some [a4]))) else ((idx a1.qc a3).bind fun e14=>(bif e14.qr then (chk (decide (a2.length=252)) (chk (decide (a4.length=8)) (((qy fuel) a1 a2 (IntKind.wrap .i64 (a3+1)) a4).bind fun w20=>(some w20)))) else (chk (decide (a2.length=252)) (chk (lenOk (List.range (Int.toNat 252))) (qx a1 a2 a3 a4 e14 (qy fuel) (qE) (List.range (Int.toNat 252)) 0 ([]:(List (List Int)))))))))))
theorem NG:∀ (fuel:Nat) (a1:rf3Rule) (a2:(List Bool)) (a3:Int) (a4:(List Int)) (r:(List (List Int))) (h:qy fuel a1 a2 a3 a4=some r),Run Try.prog (.call 96 [.agg [I6 a1.qf.qb,l3 none a1.qf.qa,l96 none a1.qc],.agg (List.map AV.bool a2),I6 a3,.agg (M6 a4)] (l90 none r)):=by
 intro fuel
 induction fuel with
 | zero=>intro a1 a2 a3 a4 r h;cases h
 | succ fuel ih =>
  intro a1 a2 a3 a4 r h;refine cW Try.func96 rfl (env0:=[(0,.agg [I6 a1.qf.qb,l3 none a1.qf.qa,l96 none a1.qc]),(1,.agg (List.map AV.bool a2)),(2,I6 a3),(3,.agg (M6 a4))]) ?_;rw[qy.eq_2]at h;refine W.seq ?_;refine W.rg ?_;obtain⟨hc6,h⟩:=qg h
  let z0:=fun t=>EN ((0,.agg [I6 a1.qf.qb,l3 none a1.qf.qa,l96 none a1.qc])::(1,.agg (List.map AV.bool a2))::(2,I6 a3)::(3,.agg (M6 a4))::(4,.box [I6 a1.qf.qb,l3 none a1.qf.qa,l96 none a1.qc])::(5,.pb 1000005 0)::t)
  refine WO.boxA (enc:=AV.bool) (l:=a2) (d:=5) 1 jV hc6 (e1:=z0 [(1000005,.hob 3 [] (List.map AV.bool a2))]) ?_;obtain⟨hc7,h⟩:=qg h;refine WO.boxA (enc:=(AV.int .i64)) (l:=a4) (d:=7) 0 (qA .i64) hc7 (e1:=z0 [(7,.pb 1000007 0),(1000005,.hob 3 [] (List.map AV.bool a2)),(1000007,.hob 3 [] (M6 a4))]) ?_
  let z1:=fun t=>EN ((2,I6 a3)::(4,.ptr (.agg [I6 a1.qf.qb,l3 none a1.qf.qa,l96 none a1.qc]))::(5,.pb 1000005 0)::(7,.pb 1000007 0)::t)
  let z2:=fun t=>z1 ((1000005,.hob 3 [] (List.map AV.bool a2))::(1000007,.hob 3 [] (M6 a4))::t)
  refine WO.fin [2,4,5,7,1000005,1000007] [4] [] [] (e2:=z2 []) (by kernel_rfl) (fun _ h=>h) ?_;refine W.seq ?_;refine W.seq ?_;refine W.rg ?_;refine WO.pk 3 (some (I6 ((List.map JD a1.qc).length:Int))) (v:=I6 (a1.qc.length:Int)) (by rw[List.length_map]) (e1:=z1 [(18,I6 a3),(19,.ptr (l96 none a1.qc)),(20,l96 none a1.qc),(21,I6 (a1.qc.length:Int)),(1000005,.hob 3 [] (List.map AV.bool a2)),(1000007,.hob 3 [] (M6 a4))]) ?_
  let z3:=fun t=>z1 ((22,.bool (a3 == (a1.qc.length:Int)))::t)
  refine WO.fn (e2:=z3 [(1000005,.hob 3 [] (List.map AV.bool a2)),(1000007,.hob 3 [] (M6 a4))]) ?_;refine W.cb (a3 == (a1.qc.length:Int)) (fun hb=>?_) (fun hb=>?_)
  ·replace h:=qo hb h;refine W.seq ?_;refine W.rg ?_;obtain⟨hc11,h⟩:=qg h;refine WO.pk 0 (cut Try.prog 90 (M6 a4) 0) (v:=.agg (M6 a4)) (qW (qA .i64) (sz:=8) (by kernel_rfl) (of_decide_eq_true hc11)) (e1:=z3 [(23,.agg (M6 a4)),(1000005,.hob 3 [] (List.map AV.bool a2)),(1000007,.hob 3 [] (M6 a4))]) ?_;obtain⟨hc12,h⟩:=qg h;refine WO.litA (enc:=(AV.int .i64)) (l:=a4) (d:=24) (t:=157) (e:=90) (s:=8) 0 (qA .i64) (of_decide_eq_true hc12) (e1:=z3 [(23,.agg (M6 a4)),(24,l90 (some 24) [a4]),(1000005,.hob 3 [] (List.map AV.bool a2)),(1000007,.hob 3 [] (M6 a4))]) ?_;refine WO.fn (e2:=[(8,l90 (some 24) [a4])]) ?_;refine W.weak [8] [] [] [(24,none)] (env':=[(8,l90 none [a4])]) (by kernel_rfl) ?_;cases h;exact W.ret (show qi _ _ _=some _ by kernel_rfl)
  replace h:=qp hb h;refine W.skip ?_;refine W.wk (env':=z2 []) ?_;refine W.seq ?_;refine W.rg ?_;obtain⟨e14,he14,h⟩:=qe h;refine WO.pk 3 (if (0:Int)≤a3 then ((List.map JD a1.qc)[Int.toNat a3]?).map AV.ptr else none) (v:=.ptr (.agg [.bool e14.qr,I6 e14.qd.qb,l3 none e14.qd.qa])) (Yp (f:=JD) he14) (e1:=z1 [(25,.ptr (l96 none a1.qc)),(26,l96 none a1.qc),(27,I6 a3),(28,.ptr (.agg [.bool e14.qr,I6 e14.qd.qb,l3 none e14.qd.qa])),(1000005,.hob 3 [] (List.map AV.bool a2)),(1000007,.hob 3 [] (M6 a4))]) ?_
  let z4:=fun t=>z1 ((9,.ptr (.agg [.bool e14.qr,I6 e14.qd.qb,l3 none e14.qd.qa]))::t)
  let z5:=fun t=>z4 ((1000005,.hob 3 [] (List.map AV.bool a2))::(1000007,.hob 3 [] (M6 a4))::t)
  refine WO.fin [2,4,5,7,9,1000005,1000007] [9] [] [] (e2:=z5 []) (by kernel_rfl) (fun _ h=>h) ?_;refine W.seq ?_;refine W.seq ?_
  let z6:=fun t=>z4 ((31,.bool e14.qr)::t)
  refine W.rt (e2:=z6 [(1000005,.hob 3 [] (List.map AV.bool a2)),(1000007,.hob 3 [] (M6 a4))]) ?_;refine W.cb e14.qr (fun hb=>?_) (fun hb=>?_)
  ·replace h:=qo hb h;refine W.seq ?_;refine W.rg ?_;obtain⟨hc18,h⟩:=qg h
   let z7:=fun t=>z6 ((32,.agg [I6 a1.qf.qb,l3 none a1.qf.qa,l96 none a1.qc])::(33,.agg (List.map AV.bool a2))::t)
   refine WO.pk 1 (cut Try.prog 33 (List.map AV.bool a2) 0) (v:=.agg (List.map AV.bool a2)) (qW jV (sz:=252) (by kernel_rfl) (of_decide_eq_true hc18)) (e1:=z7 [(1000005,.hob 3 [] (List.map AV.bool a2)),(1000007,.hob 3 [] (M6 a4))]) ?_;obtain⟨hc19,h⟩:=qg h
   let z8:=fun t=>z7 ((34,I6 a3)::(35,I6 (W6 (a3+1)))::(36,.agg (M6 a4))::t)
   refine WO.pk 2 (cut Try.prog 90 (M6 a4) 0) (v:=.agg (M6 a4)) (qW (qA .i64) (sz:=8) (by kernel_rfl) (of_decide_eq_true hc19)) (e1:=z8 [(1000005,.hob 3 [] (List.map AV.bool a2)),(1000007,.hob 3 [] (M6 a4))]) ?_;obtain⟨w20,hw20,h⟩:=qe h;refine WO.ck 0 (F:=96) (l:=[.agg [I6 a1.qf.qb,l3 none a1.qf.qa,l96 none a1.qc],.agg (List.map AV.bool a2),I6 (W6 (a3+1)),.agg (M6 a4)]) (C:=[]) (r:=l90 none w20) (ih a1 a2 (W6 (a3+1)) a4 w20 hw20) (e1:=z8 [(37,l90 none w20),(1000005,.hob 3 [] (List.map AV.bool a2)),(1000007,.hob 3 [] (M6 a4))]) ?_;refine WO.fn (e2:=[(8,l90 none w20)]) ?_;refine W.wk (env':=[(8,l90 none w20)]) ?_;cases h;exact W.ret (show qi _ _ _=some _ by kernel_rfl)
  replace h:=qp hb h;refine W.skip ?_;refine W.wk (env':=z5 []) ?_;refine W.seq ?_;refine W.rt (e2:=z4 [(10,.nils),(1000005,.hob 3 [] (List.map AV.bool a2)),(1000007,.hob 3 [] (M6 a4))]) ?_;refine W.seq ?_;refine W.join (σ:=((List (List Int)))) (fun s=>[(10,l90 (some 11000) s)]) (fun s=>(qE) s=some r) (fun v65 h=>?_) (fun hK22=>?_)
  ·have h:(qE) v65=some r:=h;unfold qE at h;refine W.seq ?_;refine W.rt (e2:=[(8,l90 (some 11000) v65)]) ?_;refine W.weak [8] [] [] [(11000,none)] (env':=[(8,l90 none v65)]) (by kernel_rfl) ?_;cases h;exact W.ret (show qi _ _ _=some _ by kernel_rfl)
  refine W.seq ?_;refine W.rg ?_;obtain⟨hc24,h⟩:=qg h
  let z9:=fun t=>z4 ((10,.nils)::(38,.agg (List.map AV.bool a2))::t)
  refine WO.pk 0 (cut Try.prog 33 (List.map AV.bool a2) 0) (v:=.agg (List.map AV.bool a2)) (qW jV (sz:=252) (by kernel_rfl) (of_decide_eq_true hc24)) (e1:=z9 [(1000005,.hob 3 [] (List.map AV.bool a2)),(1000007,.hob 3 [] (M6 a4))]) ?_;refine WO.fn (e2:=z9 [(39,.int .i64 0),(1000005,.hob 3 [] (List.map AV.bool a2)),(1000007,.hob 3 [] (M6 a4))]) ?_;refine W.block ?_;obtain⟨hl1,h⟩:=qg h;refine W.weak [2,4,5,7,9,10,38,39,1000005,1000007] [] [(10,0,90,8,11000)] [] (env':=z4 [(10,l90 (some 11000) ([]:(List (List Int)))),(38,.agg (List.map AV.bool a2)),(39,I6 ((0:Nat):Int)),(1000005,.hob 3 [] (List.map AV.bool a2)),(1000007,.hob 3 [] (M6 a4))]) (by kernel_rfl) ?_;refine W.range (σ:=((List (List Int)))) (List.range (Int.toNat 252)) (fun k1 s=>z4 [(10,l90 (some 11000) s),(38,.agg (List.map AV.bool a2)),(39,I6 (k1:Int)),(1000005,.hob 3 [] (List.map AV.bool a2)),(1000007,.hob 3 [] (M6 a4))]) (fun r0 k0 s=>qx a1 a2 a3 a4 e14 (qy fuel) (qE) r0 k0 s=some r) (fun v25 h=>?_) (fun x1 r1 k1 s hx1 hk1 h hN1=>?_) ([]:(List (List Int))) h
  ·have h:qx a1 a2 a3 a4 e14 (qy fuel) (qE) [] ((List.range (Int.toNat 252))).length v25=some r:=h;rw[qx.eq_1]at h;refine W.seq ?_;refine W.rg ?_
   let z10:=fun t=>z4 ((10,l90 (some 11000) v25)::(38,.agg (List.map AV.bool a2))::(39,I6 (((List.range (Int.toNat 252))).length:Int))::(40,.bool false)::(1000005,.hob 3 [] (List.map AV.bool a2))::(1000007,.hob 3 [] (M6 a4))::t)
   refine WO.pk 0 (some (.bool (decide ((((List.range (Int.toNat 252))).length:Int)<252)))) (v:=.bool false) (by rw[UF (n:=252)]) (e1:=z10 []) ?_;refine WO.fn (e2:=z10 []) ?_;refine W.seq ?_;refine W.cb false (fun h=>Bool.noConfusion h) (fun _=>?_);refine W.exit ?_;refine W.wk (env':=[(10,l90 (some 11000) v25)]) ?_;exact hK22 v25 h
  ·obtain⟨v25,rfl⟩:∃ x,x=s:=⟨s,rfl⟩;have h:qx a1 a2 a3 a4 e14 (qy fuel) (qE) (x1::r1) k1 v25=some r:=h;rw[qx.eq_2]at h;refine W.seq ?_;refine W.rg ?_
   let z11:=fun t=>z4 ((10,l90 (some 11000) v25)::t)
   let z12:=fun t=>z11 ((38,.agg (List.map AV.bool a2))::(39,I6 (k1:Int))::t)
   let z13:=fun t=>z12 ((40,.bool true)::(1000005,.hob 3 [] (List.map AV.bool a2))::(1000007,.hob 3 [] (M6 a4))::t)
   refine WO.pk 0 (some (.bool (decide ((k1:Int)<252)))) (v:=.bool true) (by rw[NQ hk1]) (e1:=z13 []) ?_;refine WO.fn (e2:=z13 []) ?_;refine W.seq ?_;refine W.cb true (fun _=>?_) (fun h=>Bool.noConfusion h);refine W.skip ?_
   let z14:=fun t=>z12 ((1000005,.hob 3 [] (List.map AV.bool a2))::(1000007,.hob 3 [] (M6 a4))::t)
   refine W.wk (env':=z14 []) ?_;refine W.seq ?_;refine W.join (σ:=((List (List Int)))) (fun s=>z4 [(10,l90 (some 11000) s),(38,.agg (List.map AV.bool a2)),(39,I6 (k1:Int)),(1000005,.hob 3 [] (List.map AV.bool a2)),(1000007,.hob 3 [] (M6 a4))]) (fun s=>(qG (qx a1 a2 a3 a4 e14 (qy fuel) (qE) r1 (k1+1))) s=some r) (fun v64 h=>?_) (fun hK26=>?_)
   ·have h:(qG (qx a1 a2 a3 a4 e14 (qy fuel) (qE) r1 (k1+1))) v64=some r:=h;unfold qG at h;refine W.rg ?_
    let z15:=fun t=>z4 ((10,l90 (some 11000) v64)::(38,.agg (List.map AV.bool a2))::t)
    refine WO.pk 0 (some (I6 (IntKind.wrap .i64 ((k1:Int)+1)))) (v:=I6 ((k1+1:Nat):Int)) (by rw[qC hl1 hk1]) (e1:=z15 [(39,I6 (k1:Int)),(123,I6 ((k1+1:Nat):Int)),(1000005,.hob 3 [] (List.map AV.bool a2)),(1000007,.hob 3 [] (M6 a4))]) ?_;refine WO.fn (e2:=z15 [(39,I6 ((k1+1:Nat):Int)),(1000005,.hob 3 [] (List.map AV.bool a2)),(1000007,.hob 3 [] (M6 a4))]) ?_;exact hN1 v64 h
   refine W.block ?_;refine W.seq ?_;refine W.rg ?_;obtain⟨hc28,h⟩:=qg h;obtain⟨e29,he29,h⟩:=qe h;refine WO.pk 1 (if (0:Int)≤(k1:Int)∧(k1:Int)<((252:Nat):Int) then cut Try.prog 4 (List.map AV.strip (List.map AV.bool a2)) (Int.toNat (k1:Int) * 1) else none) (v:=.bool e29) (HK jV (by kernel_rfl) (of_decide_eq_true hc28) he29) (e1:=z12 [(41,I6 (k1:Int)),(42,.bool e29),(1000005,.hob 3 [] (List.map AV.bool a2)),(1000007,.hob 3 [] (M6 a4))]) ?_
   let z16:=fun t=>z11 ((11,I6 (k1:Int))::(12,.bool e29)::(38,.agg (List.map AV.bool a2))::(39,I6 (k1:Int))::t)
   refine WO.fn (e2:=z16 [(1000005,.hob 3 [] (List.map AV.bool a2)),(1000007,.hob 3 [] (M6 a4))]) ?_;refine W.seq ?_;refine W.rg ?_;obtain⟨w31,hw31,h⟩:=qe h;refine WO.ck 1 (F:=69) (l:=[I6 (k1:Int)]) (C:=[]) (r:=.agg [I6 w31.qb,l3 none w31.qa]) (qck (k1:Int) w31 hw31) (e1:=z16 [(43,I6 (k1:Int)),(44,.agg [I6 w31.qb,l3 none w31.qa]),(1000005,.hob 3 [] (List.map AV.bool a2)),(1000007,.hob 3 [] (M6 a4))]) ?_
   let z17:=fun t=>z11 ((12,.bool e29)::(13,.ptr (.agg [I6 w31.qb,l3 none w31.qa]))::(38,.agg (List.map AV.bool a2))::(39,I6 (k1:Int))::t)
   refine WO.fin [2,4,5,7,9,10,12,13,38,39,1000005,1000007] [13] [] [] (e2:=z17 [(1000005,.hob 3 [] (List.map AV.bool a2)),(1000007,.hob 3 [] (M6 a4))]) (by kernel_rfl) (fun _ h=>h) ?_;refine W.seq ?_;refine W.seq ?_
   let z18:=fun t=>z11 ((13,.ptr (.agg [I6 w31.qb,l3 none w31.qa]))::t)
   let z19:=fun t=>z18 ((38,.agg (List.map AV.bool a2))::(39,I6 (k1:Int))::t)
   refine W.join (σ:=(Bool)) (fun s=>z19 [(64,.bool s),(1000005,.hob 3 [] (List.map AV.bool a2)),(1000007,.hob 3 [] (M6 a4))]) (fun s=>(jI a1 a2 a3 a4 e14 v25 w31 (qy fuel) (qG (qx a1 a2 a3 a4 e14 (qy fuel) (qE) r1 (k1+1)))) s=some r) (fun v34 h=>?_) (fun hK33=>?_)
   ·have h:(jI a1 a2 a3 a4 e14 v25 w31 (qy fuel) (qG (qx a1 a2 a3 a4 e14 (qy fuel) (qE) r1 (k1+1)))) v34=some r:=h;unfold jI at h;refine W.cb v34 (fun hb=>?_) (fun hb=>?_)
    ·replace h:=qo hb h;refine W.exit ?_;refine W.wk (env':=z14 []) ?_;exact hK26 v25 h
    replace h:=qp hb h;refine W.skip ?_;refine W.wk (env':=z19 [(1000005,.hob 3 [] (List.map AV.bool a2)),(1000007,.hob 3 [] (M6 a4))]) ?_;refine W.seq ?_;refine W.rg ?_;obtain⟨hc36,h⟩:=qg h;refine WO.pk 0 (cut Try.prog 90 (M6 a4) 0) (v:=.agg (M6 a4)) (qW (qA .i64) (sz:=8) (by kernel_rfl) (of_decide_eq_true hc36)) (e1:=z19 [(65,.agg (M6 a4)),(1000005,.hob 3 [] (List.map AV.bool a2)),(1000007,.hob 3 [] (M6 a4))]) ?_;refine WO.steps 1 (e1:=z18 [(14,.box [.int .i64 0,.int .i64 0,.int .i64 0,.int .i64 0,.int .i64 0,.int .i64 0,.int .i64 0,.int .i64 0]),(38,.agg (List.map AV.bool a2)),(39,I6 (k1:Int)),(65,.agg (M6 a4)),(1000005,.hob 3 [] (List.map AV.bool a2)),(1000007,.hob 3 [] (M6 a4))]) (by kernel_rfl) ?_
    let z20:=fun t=>z18 ((14,.pb 1000014 0)::t)
    let z21:=fun t=>z20 ((38,.agg (List.map AV.bool a2))::(39,I6 (k1:Int))::(65,.agg (M6 a4))::(1000005,.hob 3 [] (List.map AV.bool a2))::(1000007,.hob 3 [] (M6 a4))::t)
    refine WO.mv [.arr 14] (env':=z21 [(1000014,.hob 3 [] (M6 (List.replicate 8 0)))]) (by kernel_rfl) ?_;obtain⟨hc37,h⟩:=qg h;refine WO.storeA (enc:=(AV.int .i64)) (l:=a4) (l':=(List.replicate 8 0)) (s:=1000014) (sz:=8) 0 (qA .i64) hc37 (e1:=z21 [(1000014,.hob 3 [] (M6 a4))]) ?_
    let z22:=fun t=>z20 ((15,.bool true)::(38,.agg (List.map AV.bool a2))::(39,I6 (k1:Int))::t)
    refine WO.fn (e2:=z22 [(1000005,.hob 3 [] (List.map AV.bool a2)),(1000007,.hob 3 [] (M6 a4)),(1000014,.hob 3 [] (M6 a4))]) ?_;refine W.seq ?_
    let z23:=fun t=>z11 ((14,.pb 1000014 0)::t)
    refine W.join (σ:=((List Int)×Bool)) (fun s=>z23 [(15,.bool s.2),(38,.agg (List.map AV.bool a2)),(39,I6 (k1:Int)),(1000005,.hob 3 [] (List.map AV.bool a2)),(1000007,.hob 3 [] (M6 a4)),(1000014,.hob 3 [] (M6 s.1))]) (fun s=>(jj a1 a2 a3 v25 (qy fuel) (qG (qx a1 a2 a3 a4 e14 (qy fuel) (qE) r1 (k1+1)))) s.1 s.2=some r) (fun s h=>?_) (fun hK38=>?_)
    ·obtain⟨v57,v58⟩:=s;have h:(jj a1 a2 a3 v25 (qy fuel) (qG (qx a1 a2 a3 a4 e14 (qy fuel) (qE) r1 (k1+1)))) v57 v58=some r:=h;unfold jj at h;refine W.seq ?_
     let z24:=fun t=>z23 ((38,.agg (List.map AV.bool a2))::(39,I6 (k1:Int))::(114,.bool v58)::t)
     refine W.rt (e2:=z24 [(1000005,.hob 3 [] (List.map AV.bool a2)),(1000007,.hob 3 [] (M6 a4)),(1000014,.hob 3 [] (M6 v57))]) ?_;refine W.cb v58 (fun hb=>?_) (fun hb=>?_)
     ·replace h:=qo hb h;refine W.rg ?_;obtain⟨hc60,h⟩:=qg h
      let z25:=fun t=>z24 ((115,l90 (some 11000) v25)::(116,.agg [I6 a1.qf.qb,l3 none a1.qf.qa,l96 none a1.qc])::(117,.agg (List.map AV.bool a2))::t)
      refine WO.pk 2 (cut Try.prog 33 (List.map AV.bool a2) 0) (v:=.agg (List.map AV.bool a2)) (qW jV (sz:=252) (by kernel_rfl) (of_decide_eq_true hc60)) (e1:=z25 [(1000005,.hob 3 [] (List.map AV.bool a2)),(1000007,.hob 3 [] (M6 a4)),(1000014,.hob 3 [] (M6 v57))]) ?_;obtain⟨hc61,h⟩:=qg h
      let z26:=fun t=>z25 ((118,I6 a3)::(119,I6 (W6 (a3+1)))::(120,.agg (M6 v57))::t)
      refine WO.pk 2 (cut Try.prog 90 (M6 v57) 0) (v:=.agg (M6 v57)) (qW (qA .i64) (sz:=8) (by kernel_rfl) (of_decide_eq_true hc61)) (e1:=z26 [(1000005,.hob 3 [] (List.map AV.bool a2)),(1000007,.hob 3 [] (M6 a4)),(1000014,.hob 3 [] (M6 v57))]) ?_;obtain⟨w62,hw62,h⟩:=qe h;refine WO.ck 0 (F:=96) (l:=[.agg [I6 a1.qf.qb,l3 none a1.qf.qa,l96 none a1.qc],.agg (List.map AV.bool a2),I6 (W6 (a3+1)),.agg (M6 v57)]) (C:=[]) (r:=l90 none w62) (ih a1 a2 (W6 (a3+1)) v57 w62 hw62) (e1:=z26 [(121,l90 none w62),(1000005,.hob 3 [] (List.map AV.bool a2)),(1000007,.hob 3 [] (M6 a4)),(1000014,.hob 3 [] (M6 v57))]) ?_;obtain⟨hc63,h⟩:=qg h;refine WO.appendK 0 (d:=122) (e:=90) (s:=8) (bytes:=64) (xs:=(List.map (fun l=>AV.agg (M6 l)) v25)) (ys:=(List.map (fun l=>AV.agg (M6 l)) w62)) (zs:=(List.map (fun l=>AV.agg (M6 l)) (v25++w62))) (env1:=[(2,I6 a3),(4,.ptr (.agg [I6 a1.qf.qb,l3 none a1.qf.qa,l96 none a1.qc])),(5,.pb 1000005 0),(7,.pb 1000007 0),(9,.ptr (.agg [.bool e14.qr,I6 e14.qd.qb,l3 none e14.qd.qa])),(10,l90 none v25),(14,.pb 1000014 0),(38,.agg (List.map AV.bool a2)),(39,I6 (k1:Int)),(114,.bool v58),(115,l90 none v25),(116,.agg [I6 a1.qf.qb,l3 none a1.qf.qa,l96 none a1.qc]),(117,.agg (List.map AV.bool a2)),(118,I6 a3),(119,I6 (W6 (a3+1))),(120,.agg (M6 v57)),(121,l90 none w62),(1000005,.hob 3 [] (List.map AV.bool a2)),(1000007,.hob 3 [] (M6 a4)),(1000014,.hob 3 [] (M6 v57))]) (by kernel_rfl) (List.map_append.symm) (by rw[List.length_map];exact hc63) (e1:=z4 [(10,l90 none v25),(14,.pb 1000014 0),(38,.agg (List.map AV.bool a2)),(39,I6 (k1:Int)),(114,.bool v58),(115,l90 none v25),(116,.agg [I6 a1.qf.qb,l3 none a1.qf.qa,l96 none a1.qc]),(117,.agg (List.map AV.bool a2)),(118,I6 a3),(119,I6 (W6 (a3+1))),(120,.agg (M6 v57)),(121,l90 none w62),(122,l90 (some 122) (v25++w62)),(1000005,.hob 3 [] (List.map AV.bool a2)),(1000007,.hob 3 [] (M6 a4)),(1000014,.hob 3 [] (M6 v57))]) (by kernel_rfl) ?_;refine WO.fin [2,4,5,7,9,10,38,39,1000005,1000007] [] [] [(122,some 11000)] (e2:=z4 [(10,l90 (some 11000) (v25++w62)),(38,.agg (List.map AV.bool a2)),(39,I6 (k1:Int)),(1000005,.hob 3 [] (List.map AV.bool a2)),(1000007,.hob 3 [] (M6 a4))]) (by kernel_rfl) (fun _ h=>h) ?_;exact hK26 (v25++w62) h
     replace h:=qp hb h;refine W.skip ?_;refine W.wk (env':=z14 []) ?_;exact hK26 v25 h
    refine W.seq ?_;refine W.rg ?_;refine WO.pk 3 (some (I6 ((M6 e14.qd.qa).length:Int))) (v:=I6 (e14.qd.qa.length:Int)) (by rw[List.length_map]) (e1:=z22 [(66,.ptr (.agg [I6 e14.qd.qb,l3 none e14.qd.qa])),(67,.ptr (l3 none e14.qd.qa)),(68,l3 none e14.qd.qa),(69,I6 (e14.qd.qa.length:Int)),(1000005,.hob 3 [] (List.map AV.bool a2)),(1000007,.hob 3 [] (M6 a4)),(1000014,.hob 3 [] (M6 a4))]) ?_
    let z27:=fun t=>z22 ((68,l3 none e14.qd.qa)::(69,I6 (e14.qd.qa.length:Int))::t)
    refine WO.fn (e2:=z27 [(70,.int .i64 0),(1000005,.hob 3 [] (List.map AV.bool a2)),(1000007,.hob 3 [] (M6 a4)),(1000014,.hob 3 [] (M6 a4))]) ?_;refine W.block ?_;obtain⟨hl2,h⟩:=qg h;refine W.wk (env':=z27 [(70,I6 ((0:Nat):Int)),(1000005,.hob 3 [] (List.map AV.bool a2)),(1000007,.hob 3 [] (M6 a4)),(1000014,.hob 3 [] (M6 a4))]) ?_;refine W.range (σ:=((List Int)×Bool)) e14.qd.qa (fun k2 s=>z20 [(15,.bool s.2),(38,.agg (List.map AV.bool a2)),(39,I6 (k1:Int)),(68,l3 none e14.qd.qa),(69,I6 (e14.qd.qa.length:Int)),(70,I6 (k2:Int)),(1000005,.hob 3 [] (List.map AV.bool a2)),(1000007,.hob 3 [] (M6 a4)),(1000014,.hob 3 [] (M6 s.1))]) (fun r0 k0 s=>qD w31 (jj a1 a2 a3 v25 (qy fuel) (qG (qx a1 a2 a3 a4 e14 (qy fuel) (qE) r1 (k1+1)))) r0 k0 s.1 s.2=some r) (fun s h=>?_) (fun x2 r2 k2 s hx2 hk2 h hN2=>?_) (a4,true) h
    ·obtain⟨v40,v41⟩:=s;have h:qD w31 (jj a1 a2 a3 v25 (qy fuel) (qG (qx a1 a2 a3 a4 e14 (qy fuel) (qE) r1 (k1+1)))) [] (e14.qd.qa).length v40 v41=some r:=h;rw[qD.eq_1]at h;refine W.seq ?_;refine W.rg ?_
     let z28:=fun t=>z20 ((15,.bool v41)::(38,.agg (List.map AV.bool a2))::(39,I6 (k1:Int))::(68,l3 none e14.qd.qa)::(69,I6 (e14.qd.qa.length:Int))::(70,I6 ((e14.qd.qa).length:Int))::(71,.bool false)::(1000005,.hob 3 [] (List.map AV.bool a2))::(1000007,.hob 3 [] (M6 a4))::(1000014,.hob 3 [] (M6 v40))::t)
     refine WO.pk 0 (some (.bool (decide (((e14.qd.qa).length:Int)<(e14.qd.qa.length:Int))))) (v:=.bool false) (by rw[qM (l:=e14.qd.qa)]) (e1:=z28 []) ?_;refine WO.fn (e2:=z28 []) ?_;refine W.seq ?_;refine W.cb false (fun h=>Bool.noConfusion h) (fun _=>?_);refine W.exit ?_;refine W.wk (env':=z23 [(15,.bool v41),(38,.agg (List.map AV.bool a2)),(39,I6 (k1:Int)),(1000005,.hob 3 [] (List.map AV.bool a2)),(1000007,.hob 3 [] (M6 a4)),(1000014,.hob 3 [] (M6 v40))]) ?_;exact hK38 (v40,v41) h
    ·obtain⟨v40,v41⟩:=s;have h:qD w31 (jj a1 a2 a3 v25 (qy fuel) (qG (qx a1 a2 a3 a4 e14 (qy fuel) (qE) r1 (k1+1)))) (x2::r2) k2 v40 v41=some r:=h;rw[qD.eq_2]at h;refine W.seq ?_;refine W.rg ?_
     let z29:=fun t=>z20 ((15,.bool v41)::(38,.agg (List.map AV.bool a2))::(39,I6 (k1:Int))::(68,l3 none e14.qd.qa)::(69,I6 (e14.qd.qa.length:Int))::(70,I6 (k2:Int))::t)
     let z30:=fun t=>z29 ((71,.bool true)::(1000005,.hob 3 [] (List.map AV.bool a2))::(1000007,.hob 3 [] (M6 a4))::(1000014,.hob 3 [] (M6 v40))::t)
     refine WO.pk 0 (some (.bool (decide ((k2:Int)<(e14.qd.qa.length:Int))))) (v:=.bool true) (by rw[qY hk2]) (e1:=z30 []) ?_;refine WO.fn (e2:=z30 []) ?_;refine W.seq ?_;refine W.cb true (fun _=>?_) (fun h=>Bool.noConfusion h);refine W.skip ?_
     let z31:=fun t=>z29 ((1000005,.hob 3 [] (List.map AV.bool a2))::(1000007,.hob 3 [] (M6 a4))::t)
     refine W.wk (env':=z31 [(1000014,.hob 3 [] (M6 v40))]) ?_;refine W.seq ?_;refine W.join (σ:=((List Int)×Bool)) (fun s=>z20 [(15,.bool s.2),(38,.agg (List.map AV.bool a2)),(39,I6 (k1:Int)),(68,l3 none e14.qd.qa),(69,I6 (e14.qd.qa.length:Int)),(70,I6 (k2:Int)),(1000005,.hob 3 [] (List.map AV.bool a2)),(1000007,.hob 3 [] (M6 a4)),(1000014,.hob 3 [] (M6 s.1))]) (fun s=>(jH (qD w31 (jj a1 a2 a3 v25 (qy fuel) (qG (qx a1 a2 a3 a4 e14 (qy fuel) (qE) r1 (k1+1)))) r2 (k2+1))) s.1 s.2=some r) (fun s h=>?_) (fun hK42=>?_)
     ·obtain⟨v55,v56⟩:=s;have h:(jH (qD w31 (jj a1 a2 a3 v25 (qy fuel) (qG (qx a1 a2 a3 a4 e14 (qy fuel) (qE) r1 (k1+1)))) r2 (k2+1))) v55 v56=some r:=h;unfold jH at h;refine W.rg ?_
      let z32:=fun t=>z20 ((15,.bool v56)::(38,.agg (List.map AV.bool a2))::(39,I6 (k1:Int))::(68,l3 none e14.qd.qa)::(69,I6 (e14.qd.qa.length:Int))::t)
      refine WO.pk 0 (some (I6 (IntKind.wrap .i64 ((k2:Int)+1)))) (v:=I6 ((k2+1:Nat):Int)) (by rw[qC hl2 hk2]) (e1:=z32 [(70,I6 (k2:Int)),(113,I6 ((k2+1:Nat):Int)),(1000005,.hob 3 [] (List.map AV.bool a2)),(1000007,.hob 3 [] (M6 a4)),(1000014,.hob 3 [] (M6 v55))]) ?_;refine WO.fn (e2:=z32 [(70,I6 ((k2+1:Nat):Int)),(1000005,.hob 3 [] (List.map AV.bool a2)),(1000007,.hob 3 [] (M6 a4)),(1000014,.hob 3 [] (M6 v55))]) ?_;exact hN2 (v55,v56) h
     refine W.block ?_;refine W.seq ?_;refine W.rg ?_;refine WO.pk 1 (if (0:Int)≤(k2:Int) then ((M6 e14.qd.qa)[Int.toNat (k2:Int)]?).map AV.ptr else none) (v:=.ptr (I6 x2)) (qZ (f:=(AV.int .i64)) hx2) (e1:=z29 [(72,I6 (k2:Int)),(73,.ptr (I6 x2)),(1000005,.hob 3 [] (List.map AV.bool a2)),(1000007,.hob 3 [] (M6 a4)),(1000014,.hob 3 [] (M6 v40))]) ?_
     let z33:=fun t=>z20 ((15,.bool v41)::(16,I6 (k2:Int))::(17,I6 x2)::(38,.agg (List.map AV.bool a2))::(39,I6 (k1:Int))::(68,l3 none e14.qd.qa)::(69,I6 (e14.qd.qa.length:Int))::(70,I6 (k2:Int))::t)
     refine WO.fn (e2:=z33 [(1000005,.hob 3 [] (List.map AV.bool a2)),(1000007,.hob 3 [] (M6 a4)),(1000014,.hob 3 [] (M6 v40))]) ?_;refine W.block ?_;refine W.seq ?_
     let z34:=fun t=>z33 ((82,.bool (decide (x2<0)))::t)
     refine W.rt (e2:=z34 [(1000005,.hob 3 [] (List.map AV.bool a2)),(1000007,.hob 3 [] (M6 a4)),(1000014,.hob 3 [] (M6 v40))]) ?_;refine W.cb (decide (x2<0)) (fun hb=>?_) (fun hb=>?_)
     ·replace h:=qo hb h;refine W.rg ?_;refine WO.bk 2 (fun b=>z20 [(15,.bool b),(16,I6 (k2:Int)),(17,I6 x2),(38,.agg (List.map AV.bool a2)),(39,I6 (k1:Int)),(68,l3 none e14.qd.qa),(69,I6 (e14.qd.qa.length:Int)),(70,I6 (k2:Int)),(82,.bool (decide (x2<0))),(85,.bool b),(86,.bool b),(1000005,.hob 3 [] (List.map AV.bool a2)),(1000007,.hob 3 [] (M6 a4)),(1000014,.hob 3 [] (M6 v40))]) v41 (fun hb=>?_) (fun hb=>?_)
      ·replace h:=qo hb h;obtain⟨e45,he45,h⟩:=qe h;refine WO.pk 3 (if (0:Int)≤(k2:Int) then ((M6 w31.qa)[Int.toNat (k2:Int)]?).map AV.ptr else none) (v:=.ptr (I6 e45)) (Yp (f:=(AV.int .i64)) he45) (e1:=z20 [(15,.bool true),(16,I6 (k2:Int)),(17,I6 x2),(38,.agg (List.map AV.bool a2)),(39,I6 (k1:Int)),(68,l3 none e14.qd.qa),(69,I6 (e14.qd.qa.length:Int)),(70,I6 (k2:Int)),(82,.bool (decide (x2<0))),(85,.bool true),(86,.bool true),(87,.ptr (l3 none w31.qa)),(88,l3 none w31.qa),(89,I6 (k2:Int)),(90,.ptr (I6 e45)),(1000005,.hob 3 [] (List.map AV.bool a2)),(1000007,.hob 3 [] (M6 a4)),(1000014,.hob 3 [] (M6 v40))]) ?_;refine WO.fn (e2:=z20 [(15,.bool (e45 == (W6 (0 - x2)))),(38,.agg (List.map AV.bool a2)),(39,I6 (k1:Int)),(68,l3 none e14.qd.qa),(69,I6 (e14.qd.qa.length:Int)),(70,I6 (k2:Int)),(1000005,.hob 3 [] (List.map AV.bool a2)),(1000007,.hob 3 [] (M6 a4)),(1000014,.hob 3 [] (M6 v40))]) ?_;exact hK42 (v40,(e45 == (W6 (0 - x2)))) h
      replace h:=qp hb h;refine WO.fn (e2:=z20 [(15,.bool false),(38,.agg (List.map AV.bool a2)),(39,I6 (k1:Int)),(68,l3 none e14.qd.qa),(69,I6 (e14.qd.qa.length:Int)),(70,I6 (k2:Int)),(1000005,.hob 3 [] (List.map AV.bool a2)),(1000007,.hob 3 [] (M6 a4)),(1000014,.hob 3 [] (M6 v40))]) ?_;exact hK42 (v40,false) h
     replace h:=qp hb h;refine W.seq ?_;refine W.rg ?_;obtain⟨hc47,h⟩:=qg h
     let z35:=fun t=>z34 ((97,I6 x2)::(98,.pb 1000014 (0+Int.toNat x2 * 1))::t)
     refine WO.pi 1 (v:=.pb 1000014 (0+Int.toNat x2 * 1)) hc47 (e1:=z35 [(1000005,.hob 3 [] (List.map AV.bool a2)),(1000007,.hob 3 [] (M6 a4)),(1000014,.hob 3 [] (M6 v40))]) ?_;obtain⟨e48,he48,h⟩:=qe h;refine WO.pk 0 (cut Try.prog 3 (M6 v40) (0+Int.toNat x2 * 1)) (v:=I6 e48) (Yq (qA .i64) (by kernel_rfl) he48) (e1:=z35 [(99,I6 e48),(1000005,.hob 3 [] (List.map AV.bool a2)),(1000007,.hob 3 [] (M6 a4)),(1000014,.hob 3 [] (M6 v40))]) ?_;refine WO.fn (e2:=z33 [(96,.bool (e48 != 0)),(1000005,.hob 3 [] (List.map AV.bool a2)),(1000007,.hob 3 [] (M6 a4)),(1000014,.hob 3 [] (M6 v40))]) ?_;refine W.cb (e48 != 0) (fun hb=>?_) (fun hb=>?_)
     ·replace h:=qo hb h;refine W.rg ?_;refine WO.bk 2 (fun b=>z20 [(15,.bool b),(16,I6 (k2:Int)),(17,I6 x2),(38,.agg (List.map AV.bool a2)),(39,I6 (k1:Int)),(68,l3 none e14.qd.qa),(69,I6 (e14.qd.qa.length:Int)),(70,I6 (k2:Int)),(96,.bool (e48 != 0)),(101,.bool b),(102,.bool b),(1000005,.hob 3 [] (List.map AV.bool a2)),(1000007,.hob 3 [] (M6 a4)),(1000014,.hob 3 [] (M6 v40))]) v41 (fun hb=>?_) (fun hb=>?_)
      ·replace h:=qo hb h;obtain⟨e49,he49,h⟩:=qe h
       let z36:=fun t=>z20 ((15,.bool true)::(16,I6 (k2:Int))::(17,I6 x2)::(38,.agg (List.map AV.bool a2))::(39,I6 (k1:Int))::(68,l3 none e14.qd.qa)::(69,I6 (e14.qd.qa.length:Int))::(70,I6 (k2:Int))::(96,.bool (e48 != 0))::(101,.bool true)::(102,.bool true)::(103,.ptr (l3 none w31.qa))::(104,l3 none w31.qa)::(105,I6 (k2:Int))::(106,.ptr (I6 e49))::t)
       refine WO.pk 3 (if (0:Int)≤(k2:Int) then ((M6 w31.qa)[Int.toNat (k2:Int)]?).map AV.ptr else none) (v:=.ptr (I6 e49)) (Yp (f:=(AV.int .i64)) he49) (e1:=z36 [(1000005,.hob 3 [] (List.map AV.bool a2)),(1000007,.hob 3 [] (M6 a4)),(1000014,.hob 3 [] (M6 v40))]) ?_;obtain⟨hc50,h⟩:=qg h
       let z37:=fun t=>z36 ((107,I6 e49)::(108,I6 x2)::(109,.pb 1000014 (0+Int.toNat x2 * 1))::t)
       refine WO.pi 2 (v:=.pb 1000014 (0+Int.toNat x2 * 1)) hc50 (e1:=z37 [(1000005,.hob 3 [] (List.map AV.bool a2)),(1000007,.hob 3 [] (M6 a4)),(1000014,.hob 3 [] (M6 v40))]) ?_;obtain⟨e51,he51,h⟩:=qe h;refine WO.pk 0 (cut Try.prog 3 (M6 v40) (0+Int.toNat x2 * 1)) (v:=I6 e51) (Yq (qA .i64) (by kernel_rfl) he51) (e1:=z37 [(110,I6 e51),(1000005,.hob 3 [] (List.map AV.bool a2)),(1000007,.hob 3 [] (M6 a4)),(1000014,.hob 3 [] (M6 v40))]) ?_;refine WO.fn (e2:=z20 [(15,.bool (e49 == e51)),(38,.agg (List.map AV.bool a2)),(39,I6 (k1:Int)),(68,l3 none e14.qd.qa),(69,I6 (e14.qd.qa.length:Int)),(70,I6 (k2:Int)),(1000005,.hob 3 [] (List.map AV.bool a2)),(1000007,.hob 3 [] (M6 a4)),(1000014,.hob 3 [] (M6 v40))]) ?_;exact hK42 (v40,(e49 == e51)) h
      replace h:=qp hb h;refine WO.fn (e2:=z20 [(15,.bool false),(38,.agg (List.map AV.bool a2)),(39,I6 (k1:Int)),(68,l3 none e14.qd.qa),(69,I6 (e14.qd.qa.length:Int)),(70,I6 (k2:Int)),(1000005,.hob 3 [] (List.map AV.bool a2)),(1000007,.hob 3 [] (M6 a4)),(1000014,.hob 3 [] (M6 v40))]) ?_;exact hK42 (v40,false) h
     replace h:=qp hb h;refine W.rg ?_;obtain⟨e52,he52,h⟩:=qe h
     let z38:=fun t=>z33 ((75,I6 x2)::(76,.ptr (l3 none w31.qa))::(77,l3 none w31.qa)::(78,I6 (k2:Int))::(79,.ptr (I6 e52))::t)
     refine WO.pk 4 (if (0:Int)≤(k2:Int) then ((M6 w31.qa)[Int.toNat (k2:Int)]?).map AV.ptr else none) (v:=.ptr (I6 e52)) (Yp (f:=(AV.int .i64)) he52) (e1:=z38 [(96,.bool (e48 != 0)),(1000005,.hob 3 [] (List.map AV.bool a2)),(1000007,.hob 3 [] (M6 a4)),(1000014,.hob 3 [] (M6 v40))]) ?_;obtain⟨hc53,h⟩:=qg h
     let z39:=fun t=>z38 ((80,I6 e52)::(81,.pb 1000014 (0+Int.toNat x2 * 1))::(96,.bool (e48 != 0))::(1000005,.hob 3 [] (List.map AV.bool a2))::(1000007,.hob 3 [] (M6 a4))::t)
     refine WO.pi 1 (v:=.pb 1000014 (0+Int.toNat x2 * 1)) hc53 (e1:=z39 [(1000014,.hob 3 [] (M6 v40))]) ?_;obtain⟨hc54,h⟩:=qg h;refine WO.setA (enc:=(AV.int .i64)) (l:=v40) (x:=e52) (s:=1000014) (off:=(0+Int.toNat x2 * 1)) 0 (qA .i64) hc54 (e1:=z39 [(1000014,.hob 3 [] (M6 (v40.set (0+Int.toNat x2 * 1) e52)))]) ?_;refine WO.fn (e2:=z31 [(1000014,.hob 3 [] (M6 (v40.set (0+Int.toNat x2 * 1) e52)))]) ?_;exact hK42 ((v40.set (0+Int.toNat x2 * 1) e52),v41) h
   refine W.rg ?_
   let z40:=fun t=>z17 ((45,.bool e29)::t)
   refine WO.bk 3 (fun b=>z40 [(46,.bool b),(47,.bool b),(1000005,.hob 3 [] (List.map AV.bool a2)),(1000007,.hob 3 [] (M6 a4))]) (!e29) (fun hb=>?_) (fun hb=>?_)
   ·replace h:=qo hb h;refine WO.fn (e2:=z19 [(64,.bool true),(1000005,.hob 3 [] (List.map AV.bool a2)),(1000007,.hob 3 [] (M6 a4))]) ?_;exact hK33 true h
   replace h:=qp hb h
   let z41:=fun t=>z40 ((46,.bool false)::(47,.bool false)::(48,.ptr (I6 w31.qb))::(49,I6 w31.qb)::(50,.ptr (.agg [I6 e14.qd.qb,l3 none e14.qd.qa]))::(51,.ptr (I6 e14.qd.qb))::(52,I6 e14.qd.qb)::t)
   refine WO.bk 8 (fun b=>z41 [(53,.bool b),(54,.bool b),(55,.bool b),(1000005,.hob 3 [] (List.map AV.bool a2)),(1000007,.hob 3 [] (M6 a4))]) (w31.qb != e14.qd.qb) (fun hb=>?_) (fun hb=>?_)
   ·replace h:=qo hb h;refine WO.fn (e2:=z19 [(64,.bool true),(1000005,.hob 3 [] (List.map AV.bool a2)),(1000007,.hob 3 [] (M6 a4))]) ?_;exact hK33 true h
   replace h:=qp hb h
   let z42:=fun t=>z41 ((53,.bool false)::(54,.bool false)::(55,.bool false)::(56,.ptr (l3 none w31.qa))::(57,l3 none w31.qa)::(58,I6 (w31.qa.length:Int))::t)
   refine WO.pk 2 (some (I6 ((M6 w31.qa).length:Int))) (v:=I6 (w31.qa.length:Int)) (by rw[List.length_map]) (e1:=z42 [(1000005,.hob 3 [] (List.map AV.bool a2)),(1000007,.hob 3 [] (M6 a4))]) ?_;refine WO.pk 3 (some (I6 ((M6 e14.qd.qa).length:Int))) (v:=I6 (e14.qd.qa.length:Int)) (by rw[List.length_map]) (e1:=z42 [(59,.ptr (.agg [I6 e14.qd.qb,l3 none e14.qd.qa])),(60,.ptr (l3 none e14.qd.qa)),(61,l3 none e14.qd.qa),(62,I6 (e14.qd.qa.length:Int)),(1000005,.hob 3 [] (List.map AV.bool a2)),(1000007,.hob 3 [] (M6 a4))]) ?_;refine WO.fn (e2:=z19 [(64,.bool ((w31.qa.length:Int) != (e14.qd.qa.length:Int))),(1000005,.hob 3 [] (List.map AV.bool a2)),(1000007,.hob 3 [] (M6 a4))]) ?_;exact hK33 ((w31.qa.length:Int) != (e14.qd.qa.length:Int)) h
def Qc (a1:rf2Atom) (v17:(List Int)):Option Int :=
 ((Ya a1.qb v17).bind fun w19=>(some w19))
def XP (N1:((List Int)→Option Int)) (v16:(List Int)):Option Int :=
 (N1 v16)
def Jf (a2:(List Int)) (K6:((List Int)→Option Int)):List Int→Nat→(List Int)→Option Int
 | [],k1,v8=>(K6 v8)
 | x1::r1,k1,v8=>(bif (decide (x1<0)) then (chk (capOk 8 ((v8++[(IntKind.wrap .i64 (0 - x1))])).length) ((XP (Jf a2 K6 r1 (k1+1))) (v8++[(IntKind.wrap .i64 (0 - x1))]))) else (chk (decide ((0:Int)≤x1∧x1<((8:Nat):Int)∧0<1)) ((a2[(0+Int.toNat x1 * 1)]?).bind fun e14=>(chk (capOk 8 ((v8++[e14])).length) ((XP (Jf a2 K6 r1 (k1+1))) (v8++[e14]))))))
def YM (a1:rf2Atom) (a2:(List Int)):Option Int :=
 (chk (!a2.isEmpty) (chk (lenOk a1.qa) (Jf a2 (Qc a1) a1.qa 0 ([]:(List Int)))))
theorem UU (a1:rf2Atom) (a2:(List Int)) (r:Int) (h:YM a1 a2=some r):Run Try.prog (.call 97 [.agg [I6 a1.qb,l3 none a1.qa],.agg (M6 a2)] (I6 r)):=by
 refine cW Try.func97 rfl (env0:=[(0,.agg [I6 a1.qb,l3 none a1.qa]),(1,.agg (M6 a2))]) ?_;unfold YM at h;refine W.seq ?_;refine W.rg ?_;obtain⟨hc4,h⟩:=qg h;refine WO.boxA (enc:=(AV.int .i64)) (l:=a2) (d:=3) 1 (qA .i64) hc4 (e1:=[(0,.agg [I6 a1.qb,l3 none a1.qa]),(1,.agg (M6 a2)),(2,.box [I6 a1.qb,l3 none a1.qa]),(3,.pb 1000003 0),(1000003,.hob 3 [] (M6 a2))]) ?_
 let z0:=fun t=>EN ((2,.ptr (.agg [I6 a1.qb,l3 none a1.qa]))::(3,.pb 1000003 0)::t)
 refine WO.fin [2,3,1000003] [2] [] [] (e2:=z0 [(1000003,.hob 3 [] (M6 a2))]) (by kernel_rfl) (fun _ h=>h) ?_;refine W.seq ?_;refine W.rt (e2:=z0 [(5,.nils),(1000003,.hob 3 [] (M6 a2))]) ?_;refine W.seq ?_
 let z1:=fun t=>EN ((2,.ptr (.agg [I6 a1.qb,l3 none a1.qa]))::t)
 refine W.join (σ:=((List Int))) (fun s=>z1 [(5,l3 (some 10500) s)]) (fun s=>(Qc a1) s=some r) (fun v17 h=>?_) (fun hK6=>?_)
 ·have h:(Qc a1) v17=some r:=h;unfold Qc at h;refine W.seq ?_;refine W.rg ?_;obtain⟨w19,hw19,h⟩:=qe h;refine WO.ck 3 (F:=95) (l:=[I6 a1.qb,l3 none v17]) (C:=[]) (r:=I6 w19) (Vx a1.qb v17 w19 hw19) (e1:=z1 [(5,l3 (some 10500) v17),(29,.ptr (I6 a1.qb)),(30,I6 a1.qb),(31,l3 (some 10500) v17),(32,I6 w19)]) ?_;refine WO.fn (e2:=[(4,I6 w19)]) ?_;refine W.wk (env':=[(4,I6 w19)]) ?_;cases h;exact W.ret (show qi _ _ _=some _ by kernel_rfl)
 refine W.seq ?_;refine W.rg ?_;refine WO.pk 2 (some (I6 ((M6 a1.qa).length:Int))) (v:=I6 (a1.qa.length:Int)) (by rw[List.length_map]) (e1:=z0 [(5,.nils),(8,.ptr (l3 none a1.qa)),(9,l3 none a1.qa),(10,I6 (a1.qa.length:Int)),(1000003,.hob 3 [] (M6 a2))]) ?_;refine WO.fn (e2:=z0 [(5,.nils),(9,l3 none a1.qa),(10,I6 (a1.qa.length:Int)),(11,.int .i64 0),(1000003,.hob 3 [] (M6 a2))]) ?_;refine W.block ?_;obtain⟨hl1,h⟩:=qg h;refine W.weak [2,3,5,9,10,11,1000003] [] [(5,0,3,1,10500)] [] (env':=z0 [(5,l3 (some 10500) ([]:(List Int))),(9,l3 none a1.qa),(10,I6 (a1.qa.length:Int)),(11,I6 ((0:Nat):Int)),(1000003,.hob 3 [] (M6 a2))]) (by kernel_rfl) ?_;refine W.range (σ:=((List Int))) a1.qa (fun k1 s=>z0 [(5,l3 (some 10500) s),(9,l3 none a1.qa),(10,I6 (a1.qa.length:Int)),(11,I6 (k1:Int)),(1000003,.hob 3 [] (M6 a2))]) (fun r0 k0 s=>Jf a2 (Qc a1) r0 k0 s=some r) (fun v8 h=>?_) (fun x1 r1 k1 s hx1 hk1 h hN1=>?_) ([]:(List Int)) h
 ·have h:Jf a2 (Qc a1) [] (a1.qa).length v8=some r:=h;rw[Jf.eq_1]at h;refine W.seq ?_;refine W.rg ?_
  let z2:=fun t=>z0 ((5,l3 (some 10500) v8)::(9,l3 none a1.qa)::(10,I6 (a1.qa.length:Int))::(11,I6 ((a1.qa).length:Int))::(12,.bool false)::(1000003,.hob 3 [] (M6 a2))::t)
  refine WO.pk 0 (some (.bool (decide (((a1.qa).length:Int)<(a1.qa.length:Int))))) (v:=.bool false) (by rw[qM (l:=a1.qa)]) (e1:=z2 []) ?_;refine WO.fn (e2:=z2 []) ?_;refine W.seq ?_;refine W.cb false (fun h=>Bool.noConfusion h) (fun _=>?_);refine W.exit ?_;refine W.wk (env':=z1 [(5,l3 (some 10500) v8)]) ?_;exact hK6 v8 h
 ·obtain⟨v8,rfl⟩:∃ x,x=s:=⟨s,rfl⟩;have h:Jf a2 (Qc a1) (x1::r1) k1 v8=some r:=h;rw[Jf.eq_2]at h;refine W.seq ?_;refine W.rg ?_
  let z3:=fun t=>z0 ((5,l3 (some 10500) v8)::(9,l3 none a1.qa)::(10,I6 (a1.qa.length:Int))::(11,I6 (k1:Int))::t)
  let z4:=fun t=>z3 ((12,.bool true)::(1000003,.hob 3 [] (M6 a2))::t)
  refine WO.pk 0 (some (.bool (decide ((k1:Int)<(a1.qa.length:Int))))) (v:=.bool true) (by rw[qY hk1]) (e1:=z4 []) ?_;refine WO.fn (e2:=z4 []) ?_;refine W.seq ?_;refine W.cb true (fun _=>?_) (fun h=>Bool.noConfusion h);refine W.skip ?_;refine W.wk (env':=z3 [(1000003,.hob 3 [] (M6 a2))]) ?_;refine W.seq ?_;refine W.join (σ:=((List Int))) (fun s=>z0 [(5,l3 (some 10500) s),(9,l3 none a1.qa),(10,I6 (a1.qa.length:Int)),(11,I6 (k1:Int)),(1000003,.hob 3 [] (M6 a2))]) (fun s=>(XP (Jf a2 (Qc a1) r1 (k1+1))) s=some r) (fun v16 h=>?_) (fun hK9=>?_)
  ·have h:(XP (Jf a2 (Qc a1) r1 (k1+1))) v16=some r:=h;unfold XP at h;refine W.rg ?_
   let z5:=fun t=>z0 ((5,l3 (some 10500) v16)::(9,l3 none a1.qa)::(10,I6 (a1.qa.length:Int))::t)
   refine WO.pk 0 (some (I6 (IntKind.wrap .i64 ((k1:Int)+1)))) (v:=I6 ((k1+1:Nat):Int)) (by rw[qC hl1 hk1]) (e1:=z5 [(11,I6 (k1:Int)),(28,I6 ((k1+1:Nat):Int)),(1000003,.hob 3 [] (M6 a2))]) ?_;refine WO.fn (e2:=z5 [(11,I6 ((k1+1:Nat):Int)),(1000003,.hob 3 [] (M6 a2))]) ?_;exact hN1 v16 h
  refine W.block ?_;refine W.seq ?_;refine W.rg ?_;refine WO.pk 0 (if (0:Int)≤(k1:Int) then ((M6 a1.qa)[Int.toNat (k1:Int)]?).map AV.ptr else none) (v:=.ptr (I6 x1)) (qZ (f:=(AV.int .i64)) hx1) (e1:=z3 [(13,.ptr (I6 x1)),(1000003,.hob 3 [] (M6 a2))]) ?_
  let z6:=fun t=>z0 ((5,l3 (some 10500) v8)::(7,I6 x1)::(9,l3 none a1.qa)::(10,I6 (a1.qa.length:Int))::(11,I6 (k1:Int))::t)
  refine WO.fn (e2:=z6 [(1000003,.hob 3 [] (M6 a2))]) ?_;refine W.seq ?_
  let z7:=fun t=>z6 ((16,.bool (decide (x1<0)))::t)
  refine W.rt (e2:=z7 [(1000003,.hob 3 [] (M6 a2))]) ?_;refine W.cb (decide (x1<0)) (fun hb=>?_) (fun hb=>?_)
  ·replace h:=qo hb h;refine W.rg ?_;obtain⟨hc12,h⟩:=qg h;refine WO.appendK 4 (d:=21) (e:=3) (s:=1) (bytes:=8) (xs:=(M6 v8)) (ys:=(M6 [(W6 (0 - x1))])) (zs:=(M6 (v8++[(W6 (0 - x1))]))) (env1:=[(2,.ptr (.agg [I6 a1.qb,l3 none a1.qa])),(3,.pb 1000003 0),(5,l3 none v8),(7,I6 x1),(9,l3 none a1.qa),(10,I6 (a1.qa.length:Int)),(11,I6 (k1:Int)),(16,.bool (decide (x1<0))),(17,l3 none v8),(18,I6 x1),(19,I6 (W6 (0 - x1))),(20,l3 (some 20) [(W6 (0 - x1))]),(1000003,.hob 3 [] (M6 a2))]) (by kernel_rfl) (List.map_append.symm) (by rw[List.length_map];exact hc12) (e1:=z0 [(5,l3 none v8),(7,I6 x1),(9,l3 none a1.qa),(10,I6 (a1.qa.length:Int)),(11,I6 (k1:Int)),(16,.bool (decide (x1<0))),(17,l3 none v8),(18,I6 x1),(19,I6 (W6 (0 - x1))),(20,l3 (some 20) [(W6 (0 - x1))]),(21,l3 (some 21) (v8++[(W6 (0 - x1))])),(1000003,.hob 3 [] (M6 a2))]) (by kernel_rfl) ?_;refine WO.fin [2,3,5,9,10,11,1000003] [] [] [(21,some 10500)] (e2:=z0 [(5,l3 (some 10500) (v8++[(W6 (0 - x1))])),(9,l3 none a1.qa),(10,I6 (a1.qa.length:Int)),(11,I6 (k1:Int)),(1000003,.hob 3 [] (M6 a2))]) (by kernel_rfl) (fun _ h=>h) ?_;exact hK9 (v8++[(W6 (0 - x1))]) h
  replace h:=qp hb h;refine W.rg ?_;obtain⟨hc13,h⟩:=qg h
  let z8:=fun t=>z7 ((22,l3 (some 10500) v8)::(23,I6 x1)::(24,.pb 1000003 (0+Int.toNat x1 * 1))::t)
  refine WO.pi 2 (v:=.pb 1000003 (0+Int.toNat x1 * 1)) hc13 (e1:=z8 [(1000003,.hob 3 [] (M6 a2))]) ?_;obtain⟨e14,he14,h⟩:=qe h;refine WO.pk 0 (cut Try.prog 3 (M6 a2) (0+Int.toNat x1 * 1)) (v:=I6 e14) (Yq (qA .i64) (by kernel_rfl) he14) (e1:=z8 [(25,I6 e14),(1000003,.hob 3 [] (M6 a2))]) ?_;obtain⟨hc15,h⟩:=qg h;refine WO.appendK 1 (d:=27) (e:=3) (s:=1) (bytes:=8) (xs:=(M6 v8)) (ys:=(M6 [e14])) (zs:=(M6 (v8++[e14]))) (env1:=[(2,.ptr (.agg [I6 a1.qb,l3 none a1.qa])),(3,.pb 1000003 0),(5,l3 none v8),(7,I6 x1),(9,l3 none a1.qa),(10,I6 (a1.qa.length:Int)),(11,I6 (k1:Int)),(16,.bool (decide (x1<0))),(22,l3 none v8),(23,I6 x1),(24,.pb 1000003 (0+Int.toNat x1 * 1)),(25,I6 e14),(26,l3 (some 26) [e14]),(1000003,.hob 3 [] (M6 a2))]) (by kernel_rfl) (List.map_append.symm) (by rw[List.length_map];exact hc15) (e1:=z0 [(5,l3 none v8),(7,I6 x1),(9,l3 none a1.qa),(10,I6 (a1.qa.length:Int)),(11,I6 (k1:Int)),(16,.bool (decide (x1<0))),(22,l3 none v8),(23,I6 x1),(24,.pb 1000003 (0+Int.toNat x1 * 1)),(25,I6 e14),(26,l3 (some 26) [e14]),(27,l3 (some 27) (v8++[e14])),(1000003,.hob 3 [] (M6 a2))]) (by kernel_rfl) ?_;refine WO.fin [2,3,5,9,10,11,1000003] [] [] [(27,some 10500)] (e2:=z0 [(5,l3 (some 10500) (v8++[e14])),(9,l3 none a1.qa),(10,I6 (a1.qa.length:Int)),(11,I6 (k1:Int)),(1000003,.hob 3 [] (M6 a2))]) (by kernel_rfl) (fun _ h=>h) ?_;exact hK9 (v8++[e14]) h
end Go.AM
