/- s -/
import Derived.Test.YtdghpfejmlpjhaaRAT
set_option maxRecDepth 100000
set_option linter.unusedVariables false
set_option linter.unusedSimpArgs false
namespace Go.AM
open Go.Proofs
def JU (v11:Bool):Option Bool :=
 (some v11)
def Jl (a1:apiFact):Option Bool :=
 (bif (decide (a1.qb ≥ 0)) then (bif (decide (a1.qb≤5)) then (bif (decide ((a1.qa.length:Int) ≥ 1)) then ((JU) (decide ((a1.qa.length:Int)≤2))) else ((JU) false)) else ((JU) false)) else ((JU) false))
def Xg (N1:(Option Bool)) (v8:Bool):Option Bool :=
 (bif v8 then (some false) else N1)
def jD (K3:(Option Bool)):List Int→Nat→Option Bool
 | [],k1=>K3
 | x1::r1,k1=>(bif (decide (x1<1)) then ((Xg (jD K3 r1 (k1+1))) true) else ((Xg (jD K3 r1 (k1+1))) (decide (x1 > 6))))
def Zm (a1:apiFact):Option Bool :=
 (chk (lenOk a1.qa) (jD (Jl a1) a1.qa 0))
theorem DS (a1:apiFact) (r:Bool) (h:Zm a1=some r):Run Try.prog (.call 33 [.agg [I6 a1.qb,l3 none a1.qa]] (.bool r)):=by
 refine cW Try.func33 rfl (env0:=[(0,.agg [I6 a1.qb,l3 none a1.qa])]) ?_;unfold Zm at h;refine W.seq ?_
 let z0:=fun t=>EN ((1,.ptr (.agg [I6 a1.qb,l3 none a1.qa]))::t)
 refine W.regT [1] [1] [] [] (e2:=z0 []) (by kernel_rfl) (by kernel_rfl) (fun _ h=>h) ?_;refine W.seq ?_;refine W.join (σ:=Unit) (fun s=>z0 []) (fun s=>(Jl a1)=some r) (fun s h=>?_) (fun hK3=>?_)
 ·have h:(Jl a1)=some r:=h;unfold Jl at h;refine W.seq ?_;refine W.join (σ:=(Bool)) (fun s=>[(2,.bool s)]) (fun s=>(JU) s=some r) (fun v11 h=>?_) (fun hK10=>?_)
  ·have h:(JU) v11=some r:=h;unfold JU at h;refine W.wk (env':=[(2,.bool v11)]) ?_;cases h;exact W.ret (show qj _ _ _=some _ by kernel_rfl)
  refine W.rg ?_
  let z1:=fun t=>z0 ((19,.ptr (I6 a1.qb))::(20,I6 a1.qb)::t)
  refine WO.bk 4 (fun b=>z1 [(21,.bool b),(22,.bool b)]) (decide (a1.qb ≥ 0)) (fun hb=>?_) (fun hb=>?_)
  ·replace h:=qt hb h
   let z2:=fun t=>z1 ((21,.bool true)::(22,.bool true)::(23,.ptr (I6 a1.qb))::(24,I6 a1.qb)::t)
   refine WO.bk 5 (fun b=>z2 [(25,.bool b),(26,.bool b),(27,.bool b)]) (decide (a1.qb≤5)) (fun hb=>?_) (fun hb=>?_)
   ·replace h:=qt hb h
    let z3:=fun t=>z2 ((25,.bool true)::(26,.bool true)::(27,.bool true)::(28,.ptr (l3 none a1.qa))::(29,l3 none a1.qa)::(30,I6 (a1.qa.length:Int))::t)
    refine WO.pk 2 (some (I6 ((M6 a1.qa).length:Int))) (v:=I6 (a1.qa.length:Int)) (by rw[List.length_map]) (e1:=z3 []) ?_;refine WO.bk 3 (fun b=>z3 [(31,.bool b),(32,.bool b),(33,.bool b)]) (decide ((a1.qa.length:Int) ≥ 1)) (fun hb=>?_) (fun hb=>?_)
    ·replace h:=qt hb h;refine WO.pk 2 (some (I6 ((M6 a1.qa).length:Int))) (v:=I6 (a1.qa.length:Int)) (by rw[List.length_map]) (e1:=z3 [(31,.bool true),(32,.bool true),(33,.bool true),(34,.ptr (l3 none a1.qa)),(35,l3 none a1.qa),(36,I6 (a1.qa.length:Int))]) ?_;refine WO.fn (e2:=[(2,.bool (decide ((a1.qa.length:Int)≤2)))]) ?_;exact hK10 (decide ((a1.qa.length:Int)≤2)) h
    replace h:=qu hb h;refine WO.fn (e2:=[(2,.bool false)]) ?_;exact hK10 false h
   replace h:=qu hb h;refine WO.fn (e2:=[(2,.bool false)]) ?_;exact hK10 false h
  replace h:=qu hb h;refine WO.fn (e2:=[(2,.bool false)]) ?_;exact hK10 false h
 refine W.seq ?_;refine W.rg ?_;refine WO.pk 2 (some (I6 ((M6 a1.qa).length:Int))) (v:=I6 (a1.qa.length:Int)) (by rw[List.length_map]) (e1:=z0 [(5,.ptr (l3 none a1.qa)),(6,l3 none a1.qa),(7,I6 (a1.qa.length:Int))]) ?_
 let z4:=fun t=>z0 ((6,l3 none a1.qa)::(7,I6 (a1.qa.length:Int))::t)
 refine WO.fn (e2:=z4 [(8,.int .i64 0)]) ?_;refine W.block ?_;obtain⟨hl1,h⟩:=qh h;refine W.wk (env':=z4 [(8,I6 ((0:Nat):Int))]) ?_;refine W.range (σ:=Unit) a1.qa (fun k1 s=>z4 [(8,I6 (k1:Int))]) (fun r0 k0 s=>jD (Jl a1) r0 k0=some r) (fun s h=>?_) (fun x1 r1 k1 s hx1 hk1 h hN1=>?_) () h
 ·have h:jD (Jl a1) [] (a1.qa).length=some r:=h;rw[jD.eq_1]at h;refine W.seq ?_;refine W.rg ?_
  let z5:=fun t=>z4 ((8,I6 ((a1.qa).length:Int))::(9,.bool false)::t)
  refine WO.pk 0 (some (.bool (decide (((a1.qa).length:Int)<(a1.qa.length:Int))))) (v:=.bool false) (by rw[qR (l:=a1.qa)]) (e1:=z5 []) ?_;refine WO.fn (e2:=z5 []) ?_;refine W.seq ?_;refine W.cb false (fun h=>Bool.noConfusion h) (fun _=>?_);refine W.exit ?_;refine W.wk (env':=z0 []) ?_;exact hK3 () h
 ·have h:jD (Jl a1) (x1::r1) k1=some r:=h;rw[jD.eq_2]at h;refine W.seq ?_;refine W.rg ?_
  let z6:=fun t=>z4 ((8,I6 (k1:Int))::t)
  refine WO.pk 0 (some (.bool (decide ((k1:Int)<(a1.qa.length:Int))))) (v:=.bool true) (by rw[jr hk1]) (e1:=z6 [(9,.bool true)]) ?_;refine WO.fn (e2:=z6 [(9,.bool true)]) ?_;refine W.seq ?_;refine W.cb true (fun _=>?_) (fun h=>Bool.noConfusion h);refine W.skip ?_;refine W.wk (env':=z6 []) ?_;refine W.seq ?_;refine W.block ?_;refine W.seq ?_;refine W.rg ?_;refine WO.pk 0 (if (0:Int)≤(k1:Int) then ((M6 a1.qa)[Int.toNat (k1:Int)]?).map AV.ptr else none) (v:=.ptr (I6 x1)) (js (f:=(AV.int .i64)) hx1) (e1:=z6 [(10,.ptr (I6 x1))]) ?_
  let z7:=fun t=>z0 ((4,I6 x1)::(6,l3 none a1.qa)::(7,I6 (a1.qa.length:Int))::(8,I6 (k1:Int))::t)
  refine WO.fn (e2:=z7 []) ?_;refine W.seq ?_;refine W.join (σ:=(Bool)) (fun s=>z6 [(17,.bool s)]) (fun s=>(Xg (jD (Jl a1) r1 (k1+1))) s=some r) (fun v8 h=>?_) (fun hK7=>?_)
  ·have h:(Xg (jD (Jl a1) r1 (k1+1))) v8=some r:=h;unfold Xg at h;refine W.cb v8 (fun hb=>?_) (fun hb=>?_)
   ·replace h:=qt hb h;refine W.seq ?_;refine W.rt (e2:=[(2,.bool false)]) ?_;refine W.wk (env':=[(2,.bool false)]) ?_;cases h;exact W.ret (show qj _ _ _=some _ by kernel_rfl)
   replace h:=qu hb h;refine W.skip ?_;refine W.wk (env':=z6 []) ?_;refine W.rg ?_;refine WO.pk 0 (some (I6 (IntKind.wrap .i64 ((k1:Int)+1)))) (v:=I6 ((k1+1:Nat):Int)) (by rw[qz hl1 hk1]) (e1:=z6 [(18,I6 ((k1+1:Nat):Int))]) ?_;refine WO.fn (e2:=z4 [(8,I6 ((k1+1:Nat):Int))]) ?_;exact hN1 () h
  refine W.rg ?_;refine WO.bk 3 (fun b=>z7 [(12,I6 x1),(13,.bool b),(14,.bool b)]) (decide (x1<1)) (fun hb=>?_) (fun hb=>?_)
  ·replace h:=qt hb h;refine WO.fn (e2:=z6 [(17,.bool true)]) ?_;exact hK7 true h
  replace h:=qu hb h;refine WO.fn (e2:=z6 [(17,.bool (decide (x1 > 6)))]) ?_;exact hK7 (decide (x1 > 6)) h
def QA (v11:Bool):Option Bool :=
 (some v11)
def Qh (a1:rf2Atom):Option Bool :=
 (bif (decide (a1.qb ≥ 0)) then (bif (decide (a1.qb≤5)) then (bif (decide ((a1.qa.length:Int) ≥ 1)) then ((QA) (decide ((a1.qa.length:Int)≤2))) else ((QA) false)) else ((QA) false)) else ((QA) false))
def Yf (N1:(Option Bool)) (v8:Bool):Option Bool :=
 (bif v8 then (some false) else N1)
def Jg (K3:(Option Bool)):List Int→Nat→Option Bool
 | [],k1=>K3
 | x1::r1,k1=>(bif (decide (x1<(-6))) then ((Yf (Jg K3 r1 (k1+1))) true) else ((Yf (Jg K3 r1 (k1+1))) (decide (x1 > 7))))
def Vf (a1:rf2Atom):Option Bool :=
 (chk (lenOk a1.qa) (Jg (Qh a1) a1.qa 0))
theorem ND (a1:rf2Atom) (r:Bool) (h:Vf a1=some r):Run Try.prog (.call 61 [.agg [I6 a1.qb,l3 none a1.qa]] (.bool r)):=by
 refine cW Try.func61 rfl (env0:=[(0,.agg [I6 a1.qb,l3 none a1.qa])]) ?_;unfold Vf at h;refine W.seq ?_
 let z0:=fun t=>EN ((1,.ptr (.agg [I6 a1.qb,l3 none a1.qa]))::t)
 refine W.regT [1] [1] [] [] (e2:=z0 []) (by kernel_rfl) (by kernel_rfl) (fun _ h=>h) ?_;refine W.seq ?_;refine W.join (σ:=Unit) (fun s=>z0 []) (fun s=>(Qh a1)=some r) (fun s h=>?_) (fun hK3=>?_)
 ·have h:(Qh a1)=some r:=h;unfold Qh at h;refine W.seq ?_;refine W.join (σ:=(Bool)) (fun s=>[(2,.bool s)]) (fun s=>(QA) s=some r) (fun v11 h=>?_) (fun hK10=>?_)
  ·have h:(QA) v11=some r:=h;unfold QA at h;refine W.wk (env':=[(2,.bool v11)]) ?_;cases h;exact W.ret (show qj _ _ _=some _ by kernel_rfl)
  refine W.rg ?_
  let z1:=fun t=>z0 ((19,.ptr (I6 a1.qb))::(20,I6 a1.qb)::t)
  refine WO.bk 4 (fun b=>z1 [(21,.bool b),(22,.bool b)]) (decide (a1.qb ≥ 0)) (fun hb=>?_) (fun hb=>?_)
  ·replace h:=qt hb h
   let z2:=fun t=>z1 ((21,.bool true)::(22,.bool true)::(23,.ptr (I6 a1.qb))::(24,I6 a1.qb)::t)
   refine WO.bk 5 (fun b=>z2 [(25,.bool b),(26,.bool b),(27,.bool b)]) (decide (a1.qb≤5)) (fun hb=>?_) (fun hb=>?_)
   ·replace h:=qt hb h
    let z3:=fun t=>z2 ((25,.bool true)::(26,.bool true)::(27,.bool true)::(28,.ptr (l3 none a1.qa))::(29,l3 none a1.qa)::(30,I6 (a1.qa.length:Int))::t)
    refine WO.pk 2 (some (I6 ((M6 a1.qa).length:Int))) (v:=I6 (a1.qa.length:Int)) (by rw[List.length_map]) (e1:=z3 []) ?_;refine WO.bk 3 (fun b=>z3 [(31,.bool b),(32,.bool b),(33,.bool b)]) (decide ((a1.qa.length:Int) ≥ 1)) (fun hb=>?_) (fun hb=>?_)
    ·replace h:=qt hb h;refine WO.pk 2 (some (I6 ((M6 a1.qa).length:Int))) (v:=I6 (a1.qa.length:Int)) (by rw[List.length_map]) (e1:=z3 [(31,.bool true),(32,.bool true),(33,.bool true),(34,.ptr (l3 none a1.qa)),(35,l3 none a1.qa),(36,I6 (a1.qa.length:Int))]) ?_;refine WO.fn (e2:=[(2,.bool (decide ((a1.qa.length:Int)≤2)))]) ?_;exact hK10 (decide ((a1.qa.length:Int)≤2)) h
    replace h:=qu hb h;refine WO.fn (e2:=[(2,.bool false)]) ?_;exact hK10 false h
   replace h:=qu hb h;refine WO.fn (e2:=[(2,.bool false)]) ?_;exact hK10 false h
  replace h:=qu hb h;refine WO.fn (e2:=[(2,.bool false)]) ?_;exact hK10 false h
 refine W.seq ?_;refine W.rg ?_;refine WO.pk 2 (some (I6 ((M6 a1.qa).length:Int))) (v:=I6 (a1.qa.length:Int)) (by rw[List.length_map]) (e1:=z0 [(5,.ptr (l3 none a1.qa)),(6,l3 none a1.qa),(7,I6 (a1.qa.length:Int))]) ?_
 let z4:=fun t=>z0 ((6,l3 none a1.qa)::(7,I6 (a1.qa.length:Int))::t)
 refine WO.fn (e2:=z4 [(8,.int .i64 0)]) ?_;refine W.block ?_;obtain⟨hl1,h⟩:=qh h;refine W.wk (env':=z4 [(8,I6 ((0:Nat):Int))]) ?_;refine W.range (σ:=Unit) a1.qa (fun k1 s=>z4 [(8,I6 (k1:Int))]) (fun r0 k0 s=>Jg (Qh a1) r0 k0=some r) (fun s h=>?_) (fun x1 r1 k1 s hx1 hk1 h hN1=>?_) () h
 ·have h:Jg (Qh a1) [] (a1.qa).length=some r:=h;rw[Jg.eq_1]at h;refine W.seq ?_;refine W.rg ?_
  let z5:=fun t=>z4 ((8,I6 ((a1.qa).length:Int))::(9,.bool false)::t)
  refine WO.pk 0 (some (.bool (decide (((a1.qa).length:Int)<(a1.qa.length:Int))))) (v:=.bool false) (by rw[qR (l:=a1.qa)]) (e1:=z5 []) ?_;refine WO.fn (e2:=z5 []) ?_;refine W.seq ?_;refine W.cb false (fun h=>Bool.noConfusion h) (fun _=>?_);refine W.exit ?_;refine W.wk (env':=z0 []) ?_;exact hK3 () h
 ·have h:Jg (Qh a1) (x1::r1) k1=some r:=h;rw[Jg.eq_2]at h;refine W.seq ?_;refine W.rg ?_
  let z6:=fun t=>z4 ((8,I6 (k1:Int))::t)
  refine WO.pk 0 (some (.bool (decide ((k1:Int)<(a1.qa.length:Int))))) (v:=.bool true) (by rw[jr hk1]) (e1:=z6 [(9,.bool true)]) ?_;refine WO.fn (e2:=z6 [(9,.bool true)]) ?_;refine W.seq ?_;refine W.cb true (fun _=>?_) (fun h=>Bool.noConfusion h);refine W.skip ?_;refine W.wk (env':=z6 []) ?_;refine W.seq ?_;refine W.block ?_;refine W.seq ?_;refine W.rg ?_;refine WO.pk 0 (if (0:Int)≤(k1:Int) then ((M6 a1.qa)[Int.toNat (k1:Int)]?).map AV.ptr else none) (v:=.ptr (I6 x1)) (js (f:=(AV.int .i64)) hx1) (e1:=z6 [(10,.ptr (I6 x1))]) ?_
  let z7:=fun t=>z0 ((4,I6 x1)::(6,l3 none a1.qa)::(7,I6 (a1.qa.length:Int))::(8,I6 (k1:Int))::t)
  refine WO.fn (e2:=z7 []) ?_;refine W.seq ?_;refine W.join (σ:=(Bool)) (fun s=>z6 [(17,.bool s)]) (fun s=>(Yf (Jg (Qh a1) r1 (k1+1))) s=some r) (fun v8 h=>?_) (fun hK7=>?_)
  ·have h:(Yf (Jg (Qh a1) r1 (k1+1))) v8=some r:=h;unfold Yf at h;refine W.cb v8 (fun hb=>?_) (fun hb=>?_)
   ·replace h:=qt hb h;refine W.seq ?_;refine W.rt (e2:=[(2,.bool false)]) ?_;refine W.wk (env':=[(2,.bool false)]) ?_;cases h;exact W.ret (show qj _ _ _=some _ by kernel_rfl)
   replace h:=qu hb h;refine W.skip ?_;refine W.wk (env':=z6 []) ?_;refine W.rg ?_;refine WO.pk 0 (some (I6 (IntKind.wrap .i64 ((k1:Int)+1)))) (v:=I6 ((k1+1:Nat):Int)) (by rw[qz hl1 hk1]) (e1:=z6 [(18,I6 ((k1+1:Nat):Int))]) ?_;refine WO.fn (e2:=z4 [(8,I6 ((k1+1:Nat):Int))]) ?_;exact hN1 () h
  refine W.rg ?_;refine WO.bk 3 (fun b=>z7 [(12,I6 x1),(13,.bool b),(14,.bool b)]) (decide (x1<(-6))) (fun hb=>?_) (fun hb=>?_)
  ·replace h:=qt hb h;refine WO.fn (e2:=z6 [(17,.bool true)]) ?_;exact hK7 true h
  replace h:=qu hb h;refine WO.fn (e2:=z6 [(17,.bool (decide (x1 > 7)))]) ?_;exact hK7 (decide (x1 > 7)) h
def Qi (v12:Int):Option Int :=
 (some v12)
def Yg (N1:(Int→Option Int)) (v11:Int):Option Int :=
 (N1 v11)
def Jh (K4:(Int→Option Int)):List Int→Nat→Int→Option Int
 | [],k1,v6=>(K4 v6)
 | x1::r1,k1,v6=>(bif (decide (x1 ≥ 0)) then (chk (decide (0≤x1)) ((Yg (Jh K4 r1 (k1+1))) (iOr .i64 v6 (iShl .i64 1 x1)))) else ((Yg (Jh K4 r1 (k1+1))) v6))
def Zn (a1:rf2Atom):Option Int :=
 (chk (lenOk a1.qa) (Jh (Qi) a1.qa 0 0))
theorem Vt (a1:rf2Atom) (r:Int) (h:Zn a1=some r):Run Try.prog (.call 62 [.agg [I6 a1.qb,l3 none a1.qa]] (I6 r)):=by
 refine cW Try.func62 rfl (env0:=[(0,.agg [I6 a1.qb,l3 none a1.qa])]) ?_;unfold Zn at h;refine W.seq ?_
 let z0:=fun t=>EN ((1,.ptr (.agg [I6 a1.qb,l3 none a1.qa]))::t)
 refine W.regT [1] [1] [] [] (e2:=z0 []) (by kernel_rfl) (by kernel_rfl) (fun _ h=>h) ?_;refine W.seq ?_;refine W.rt (e2:=z0 [(3,.int .i64 0)]) ?_;refine W.seq ?_;refine W.join (σ:=(Int)) (fun s=>[(3,I6 s)]) (fun s=>(Qi) s=some r) (fun v12 h=>?_) (fun hK4=>?_)
 ·have h:(Qi) v12=some r:=h;unfold Qi at h;refine W.seq ?_;refine W.rt (e2:=[(2,I6 v12)]) ?_;refine W.wk (env':=[(2,I6 v12)]) ?_;cases h;exact W.ret (show qj _ _ _=some _ by kernel_rfl)
 refine W.seq ?_;refine W.rg ?_;refine WO.pk 2 (some (I6 ((M6 a1.qa).length:Int))) (v:=I6 (a1.qa.length:Int)) (by rw[List.length_map]) (e1:=z0 [(3,.int .i64 0),(6,.ptr (l3 none a1.qa)),(7,l3 none a1.qa),(8,I6 (a1.qa.length:Int))]) ?_
 let z1:=fun t=>EN ((3,.int .i64 0)::(7,l3 none a1.qa)::(8,I6 (a1.qa.length:Int))::t)
 refine WO.fn (e2:=z1 [(9,.int .i64 0)]) ?_;refine W.block ?_;obtain⟨hl1,h⟩:=qh h;refine W.wk (env':=z1 [(9,I6 ((0:Nat):Int))]) ?_;refine W.range (σ:=(Int)) a1.qa (fun k1 s=>[(3,I6 s),(7,l3 none a1.qa),(8,I6 (a1.qa.length:Int)),(9,I6 (k1:Int))]) (fun r0 k0 s=>Jh (Qi) r0 k0 s=some r) (fun v6 h=>?_) (fun x1 r1 k1 s hx1 hk1 h hN1=>?_) 0 h
 ·have h:Jh (Qi) [] (a1.qa).length v6=some r:=h;rw[Jh.eq_1]at h;refine W.seq ?_;refine W.rg ?_
  let z2:=fun t=>EN ((3,I6 v6)::(7,l3 none a1.qa)::(8,I6 (a1.qa.length:Int))::(9,I6 ((a1.qa).length:Int))::(10,.bool false)::t)
  refine WO.pk 0 (some (.bool (decide (((a1.qa).length:Int)<(a1.qa.length:Int))))) (v:=.bool false) (by rw[qR (l:=a1.qa)]) (e1:=z2 []) ?_;refine WO.fn (e2:=z2 []) ?_;refine W.seq ?_;refine W.cb false (fun h=>Bool.noConfusion h) (fun _=>?_);refine W.exit ?_;refine W.wk (env':=[(3,I6 v6)]) ?_;exact hK4 v6 h
 ·obtain⟨v6,rfl⟩:∃ x,x=s:=⟨s,rfl⟩;have h:Jh (Qi) (x1::r1) k1 v6=some r:=h;rw[Jh.eq_2]at h;refine W.seq ?_;refine W.rg ?_
  let z3:=fun t=>EN ((3,I6 v6)::(7,l3 none a1.qa)::(8,I6 (a1.qa.length:Int))::(9,I6 (k1:Int))::t)
  refine WO.pk 0 (some (.bool (decide ((k1:Int)<(a1.qa.length:Int))))) (v:=.bool true) (by rw[jr hk1]) (e1:=z3 [(10,.bool true)]) ?_;refine WO.fn (e2:=z3 [(10,.bool true)]) ?_;refine W.seq ?_;refine W.cb true (fun _=>?_) (fun h=>Bool.noConfusion h);refine W.skip ?_;refine W.wk (env':=z3 []) ?_;refine W.seq ?_;refine W.join (σ:=(Int)) (fun s=>[(3,I6 s),(7,l3 none a1.qa),(8,I6 (a1.qa.length:Int)),(9,I6 (k1:Int))]) (fun s=>(Yg (Jh (Qi) r1 (k1+1))) s=some r) (fun v11 h=>?_) (fun hK7=>?_)
  ·have h:(Yg (Jh (Qi) r1 (k1+1))) v11=some r:=h;unfold Yg at h;refine W.rg ?_
   let z4:=fun t=>EN ((3,I6 v11)::(7,l3 none a1.qa)::(8,I6 (a1.qa.length:Int))::t)
   refine WO.pk 0 (some (I6 (IntKind.wrap .i64 ((k1:Int)+1)))) (v:=I6 ((k1+1:Nat):Int)) (by rw[qz hl1 hk1]) (e1:=z4 [(9,I6 (k1:Int)),(19,I6 ((k1+1:Nat):Int))]) ?_;refine WO.fn (e2:=z4 [(9,I6 ((k1+1:Nat):Int))]) ?_;exact hN1 v11 h
  refine W.block ?_;refine W.seq ?_;refine W.rg ?_;refine WO.pk 0 (if (0:Int)≤(k1:Int) then ((M6 a1.qa)[Int.toNat (k1:Int)]?).map AV.ptr else none) (v:=.ptr (I6 x1)) (js (f:=(AV.int .i64)) hx1) (e1:=z3 [(11,.ptr (I6 x1))]) ?_
  let z5:=fun t=>EN ((3,I6 v6)::(5,I6 x1)::(7,l3 none a1.qa)::(8,I6 (a1.qa.length:Int))::(9,I6 (k1:Int))::t)
  refine WO.fn (e2:=z5 []) ?_;refine W.seq ?_
  let z6:=fun t=>z5 ((14,.bool (decide (x1 ≥ 0)))::t)
  refine W.rt (e2:=z6 []) ?_;refine W.cb (decide (x1 ≥ 0)) (fun hb=>?_) (fun hb=>?_)
  ·replace h:=qt hb h;refine W.rg ?_;obtain⟨hc10,h⟩:=qh h;refine WO.pk 2 (if x1<0 then none else some (I6 (iShl .i64 1 x1))) (v:=I6 (iShl .i64 1 x1)) (if_neg (XM hc10)) (e1:=z6 [(15,I6 v6),(16,I6 x1),(17,I6 (iShl .i64 1 x1))]) ?_;refine WO.fn (e2:=[(3,I6 (iOr .i64 v6 (iShl .i64 1 x1))),(7,l3 none a1.qa),(8,I6 (a1.qa.length:Int)),(9,I6 (k1:Int))]) ?_;exact hK7 (iOr .i64 v6 (iShl .i64 1 x1)) h
  replace h:=qu hb h;refine W.skip ?_;refine W.wk (env':=z3 []) ?_;exact hK7 v6 h
def ja:Option Bool :=
 (some true)
def Jk (N4:(Option Bool)):Option Bool :=
 N4
def Xd (N5:(Option Bool)) (v67:Bool):Option Bool :=
 (bif v67 then (some false) else N5)
def jP (x4:qi) (K61:(Option Bool)):List qi→Nat→Option Bool
 | [],k5=>K61
 | x5::r5,k5=>(bif (x4.f_0 == x5.f_0) then ((Xd (jP x4 K61 r5 (k5+1))) (x4.f_1 != x5.f_1)) else ((Xd (jP x4 K61 r5 (k5+1))) false))
def jj (v58:(List qi)) (K59:(Option Bool)):List qi→Nat→Option Bool
 | [],k4=>K59
 | x4::r4,k4=>(chk (lenOk v58) (jP x4 (Jk (jj v58 K59 r4 (k4+1))) v58 0))
def qQ (v58:(List qi)):Option Bool :=
 (chk (lenOk v58) (jj v58 (ja) v58 0))
def jZ (N2:((List qi)→Option Bool)) (v53:(List qi)) (v54:Int) (v55:Int):Option Bool :=
 (bif (v54 != v55) then (some false) else (N2 v53))
def Xe (x3:rf3Lit) (v36:(List qi)) (N3:((List qi)→Int→Int→Option Bool)) (v51:Int) (v52:Int):Option Bool :=
 (N3 (v36++[(qi.mk x3.qd.qb (x3.qd.qa.length:Int))]) v51 v52)
def jq (K34:((List qi)→Int→Int→Option Bool)):List rf3Lit→Nat→(List qi)→Int→Int→Option Bool
 | [],k3,v36,v37,v38=>(K34 v36 v37 v38)
 | x3::r3,k3,v36,v37,v38=>((Vf x3.qd).bind fun w43=>(bif (!w43) then (some false) else (chk (capOk 16 ((v36++[(qi.mk x3.qd.qb (x3.qd.qa.length:Int))])).length) ((Zn x3.qd).bind fun w48=>(bif (!x3.qp) then ((Zn x3.qd).bind fun w50=>((Xe x3 v36 (jq K34 r3 (k3+1))) (iOr .i64 v37 w48) (iOr .i64 v38 w50))) else ((Xe x3 v36 (jq K34 r3 (k3+1))) (iOr .i64 v37 w48) v38))))))
def Xf (x2:rf3Rule) (v22:(List qi)) (N2:((List qi)→Option Bool)) (v28:Bool):Option Bool :=
 (bif v28 then (some false) else (chk (capOk 16 ((v22++[(qi.mk x2.qf.qb (x2.qf.qa.length:Int))])).length) ((Zn x2.qf).bind fun w33=>(chk (lenOk x2.qe) (jq (jZ N2) x2.qe 0 (v22++[(qi.mk x2.qf.qb (x2.qf.qa.length:Int))]) w33 0)))))
def qL (K20:((List qi)→Option Bool)):List rf3Rule→Nat→(List qi)→Option Bool
 | [],k2,v22=>(K20 v22)
 | x2::r2,k2,v22=>((Vf x2.qf).bind fun w27=>(bif (!w27) then ((Xf x2 v22 (qL K20 r2 (k2+1))) true) else ((Xf x2 v22 (qL K20 r2 (k2+1))) (decide ((x2.qe.length:Int) > 3)))))
def QB (a1:(List rf3Rule)) (v19:(List qi)):Option Bool :=
 (chk (lenOk a1) (qL (qQ) a1 0 v19))
def JP (K9:((List qi)→Option Bool)):List apiFact→Nat→(List qi)→Option Bool
 | [],k1,v11=>(K9 v11)
 | x1::r1,k1,v11=>((Zm x1).bind fun w16=>(bif (!w16) then (some false) else (chk (capOk 16 ((v11++[(qi.mk x1.qb (x1.qa.length:Int))])).length) ((JP K9 r1 (k1+1)) (v11++[(qi.mk x1.qb (x1.qa.length:Int))])))))
def XE (a1:(List rf3Rule)) (a2:(List apiFact)) (v6:Bool):Option Bool :=
 (bif v6 then (some false) else (chk (lenOk a2) (JP (QB a1) a2 0 ([]:(List qi)))))
def Zd (a1:(List rf3Rule)) (a2:(List apiFact)):Option Bool :=
 (bif (decide ((a1.length:Int) > 10)) then ((XE a1 a2) true) else ((XE a1 a2) (decide ((a2.length:Int) > 20))))
theorem qaR (a1:(List rf3Rule)) (a2:(List apiFact)) (r:Bool) (h:Zd a1 a2=some r):Run Try.prog (.call 20 [l94 none a1,l41 none a2] (.bool r)):=by
 refine cW Try.func20 rfl (env0:=[(0,l94 none a1),(1,l41 none a2)]) ?_;unfold Zd at h;refine W.seq ?_
 let z0:=fun t=>EN ((0,l94 none a1)::t)
 let z1:=fun t=>z0 ((1,l41 none a2)::t)
 refine W.rt (e2:=z1 []) ?_;refine W.seq ?_;refine W.seq ?_;refine W.join (σ:=(Bool)) (fun s=>z1 [(25,.bool s)]) (fun s=>(XE a1 a2) s=some r) (fun v6 h=>?_) (fun hK5=>?_)
 ·have h:(XE a1 a2) v6=some r:=h;unfold XE at h;refine W.cb v6 (fun hb=>?_) (fun hb=>?_)
  ·replace h:=qt hb h;refine W.seq ?_;refine W.rt (e2:=[(4,.bool false)]) ?_;refine W.wk (env':=[(4,.bool false)]) ?_;cases h;exact W.ret (show qj _ _ _=some _ by kernel_rfl)
  replace h:=qu hb h;refine W.skip ?_;refine W.wk (env':=z1 []) ?_;refine W.seq ?_;refine W.rt (e2:=z1 [(5,.nils)]) ?_;refine W.seq ?_;refine W.join (σ:=((List qi))) (fun s=>z0 [(5,l112 (some 10500) s)]) (fun s=>(QB a1) s=some r) (fun v19 h=>?_) (fun hK9=>?_)
  ·have h:(QB a1) v19=some r:=h;unfold QB at h;refine W.seq ?_;refine W.join (σ:=((List qi))) (fun s=>[(5,l112 (some 10500) s)]) (fun s=>(qQ) s=some r) (fun v58 h=>?_) (fun hK20=>?_)
   ·have h:(qQ) v58=some r:=h;unfold qQ at h;refine W.seq ?_;refine W.join (σ:=Unit) (fun s=>[]) (fun s=>(ja)=some r) (fun s h=>?_) (fun hK59=>?_)
    ·have h:(ja)=some r:=h;unfold ja at h;refine W.seq ?_;refine W.rt (e2:=[(4,.bool true)]) ?_;refine W.wk (env':=[(4,.bool true)]) ?_;cases h;exact W.ret (show qj _ _ _=some _ by kernel_rfl)
    refine W.seq ?_;refine W.rg ?_
    let z2:=fun t=>EN ((5,l112 (some 10500) v58)::(115,l112 (some 10500) v58)::(116,I6 (v58.length:Int))::t)
    refine WO.pk 1 (some (I6 ((List.map jT v58).length:Int))) (v:=I6 (v58.length:Int)) (by rw[List.length_map]) (e1:=z2 []) ?_;refine WO.fn (e2:=z2 [(117,.int .i64 0)]) ?_;refine W.block ?_;obtain⟨hl4,h⟩:=qh h;refine W.wk (env':=z2 [(117,I6 ((0:Nat):Int))]) ?_;refine W.range (σ:=Unit) v58 (fun k4 s=>z2 [(117,I6 (k4:Int))]) (fun r0 k0 s=>jj v58 (ja) r0 k0=some r) (fun s h=>?_) (fun x4 r4 k4 s hx4 hk4 h hN4=>?_) () h
    ·have h:jj v58 (ja) [] (v58).length=some r:=h;rw[jj.eq_1]at h;refine W.seq ?_;refine W.rg ?_
     let z3:=fun t=>z2 ((117,I6 ((v58).length:Int))::(118,.bool false)::t)
     refine WO.pk 0 (some (.bool (decide (((v58).length:Int)<(v58.length:Int))))) (v:=.bool false) (by rw[qR (l:=v58)]) (e1:=z3 []) ?_;refine WO.fn (e2:=z3 []) ?_;refine W.seq ?_;refine W.cb false (fun h=>Bool.noConfusion h) (fun _=>?_);refine W.exit ?_;refine W.wk (env':=[]) ?_;exact hK59 () h
    ·have h:jj v58 (ja) (x4::r4) k4=some r:=h;rw[jj.eq_2]at h;refine W.seq ?_;refine W.rg ?_
     let z4:=fun t=>z2 ((117,I6 (k4:Int))::t)
     refine WO.pk 0 (some (.bool (decide ((k4:Int)<(v58.length:Int))))) (v:=.bool true) (by rw[jr hk4]) (e1:=z4 [(118,.bool true)]) ?_;refine WO.fn (e2:=z4 [(118,.bool true)]) ?_;refine W.seq ?_;refine W.cb true (fun _=>?_) (fun h=>Bool.noConfusion h);refine W.skip ?_;refine W.wk (env':=z4 []) ?_;refine W.seq ?_;refine W.join (σ:=Unit) (fun s=>z4 []) (fun s=>(Jk (jj v58 (ja) r4 (k4+1)))=some r) (fun s h=>?_) (fun hK61=>?_)
     ·have h:(Jk (jj v58 (ja) r4 (k4+1)))=some r:=h;unfold Jk at h;refine W.rg ?_;refine WO.pk 0 (some (I6 (IntKind.wrap .i64 ((k4:Int)+1)))) (v:=I6 ((k4+1:Nat):Int)) (by rw[qz hl4 hk4]) (e1:=z4 [(140,I6 ((k4+1:Nat):Int))]) ?_;refine WO.fn (e2:=z2 [(117,I6 ((k4+1:Nat):Int))]) ?_;exact hN4 () h
     refine W.block ?_;refine W.seq ?_;refine W.rg ?_;refine WO.pk 0 (if (0:Int)≤(k4:Int) then ((List.map jT v58)[Int.toNat (k4:Int)]?).map AV.ptr else none) (v:=.ptr (.agg [I6 x4.f_0,I6 x4.f_1])) (js (f:=jT) hx4) (e1:=z4 [(119,.ptr (.agg [I6 x4.f_0,I6 x4.f_1]))]) ?_
     let z5:=fun t=>EN ((5,l112 (some 10500) v58)::(15,.ptr (.agg [I6 x4.f_0,I6 x4.f_1]))::(115,l112 (some 10500) v58)::(116,I6 (v58.length:Int))::(117,I6 (k4:Int))::t)
     refine WO.fin [5,15,115,116,117] [15] [] [] (e2:=z5 []) (by kernel_rfl) (fun _ h=>h) ?_;refine W.seq ?_;refine W.rg ?_
     let z6:=fun t=>z5 ((121,l112 (some 10500) v58)::(122,I6 (v58.length:Int))::t)
     refine WO.pk 1 (some (I6 ((List.map jT v58).length:Int))) (v:=I6 (v58.length:Int)) (by rw[List.length_map]) (e1:=z6 []) ?_;refine WO.fn (e2:=z6 [(123,.int .i64 0)]) ?_;refine W.block ?_;obtain⟨hl5,h⟩:=qh h;refine W.wk (env':=z6 [(123,I6 ((0:Nat):Int))]) ?_;refine W.range (σ:=Unit) v58 (fun k5 s=>z6 [(123,I6 (k5:Int))]) (fun r0 k0 s=>jP x4 (Jk (jj v58 (ja) r4 (k4+1))) r0 k0=some r) (fun s h=>?_) (fun x5 r5 k5 s hx5 hk5 h hN5=>?_) () h
     ·have h:jP x4 (Jk (jj v58 (ja) r4 (k4+1))) [] (v58).length=some r:=h;rw[jP.eq_1]at h;refine W.seq ?_;refine W.rg ?_
      let z7:=fun t=>z6 ((123,I6 ((v58).length:Int))::(124,.bool false)::t)
      refine WO.pk 0 (some (.bool (decide (((v58).length:Int)<(v58.length:Int))))) (v:=.bool false) (by rw[qR (l:=v58)]) (e1:=z7 []) ?_;refine WO.fn (e2:=z7 []) ?_;refine W.seq ?_;refine W.cb false (fun h=>Bool.noConfusion h) (fun _=>?_);refine W.exit ?_;refine W.wk (env':=z4 []) ?_;exact hK61 () h
     ·have h:jP x4 (Jk (jj v58 (ja) r4 (k4+1))) (x5::r5) k5=some r:=h;rw[jP.eq_2]at h;refine W.seq ?_;refine W.rg ?_
      let z8:=fun t=>z6 ((123,I6 (k5:Int))::t)
      refine WO.pk 0 (some (.bool (decide ((k5:Int)<(v58.length:Int))))) (v:=.bool true) (by rw[jr hk5]) (e1:=z8 [(124,.bool true)]) ?_;refine WO.fn (e2:=z8 [(124,.bool true)]) ?_;refine W.seq ?_;refine W.cb true (fun _=>?_) (fun h=>Bool.noConfusion h);refine W.skip ?_;refine W.wk (env':=z8 []) ?_;refine W.seq ?_;refine W.block ?_;refine W.seq ?_;refine W.rg ?_;refine WO.pk 0 (if (0:Int)≤(k5:Int) then ((List.map jT v58)[Int.toNat (k5:Int)]?).map AV.ptr else none) (v:=.ptr (.agg [I6 x5.f_0,I6 x5.f_1])) (js (f:=jT) hx5) (e1:=z8 [(125,.ptr (.agg [I6 x5.f_0,I6 x5.f_1]))]) ?_
      let z9:=fun t=>EN ((5,l112 (some 10500) v58)::(15,.ptr (.agg [I6 x4.f_0,I6 x4.f_1]))::t)
      let z10:=fun t=>z9 ((17,.ptr (.agg [I6 x5.f_0,I6 x5.f_1]))::(115,l112 (some 10500) v58)::(116,I6 (v58.length:Int))::(117,I6 (k4:Int))::(121,l112 (some 10500) v58)::(122,I6 (v58.length:Int))::(123,I6 (k5:Int))::t)
      refine WO.fin [5,15,17,115,116,117,121,122,123] [17] [] [] (e2:=z10 []) (by kernel_rfl) (fun _ h=>h) ?_;refine W.seq ?_;refine W.join (σ:=(Bool)) (fun s=>z8 [(138,.bool s)]) (fun s=>(Xd (jP x4 (Jk (jj v58 (ja) r4 (k4+1))) r5 (k5+1))) s=some r) (fun v67 h=>?_) (fun hK66=>?_)
      ·have h:(Xd (jP x4 (Jk (jj v58 (ja) r4 (k4+1))) r5 (k5+1))) v67=some r:=h;unfold Xd at h;refine W.cb v67 (fun hb=>?_) (fun hb=>?_)
       ·replace h:=qt hb h;refine W.seq ?_;refine W.rt (e2:=[(4,.bool false)]) ?_;refine W.wk (env':=[(4,.bool false)]) ?_;cases h;exact W.ret (show qj _ _ _=some _ by kernel_rfl)
       replace h:=qu hb h;refine W.skip ?_;refine W.wk (env':=z8 []) ?_;refine W.rg ?_;refine WO.pk 0 (some (I6 (IntKind.wrap .i64 ((k5:Int)+1)))) (v:=I6 ((k5+1:Nat):Int)) (by rw[qz hl5 hk5]) (e1:=z8 [(139,I6 ((k5+1:Nat):Int))]) ?_;refine WO.fn (e2:=z6 [(123,I6 ((k5+1:Nat):Int))]) ?_;exact hN5 () h
      refine W.rg ?_;refine WO.bk 6 (fun b=>z10 [(127,.ptr (I6 x4.f_0)),(128,I6 x4.f_0),(129,.ptr (I6 x5.f_0)),(130,I6 x5.f_0),(131,.bool b),(132,.bool b)]) (x4.f_0 == x5.f_0) (fun hb=>?_) (fun hb=>?_)
      ·replace h:=qt hb h;refine WO.fn (e2:=z8 [(138,.bool (x4.f_1 != x5.f_1))]) ?_;exact hK66 (x4.f_1 != x5.f_1) h
      replace h:=qu hb h;refine WO.fn (e2:=z8 [(138,.bool false)]) ?_;exact hK66 false h
   refine W.seq ?_;refine W.rg ?_;refine WO.pk 1 (some (I6 ((List.map Xl a1).length:Int))) (v:=I6 (a1.length:Int)) (by rw[List.length_map]) (e1:=z0 [(5,l112 (some 10500) v19),(45,l94 none a1),(46,I6 (a1.length:Int))]) ?_
   let z11:=fun t=>EN ((5,l112 (some 10500) v19)::(45,l94 none a1)::(46,I6 (a1.length:Int))::t)
   refine WO.fn (e2:=z11 [(47,.int .i64 0)]) ?_;refine W.block ?_;obtain⟨hl2,h⟩:=qh h;refine W.wk (env':=z11 [(47,I6 ((0:Nat):Int))]) ?_;refine W.range (σ:=((List qi))) a1 (fun k2 s=>[(5,l112 (some 10500) s),(45,l94 none a1),(46,I6 (a1.length:Int)),(47,I6 (k2:Int))]) (fun r0 k0 s=>qL (qQ) r0 k0 s=some r) (fun v22 h=>?_) (fun x2 r2 k2 s hx2 hk2 h hN2=>?_) v19 h
   ·have h:qL (qQ) [] (a1).length v22=some r:=h;rw[qL.eq_1]at h;refine W.seq ?_;refine W.rg ?_
    let z12:=fun t=>EN ((5,l112 (some 10500) v22)::(45,l94 none a1)::(46,I6 (a1.length:Int))::(47,I6 ((a1).length:Int))::(48,.bool false)::t)
    refine WO.pk 0 (some (.bool (decide (((a1).length:Int)<(a1.length:Int))))) (v:=.bool false) (by rw[qR (l:=a1)]) (e1:=z12 []) ?_;refine WO.fn (e2:=z12 []) ?_;refine W.seq ?_;refine W.cb false (fun h=>Bool.noConfusion h) (fun _=>?_);refine W.exit ?_;refine W.wk (env':=[(5,l112 (some 10500) v22)]) ?_;exact hK20 v22 h
   ·obtain⟨v22,rfl⟩:∃ x,x=s:=⟨s,rfl⟩;have h:qL (qQ) (x2::r2) k2 v22=some r:=h;rw[qL.eq_2]at h;refine W.seq ?_;refine W.rg ?_
    let z13:=fun t=>EN ((5,l112 (some 10500) v22)::(45,l94 none a1)::(46,I6 (a1.length:Int))::(47,I6 (k2:Int))::t)
    refine WO.pk 0 (some (.bool (decide ((k2:Int)<(a1.length:Int))))) (v:=.bool true) (by rw[jr hk2]) (e1:=z13 [(48,.bool true)]) ?_;refine WO.fn (e2:=z13 [(48,.bool true)]) ?_;refine W.seq ?_;refine W.cb true (fun _=>?_) (fun h=>Bool.noConfusion h);refine W.skip ?_;refine W.wk (env':=z13 []) ?_;refine W.seq ?_;refine W.block ?_;refine W.seq ?_;refine W.rg ?_;refine WO.pk 0 (if (0:Int)≤(k2:Int) then ((List.map Xl a1)[Int.toNat (k2:Int)]?).map AV.ptr else none) (v:=.ptr (.agg [I6 x2.qf.qb,l3 none x2.qf.qa,l96 none x2.qe])) (js (f:=Xl) hx2) (e1:=z13 [(49,.ptr (.agg [I6 x2.qf.qb,l3 none x2.qf.qa,l96 none x2.qe]))]) ?_
    let z14:=fun t=>EN ((5,l112 (some 10500) v22)::(9,.ptr (.agg [I6 x2.qf.qb,l3 none x2.qf.qa,l96 none x2.qe]))::(45,l94 none a1)::(46,I6 (a1.length:Int))::(47,I6 (k2:Int))::t)
    refine WO.fin [5,9,45,46,47] [9] [] [] (e2:=z14 []) (by kernel_rfl) (fun _ h=>h) ?_;refine W.seq ?_;refine W.seq ?_;refine W.join (σ:=(Bool)) (fun s=>z14 [(60,.bool s)]) (fun s=>(Xf x2 v22 (qL (qQ) r2 (k2+1))) s=some r) (fun v28 h=>?_) (fun hK26=>?_)
    ·have h:(Xf x2 v22 (qL (qQ) r2 (k2+1))) v28=some r:=h;unfold Xf at h;refine W.cb v28 (fun hb=>?_) (fun hb=>?_)
     ·replace h:=qt hb h;refine W.seq ?_;refine W.rt (e2:=[(4,.bool false)]) ?_;refine W.wk (env':=[(4,.bool false)]) ?_;cases h;exact W.ret (show qj _ _ _=some _ by kernel_rfl)
     replace h:=qu hb h;refine W.skip ?_;refine W.wk (env':=z14 []) ?_;refine W.seq ?_;refine W.rg ?_;refine WO.pk 7 (some (I6 ((M6 x2.qf.qa).length:Int))) (v:=I6 (x2.qf.qa.length:Int)) (by rw[List.length_map]) (e1:=z14 [(61,l112 (some 10500) v22),(62,.ptr (.agg [I6 x2.qf.qb,l3 none x2.qf.qa])),(63,.ptr (I6 x2.qf.qb)),(64,I6 x2.qf.qb),(65,.ptr (.agg [I6 x2.qf.qb,l3 none x2.qf.qa])),(66,.ptr (l3 none x2.qf.qa)),(67,l3 none x2.qf.qa),(68,I6 (x2.qf.qa.length:Int))]) ?_;obtain⟨hc31,h⟩:=qh h;refine WO.appendK 2 (d:=71) (e:=112) (s:=2) (bytes:=16) (xs:=(List.map jT v22)) (ys:=(List.map jT [(qi.mk x2.qf.qb (x2.qf.qa.length:Int))])) (zs:=(List.map jT (v22++[(qi.mk x2.qf.qb (x2.qf.qa.length:Int))]))) (env1:=[(5,l112 none v22),(9,.ptr (.agg [I6 x2.qf.qb,l3 none x2.qf.qa,l96 none x2.qe])),(45,l94 none a1),(46,I6 (a1.length:Int)),(47,I6 (k2:Int)),(61,l112 none v22),(62,.ptr (.agg [I6 x2.qf.qb,l3 none x2.qf.qa])),(63,.ptr (I6 x2.qf.qb)),(64,I6 x2.qf.qb),(65,.ptr (.agg [I6 x2.qf.qb,l3 none x2.qf.qa])),(66,.ptr (l3 none x2.qf.qa)),(67,l3 none x2.qf.qa),(68,I6 (x2.qf.qa.length:Int)),(69,.agg [I6 x2.qf.qb,I6 (x2.qf.qa.length:Int)]),(70,l112 (some 70) [(qi.mk x2.qf.qb (x2.qf.qa.length:Int))])]) (by kernel_rfl) (List.map_append.symm) (by rw[List.length_map];exact hc31) (e1:=[(5,l112 none v22),(9,.ptr (.agg [I6 x2.qf.qb,l3 none x2.qf.qa,l96 none x2.qe])),(45,l94 none a1),(46,I6 (a1.length:Int)),(47,I6 (k2:Int)),(61,l112 none v22),(62,.ptr (.agg [I6 x2.qf.qb,l3 none x2.qf.qa])),(63,.ptr (I6 x2.qf.qb)),(64,I6 x2.qf.qb),(65,.ptr (.agg [I6 x2.qf.qb,l3 none x2.qf.qa])),(66,.ptr (l3 none x2.qf.qa)),(67,l3 none x2.qf.qa),(68,I6 (x2.qf.qa.length:Int)),(69,.agg [I6 x2.qf.qb,I6 (x2.qf.qa.length:Int)]),(70,l112 (some 70) [(qi.mk x2.qf.qb (x2.qf.qa.length:Int))]),(71,l112 (some 71) (v22++[(qi.mk x2.qf.qb (x2.qf.qa.length:Int))]))]) (by kernel_rfl) ?_
     let z15:=fun t=>EN ((5,l112 (some 71) (v22++[(qi.mk x2.qf.qb (x2.qf.qa.length:Int))]))::(9,.ptr (.agg [I6 x2.qf.qb,l3 none x2.qf.qa,l96 none x2.qe]))::t)
     let z16:=fun t=>z15 ((45,l94 none a1)::(46,I6 (a1.length:Int))::(47,I6 (k2:Int))::t)
     refine WO.fn (e2:=z16 []) ?_;refine W.seq ?_;refine W.rg ?_;obtain⟨w33,hw33,h⟩:=qc h;refine WO.ck 2 (F:=62) (l:=[.agg [I6 x2.qf.qb,l3 none x2.qf.qa]]) (C:=[]) (r:=I6 w33) (Vt x2.qf w33 hw33) (e1:=z16 [(72,.ptr (.agg [I6 x2.qf.qb,l3 none x2.qf.qa])),(73,.agg [I6 x2.qf.qb,l3 none x2.qf.qa]),(74,I6 w33)]) ?_
     let z17:=fun t=>z15 ((10,I6 w33)::(11,.int .i64 0)::(45,l94 none a1)::(46,I6 (a1.length:Int))::(47,I6 (k2:Int))::t)
     refine WO.fn (e2:=z17 []) ?_;refine W.seq ?_;refine W.join (σ:=((List qi)×Int×Int)) (fun s=>[(5,l112 (some 10500) s.1),(10,I6 s.2.1),(11,I6 s.2.2),(45,l94 none a1),(46,I6 (a1.length:Int)),(47,I6 (k2:Int))]) (fun s=>(jZ (qL (qQ) r2 (k2+1))) s.1 s.2.1 s.2.2=some r) (fun s h=>?_) (fun hK34=>?_)
     ·obtain⟨v53,v54,v55⟩:=s;have h:(jZ (qL (qQ) r2 (k2+1))) v53 v54 v55=some r:=h;unfold jZ at h;refine W.seq ?_
      let z18:=fun t=>EN ((5,l112 (some 10500) v53)::(45,l94 none a1)::(46,I6 (a1.length:Int))::t)
      refine W.rt (e2:=z18 [(47,I6 (k2:Int)),(113,.bool (v54 != v55))]) ?_;refine W.cb (v54 != v55) (fun hb=>?_) (fun hb=>?_)
      ·replace h:=qt hb h;refine W.seq ?_;refine W.rt (e2:=[(4,.bool false)]) ?_;refine W.wk (env':=[(4,.bool false)]) ?_;cases h;exact W.ret (show qj _ _ _=some _ by kernel_rfl)
      replace h:=qu hb h;refine W.skip ?_;refine W.wk (env':=z18 [(47,I6 (k2:Int))]) ?_;refine W.rg ?_;refine WO.pk 0 (some (I6 (IntKind.wrap .i64 ((k2:Int)+1)))) (v:=I6 ((k2+1:Nat):Int)) (by rw[qz hl2 hk2]) (e1:=z18 [(47,I6 (k2:Int)),(114,I6 ((k2+1:Nat):Int))]) ?_;refine WO.fn (e2:=z18 [(47,I6 ((k2+1:Nat):Int))]) ?_;exact hN2 v53 h
     refine W.seq ?_;refine W.rg ?_;refine WO.pk 2 (some (I6 ((List.map Xx x2.qe).length:Int))) (v:=I6 (x2.qe.length:Int)) (by rw[List.length_map]) (e1:=z17 [(75,.ptr (l96 none x2.qe)),(76,l96 none x2.qe),(77,I6 (x2.qe.length:Int))]) ?_;refine WO.fn (e2:=[(5,l112 (some 71) (v22++[(qi.mk x2.qf.qb (x2.qf.qa.length:Int))])),(10,I6 w33),(11,.int .i64 0),(45,l94 none a1),(46,I6 (a1.length:Int)),(47,I6 (k2:Int)),(76,l96 none x2.qe),(77,I6 (x2.qe.length:Int)),(78,.int .i64 0)]) ?_;refine W.block ?_;obtain⟨hl3,h⟩:=qh h;refine W.weak [5,10,11,45,46,47,76,77,78] [] [] [(71,some 10500)] (env':=[(5,l112 (some 10500) (v22++[(qi.mk x2.qf.qb (x2.qf.qa.length:Int))])),(10,I6 w33),(11,.int .i64 0),(45,l94 none a1),(46,I6 (a1.length:Int)),(47,I6 (k2:Int)),(76,l96 none x2.qe),(77,I6 (x2.qe.length:Int)),(78,I6 ((0:Nat):Int))]) (by kernel_rfl) ?_;refine W.range (σ:=((List qi)×Int×Int)) x2.qe (fun k3 s=>[(5,l112 (some 10500) s.1),(10,I6 s.2.1),(11,I6 s.2.2),(45,l94 none a1),(46,I6 (a1.length:Int)),(47,I6 (k2:Int)),(76,l96 none x2.qe),(77,I6 (x2.qe.length:Int)),(78,I6 (k3:Int))]) (fun r0 k0 s=>jq (jZ (qL (qQ) r2 (k2+1))) r0 k0 s.1 s.2.1 s.2.2=some r) (fun s h=>?_) (fun x3 r3 k3 s hx3 hk3 h hN3=>?_) ((v22++[(qi.mk x2.qf.qb (x2.qf.qa.length:Int))]),w33,0) h
     ·obtain⟨v36,v37,v38⟩:=s;have h:jq (jZ (qL (qQ) r2 (k2+1))) [] (x2.qe).length v36 v37 v38=some r:=h;rw[jq.eq_1]at h;refine W.seq ?_;refine W.rg ?_
      let z19:=fun t=>EN ((5,l112 (some 10500) v36)::(10,I6 v37)::(11,I6 v38)::(45,l94 none a1)::(46,I6 (a1.length:Int))::(47,I6 (k2:Int))::t)
      let z20:=fun t=>z19 ((76,l96 none x2.qe)::(77,I6 (x2.qe.length:Int))::(78,I6 ((x2.qe).length:Int))::(79,.bool false)::t)
      refine WO.pk 0 (some (.bool (decide (((x2.qe).length:Int)<(x2.qe.length:Int))))) (v:=.bool false) (by rw[qR (l:=x2.qe)]) (e1:=z20 []) ?_;refine WO.fn (e2:=z20 []) ?_;refine W.seq ?_;refine W.cb false (fun h=>Bool.noConfusion h) (fun _=>?_);refine W.exit ?_;refine W.wk (env':=z19 []) ?_;exact hK34 (v36,v37,v38) h
     ·obtain⟨v36,v37,v38⟩:=s;have h:jq (jZ (qL (qQ) r2 (k2+1))) (x3::r3) k3 v36 v37 v38=some r:=h;rw[jq.eq_2]at h;refine W.seq ?_;refine W.rg ?_
      let z21:=fun t=>EN ((5,l112 (some 10500) v36)::(10,I6 v37)::(11,I6 v38)::(45,l94 none a1)::(46,I6 (a1.length:Int))::(47,I6 (k2:Int))::(76,l96 none x2.qe)::(77,I6 (x2.qe.length:Int))::(78,I6 (k3:Int))::t)
      refine WO.pk 0 (some (.bool (decide ((k3:Int)<(x2.qe.length:Int))))) (v:=.bool true) (by rw[jr hk3]) (e1:=z21 [(79,.bool true)]) ?_;refine WO.fn (e2:=z21 [(79,.bool true)]) ?_;refine W.seq ?_;refine W.cb true (fun _=>?_) (fun h=>Bool.noConfusion h);refine W.skip ?_;refine W.wk (env':=z21 []) ?_;refine W.seq ?_
      let z22:=fun t=>EN ((5,l112 (some 96) (v36++[(qi.mk x3.qd.qb (x3.qd.qa.length:Int))]))::t)
      refine W.join (σ:=(Int×Int)) (fun s=>z22 [(10,I6 s.1),(11,I6 s.2),(45,l94 none a1),(46,I6 (a1.length:Int)),(47,I6 (k2:Int)),(76,l96 none x2.qe),(77,I6 (x2.qe.length:Int)),(78,I6 (k3:Int))]) (fun s=>(Xe x3 v36 (jq (jZ (qL (qQ) r2 (k2+1))) r3 (k3+1))) s.1 s.2=some r) (fun s h=>?_) (fun hK39=>?_)
      ·obtain⟨v51,v52⟩:=s;have h:(Xe x3 v36 (jq (jZ (qL (qQ) r2 (k2+1))) r3 (k3+1))) v51 v52=some r:=h;unfold Xe at h;refine W.rg ?_;refine WO.pk 0 (some (I6 (IntKind.wrap .i64 ((k3:Int)+1)))) (v:=I6 ((k3+1:Nat):Int)) (by rw[qz hl3 hk3]) (e1:=z22 [(10,I6 v51),(11,I6 v52),(45,l94 none a1),(46,I6 (a1.length:Int)),(47,I6 (k2:Int)),(76,l96 none x2.qe),(77,I6 (x2.qe.length:Int)),(78,I6 (k3:Int)),(110,I6 ((k3+1:Nat):Int))]) ?_;refine WO.fin [5,10,11,45,46,47,76,77,78] [] [] [(96,some 10500)] (e2:=[(5,l112 (some 10500) (v36++[(qi.mk x3.qd.qb (x3.qd.qa.length:Int))])),(10,I6 v51),(11,I6 v52),(45,l94 none a1),(46,I6 (a1.length:Int)),(47,I6 (k2:Int)),(76,l96 none x2.qe),(77,I6 (x2.qe.length:Int)),(78,I6 ((k3+1:Nat):Int))]) (by kernel_rfl) (fun _ h=>h) ?_;exact hN3 ((v36++[(qi.mk x3.qd.qb (x3.qd.qa.length:Int))]),v51,v52) h
      refine W.block ?_;refine W.seq ?_;refine W.rg ?_;refine WO.pk 0 (if (0:Int)≤(k3:Int) then ((List.map Xx x2.qe)[Int.toNat (k3:Int)]?).map AV.ptr else none) (v:=.ptr (.agg [.bool x3.qp,I6 x3.qd.qb,l3 none x3.qd.qa])) (js (f:=Xx) hx3) (e1:=z21 [(80,.ptr (.agg [.bool x3.qp,I6 x3.qd.qb,l3 none x3.qd.qa]))]) ?_
      let z23:=fun t=>EN ((5,l112 (some 10500) v36)::(10,I6 v37)::(11,I6 v38)::(13,.ptr (.agg [.bool x3.qp,I6 x3.qd.qb,l3 none x3.qd.qa]))::(45,l94 none a1)::(46,I6 (a1.length:Int))::(47,I6 (k2:Int))::(76,l96 none x2.qe)::(77,I6 (x2.qe.length:Int))::(78,I6 (k3:Int))::t)
      refine WO.fin [5,10,11,13,45,46,47,76,77,78] [13] [] [] (e2:=z23 []) (by kernel_rfl) (fun _ h=>h) ?_;refine W.seq ?_;refine W.seq ?_;refine W.rg ?_;obtain⟨w43,hw43,h⟩:=qc h;refine WO.ck 2 (F:=61) (l:=[.agg [I6 x3.qd.qb,l3 none x3.qd.qa]]) (C:=[]) (r:=.bool w43) (ND x3.qd w43 hw43) (e1:=z23 [(82,.ptr (.agg [I6 x3.qd.qb,l3 none x3.qd.qa])),(83,.agg [I6 x3.qd.qb,l3 none x3.qd.qa]),(84,.bool w43)]) ?_;refine WO.fn (e2:=z23 [(85,.bool (!w43))]) ?_;refine W.cb (!w43) (fun hb=>?_) (fun hb=>?_)
      ·replace h:=qt hb h;refine W.seq ?_;refine W.rt (e2:=[(4,.bool false)]) ?_;refine W.wk (env':=[(4,.bool false)]) ?_;cases h;exact W.ret (show qj _ _ _=some _ by kernel_rfl)
      replace h:=qu hb h;refine W.skip ?_;refine W.wk (env':=z23 []) ?_;refine W.seq ?_;refine W.rg ?_;refine WO.pk 7 (some (I6 ((M6 x3.qd.qa).length:Int))) (v:=I6 (x3.qd.qa.length:Int)) (by rw[List.length_map]) (e1:=z23 [(86,l112 (some 10500) v36),(87,.ptr (.agg [I6 x3.qd.qb,l3 none x3.qd.qa])),(88,.ptr (I6 x3.qd.qb)),(89,I6 x3.qd.qb),(90,.ptr (.agg [I6 x3.qd.qb,l3 none x3.qd.qa])),(91,.ptr (l3 none x3.qd.qa)),(92,l3 none x3.qd.qa),(93,I6 (x3.qd.qa.length:Int))]) ?_;obtain⟨hc46,h⟩:=qh h;refine WO.appendK 2 (d:=96) (e:=112) (s:=2) (bytes:=16) (xs:=(List.map jT v36)) (ys:=(List.map jT [(qi.mk x3.qd.qb (x3.qd.qa.length:Int))])) (zs:=(List.map jT (v36++[(qi.mk x3.qd.qb (x3.qd.qa.length:Int))]))) (env1:=[(5,l112 none v36),(10,I6 v37),(11,I6 v38),(13,.ptr (.agg [.bool x3.qp,I6 x3.qd.qb,l3 none x3.qd.qa])),(45,l94 none a1),(46,I6 (a1.length:Int)),(47,I6 (k2:Int)),(76,l96 none x2.qe),(77,I6 (x2.qe.length:Int)),(78,I6 (k3:Int)),(86,l112 none v36),(87,.ptr (.agg [I6 x3.qd.qb,l3 none x3.qd.qa])),(88,.ptr (I6 x3.qd.qb)),(89,I6 x3.qd.qb),(90,.ptr (.agg [I6 x3.qd.qb,l3 none x3.qd.qa])),(91,.ptr (l3 none x3.qd.qa)),(92,l3 none x3.qd.qa),(93,I6 (x3.qd.qa.length:Int)),(94,.agg [I6 x3.qd.qb,I6 (x3.qd.qa.length:Int)]),(95,l112 (some 95) [(qi.mk x3.qd.qb (x3.qd.qa.length:Int))])]) (by kernel_rfl) (List.map_append.symm) (by rw[List.length_map];exact hc46) (e1:=[(5,l112 none v36),(10,I6 v37),(11,I6 v38),(13,.ptr (.agg [.bool x3.qp,I6 x3.qd.qb,l3 none x3.qd.qa])),(45,l94 none a1),(46,I6 (a1.length:Int)),(47,I6 (k2:Int)),(76,l96 none x2.qe),(77,I6 (x2.qe.length:Int)),(78,I6 (k3:Int)),(86,l112 none v36),(87,.ptr (.agg [I6 x3.qd.qb,l3 none x3.qd.qa])),(88,.ptr (I6 x3.qd.qb)),(89,I6 x3.qd.qb),(90,.ptr (.agg [I6 x3.qd.qb,l3 none x3.qd.qa])),(91,.ptr (l3 none x3.qd.qa)),(92,l3 none x3.qd.qa),(93,I6 (x3.qd.qa.length:Int)),(94,.agg [I6 x3.qd.qb,I6 (x3.qd.qa.length:Int)]),(95,l112 (some 95) [(qi.mk x3.qd.qb (x3.qd.qa.length:Int))]),(96,l112 (some 96) (v36++[(qi.mk x3.qd.qb (x3.qd.qa.length:Int))]))]) (by kernel_rfl) ?_
      let z24:=fun t=>z22 ((10,I6 v37)::(11,I6 v38)::(13,.ptr (.agg [.bool x3.qp,I6 x3.qd.qb,l3 none x3.qd.qa]))::(45,l94 none a1)::(46,I6 (a1.length:Int))::(47,I6 (k2:Int))::(76,l96 none x2.qe)::(77,I6 (x2.qe.length:Int))::(78,I6 (k3:Int))::t)
      refine WO.fn (e2:=z24 []) ?_;refine W.seq ?_;refine W.rg ?_;obtain⟨w48,hw48,h⟩:=qc h;refine WO.ck 3 (F:=62) (l:=[.agg [I6 x3.qd.qb,l3 none x3.qd.qa]]) (C:=[]) (r:=I6 w48) (Vt x3.qd w48 hw48) (e1:=z24 [(97,I6 v37),(98,.ptr (.agg [I6 x3.qd.qb,l3 none x3.qd.qa])),(99,.agg [I6 x3.qd.qb,l3 none x3.qd.qa]),(100,I6 w48)]) ?_
      let z25:=fun t=>z22 ((10,I6 (iOr .i64 v37 w48))::(11,I6 v38)::(13,.ptr (.agg [.bool x3.qp,I6 x3.qd.qb,l3 none x3.qd.qa]))::(45,l94 none a1)::(46,I6 (a1.length:Int))::(47,I6 (k2:Int))::(76,l96 none x2.qe)::(77,I6 (x2.qe.length:Int))::(78,I6 (k3:Int))::t)
      refine WO.fn (e2:=z25 []) ?_;refine W.seq ?_;refine W.rt (e2:=z25 [(104,.bool (!x3.qp))]) ?_;refine W.cb (!x3.qp) (fun hb=>?_) (fun hb=>?_)
      ·replace h:=qt hb h;refine W.rg ?_;obtain⟨w50,hw50,h⟩:=qc h;refine WO.ck 3 (F:=62) (l:=[.agg [I6 x3.qd.qb,l3 none x3.qd.qa]]) (C:=[]) (r:=I6 w50) (Vt x3.qd w50 hw50) (e1:=z25 [(104,.bool (!x3.qp)),(105,I6 v38),(106,.ptr (.agg [I6 x3.qd.qb,l3 none x3.qd.qa])),(107,.agg [I6 x3.qd.qb,l3 none x3.qd.qa]),(108,I6 w50)]) ?_;refine WO.fn (e2:=z22 [(10,I6 (iOr .i64 v37 w48)),(11,I6 (iOr .i64 v38 w50)),(45,l94 none a1),(46,I6 (a1.length:Int)),(47,I6 (k2:Int)),(76,l96 none x2.qe),(77,I6 (x2.qe.length:Int)),(78,I6 (k3:Int))]) ?_;exact hK39 ((iOr .i64 v37 w48),(iOr .i64 v38 w50)) h
      replace h:=qu hb h;refine W.skip ?_;refine W.wk (env':=z22 [(10,I6 (iOr .i64 v37 w48)),(11,I6 v38),(45,l94 none a1),(46,I6 (a1.length:Int)),(47,I6 (k2:Int)),(76,l96 none x2.qe),(77,I6 (x2.qe.length:Int)),(78,I6 (k3:Int))]) ?_;exact hK39 ((iOr .i64 v37 w48),v38) h
    refine W.rg ?_;obtain⟨w27,hw27,h⟩:=qc h
    let z26:=fun t=>z14 ((51,.ptr (.agg [I6 x2.qf.qb,l3 none x2.qf.qa]))::(52,.agg [I6 x2.qf.qb,l3 none x2.qf.qa])::(53,.bool w27)::t)
    refine WO.ck 2 (F:=61) (l:=[.agg [I6 x2.qf.qb,l3 none x2.qf.qa]]) (C:=[]) (r:=.bool w27) (ND x2.qf w27 hw27) (e1:=z26 []) ?_;refine WO.bk 2 (fun b=>z26 [(54,.bool b),(55,.bool b)]) (!w27) (fun hb=>?_) (fun hb=>?_)
    ·replace h:=qt hb h;refine WO.fn (e2:=z14 [(60,.bool true)]) ?_;exact hK26 true h
    replace h:=qu hb h;refine WO.pk 2 (some (I6 ((List.map Xx x2.qe).length:Int))) (v:=I6 (x2.qe.length:Int)) (by rw[List.length_map]) (e1:=z26 [(54,.bool false),(55,.bool false),(56,.ptr (l96 none x2.qe)),(57,l96 none x2.qe),(58,I6 (x2.qe.length:Int))]) ?_;refine WO.fn (e2:=z14 [(60,.bool (decide ((x2.qe.length:Int) > 3)))]) ?_;exact hK26 (decide ((x2.qe.length:Int) > 3)) h
  refine W.seq ?_;refine W.rg ?_;refine WO.pk 1 (some (I6 ((List.map qr a2).length:Int))) (v:=I6 (a2.length:Int)) (by rw[List.length_map]) (e1:=z1 [(5,.nils),(26,l41 none a2),(27,I6 (a2.length:Int))]) ?_;refine WO.fn (e2:=z0 [(5,.nils),(26,l41 none a2),(27,I6 (a2.length:Int)),(28,.int .i64 0)]) ?_;refine W.block ?_;obtain⟨hl1,h⟩:=qh h;refine W.weak [0,5,26,27,28] [] [(5,0,112,2,10500)] [] (env':=z0 [(5,l112 (some 10500) ([]:(List qi))),(26,l41 none a2),(27,I6 (a2.length:Int)),(28,I6 ((0:Nat):Int))]) (by kernel_rfl) ?_;refine W.range (σ:=((List qi))) a2 (fun k1 s=>z0 [(5,l112 (some 10500) s),(26,l41 none a2),(27,I6 (a2.length:Int)),(28,I6 (k1:Int))]) (fun r0 k0 s=>JP (QB a1) r0 k0 s=some r) (fun v11 h=>?_) (fun x1 r1 k1 s hx1 hk1 h hN1=>?_) ([]:(List qi)) h
  ·have h:JP (QB a1) [] (a2).length v11=some r:=h;rw[JP.eq_1]at h;refine W.seq ?_;refine W.rg ?_
   let z27:=fun t=>z0 ((5,l112 (some 10500) v11)::(26,l41 none a2)::(27,I6 (a2.length:Int))::(28,I6 ((a2).length:Int))::(29,.bool false)::t)
   refine WO.pk 0 (some (.bool (decide (((a2).length:Int)<(a2.length:Int))))) (v:=.bool false) (by rw[qR (l:=a2)]) (e1:=z27 []) ?_;refine WO.fn (e2:=z27 []) ?_;refine W.seq ?_;refine W.cb false (fun h=>Bool.noConfusion h) (fun _=>?_);refine W.exit ?_;refine W.wk (env':=z0 [(5,l112 (some 10500) v11)]) ?_;exact hK9 v11 h
  ·obtain⟨v11,rfl⟩:∃ x,x=s:=⟨s,rfl⟩;have h:JP (QB a1) (x1::r1) k1 v11=some r:=h;rw[JP.eq_2]at h;refine W.seq ?_;refine W.rg ?_
   let z28:=fun t=>z0 ((5,l112 (some 10500) v11)::(26,l41 none a2)::(27,I6 (a2.length:Int))::(28,I6 (k1:Int))::t)
   refine WO.pk 0 (some (.bool (decide ((k1:Int)<(a2.length:Int))))) (v:=.bool true) (by rw[jr hk1]) (e1:=z28 [(29,.bool true)]) ?_;refine WO.fn (e2:=z28 [(29,.bool true)]) ?_;refine W.seq ?_;refine W.cb true (fun _=>?_) (fun h=>Bool.noConfusion h);refine W.skip ?_;refine W.wk (env':=z28 []) ?_;refine W.seq ?_;refine W.block ?_;refine W.seq ?_;refine W.rg ?_;refine WO.pk 0 (if (0:Int)≤(k1:Int) then ((List.map qr a2)[Int.toNat (k1:Int)]?).map AV.ptr else none) (v:=.ptr (.agg [I6 x1.qb,l3 none x1.qa])) (js (f:=qr) hx1) (e1:=z28 [(30,.ptr (.agg [I6 x1.qb,l3 none x1.qa]))]) ?_
   let z29:=fun t=>z0 ((5,l112 (some 10500) v11)::(7,.ptr (.agg [I6 x1.qb,l3 none x1.qa]))::(26,l41 none a2)::(27,I6 (a2.length:Int))::(28,I6 (k1:Int))::t)
   refine WO.fin [0,5,7,26,27,28] [7] [] [] (e2:=z29 []) (by kernel_rfl) (fun _ h=>h) ?_;refine W.seq ?_;refine W.seq ?_;refine W.rg ?_;obtain⟨w16,hw16,h⟩:=qc h;refine WO.ck 1 (F:=33) (l:=[.agg [I6 x1.qb,l3 none x1.qa]]) (C:=[]) (r:=.bool w16) (DS x1 w16 hw16) (e1:=z29 [(32,.agg [I6 x1.qb,l3 none x1.qa]),(33,.bool w16)]) ?_;refine WO.fn (e2:=z29 [(34,.bool (!w16))]) ?_;refine W.cb (!w16) (fun hb=>?_) (fun hb=>?_)
   ·replace h:=qt hb h;refine W.seq ?_;refine W.rt (e2:=[(4,.bool false)]) ?_;refine W.wk (env':=[(4,.bool false)]) ?_;cases h;exact W.ret (show qj _ _ _=some _ by kernel_rfl)
   replace h:=qu hb h;refine W.skip ?_;refine W.wk (env':=z29 []) ?_;refine W.rg ?_;refine WO.pk 5 (some (I6 ((M6 x1.qa).length:Int))) (v:=I6 (x1.qa.length:Int)) (by rw[List.length_map]) (e1:=z29 [(35,l112 (some 10500) v11),(36,.ptr (I6 x1.qb)),(37,I6 x1.qb),(38,.ptr (l3 none x1.qa)),(39,l3 none x1.qa),(40,I6 (x1.qa.length:Int))]) ?_;obtain⟨hc18,h⟩:=qh h;refine WO.appendK 2 (d:=43) (e:=112) (s:=2) (bytes:=16) (xs:=(List.map jT v11)) (ys:=(List.map jT [(qi.mk x1.qb (x1.qa.length:Int))])) (zs:=(List.map jT (v11++[(qi.mk x1.qb (x1.qa.length:Int))]))) (env1:=[(0,l94 none a1),(5,l112 none v11),(7,.ptr (.agg [I6 x1.qb,l3 none x1.qa])),(26,l41 none a2),(27,I6 (a2.length:Int)),(28,I6 (k1:Int)),(35,l112 none v11),(36,.ptr (I6 x1.qb)),(37,I6 x1.qb),(38,.ptr (l3 none x1.qa)),(39,l3 none x1.qa),(40,I6 (x1.qa.length:Int)),(41,.agg [I6 x1.qb,I6 (x1.qa.length:Int)]),(42,l112 (some 42) [(qi.mk x1.qb (x1.qa.length:Int))])]) (by kernel_rfl) (List.map_append.symm) (by rw[List.length_map];exact hc18) (e1:=z0 [(5,l112 none v11),(7,.ptr (.agg [I6 x1.qb,l3 none x1.qa])),(26,l41 none a2),(27,I6 (a2.length:Int)),(28,I6 (k1:Int)),(35,l112 none v11),(36,.ptr (I6 x1.qb)),(37,I6 x1.qb),(38,.ptr (l3 none x1.qa)),(39,l3 none x1.qa),(40,I6 (x1.qa.length:Int)),(41,.agg [I6 x1.qb,I6 (x1.qa.length:Int)]),(42,l112 (some 42) [(qi.mk x1.qb (x1.qa.length:Int))]),(43,l112 (some 43) (v11++[(qi.mk x1.qb (x1.qa.length:Int))]))]) (by kernel_rfl) ?_
   let z30:=fun t=>z0 ((5,l112 (some 43) (v11++[(qi.mk x1.qb (x1.qa.length:Int))]))::(26,l41 none a2)::(27,I6 (a2.length:Int))::(28,I6 (k1:Int))::t)
   refine WO.fn (e2:=z30 []) ?_;refine W.rg ?_;refine WO.pk 0 (some (I6 (IntKind.wrap .i64 ((k1:Int)+1)))) (v:=I6 ((k1+1:Nat):Int)) (by rw[qz hl1 hk1]) (e1:=z30 [(44,I6 ((k1+1:Nat):Int))]) ?_;refine WO.fin [0,5,26,27,28] [] [] [(43,some 10500)] (e2:=z0 [(5,l112 (some 10500) (v11++[(qi.mk x1.qb (x1.qa.length:Int))])),(26,l41 none a2),(27,I6 (a2.length:Int)),(28,I6 ((k1+1:Nat):Int))]) (by kernel_rfl) (fun _ h=>h) ?_;exact hN1 (v11++[(qi.mk x1.qb (x1.qa.length:Int))]) h
 refine W.rg ?_
 let z31:=fun t=>z1 ((18,l94 none a1)::(19,I6 (a1.length:Int))::t)
 refine WO.pk 1 (some (I6 ((List.map Xl a1).length:Int))) (v:=I6 (a1.length:Int)) (by rw[List.length_map]) (e1:=z31 []) ?_;refine WO.bk 2 (fun b=>z31 [(20,.bool b),(21,.bool b)]) (decide ((a1.length:Int) > 10)) (fun hb=>?_) (fun hb=>?_)
 ·replace h:=qt hb h;refine WO.fn (e2:=z1 [(25,.bool true)]) ?_;exact hK5 true h
 replace h:=qu hb h;refine WO.pk 1 (some (I6 ((List.map qr a2).length:Int))) (v:=I6 (a2.length:Int)) (by rw[List.length_map]) (e1:=z31 [(20,.bool false),(21,.bool false),(22,l41 none a2),(23,I6 (a2.length:Int))]) ?_;refine WO.fn (e2:=z1 [(25,.bool (decide ((a2.length:Int) > 20)))]) ?_;exact hK5 (decide ((a2.length:Int) > 20)) h
def YN (a1:Int) (a2:(List Int)):Option Int :=
 (bif ((a2.length:Int) == 1) then ((idx a2 0).bind fun e7=>(some (IntKind.wrap .i64 ((IntKind.wrap .i64 ((IntKind.wrap .i64 (a1 * 42))+e7)) - 1)))) else ((idx a2 0).bind fun e9=>((idx a2 1).bind fun e10=>(some (IntKind.wrap .i64 ((IntKind.wrap .i64 ((IntKind.wrap .i64 ((IntKind.wrap .i64 (a1 * 42))+(IntKind.wrap .i64 (e9 * 6))))+e10)) - 1))))))
def Hy (v12:(List Bool)):Option (List Bool) :=
 (chk (decide (v12.length=252)) (chk (decide (v12.length=252∧(List.replicate 252 false).length=252)) (chk (decide (v12.length=252)) (some v12))))
def Vg (K4:((List Bool)→Option (List Bool))):List apiFact→Nat→(List Bool)→Option (List Bool)
 | [],k1,v6=>(K4 v6)
 | x1::r1,k1,v6=>((YN x1.qb x1.qa).bind fun w9=>(chk (decide ((0:Int)≤w9∧w9<((252:Nat):Int)∧0<1)) (chk (decide ((0+Int.toNat w9 * 1)<v6.length)) ((Vg K4 r1 (k1+1)) (v6.set (0+Int.toNat w9 * 1) true)))))
def qeB (a1:(List apiFact)):Option (List Bool) :=
 (chk (lenOk a1) (Vg (Hy) a1 0 (List.replicate 252 false)))
def qac (a1:Int):Option apiFact :=
 (bif (decide (((a1).tmod 42) ≥ 6)) then (some (apiFact.mk (IntKind.wrap .i64 ((a1).tdiv 42)) [(IntKind.wrap .i64 ((((a1).tmod 42)).tdiv 6)),(IntKind.wrap .i64 (((((a1).tmod 42)).tmod 6)+1))])) else (some (apiFact.mk (IntKind.wrap .i64 ((a1).tdiv 42)) [(IntKind.wrap .i64 (((a1).tmod 42)+1))])))
def Yo (v65:(List (List Int))):Option (List (List Int)) :=
 (some v65)
def Jv (N1:((List (List Int))→Option (List (List Int)))) (v64:(List (List Int))):Option (List (List Int)) :=
 (N1 v64)
def Xm (a1:rf3Rule) (a2:(List Bool)) (a3:Int) (v25:(List (List Int))) (K0:(rf3Rule→(List Bool)→Int→(List Int)→Option (List (List Int)))) (K26:((List (List Int))→Option (List (List Int)))) (v57:(List Int)) (v58:Bool):Option (List (List Int)) :=
 (bif v58 then (chk (decide (a2.length=252)) (chk (decide (v57.length=8)) ((K0 a1 a2 (IntKind.wrap .i64 (a3+1)) v57).bind fun w62=>(chk (capOk 64 ((v25++w62)).length) (K26 (v25++w62)))))) else (K26 v25))
def Jt (N2:((List Int)→Bool→Option (List (List Int)))) (v55:(List Int)) (v56:Bool):Option (List (List Int)) :=
 (N2 v55 v56)
def qH (w31:apiFact) (K38:((List Int)→Bool→Option (List (List Int)))):List Int→Nat→(List Int)→Bool→Option (List (List Int))
 | [],k2,v40,v41=>(K38 v40 v41)
 | x2::r2,k2,v40,v41=>(bif (decide (x2<0)) then (bif v41 then ((idx w31.qa (k2:Int)).bind fun e45=>((Jt (qH w31 K38 r2 (k2+1))) v40 (e45 == (IntKind.wrap .i64 (0 - x2))))) else ((Jt (qH w31 K38 r2 (k2+1))) v40 false)) else (chk (decide ((0:Int)≤x2∧x2<((8:Nat):Int)∧0<1)) ((v40[(0+Int.toNat x2 * 1)]?).bind fun e48=>(bif (e48 != 0) then (bif v41 then ((idx w31.qa (k2:Int)).bind fun e49=>(chk (decide ((0:Int)≤x2∧x2<((8:Nat):Int)∧0<1)) ((v40[(0+Int.toNat x2 * 1)]?).bind fun e51=>((Jt (qH w31 K38 r2 (k2+1))) v40 (e49 == e51))))) else ((Jt (qH w31 K38 r2 (k2+1))) v40 false)) else ((idx w31.qa (k2:Int)).bind fun e52=>(chk (decide ((0:Int)≤x2∧x2<((8:Nat):Int)∧0<1)) (chk (decide ((0+Int.toNat x2 * 1)<v40.length)) ((Jt (qH w31 K38 r2 (k2+1))) (v40.set (0+Int.toNat x2 * 1) e52) v41))))))))
def Ju (a1:rf3Rule) (a2:(List Bool)) (a3:Int) (a4:(List Int)) (e14:rf3Lit) (v25:(List (List Int))) (w31:apiFact) (K0:(rf3Rule→(List Bool)→Int→(List Int)→Option (List (List Int)))) (K26:((List (List Int))→Option (List (List Int)))) (v34:Bool):Option (List (List Int)) :=
 (bif v34 then (K26 v25) else (chk (decide (a4.length=8)) (chk (decide (a4.length=8∧(List.replicate 8 0).length=8)) (chk (lenOk e14.qd.qa) (qH w31 (Xm a1 a2 a3 v25 K0 K26) e14.qd.qa 0 a4 true)))))
def jO (a1:rf3Rule) (a2:(List Bool)) (a3:Int) (a4:(List Int)) (e14:rf3Lit) (K0:(rf3Rule→(List Bool)→Int→(List Int)→Option (List (List Int)))) (K22:((List (List Int))→Option (List (List Int)))):List Nat→Nat→(List (List Int))→Option (List (List Int))
 | [],k1,v25=>(K22 v25)
 | x1::r1,k1,v25=>(chk (decide ((0:Int)≤(k1:Int)∧(k1:Int)<((252:Nat):Int))) ((a2[Int.toNat (k1:Int) * 1]?).bind fun e29=>((qac (k1:Int)).bind fun w31=>(bif (!e29) then ((Ju a1 a2 a3 a4 e14 v25 w31 K0 (Jv (jO a1 a2 a3 a4 e14 K0 K22 r1 (k1+1)))) true) else (bif (w31.qb != e14.qd.qb) then ((Ju a1 a2 a3 a4 e14 v25 w31 K0 (Jv (jO a1 a2 a3 a4 e14 K0 K22 r1 (k1+1)))) true) else ((Ju a1 a2 a3 a4 e14 v25 w31 K0 (Jv (jO a1 a2 a3 a4 e14 K0 K22 r1 (k1+1)))) ((w31.qa.length:Int) != (e14.qd.qa.length:Int))))))))
def QH:Nat→rf3Rule→(List Bool)→Int→(List Int)→Option (List (List Int))
 | 0,_,_,_,_=>none
 | fuel+1,a1,a2,a3,a4=>(chk (!a2.isEmpty) (chk (!a4.isEmpty) (bif (a3 == (a1.qe.length:Int)) then (chk (decide (a4.length=8)) (chk (decide (a4.length=8)) (some [a4]))) else ((idx a1.qe a3).bind fun e14=>(bif e14.qp then (chk (decide (a2.length=252)) (chk (decide (a4.length=8)) (((QH fuel) a1 a2 (IntKind.wrap .i64 (a3+1)) a4).bind fun w20=>(some w20)))) else (chk (decide (a2.length=252)) (chk (lenOk (List.range (Int.toNat 252))) (jO a1 a2 a3 a4 e14 (QH fuel) (Yo) (List.range (Int.toNat 252)) 0 ([]:(List (List Int)))))))))))
def NF (a1:rf2Atom) (v17:(List Int)):Option Int :=
 ((YN a1.qb v17).bind fun w19=>(some w19))
def Vv (N1:((List Int)→Option Int)) (v16:(List Int)):Option Int :=
 (N1 v16)
def XD (a2:(List Int)) (K6:((List Int)→Option Int)):List Int→Nat→(List Int)→Option Int
 | [],k1,v8=>(K6 v8)
 | x1::r1,k1,v8=>(bif (decide (x1<0)) then (chk (capOk 8 ((v8++[(IntKind.wrap .i64 (0 - x1))])).length) ((Vv (XD a2 K6 r1 (k1+1))) (v8++[(IntKind.wrap .i64 (0 - x1))]))) else (chk (decide ((0:Int)≤x1∧x1<((8:Nat):Int)∧0<1)) ((a2[(0+Int.toNat x1 * 1)]?).bind fun e14=>(chk (capOk 8 ((v8++[e14])).length) ((Vv (XD a2 K6 r1 (k1+1))) (v8++[e14]))))))
def Ve (a1:rf2Atom) (a2:(List Int)):Option Int :=
 (chk (!a2.isEmpty) (chk (lenOk a1.qa) (XD a2 (NF a1) a1.qa 0 ([]:(List Int)))))
end Go.AM
