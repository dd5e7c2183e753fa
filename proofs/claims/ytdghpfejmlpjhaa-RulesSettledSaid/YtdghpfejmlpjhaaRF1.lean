/- s -/
import Derived.Test.YtdghpfejmlpjhaaRL21
import Derived.Test.YtdghpfejmlpjhaaAWq
import Derived.Test.YtdghpfejmlpjhaaChecked
import Derived.Test.YtdghpfejmlpjhaaRKey
import Derived.Test.YtdghpfejmlpjhaaASimJ
import Derived.Test.YtdghpfejmlpjhaaRCon3
import Derived.Test.YtdghpfejmlpjhaaRMT
import Derived.Test.YtdghpfejmlpjhaaRFou
set_option maxRecDepth 100000
set_option linter.unusedVariables false
set_option linter.unusedSimpArgs false
namespace Go.AM
open Go.Proofs
end Go.AM
namespace Go.AM
open Go.Proofs
end Go.AM
namespace Go.AM
open Go.Proofs
end Go.AM
namespace Go.AM
open Go.Proofs
end Go.AM
namespace Go.AM
open Go.Proofs
def XK (fuel:Nat) (a1:(List ruRule)) (a2:(List apiFact)):Option ((List apiFact)×(List apiFact)×Int):=Vy fuel a1 a2
theorem Df (fuel:Nat) (a1:(List ruRule)) (a2:(List apiFact)) (r:((List apiFact)×(List apiFact)×Int)) (h:XK fuel a1 a2=some r):Run Try.prog (.call 28 [l54 none a1,l41 none a2] (.tup [l41 none r.1,l41 none r.2.1,I6 r.2.2])):=.ext0 (Go.Proofs.Try.founded28 h)
def jF (v16:Bool):Option Bool :=
 (some v16)
def jd (v28:Bool):Option Bool :=
 (some v28)
def qV (fuel:Nat) (w7:((List apiFact)×Int)) (w11:((List apiFact)×(List apiFact)×Int)):Option Bool :=
 (bif (w7.2 == 8) then ((XM fuel).bind fun w25=>((jd) w25)) else (bif (w7.2 == 0) then ((Zv w11.1 w7.1).bind fun w26=>(bif w26 then (bif ((w11.2.1.length:Int) == 0) then ((XM fuel).bind fun w27=>((jd) w27)) else ((jd) false)) else ((jd) false))) else ((jd) false)))
def qK (w11:((List apiFact)×(List apiFact)×Int)) (K17:(Option Bool)):List apiFact→Nat→Option Bool
 | [],k1=>K17
 | x1::r1,k1=>((YG w11.1 x1).bind fun w22=>(bif w22 then (some false) else (qK w11 K17 r1 (k1+1))))
def QO (fuel:Nat) (a1:(List rf3Rule)) (a2:(List apiFact)):Option Bool :=
 ((NM a1).bind fun w5=>((Yt a2).bind fun w6=>((Qz fuel w5 w6).bind fun w7=>((NM a1).bind fun w9=>((Yt a2).bind fun w10=>((XK fuel w9 w10).bind fun w11=>(bif (w11.2.2 != 0) then (bif (w7.2 == 2) then (bif (w11.2.2 == 2) then ((XM fuel).bind fun w15=>((jF) w15)) else ((jF) false)) else ((jF) false)) else (chk (lenOk w11.2.1) (qK w11 (qV fuel w7 w11) w11.2.1 0)))))))))
theorem Ve (fuel:Nat) (a1:(List rf3Rule)) (a2:(List apiFact)) (r:Bool) (h:QO fuel a1 a2=some r):Run Try.prog (.call 7 [l94 none a1,l41 none a2] (.bool r)):=by
 refine cW Try.func7 rfl (env0:=[(0,l94 none a1),(1,l41 none a2)]) ?_;unfold QO at h;refine W.seq ?_
 let z0:=fun t=>EN ((0,l94 none a1)::(1,l41 none a2)::t)
 refine W.rt (e2:=z0 []) ?_;refine W.seq ?_;refine W.rg ?_;obtain⟨w5,hw5,h⟩:=qc h
 let z1:=fun t=>z0 ((13,l94 none a1)::(14,l54 (some 14) w5)::t)
 refine WO.ck 1 (F:=18) (l:=[l94 none a1]) (C:=[]) (r:=l54 (some 1) w5) (Di a1 w5 hw5) (e1:=z1 []) ?_;obtain⟨w6,hw6,h⟩:=qc h
 let z2:=fun t=>z1 ((15,l41 none a2)::(16,l41 (some 16) w6)::t)
 refine WO.ck 1 (F:=19) (l:=[l41 none a2]) (C:=[]) (r:=l41 (some 1) w6) (Uh a2 w6 hw6) (e1:=z2 []) ?_;obtain⟨w7,hw7,h⟩:=qc h;refine WO.ck 0 (F:=17) (l:=[l54 none w5,l41 none w6]) (C:=[]) (r:=.tup [l41 none w7.1,I6 w7.2]) (UO fuel w5 w6 w7 hw7) (e1:=z2 [(17,.tup [l41 none w7.1,I6 w7.2])]) ?_
 let z3:=fun t=>z0 ((5,l41 none w7.1)::(6,I6 w7.2)::t)
 refine WO.fn (e2:=z3 []) ?_;refine W.seq ?_;refine W.rg ?_;obtain⟨w9,hw9,h⟩:=qc h
 let z4:=fun t=>z3 ((21,l94 none a1)::(22,l54 (some 22) w9)::t)
 refine WO.ck 1 (F:=18) (l:=[l94 none a1]) (C:=[]) (r:=l54 (some 1) w9) (Di a1 w9 hw9) (e1:=z4 []) ?_;obtain⟨w10,hw10,h⟩:=qc h
 let z5:=fun t=>z4 ((23,l41 none a2)::(24,l41 (some 24) w10)::t)
 refine WO.ck 1 (F:=19) (l:=[l41 none a2]) (C:=[]) (r:=l41 (some 1) w10) (Uh a2 w10 hw10) (e1:=z5 []) ?_;obtain⟨w11,hw11,h⟩:=qc h;refine WO.ck 0 (F:=28) (l:=[l54 none w9,l41 none w10]) (C:=[]) (r:=.tup [l41 none w11.1,l41 none w11.2.1,I6 w11.2.2]) (Df fuel w9 w10 w11 hw11) (e1:=z5 [(25,.tup [l41 none w11.1,l41 none w11.2.1,I6 w11.2.2])]) ?_
 let z6:=fun t=>EN ((5,l41 none w7.1)::(6,I6 w7.2)::(7,l41 none w11.1)::(8,l41 none w11.2.1)::t)
 let z7:=fun t=>z6 ((9,I6 w11.2.2)::t)
 refine WO.fn (e2:=z7 []) ?_;refine W.seq ?_;refine W.seq ?_
 let z8:=fun t=>z7 ((30,.bool (w11.2.2 != 0))::t)
 refine W.rt (e2:=z8 []) ?_;refine W.cb (w11.2.2 != 0) (fun hb=>?_) (fun hb=>?_)
 ·replace h:=qx hb h;refine W.seq ?_;refine W.join (σ:=(Bool)) (fun s=>[(4,.bool s)]) (fun s=>(jF) s=some r) (fun v16 h=>?_) (fun hK14=>?_)
  ·have h:(jF) v16=some r:=h;unfold jF at h;refine W.wk (env':=[(4,.bool v16)]) ?_;cases h;exact W.ret (show qp _ _ _=some _ by kernel_rfl)
  refine W.rg ?_;refine WO.bk 3 (fun b=>z8 [(31,I6 w7.2),(32,.bool b),(33,.bool b)]) (w7.2 == 2) (fun hb=>?_) (fun hb=>?_)
  ·replace h:=qx hb h
   let z9:=fun t=>z8 ((31,I6 w7.2)::(32,.bool true)::(33,.bool true)::(34,I6 w11.2.2)::t)
   refine WO.bk 4 (fun b=>z9 [(35,.bool b),(36,.bool b),(37,.bool b)]) (w11.2.2 == 2) (fun hb=>?_) (fun hb=>?_)
   ·replace h:=qx hb h;obtain⟨w15,hw15,h⟩:=qc h;refine WO.ck 0 (F:=21) (l:=[]) (C:=[]) (r:=.bool w15) (Zb fuel w15 hw15) (e1:=z9 [(35,.bool true),(36,.bool true),(37,.bool true),(38,.bool w15)]) ?_;refine WO.fn (e2:=[(4,.bool w15)]) ?_;exact hK14 w15 h
   replace h:=qy hb h;refine WO.fn (e2:=[(4,.bool false)]) ?_;exact hK14 false h
  replace h:=qy hb h;refine WO.fn (e2:=[(4,.bool false)]) ?_;exact hK14 false h
 replace h:=qy hb h;refine W.skip ?_;refine W.wk (env':=z6 []) ?_;refine W.seq ?_;refine W.join (σ:=Unit) (fun s=>z6 []) (fun s=>(qV fuel w7 w11)=some r) (fun s h=>?_) (fun hK17=>?_)
 ·have h:(qV fuel w7 w11)=some r:=h;unfold qV at h;refine W.seq ?_;refine W.join (σ:=(Bool)) (fun s=>[(4,.bool s)]) (fun s=>(jd) s=some r) (fun v28 h=>?_) (fun hK24=>?_)
  ·have h:(jd) v28=some r:=h;unfold jd at h;refine W.wk (env':=[(4,.bool v28)]) ?_;cases h;exact W.ret (show qp _ _ _=some _ by kernel_rfl)
  refine W.rg ?_
  let z10:=fun t=>z6 ((50,I6 w7.2)::t)
  refine WO.bk 3 (fun b=>z10 [(51,.bool b),(52,.bool b)]) (w7.2 == 8) (fun hb=>?_) (fun hb=>?_)
  ·replace h:=qx hb h;obtain⟨w25,hw25,h⟩:=qc h;refine WO.ck 14 (F:=21) (l:=[]) (C:=[]) (r:=.bool w25) (Zb fuel w25 hw25) (e1:=z10 [(51,.bool true),(52,.bool true),(53,.und),(54,.und),(55,.und),(56,.und),(57,.und),(58,.und),(59,.und),(60,.und),(61,.und),(62,.und),(63,.und),(64,.und),(65,.bool true),(66,.bool true),(67,.bool w25)]) ?_;refine WO.fn (e2:=[(4,.bool w25)]) ?_;exact hK24 w25 h
  replace h:=qy hb h
  let z11:=fun t=>z10 ((51,.bool false)::(52,.bool false)::(53,I6 w7.2)::t)
  refine WO.bk 3 (fun b=>z11 [(54,.bool b),(55,.bool b)]) (w7.2 == 0) (fun hb=>?_) (fun hb=>?_)
  ·replace h:=qx hb h;obtain⟨w26,hw26,h⟩:=qc h
   let z12:=fun t=>z11 ((54,.bool true)::(55,.bool true)::(56,l41 none w11.1)::(57,l41 none w7.1)::t)
   refine WO.ck 2 (F:=23) (l:=[l41 none w11.1,l41 none w7.1]) (C:=[]) (r:=.bool w26) (UQ w11.1 w7.1 w26 hw26) (e1:=z12 [(58,.bool w26)]) ?_;refine WO.bk 2 (fun b=>z12 [(58,.bool b),(59,.bool b),(60,.bool b)]) w26 (fun hb=>?_) (fun hb=>?_)
   ·replace h:=qx hb h
    let z13:=fun t=>z12 ((58,.bool true)::(59,.bool true)::(60,.bool true)::(61,l41 none w11.2.1)::(62,I6 (w11.2.1.length:Int))::t)
    refine WO.pk 1 (some (I6 ((List.map qr w11.2.1).length:Int))) (v:=I6 (w11.2.1.length:Int)) (by rw[List.length_map]) (e1:=z13 []) ?_;refine WO.bk 4 (fun b=>z13 [(63,.bool b),(64,.bool b),(65,.bool b),(66,.bool b)]) ((w11.2.1.length:Int) == 0) (fun hb=>?_) (fun hb=>?_)
    ·replace h:=qx hb h;obtain⟨w27,hw27,h⟩:=qc h;refine WO.ck 0 (F:=21) (l:=[]) (C:=[]) (r:=.bool w27) (Zb fuel w27 hw27) (e1:=z13 [(63,.bool true),(64,.bool true),(65,.bool true),(66,.bool true),(67,.bool w27)]) ?_;refine WO.fn (e2:=[(4,.bool w27)]) ?_;exact hK24 w27 h
    replace h:=qy hb h;refine WO.fn (e2:=[(4,.bool false)]) ?_;exact hK24 false h
   replace h:=qy hb h;refine WO.fn (e2:=[(4,.bool false)]) ?_;exact hK24 false h
  replace h:=qy hb h;refine WO.fn (e2:=[(4,.bool false)]) ?_;exact hK24 false h
 refine W.seq ?_;refine W.rg ?_
 let z14:=fun t=>z6 ((40,l41 none w11.2.1)::(41,I6 (w11.2.1.length:Int))::t)
 refine WO.pk 1 (some (I6 ((List.map qr w11.2.1).length:Int))) (v:=I6 (w11.2.1.length:Int)) (by rw[List.length_map]) (e1:=z14 []) ?_;refine WO.fn (e2:=z14 [(42,.int .i64 0)]) ?_;refine W.block ?_;obtain⟨hl1,h⟩:=qi h;refine W.wk (env':=z14 [(42,I6 ((0:Nat):Int))]) ?_;refine W.range (σ:=Unit) w11.2.1 (fun k1 s=>z14 [(42,I6 (k1:Int))]) (fun r0 k0 s=>qK w11 (qV fuel w7 w11) r0 k0=some r) (fun s h=>?_) (fun x1 r1 k1 s hx1 hk1 h hN1=>?_) () h
 ·have h:qK w11 (qV fuel w7 w11) [] (w11.2.1).length=some r:=h;rw[qK.eq_1]at h;refine W.seq ?_;refine W.rg ?_
  let z15:=fun t=>z14 ((42,I6 ((w11.2.1).length:Int))::(43,.bool false)::t)
  refine WO.pk 0 (some (.bool (decide (((w11.2.1).length:Int)<(w11.2.1.length:Int))))) (v:=.bool false) (by rw[jy (l:=w11.2.1)]) (e1:=z15 []) ?_;refine WO.fn (e2:=z15 []) ?_;refine W.seq ?_;refine W.cb false (fun h=>Bool.noConfusion h) (fun _=>?_);refine W.exit ?_;refine W.wk (env':=z6 []) ?_;exact hK17 () h
 ·have h:qK w11 (qV fuel w7 w11) (x1::r1) k1=some r:=h;rw[qK.eq_2]at h;refine W.seq ?_;refine W.rg ?_
  let z16:=fun t=>z14 ((42,I6 (k1:Int))::t)
  refine WO.pk 0 (some (.bool (decide ((k1:Int)<(w11.2.1.length:Int))))) (v:=.bool true) (by rw[Jm hk1]) (e1:=z16 [(43,.bool true)]) ?_;refine WO.fn (e2:=z16 [(43,.bool true)]) ?_;refine W.seq ?_;refine W.cb true (fun _=>?_) (fun h=>Bool.noConfusion h);refine W.skip ?_;refine W.wk (env':=z16 []) ?_;refine W.seq ?_;refine W.block ?_;refine W.seq ?_;refine W.rg ?_;refine WO.pk 0 (if (0:Int)≤(k1:Int) then ((List.map qr w11.2.1)[Int.toNat (k1:Int)]?).map AV.ptr else none) (v:=.ptr (.agg [I6 x1.qb,l3 none x1.qa])) (Jn (f:=qr) hx1) (e1:=z16 [(44,.ptr (.agg [I6 x1.qb,l3 none x1.qa]))]) ?_
  let z17:=fun t=>z6 ((11,.ptr (.agg [I6 x1.qb,l3 none x1.qa]))::(40,l41 none w11.2.1)::(41,I6 (w11.2.1.length:Int))::(42,I6 (k1:Int))::t)
  refine WO.fin [5,6,7,8,11,40,41,42] [11] [] [] (e2:=z17 []) (by kernel_rfl) (fun _ h=>h) ?_;refine W.seq ?_;refine W.rg ?_;obtain⟨w22,hw22,h⟩:=qc h;refine WO.ck 2 (F:=27) (l:=[l41 none w11.1,.agg [I6 x1.qb,l3 none x1.qa]]) (C:=[]) (r:=.bool w22) (Dh w11.1 x1 w22 hw22) (e1:=z17 [(46,l41 none w11.1),(47,.agg [I6 x1.qb,l3 none x1.qa]),(48,.bool w22)]) ?_;refine WO.fn (e2:=z16 [(48,.bool w22)]) ?_;refine W.cb w22 (fun hb=>?_) (fun hb=>?_)
  ·replace h:=qx hb h;refine W.seq ?_;refine W.rt (e2:=[(4,.bool false)]) ?_;refine W.wk (env':=[(4,.bool false)]) ?_;cases h;exact W.ret (show qp _ _ _=some _ by kernel_rfl)
  replace h:=qy hb h;refine W.skip ?_;refine W.wk (env':=z16 []) ?_;refine W.rg ?_;refine WO.pk 0 (some (I6 (IntKind.wrap .i64 ((k1:Int)+1)))) (v:=I6 ((k1+1:Nat):Int)) (by rw[jg hl1 hk1]) (e1:=z16 [(49,I6 ((k1+1:Nat):Int))]) ?_;refine WO.fn (e2:=z14 [(42,I6 ((k1+1:Nat):Int))]) ?_;exact hN1 () h
end Go.AM
