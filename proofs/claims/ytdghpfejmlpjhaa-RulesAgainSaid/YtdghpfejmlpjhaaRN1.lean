/- s -/
import Derived.Test.YtdghpfejmlpjhaaAWq
import Derived.Test.YtdghpfejmlpjhaaChecked
import Derived.Test.YtdghpfejmlpjhaaAAny
import Derived.Test.YtdghpfejmlpjhaaAArr
import Derived.Test.YtdghpfejmlpjhaaRCon3
import Derived.Test.YtdghpfejmlpjhaaRKey
import Derived.Test.YtdghpfejmlpjhaaRList
import Derived.Test.YtdghpfejmlpjhaaRM1
set_option maxRecDepth 100000
set_option linter.unusedVariables false
set_option linter.unusedSimpArgs false
namespace Go.AM
open Go.Proofs
end Go.AM
namespace Go.AM
open Go.Proofs
def jB (v16:Bool):Option Bool :=
 (some v16)
def Jc (v23:Bool):Option Bool :=
 (some v23)
def jk (fuel:Nat) (a1:(List rf3Rule)) (w7:((List apiFact)×Int)) (v11:Bool):Option Bool :=
 (bif v11 then (bif (w7.2 == 0) then ((Xr fuel).bind fun w13=>((jB) w13)) else (bif (w7.2 == 2) then ((Xr fuel).bind fun w14=>((jB) w14)) else (bif (w7.2 == 8) then ((Xr fuel).bind fun w15=>((jB) w15)) else ((jB) false)))) else ((lw3_Of a1).bind fun w18=>((JN fuel w18 w7.1).bind fun w19=>(bif (w19.2 == 0) then ((Zo w7.1 w19.1).bind fun w21=>(bif w21 then ((Xr fuel).bind fun w22=>((Jc) w22)) else ((Jc) false))) else ((Jc) false)))))
def XB (fuel:Nat) (a1:(List rf3Rule)) (a2:(List apiFact)):Option Bool :=
 ((lw3_Of a1).bind fun w5=>((Zp a2).bind fun w6=>((JN fuel w5 w6).bind fun w7=>(bif (w7.2 != 0) then ((jk fuel a1 w7) true) else ((Zj a1).bind fun w10=>(bif (!w10) then ((jk fuel a1 w7) true) else ((jk fuel a1 w7) (decide ((w7.1.length:Int) > 20)))))))))
theorem run_lw3_RulesAgain (fuel:Nat) (a1:(List rf3Rule)) (a2:(List apiFact)) (r:Bool) (h:XB fuel a1 a2=some r):Run Try.prog (.call 4 [l94 none a1,l41 none a2] (.bool r)):=by
 refine cW Try.func4 rfl (env0:=[(0,l94 none a1),(1,l41 none a2)]) ?_;unfold XB at h;refine W.seq ?_
 let z0:=fun t=>EN ((0,l94 none a1)::t)
 let z1:=fun t=>z0 ((1,l41 none a2)::t)
 refine W.rt (e2:=z1 []) ?_;refine W.seq ?_;refine W.rg ?_;obtain⟨w5,hw5,h⟩:=qc h
 let z2:=fun t=>z1 ((9,l94 none a1)::(10,l54 (some 10) w5)::t)
 refine WO.ck 1 (F:=18) (l:=[l94 none a1]) (C:=[]) (r:=l54 (some 1) w5) (run_lw3_Of a1 w5 hw5) (e1:=z2 []) ?_;obtain⟨w6,hw6,h⟩:=qc h
 let z3:=fun t=>z2 ((11,l41 none a2)::(12,l41 (some 12) w6)::t)
 refine WO.ck 1 (F:=19) (l:=[l41 none a2]) (C:=[]) (r:=l41 (some 1) w6) (run_lw2_Facts a2 w6 hw6) (e1:=z3 []) ?_;obtain⟨w7,hw7,h⟩:=qc h;refine WO.ck 0 (F:=17) (l:=[l54 none w5,l41 none w6]) (C:=[]) (r:=.tup [l41 none w7.1,I6 w7.2]) (Zx fuel w5 w6 w7 hw7) (e1:=z3 [(13,.tup [l41 none w7.1,I6 w7.2])]) ?_
 let z4:=fun t=>z0 ((5,l41 none w7.1)::(6,I6 w7.2)::t)
 refine WO.fn (e2:=z4 []) ?_;refine W.seq ?_;refine W.seq ?_;refine W.join (σ:=(Bool)) (fun s=>z4 [(27,.bool s)]) (fun s=>(jk fuel a1 w7) s=some r) (fun v11 h=>?_) (fun hK9=>?_)
 ·have h:(jk fuel a1 w7) v11=some r:=h;unfold jk at h;refine W.cb v11 (fun hb=>?_) (fun hb=>?_)
  ·replace h:=qz hb h;refine W.seq ?_;refine W.join (σ:=(Bool)) (fun s=>[(4,.bool s)]) (fun s=>(jB) s=some r) (fun v16 h=>?_) (fun hK12=>?_)
   ·have h:(jB) v16=some r:=h;unfold jB at h;refine W.wk (env':=[(4,.bool v16)]) ?_;cases h;exact W.ret (show qq _ _ _=some _ by kernel_rfl)
   refine W.rg ?_
   let z5:=fun t=>z4 ((27,.bool v11)::(28,I6 w7.2)::t)
   refine WO.bk 3 (fun b=>z5 [(29,.bool b),(30,.bool b)]) (w7.2 == 0) (fun hb=>?_) (fun hb=>?_)
   ·replace h:=qz hb h;obtain⟨w13,hw13,h⟩:=qc h;refine WO.ck 8 (F:=21) (l:=[]) (C:=[]) (r:=.bool w13) (XO fuel w13 hw13) (e1:=z5 [(29,.bool true),(30,.bool true),(31,.und),(32,.und),(33,.bool true),(34,.bool true),(35,.und),(36,.und),(37,.bool true),(38,.bool true),(39,.bool w13)]) ?_;refine WO.fn (e2:=[(4,.bool w13)]) ?_;exact hK12 w13 h
   replace h:=qA hb h
   let z6:=fun t=>z5 ((29,.bool false)::(30,.bool false)::(31,I6 w7.2)::t)
   refine WO.bk 4 (fun b=>z6 [(32,.bool b),(33,.bool b),(34,.bool b)]) (w7.2 == 2) (fun hb=>?_) (fun hb=>?_)
   ·replace h:=qz hb h;obtain⟨w14,hw14,h⟩:=qc h;refine WO.ck 4 (F:=21) (l:=[]) (C:=[]) (r:=.bool w14) (XO fuel w14 hw14) (e1:=z6 [(32,.bool true),(33,.bool true),(34,.bool true),(35,.und),(36,.und),(37,.bool true),(38,.bool true),(39,.bool w14)]) ?_;refine WO.fn (e2:=[(4,.bool w14)]) ?_;exact hK12 w14 h
   replace h:=qA hb h
   let z7:=fun t=>z6 ((32,.bool false)::(33,.bool false)::(34,.bool false)::(35,I6 w7.2)::t)
   refine WO.bk 4 (fun b=>z7 [(36,.bool b),(37,.bool b),(38,.bool b)]) (w7.2 == 8) (fun hb=>?_) (fun hb=>?_)
   ·replace h:=qz hb h;obtain⟨w15,hw15,h⟩:=qc h;refine WO.ck 0 (F:=21) (l:=[]) (C:=[]) (r:=.bool w15) (XO fuel w15 hw15) (e1:=z7 [(36,.bool true),(37,.bool true),(38,.bool true),(39,.bool w15)]) ?_;refine WO.fn (e2:=[(4,.bool w15)]) ?_;exact hK12 w15 h
   replace h:=qA hb h;refine WO.fn (e2:=[(4,.bool false)]) ?_;exact hK12 false h
  replace h:=qA hb h;refine W.skip ?_
  let z8:=fun t=>z0 ((5,l41 none w7.1)::t)
  refine W.wk (env':=z8 []) ?_;refine W.seq ?_;refine W.rg ?_;obtain⟨w18,hw18,h⟩:=qc h
  let z9:=fun t=>z8 ((42,l94 none a1)::(43,l54 (some 43) w18)::t)
  refine WO.ck 1 (F:=18) (l:=[l94 none a1]) (C:=[]) (r:=l54 (some 1) w18) (run_lw3_Of a1 w18 hw18) (e1:=z9 []) ?_;obtain⟨w19,hw19,h⟩:=qc h;refine WO.ck 1 (F:=17) (l:=[l54 none w18,l41 none w7.1]) (C:=[]) (r:=.tup [l41 none w19.1,I6 w19.2]) (Zx fuel w18 w7.1 w19 hw19) (e1:=z9 [(44,l41 none w7.1),(45,.tup [l41 none w19.1,I6 w19.2])]) ?_
  let z10:=fun t=>EN ((5,l41 none w7.1)::(6,I6 w19.2)::(7,l41 none w19.1)::t)
  refine WO.fn (e2:=z10 []) ?_;refine W.seq ?_;refine W.join (σ:=(Bool)) (fun s=>[(4,.bool s)]) (fun s=>(Jc) s=some r) (fun v23 h=>?_) (fun hK20=>?_)
  ·have h:(Jc) v23=some r:=h;unfold Jc at h;refine W.wk (env':=[(4,.bool v23)]) ?_;cases h;exact W.ret (show qq _ _ _=some _ by kernel_rfl)
  refine W.rg ?_
  let z11:=fun t=>z10 ((48,I6 w19.2)::t)
  refine WO.bk 3 (fun b=>z11 [(49,.bool b),(50,.bool b)]) (w19.2 == 0) (fun hb=>?_) (fun hb=>?_)
  ·replace h:=qz hb h;obtain⟨w21,hw21,h⟩:=qc h
   let z12:=fun t=>z11 ((49,.bool true)::(50,.bool true)::(51,l41 none w7.1)::(52,l41 none w19.1)::t)
   refine WO.ck 2 (F:=23) (l:=[l41 none w7.1,l41 none w19.1]) (C:=[]) (r:=.bool w21) (run_lw2_Same w7.1 w19.1 w21 hw21) (e1:=z12 [(53,.bool w21)]) ?_;refine WO.bk 2 (fun b=>z12 [(53,.bool b),(54,.bool b),(55,.bool b)]) w21 (fun hb=>?_) (fun hb=>?_)
   ·replace h:=qz hb h;obtain⟨w22,hw22,h⟩:=qc h;refine WO.ck 0 (F:=21) (l:=[]) (C:=[]) (r:=.bool w22) (XO fuel w22 hw22) (e1:=z12 [(53,.bool true),(54,.bool true),(55,.bool true),(56,.bool w22)]) ?_;refine WO.fn (e2:=[(4,.bool w22)]) ?_;exact hK20 w22 h
   replace h:=qA hb h;refine WO.fn (e2:=[(4,.bool false)]) ?_;exact hK20 false h
  replace h:=qA hb h;refine WO.fn (e2:=[(4,.bool false)]) ?_;exact hK20 false h
 refine W.rg ?_
 let z13:=fun t=>z4 ((16,I6 w7.2)::t)
 refine WO.bk 3 (fun b=>z13 [(17,.bool b),(18,.bool b)]) (w7.2 != 0) (fun hb=>?_) (fun hb=>?_)
 ·replace h:=qz hb h;refine WO.fn (e2:=z4 [(27,.bool true)]) ?_;exact hK9 true h
 replace h:=qA hb h;obtain⟨w10,hw10,h⟩:=qc h
 let z14:=fun t=>z13 ((17,.bool false)::(18,.bool false)::(19,l94 none a1)::(20,.bool w10)::t)
 refine WO.ck 1 (F:=25) (l:=[l94 none a1]) (C:=[]) (r:=.bool w10) (run_rf3_Plain a1 w10 hw10) (e1:=z14 []) ?_;refine WO.bk 3 (fun b=>z14 [(21,.bool b),(22,.bool b),(23,.bool b)]) (!w10) (fun hb=>?_) (fun hb=>?_)
 ·replace h:=qz hb h;refine WO.fn (e2:=z4 [(27,.bool true)]) ?_;exact hK9 true h
 replace h:=qA hb h;refine WO.pk 1 (some (I6 ((List.map qv w7.1).length:Int))) (v:=I6 (w7.1.length:Int)) (by rw[List.length_map]) (e1:=z14 [(21,.bool false),(22,.bool false),(23,.bool false),(24,l41 none w7.1),(25,I6 (w7.1.length:Int))]) ?_;refine WO.fn (e2:=z4 [(27,.bool (decide ((w7.1.length:Int) > 20)))]) ?_;exact hK9 (decide ((w7.1.length:Int) > 20)) h
end Go.AM
