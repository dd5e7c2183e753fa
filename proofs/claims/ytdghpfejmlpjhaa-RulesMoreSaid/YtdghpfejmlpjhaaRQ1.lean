/- s -/
import Derived.Test.YtdghpfejmlpjhaaRQT
set_option maxRecDepth 100000
set_option linter.unusedVariables false
set_option linter.unusedSimpArgs false
namespace Go.AM
open Go.Proofs
def JA (v27:Bool):Option Bool :=
 (some v27)
def Qf (v38:Bool):Option Bool :=
 (some v38)
def jG (fuel:Nat) (a3:apiFact) (w21:((List apiFact)×Int)):Option Bool :=
 ((XF w21.1 a3).bind fun w36=>(bif w36 then ((XG fuel).bind fun w37=>((Qf) w37)) else ((Qf) false)))
def js (w21:((List apiFact)×Int)) (K28:(Option Bool)):List apiFact→Nat→Option Bool
 | [],k1=>K28
 | x1::r1,k1=>((XF w21.1 x1).bind fun w33=>(bif (!w33) then (some false) else (js w21 K28 r1 (k1+1))))
def Jf (fuel:Nat) (a3:apiFact) (w15:((List apiFact)×Int)) (w21:((List apiFact)×Int)) (v24:Bool):Option Bool :=
 (bif v24 then (bif (w15.2 == 0) then (bif (w21.2 == 2) then ((XG fuel).bind fun w26=>((JA) w26)) else ((JA) false)) else ((JA) false)) else (chk (lenOk w15.1) (js w21 (jG fuel a3 w21) w15.1 0)))
def jT (fuel:Nat) (a1:(List rf3Rule)) (a2:(List apiFact)) (a3:apiFact) (v9:Bool):Option Bool :=
 (bif v9 then ((XG fuel).bind fun w11=>(some w11)) else ((UQ a1).bind fun w13=>((Yi a2).bind fun w14=>((QX fuel w13 w14).bind fun w15=>((UQ a1).bind fun w17=>((Yi a2).bind fun w18=>((ZV a3).bind fun w19=>(chk (capOk 32 ((w18++[w19])).length) ((QX fuel w17 (w18++[w19])).bind fun w21=>(bif (w15.2 != 0) then ((Jf fuel a3 w15 w21) true) else ((Jf fuel a3 w15 w21) (w21.2 != 0))))))))))))
def XO (fuel:Nat) (a1:(List rf3Rule)) (a2:(List apiFact)) (a3:apiFact):Option Bool :=
 ((Zf a1).bind fun w7=>(bif (!w7) then ((jT fuel a1 a2 a3) true) else ((Yh a1 a2).bind fun w8=>((jT fuel a1 a2 a3) (!w8)))))
theorem Uf (fuel:Nat) (a1:(List rf3Rule)) (a2:(List apiFact)) (a3:apiFact) (r:Bool) (h:XO fuel a1 a2 a3=some r):Run Try.prog (.call 5 [l94 none a1,l41 none a2,.agg [I6 a3.qb,l3 none a3.qa]] (.bool r)):=by
 refine cW Try.func5 rfl (env0:=[(0,l94 none a1),(1,l41 none a2),(2,.agg [I6 a3.qb,l3 none a3.qa])]) ?_;unfold XO at h;refine W.seq ?_
 let z0:=fun t=>EN ((0,l94 none a1)::(1,l41 none a2)::(5,.ptr (.agg [I6 a3.qb,l3 none a3.qa]))::t)
 refine W.regT [0,1,5] [5] [] [] (e2:=z0 []) (by kernel_rfl) (by kernel_rfl) (fun _ h=>h) ?_;refine W.seq ?_;refine W.seq ?_;refine W.join (σ:=(Bool)) (fun s=>z0 [(21,.bool s)]) (fun s=>(jT fuel a1 a2 a3) s=some r) (fun v9 h=>?_) (fun hK6=>?_)
 ·have h:(jT fuel a1 a2 a3) v9=some r:=h;unfold jT at h;refine W.cb v9 (fun hb=>?_) (fun hb=>?_)
  ·replace h:=qu hb h;refine W.seq ?_;refine W.rg ?_;obtain⟨w11,hw11,h⟩:=qe h;refine WO.ck 0 (F:=21) (l:=[]) (C:=[]) (r:=.bool w11) (YN fuel w11 hw11) (e1:=z0 [(21,.bool v9),(22,.bool w11)]) ?_;refine WO.fn (e2:=[(6,.bool w11)]) ?_;refine W.wk (env':=[(6,.bool w11)]) ?_;cases h;exact W.ret (show qm _ _ _=some _ by kernel_rfl)
  replace h:=qv hb h;refine W.skip ?_;refine W.wk (env':=z0 []) ?_;refine W.seq ?_;refine W.rg ?_;obtain⟨w13,hw13,h⟩:=qe h
  let z1:=fun t=>z0 ((24,l94 none a1)::(25,l54 (some 25) w13)::t)
  refine WO.ck 1 (F:=18) (l:=[l94 none a1]) (C:=[]) (r:=l54 (some 1) w13) (Yq a1 w13 hw13) (e1:=z1 []) ?_;obtain⟨w14,hw14,h⟩:=qe h
  let z2:=fun t=>z1 ((26,l41 none a2)::(27,l41 (some 27) w14)::t)
  refine WO.ck 1 (F:=19) (l:=[l41 none a2]) (C:=[]) (r:=l41 (some 1) w14) (YO a2 w14 hw14) (e1:=z2 []) ?_;obtain⟨w15,hw15,h⟩:=qe h;refine WO.ck 0 (F:=17) (l:=[l54 none w13,l41 none w14]) (C:=[]) (r:=.tup [l41 none w15.1,I6 w15.2]) (Zq fuel w13 w14 w15 hw15) (e1:=z2 [(28,.tup [l41 none w15.1,I6 w15.2])]) ?_
  let z3:=fun t=>z0 ((7,l41 none w15.1)::(8,I6 w15.2)::t)
  refine WO.fn (e2:=z3 []) ?_;refine W.seq ?_;obtain⟨w17,hw17,h⟩:=qe h;obtain⟨w18,hw18,h⟩:=qe h;obtain⟨w19,hw19,h⟩:=qe h;obtain⟨hc20,h⟩:=qh h;obtain⟨w21,hw21,h⟩:=qe h;refine W.regionA (e1:=z3 [(9,l41 none w21.1),(10,I6 w21.2),(31,.tup [l41 none w21.1,I6 w21.2]),(32,l94 none a1),(33,l54 (some 33) w17),(34,l41 none a2),(35,l41 none w18),(36,.agg [I6 a3.qb,l3 none a3.qa]),(37,.agg [I6 w19.qb,l3 none w19.qa]),(38,l41 (some 38) [w19]),(39,l41 (some 39) (w18++[w19])),(40,.tup [l41 none w21.1,I6 w21.2]),(41,l41 none w21.1),(42,I6 w21.2)]) (by kernel_rfl) ?_ ?_
  ·generalize hall:Array.toList _=all;let y0:Nat×AV:=(0,l94 none a1);let y1:Nat×AV:=(1,l41 none a2);let y2:Nat×AV:=(5,.ptr (.agg [I6 a3.qb,l3 none a3.qa]));let y3:Nat×AV:=(7,l41 none w15.1);let y4:Nat×AV:=(8,I6 w15.2);let y5:Nat×AV:=(32,l94 none a1);let y6:Nat×AV:=(34,l41 none a2);let y7:Nat×AV:=(36,.agg [I6 a3.qb,l3 none a3.qa]);let y8:Nat×AV:=(33,l54 (some 33) w17);let y9:Nat×AV:=(37,.agg [I6 w19.qb,l3 none w19.qa]);let y10:Nat×AV:=(38,l41 (some 38) [w19]);let y11:Nat×AV:=(35,l41 none w18);let y12:Nat×AV:=(39,l41 (some 39) (w18++[w19]));let y13:Nat×AV:=(40,.tup [l41 none w21.1,I6 w21.2]);let y14:Nat×AV:=(31,.tup [l41 none w21.1,I6 w21.2]);let y15:Nat×AV:=(41,l41 none w21.1);let y16:Nat×AV:=(42,I6 w21.2);let y17:Nat×AV:=(9,l41 none w21.1);let y18:Nat×AV:=(10,I6 w21.2);let y19:Nat×AV:=(35,l41 (some 35) w18);have s_:Run Try.prog (.any 75 all [] ([y0,y1,y2,y3,y4,y17,y18,y14,y5,y8,y6,y11,y7,y9,y10,y12,y13,y15,y16]) ([y0,y1,y2,y3,y4,y17,y18,y14,y5,y8,y6,y11,y7,y9,y10,y12,y13,y15,y16])):=.anyNil
   have s_13:Run Try.prog (.any 75 all [13] ([y0,y1,y2,y3,y4,y17,y14,y5,y8,y6,y11,y7,y9,y10,y12,y13,y15,y16]) ([y0,y1,y2,y3,y4,y17,y18,y14,y5,y8,y6,y11,y7,y9,y10,y12,y13,y15,y16])):=by
    subst hall;refine Run.anyC [(13,[y0,y1,y2,y3,y4,y17,y18,y14,y5,y8,y6,y11,y7,y9,y10,y12,y13,y15,y16])] (by kernel_rfl) (by kernel_rfl) ?_ (.cons s_ .nil);refine .cons ?_ (.nil)
    ·refine⟨_,rfl,?_⟩;refine WO.steps 1 (e1:=[y0,y1,y2,y3,y4,y17,y18,y14,y5,y8,y6,y11,y7,y9,y10,y12,y13,y15,y16]) (by kernel_rfl) ?_;exact WO.nil rfl
   have s_12_13:Run Try.prog (.any 75 all [12,13] ([y0,y1,y2,y3,y4,y14,y5,y8,y6,y11,y7,y9,y10,y12,y13,y15,y16]) ([y0,y1,y2,y3,y4,y17,y18,y14,y5,y8,y6,y11,y7,y9,y10,y12,y13,y15,y16])):=by
    subst hall;refine Run.anyC [(12,[y0,y1,y2,y3,y4,y17,y14,y5,y8,y6,y11,y7,y9,y10,y12,y13,y15,y16])] (by kernel_rfl) (by kernel_rfl) ?_ (.cons s_13 .nil);refine .cons ?_ (.nil)
    ·refine⟨_,rfl,?_⟩;refine WO.steps 1 (e1:=[y0,y1,y2,y3,y4,y17,y14,y5,y8,y6,y11,y7,y9,y10,y12,y13,y15,y16]) (by kernel_rfl) ?_;exact WO.nil rfl
   have s_11_13:Run Try.prog (.any 75 all [11,13] ([y0,y1,y2,y3,y4,y17,y14,y5,y8,y6,y11,y7,y9,y10,y12,y13,y15]) ([y0,y1,y2,y3,y4,y17,y18,y14,y5,y8,y6,y11,y7,y9,y10,y12,y13,y15,y16])):=by
    subst hall;refine Run.anyC [(11,[y0,y1,y2,y3,y4,y17,y14,y5,y8,y6,y11,y7,y9,y10,y12,y13,y15,y16])] (by kernel_rfl) (by kernel_rfl) ?_ (.cons s_13 .nil);refine .cons ?_ (.nil)
    ·refine⟨_,rfl,?_⟩;refine WO.steps 1 (e1:=[y0,y1,y2,y3,y4,y17,y14,y5,y8,y6,y11,y7,y9,y10,y12,y13,y15,y16]) (by kernel_rfl) ?_;exact WO.nil rfl
   have s_11_12_13:Run Try.prog (.any 75 all [11,12,13] ([y0,y1,y2,y3,y4,y14,y5,y8,y6,y11,y7,y9,y10,y12,y13,y15]) ([y0,y1,y2,y3,y4,y17,y18,y14,y5,y8,y6,y11,y7,y9,y10,y12,y13,y15,y16])):=by
    subst hall;refine Run.anyC [(11,[y0,y1,y2,y3,y4,y14,y5,y8,y6,y11,y7,y9,y10,y12,y13,y15,y16]),(12,[y0,y1,y2,y3,y4,y17,y14,y5,y8,y6,y11,y7,y9,y10,y12,y13,y15])] (by kernel_rfl) (by kernel_rfl) ?_ (.cons s_12_13 (.cons s_11_13 .nil));refine .cons ?_ (.cons ?_ (.nil))
    ·refine⟨_,rfl,?_⟩;refine WO.steps 1 (e1:=[y0,y1,y2,y3,y4,y14,y5,y8,y6,y11,y7,y9,y10,y12,y13,y15,y16]) (by kernel_rfl) ?_;exact WO.nil rfl
    ·refine⟨_,rfl,?_⟩;refine WO.steps 1 (e1:=[y0,y1,y2,y3,y4,y17,y14,y5,y8,y6,y11,y7,y9,y10,y12,y13,y15]) (by kernel_rfl) ?_;exact WO.nil rfl
   have s_10_12_13:Run Try.prog (.any 75 all [10,12,13] ([y0,y1,y2,y3,y4,y14,y5,y8,y6,y11,y7,y9,y10,y12,y13,y16]) ([y0,y1,y2,y3,y4,y17,y18,y14,y5,y8,y6,y11,y7,y9,y10,y12,y13,y15,y16])):=by
    subst hall;refine Run.anyC [(10,[y0,y1,y2,y3,y4,y14,y5,y8,y6,y11,y7,y9,y10,y12,y13,y15,y16])] (by kernel_rfl) (by kernel_rfl) ?_ (.cons s_12_13 .nil);refine .cons ?_ (.nil)
    ·refine⟨_,rfl,?_⟩;refine WO.steps 1 (e1:=[y0,y1,y2,y3,y4,y14,y5,y8,y6,y11,y7,y9,y10,y12,y13,y15,y16]) (by kernel_rfl) ?_;exact WO.nil rfl
   have s_10_11_12_13:Run Try.prog (.any 75 all [10,11,12,13] ([y0,y1,y2,y3,y4,y14,y5,y8,y6,y11,y7,y9,y10,y12,y13]) ([y0,y1,y2,y3,y4,y17,y18,y14,y5,y8,y6,y11,y7,y9,y10,y12,y13,y15,y16])):=by
    subst hall;refine Run.anyC [(10,[y0,y1,y2,y3,y4,y14,y5,y8,y6,y11,y7,y9,y10,y12,y13,y15]),(11,[y0,y1,y2,y3,y4,y14,y5,y8,y6,y11,y7,y9,y10,y12,y13,y16])] (by kernel_rfl) (by kernel_rfl) ?_ (.cons s_11_12_13 (.cons s_10_12_13 .nil));refine .cons ?_ (.cons ?_ (.nil))
    ·refine⟨_,rfl,?_⟩;refine WO.steps 1 (e1:=[y0,y1,y2,y3,y4,y14,y5,y8,y6,y11,y7,y9,y10,y12,y13,y15]) (by kernel_rfl) ?_;exact WO.nil rfl
    ·refine⟨_,rfl,?_⟩;refine WO.steps 1 (e1:=[y0,y1,y2,y3,y4,y14,y5,y8,y6,y11,y7,y9,y10,y12,y13,y16]) (by kernel_rfl) ?_;exact WO.nil rfl
   have s_9_10_11_12_13:Run Try.prog (.any 75 all [9,10,11,12,13] ([y0,y1,y2,y3,y4,y5,y8,y6,y11,y7,y9,y10,y12,y13]) ([y0,y1,y2,y3,y4,y17,y18,y14,y5,y8,y6,y11,y7,y9,y10,y12,y13,y15,y16])):=by
    subst hall;refine Run.anyC [(9,[y0,y1,y2,y3,y4,y14,y5,y8,y6,y11,y7,y9,y10,y12,y13])] (by kernel_rfl) (by kernel_rfl) ?_ (.cons s_10_11_12_13 .nil);refine .cons ?_ (.nil)
    ·refine⟨_,rfl,?_⟩;refine WO.steps 1 (e1:=[y0,y1,y2,y3,y4,y14,y5,y8,y6,y11,y7,y9,y10,y12,y13]) (by kernel_rfl) ?_;exact WO.nil rfl
   have s_8_9_10_11_12_13:Run Try.prog (.any 75 all [8,9,10,11,12,13] ([y0,y1,y2,y3,y4,y5,y8,y6,y11,y7,y9,y10,y12]) ([y0,y1,y2,y3,y4,y17,y18,y14,y5,y8,y6,y11,y7,y9,y10,y12,y13,y15,y16])):=by
    subst hall;refine Run.anyC [(8,[y0,y1,y2,y3,y4,y5,y8,y6,y11,y7,y9,y10,y12,y13])] (by kernel_rfl) (by kernel_rfl) ?_ (.cons s_9_10_11_12_13 .nil);refine .cons ?_ (.nil)
    ·refine⟨_,rfl,?_⟩;refine WO.ck 0 (F:=17) (l:=[l54 none w17,l41 none (w18++[w19])]) (C:=[]) (r:=.tup [l41 none w21.1,I6 w21.2]) (Zq fuel w17 (w18++[w19]) w21 hw21) (e1:=[y0,y1,y2,y3,y4,y5,y8,y6,y11,y7,y9,y10,y12,y13]) ?_;exact WO.nil rfl
   have s_7_8_9_10_11_12_13:Run Try.prog (.any 75 all [7,8,9,10,11,12,13] ([y0,y1,y2,y3,y4,y5,y8,y6,y19,y7,y9,y10]) ([y0,y1,y2,y3,y4,y17,y18,y14,y5,y8,y6,y11,y7,y9,y10,y12,y13,y15,y16])):=by
    subst hall;refine Run.anyC [(7,[y0,y1,y2,y3,y4,y5,y8,y6,y11,y7,y9,y10,y12])] (by kernel_rfl) (by kernel_rfl) ?_ (.cons s_8_9_10_11_12_13 .nil);refine .cons ?_ (.nil)
    ·refine⟨_,rfl,?_⟩;refine WO.appendK 0 (d:=39) (e:=41) (s:=2) (bytes:=32) (xs:=(List.map qr w18)) (ys:=(List.map qr [w19])) (zs:=(List.map qr (w18++[w19]))) (env1:=[y0,y1,y2,y3,y4,y5,y8,y6,y11,y7,y9,y10]) (by kernel_rfl) (List.map_append.symm) (by rw[List.length_map];exact hc20) (e1:=[y0,y1,y2,y3,y4,y5,y8,y6,y11,y7,y9,y10,y12]) (by kernel_rfl) ?_;exact WO.nil rfl
   have s_6_7_8_9_10_11_12_13:Run Try.prog (.any 75 all [6,7,8,9,10,11,12,13] ([y0,y1,y2,y3,y4,y5,y8,y6,y19,y7,y9]) ([y0,y1,y2,y3,y4,y17,y18,y14,y5,y8,y6,y11,y7,y9,y10,y12,y13,y15,y16])):=by
    subst hall;refine Run.anyC [(6,[y0,y1,y2,y3,y4,y5,y8,y6,y19,y7,y9,y10])] (by kernel_rfl) (by kernel_rfl) ?_ (.cons s_7_8_9_10_11_12_13 .nil);refine .cons ?_ (.nil)
    ·refine⟨_,rfl,?_⟩;refine WO.steps 1 (e1:=[y0,y1,y2,y3,y4,y5,y8,y6,y19,y7,y9,y10]) (by kernel_rfl) ?_;exact WO.nil rfl
   have s_5_6_7_8_9_10_11_12_13:Run Try.prog (.any 75 all [5,6,7,8,9,10,11,12,13] ([y0,y1,y2,y3,y4,y5,y8,y6,y19,y7]) ([y0,y1,y2,y3,y4,y17,y18,y14,y5,y8,y6,y11,y7,y9,y10,y12,y13,y15,y16])):=by
    subst hall;refine Run.anyC [(5,[y0,y1,y2,y3,y4,y5,y8,y6,y19,y7,y9])] (by kernel_rfl) (by kernel_rfl) ?_ (.cons s_6_7_8_9_10_11_12_13 .nil);refine .cons ?_ (.nil)
    ·refine⟨_,rfl,?_⟩;refine WO.ck 0 (F:=26) (l:=[.agg [I6 a3.qb,l3 none a3.qa]]) (C:=[]) (r:=.agg [I6 w19.qb,l3 none w19.qa]) (qaz a3 w19 hw19) (e1:=[y0,y1,y2,y3,y4,y5,y8,y6,y19,y7,y9]) ?_;exact WO.nil rfl
   have s_4_5_6_7_8_9_10_11_12_13:Run Try.prog (.any 75 all [4,5,6,7,8,9,10,11,12,13] ([y0,y1,y2,y3,y4,y5,y8,y6,y19]) ([y0,y1,y2,y3,y4,y17,y18,y14,y5,y8,y6,y11,y7,y9,y10,y12,y13,y15,y16])):=by
    subst hall;refine Run.anyC [(4,[y0,y1,y2,y3,y4,y5,y8,y6,y19,y7])] (by kernel_rfl) (by kernel_rfl) ?_ (.cons s_5_6_7_8_9_10_11_12_13 .nil);refine .cons ?_ (.nil)
    ·refine⟨_,rfl,?_⟩;refine WO.steps 1 (e1:=[y0,y1,y2,y3,y4,y5,y8,y6,y19,y7]) (by kernel_rfl) ?_;exact WO.nil rfl
   have s_3_5_6_7_8_9_10_11_12_13:Run Try.prog (.any 75 all [3,5,6,7,8,9,10,11,12,13] ([y0,y1,y2,y3,y4,y5,y8,y6,y7]) ([y0,y1,y2,y3,y4,y17,y18,y14,y5,y8,y6,y11,y7,y9,y10,y12,y13,y15,y16])):=by
    subst hall;refine Run.anyC [(3,[y0,y1,y2,y3,y4,y5,y8,y6,y19,y7])] (by kernel_rfl) (by kernel_rfl) ?_ (.cons s_5_6_7_8_9_10_11_12_13 .nil);refine .cons ?_ (.nil)
    ·refine⟨_,rfl,?_⟩;refine WO.ck 0 (F:=19) (l:=[l41 none a2]) (C:=[]) (r:=l41 (some 1) w18) (YO a2 w18 hw18) (e1:=[y0,y1,y2,y3,y4,y5,y8,y6,y19,y7]) ?_;exact WO.nil rfl
   have s_3_4_5_6_7_8_9_10_11_12_13:Run Try.prog (.any 75 all [3,4,5,6,7,8,9,10,11,12,13] ([y0,y1,y2,y3,y4,y5,y8,y6]) ([y0,y1,y2,y3,y4,y17,y18,y14,y5,y8,y6,y11,y7,y9,y10,y12,y13,y15,y16])):=by
    subst hall;refine Run.anyC [(3,[y0,y1,y2,y3,y4,y5,y8,y6,y19]),(4,[y0,y1,y2,y3,y4,y5,y8,y6,y7])] (by kernel_rfl) (by kernel_rfl) ?_ (.cons s_4_5_6_7_8_9_10_11_12_13 (.cons s_3_5_6_7_8_9_10_11_12_13 .nil));refine .cons ?_ (.cons ?_ (.nil))
    ·refine⟨_,rfl,?_⟩;refine WO.ck 0 (F:=19) (l:=[l41 none a2]) (C:=[]) (r:=l41 (some 1) w18) (YO a2 w18 hw18) (e1:=[y0,y1,y2,y3,y4,y5,y8,y6,y19]) ?_;exact WO.nil rfl
    ·refine⟨_,rfl,?_⟩;refine WO.steps 1 (e1:=[y0,y1,y2,y3,y4,y5,y8,y6,y7]) (by kernel_rfl) ?_;exact WO.nil rfl
   have s_2_3_5_6_7_8_9_10_11_12_13:Run Try.prog (.any 75 all [2,3,5,6,7,8,9,10,11,12,13] ([y0,y1,y2,y3,y4,y5,y8,y7]) ([y0,y1,y2,y3,y4,y17,y18,y14,y5,y8,y6,y11,y7,y9,y10,y12,y13,y15,y16])):=by
    subst hall;refine Run.anyC [(2,[y0,y1,y2,y3,y4,y5,y8,y6,y7])] (by kernel_rfl) (by kernel_rfl) ?_ (.cons s_3_5_6_7_8_9_10_11_12_13 .nil);refine .cons ?_ (.nil)
    ·refine⟨_,rfl,?_⟩;refine WO.steps 1 (e1:=[y0,y1,y2,y3,y4,y5,y8,y6,y7]) (by kernel_rfl) ?_;exact WO.nil rfl
   have s_1_3_5_6_7_8_9_10_11_12_13:Run Try.prog (.any 75 all [1,3,5,6,7,8,9,10,11,12,13] ([y0,y1,y2,y3,y4,y5,y6,y7]) ([y0,y1,y2,y3,y4,y17,y18,y14,y5,y8,y6,y11,y7,y9,y10,y12,y13,y15,y16])):=by
    subst hall;refine Run.anyC [(1,[y0,y1,y2,y3,y4,y5,y8,y6,y7])] (by kernel_rfl) (by kernel_rfl) ?_ (.cons s_3_5_6_7_8_9_10_11_12_13 .nil);refine .cons ?_ (.nil)
    ·refine⟨_,rfl,?_⟩;refine WO.ck 0 (F:=18) (l:=[l94 none a1]) (C:=[]) (r:=l54 (some 1) w17) (Yq a1 w17 hw17) (e1:=[y0,y1,y2,y3,y4,y5,y8,y6,y7]) ?_;exact WO.nil rfl
   have s_2_3_4_5_6_7_8_9_10_11_12_13:Run Try.prog (.any 75 all [2,3,4,5,6,7,8,9,10,11,12,13] ([y0,y1,y2,y3,y4,y5,y8]) ([y0,y1,y2,y3,y4,y17,y18,y14,y5,y8,y6,y11,y7,y9,y10,y12,y13,y15,y16])):=by
    subst hall;refine Run.anyC [(2,[y0,y1,y2,y3,y4,y5,y8,y6]),(4,[y0,y1,y2,y3,y4,y5,y8,y7])] (by kernel_rfl) (by kernel_rfl) ?_ (.cons s_3_4_5_6_7_8_9_10_11_12_13 (.cons s_2_3_5_6_7_8_9_10_11_12_13 .nil));refine .cons ?_ (.cons ?_ (.nil))
    ·refine⟨_,rfl,?_⟩;refine WO.steps 1 (e1:=[y0,y1,y2,y3,y4,y5,y8,y6]) (by kernel_rfl) ?_;exact WO.nil rfl
    ·refine⟨_,rfl,?_⟩;refine WO.steps 1 (e1:=[y0,y1,y2,y3,y4,y5,y8,y7]) (by kernel_rfl) ?_;exact WO.nil rfl
   have s_1_3_4_5_6_7_8_9_10_11_12_13:Run Try.prog (.any 75 all [1,3,4,5,6,7,8,9,10,11,12,13] ([y0,y1,y2,y3,y4,y5,y6]) ([y0,y1,y2,y3,y4,y17,y18,y14,y5,y8,y6,y11,y7,y9,y10,y12,y13,y15,y16])):=by
    subst hall;refine Run.anyC [(1,[y0,y1,y2,y3,y4,y5,y8,y6]),(4,[y0,y1,y2,y3,y4,y5,y6,y7])] (by kernel_rfl) (by kernel_rfl) ?_ (.cons s_3_4_5_6_7_8_9_10_11_12_13 (.cons s_1_3_5_6_7_8_9_10_11_12_13 .nil));refine .cons ?_ (.cons ?_ (.nil))
    ·refine⟨_,rfl,?_⟩;refine WO.ck 0 (F:=18) (l:=[l94 none a1]) (C:=[]) (r:=l54 (some 1) w17) (Yq a1 w17 hw17) (e1:=[y0,y1,y2,y3,y4,y5,y8,y6]) ?_;exact WO.nil rfl
    ·refine⟨_,rfl,?_⟩;refine WO.steps 1 (e1:=[y0,y1,y2,y3,y4,y5,y6,y7]) (by kernel_rfl) ?_;exact WO.nil rfl
   have s_1_2_3_5_6_7_8_9_10_11_12_13:Run Try.prog (.any 75 all [1,2,3,5,6,7,8,9,10,11,12,13] ([y0,y1,y2,y3,y4,y5,y7]) ([y0,y1,y2,y3,y4,y17,y18,y14,y5,y8,y6,y11,y7,y9,y10,y12,y13,y15,y16])):=by
    subst hall;refine Run.anyC [(1,[y0,y1,y2,y3,y4,y5,y8,y7]),(2,[y0,y1,y2,y3,y4,y5,y6,y7])] (by kernel_rfl) (by kernel_rfl) ?_ (.cons s_2_3_5_6_7_8_9_10_11_12_13 (.cons s_1_3_5_6_7_8_9_10_11_12_13 .nil));refine .cons ?_ (.cons ?_ (.nil))
    ·refine⟨_,rfl,?_⟩;refine WO.ck 0 (F:=18) (l:=[l94 none a1]) (C:=[]) (r:=l54 (some 1) w17) (Yq a1 w17 hw17) (e1:=[y0,y1,y2,y3,y4,y5,y8,y7]) ?_;exact WO.nil rfl
    ·refine⟨_,rfl,?_⟩;refine WO.steps 1 (e1:=[y0,y1,y2,y3,y4,y5,y6,y7]) (by kernel_rfl) ?_;exact WO.nil rfl
   have s_0_1_3_5_6_7_8_9_10_11_12_13:Run Try.prog (.any 75 all [0,1,3,5,6,7,8,9,10,11,12,13] ([y0,y1,y2,y3,y4,y6,y7]) ([y0,y1,y2,y3,y4,y17,y18,y14,y5,y8,y6,y11,y7,y9,y10,y12,y13,y15,y16])):=by
    subst hall;refine Run.anyC [(0,[y0,y1,y2,y3,y4,y5,y6,y7])] (by kernel_rfl) (by kernel_rfl) ?_ (.cons s_1_3_5_6_7_8_9_10_11_12_13 .nil);refine .cons ?_ (.nil)
    ·refine⟨_,rfl,?_⟩;refine WO.steps 1 (e1:=[y0,y1,y2,y3,y4,y5,y6,y7]) (by kernel_rfl) ?_;exact WO.nil rfl
   have s_1_2_3_4_5_6_7_8_9_10_11_12_13:Run Try.prog (.any 75 all [1,2,3,4,5,6,7,8,9,10,11,12,13] ([y0,y1,y2,y3,y4,y5]) ([y0,y1,y2,y3,y4,y17,y18,y14,y5,y8,y6,y11,y7,y9,y10,y12,y13,y15,y16])):=by
    subst hall;refine Run.anyC [(1,[y0,y1,y2,y3,y4,y5,y8]),(2,[y0,y1,y2,y3,y4,y5,y6]),(4,[y0,y1,y2,y3,y4,y5,y7])] (by kernel_rfl) (by kernel_rfl) ?_ (.cons s_2_3_4_5_6_7_8_9_10_11_12_13 (.cons s_1_3_4_5_6_7_8_9_10_11_12_13 (.cons s_1_2_3_5_6_7_8_9_10_11_12_13 .nil)));refine .cons ?_ (.cons ?_ (.cons ?_ (.nil)))
    ·refine⟨_,rfl,?_⟩;refine WO.ck 0 (F:=18) (l:=[l94 none a1]) (C:=[]) (r:=l54 (some 1) w17) (Yq a1 w17 hw17) (e1:=[y0,y1,y2,y3,y4,y5,y8]) ?_;exact WO.nil rfl
    ·refine⟨_,rfl,?_⟩;refine WO.steps 1 (e1:=[y0,y1,y2,y3,y4,y5,y6]) (by kernel_rfl) ?_;exact WO.nil rfl
    ·refine⟨_,rfl,?_⟩;refine WO.steps 1 (e1:=[y0,y1,y2,y3,y4,y5,y7]) (by kernel_rfl) ?_;exact WO.nil rfl
   have s_0_1_3_4_5_6_7_8_9_10_11_12_13:Run Try.prog (.any 75 all [0,1,3,4,5,6,7,8,9,10,11,12,13] ([y0,y1,y2,y3,y4,y6]) ([y0,y1,y2,y3,y4,y17,y18,y14,y5,y8,y6,y11,y7,y9,y10,y12,y13,y15,y16])):=by
    subst hall;refine Run.anyC [(0,[y0,y1,y2,y3,y4,y5,y6]),(4,[y0,y1,y2,y3,y4,y6,y7])] (by kernel_rfl) (by kernel_rfl) ?_ (.cons s_1_3_4_5_6_7_8_9_10_11_12_13 (.cons s_0_1_3_5_6_7_8_9_10_11_12_13 .nil));refine .cons ?_ (.cons ?_ (.nil))
    ·refine⟨_,rfl,?_⟩;refine WO.steps 1 (e1:=[y0,y1,y2,y3,y4,y5,y6]) (by kernel_rfl) ?_;exact WO.nil rfl
    ·refine⟨_,rfl,?_⟩;refine WO.steps 1 (e1:=[y0,y1,y2,y3,y4,y6,y7]) (by kernel_rfl) ?_;exact WO.nil rfl
   have s_0_1_2_3_5_6_7_8_9_10_11_12_13:Run Try.prog (.any 75 all [0,1,2,3,5,6,7,8,9,10,11,12,13] ([y0,y1,y2,y3,y4,y7]) ([y0,y1,y2,y3,y4,y17,y18,y14,y5,y8,y6,y11,y7,y9,y10,y12,y13,y15,y16])):=by
    subst hall;refine Run.anyC [(0,[y0,y1,y2,y3,y4,y5,y7]),(2,[y0,y1,y2,y3,y4,y6,y7])] (by kernel_rfl) (by kernel_rfl) ?_ (.cons s_1_2_3_5_6_7_8_9_10_11_12_13 (.cons s_0_1_3_5_6_7_8_9_10_11_12_13 .nil));refine .cons ?_ (.cons ?_ (.nil))
    ·refine⟨_,rfl,?_⟩;refine WO.steps 1 (e1:=[y0,y1,y2,y3,y4,y5,y7]) (by kernel_rfl) ?_;exact WO.nil rfl
    ·refine⟨_,rfl,?_⟩;refine WO.steps 1 (e1:=[y0,y1,y2,y3,y4,y6,y7]) (by kernel_rfl) ?_;exact WO.nil rfl
   have s_0_1_2_3_4_5_6_7_8_9_10_11_12_13:Run Try.prog (.any 75 all [0,1,2,3,4,5,6,7,8,9,10,11,12,13] ([y0,y1,y2,y3,y4]) ([y0,y1,y2,y3,y4,y17,y18,y14,y5,y8,y6,y11,y7,y9,y10,y12,y13,y15,y16])):=by
    subst hall;refine Run.anyC [(0,[y0,y1,y2,y3,y4,y5]),(2,[y0,y1,y2,y3,y4,y6]),(4,[y0,y1,y2,y3,y4,y7])] (by kernel_rfl) (by kernel_rfl) ?_ (.cons s_1_2_3_4_5_6_7_8_9_10_11_12_13 (.cons s_0_1_3_4_5_6_7_8_9_10_11_12_13 (.cons s_0_1_2_3_5_6_7_8_9_10_11_12_13 .nil)));refine .cons ?_ (.cons ?_ (.cons ?_ (.nil)))
    ·refine⟨_,rfl,?_⟩;refine WO.steps 1 (e1:=[y0,y1,y2,y3,y4,y5]) (by kernel_rfl) ?_;exact WO.nil rfl
    ·refine⟨_,rfl,?_⟩;refine WO.steps 1 (e1:=[y0,y1,y2,y3,y4,y6]) (by kernel_rfl) ?_;exact WO.nil rfl
    ·refine⟨_,rfl,?_⟩;refine WO.steps 1 (e1:=[y0,y1,y2,y3,y4,y7]) (by kernel_rfl) ?_;exact WO.nil rfl
   exact s_0_1_2_3_4_5_6_7_8_9_10_11_12_13
  let z4:=fun t=>EN ((5,.ptr (.agg [I6 a3.qb,l3 none a3.qa]))::t)
  let z5:=fun t=>z4 ((7,l41 none w15.1)::(8,I6 w15.2)::(9,l41 none w21.1)::(10,I6 w21.2)::t)
  refine WO.fn (e2:=z5 []) ?_;refine W.seq ?_;refine W.seq ?_;refine W.join (σ:=(Bool)) (fun s=>z5 [(48,.bool s)]) (fun s=>(Jf fuel a3 w15 w21) s=some r) (fun v24 h=>?_) (fun hK23=>?_)
  ·have h:(Jf fuel a3 w15 w21) v24=some r:=h;unfold Jf at h;refine W.cb v24 (fun hb=>?_) (fun hb=>?_)
   ·replace h:=qu hb h;refine W.seq ?_;refine W.join (σ:=(Bool)) (fun s=>[(6,.bool s)]) (fun s=>(JA) s=some r) (fun v27 h=>?_) (fun hK25=>?_)
    ·have h:(JA) v27=some r:=h;unfold JA at h;refine W.wk (env':=[(6,.bool v27)]) ?_;cases h;exact W.ret (show qm _ _ _=some _ by kernel_rfl)
    refine W.rg ?_
    let z6:=fun t=>z5 ((48,.bool v24)::(49,I6 w15.2)::t)
    refine WO.bk 3 (fun b=>z6 [(50,.bool b),(51,.bool b)]) (w15.2 == 0) (fun hb=>?_) (fun hb=>?_)
    ·replace h:=qu hb h
     let z7:=fun t=>z6 ((50,.bool true)::(51,.bool true)::(52,I6 w21.2)::t)
     refine WO.bk 4 (fun b=>z7 [(53,.bool b),(54,.bool b),(55,.bool b)]) (w21.2 == 2) (fun hb=>?_) (fun hb=>?_)
     ·replace h:=qu hb h;obtain⟨w26,hw26,h⟩:=qe h;refine WO.ck 0 (F:=21) (l:=[]) (C:=[]) (r:=.bool w26) (YN fuel w26 hw26) (e1:=z7 [(53,.bool true),(54,.bool true),(55,.bool true),(56,.bool w26)]) ?_;refine WO.fn (e2:=[(6,.bool w26)]) ?_;exact hK25 w26 h
     replace h:=qv hb h;refine WO.fn (e2:=[(6,.bool false)]) ?_;exact hK25 false h
    replace h:=qv hb h;refine WO.fn (e2:=[(6,.bool false)]) ?_;exact hK25 false h
   replace h:=qv hb h;refine W.skip ?_
   let z8:=fun t=>z4 ((7,l41 none w15.1)::(9,l41 none w21.1)::t)
   refine W.wk (env':=z8 []) ?_;refine W.seq ?_
   let z9:=fun t=>z4 ((9,l41 none w21.1)::t)
   refine W.join (σ:=Unit) (fun s=>z9 []) (fun s=>(jG fuel a3 w21)=some r) (fun s h=>?_) (fun hK28=>?_)
   ·have h:(jG fuel a3 w21)=some r:=h;unfold jG at h;refine W.seq ?_;refine W.join (σ:=(Bool)) (fun s=>[(6,.bool s)]) (fun s=>(Qf) s=some r) (fun v38 h=>?_) (fun hK35=>?_)
    ·have h:(Qf) v38=some r:=h;unfold Qf at h;refine W.wk (env':=[(6,.bool v38)]) ?_;cases h;exact W.ret (show qm _ _ _=some _ by kernel_rfl)
    refine W.rg ?_;obtain⟨w36,hw36,h⟩:=qe h
    let z10:=fun t=>z9 ((69,l41 none w21.1)::(70,.agg [I6 a3.qb,l3 none a3.qa])::t)
    refine WO.ck 2 (F:=27) (l:=[l41 none w21.1,.agg [I6 a3.qb,l3 none a3.qa]]) (C:=[]) (r:=.bool w36) (ZM w21.1 a3 w36 hw36) (e1:=z10 [(71,.bool w36)]) ?_;refine WO.bk 1 (fun b=>z10 [(71,.bool b),(72,.bool b)]) w36 (fun hb=>?_) (fun hb=>?_)
    ·replace h:=qu hb h;obtain⟨w37,hw37,h⟩:=qe h;refine WO.ck 0 (F:=21) (l:=[]) (C:=[]) (r:=.bool w37) (YN fuel w37 hw37) (e1:=z10 [(71,.bool true),(72,.bool true),(73,.bool w37)]) ?_;refine WO.fn (e2:=[(6,.bool w37)]) ?_;exact hK35 w37 h
    replace h:=qv hb h;refine WO.fn (e2:=[(6,.bool false)]) ?_;exact hK35 false h
   refine W.seq ?_;refine W.rg ?_;refine WO.pk 1 (some (I6 ((List.map qr w15.1).length:Int))) (v:=I6 (w15.1.length:Int)) (by rw[List.length_map]) (e1:=z8 [(58,l41 none w15.1),(59,I6 (w15.1.length:Int))]) ?_
   let z11:=fun t=>z9 ((58,l41 none w15.1)::(59,I6 (w15.1.length:Int))::t)
   refine WO.fn (e2:=z11 [(60,.int .i64 0)]) ?_;refine W.block ?_;obtain⟨hl1,h⟩:=qh h;refine W.wk (env':=z11 [(60,I6 ((0:Nat):Int))]) ?_;refine W.range (σ:=Unit) w15.1 (fun k1 s=>z11 [(60,I6 (k1:Int))]) (fun r0 k0 s=>js w21 (jG fuel a3 w21) r0 k0=some r) (fun s h=>?_) (fun x1 r1 k1 s hx1 hk1 h hN1=>?_) () h
   ·have h:js w21 (jG fuel a3 w21) [] (w15.1).length=some r:=h;rw[js.eq_1]at h;refine W.seq ?_;refine W.rg ?_
    let z12:=fun t=>z11 ((60,I6 ((w15.1).length:Int))::(61,.bool false)::t)
    refine WO.pk 0 (some (.bool (decide (((w15.1).length:Int)<(w15.1.length:Int))))) (v:=.bool false) (by rw[qQ (l:=w15.1)]) (e1:=z12 []) ?_;refine WO.fn (e2:=z12 []) ?_;refine W.seq ?_;refine W.cb false (fun h=>Bool.noConfusion h) (fun _=>?_);refine W.exit ?_;refine W.wk (env':=z9 []) ?_;exact hK28 () h
   ·have h:js w21 (jG fuel a3 w21) (x1::r1) k1=some r:=h;rw[js.eq_2]at h;refine W.seq ?_;refine W.rg ?_
    let z13:=fun t=>z11 ((60,I6 (k1:Int))::t)
    refine WO.pk 0 (some (.bool (decide ((k1:Int)<(w15.1.length:Int))))) (v:=.bool true) (by rw[jk hk1]) (e1:=z13 [(61,.bool true)]) ?_;refine WO.fn (e2:=z13 [(61,.bool true)]) ?_;refine W.seq ?_;refine W.cb true (fun _=>?_) (fun h=>Bool.noConfusion h);refine W.skip ?_;refine W.wk (env':=z13 []) ?_;refine W.seq ?_;refine W.block ?_;refine W.seq ?_;refine W.rg ?_;refine WO.pk 0 (if (0:Int)≤(k1:Int) then ((List.map qr w15.1)[Int.toNat (k1:Int)]?).map AV.ptr else none) (v:=.ptr (.agg [I6 x1.qb,l3 none x1.qa])) (jl (f:=qr) hx1) (e1:=z13 [(62,.ptr (.agg [I6 x1.qb,l3 none x1.qa]))]) ?_
    let z14:=fun t=>z9 ((12,.ptr (.agg [I6 x1.qb,l3 none x1.qa]))::(58,l41 none w15.1)::(59,I6 (w15.1.length:Int))::(60,I6 (k1:Int))::t)
    refine WO.fin [5,9,12,58,59,60] [12] [] [] (e2:=z14 []) (by kernel_rfl) (fun _ h=>h) ?_;refine W.seq ?_;refine W.rg ?_;obtain⟨w33,hw33,h⟩:=qe h;refine WO.ck 2 (F:=27) (l:=[l41 none w21.1,.agg [I6 x1.qb,l3 none x1.qa]]) (C:=[]) (r:=.bool w33) (ZM w21.1 x1 w33 hw33) (e1:=z14 [(64,l41 none w21.1),(65,.agg [I6 x1.qb,l3 none x1.qa]),(66,.bool w33)]) ?_;refine WO.fn (e2:=z13 [(67,.bool (!w33))]) ?_;refine W.cb (!w33) (fun hb=>?_) (fun hb=>?_)
    ·replace h:=qu hb h;refine W.seq ?_;refine W.rt (e2:=[(6,.bool false)]) ?_;refine W.wk (env':=[(6,.bool false)]) ?_;cases h;exact W.ret (show qm _ _ _=some _ by kernel_rfl)
    replace h:=qv hb h;refine W.skip ?_;refine W.wk (env':=z13 []) ?_;refine W.rg ?_;refine WO.pk 0 (some (I6 (IntKind.wrap .i64 ((k1:Int)+1)))) (v:=I6 ((k1+1:Nat):Int)) (by rw[qE hl1 hk1]) (e1:=z13 [(68,I6 ((k1+1:Nat):Int))]) ?_;refine WO.fn (e2:=z11 [(60,I6 ((k1+1:Nat):Int))]) ?_;exact hN1 () h
  refine W.rg ?_;refine WO.bk 3 (fun b=>z5 [(43,I6 w15.2),(44,.bool b),(45,.bool b)]) (w15.2 != 0) (fun hb=>?_) (fun hb=>?_)
  ·replace h:=qu hb h;refine WO.fn (e2:=z5 [(48,.bool true)]) ?_;exact hK23 true h
  replace h:=qv hb h;refine WO.fn (e2:=z5 [(48,.bool (w21.2 != 0))]) ?_;exact hK23 (w21.2 != 0) h
 refine W.rg ?_;obtain⟨w7,hw7,h⟩:=qe h
 let z15:=fun t=>z0 ((13,l94 none a1)::(14,.bool w7)::t)
 refine WO.ck 1 (F:=25) (l:=[l94 none a1]) (C:=[]) (r:=.bool w7) (HZ a1 w7 hw7) (e1:=z15 []) ?_;refine WO.bk 2 (fun b=>z15 [(15,.bool b),(16,.bool b)]) (!w7) (fun hb=>?_) (fun hb=>?_)
 ·replace h:=qu hb h;refine WO.fn (e2:=z0 [(21,.bool true)]) ?_;exact hK6 true h
 replace h:=qv hb h;obtain⟨w8,hw8,h⟩:=qe h;refine WO.ck 2 (F:=20) (l:=[l94 none a1,l41 none a2]) (C:=[]) (r:=.bool w8) (HY a1 a2 w8 hw8) (e1:=z15 [(15,.bool false),(16,.bool false),(17,l94 none a1),(18,l41 none a2),(19,.bool w8)]) ?_;refine WO.fn (e2:=z0 [(21,.bool (!w8))]) ?_;exact hK6 (!w8) h
end Go.AM
