/- s -/
import Derived.Test.YtdghpfejmlpjhaaRL21
import Derived.Test.YtdghpfejmlpjhaaAWq
import Derived.Test.YtdghpfejmlpjhaaChecked
import Derived.Test.YtdghpfejmlpjhaaRAT
import Derived.Test.YtdghpfejmlpjhaaAArr
import Derived.Test.YtdghpfejmlpjhaaASimJ
import Derived.Test.YtdghpfejmlpjhaaRCon3
import Derived.Test.YtdghpfejmlpjhaaRMT
import Derived.Test.YtdghpfejmlpjhaaRFou
set_option maxRecDepth 100000
set_option linter.unusedVariables false
set_option linter.unusedSimpArgs false
namespace Go.AM
open Go.Proofs
end Go.AM
namespace Go.AM
open Go.Proofs
end Go.AM
namespace Go.AM
open Go.Proofs
end Go.AM
namespace Go.AM
open Go.Proofs
end Go.AM
namespace Go.AM
open Go.Proofs
def Yt (fuel:Nat) (a1:(List ruRule)) (a2:(List apiFact)):Option ((List apiFact)×(List apiFact)×Int):=VM fuel a1 a2
theorem Dx (fuel:Nat) (a1:(List ruRule)) (a2:(List apiFact)) (r:((List apiFact)×(List apiFact)×Int)) (h:Yt fuel a1 a2=some r):Run Try.prog (.call 28 [l54 none a1,l41 none a2] (.tup [l41 none r.1,l41 none r.2.1,I6 r.2.2])):=.ext0 (Go.Proofs.Try.founded28 h)
def Jp (v13:Bool):Option Bool :=
 (some v13)
def jP (v26:Bool):Option Bool :=
 (some v26)
def Xx (fuel:Nat) (a1:(List rf3Rule)) (a2:(List apiFact)):Option Bool :=
 ((DL a1).bind fun w5=>((ZT a2).bind fun w6=>((Yt fuel w5 w6).bind fun w7=>((YY a1 a2).bind fun w10=>(bif (!w10) then (bif ((IntKind.wrap .i64 ((w7.1.length:Int)+(w7.2.1.length:Int))) == 0) then (bif (w7.2.2 == 2) then ((Zb fuel).bind fun w12=>((Jp) w12)) else ((Jp) false)) else ((Jp) false)) else ((YJ fuel a1 a2).bind fun w15=>(chk (decide (w15.1.length=252∧(List.replicate 252 false).length=252)) (chk (decide (w15.2.length=252∧(List.replicate 252 false).length=252)) (chk (decide (w15.1.length=252)) ((Yh fuel w15.1).bind fun w20=>((Zo w7.1 w20).bind fun w21=>(bif w21 then (chk (decide (w15.2.length=252)) ((Yh fuel w15.2).bind fun w23=>((Zo w7.2.1 w23).bind fun w24=>(bif w24 then (bif (w7.2.2 == 0) then ((Zb fuel).bind fun w25=>((jP) w25)) else ((jP) false)) else ((jP) false))))) else ((jP) false)))))))))))))
theorem Vz (fuel:Nat) (a1:(List rf3Rule)) (a2:(List apiFact)) (r:Bool) (h:Xx fuel a1 a2=some r):Run Try.prog (.call 6 [l94 none a1,l41 none a2] (.bool r)):=by
 refine cW Try.func6 rfl (env0:=[(0,l94 none a1),(1,l41 none a2)]) ?_;unfold Xx at h;refine W.seq ?_
 let z0:=fun t=>EN ((0,l94 none a1)::(1,l41 none a2)::t)
 refine W.rt (e2:=z0 []) ?_;refine W.seq ?_;refine W.rg ?_;obtain⟨w5,hw5,h⟩:=qd h
 let z1:=fun t=>z0 ((11,l94 none a1)::(12,l54 (some 12) w5)::t)
 refine WO.ck 1 (F:=18) (l:=[l94 none a1]) (C:=[]) (r:=l54 (some 1) w5) (qee a1 w5 hw5) (e1:=z1 []) ?_;obtain⟨w6,hw6,h⟩:=qd h
 let z2:=fun t=>z1 ((13,l41 none a2)::(14,l41 (some 14) w6)::t)
 refine WO.ck 1 (F:=19) (l:=[l41 none a2]) (C:=[]) (r:=l41 (some 1) w6) (qaA a2 w6 hw6) (e1:=z2 []) ?_;obtain⟨w7,hw7,h⟩:=qd h;refine WO.ck 0 (F:=28) (l:=[l54 none w5,l41 none w6]) (C:=[]) (r:=.tup [l41 none w7.1,l41 none w7.2.1,I6 w7.2.2]) (Dx fuel w5 w6 w7 hw7) (e1:=z2 [(15,.tup [l41 none w7.1,l41 none w7.2.1,I6 w7.2.2])]) ?_
 let z3:=fun t=>z0 ((5,l41 none w7.1)::(6,l41 none w7.2.1)::(7,I6 w7.2.2)::t)
 refine WO.fn (e2:=z3 []) ?_;refine W.seq ?_;refine W.seq ?_;refine W.rg ?_;obtain⟨w10,hw10,h⟩:=qd h;refine WO.ck 2 (F:=20) (l:=[l94 none a1,l41 none a2]) (C:=[]) (r:=.bool w10) (qay a1 a2 w10 hw10) (e1:=z3 [(19,l94 none a1),(20,l41 none a2),(21,.bool w10)]) ?_
 let z4:=fun t=>z3 ((22,.bool (!w10))::t)
 refine WO.fn (e2:=z4 []) ?_;refine W.cb (!w10) (fun hb=>?_) (fun hb=>?_)
 ·replace h:=qo hb h;refine W.seq ?_;refine W.join (σ:=(Bool)) (fun s=>[(4,.bool s)]) (fun s=>(Jp) s=some r) (fun v13 h=>?_) (fun hK11=>?_)
  ·have h:(Jp) v13=some r:=h;unfold Jp at h;refine W.wk (env':=[(4,.bool v13)]) ?_;cases h;exact W.ret (show qj _ _ _=some _ by kernel_rfl)
  refine W.rg ?_
  let z5:=fun t=>z4 ((23,l41 none w7.1)::(24,I6 (w7.1.length:Int))::t)
  refine WO.pk 1 (some (I6 ((List.map qA w7.1).length:Int))) (v:=I6 (w7.1.length:Int)) (by rw[List.length_map]) (e1:=z5 []) ?_
  let z6:=fun t=>z5 ((25,l41 none w7.2.1)::(26,I6 (w7.2.1.length:Int))::t)
  refine WO.pk 1 (some (I6 ((List.map qA w7.2.1).length:Int))) (v:=I6 (w7.2.1.length:Int)) (by rw[List.length_map]) (e1:=z6 []) ?_
  let z7:=fun t=>z6 ((27,I6 (W6 ((w7.1.length:Int)+(w7.2.1.length:Int))))::t)
  refine WO.bk 3 (fun b=>z7 [(28,.bool b),(29,.bool b)]) ((W6 ((w7.1.length:Int)+(w7.2.1.length:Int))) == 0) (fun hb=>?_) (fun hb=>?_)
  ·replace h:=qo hb h
   let z8:=fun t=>z7 ((28,.bool true)::(29,.bool true)::(30,I6 w7.2.2)::t)
   refine WO.bk 4 (fun b=>z8 [(31,.bool b),(32,.bool b),(33,.bool b)]) (w7.2.2 == 2) (fun hb=>?_) (fun hb=>?_)
   ·replace h:=qo hb h;obtain⟨w12,hw12,h⟩:=qd h;refine WO.ck 0 (F:=21) (l:=[]) (C:=[]) (r:=.bool w12) (Ux fuel w12 hw12) (e1:=z8 [(31,.bool true),(32,.bool true),(33,.bool true),(34,.bool w12)]) ?_;refine WO.fn (e2:=[(4,.bool w12)]) ?_;exact hK11 w12 h
   replace h:=qp hb h;refine WO.fn (e2:=[(4,.bool false)]) ?_;exact hK11 false h
  replace h:=qp hb h;refine WO.fn (e2:=[(4,.bool false)]) ?_;exact hK11 false h
 replace h:=qp hb h;refine W.skip ?_;refine W.wk (env':=z3 []) ?_;refine W.seq ?_;refine W.rg ?_;obtain⟨w15,hw15,h⟩:=qd h;refine WO.ck 2 (F:=29) (l:=[l94 none a1,l41 none a2]) (C:=[]) (r:=.tup [.agg (List.map AV.bool w15.1),.agg (List.map AV.bool w15.2)]) (Dc fuel a1 a2 w15 hw15) (e1:=z3 [(37,l94 none a1),(38,l41 none a2),(39,.tup [.agg (List.map AV.bool w15.1),.agg (List.map AV.bool w15.2)])]) ?_;refine WO.steps 4 (e1:=z3 [(8,.box z252),(36,.tup [.agg (List.map AV.bool w15.1),.agg (List.map AV.bool w15.2)]),(37,l94 none a1),(38,l41 none a2),(39,.tup [.agg (List.map AV.bool w15.1),.agg (List.map AV.bool w15.2)]),(40,.agg (List.map AV.bool w15.1)),(41,.agg (List.map AV.bool w15.2))]) (by kernel_rfl) ?_
 let z9:=fun t=>z3 ((8,.pb 1000008 0)::t)
 refine WO.mv [.arr 8] (env':=z9 [(36,.tup [.agg (List.map AV.bool w15.1),.agg (List.map AV.bool w15.2)]),(37,l94 none a1),(38,l41 none a2),(39,.tup [.agg (List.map AV.bool w15.1),.agg (List.map AV.bool w15.2)]),(40,.agg (List.map AV.bool w15.1)),(41,.agg (List.map AV.bool w15.2)),(1000008,.hob 3 [] (List.map AV.bool (List.replicate 252 false)))]) (by kernel_rfl) ?_;refine WO.steps 1 (e1:=z9 [(9,.box z252),(36,.tup [.agg (List.map AV.bool w15.1),.agg (List.map AV.bool w15.2)]),(37,l94 none a1),(38,l41 none a2),(39,.tup [.agg (List.map AV.bool w15.1),.agg (List.map AV.bool w15.2)]),(40,.agg (List.map AV.bool w15.1)),(41,.agg (List.map AV.bool w15.2)),(1000008,.hob 3 [] (List.map AV.bool (List.replicate 252 false)))]) (by kernel_rfl) ?_
 let z10:=fun t=>z9 ((9,.pb 1000009 0)::(36,.tup [.agg (List.map AV.bool w15.1),.agg (List.map AV.bool w15.2)])::(37,l94 none a1)::(38,l41 none a2)::(39,.tup [.agg (List.map AV.bool w15.1),.agg (List.map AV.bool w15.2)])::(40,.agg (List.map AV.bool w15.1))::(41,.agg (List.map AV.bool w15.2))::t)
 refine WO.mv [.arr 9] (env':=z10 [(1000008,.hob 3 [] (List.map AV.bool (List.replicate 252 false))),(1000009,.hob 3 [] (List.map AV.bool (List.replicate 252 false)))]) (by kernel_rfl) ?_;obtain⟨hc16,h⟩:=qg h
 let z11:=fun t=>z10 ((1000008,.hob 3 [] (List.map AV.bool w15.1))::t)
 refine WO.storeA (enc:=AV.bool) (l:=w15.1) (l':=(List.replicate 252 false)) (s:=1000008) (sz:=252) 0 qu hc16 (e1:=z11 [(1000009,.hob 3 [] (List.map AV.bool (List.replicate 252 false)))]) ?_;obtain⟨hc17,h⟩:=qg h;refine WO.storeA (enc:=AV.bool) (l:=w15.2) (l':=(List.replicate 252 false)) (s:=1000009) (sz:=252) 0 qu hc17 (e1:=z11 [(1000009,.hob 3 [] (List.map AV.bool w15.2))]) ?_
 let z12:=fun t=>EN ((5,l41 none w7.1)::(6,l41 none w7.2.1)::(7,I6 w7.2.2)::(8,.pb 1000008 0)::(9,.pb 1000009 0)::t)
 refine WO.fn (e2:=z12 [(1000008,.hob 3 [] (List.map AV.bool w15.1)),(1000009,.hob 3 [] (List.map AV.bool w15.2))]) ?_;refine W.seq ?_;refine W.join (σ:=(Bool)) (fun s=>[(4,.bool s)]) (fun s=>(jP) s=some r) (fun v26 h=>?_) (fun hK18=>?_)
 ·have h:(jP) v26=some r:=h;unfold jP at h;refine W.wk (env':=[(4,.bool v26)]) ?_;cases h;exact W.ret (show qj _ _ _=some _ by kernel_rfl)
 refine W.rg ?_;obtain⟨hc19,h⟩:=qg h
 let z13:=fun t=>z12 ((42,l41 none w7.1)::(43,.agg (List.map AV.bool w15.1))::t)
 refine WO.pk 1 (cut Try.prog 33 (List.map AV.bool w15.1) 0) (v:=.agg (List.map AV.bool w15.1)) (qC qu (sz:=252) (by kernel_rfl) (of_decide_eq_true hc19)) (e1:=z13 [(1000008,.hob 3 [] (List.map AV.bool w15.1)),(1000009,.hob 3 [] (List.map AV.bool w15.2))]) ?_;obtain⟨w20,hw20,h⟩:=qd h
 let z14:=fun t=>z13 ((44,l41 (some 44) w20)::t)
 refine WO.ck 0 (F:=24) (l:=[.agg (List.map AV.bool w15.1)]) (C:=[]) (r:=l41 (some 1) w20) (Nf fuel w15.1 w20 hw20) (e1:=z14 [(1000008,.hob 3 [] (List.map AV.bool w15.1)),(1000009,.hob 3 [] (List.map AV.bool w15.2))]) ?_;obtain⟨w21,hw21,h⟩:=qd h;refine WO.ck 0 (F:=23) (l:=[l41 none w7.1,l41 none w20]) (C:=[]) (r:=.bool w21) (Vd w7.1 w20 w21 hw21) (e1:=z14 [(45,.bool w21),(1000008,.hob 3 [] (List.map AV.bool w15.1)),(1000009,.hob 3 [] (List.map AV.bool w15.2))]) ?_;refine WO.bk 1 (fun b=>z14 [(45,.bool b),(46,.bool b),(1000008,.hob 3 [] (List.map AV.bool w15.1)),(1000009,.hob 3 [] (List.map AV.bool w15.2))]) w21 (fun hb=>?_) (fun hb=>?_)
 ·replace h:=qo hb h;obtain⟨hc22,h⟩:=qg h
  let z15:=fun t=>z14 ((45,.bool true)::(46,.bool true)::(47,l41 none w7.2.1)::(48,.agg (List.map AV.bool w15.2))::t)
  refine WO.pk 1 (cut Try.prog 33 (List.map AV.bool w15.2) 0) (v:=.agg (List.map AV.bool w15.2)) (qC qu (sz:=252) (by kernel_rfl) (of_decide_eq_true hc22)) (e1:=z15 [(1000008,.hob 3 [] (List.map AV.bool w15.1)),(1000009,.hob 3 [] (List.map AV.bool w15.2))]) ?_;obtain⟨w23,hw23,h⟩:=qd h
  let z16:=fun t=>z15 ((49,l41 (some 49) w23)::t)
  refine WO.ck 0 (F:=24) (l:=[.agg (List.map AV.bool w15.2)]) (C:=[]) (r:=l41 (some 1) w23) (Nf fuel w15.2 w23 hw23) (e1:=z16 [(1000008,.hob 3 [] (List.map AV.bool w15.1)),(1000009,.hob 3 [] (List.map AV.bool w15.2))]) ?_;obtain⟨w24,hw24,h⟩:=qd h;refine WO.ck 0 (F:=23) (l:=[l41 none w7.2.1,l41 none w23]) (C:=[]) (r:=.bool w24) (Vd w7.2.1 w23 w24 hw24) (e1:=z16 [(50,.bool w24),(1000008,.hob 3 [] (List.map AV.bool w15.1)),(1000009,.hob 3 [] (List.map AV.bool w15.2))]) ?_;refine WO.bk 2 (fun b=>z16 [(50,.bool b),(51,.bool b),(52,.bool b),(1000008,.hob 3 [] (List.map AV.bool w15.1)),(1000009,.hob 3 [] (List.map AV.bool w15.2))]) w24 (fun hb=>?_) (fun hb=>?_)
  ·replace h:=qo hb h
   let z17:=fun t=>z16 ((50,.bool true)::(51,.bool true)::(52,.bool true)::(53,I6 w7.2.2)::t)
   refine WO.bk 4 (fun b=>z17 [(54,.bool b),(55,.bool b),(56,.bool b),(1000008,.hob 3 [] (List.map AV.bool w15.1)),(1000009,.hob 3 [] (List.map AV.bool w15.2))]) (w7.2.2 == 0) (fun hb=>?_) (fun hb=>?_)
   ·replace h:=qo hb h;obtain⟨w25,hw25,h⟩:=qd h;refine WO.ck 0 (F:=21) (l:=[]) (C:=[]) (r:=.bool w25) (Ux fuel w25 hw25) (e1:=z17 [(54,.bool true),(55,.bool true),(56,.bool true),(57,.bool w25),(1000008,.hob 3 [] (List.map AV.bool w15.1)),(1000009,.hob 3 [] (List.map AV.bool w15.2))]) ?_;refine WO.fn (e2:=[(4,.bool w25)]) ?_;exact hK18 w25 h
   replace h:=qp hb h;refine WO.fn (e2:=[(4,.bool false)]) ?_;exact hK18 false h
  replace h:=qp hb h;refine WO.fn (e2:=[(4,.bool false)]) ?_;exact hK18 false h
 replace h:=qp hb h;refine WO.fn (e2:=[(4,.bool false)]) ?_;exact hK18 false h
end Go.AM
namespace Go.AM
open Go.Proofs Go.Sort
open Classical
theorem LeastR.anti {L:List ruRule} {N N' G X X':rufact→Prop} (h:LeastR L N G X) (h':LeastR L N' G X') (hN:∀ g,N g→N' g):∀ g,X' g→X g :=
 h'.least X h.sub fun r hr w hi hf=>h.closed r hr w hi fun x hx hn hy=>hf x hx hn (hN _ hy)
theorem qgC {S T:List Bool} (hS:S.length=252) (hT:T.length=252) (h:∀ g,setB S g↔setB T g):S=T:=by
 refine List.ext_getElem (by rw[hS,hT]) fun n h1 h2=>?_
 have hn:n<252:=by omega
 have hg:=h (decF n);unfold setB at hg;rw[Yq hn]at hg
 have e1:S.getD n false=S[n]:=by rw[List.getD_eq_getElem?_getD,List.getElem?_eq_getElem h1];rfl
 have e2:T.getD n false=T[n]:=by rw[List.getD_eq_getElem?_getD,List.getElem?_eq_getElem h2];rfl
 rw[e1,e2]at hg;have h3:S[n]=true↔T[n]=true:=⟨fun q=>(hg.1 ⟨Uo hn,q⟩).2,fun q=>(hg.2 ⟨Uo hn,q⟩).2⟩;cases hs:S[n] <;> cases ht:T[n] <;> simp_all
theorem dec252 {k:Nat} (h:k<252):decide ((0:Int)≤(k:Int)∧(k:Int)<((252:Nat):Int))=true:=decide_eq_true ⟨by omega,by omega⟩
theorem dec252a {k:Nat} (h:k<252):decide ((0:Int)≤(k:Int)∧(k:Int)<((252:Nat):Int)∧0<1)=true:=decide_eq_true ⟨by omega,by omega,by omega⟩
theorem qfY {S:List Bool} {k:Nat} (hk:k<S.length) (b:Bool) (i:Nat):(S.set k b).getD i false=if i=k then b else S.getD i false:=by
 rw[List.getD_eq_getElem?_getD,List.getD_eq_getElem?_getD,List.getElem?_set]
 by_cases h:k=i
 ·subst h;rw[if_pos rfl,if_pos hk,if_pos rfl];rfl
 ·rw[if_neg h,if_neg (Ne.symm h)]
theorem DZ {t:List Bool} (ht:t.length=252) (K:List Bool→Option (List Bool×List Bool)):∀ (r:List Nat) (k:Nat) (u:List Bool),u.length=252→k+r.length=252→∃ u',jk t K r k u=K u'∧u'.length=252∧∀ i,u'.getD i false=if k≤i then (u.getD i false && !t.getD i false) else u.getD i false
 | [],k,u,hu,hk=>by
  refine⟨u,by rw[jk],hu,fun i=>?_⟩
  split
  ·rename_i h
   have hk:k=252:=by simpa using hk
   rw[List.getD_eq_getElem?_getD,List.getElem?_eq_none (by omega)];rfl
  ·rfl
 | x::r,k,u,hu,hk=>by
  rw[List.length_cons]at hk
  have hk2:k<252:=by omega
  have e1:t[Int.toNat (k:Int) * 1]? = some (t.getD k false):=by
   rw[Int.toNat_natCast,Nat.mul_one,List.getD_eq_getElem?_getD,List.getElem?_eq_getElem (by omega)];rfl
  have e2:u[0+Int.toNat (k:Int) * 1]? = some (u.getD k false):=by
   rw[Int.toNat_natCast,Nat.mul_one,Nat.zero_add,List.getD_eq_getElem?_getD,List.getElem?_eq_getElem (by omega)];rfl
  have e3:decide ((0+Int.toNat (k:Int) * 1)<u.length)=true:=decide_eq_true (by rw[Int.toNat_natCast];omega)
  have e4:0+Int.toNat (k:Int) * 1=k:=by rw[Int.toNat_natCast];omega
  obtain⟨u',a1,a2,a3⟩:=DZ ht K r (k+1) (u.set k (u.getD k false && !t.getD k false)) (by rw[List.length_set];exact hu) (by omega);refine⟨u',?_,a2,fun i=>?_⟩
  ·rw[jk,Vp (dec252 hk2),e1];simp only[Option.bind_some];rw[Vp (dec252a hk2),e2];simp only[Option.bind_some]
   cases hb:u.getD k false with
   | true =>
    rw[cond_true,Vp (dec252a hk2),Vp e3,e4];rw[hb,Bool.true_and]at a1;exact a1
   | false =>
    rw[cond_false,Vp (dec252a hk2),Vp e3,e4];rw[hb,Bool.false_and]at a1;exact a1
  ·rw[a3 i,qfY (by omega)]
   by_cases h1:i=k
   ·subst h1;rw[if_neg (by omega),if_pos rfl,if_pos (Nat.le_refl _)]
   ·rw[if_neg h1]
    by_cases h2:k≤i
    ·rw[if_pos h2,if_pos (by omega)]
    ·rw[if_neg h2,if_neg (by omega)]
theorem qgf {ar:Int→Nat} {could next:List (rufact×Bool)} {u t u':List Bool} (hc:StR ar could u) (hn:StR ar next t) (hu:u'.length=252) (h:∀ i,u'.getD i false=(u.getD i false && !t.getD i false)):StR ar (dropF could next) u':=by
 obtain⟨d1,d2⟩:=Ho (next:=next) hc.nt;refine⟨d1,fun g hg=>hc.ar g ((d2 g).1 hg).2,hu,fun g=>?_⟩;rw[d2,hc.same,hn.same];unfold setB;rw[h,Bool.and_eq_true,Bool.not_eq_true',← Bool.not_eq_true]
 constructor
 ·rintro⟨h1,h2,h3⟩
  exact⟨h2,h3,fun h4=>h1 ⟨h2,h4⟩⟩
 ·rintro⟨h1,h2,h3⟩
  exact⟨fun h4=>h3 h4.2,h1,h2⟩
theorem qhv {a b:List (rufact×Bool)} (ha:NT a) (hb:NT b) (h:∀ g,memO a g→memO b g):a.length≤b.length∧(a.length=b.length→∀ g,memO b g→memO a g):=by
 have hc:NT (b.filter fun p=>decide (memO a p.1)):=⟨fun p hp=>hb.t p (List.mem_filter.1 hp).1,(List.filter_sublist.map _).nodup hb.n⟩
 have hm:∀ g,memO a g↔memO (b.filter fun p=>decide (memO a p.1)) g:=fun g=>by
  constructor
  ·intro hg;obtain⟨p,hp,rfl⟩:=List.mem_map.1 (h g hg);exact List.mem_map.2 ⟨p,List.mem_filter.2 ⟨hp,decide_eq_true hg⟩,rfl⟩
  ·intro hg;obtain⟨p,hp,rfl⟩:=List.mem_map.1 hg;exact of_decide_eq_true (List.mem_filter.1 hp).2
 have hl:=(NT.perm ha hc hm).length_eq;refine⟨by rw[hl];exact List.length_filter_le ..,fun he g hg=>?_⟩;have e:(b.filter fun p=>decide (memO a p.1))=b:=List.filter_sublist.eq_of_length (by omega);rw[hm,e];exact hg
structure FoundP (L:List ruRule) (G:rufact→Prop) (yes open':rufact→Prop):Prop where
 ex:∃ could,LeastR L yes G could∧LeastR L could G yes∧∀ g,open' g↔¬ yes g∧could g
theorem Nz {ar:Int→Nat} {fuel:Nat} (hf:300≤fuel) {l:List rf3Rule} (hl:l.length≤12) (hL:∀ r,r∈l→okL ar (toR r)) {g:List (rufact×Bool)} {s:List Bool} (hg:StR ar g s) {v8 v9:List Bool} (h8:v8.length=252) (h9:v9.length=252):∀ (d n m:Nat) (sure:List (rufact×Bool)) (t:List Bool),StR ar sure t→253≤sure.length+d→d≤n→d≤m →
  (∀ could next,LeastR (l.map toR) (memO sure) (memO g) could→LeastR (l.map toR) could (memO g) next→∀ x,memO sure x→next x) →
  ∃ a b ya yb,foundR fuel (l.map toR) g n sure=some (a,b)∧jO fuel l s m v8 v9 t=some (ya,yb)∧StR ar a ya∧StR ar b yb∧FoundP (l.map toR) (memO g) (memO a) (memO b)
 | 0,n,m,sure,t,h,hd,_,_,_=>by
  have:=Yd h.nt.n fun x hx=>(h.ar x hx).1
  rw[List.length_map]at this;omega
 | d+1,0,m,sure,t,h,hd,hn,hm,hi=>by omega
 | d+1,n+1,0,sure,t,h,hd,hn,hm,hi=>by omega
 | d+1,n+1,m+1,sure,t,h,hd,hn,hm,hi=>by
  have hLU:∀ r,r∈l.map toR→okL ar r:=fun r hr=>by
   obtain⟨q,hq,rfl⟩:=List.mem_map.1 hr;exact hL q hq
  have hlU:(l.map toR).length≤12:=by rw[List.length_map];exact hl
  obtain⟨could,a1,a2,a3,a4⟩:=qbA hLU hlU hg.nt h.nt hg.ar (by omega:253≤fuel);obtain⟨next,b1,b2,b3,b4⟩:=qbA hLU hlU hg.nt a2 hg.ar (by omega:253≤fuel);obtain⟨u,c1,c2,c3,c4⟩:=qaX hf hl hL hg.len h.len hg.arB;obtain⟨t2,e1,e2,e3,e4⟩:=qaX hf hl hL hg.len c2 hg.arB;have hcu:StR ar could u:=⟨a2,a3,c2,a4.same c4 h.same hg.same⟩;have hnt:StR ar next t2:=⟨b2,b3,e2,b4.same e4 hcu.same hg.same⟩;have hsub:=hi _ _ a4 b4;obtain⟨hle,heq⟩:=qhv h.nt b2 hsub
  have hsm:=Yd b2.n fun x hx=>(b3 x hx).1
  rw[List.length_map]at hsm
  have hprog:foundR fuel (l.map toR) g (n+1) sure=bif next.length == sure.length then some (next,dropF could next) else chk (decide (sure.length<next.length∧next.length≤100000)) (foundR fuel (l.map toR) g n next):=by
   rw[foundR,a1];simp only[Option.bind_some];rw[b1];rfl
  have href:jO fuel l s (m+1) v8 v9 t=bif t2 == t then jk t (js v8 v9 t) (List.range (Int.toNat 252)) 0 u else jO fuel l s m v8 v9 t2:=by
   rw[jO,Vp (decide_eq_true hg.len),Vp (decide_eq_true h.len),c1];simp only[Option.bind_some];rw[Vp (decide_eq_true ⟨c2,by simp⟩),Vp (decide_eq_true hg.len),Vp (decide_eq_true c2),e1];simp only[Option.bind_some];rw[Vp (decide_eq_true ⟨e2,by simp⟩),Vp (decide_eq_true e2),Vp (decide_eq_true h.len),Vp (decide_eq_true ⟨e2,h.len⟩),Vp (decide_eq_true h.len),Vp (jB (by simp)),Vp (decide_eq_true e2),Vp (decide_eq_true ⟨e2,h.len⟩)]
  by_cases hq:next.length=sure.length
  ·have hse:∀ x,memO next x↔memO sure x:=fun x=>⟨heq hq.symm x,hsub x⟩
   have ht:t2=t:=qgC e2 h.len fun x=>by rw[← hnt.same,← h.same];exact hse x
   rw[show (next.length == sure.length)=true by simp[hq],cond_true]at hprog;rw[ht,show (t == t)=true from beq_self_eq_true t,cond_true]at href;obtain⟨u',f1,f2,f3⟩:=DZ h.len (js v8 v9 t) (List.range (Int.toNat 252)) 0 u c2 (by simp)
   have hd2:StR ar (dropF could next) u':=qgf hcu (ht ▸ hnt) f2 fun i=>by rw[f3,if_pos (Nat.zero_le _)]
   refine⟨next,dropF could next,t,u',hprog,?_,ht ▸ hnt,hd2,⟨memO could,?_,b4,fun x=>(Ho hcu.nt).2 x⟩⟩
   ·rw[href,f1];unfold js;rw[Vp (decide_eq_true h.len),Vp (decide_eq_true f2),Vp (decide_eq_true ⟨h.len,h8⟩),Vp (decide_eq_true ⟨f2,h9⟩),Vp (decide_eq_true h.len),Vp (decide_eq_true f2)]
   ·have:memO next=memO sure:=funext fun x=>propext (hse x)
    rw[this];exact a4
  ·have hne:t2≠t:=fun e=>hq (by
    have hse:∀ x,memO next x↔memO sure x:=fun x=>by
     show x∈_↔x∈_;rw[hnt.same,h.same,e]
    have:=(NT.perm b2 h.nt hse).length_eq
    exact this)
   rw[show (next.length == sure.length)=false by simpa using hq,cond_false,Vp (decide_eq_true ⟨by omega,by omega⟩)]at hprog;rw[show (t2 == t)=false by simpa using hne,cond_false]at href;rw[hprog,href]
   refine Nz hf hl hL hg h8 h9 d n m next t2 hnt (by omega) (by omega) (by omega) fun could' next' q1 q2=>?_
   have h1:=a4.anti q1 hsub
   exact fun x hx=>q2.anti b4 h1 x hx
end Go.AM
namespace Go.AM
open Go.Proofs Go.Sort
open Classical
theorem qfA {g:rufact}:¬ setB (List.replicate 252 false) g:=fun h=>by
 have:=h.2;rw[List.getD_eq_getElem?_getD,List.getElem?_replicate]at this
 split at this <;> simp at this
theorem StR.empty {ar:Int→Nat}:StR ar [] (List.replicate 252 false):=⟨NT.empty,fun g hg=>by simp at hg,by simp,fun g=>⟨fun h=>by simp at h,fun h=>absurd h qfA⟩⟩
theorem qcq {fuel:Nat} (hf:300≤fuel) {l:List rf3Rule} {facts:List apiFact} (ho:okRules l) (hv:VR l facts) :
  ∃ a b ya yb ma mb,Yt fuel (l.map toR) facts=some (ma,mb,0)∧YJ fuel l facts=some (ya,yb)∧StR (arVR l facts) a ya∧StR (arVR l facts) b yb∧FoundP (l.map toR) (fun g=>g∈facts.map toF) (memO a) (memO b)∧ma=sortF (apis a)∧mb=sortF (apis b)∧Yh fuel ya=some ma∧Yh fuel yb=some mb:=by
 have h20:=hv.2.1;obtain⟨g,s,g1,g2,g3⟩:=qeD (by omega:facts.length≤100) hv.2.2.1 hv.facts_ar
 have hgm:memO g=fun x=>x∈facts.map toF:=funext fun x=>propext (by
  obtain⟨a1,a2,a3,a4⟩:=NT.empty.add (fr:=facts.map toF)
  have:YH facts=some (addF [] (facts.map toF)):=by
   unfold YH;rw[Vp (jB (by omega)),Hk _ facts 0 [] hv.2.2.1 NT.empty (by simp;omega)];rfl
  rw[g1]at this;cases this;show x∈_↔_
  rw[a2];simp)
 obtain⟨a,b,ya,yb,r1,r2,r3,r4,r5⟩:=Nz hf (by have:=hv.1;omega:l.length≤12) hv.okL g3 (v8:=List.replicate 252 false) (v9:=List.replicate 252 false) (by simp) (by simp) 253 fuel fuel [] _ StR.empty (by simp) (by omega) (by omega) (fun _ _ _ _ x hx=>by cases hx);obtain⟨ma,a1,a2,a3,a4⟩:=DO hf r3;obtain⟨mb,b1,b2,b3,b4⟩:=DO hf r4
 have ea:ma=sortF (apis a):=by
  rw[UY r3.nt (fun g hg=>(r3.ar g hg).1)]at a1;exact (Option.some.inj a1).symm
 have eb:mb=sortF (apis b):=by
  rw[UY r4.nt (fun g hg=>(r4.ar g hg).1)]at b1;exact (Option.some.inj b1).symm
 rw[hgm]at r5;refine⟨a,b,ya,yb,ma,mb,?_,?_,r3,r4,r5,ea,eb,a2,b2⟩
 ·unfold Yt VM;rw[mvalid (by omega) ho hv.1 hv.2.2.2.1 (by omega) (fun f hf=>by have:=(hv.2.2.1 f hf).2.1.2;omega),decide_eq_true hv];simp only[Option.bind_some,cond_true];rw[g1];simp only[Option.bind_some];rw[r1];simp only[Option.bind_some];rw[show listP a=JQ a from rfl,a1];simp only[Option.bind_some];rw[show listP b=JQ b from rfl,b1];rfl
 ·unfold YJ;rw[g2];simp only[Option.bind_some];rw[Vp (decide_eq_true ⟨g3.len,by simp⟩)];exact r2
theorem qdn {fuel:Nat} (hf:300≤fuel) {l:List rf3Rule} {facts:List apiFact} (ho:okRules l) (hv:¬ VR l facts):Yt fuel ((l.take 12).map cvR) ((facts.take 26).map cvF)=some ([],[],2):=by
 unfold Yt VM;rw[Dn (by omega) ho,decide_eq_false hv];rfl
theorem qhb {l:List rf3Rule} {facts:List apiFact} (hv:VR l facts):(facts.take 26).map cvF=facts:=qdt (by have:=hv.2.1;omega) fun f hf=>by have:=(hv.2.2.1 f hf).2.1.2;omega
theorem qgE {l:List rf3Rule} {facts:List apiFact} (hv:VR l facts):(l.take 12).map cvR=l.map toR:=qcU hv.1 hv.2.2.2.1
theorem Ds {out:List (rufact×Bool)} (ho:∀ g,g∈out.map Prod.fst→okU1 g):∀ f,f∈sortF (apis out)→f.qa.length≤1000:=fun f hf=>by
 obtain⟨g,hg,rfl⟩:=qhM.1 hf;have:=(qdM (ho g hg)).1.2.1.2;omega
theorem StR.len252 {ar:Int→Nat} {out:List (rufact×Bool)} {S:List Bool} (h:StR ar out S):out.length≤252:=by
 have:=Yd h.nt.n fun x hx=>(h.ar x hx).1
 rw[List.length_map]at this;exact this
theorem Ni {fuel:Nat} (hf:400≤fuel) {l:List rf3Rule} {facts:List apiFact} (hl:okRules l) (hfa:okFacts facts):Xx fuel l facts=some true:=by
 obtain⟨n,rfl⟩:∃ n,fuel=n+30:=⟨fuel - 30,by omega⟩;have haw:=qgm n;unfold Xx;rw[qhR hl.1 (fun r hr=>(hl.2 r hr).2.1),qge hfa.1];simp only[Option.bind_some]
 by_cases hv:VR l facts
 ·rw[qhb hv,qgE hv];obtain⟨a,b,ya,yb,ma,mb,h1,h2,h3,h4,h5,rfl,rfl,h8,h9⟩:=qcq (by omega:300≤n+30) hl hv;have sa:=h3.len252;have sb:=h4.len252;rw[h1];simp only[Option.bind_some];rw[Nm hl hfa,decide_eq_true hv];simp only[Option.bind_some,Bool.not_true,cond_false];rw[h2];simp only[Option.bind_some];rw[Vp (decide_eq_true ⟨h3.len,by simp⟩),Vp (decide_eq_true ⟨h4.len,by simp⟩),Vp (decide_eq_true h3.len),h8];simp only[Option.bind_some];rw[Dw (by rw[Yr,List.length_map];omega) (Ds fun g hg=>(h3.ar g hg).1)];simp only[Option.bind_some,cond_true];rw[Vp (decide_eq_true h4.len),h9];simp only[Option.bind_some];rw[Dw (by rw[Yr,List.length_map];omega) (Ds fun g hg=>(h4.ar g hg).1)];simp only[Option.bind_some,cond_true];rw[show ((0:Int) == 0)=true from rfl,cond_true,haw];rfl
 ·rw[qdn (by omega) hl hv];simp only[Option.bind_some];rw[Nm hl hfa,decide_eq_false hv];simp only[Option.bind_some,Bool.not_false,cond_true];rw[show ((IntKind.wrap .i64 ((([]:List apiFact).length:Int)+(([]:List apiFact).length:Int))) == 0)=true from rfl,cond_true,show ((2:Int) == 2)=true from rfl,cond_true,haw];rfl
end Go.AM
