import Derived.Test.YtdghpfejmlpjhaaRVT
import Derived.Test.YtdghpfejmlpjhaaRInst
set_option linter.all false
set_option maxRecDepth 100000
open Int renaming toNat→A0
open Go.IntKind renaming wrap→A1
open Bool renaming noConfusion→A2, not_true→A7
open Option renaming bind_some→A3
open List renaming range→A4, mem_cons_self→A5, mem_cons_of_mem→A6
namespace Go.AM
open Go.Proofs
def Qh (v18:apiFact):Option apiFact :=
 (some v18)
def XA (v8:Int) (N1:(Int->(List Int)->Option apiFact)) (v17:(List Int)):Option apiFact :=
 (N1 v8 v17)
def jF (a2:(List Int)) (K6:(apiFact->Option apiFact)):List Int->Nat->Int->(List Int)->Option apiFact
 | [],k1,v8,v9=>(K6 (apiFact.mk v8 v9))
 | x1::r1,k1,v8,v9=>(bif (decide (x1<0)) then (chk (capOk 8 ((v9++[(A1 .i64 (0 - x1))])).length) ((XA v8 (jF a2 K6 r1 (k1+1))) (v9++[(A1 .i64 (0 - x1))]))) else (chk (decide ((0:Int)<=(iAnd .i64 x1 7)/\(iAnd .i64 x1 7)<((8:Nat):Int)/\0<1)) ((a2[(0+A0 (iAnd .i64 x1 7) * 1)]?).bind fun e15=>(chk (capOk 8 ((v9++[e15])).length) ((XA v8 (jF a2 K6 r1 (k1+1))) (v9++[e15]))))))
def Zm (a1:rf2Atom) (a2:(List Int)):Option apiFact :=
 (chk (!a2.isEmpty) (chk (lenOk a1.qa) (jF a2 (Qh) a1.qa 0 a1.qb ([]:(List Int)))))
theorem NI (a1:rf2Atom) (a2:(List Int)) (r:apiFact) (h:Zm a1 a2=some r):Run Try.prog (.call 53 [.agg [I6 a1.qb,l3 none a1.qa],.agg (M6 a2)] (.agg [I6 r.qb,l3 none r.qa])):=by
 refine cW Try.func53 rfl (env0:=[(0,.agg [I6 a1.qb,l3 none a1.qa]),(1,.agg (M6 a2))]) ?_;unfold Zm at h;refine W.sr ?_;obtain⟨hc4,h⟩:=qi h;let y0:Env:=[(1000003,.hob 3 [] (M6 a2))];refine WO.boxA (enc:=(AV.int .i64)) (l:=a2) (d:=3) 1 (qX .i64) hc4 (e1:=((0,.agg [I6 a1.qb,l3 none a1.qa])::(1,.agg (M6 a2))::(2,.box [I6 a1.qb,l3 none a1.qa])::(3,.pb 1000003 0)::y0)) ?_;let z0:=fun t=>EN ((2,.ptr (.agg [I6 a1.qb,l3 none a1.qa]))::(3,.pb 1000003 0)::(4,.box [.int .i64 0,.nils])::t);refine WO.fi [2,3,4,1000003] [2] (e2:=z0 y0) ?_;refine W.seq<|W.rt (e2:=z0 ((5,.box [I6 a1.qb,.nils])::y0)) ?_;refine W.seq<|W.join (σ:=(apiFact)) (fun s=>[(4,.box [.int .i64 0,.nils]),(5,.ptr (.agg [I6 s.qb,l3 none s.qa]))]) (fun s=>(Qh) s=some r) (fun v18 h=>?_) (fun hK6=>?_)
 ·unfold Qh at h;refine W.seq ?_;let z1:=fun t=>EN ((4,.box [I6 v18.qb,l3 none v18.qa])::t);refine W.rt (e2:=z1 []) ?_;refine W.wk (e:=z1 []) ?_;cases h;exact W.rr
 refine W.sr<|WO.pq 2 (jM (.int .i64) a1.qa) ?_;let z2:=fun t=>EN ((3,.pb 1000003 0)::(4,.box [.int .i64 0,.nils])::t);refine WO.fn (e2:=z2 ((5,.box [I6 a1.qb,.nils])::(12,l3 none a1.qa)::(13,I6 (a1.qa.length:Int))::(14,.int .i64 0)::y0)) ?_;refine W.block ?_;obtain⟨hl1,h⟩:=qi h;refine W.weak [3,4,5,12,13,14,1000003] [] [(5,1,3,1,10501)] [] (env':=z2 ((5,.box [I6 a1.qb,l3 (some 10501) ([]:(List Int))])::(12,l3 none a1.qa)::(13,I6 (a1.qa.length:Int))::(14,I6 ((0:Nat):Int))::y0)) kR<|W.range (σ:=(Int×(List Int))) a1.qa (fun k1 s=>z2 ((5,.box [I6 s.1,l3 (some 10501) s.2])::(12,l3 none a1.qa)::(13,I6 (a1.qa.length:Int))::(14,I6 (k1:Int))::y0)) (fun r0 k0 s=>jF a2 (Qh) r0 k0 s.1 s.2=some r) (fun s h=>?_) (fun x1 r1 k1 s hx1 hk1 h hN1=>?_) (a1.qb,([]:(List Int))) h
 ·obtain⟨v8,v9⟩:=s;have h:jF a2 (Qh) [] (a1.qa).length v8 v9=some r:=h;rw[jF.eq_1]at h;refine W.sr<|WO.pq 0 (jB (qM (l:=a1.qa)))<|WO.fn (e2:=z2 ((5,.box [I6 v8,l3 (some 10501) v9])::(12,l3 none a1.qa)::(13,I6 (a1.qa.length:Int))::(14,I6 ((a1.qa).length:Int))::(15,.bool false)::y0)) ?_;refine W.seq<|W.cF<|W.exit<|W.weak [4,5] [5] [] [] (env':=[(4,.box [.int .i64 0,.nils]),(5,.ptr (.agg [I6 (apiFact.mk v8 v9).qb,l3 none (apiFact.mk v8 v9).qa]))]) kR ?_;exact hK6 (apiFact.mk v8 v9) h
 obtain⟨v8,v9⟩:=s;have h:jF a2 (Qh) (x1::r1) k1 v8 v9=some r:=h;rw[jF.eq_2]at h;refine W.sr<|WO.pq 0 (jB (qZ hk1)) ?_;let z3:=fun t=>z2 ((5,.box [I6 v8,l3 (some 10501) v9])::t);refine WO.fn (e2:=z3 ((12,l3 none a1.qa)::(13,I6 (a1.qa.length:Int))::(14,I6 (k1:Int))::(15,.bool true)::y0)) ?_;refine W.seq<|W.cT ?_;let y1:Env:=(12,l3 none a1.qa)::(13,I6 (a1.qa.length:Int))::(14,I6 (k1:Int))::y0;refine W.sw (e:=z3 y1) ?_;refine W.seq<|W.join (σ:=((List Int))) (fun s=>z2 ((5,.box [I6 v8,l3 (some 10501) s])::y1)) (fun s=>(XA v8 (jF a2 (Qh) r1 (k1+1))) s=some r) (fun v17 h=>?_) (fun hK10=>?_)
 ·unfold XA at h;exact W.rg<|WO.pq 0 (jI (qC hl1 hk1))<|WO.fn (hN1 (v8,v17) h)
 refine W.block<|W.sr<|WO.pq 0 (ja (f:=(AV.int .i64)) hx1)<|WO.fn (e2:=z3 ((7,I6 x1)::y1)) ?_;refine W.seq<|W.rt (e2:=z3 ((7,I6 x1)::(12,l3 none a1.qa)::(13,I6 (a1.qa.length:Int))::(14,I6 (k1:Int))::(19,.bool (decide (x1<0)))::y0)) ?_;refine W.ch (decide (x1<0)) h (fun h=>?_) (fun h=>?_)
 ·refine W.rg ?_;obtain⟨hc13,h⟩:=qi h;refine WO.ak 5 25 3 1 (.int .i64) v9 [(W6 (0 - x1))] hc13<|WO.fin [3,4,5,12,13,14,1000003] [] [] [(25,some 10501)] (e2:=z2 ((5,.box [I6 v8,l3 (some 10501) (v9++[(W6 (0 - x1))])])::y1)) kR (fun _ h=>h) ?_;exact hK10 (v9++[(W6 (0 - x1))]) h
 refine W.rg ?_;obtain⟨hc14,h⟩:=qi h;refine WO.pi 4 (v:=.pb 1000003 (0+A0 (iAnd .i64 x1 7) * 1)) hc14 ?_;obtain⟨e15,he15,h⟩:=qd h;refine WO.pk 0 (cut Try.prog 3 (M6 a2) (0+A0 (iAnd .i64 x1 7) * 1)) (ZX (qX .i64) kR he15) ?_;obtain⟨hc16,h⟩:=qi h;refine WO.ak 1 34 3 1 (.int .i64) v9 [e15] hc16<|WO.fin [3,4,5,12,13,14,1000003] [] [] [(34,some 10501)] (e2:=z2 ((5,.box [I6 v8,l3 (some 10501) (v9++[e15])])::y1)) kR (fun _ h=>h) ?_;exact hK10 (v9++[e15]) h
def JY (v17:Bool):Option Bool :=
 (some v17)
def Jy (fuel:Nat):Option Bool :=
 ((Zn fuel).bind fun w69=>(some w69))
def js (N5:(Option Bool)) (v66:Bool):Option Bool :=
 (bif v66 then (some false) else N5)
noncomputable def qI (a1:(List rf3Rule)) (a2:(List apiFact)) (K56:(Option Bool)):List apiFact->Nat->Option Bool
 | [],k5=>K56
 | x5::r5,k5=>((NW a1).bind fun w61=>((YD a2).bind fun w62=>(pvZ w61 w62 x5 (fun w63=>(bif (w63.2 == 0) then ((UK [w63.1.qp] [x5]).bind fun w65=>(bif (!w65) then ((js (qI a1 a2 K56 r5 (k5+1))) true) else (bif (w63.2 != 0) then ((js (qI a1 a2 K56 r5 (k5+1))) (w63.2 != 3)) else ((js (qI a1 a2 K56 r5 (k5+1))) false)))) else (bif (w63.2 != 0) then ((js (qI a1 a2 K56 r5 (k5+1))) (w63.2 != 3)) else ((js (qI a1 a2 K56 r5 (k5+1))) false)))))))
noncomputable def jd (fuel:Nat) (a1:(List rf3Rule)) (a2:(List apiFact)) (w9:((List apiFact)×Int)):Option Bool :=
 (chk (lenOk w9.1) (qI a1 a2 (Jy fuel) w9.1 0))
def JV (N3:(Option Bool)) (v54:Bool):Option Bool :=
 (bif v54 then (some false) else N3)
def jO (x3:rf3Rule) (w9:((List apiFact)×Int)) (v34:(List Int)) (N3:(Option Bool)) (v49:Bool):Option Bool :=
 (bif v49 then (chk (decide (v34.length=8)) ((Zm x3.qf v34).bind fun w52=>((Ys w9.1 w52).bind fun w53=>((JV N3) (!w53))))) else ((JV N3) false))
def JW (N4:(Bool->Option Bool)) (v48:Bool):Option Bool :=
 (N4 v48)
def qY (w9:((List apiFact)×Int)) (v34:(List Int)) (K40:(Bool->Option Bool)):List rf3Lit->Nat->Bool->Option Bool
 | [],k4,v42=>(K40 v42)
 | x4::r4,k4,v42=>(bif v42 then (chk (decide (v34.length=8)) ((Zm x4.qe v34).bind fun w46=>((Ys w9.1 w46).bind fun w47=>((JW (qY w9 v34 K40 r4 (k4+1))) (!(w47 == x4.qr)))))) else ((JW (qY w9 v34 K40 r4 (k4+1))) false))
def qO (w9:((List apiFact)×Int)) (v34:(List Int)) (K35:(Option Bool)):List rf3Rule->Nat->Option Bool
 | [],k3=>K35
 | x3::r3,k3=>(chk (lenOk x3.qc) (qY w9 v34 (jO x3 w9 v34 (qO w9 v34 K35 r3 (k3+1))) x3.qc 0 true))
noncomputable def Jz (fuel:Nat) (a1:(List rf3Rule)) (a2:(List apiFact)) (w9:((List apiFact)×Int)) (v34:(List Int)):Option Bool :=
 (chk (lenOk a1) (qO w9 v34 (jd fuel a1 a2 w9) a1 0))
def jy (K25:((List Int)->Option Bool)):List Nat->Nat->(List Int)->Option Bool
 | [],k2,v27=>(K25 v27)
 | x2::r2,k2,v27=>(chk (decide ((0:Int)<=(k2:Int)/\(k2:Int)<((8:Nat):Int)/\0<1)) ((v27[(0+A0 (k2:Int) * 1)]?).bind fun e31=>(chk (decide ((0:Int)<=(k2:Int)/\(k2:Int)<((8:Nat):Int)/\0<1)) (chk (decide ((0+A0 (k2:Int) * 1)<v27.length)) ((jy K25 r2 (k2+1)) (v27.set (0+A0 (k2:Int) * 1) (A1 .i64 (1+(A1 .i64 (((A1 .u64 e31)).tmod 6))))))))))
noncomputable def JX (fuel:Nat) (a1:(List rf3Rule)) (a2:(List apiFact)) (a3:(List Int)) (w9:((List apiFact)×Int)):Option Bool :=
 (chk (lenOk (A4 (A0 8))) (jy (Jz fuel a1 a2 w9) (A4 (A0 8)) 0 a3))
def jA (w9:((List apiFact)×Int)) (K18:(Option Bool)):List apiFact->Nat->Option Bool
 | [],k1=>K18
 | x1::r1,k1=>((Ys w9.1 x1).bind fun w23=>(bif (!w23) then (some false) else (jA w9 K18 r1 (k1+1))))
noncomputable def jP (fuel:Nat) (a1:(List rf3Rule)) (a2:(List apiFact)) (a3:(List Int)) (w9:((List apiFact)×Int)) (v13:Bool):Option Bool :=
 (bif v13 then (bif (w9.2 == 2) then ((Zn fuel).bind fun w15=>((JY) w15)) else (bif (w9.2 == 8) then ((Zn fuel).bind fun w16=>((JY) w16)) else ((JY) false))) else (chk (lenOk a2) (jA w9 (JX fuel a1 a2 a3 w9) a2 0)))
noncomputable def Xd (fuel:Nat) (a1:(List rf3Rule)) (a2:(List apiFact)) (a3:(List Int)):Option Bool :=
 (chk (!a3.isEmpty) ((NW a1).bind fun w7=>((YD a2).bind fun w8=>((Xv fuel w7 w8).bind fun w9=>(bif (w9.2 != 0) then ((jP fuel a1 a2 a3 w9) true) else ((Vp a1 a2).bind fun w12=>((jP fuel a1 a2 a3 w9) (!w12))))))))
theorem Dm (fuel:Nat) (a1:(List rf3Rule)) (a2:(List apiFact)) (a3:(List Int)) (r:Bool) (h:Xd fuel a1 a2 a3=some r):CallOk Try.prog 14 [l94 none a1,l41 none a2,.agg (M6 a3)] (.bool r):=by
 refine qbG Try.func14 rfl kR (fun e k l xs h=>by cases h) ?_;rw[show argsEnv 0 (List.map AV.strip [l94 none a1,l41 none a2,.agg (M6 a3)])=[(0,l94 none a1),(1,l41 none a2),(2,.agg (M6 a3))] from by kernel_rfl];unfold Xd at h
 first | refine W.seq ?_ | refine CodeP.seqW mixedP ?_
 first | refine W.region kR ?_ | refine CodeP.of mixedP (W.region kR ?_)
 obtain⟨hc5,h⟩:=qi h;let y0:Env:=[(1000005,.hob 3 [] (M6 a3))];let z0:=fun t=>EN ((0,l94 none a1)::(1,l41 none a2)::t);refine WO.boxA (enc:=(AV.int .i64)) (l:=a3) (d:=5) 0 (qX .i64) hc5 (e1:=z0 ((2,.agg (M6 a3))::(5,.pb 1000005 0)::y0)) ?_
 first
  | refine WO.fin [0,1,5,1000005] [] [] [] (e2:=[(0,l94 none a1),(1,l41 none a2),(5,.pb 1000005 0),(1000005,.hob 3 [] (M6 a3))]) kR (fun _ h=>h) ?_
  | refine WO.finP [0,1,5,1000005] [] [] [] (e2:=[(0,l94 none a1),(1,l41 none a2),(5,.pb 1000005 0),(1000005,.hob 3 [] (M6 a3))]) kR ?_
  | refine WO.finN hG [0,1,5,1000005] [] [] [] (e2:=[(0,l94 none a1),(1,l41 none a2),(5,.pb 1000005 0),(1000005,.hob 3 [] (M6 a3))]) kR ?_
 first | refine W.seq ?_ | refine CodeP.seqW mixedP ?_
 first | refine W.region kR ?_ | refine CodeP.of mixedP (W.region kR ?_)
 obtain⟨w7,hw7,h⟩:=qd h;refine WO.ck 1 (F:=18) (l:=[l94 none a1]) (C:=[]) (r:=l54 (some 1) w7) (DC a1 w7 hw7) ?_;obtain⟨w8,hw8,h⟩:=qd h;refine WO.ck 1 (F:=19) (l:=[l41 none a2]) (C:=[]) (r:=l41 (some 1) w8) (Un a2 w8 hw8) ?_;obtain⟨w9,hw9,h⟩:=qd h;refine WO.ck 0 (F:=17) (l:=[l54 none w7,l41 none w8]) (C:=[]) (r:=.tup [l41 none w9.1,I6 w9.2]) (qaf fuel w7 w8 w9 hw9) ?_
 first
  | refine WO.fin [0,1,5,7,8,1000005] [] [] [] (e2:=[(0,l94 none a1),(1,l41 none a2),(5,.pb 1000005 0),(7,l41 none w9.1),(8,I6 w9.2),(1000005,.hob 3 [] (M6 a3))]) kR (fun _ h=>h) ?_
  | refine WO.finP [0,1,5,7,8,1000005] [] [] [] (e2:=[(0,l94 none a1),(1,l41 none a2),(5,.pb 1000005 0),(7,l41 none w9.1),(8,I6 w9.2),(1000005,.hob 3 [] (M6 a3))]) kR ?_
  | refine WO.finN hG [0,1,5,7,8,1000005] [] [] [] (e2:=[(0,l94 none a1),(1,l41 none a2),(5,.pb 1000005 0),(7,l41 none w9.1),(8,I6 w9.2),(1000005,.hob 3 [] (M6 a3))]) kR ?_
 first | refine W.seq ?_ | refine CodeP.seqW mixedP ?_
 first | refine W.seq ?_ | refine CodeP.seqW mixedP ?_
 let z1:=fun t=>z0 ((5,.pb 1000005 0)::(7,l41 none w9.1)::t);let z2:=fun t=>z1 ((8,I6 w9.2)::t);refine W.join (σ:=(Bool)) (fun s=>z2 ((36,.bool s)::y0)) (fun s=>(jP fuel a1 a2 a3 w9) s=some r) (fun v13 h=>?_) (fun hK11=>?_)
 ·unfold jP at h
  first
   | refine W.condB v13 kR (fun hb=>?_) (fun hb=>?_)
   | refine CodeP.of mixedP (W.condB v13 kR (fun hb=>?_) (fun hb=>?_))
  ·replace h:=qfx hb h
   first | refine W.seq ?_ | refine CodeP.seqW mixedP ?_
   refine W.join (σ:=(Bool)) (fun s=>[(6,.bool s)]) (fun s=>(JY) s=some r) (fun v17 h=>?_) (fun hK14=>?_)
   ·unfold JY at h
    first
     | refine W.weak [6] [] [] [] (env':=[(6,.bool v17)]) kR ?_
     | refine CodeP.weakP [6] [] [] [] (env':=[(6,.bool v17)]) kR ?_
    have hr:jJ Try.prog Try.f14 [(6,.bool v17)]=some (.bool v17):=by kernel_rfl
    cases h
    first | exact W.ret hr | exact CodeP.of mixedP (W.ret hr)
   first | refine W.region kR ?_ | refine CodeP.of mixedP (W.region kR ?_)
   refine WO.bh 3 (fun b=>z2 ((36,.bool v13)::(37,I6 w9.2)::(38,.bool b)::(39,.bool b)::y0)) (w9.2 == 2) h (fun h=>?_) (fun h=>?_)
   ·obtain⟨w15,hw15,h⟩:=qd h;refine WO.ck 4 (F:=21) (l:=[]) (C:=[]) (r:=.bool w15) (Um fuel w15 hw15) ?_
    first
     | refine WO.fin [6] [] [] [] (e2:=[(6,.bool w15)]) kR (fun _ h=>h) ?_
     | refine WO.finP [6] [] [] [] (e2:=[(6,.bool w15)]) kR ?_
     | refine WO.finN hG [6] [] [] [] (e2:=[(6,.bool w15)]) kR ?_
    exact hK14 w15 h
   refine WO.bh 4 (fun b=>z2 ((36,.bool v13)::(37,I6 w9.2)::(38,.bool false)::(39,.bool false)::(40,I6 w9.2)::(41,.bool b)::(42,.bool b)::(43,.bool b)::y0)) (w9.2 == 8) h (fun h=>?_) (fun h=>?_)
   ·obtain⟨w16,hw16,h⟩:=qd h;refine WO.ck 0 (F:=21) (l:=[]) (C:=[]) (r:=.bool w16) (Um fuel w16 hw16) ?_
    first
     | refine WO.fin [6] [] [] [] (e2:=[(6,.bool w16)]) kR (fun _ h=>h) ?_
     | refine WO.finP [6] [] [] [] (e2:=[(6,.bool w16)]) kR ?_
     | refine WO.finN hG [6] [] [] [] (e2:=[(6,.bool w16)]) kR ?_
    exact hK14 w16 h
   first
    | refine WO.fin [6] [] [] [] (e2:=[(6,.bool false)]) kR (fun _ h=>h) ?_
    | refine WO.finP [6] [] [] [] (e2:=[(6,.bool false)]) kR ?_
    | refine WO.finN hG [6] [] [] [] (e2:=[(6,.bool false)]) kR ?_
   exact hK14 false h
  replace h:=qfy hb h
  first
   | refine W.skip ?_
   | refine CodeP.of mixedP (W.skip ?_)
  first
   | refine W.weak [0,1,5,7,1000005] [] [] [] (env':=[(0,l94 none a1),(1,l41 none a2),(5,.pb 1000005 0),(7,l41 none w9.1),(1000005,.hob 3 [] (M6 a3))]) kR ?_
   | refine CodeP.weakP [0,1,5,7,1000005] [] [] [] (env':=[(0,l94 none a1),(1,l41 none a2),(5,.pb 1000005 0),(7,l41 none w9.1),(1000005,.hob 3 [] (M6 a3))]) kR ?_
  first | refine W.seq ?_ | refine CodeP.seqW mixedP ?_
  refine W.join (σ:=Unit) (fun s=>z1 y0) (fun s=>(JX fuel a1 a2 a3 w9)=some r) (fun s h=>?_) (fun hK18=>?_)
  ·unfold JX at h
   first | refine W.seq ?_ | refine CodeP.seqW mixedP ?_
   refine W.join (σ:=((List Int))) (fun s=>z1 [(1000005,.hob 3 [] (M6 s))]) (fun s=>(Jz fuel a1 a2 w9) s=some r) (fun v34 h=>?_) (fun hK25=>?_)
   ·unfold Jz at h
    first | refine W.seq ?_ | refine CodeP.seqW mixedP ?_
    refine W.join (σ:=Unit) (fun s=>z0 [(7,l41 none w9.1)]) (fun s=>(jd fuel a1 a2 w9)=some r) (fun s h=>?_) (fun hK35=>?_)
    ·unfold jd at h;refine CodeP.seq<|CodeP.join (σ:=Unit) (fun s=>[]) (fun s=>(Jy fuel)=some r) (fun s h=>?_) (fun hK56=>?_)
     ·unfold Jy at h
      first | refine W.seq ?_ | refine CodeP.seqW mixedP ?_
      first | refine W.region kR ?_ | refine CodeP.of mixedP (W.region kR ?_)
      obtain⟨w69,hw69,h⟩:=qd h;refine WO.ck 0 (F:=21) (l:=[]) (C:=[]) (r:=.bool w69) (Um fuel w69 hw69) ?_
      first
       | refine WO.fin [6] [] [] [] (e2:=[(6,.bool w69)]) kR (fun _ h=>h) ?_
       | refine WO.finP [6] [] [] [] (e2:=[(6,.bool w69)]) kR ?_
       | refine WO.finN hG [6] [] [] [] (e2:=[(6,.bool w69)]) kR ?_
      first
       | refine W.weak [6] [] [] [] (env':=[(6,.bool w69)]) kR ?_
       | refine CodeP.weakP [6] [] [] [] (env':=[(6,.bool w69)]) kR ?_
      have hr:jJ Try.prog Try.f14 [(6,.bool w69)]=some (.bool w69):=by kernel_rfl
      cases h
      first | exact W.ret hr | exact CodeP.of mixedP (W.ret hr)
     first | refine W.seq ?_ | refine CodeP.seqW mixedP ?_
     first | refine W.region kR ?_ | refine CodeP.of mixedP (W.region kR ?_)
     refine WO.pq 1 (jM qA w9.1) ?_
     first
      | refine WO.fin [0,1,107,108,109] [] [] [] (e2:=[(0,l94 none a1),(1,l41 none a2),(107,l41 none w9.1),(108,I6 (w9.1.length:Int)),(109,.int .i64 0)]) kR (fun _ h=>h) ?_
      | refine WO.finP [0,1,107,108,109] [] [] [] (e2:=[(0,l94 none a1),(1,l41 none a2),(107,l41 none w9.1),(108,I6 (w9.1.length:Int)),(109,.int .i64 0)]) kR ?_
      | refine WO.finN hG [0,1,107,108,109] [] [] [] (e2:=[(0,l94 none a1),(1,l41 none a2),(107,l41 none w9.1),(108,I6 (w9.1.length:Int)),(109,.int .i64 0)]) kR ?_
     refine CodeP.block ?_;obtain⟨hl5,h⟩:=qi h
     first
      | refine W.weak [0,1,107,108,109] [] [] [] (env':=[(0,l94 none a1),(1,l41 none a2),(107,l41 none w9.1),(108,I6 (w9.1.length:Int)),(109,I6 ((0:Nat):Int))]) kR ?_
      | refine CodeP.weakP [0,1,107,108,109] [] [] [] (env':=[(0,l94 none a1),(1,l41 none a2),(107,l41 none w9.1),(108,I6 (w9.1.length:Int)),(109,I6 ((0:Nat):Int))]) kR ?_
     let z3:=fun t=>z0 ((107,l41 none w9.1)::(108,I6 (w9.1.length:Int))::t);refine CodeP.range (σ:=Unit) w9.1 (fun k5 s=>z3 [(109,I6 (k5:Int))]) (fun r0 k0 s=>qI a1 a2 (Jy fuel) r0 k0=some r) (fun s h=>?_) (fun x5 r5 k5 s N hG hx5 hk5 h hN5=>?_) () h
     ·rw[qI.eq_1]at h
      first | refine W.seq ?_ | refine CodeP.seqW mixedP ?_
      first | refine W.region kR ?_ | refine CodeP.of mixedP (W.region kR ?_)
      refine WO.pq 0 (jB (qM (l:=w9.1))) ?_
      first
       | refine WO.fin ([0,1,107,108,109,110]) [] [] [] (e2:=[(0,l94 none a1),(1,l41 none a2),(107,l41 none w9.1),(108,I6 (w9.1.length:Int)),(109,I6 ((w9.1).length:Int)),(110,.bool false)]) kR (fun _ h=>h) ?_
       | refine WO.finP ([0,1,107,108,109,110]) [] [] [] (e2:=[(0,l94 none a1),(1,l41 none a2),(107,l41 none w9.1),(108,I6 (w9.1.length:Int)),(109,I6 ((w9.1).length:Int)),(110,.bool false)]) kR ?_
       | refine WO.finN hG ([0,1,107,108,109,110]) [] [] [] (e2:=[(0,l94 none a1),(1,l41 none a2),(107,l41 none w9.1),(108,I6 (w9.1.length:Int)),(109,I6 ((w9.1).length:Int)),(110,.bool false)]) kR ?_
      first | refine W.seq ?_ | refine CodeP.seqW mixedP ?_
      first
       | refine W.condB false kR (fun h=>A2 h) (fun _=>?_)
       | refine CodeP.of mixedP (W.condB false kR (fun h=>A2 h) (fun _=>?_))
      first
       | refine W.exit ?_
       | refine CodeP.of mixedP (W.exit ?_)
      first
       | refine W.weak [] [] [] [] (env':=[]) kR ?_
       | refine CodeP.weakP [] [] [] [] (env':=[]) kR ?_
      exact hK56 () h
     rw[qI.eq_2]at h
     first | refine W.seq ?_ | refine CodeP.seqW mixedP ?_
     first | refine W.region kR ?_ | refine CodeP.of mixedP (W.region kR ?_)
     refine WO.pq 0 (jB (qZ hk5)) ?_
     first
      | refine WO.fin ([0,1,107,108,109,110]) [] [] [] (e2:=[(0,l94 none a1),(1,l41 none a2),(107,l41 none w9.1),(108,I6 (w9.1.length:Int)),(109,I6 (k5:Int)),(110,.bool true)]) kR (fun _ h=>h) ?_
      | refine WO.finP ([0,1,107,108,109,110]) [] [] [] (e2:=[(0,l94 none a1),(1,l41 none a2),(107,l41 none w9.1),(108,I6 (w9.1.length:Int)),(109,I6 (k5:Int)),(110,.bool true)]) kR ?_
      | refine WO.finN hG ([0,1,107,108,109,110]) [] [] [] (e2:=[(0,l94 none a1),(1,l41 none a2),(107,l41 none w9.1),(108,I6 (w9.1.length:Int)),(109,I6 (k5:Int)),(110,.bool true)]) kR ?_
     first | refine W.seq ?_ | refine CodeP.seqW mixedP ?_
     first
      | refine W.condB true kR (fun _=>?_) (fun h=>A2 h)
      | refine CodeP.of mixedP (W.condB true kR (fun _=>?_) (fun h=>A2 h))
     first
      | refine W.skip ?_
      | refine CodeP.of mixedP (W.skip ?_)
     first
      | refine W.weak [0,1,107,108,109] [] [] [] (env':=[(0,l94 none a1),(1,l41 none a2),(107,l41 none w9.1),(108,I6 (w9.1.length:Int)),(109,I6 (k5:Int))]) kR ?_
      | refine CodeP.weakP [0,1,107,108,109] [] [] [] (env':=[(0,l94 none a1),(1,l41 none a2),(107,l41 none w9.1),(108,I6 (w9.1.length:Int)),(109,I6 (k5:Int))]) kR ?_
     refine CodeP.seq<|CodeP.block ?_
     first | refine W.seq ?_ | refine CodeP.seqW mixedP ?_
     first | refine W.region kR ?_ | refine CodeP.of mixedP (W.region kR ?_)
     refine WO.pq 0 (ja (f:=qA) hx5) ?_
     first
      | refine WO.fin [0,1,18,107,108,109] [18] [] [] (e2:=[(0,l94 none a1),(1,l41 none a2),(18,.ptr (.agg [I6 x5.qb,l3 none x5.qa])),(107,l41 none w9.1),(108,I6 (w9.1.length:Int)),(109,I6 (k5:Int))]) kR (fun _ h=>h) ?_
      | refine WO.finP [0,1,18,107,108,109] [18] [] [] (e2:=[(0,l94 none a1),(1,l41 none a2),(18,.ptr (.agg [I6 x5.qb,l3 none x5.qa])),(107,l41 none w9.1),(108,I6 (w9.1.length:Int)),(109,I6 (k5:Int))]) kR ?_
      | refine WO.finN hG [0,1,18,107,108,109] [18] [] [] (e2:=[(0,l94 none a1),(1,l41 none a2),(18,.ptr (.agg [I6 x5.qb,l3 none x5.qa])),(107,l41 none w9.1),(108,I6 (w9.1.length:Int)),(109,I6 (k5:Int))]) kR ?_
     obtain⟨w61,hw61,h⟩:=qd h;obtain⟨w62,hw62,h⟩:=qd h;obtain⟨T,hT,h⟩:=qkG h;refine CodeP.seq (CodeP.regionS mixedP kR ?_);refine qlx T (fun w63:ruProof×Int=>[(0,l94 none a1),(1,l41 none a2),(18,.ptr (.agg [I6 x5.qb,l3 none x5.qa])),(19,.box [I6 w63.1.qL,I6 w63.1.qp.qb,l3 none w63.1.qp.qa,l77 none w63.1.qE]),(20,I6 w63.2),(107,l41 none w9.1),(108,I6 (w9.1.length:Int)),(109,I6 (k5:Int)),(113,.tup [.agg [I6 w63.1.qL,I6 w63.1.qp.qb,l3 none w63.1.qp.qa,l77 none w63.1.qE],I6 w63.2]),(114,l94 none a1),(115,l54 (some 115) w61),(116,l41 none a2),(117,l41 (some 117) w62),(118,.agg [I6 x5.qb,l3 none x5.qa]),(119,.tup [.agg [I6 w63.1.qL,I6 w63.1.qp.qb,l3 none w63.1.qp.qa,l77 none w63.1.qE],I6 w63.2]),(120,.agg [I6 w63.1.qL,I6 w63.1.qp.qb,l3 none w63.1.qp.qa,l77 none w63.1.qE]),(121,I6 w63.2)]) (fun S hfin=>?_) (fun w63 hw63=>?_)
     ·exact AnyS.anyG 5 (fun w63=>.tup [.agg [I6 w63.1.qL,I6 w63.1.qp.qb,l3 none w63.1.qp.qa,l77 none w63.1.qE],I6 w63.2]) mixedP hT hfin (.cons (gcall 1 (F:=18) (l:=[l94 none a1]) (C:=[]) (r:=l54 (some 1) w61) (DC a1 w61 hw61)) (.cons (gcall 3 (F:=19) (l:=[l41 none a2]) (C:=[]) (r:=l41 (some 1) w62) (Un a2 w62 hw62)) .nil)) (fun w63=>(.cons (gcall 1 (F:=18) (l:=[l94 none a1]) (C:=[]) (r:=l54 (some 1) w61) (DC a1 w61 hw61)) (.cons (gcall 3 (F:=19) (l:=[l41 none a2]) (C:=[]) (r:=l41 (some 1) w62) (Un a2 w62 hw62)) .nil)))
     replace h:=h w63 hw63
     first
      | refine WO.fin [0,1,18,19,20,107,108,109] [19] [] [] (e2:=[(0,l94 none a1),(1,l41 none a2),(18,.ptr (.agg [I6 x5.qb,l3 none x5.qa])),(19,.ptr (.agg [I6 w63.1.qL,I6 w63.1.qp.qb,l3 none w63.1.qp.qa,l77 none w63.1.qE])),(20,I6 w63.2),(107,l41 none w9.1),(108,I6 (w9.1.length:Int)),(109,I6 (k5:Int))]) kR (fun _ h=>h) ?_
      | refine WO.finP [0,1,18,19,20,107,108,109] [19] [] [] (e2:=[(0,l94 none a1),(1,l41 none a2),(18,.ptr (.agg [I6 x5.qb,l3 none x5.qa])),(19,.ptr (.agg [I6 w63.1.qL,I6 w63.1.qp.qb,l3 none w63.1.qp.qa,l77 none w63.1.qE])),(20,I6 w63.2),(107,l41 none w9.1),(108,I6 (w9.1.length:Int)),(109,I6 (k5:Int))]) kR ?_
      | refine WO.finN hG [0,1,18,19,20,107,108,109] [19] [] [] (e2:=[(0,l94 none a1),(1,l41 none a2),(18,.ptr (.agg [I6 x5.qb,l3 none x5.qa])),(19,.ptr (.agg [I6 w63.1.qL,I6 w63.1.qp.qb,l3 none w63.1.qp.qa,l77 none w63.1.qE])),(20,I6 w63.2),(107,l41 none w9.1),(108,I6 (w9.1.length:Int)),(109,I6 (k5:Int))]) kR ?_
     first | refine W.seq ?_ | refine CodeP.seqW mixedP ?_
     refine W.join (σ:=(Bool)) (fun s=>z3 [(109,I6 (k5:Int)),(140,.bool s)]) (fun s=>(js (qI a1 a2 (Jy fuel) r5 (k5+1))) s=some r) (fun v66 h=>?_) (fun hK64=>?_)
     ·unfold js at h
      first
       | refine W.condB v66 kR (fun hb=>?_) (fun hb=>?_)
       | refine CodeP.of mixedP (W.condB v66 kR (fun hb=>?_) (fun hb=>?_))
      ·replace h:=qfx hb h
       first | refine W.seq ?_ | refine CodeP.seqW mixedP ?_
       first
        | refine W.regT [6] [] [] [] (e2:=[(6,.bool false)]) kR kR (fun _ h=>h) ?_
        | refine W.regPT [6] [] [] [] (e2:=[(6,.bool false)]) kR kR ?_
       first
        | refine W.weak [6] [] [] [] (env':=[(6,.bool false)]) kR ?_
        | refine CodeP.weakP [6] [] [] [] (env':=[(6,.bool false)]) kR ?_
       have hr:jJ Try.prog Try.f14 [(6,.bool false)]=some (.bool false):=by kernel_rfl
       cases h
       first | exact W.ret hr | exact CodeP.of mixedP (W.ret hr)
      replace h:=qfy hb h
      first
       | refine W.skip ?_
       | refine CodeP.of mixedP (W.skip ?_)
      first
       | refine W.weak [0,1,107,108,109] [] [] [] (env':=[(0,l94 none a1),(1,l41 none a2),(107,l41 none w9.1),(108,I6 (w9.1.length:Int)),(109,I6 (k5:Int))]) kR ?_
       | refine CodeP.weakP [0,1,107,108,109] [] [] [] (env':=[(0,l94 none a1),(1,l41 none a2),(107,l41 none w9.1),(108,I6 (w9.1.length:Int)),(109,I6 (k5:Int))]) kR ?_
      first | refine W.region kR ?_ | refine CodeP.of mixedP (W.region kR ?_)
      refine WO.pq 0 (jI (qC hl5 hk5)) ?_
      first
       | refine WO.fin [0,1,107,108,109] [] [] [] (e2:=[(0,l94 none a1),(1,l41 none a2),(107,l41 none w9.1),(108,I6 (w9.1.length:Int)),(109,I6 ((k5+1:Nat):Int))]) kR (fun _ h=>h) ?_
       | refine WO.finP [0,1,107,108,109] [] [] [] (e2:=[(0,l94 none a1),(1,l41 none a2),(107,l41 none w9.1),(108,I6 (w9.1.length:Int)),(109,I6 ((k5+1:Nat):Int))]) kR ?_
       | refine WO.finN hG [0,1,107,108,109] [] [] [] (e2:=[(0,l94 none a1),(1,l41 none a2),(107,l41 none w9.1),(108,I6 (w9.1.length:Int)),(109,I6 ((k5+1:Nat):Int))]) kR ?_
      exact hN5 () h
     first | refine W.region kR ?_ | refine CodeP.of mixedP (W.region kR ?_)
     let z4:=fun t=>z0 ((18,.ptr (.agg [I6 x5.qb,l3 none x5.qa]))::(19,.ptr (.agg [I6 w63.1.qL,I6 w63.1.qp.qb,l3 none w63.1.qp.qa,l77 none w63.1.qE]))::(20,I6 w63.2)::(107,l41 none w9.1)::(108,I6 (w9.1.length:Int))::(109,I6 (k5:Int))::(122,I6 w63.2)::t);refine WO.bh 3 (fun b=>z4 [(123,.bool b),(124,.bool b)]) (w63.2 == 0) h (fun h=>?_) (fun h=>?_)
     ·obtain⟨w65,hw65,h⟩:=qd h;refine WO.ck 5 (F:=23) (l:=[l41 none [w63.1.qp],l41 none [x5]]) (C:=[]) (r:=.bool w65) (qai [w63.1.qp] [x5] w65 hw65) ?_;let z5:=fun t=>z4 ((123,.bool true)::(124,.bool true)::(125,.ptr (.agg [I6 w63.1.qp.qb,l3 none w63.1.qp.qa]))::(126,.agg [I6 w63.1.qp.qb,l3 none w63.1.qp.qa])::(127,l41 (some 127) [w63.1.qp])::(128,.agg [I6 x5.qb,l3 none x5.qa])::(129,l41 (some 129) [x5])::(130,.bool w65)::t);refine WO.bh 3 (fun b=>z5 [(131,.bool b),(132,.bool b),(133,.bool b)]) (!w65) h (fun h=>?_) (fun h=>?_)
      ·first
        | refine WO.fin [0,1,107,108,109,140] [] [] [] (e2:=[(0,l94 none a1),(1,l41 none a2),(107,l41 none w9.1),(108,I6 (w9.1.length:Int)),(109,I6 (k5:Int)),(140,.bool true)]) kR (fun _ h=>h) ?_
        | refine WO.finP [0,1,107,108,109,140] [] [] [] (e2:=[(0,l94 none a1),(1,l41 none a2),(107,l41 none w9.1),(108,I6 (w9.1.length:Int)),(109,I6 (k5:Int)),(140,.bool true)]) kR ?_
        | refine WO.finN hG [0,1,107,108,109,140] [] [] [] (e2:=[(0,l94 none a1),(1,l41 none a2),(107,l41 none w9.1),(108,I6 (w9.1.length:Int)),(109,I6 (k5:Int)),(140,.bool true)]) kR ?_
       exact hK64 true h
      refine WO.bh 3 (fun b=>z5 [(131,.bool false),(132,.bool false),(133,.bool false),(134,I6 w63.2),(135,.bool b),(136,.bool b)]) (w63.2 != 0) h (fun h=>?_) (fun h=>?_)
      ·first
        | refine WO.fin [0,1,107,108,109,140] [] [] [] (e2:=[(0,l94 none a1),(1,l41 none a2),(107,l41 none w9.1),(108,I6 (w9.1.length:Int)),(109,I6 (k5:Int)),(140,.bool (w63.2 != 3))]) kR (fun _ h=>h) ?_
        | refine WO.finP [0,1,107,108,109,140] [] [] [] (e2:=[(0,l94 none a1),(1,l41 none a2),(107,l41 none w9.1),(108,I6 (w9.1.length:Int)),(109,I6 (k5:Int)),(140,.bool (w63.2 != 3))]) kR ?_
        | refine WO.finN hG [0,1,107,108,109,140] [] [] [] (e2:=[(0,l94 none a1),(1,l41 none a2),(107,l41 none w9.1),(108,I6 (w9.1.length:Int)),(109,I6 (k5:Int)),(140,.bool (w63.2 != 3))]) kR ?_
       exact hK64 (w63.2 != 3) h
      first
       | refine WO.fin [0,1,107,108,109,140] [] [] [] (e2:=[(0,l94 none a1),(1,l41 none a2),(107,l41 none w9.1),(108,I6 (w9.1.length:Int)),(109,I6 (k5:Int)),(140,.bool false)]) kR (fun _ h=>h) ?_
       | refine WO.finP [0,1,107,108,109,140] [] [] [] (e2:=[(0,l94 none a1),(1,l41 none a2),(107,l41 none w9.1),(108,I6 (w9.1.length:Int)),(109,I6 (k5:Int)),(140,.bool false)]) kR ?_
       | refine WO.finN hG [0,1,107,108,109,140] [] [] [] (e2:=[(0,l94 none a1),(1,l41 none a2),(107,l41 none w9.1),(108,I6 (w9.1.length:Int)),(109,I6 (k5:Int)),(140,.bool false)]) kR ?_
      exact hK64 false h
     refine WO.bh 12 (fun b=>z4 [(123,.bool false),(124,.bool false),(125,.und),(126,.und),(127,.und),(128,.und),(129,.und),(130,.und),(131,.und),(132,.bool false),(133,.bool false),(134,I6 w63.2),(135,.bool b),(136,.bool b)]) (w63.2 != 0) h (fun h=>?_) (fun h=>?_)
     ·first
       | refine WO.fin [0,1,107,108,109,140] [] [] [] (e2:=[(0,l94 none a1),(1,l41 none a2),(107,l41 none w9.1),(108,I6 (w9.1.length:Int)),(109,I6 (k5:Int)),(140,.bool (w63.2 != 3))]) kR (fun _ h=>h) ?_
       | refine WO.finP [0,1,107,108,109,140] [] [] [] (e2:=[(0,l94 none a1),(1,l41 none a2),(107,l41 none w9.1),(108,I6 (w9.1.length:Int)),(109,I6 (k5:Int)),(140,.bool (w63.2 != 3))]) kR ?_
       | refine WO.finN hG [0,1,107,108,109,140] [] [] [] (e2:=[(0,l94 none a1),(1,l41 none a2),(107,l41 none w9.1),(108,I6 (w9.1.length:Int)),(109,I6 (k5:Int)),(140,.bool (w63.2 != 3))]) kR ?_
      exact hK64 (w63.2 != 3) h
     first
      | refine WO.fin [0,1,107,108,109,140] [] [] [] (e2:=[(0,l94 none a1),(1,l41 none a2),(107,l41 none w9.1),(108,I6 (w9.1.length:Int)),(109,I6 (k5:Int)),(140,.bool false)]) kR (fun _ h=>h) ?_
      | refine WO.finP [0,1,107,108,109,140] [] [] [] (e2:=[(0,l94 none a1),(1,l41 none a2),(107,l41 none w9.1),(108,I6 (w9.1.length:Int)),(109,I6 (k5:Int)),(140,.bool false)]) kR ?_
      | refine WO.finN hG [0,1,107,108,109,140] [] [] [] (e2:=[(0,l94 none a1),(1,l41 none a2),(107,l41 none w9.1),(108,I6 (w9.1.length:Int)),(109,I6 (k5:Int)),(140,.bool false)]) kR ?_
     exact hK64 false h
    first | refine W.seq ?_ | refine CodeP.seqW mixedP ?_
    first | refine W.region kR ?_ | refine CodeP.of mixedP (W.region kR ?_)
    refine WO.pq 1 (jM Xn a1) ?_
    first
     | refine WO.fin [0,1,5,7,70,71,72,1000005] [] [] [] (e2:=[(0,l94 none a1),(1,l41 none a2),(5,.pb 1000005 0),(7,l41 none w9.1),(70,l94 none a1),(71,I6 (a1.length:Int)),(72,.int .i64 0),(1000005,.hob 3 [] (M6 v34))]) kR (fun _ h=>h) ?_
     | refine WO.finP [0,1,5,7,70,71,72,1000005] [] [] [] (e2:=[(0,l94 none a1),(1,l41 none a2),(5,.pb 1000005 0),(7,l41 none w9.1),(70,l94 none a1),(71,I6 (a1.length:Int)),(72,.int .i64 0),(1000005,.hob 3 [] (M6 v34))]) kR ?_
     | refine WO.finN hG [0,1,5,7,70,71,72,1000005] [] [] [] (e2:=[(0,l94 none a1),(1,l41 none a2),(5,.pb 1000005 0),(7,l41 none w9.1),(70,l94 none a1),(71,I6 (a1.length:Int)),(72,.int .i64 0),(1000005,.hob 3 [] (M6 v34))]) kR ?_
    refine W.block ?_;obtain⟨hl3,h⟩:=qi h
    first
     | refine W.weak [0,1,5,7,70,71,72,1000005] [] [] [] (env':=[(0,l94 none a1),(1,l41 none a2),(5,.pb 1000005 0),(7,l41 none w9.1),(70,l94 none a1),(71,I6 (a1.length:Int)),(72,I6 ((0:Nat):Int)),(1000005,.hob 3 [] (M6 v34))]) kR ?_
     | refine CodeP.weakP [0,1,5,7,70,71,72,1000005] [] [] [] (env':=[(0,l94 none a1),(1,l41 none a2),(5,.pb 1000005 0),(7,l41 none w9.1),(70,l94 none a1),(71,I6 (a1.length:Int)),(72,I6 ((0:Nat):Int)),(1000005,.hob 3 [] (M6 v34))]) kR ?_
    let y1:Env:=[(1000005,.hob 3 [] (M6 v34))];let z6:=fun t=>z1 ((70,l94 none a1)::(71,I6 (a1.length:Int))::t);refine W.range (σ:=Unit) a1 (fun k3 s=>z6 ((72,I6 (k3:Int))::y1)) (fun r0 k0 s=>qO w9 v34 (jd fuel a1 a2 w9) r0 k0=some r) (fun s h=>?_) (fun x3 r3 k3 s hx3 hk3 h hN3=>?_) () h
    ·rw[qO.eq_1]at h
     first | refine W.seq ?_ | refine CodeP.seqW mixedP ?_
     first | refine W.region kR ?_ | refine CodeP.of mixedP (W.region kR ?_)
     refine WO.pq 0 (jB (qM (l:=a1))) ?_
     first
      | refine WO.fin ([0,1,5,7,70,71,72,73,1000005]) [] [] [] (e2:=[(0,l94 none a1),(1,l41 none a2),(5,.pb 1000005 0),(7,l41 none w9.1),(70,l94 none a1),(71,I6 (a1.length:Int)),(72,I6 ((a1).length:Int)),(73,.bool false),(1000005,.hob 3 [] (M6 v34))]) kR (fun _ h=>h) ?_
      | refine WO.finP ([0,1,5,7,70,71,72,73,1000005]) [] [] [] (e2:=[(0,l94 none a1),(1,l41 none a2),(5,.pb 1000005 0),(7,l41 none w9.1),(70,l94 none a1),(71,I6 (a1.length:Int)),(72,I6 ((a1).length:Int)),(73,.bool false),(1000005,.hob 3 [] (M6 v34))]) kR ?_
      | refine WO.finN hG ([0,1,5,7,70,71,72,73,1000005]) [] [] [] (e2:=[(0,l94 none a1),(1,l41 none a2),(5,.pb 1000005 0),(7,l41 none w9.1),(70,l94 none a1),(71,I6 (a1.length:Int)),(72,I6 ((a1).length:Int)),(73,.bool false),(1000005,.hob 3 [] (M6 v34))]) kR ?_
     first | refine W.seq ?_ | refine CodeP.seqW mixedP ?_
     first
      | refine W.condB false kR (fun h=>A2 h) (fun _=>?_)
      | refine CodeP.of mixedP (W.condB false kR (fun h=>A2 h) (fun _=>?_))
     first
      | refine W.exit ?_
      | refine CodeP.of mixedP (W.exit ?_)
     first
      | refine W.weak [0,1,7] [] [] [] (env':=[(0,l94 none a1),(1,l41 none a2),(7,l41 none w9.1)]) kR ?_
      | refine CodeP.weakP [0,1,7] [] [] [] (env':=[(0,l94 none a1),(1,l41 none a2),(7,l41 none w9.1)]) kR ?_
     exact hK35 () h
    rw[qO.eq_2]at h
    first | refine W.seq ?_ | refine CodeP.seqW mixedP ?_
    first | refine W.region kR ?_ | refine CodeP.of mixedP (W.region kR ?_)
    refine WO.pq 0 (jB (qZ hk3)) ?_
    first
     | refine WO.fin ([0,1,5,7,70,71,72,73,1000005]) [] [] [] (e2:=[(0,l94 none a1),(1,l41 none a2),(5,.pb 1000005 0),(7,l41 none w9.1),(70,l94 none a1),(71,I6 (a1.length:Int)),(72,I6 (k3:Int)),(73,.bool true),(1000005,.hob 3 [] (M6 v34))]) kR (fun _ h=>h) ?_
     | refine WO.finP ([0,1,5,7,70,71,72,73,1000005]) [] [] [] (e2:=[(0,l94 none a1),(1,l41 none a2),(5,.pb 1000005 0),(7,l41 none w9.1),(70,l94 none a1),(71,I6 (a1.length:Int)),(72,I6 (k3:Int)),(73,.bool true),(1000005,.hob 3 [] (M6 v34))]) kR ?_
     | refine WO.finN hG ([0,1,5,7,70,71,72,73,1000005]) [] [] [] (e2:=[(0,l94 none a1),(1,l41 none a2),(5,.pb 1000005 0),(7,l41 none w9.1),(70,l94 none a1),(71,I6 (a1.length:Int)),(72,I6 (k3:Int)),(73,.bool true),(1000005,.hob 3 [] (M6 v34))]) kR ?_
    first | refine W.seq ?_ | refine CodeP.seqW mixedP ?_
    first
     | refine W.condB true kR (fun _=>?_) (fun h=>A2 h)
     | refine CodeP.of mixedP (W.condB true kR (fun _=>?_) (fun h=>A2 h))
    first
     | refine W.skip ?_
     | refine CodeP.of mixedP (W.skip ?_)
    first
     | refine W.weak [0,1,5,7,70,71,72,1000005] [] [] [] (env':=[(0,l94 none a1),(1,l41 none a2),(5,.pb 1000005 0),(7,l41 none w9.1),(70,l94 none a1),(71,I6 (a1.length:Int)),(72,I6 (k3:Int)),(1000005,.hob 3 [] (M6 v34))]) kR ?_
     | refine CodeP.weakP [0,1,5,7,70,71,72,1000005] [] [] [] (env':=[(0,l94 none a1),(1,l41 none a2),(5,.pb 1000005 0),(7,l41 none w9.1),(70,l94 none a1),(71,I6 (a1.length:Int)),(72,I6 (k3:Int)),(1000005,.hob 3 [] (M6 v34))]) kR ?_
    first | refine W.seq ?_ | refine CodeP.seqW mixedP ?_
    refine W.block ?_
    first | refine W.seq ?_ | refine CodeP.seqW mixedP ?_
    first | refine W.region kR ?_ | refine CodeP.of mixedP (W.region kR ?_)
    refine WO.pq 0 (ja (f:=Xn) hx3) ?_
    first
     | refine WO.fin [0,1,5,7,13,70,71,72,1000005] [13] [] [] (e2:=[(0,l94 none a1),(1,l41 none a2),(5,.pb 1000005 0),(7,l41 none w9.1),(13,.ptr (.agg [I6 x3.qf.qb,l3 none x3.qf.qa,l96 none x3.qc])),(70,l94 none a1),(71,I6 (a1.length:Int)),(72,I6 (k3:Int)),(1000005,.hob 3 [] (M6 v34))]) kR (fun _ h=>h) ?_
     | refine WO.finP [0,1,5,7,13,70,71,72,1000005] [13] [] [] (e2:=[(0,l94 none a1),(1,l41 none a2),(5,.pb 1000005 0),(7,l41 none w9.1),(13,.ptr (.agg [I6 x3.qf.qb,l3 none x3.qf.qa,l96 none x3.qc])),(70,l94 none a1),(71,I6 (a1.length:Int)),(72,I6 (k3:Int)),(1000005,.hob 3 [] (M6 v34))]) kR ?_
     | refine WO.finN hG [0,1,5,7,13,70,71,72,1000005] [13] [] [] (e2:=[(0,l94 none a1),(1,l41 none a2),(5,.pb 1000005 0),(7,l41 none w9.1),(13,.ptr (.agg [I6 x3.qf.qb,l3 none x3.qf.qa,l96 none x3.qc])),(70,l94 none a1),(71,I6 (a1.length:Int)),(72,I6 (k3:Int)),(1000005,.hob 3 [] (M6 v34))]) kR ?_
    first | refine W.seq ?_ | refine CodeP.seqW mixedP ?_
    first
     | refine W.regT [0,1,5,7,13,14,70,71,72,1000005] [] [] [] (e2:=[(0,l94 none a1),(1,l41 none a2),(5,.pb 1000005 0),(7,l41 none w9.1),(13,.ptr (.agg [I6 x3.qf.qb,l3 none x3.qf.qa,l96 none x3.qc])),(14,.bool true),(70,l94 none a1),(71,I6 (a1.length:Int)),(72,I6 (k3:Int)),(1000005,.hob 3 [] (M6 v34))]) kR kR (fun _ h=>h) ?_
     | refine W.regPT [0,1,5,7,13,14,70,71,72,1000005] [] [] [] (e2:=[(0,l94 none a1),(1,l41 none a2),(5,.pb 1000005 0),(7,l41 none w9.1),(13,.ptr (.agg [I6 x3.qf.qb,l3 none x3.qf.qa,l96 none x3.qc])),(14,.bool true),(70,l94 none a1),(71,I6 (a1.length:Int)),(72,I6 (k3:Int)),(1000005,.hob 3 [] (M6 v34))]) kR kR ?_
    first | refine W.seq ?_ | refine CodeP.seqW mixedP ?_
    let z7:=fun t=>z1 ((13,.ptr (.agg [I6 x3.qf.qb,l3 none x3.qf.qa,l96 none x3.qc]))::t);refine W.join (σ:=(Bool)) (fun s=>z7 ((14,.bool s)::(70,l94 none a1)::(71,I6 (a1.length:Int))::(72,I6 (k3:Int))::y1)) (fun s=>(jO x3 w9 v34 (qO w9 v34 (jd fuel a1 a2 w9) r3 (k3+1))) s=some r) (fun v49 h=>?_) (fun hK40=>?_)
    ·unfold jO at h
     first | refine W.seq ?_ | refine CodeP.seqW mixedP ?_
     refine W.join (σ:=(Bool)) (fun s=>z6 ((72,I6 (k3:Int))::(105,.bool s)::y1)) (fun s=>(JV (qO w9 v34 (jd fuel a1 a2 w9) r3 (k3+1))) s=some r) (fun v54 h=>?_) (fun hK50=>?_)
     ·unfold JV at h
      first
       | refine W.condB v54 kR (fun hb=>?_) (fun hb=>?_)
       | refine CodeP.of mixedP (W.condB v54 kR (fun hb=>?_) (fun hb=>?_))
      ·replace h:=qfx hb h
       first | refine W.seq ?_ | refine CodeP.seqW mixedP ?_
       first
        | refine W.regT [6] [] [] [] (e2:=[(6,.bool false)]) kR kR (fun _ h=>h) ?_
        | refine W.regPT [6] [] [] [] (e2:=[(6,.bool false)]) kR kR ?_
       first
        | refine W.weak [6] [] [] [] (env':=[(6,.bool false)]) kR ?_
        | refine CodeP.weakP [6] [] [] [] (env':=[(6,.bool false)]) kR ?_
       have hr:jJ Try.prog Try.f14 [(6,.bool false)]=some (.bool false):=by kernel_rfl
       cases h
       first | exact W.ret hr | exact CodeP.of mixedP (W.ret hr)
      replace h:=qfy hb h
      first
       | refine W.skip ?_
       | refine CodeP.of mixedP (W.skip ?_)
      first
       | refine W.weak [0,1,5,7,70,71,72,1000005] [] [] [] (env':=[(0,l94 none a1),(1,l41 none a2),(5,.pb 1000005 0),(7,l41 none w9.1),(70,l94 none a1),(71,I6 (a1.length:Int)),(72,I6 (k3:Int)),(1000005,.hob 3 [] (M6 v34))]) kR ?_
       | refine CodeP.weakP [0,1,5,7,70,71,72,1000005] [] [] [] (env':=[(0,l94 none a1),(1,l41 none a2),(5,.pb 1000005 0),(7,l41 none w9.1),(70,l94 none a1),(71,I6 (a1.length:Int)),(72,I6 (k3:Int)),(1000005,.hob 3 [] (M6 v34))]) kR ?_
      first | refine W.region kR ?_ | refine CodeP.of mixedP (W.region kR ?_)
      refine WO.pq 0 (jI (qC hl3 hk3)) ?_
      first
       | refine WO.fin [0,1,5,7,70,71,72,1000005] [] [] [] (e2:=[(0,l94 none a1),(1,l41 none a2),(5,.pb 1000005 0),(7,l41 none w9.1),(70,l94 none a1),(71,I6 (a1.length:Int)),(72,I6 ((k3+1:Nat):Int)),(1000005,.hob 3 [] (M6 v34))]) kR (fun _ h=>h) ?_
       | refine WO.finP [0,1,5,7,70,71,72,1000005] [] [] [] (e2:=[(0,l94 none a1),(1,l41 none a2),(5,.pb 1000005 0),(7,l41 none w9.1),(70,l94 none a1),(71,I6 (a1.length:Int)),(72,I6 ((k3+1:Nat):Int)),(1000005,.hob 3 [] (M6 v34))]) kR ?_
       | refine WO.finN hG [0,1,5,7,70,71,72,1000005] [] [] [] (e2:=[(0,l94 none a1),(1,l41 none a2),(5,.pb 1000005 0),(7,l41 none w9.1),(70,l94 none a1),(71,I6 (a1.length:Int)),(72,I6 ((k3+1:Nat):Int)),(1000005,.hob 3 [] (M6 v34))]) kR ?_
      exact hN3 () h
     first | refine W.region kR ?_ | refine CodeP.of mixedP (W.region kR ?_)
     refine WO.bh 2 (fun b=>z7 ((14,.bool b)::(70,l94 none a1)::(71,I6 (a1.length:Int))::(72,I6 (k3:Int))::(96,.bool b)::(97,.bool b)::y1)) v49 h (fun h=>?_) (fun h=>?_)
     ·obtain⟨hc51,h⟩:=qi h;refine WO.pk 3 (cut Try.prog 90 (M6 v34) 0) (Vy (qX .i64) (sz:=8) kR (of_decide_eq_true hc51)) ?_;obtain⟨w52,hw52,h⟩:=qd h;refine WO.ck 0 (F:=53) (l:=[.agg [I6 x3.qf.qb,l3 none x3.qf.qa],.agg (M6 v34)]) (C:=[]) (r:=.agg [I6 w52.qb,l3 none w52.qa]) (NI x3.qf v34 w52 hw52) ?_;obtain⟨w53,hw53,h⟩:=qd h;refine WO.ck 0 (F:=27) (l:=[l41 none w9.1,.agg [I6 w52.qb,l3 none w52.qa]]) (C:=[]) (r:=.bool w53) (VE w9.1 w52 w53 hw53) ?_
      first
       | refine WO.fin [0,1,5,7,70,71,72,105,1000005] [] [] [] (e2:=[(0,l94 none a1),(1,l41 none a2),(5,.pb 1000005 0),(7,l41 none w9.1),(70,l94 none a1),(71,I6 (a1.length:Int)),(72,I6 (k3:Int)),(105,.bool (!w53)),(1000005,.hob 3 [] (M6 v34))]) kR (fun _ h=>h) ?_
       | refine WO.finP [0,1,5,7,70,71,72,105,1000005] [] [] [] (e2:=[(0,l94 none a1),(1,l41 none a2),(5,.pb 1000005 0),(7,l41 none w9.1),(70,l94 none a1),(71,I6 (a1.length:Int)),(72,I6 (k3:Int)),(105,.bool (!w53)),(1000005,.hob 3 [] (M6 v34))]) kR ?_
       | refine WO.finN hG [0,1,5,7,70,71,72,105,1000005] [] [] [] (e2:=[(0,l94 none a1),(1,l41 none a2),(5,.pb 1000005 0),(7,l41 none w9.1),(70,l94 none a1),(71,I6 (a1.length:Int)),(72,I6 (k3:Int)),(105,.bool (!w53)),(1000005,.hob 3 [] (M6 v34))]) kR ?_
      exact hK50 (!w53) h
     first
      | refine WO.fin [0,1,5,7,70,71,72,105,1000005] [] [] [] (e2:=[(0,l94 none a1),(1,l41 none a2),(5,.pb 1000005 0),(7,l41 none w9.1),(70,l94 none a1),(71,I6 (a1.length:Int)),(72,I6 (k3:Int)),(105,.bool false),(1000005,.hob 3 [] (M6 v34))]) kR (fun _ h=>h) ?_
      | refine WO.finP [0,1,5,7,70,71,72,105,1000005] [] [] [] (e2:=[(0,l94 none a1),(1,l41 none a2),(5,.pb 1000005 0),(7,l41 none w9.1),(70,l94 none a1),(71,I6 (a1.length:Int)),(72,I6 (k3:Int)),(105,.bool false),(1000005,.hob 3 [] (M6 v34))]) kR ?_
      | refine WO.finN hG [0,1,5,7,70,71,72,105,1000005] [] [] [] (e2:=[(0,l94 none a1),(1,l41 none a2),(5,.pb 1000005 0),(7,l41 none w9.1),(70,l94 none a1),(71,I6 (a1.length:Int)),(72,I6 (k3:Int)),(105,.bool false),(1000005,.hob 3 [] (M6 v34))]) kR ?_
     exact hK50 false h
    first | refine W.seq ?_ | refine CodeP.seqW mixedP ?_
    first | refine W.region kR ?_ | refine CodeP.of mixedP (W.region kR ?_)
    refine WO.pq 2 (jM XF x3.qc) ?_
    first
     | refine WO.fin [0,1,5,7,13,14,70,71,72,77,78,79,1000005] [] [] [] (e2:=[(0,l94 none a1),(1,l41 none a2),(5,.pb 1000005 0),(7,l41 none w9.1),(13,.ptr (.agg [I6 x3.qf.qb,l3 none x3.qf.qa,l96 none x3.qc])),(14,.bool true),(70,l94 none a1),(71,I6 (a1.length:Int)),(72,I6 (k3:Int)),(77,l96 none x3.qc),(78,I6 (x3.qc.length:Int)),(79,.int .i64 0),(1000005,.hob 3 [] (M6 v34))]) kR (fun _ h=>h) ?_
     | refine WO.finP [0,1,5,7,13,14,70,71,72,77,78,79,1000005] [] [] [] (e2:=[(0,l94 none a1),(1,l41 none a2),(5,.pb 1000005 0),(7,l41 none w9.1),(13,.ptr (.agg [I6 x3.qf.qb,l3 none x3.qf.qa,l96 none x3.qc])),(14,.bool true),(70,l94 none a1),(71,I6 (a1.length:Int)),(72,I6 (k3:Int)),(77,l96 none x3.qc),(78,I6 (x3.qc.length:Int)),(79,.int .i64 0),(1000005,.hob 3 [] (M6 v34))]) kR ?_
     | refine WO.finN hG [0,1,5,7,13,14,70,71,72,77,78,79,1000005] [] [] [] (e2:=[(0,l94 none a1),(1,l41 none a2),(5,.pb 1000005 0),(7,l41 none w9.1),(13,.ptr (.agg [I6 x3.qf.qb,l3 none x3.qf.qa,l96 none x3.qc])),(14,.bool true),(70,l94 none a1),(71,I6 (a1.length:Int)),(72,I6 (k3:Int)),(77,l96 none x3.qc),(78,I6 (x3.qc.length:Int)),(79,.int .i64 0),(1000005,.hob 3 [] (M6 v34))]) kR ?_
    refine W.block ?_;obtain⟨hl4,h⟩:=qi h
    first
     | refine W.weak [0,1,5,7,13,14,70,71,72,77,78,79,1000005] [] [] [] (env':=[(0,l94 none a1),(1,l41 none a2),(5,.pb 1000005 0),(7,l41 none w9.1),(13,.ptr (.agg [I6 x3.qf.qb,l3 none x3.qf.qa,l96 none x3.qc])),(14,.bool true),(70,l94 none a1),(71,I6 (a1.length:Int)),(72,I6 (k3:Int)),(77,l96 none x3.qc),(78,I6 (x3.qc.length:Int)),(79,I6 ((0:Nat):Int)),(1000005,.hob 3 [] (M6 v34))]) kR ?_
     | refine CodeP.weakP [0,1,5,7,13,14,70,71,72,77,78,79,1000005] [] [] [] (env':=[(0,l94 none a1),(1,l41 none a2),(5,.pb 1000005 0),(7,l41 none w9.1),(13,.ptr (.agg [I6 x3.qf.qb,l3 none x3.qf.qa,l96 none x3.qc])),(14,.bool true),(70,l94 none a1),(71,I6 (a1.length:Int)),(72,I6 (k3:Int)),(77,l96 none x3.qc),(78,I6 (x3.qc.length:Int)),(79,I6 ((0:Nat):Int)),(1000005,.hob 3 [] (M6 v34))]) kR ?_
    refine W.range (σ:=(Bool)) x3.qc (fun k4 s=>z7 ((14,.bool s)::(70,l94 none a1)::(71,I6 (a1.length:Int))::(72,I6 (k3:Int))::(77,l96 none x3.qc)::(78,I6 (x3.qc.length:Int))::(79,I6 (k4:Int))::y1)) (fun r0 k0 s=>qY w9 v34 (jO x3 w9 v34 (qO w9 v34 (jd fuel a1 a2 w9) r3 (k3+1))) r0 k0 s=some r) (fun v42 h=>?_) (fun x4 r4 k4 s hx4 hk4 h hN4=>?_) true h
    ·rw[qY.eq_1]at h
     first | refine W.seq ?_ | refine CodeP.seqW mixedP ?_
     first | refine W.region kR ?_ | refine CodeP.of mixedP (W.region kR ?_)
     refine WO.pq 0 (jB (qM (l:=x3.qc))) ?_
     first
      | refine WO.fin ([0,1,5,7,13,14,70,71,72,77,78,79,80,1000005]) [] [] [] (e2:=[(0,l94 none a1),(1,l41 none a2),(5,.pb 1000005 0),(7,l41 none w9.1),(13,.ptr (.agg [I6 x3.qf.qb,l3 none x3.qf.qa,l96 none x3.qc])),(14,.bool v42),(70,l94 none a1),(71,I6 (a1.length:Int)),(72,I6 (k3:Int)),(77,l96 none x3.qc),(78,I6 (x3.qc.length:Int)),(79,I6 ((x3.qc).length:Int)),(80,.bool false),(1000005,.hob 3 [] (M6 v34))]) kR (fun _ h=>h) ?_
      | refine WO.finP ([0,1,5,7,13,14,70,71,72,77,78,79,80,1000005]) [] [] [] (e2:=[(0,l94 none a1),(1,l41 none a2),(5,.pb 1000005 0),(7,l41 none w9.1),(13,.ptr (.agg [I6 x3.qf.qb,l3 none x3.qf.qa,l96 none x3.qc])),(14,.bool v42),(70,l94 none a1),(71,I6 (a1.length:Int)),(72,I6 (k3:Int)),(77,l96 none x3.qc),(78,I6 (x3.qc.length:Int)),(79,I6 ((x3.qc).length:Int)),(80,.bool false),(1000005,.hob 3 [] (M6 v34))]) kR ?_
      | refine WO.finN hG ([0,1,5,7,13,14,70,71,72,77,78,79,80,1000005]) [] [] [] (e2:=[(0,l94 none a1),(1,l41 none a2),(5,.pb 1000005 0),(7,l41 none w9.1),(13,.ptr (.agg [I6 x3.qf.qb,l3 none x3.qf.qa,l96 none x3.qc])),(14,.bool v42),(70,l94 none a1),(71,I6 (a1.length:Int)),(72,I6 (k3:Int)),(77,l96 none x3.qc),(78,I6 (x3.qc.length:Int)),(79,I6 ((x3.qc).length:Int)),(80,.bool false),(1000005,.hob 3 [] (M6 v34))]) kR ?_
     first | refine W.seq ?_ | refine CodeP.seqW mixedP ?_
     first
      | refine W.condB false kR (fun h=>A2 h) (fun _=>?_)
      | refine CodeP.of mixedP (W.condB false kR (fun h=>A2 h) (fun _=>?_))
     first
      | refine W.exit ?_
      | refine CodeP.of mixedP (W.exit ?_)
     first
      | refine W.weak [0,1,5,7,13,14,70,71,72,1000005] [] [] [] (env':=[(0,l94 none a1),(1,l41 none a2),(5,.pb 1000005 0),(7,l41 none w9.1),(13,.ptr (.agg [I6 x3.qf.qb,l3 none x3.qf.qa,l96 none x3.qc])),(14,.bool v42),(70,l94 none a1),(71,I6 (a1.length:Int)),(72,I6 (k3:Int)),(1000005,.hob 3 [] (M6 v34))]) kR ?_
      | refine CodeP.weakP [0,1,5,7,13,14,70,71,72,1000005] [] [] [] (env':=[(0,l94 none a1),(1,l41 none a2),(5,.pb 1000005 0),(7,l41 none w9.1),(13,.ptr (.agg [I6 x3.qf.qb,l3 none x3.qf.qa,l96 none x3.qc])),(14,.bool v42),(70,l94 none a1),(71,I6 (a1.length:Int)),(72,I6 (k3:Int)),(1000005,.hob 3 [] (M6 v34))]) kR ?_
     exact hK40 v42 h
    obtain⟨v42,rfl⟩:∃ x,x=s:=⟨s,rfl⟩;rw[qY.eq_2]at h
    first | refine W.seq ?_ | refine CodeP.seqW mixedP ?_
    first | refine W.region kR ?_ | refine CodeP.of mixedP (W.region kR ?_)
    refine WO.pq 0 (jB (qZ hk4)) ?_
    first
     | refine WO.fin ([0,1,5,7,13,14,70,71,72,77,78,79,80,1000005]) [] [] [] (e2:=[(0,l94 none a1),(1,l41 none a2),(5,.pb 1000005 0),(7,l41 none w9.1),(13,.ptr (.agg [I6 x3.qf.qb,l3 none x3.qf.qa,l96 none x3.qc])),(14,.bool v42),(70,l94 none a1),(71,I6 (a1.length:Int)),(72,I6 (k3:Int)),(77,l96 none x3.qc),(78,I6 (x3.qc.length:Int)),(79,I6 (k4:Int)),(80,.bool true),(1000005,.hob 3 [] (M6 v34))]) kR (fun _ h=>h) ?_
     | refine WO.finP ([0,1,5,7,13,14,70,71,72,77,78,79,80,1000005]) [] [] [] (e2:=[(0,l94 none a1),(1,l41 none a2),(5,.pb 1000005 0),(7,l41 none w9.1),(13,.ptr (.agg [I6 x3.qf.qb,l3 none x3.qf.qa,l96 none x3.qc])),(14,.bool v42),(70,l94 none a1),(71,I6 (a1.length:Int)),(72,I6 (k3:Int)),(77,l96 none x3.qc),(78,I6 (x3.qc.length:Int)),(79,I6 (k4:Int)),(80,.bool true),(1000005,.hob 3 [] (M6 v34))]) kR ?_
     | refine WO.finN hG ([0,1,5,7,13,14,70,71,72,77,78,79,80,1000005]) [] [] [] (e2:=[(0,l94 none a1),(1,l41 none a2),(5,.pb 1000005 0),(7,l41 none w9.1),(13,.ptr (.agg [I6 x3.qf.qb,l3 none x3.qf.qa,l96 none x3.qc])),(14,.bool v42),(70,l94 none a1),(71,I6 (a1.length:Int)),(72,I6 (k3:Int)),(77,l96 none x3.qc),(78,I6 (x3.qc.length:Int)),(79,I6 (k4:Int)),(80,.bool true),(1000005,.hob 3 [] (M6 v34))]) kR ?_
    first | refine W.seq ?_ | refine CodeP.seqW mixedP ?_
    first
     | refine W.condB true kR (fun _=>?_) (fun h=>A2 h)
     | refine CodeP.of mixedP (W.condB true kR (fun _=>?_) (fun h=>A2 h))
    first
     | refine W.skip ?_
     | refine CodeP.of mixedP (W.skip ?_)
    first
     | refine W.weak [0,1,5,7,13,14,70,71,72,77,78,79,1000005] [] [] [] (env':=[(0,l94 none a1),(1,l41 none a2),(5,.pb 1000005 0),(7,l41 none w9.1),(13,.ptr (.agg [I6 x3.qf.qb,l3 none x3.qf.qa,l96 none x3.qc])),(14,.bool v42),(70,l94 none a1),(71,I6 (a1.length:Int)),(72,I6 (k3:Int)),(77,l96 none x3.qc),(78,I6 (x3.qc.length:Int)),(79,I6 (k4:Int)),(1000005,.hob 3 [] (M6 v34))]) kR ?_
     | refine CodeP.weakP [0,1,5,7,13,14,70,71,72,77,78,79,1000005] [] [] [] (env':=[(0,l94 none a1),(1,l41 none a2),(5,.pb 1000005 0),(7,l41 none w9.1),(13,.ptr (.agg [I6 x3.qf.qb,l3 none x3.qf.qa,l96 none x3.qc])),(14,.bool v42),(70,l94 none a1),(71,I6 (a1.length:Int)),(72,I6 (k3:Int)),(77,l96 none x3.qc),(78,I6 (x3.qc.length:Int)),(79,I6 (k4:Int)),(1000005,.hob 3 [] (M6 v34))]) kR ?_
    first | refine W.seq ?_ | refine CodeP.seqW mixedP ?_
    refine W.join (σ:=(Bool)) (fun s=>z7 ((14,.bool s)::(70,l94 none a1)::(71,I6 (a1.length:Int))::(72,I6 (k3:Int))::(77,l96 none x3.qc)::(78,I6 (x3.qc.length:Int))::(79,I6 (k4:Int))::y1)) (fun s=>(JW (qY w9 v34 (jO x3 w9 v34 (qO w9 v34 (jd fuel a1 a2 w9) r3 (k3+1))) r4 (k4+1))) s=some r) (fun v48 h=>?_) (fun hK43=>?_)
    ·unfold JW at h
     first | refine W.region kR ?_ | refine CodeP.of mixedP (W.region kR ?_)
     refine WO.pq 0 (jI (qC hl4 hk4)) ?_
     first
      | refine WO.fin [0,1,5,7,13,14,70,71,72,77,78,79,1000005] [] [] [] (e2:=[(0,l94 none a1),(1,l41 none a2),(5,.pb 1000005 0),(7,l41 none w9.1),(13,.ptr (.agg [I6 x3.qf.qb,l3 none x3.qf.qa,l96 none x3.qc])),(14,.bool v48),(70,l94 none a1),(71,I6 (a1.length:Int)),(72,I6 (k3:Int)),(77,l96 none x3.qc),(78,I6 (x3.qc.length:Int)),(79,I6 ((k4+1:Nat):Int)),(1000005,.hob 3 [] (M6 v34))]) kR (fun _ h=>h) ?_
      | refine WO.finP [0,1,5,7,13,14,70,71,72,77,78,79,1000005] [] [] [] (e2:=[(0,l94 none a1),(1,l41 none a2),(5,.pb 1000005 0),(7,l41 none w9.1),(13,.ptr (.agg [I6 x3.qf.qb,l3 none x3.qf.qa,l96 none x3.qc])),(14,.bool v48),(70,l94 none a1),(71,I6 (a1.length:Int)),(72,I6 (k3:Int)),(77,l96 none x3.qc),(78,I6 (x3.qc.length:Int)),(79,I6 ((k4+1:Nat):Int)),(1000005,.hob 3 [] (M6 v34))]) kR ?_
      | refine WO.finN hG [0,1,5,7,13,14,70,71,72,77,78,79,1000005] [] [] [] (e2:=[(0,l94 none a1),(1,l41 none a2),(5,.pb 1000005 0),(7,l41 none w9.1),(13,.ptr (.agg [I6 x3.qf.qb,l3 none x3.qf.qa,l96 none x3.qc])),(14,.bool v48),(70,l94 none a1),(71,I6 (a1.length:Int)),(72,I6 (k3:Int)),(77,l96 none x3.qc),(78,I6 (x3.qc.length:Int)),(79,I6 ((k4+1:Nat):Int)),(1000005,.hob 3 [] (M6 v34))]) kR ?_
     exact hN4 v48 h
    refine W.block ?_
    first | refine W.seq ?_ | refine CodeP.seqW mixedP ?_
    first | refine W.region kR ?_ | refine CodeP.of mixedP (W.region kR ?_)
    refine WO.pq 0 (ja (f:=XF) hx4) ?_
    first
     | refine WO.fin [0,1,5,7,13,14,16,70,71,72,77,78,79,1000005] [16] [] [] (e2:=[(0,l94 none a1),(1,l41 none a2),(5,.pb 1000005 0),(7,l41 none w9.1),(13,.ptr (.agg [I6 x3.qf.qb,l3 none x3.qf.qa,l96 none x3.qc])),(14,.bool v42),(16,.ptr (.agg [.bool x4.qr,I6 x4.qe.qb,l3 none x4.qe.qa])),(70,l94 none a1),(71,I6 (a1.length:Int)),(72,I6 (k3:Int)),(77,l96 none x3.qc),(78,I6 (x3.qc.length:Int)),(79,I6 (k4:Int)),(1000005,.hob 3 [] (M6 v34))]) kR (fun _ h=>h) ?_
     | refine WO.finP [0,1,5,7,13,14,16,70,71,72,77,78,79,1000005] [16] [] [] (e2:=[(0,l94 none a1),(1,l41 none a2),(5,.pb 1000005 0),(7,l41 none w9.1),(13,.ptr (.agg [I6 x3.qf.qb,l3 none x3.qf.qa,l96 none x3.qc])),(14,.bool v42),(16,.ptr (.agg [.bool x4.qr,I6 x4.qe.qb,l3 none x4.qe.qa])),(70,l94 none a1),(71,I6 (a1.length:Int)),(72,I6 (k3:Int)),(77,l96 none x3.qc),(78,I6 (x3.qc.length:Int)),(79,I6 (k4:Int)),(1000005,.hob 3 [] (M6 v34))]) kR ?_
     | refine WO.finN hG [0,1,5,7,13,14,16,70,71,72,77,78,79,1000005] [16] [] [] (e2:=[(0,l94 none a1),(1,l41 none a2),(5,.pb 1000005 0),(7,l41 none w9.1),(13,.ptr (.agg [I6 x3.qf.qb,l3 none x3.qf.qa,l96 none x3.qc])),(14,.bool v42),(16,.ptr (.agg [.bool x4.qr,I6 x4.qe.qb,l3 none x4.qe.qa])),(70,l94 none a1),(71,I6 (a1.length:Int)),(72,I6 (k3:Int)),(77,l96 none x3.qc),(78,I6 (x3.qc.length:Int)),(79,I6 (k4:Int)),(1000005,.hob 3 [] (M6 v34))]) kR ?_
    first | refine W.region kR ?_ | refine CodeP.of mixedP (W.region kR ?_)
    refine WO.bh 2 (fun b=>z7 ((14,.bool b)::(16,.ptr (.agg [.bool x4.qr,I6 x4.qe.qb,l3 none x4.qe.qa]))::(70,l94 none a1)::(71,I6 (a1.length:Int))::(72,I6 (k3:Int))::(77,l96 none x3.qc)::(78,I6 (x3.qc.length:Int))::(79,I6 (k4:Int))::(83,.bool b)::(84,.bool b)::y1)) v42 h (fun h=>?_) (fun h=>?_)
    ·obtain⟨hc45,h⟩:=qi h;refine WO.pk 3 (cut Try.prog 90 (M6 v34) 0) (Vy (qX .i64) (sz:=8) kR (of_decide_eq_true hc45)) ?_;obtain⟨w46,hw46,h⟩:=qd h;refine WO.ck 0 (F:=53) (l:=[.agg [I6 x4.qe.qb,l3 none x4.qe.qa],.agg (M6 v34)]) (C:=[]) (r:=.agg [I6 w46.qb,l3 none w46.qa]) (NI x4.qe v34 w46 hw46) ?_;obtain⟨w47,hw47,h⟩:=qd h;refine WO.ck 0 (F:=27) (l:=[l41 none w9.1,.agg [I6 w46.qb,l3 none w46.qa]]) (C:=[]) (r:=.bool w47) (VE w9.1 w46 w47 hw47) ?_
     first
      | refine WO.fin [0,1,5,7,13,14,70,71,72,77,78,79,1000005] [] [] [] (e2:=[(0,l94 none a1),(1,l41 none a2),(5,.pb 1000005 0),(7,l41 none w9.1),(13,.ptr (.agg [I6 x3.qf.qb,l3 none x3.qf.qa,l96 none x3.qc])),(14,.bool (!(w47 == x4.qr))),(70,l94 none a1),(71,I6 (a1.length:Int)),(72,I6 (k3:Int)),(77,l96 none x3.qc),(78,I6 (x3.qc.length:Int)),(79,I6 (k4:Int)),(1000005,.hob 3 [] (M6 v34))]) kR (fun _ h=>h) ?_
      | refine WO.finP [0,1,5,7,13,14,70,71,72,77,78,79,1000005] [] [] [] (e2:=[(0,l94 none a1),(1,l41 none a2),(5,.pb 1000005 0),(7,l41 none w9.1),(13,.ptr (.agg [I6 x3.qf.qb,l3 none x3.qf.qa,l96 none x3.qc])),(14,.bool (!(w47 == x4.qr))),(70,l94 none a1),(71,I6 (a1.length:Int)),(72,I6 (k3:Int)),(77,l96 none x3.qc),(78,I6 (x3.qc.length:Int)),(79,I6 (k4:Int)),(1000005,.hob 3 [] (M6 v34))]) kR ?_
      | refine WO.finN hG [0,1,5,7,13,14,70,71,72,77,78,79,1000005] [] [] [] (e2:=[(0,l94 none a1),(1,l41 none a2),(5,.pb 1000005 0),(7,l41 none w9.1),(13,.ptr (.agg [I6 x3.qf.qb,l3 none x3.qf.qa,l96 none x3.qc])),(14,.bool (!(w47 == x4.qr))),(70,l94 none a1),(71,I6 (a1.length:Int)),(72,I6 (k3:Int)),(77,l96 none x3.qc),(78,I6 (x3.qc.length:Int)),(79,I6 (k4:Int)),(1000005,.hob 3 [] (M6 v34))]) kR ?_
     exact hK43 (!(w47 == x4.qr)) h
    first
     | refine WO.fin [0,1,5,7,13,14,70,71,72,77,78,79,1000005] [] [] [] (e2:=[(0,l94 none a1),(1,l41 none a2),(5,.pb 1000005 0),(7,l41 none w9.1),(13,.ptr (.agg [I6 x3.qf.qb,l3 none x3.qf.qa,l96 none x3.qc])),(14,.bool false),(70,l94 none a1),(71,I6 (a1.length:Int)),(72,I6 (k3:Int)),(77,l96 none x3.qc),(78,I6 (x3.qc.length:Int)),(79,I6 (k4:Int)),(1000005,.hob 3 [] (M6 v34))]) kR (fun _ h=>h) ?_
     | refine WO.finP [0,1,5,7,13,14,70,71,72,77,78,79,1000005] [] [] [] (e2:=[(0,l94 none a1),(1,l41 none a2),(5,.pb 1000005 0),(7,l41 none w9.1),(13,.ptr (.agg [I6 x3.qf.qb,l3 none x3.qf.qa,l96 none x3.qc])),(14,.bool false),(70,l94 none a1),(71,I6 (a1.length:Int)),(72,I6 (k3:Int)),(77,l96 none x3.qc),(78,I6 (x3.qc.length:Int)),(79,I6 (k4:Int)),(1000005,.hob 3 [] (M6 v34))]) kR ?_
     | refine WO.finN hG [0,1,5,7,13,14,70,71,72,77,78,79,1000005] [] [] [] (e2:=[(0,l94 none a1),(1,l41 none a2),(5,.pb 1000005 0),(7,l41 none w9.1),(13,.ptr (.agg [I6 x3.qf.qb,l3 none x3.qf.qa,l96 none x3.qc])),(14,.bool false),(70,l94 none a1),(71,I6 (a1.length:Int)),(72,I6 (k3:Int)),(77,l96 none x3.qc),(78,I6 (x3.qc.length:Int)),(79,I6 (k4:Int)),(1000005,.hob 3 [] (M6 v34))]) kR ?_
    exact hK43 false h
   first | refine W.seq ?_ | refine CodeP.seqW mixedP ?_
   first
    | refine W.regT [0,1,5,7,57,1000005] [] [] [] (e2:=[(0,l94 none a1),(1,l41 none a2),(5,.pb 1000005 0),(7,l41 none w9.1),(57,.int .i64 0),(1000005,.hob 3 [] (M6 a3))]) kR kR (fun _ h=>h) ?_
    | refine W.regPT [0,1,5,7,57,1000005] [] [] [] (e2:=[(0,l94 none a1),(1,l41 none a2),(5,.pb 1000005 0),(7,l41 none w9.1),(57,.int .i64 0),(1000005,.hob 3 [] (M6 a3))]) kR kR ?_
   refine W.block ?_;obtain⟨hl2,h⟩:=qi h
   first
    | refine W.weak [0,1,5,7,57,1000005] [] [] [] (env':=[(0,l94 none a1),(1,l41 none a2),(5,.pb 1000005 0),(7,l41 none w9.1),(57,I6 ((0:Nat):Int)),(1000005,.hob 3 [] (M6 a3))]) kR ?_
    | refine CodeP.weakP [0,1,5,7,57,1000005] [] [] [] (env':=[(0,l94 none a1),(1,l41 none a2),(5,.pb 1000005 0),(7,l41 none w9.1),(57,I6 ((0:Nat):Int)),(1000005,.hob 3 [] (M6 a3))]) kR ?_
   refine W.range (σ:=((List Int))) (A4 (A0 8)) (fun k2 s=>z1 [(57,I6 (k2:Int)),(1000005,.hob 3 [] (M6 s))]) (fun r0 k0 s=>jy (Jz fuel a1 a2 w9) r0 k0 s=some r) (fun v27 h=>?_) (fun x2 r2 k2 s hx2 hk2 h hN2=>?_) a3 h
   ·rw[jy.eq_1]at h
    first | refine W.seq ?_ | refine CodeP.seqW mixedP ?_
    first | refine W.region kR ?_ | refine CodeP.of mixedP (W.region kR ?_)
    refine WO.pq 0 (jB (qeh (n:=8))) ?_
    first
     | refine WO.fin ([0,1,5,7,57,58,1000005]) [] [] [] (e2:=[(0,l94 none a1),(1,l41 none a2),(5,.pb 1000005 0),(7,l41 none w9.1),(57,I6 (((A4 (A0 8))).length:Int)),(58,.bool false),(1000005,.hob 3 [] (M6 v27))]) kR (fun _ h=>h) ?_
     | refine WO.finP ([0,1,5,7,57,58,1000005]) [] [] [] (e2:=[(0,l94 none a1),(1,l41 none a2),(5,.pb 1000005 0),(7,l41 none w9.1),(57,I6 (((A4 (A0 8))).length:Int)),(58,.bool false),(1000005,.hob 3 [] (M6 v27))]) kR ?_
     | refine WO.finN hG ([0,1,5,7,57,58,1000005]) [] [] [] (e2:=[(0,l94 none a1),(1,l41 none a2),(5,.pb 1000005 0),(7,l41 none w9.1),(57,I6 (((A4 (A0 8))).length:Int)),(58,.bool false),(1000005,.hob 3 [] (M6 v27))]) kR ?_
    first | refine W.seq ?_ | refine CodeP.seqW mixedP ?_
    first
     | refine W.condB false kR (fun h=>A2 h) (fun _=>?_)
     | refine CodeP.of mixedP (W.condB false kR (fun h=>A2 h) (fun _=>?_))
    first
     | refine W.exit ?_
     | refine CodeP.of mixedP (W.exit ?_)
    first
     | refine W.weak [0,1,5,7,1000005] [] [] [] (env':=[(0,l94 none a1),(1,l41 none a2),(5,.pb 1000005 0),(7,l41 none w9.1),(1000005,.hob 3 [] (M6 v27))]) kR ?_
     | refine CodeP.weakP [0,1,5,7,1000005] [] [] [] (env':=[(0,l94 none a1),(1,l41 none a2),(5,.pb 1000005 0),(7,l41 none w9.1),(1000005,.hob 3 [] (M6 v27))]) kR ?_
    exact hK25 v27 h
   obtain⟨v27,rfl⟩:∃ x,x=s:=⟨s,rfl⟩;rw[jy.eq_2]at h
   first | refine W.seq ?_ | refine CodeP.seqW mixedP ?_
   first | refine W.region kR ?_ | refine CodeP.of mixedP (W.region kR ?_)
   refine WO.pq 0 (jB (qgt hk2)) ?_
   first
    | refine WO.fin ([0,1,5,7,57,58,1000005]) [] [] [] (e2:=[(0,l94 none a1),(1,l41 none a2),(5,.pb 1000005 0),(7,l41 none w9.1),(57,I6 (k2:Int)),(58,.bool true),(1000005,.hob 3 [] (M6 v27))]) kR (fun _ h=>h) ?_
    | refine WO.finP ([0,1,5,7,57,58,1000005]) [] [] [] (e2:=[(0,l94 none a1),(1,l41 none a2),(5,.pb 1000005 0),(7,l41 none w9.1),(57,I6 (k2:Int)),(58,.bool true),(1000005,.hob 3 [] (M6 v27))]) kR ?_
    | refine WO.finN hG ([0,1,5,7,57,58,1000005]) [] [] [] (e2:=[(0,l94 none a1),(1,l41 none a2),(5,.pb 1000005 0),(7,l41 none w9.1),(57,I6 (k2:Int)),(58,.bool true),(1000005,.hob 3 [] (M6 v27))]) kR ?_
   first | refine W.seq ?_ | refine CodeP.seqW mixedP ?_
   first
    | refine W.condB true kR (fun _=>?_) (fun h=>A2 h)
    | refine CodeP.of mixedP (W.condB true kR (fun _=>?_) (fun h=>A2 h))
   first
    | refine W.skip ?_
    | refine CodeP.of mixedP (W.skip ?_)
   first
    | refine W.weak [0,1,5,7,57,1000005] [] [] [] (env':=[(0,l94 none a1),(1,l41 none a2),(5,.pb 1000005 0),(7,l41 none w9.1),(57,I6 (k2:Int)),(1000005,.hob 3 [] (M6 v27))]) kR ?_
    | refine CodeP.weakP [0,1,5,7,57,1000005] [] [] [] (env':=[(0,l94 none a1),(1,l41 none a2),(5,.pb 1000005 0),(7,l41 none w9.1),(57,I6 (k2:Int)),(1000005,.hob 3 [] (M6 v27))]) kR ?_
   first | refine W.seq ?_ | refine CodeP.seqW mixedP ?_
   refine W.block ?_
   first | refine W.seq ?_ | refine CodeP.seqW mixedP ?_
   first
    | refine W.regT [0,1,5,7,11,57,1000005] [] [] [] (e2:=[(0,l94 none a1),(1,l41 none a2),(5,.pb 1000005 0),(7,l41 none w9.1),(11,I6 (k2:Int)),(57,I6 (k2:Int)),(1000005,.hob 3 [] (M6 v27))]) kR kR (fun _ h=>h) ?_
    | refine W.regPT [0,1,5,7,11,57,1000005] [] [] [] (e2:=[(0,l94 none a1),(1,l41 none a2),(5,.pb 1000005 0),(7,l41 none w9.1),(11,I6 (k2:Int)),(57,I6 (k2:Int)),(1000005,.hob 3 [] (M6 v27))]) kR kR ?_
   first | refine W.region kR ?_ | refine CodeP.of mixedP (W.region kR ?_)
   obtain⟨hc30,h⟩:=qi h;refine WO.pi 2 (v:=.pb 1000005 (0+A0 (k2:Int) * 1)) hc30 ?_;obtain⟨e31,he31,h⟩:=qd h;refine WO.pk 0 (cut Try.prog 3 (M6 v27) (0+A0 (k2:Int) * 1)) (ZX (qX .i64) kR he31) ?_;obtain⟨hc32,h⟩:=qi h;refine WO.pi 4 (v:=.pb 1000005 (0+A0 (k2:Int) * 1)) hc32 ?_;obtain⟨hc33,h⟩:=qi h;refine WO.setA (enc:=(AV.int .i64)) (l:=v27) (x:=(W6 (1+(W6 (((A1 .u64 e31)).tmod 6))))) (s:=1000005) (off:=(0+A0 (k2:Int) * 1)) 0 (qX .i64) hc33 (e1:=z1 [(11,I6 (k2:Int)),(57,I6 (k2:Int)),(60,I6 (k2:Int)),(61,I6 (k2:Int)),(62,.pb 1000005 (0+A0 (k2:Int) * 1)),(63,I6 e31),(64,.int .u64 (A1 .u64 e31)),(65,.int .u64 (((A1 .u64 e31)).tmod 6)),(66,I6 (W6 (((A1 .u64 e31)).tmod 6))),(67,I6 (W6 (1+(W6 (((A1 .u64 e31)).tmod 6))))),(68,.pb 1000005 (0+A0 (k2:Int) * 1)),(1000005,.hob 3 [] (M6 (v27.set (0+A0 (k2:Int) * 1) (W6 (1+(W6 (((A1 .u64 e31)).tmod 6)))))))]) ?_
   first
    | refine WO.fin [0,1,5,7,57,1000005] [] [] [] (e2:=[(0,l94 none a1),(1,l41 none a2),(5,.pb 1000005 0),(7,l41 none w9.1),(57,I6 (k2:Int)),(1000005,.hob 3 [] (M6 (v27.set (0+A0 (k2:Int) * 1) (W6 (1+(W6 (((A1 .u64 e31)).tmod 6)))))))]) kR (fun _ h=>h) ?_
    | refine WO.finP [0,1,5,7,57,1000005] [] [] [] (e2:=[(0,l94 none a1),(1,l41 none a2),(5,.pb 1000005 0),(7,l41 none w9.1),(57,I6 (k2:Int)),(1000005,.hob 3 [] (M6 (v27.set (0+A0 (k2:Int) * 1) (W6 (1+(W6 (((A1 .u64 e31)).tmod 6)))))))]) kR ?_
    | refine WO.finN hG [0,1,5,7,57,1000005] [] [] [] (e2:=[(0,l94 none a1),(1,l41 none a2),(5,.pb 1000005 0),(7,l41 none w9.1),(57,I6 (k2:Int)),(1000005,.hob 3 [] (M6 (v27.set (0+A0 (k2:Int) * 1) (W6 (1+(W6 (((A1 .u64 e31)).tmod 6)))))))]) kR ?_
   first | refine W.region kR ?_ | refine CodeP.of mixedP (W.region kR ?_)
   refine WO.pq 0 (jI (qC hl2 hk2)) ?_
   first
    | refine WO.fin [0,1,5,7,57,1000005] [] [] [] (e2:=[(0,l94 none a1),(1,l41 none a2),(5,.pb 1000005 0),(7,l41 none w9.1),(57,I6 ((k2+1:Nat):Int)),(1000005,.hob 3 [] (M6 (v27.set (0+A0 (k2:Int) * 1) (W6 (1+(W6 (((A1 .u64 e31)).tmod 6)))))))]) kR (fun _ h=>h) ?_
    | refine WO.finP [0,1,5,7,57,1000005] [] [] [] (e2:=[(0,l94 none a1),(1,l41 none a2),(5,.pb 1000005 0),(7,l41 none w9.1),(57,I6 ((k2+1:Nat):Int)),(1000005,.hob 3 [] (M6 (v27.set (0+A0 (k2:Int) * 1) (W6 (1+(W6 (((A1 .u64 e31)).tmod 6)))))))]) kR ?_
    | refine WO.finN hG [0,1,5,7,57,1000005] [] [] [] (e2:=[(0,l94 none a1),(1,l41 none a2),(5,.pb 1000005 0),(7,l41 none w9.1),(57,I6 ((k2+1:Nat):Int)),(1000005,.hob 3 [] (M6 (v27.set (0+A0 (k2:Int) * 1) (W6 (1+(W6 (((A1 .u64 e31)).tmod 6)))))))]) kR ?_
   exact hN2 (v27.set (0+A0 (k2:Int) * 1) (W6 (1+(W6 (((A1 .u64 e31)).tmod 6))))) h
  first | refine W.seq ?_ | refine CodeP.seqW mixedP ?_
  first | refine W.region kR ?_ | refine CodeP.of mixedP (W.region kR ?_)
  refine WO.pq 1 (jM qA a2) ?_
  first
   | refine WO.fin [0,1,5,7,46,47,48,1000005] [] [] [] (e2:=[(0,l94 none a1),(1,l41 none a2),(5,.pb 1000005 0),(7,l41 none w9.1),(46,l41 none a2),(47,I6 (a2.length:Int)),(48,.int .i64 0),(1000005,.hob 3 [] (M6 a3))]) kR (fun _ h=>h) ?_
   | refine WO.finP [0,1,5,7,46,47,48,1000005] [] [] [] (e2:=[(0,l94 none a1),(1,l41 none a2),(5,.pb 1000005 0),(7,l41 none w9.1),(46,l41 none a2),(47,I6 (a2.length:Int)),(48,.int .i64 0),(1000005,.hob 3 [] (M6 a3))]) kR ?_
   | refine WO.finN hG [0,1,5,7,46,47,48,1000005] [] [] [] (e2:=[(0,l94 none a1),(1,l41 none a2),(5,.pb 1000005 0),(7,l41 none w9.1),(46,l41 none a2),(47,I6 (a2.length:Int)),(48,.int .i64 0),(1000005,.hob 3 [] (M6 a3))]) kR ?_
  refine W.block ?_;obtain⟨hl1,h⟩:=qi h
  first
   | refine W.weak [0,1,5,7,46,47,48,1000005] [] [] [] (env':=[(0,l94 none a1),(1,l41 none a2),(5,.pb 1000005 0),(7,l41 none w9.1),(46,l41 none a2),(47,I6 (a2.length:Int)),(48,I6 ((0:Nat):Int)),(1000005,.hob 3 [] (M6 a3))]) kR ?_
   | refine CodeP.weakP [0,1,5,7,46,47,48,1000005] [] [] [] (env':=[(0,l94 none a1),(1,l41 none a2),(5,.pb 1000005 0),(7,l41 none w9.1),(46,l41 none a2),(47,I6 (a2.length:Int)),(48,I6 ((0:Nat):Int)),(1000005,.hob 3 [] (M6 a3))]) kR ?_
  refine W.range (σ:=Unit) a2 (fun k1 s=>z1 ((46,l41 none a2)::(47,I6 (a2.length:Int))::(48,I6 (k1:Int))::y0)) (fun r0 k0 s=>jA w9 (JX fuel a1 a2 a3 w9) r0 k0=some r) (fun s h=>?_) (fun x1 r1 k1 s hx1 hk1 h hN1=>?_) () h
  ·rw[jA.eq_1]at h
   first | refine W.seq ?_ | refine CodeP.seqW mixedP ?_
   first | refine W.region kR ?_ | refine CodeP.of mixedP (W.region kR ?_)
   refine WO.pq 0 (jB (qM (l:=a2))) ?_
   first
    | refine WO.fin ([0,1,5,7,46,47,48,49,1000005]) [] [] [] (e2:=[(0,l94 none a1),(1,l41 none a2),(5,.pb 1000005 0),(7,l41 none w9.1),(46,l41 none a2),(47,I6 (a2.length:Int)),(48,I6 ((a2).length:Int)),(49,.bool false),(1000005,.hob 3 [] (M6 a3))]) kR (fun _ h=>h) ?_
    | refine WO.finP ([0,1,5,7,46,47,48,49,1000005]) [] [] [] (e2:=[(0,l94 none a1),(1,l41 none a2),(5,.pb 1000005 0),(7,l41 none w9.1),(46,l41 none a2),(47,I6 (a2.length:Int)),(48,I6 ((a2).length:Int)),(49,.bool false),(1000005,.hob 3 [] (M6 a3))]) kR ?_
    | refine WO.finN hG ([0,1,5,7,46,47,48,49,1000005]) [] [] [] (e2:=[(0,l94 none a1),(1,l41 none a2),(5,.pb 1000005 0),(7,l41 none w9.1),(46,l41 none a2),(47,I6 (a2.length:Int)),(48,I6 ((a2).length:Int)),(49,.bool false),(1000005,.hob 3 [] (M6 a3))]) kR ?_
   first | refine W.seq ?_ | refine CodeP.seqW mixedP ?_
   first
    | refine W.condB false kR (fun h=>A2 h) (fun _=>?_)
    | refine CodeP.of mixedP (W.condB false kR (fun h=>A2 h) (fun _=>?_))
   first
    | refine W.exit ?_
    | refine CodeP.of mixedP (W.exit ?_)
   first
    | refine W.weak [0,1,5,7,1000005] [] [] [] (env':=[(0,l94 none a1),(1,l41 none a2),(5,.pb 1000005 0),(7,l41 none w9.1),(1000005,.hob 3 [] (M6 a3))]) kR ?_
    | refine CodeP.weakP [0,1,5,7,1000005] [] [] [] (env':=[(0,l94 none a1),(1,l41 none a2),(5,.pb 1000005 0),(7,l41 none w9.1),(1000005,.hob 3 [] (M6 a3))]) kR ?_
   exact hK18 () h
  rw[jA.eq_2]at h
  first | refine W.seq ?_ | refine CodeP.seqW mixedP ?_
  first | refine W.region kR ?_ | refine CodeP.of mixedP (W.region kR ?_)
  refine WO.pq 0 (jB (qZ hk1)) ?_
  first
   | refine WO.fin ([0,1,5,7,46,47,48,49,1000005]) [] [] [] (e2:=[(0,l94 none a1),(1,l41 none a2),(5,.pb 1000005 0),(7,l41 none w9.1),(46,l41 none a2),(47,I6 (a2.length:Int)),(48,I6 (k1:Int)),(49,.bool true),(1000005,.hob 3 [] (M6 a3))]) kR (fun _ h=>h) ?_
   | refine WO.finP ([0,1,5,7,46,47,48,49,1000005]) [] [] [] (e2:=[(0,l94 none a1),(1,l41 none a2),(5,.pb 1000005 0),(7,l41 none w9.1),(46,l41 none a2),(47,I6 (a2.length:Int)),(48,I6 (k1:Int)),(49,.bool true),(1000005,.hob 3 [] (M6 a3))]) kR ?_
   | refine WO.finN hG ([0,1,5,7,46,47,48,49,1000005]) [] [] [] (e2:=[(0,l94 none a1),(1,l41 none a2),(5,.pb 1000005 0),(7,l41 none w9.1),(46,l41 none a2),(47,I6 (a2.length:Int)),(48,I6 (k1:Int)),(49,.bool true),(1000005,.hob 3 [] (M6 a3))]) kR ?_
  first | refine W.seq ?_ | refine CodeP.seqW mixedP ?_
  first
   | refine W.condB true kR (fun _=>?_) (fun h=>A2 h)
   | refine CodeP.of mixedP (W.condB true kR (fun _=>?_) (fun h=>A2 h))
  first
   | refine W.skip ?_
   | refine CodeP.of mixedP (W.skip ?_)
  first
   | refine W.weak [0,1,5,7,46,47,48,1000005] [] [] [] (env':=[(0,l94 none a1),(1,l41 none a2),(5,.pb 1000005 0),(7,l41 none w9.1),(46,l41 none a2),(47,I6 (a2.length:Int)),(48,I6 (k1:Int)),(1000005,.hob 3 [] (M6 a3))]) kR ?_
   | refine CodeP.weakP [0,1,5,7,46,47,48,1000005] [] [] [] (env':=[(0,l94 none a1),(1,l41 none a2),(5,.pb 1000005 0),(7,l41 none w9.1),(46,l41 none a2),(47,I6 (a2.length:Int)),(48,I6 (k1:Int)),(1000005,.hob 3 [] (M6 a3))]) kR ?_
  first | refine W.seq ?_ | refine CodeP.seqW mixedP ?_
  refine W.block ?_
  first | refine W.seq ?_ | refine CodeP.seqW mixedP ?_
  first | refine W.region kR ?_ | refine CodeP.of mixedP (W.region kR ?_)
  refine WO.pq 0 (ja (f:=qA) hx1) ?_
  first
   | refine WO.fin [0,1,5,7,10,46,47,48,1000005] [10] [] [] (e2:=[(0,l94 none a1),(1,l41 none a2),(5,.pb 1000005 0),(7,l41 none w9.1),(10,.ptr (.agg [I6 x1.qb,l3 none x1.qa])),(46,l41 none a2),(47,I6 (a2.length:Int)),(48,I6 (k1:Int)),(1000005,.hob 3 [] (M6 a3))]) kR (fun _ h=>h) ?_
   | refine WO.finP [0,1,5,7,10,46,47,48,1000005] [10] [] [] (e2:=[(0,l94 none a1),(1,l41 none a2),(5,.pb 1000005 0),(7,l41 none w9.1),(10,.ptr (.agg [I6 x1.qb,l3 none x1.qa])),(46,l41 none a2),(47,I6 (a2.length:Int)),(48,I6 (k1:Int)),(1000005,.hob 3 [] (M6 a3))]) kR ?_
   | refine WO.finN hG [0,1,5,7,10,46,47,48,1000005] [10] [] [] (e2:=[(0,l94 none a1),(1,l41 none a2),(5,.pb 1000005 0),(7,l41 none w9.1),(10,.ptr (.agg [I6 x1.qb,l3 none x1.qa])),(46,l41 none a2),(47,I6 (a2.length:Int)),(48,I6 (k1:Int)),(1000005,.hob 3 [] (M6 a3))]) kR ?_
  first | refine W.seq ?_ | refine CodeP.seqW mixedP ?_
  first | refine W.region kR ?_ | refine CodeP.of mixedP (W.region kR ?_)
  obtain⟨w23,hw23,h⟩:=qd h;refine WO.ck 2 (F:=27) (l:=[l41 none w9.1,.agg [I6 x1.qb,l3 none x1.qa]]) (C:=[]) (r:=.bool w23) (VE w9.1 x1 w23 hw23) ?_
  first
   | refine WO.fin [0,1,5,7,46,47,48,55,1000005] [] [] [] (e2:=[(0,l94 none a1),(1,l41 none a2),(5,.pb 1000005 0),(7,l41 none w9.1),(46,l41 none a2),(47,I6 (a2.length:Int)),(48,I6 (k1:Int)),(55,.bool (!w23)),(1000005,.hob 3 [] (M6 a3))]) kR (fun _ h=>h) ?_
   | refine WO.finP [0,1,5,7,46,47,48,55,1000005] [] [] [] (e2:=[(0,l94 none a1),(1,l41 none a2),(5,.pb 1000005 0),(7,l41 none w9.1),(46,l41 none a2),(47,I6 (a2.length:Int)),(48,I6 (k1:Int)),(55,.bool (!w23)),(1000005,.hob 3 [] (M6 a3))]) kR ?_
   | refine WO.finN hG [0,1,5,7,46,47,48,55,1000005] [] [] [] (e2:=[(0,l94 none a1),(1,l41 none a2),(5,.pb 1000005 0),(7,l41 none w9.1),(46,l41 none a2),(47,I6 (a2.length:Int)),(48,I6 (k1:Int)),(55,.bool (!w23)),(1000005,.hob 3 [] (M6 a3))]) kR ?_
  first
   | refine W.condB (!w23) kR (fun hb=>?_) (fun hb=>?_)
   | refine CodeP.of mixedP (W.condB (!w23) kR (fun hb=>?_) (fun hb=>?_))
  ·replace h:=qfx hb h
   first | refine W.seq ?_ | refine CodeP.seqW mixedP ?_
   first
    | refine W.regT [6] [] [] [] (e2:=[(6,.bool false)]) kR kR (fun _ h=>h) ?_
    | refine W.regPT [6] [] [] [] (e2:=[(6,.bool false)]) kR kR ?_
   first
    | refine W.weak [6] [] [] [] (env':=[(6,.bool false)]) kR ?_
    | refine CodeP.weakP [6] [] [] [] (env':=[(6,.bool false)]) kR ?_
   have hr:jJ Try.prog Try.f14 [(6,.bool false)]=some (.bool false):=by kernel_rfl
   cases h
   first | exact W.ret hr | exact CodeP.of mixedP (W.ret hr)
  replace h:=qfy hb h
  first
   | refine W.skip ?_
   | refine CodeP.of mixedP (W.skip ?_)
  first
   | refine W.weak [0,1,5,7,46,47,48,1000005] [] [] [] (env':=[(0,l94 none a1),(1,l41 none a2),(5,.pb 1000005 0),(7,l41 none w9.1),(46,l41 none a2),(47,I6 (a2.length:Int)),(48,I6 (k1:Int)),(1000005,.hob 3 [] (M6 a3))]) kR ?_
   | refine CodeP.weakP [0,1,5,7,46,47,48,1000005] [] [] [] (env':=[(0,l94 none a1),(1,l41 none a2),(5,.pb 1000005 0),(7,l41 none w9.1),(46,l41 none a2),(47,I6 (a2.length:Int)),(48,I6 (k1:Int)),(1000005,.hob 3 [] (M6 a3))]) kR ?_
  first | refine W.region kR ?_ | refine CodeP.of mixedP (W.region kR ?_)
  refine WO.pq 0 (jI (qC hl1 hk1)) ?_
  first
   | refine WO.fin [0,1,5,7,46,47,48,1000005] [] [] [] (e2:=[(0,l94 none a1),(1,l41 none a2),(5,.pb 1000005 0),(7,l41 none w9.1),(46,l41 none a2),(47,I6 (a2.length:Int)),(48,I6 ((k1+1:Nat):Int)),(1000005,.hob 3 [] (M6 a3))]) kR (fun _ h=>h) ?_
   | refine WO.finP [0,1,5,7,46,47,48,1000005] [] [] [] (e2:=[(0,l94 none a1),(1,l41 none a2),(5,.pb 1000005 0),(7,l41 none w9.1),(46,l41 none a2),(47,I6 (a2.length:Int)),(48,I6 ((k1+1:Nat):Int)),(1000005,.hob 3 [] (M6 a3))]) kR ?_
   | refine WO.finN hG [0,1,5,7,46,47,48,1000005] [] [] [] (e2:=[(0,l94 none a1),(1,l41 none a2),(5,.pb 1000005 0),(7,l41 none w9.1),(46,l41 none a2),(47,I6 (a2.length:Int)),(48,I6 ((k1+1:Nat):Int)),(1000005,.hob 3 [] (M6 a3))]) kR ?_
  exact hN1 () h
 first | refine W.region kR ?_ | refine CodeP.of mixedP (W.region kR ?_)
 refine WO.bh 3 (fun b=>z2 ((29,I6 w9.2)::(30,.bool b)::(31,.bool b)::y0)) (w9.2 != 0) h (fun h=>?_) (fun h=>?_)
 ·first
   | refine WO.fin [0,1,5,7,8,36,1000005] [] [] [] (e2:=[(0,l94 none a1),(1,l41 none a2),(5,.pb 1000005 0),(7,l41 none w9.1),(8,I6 w9.2),(36,.bool true),(1000005,.hob 3 [] (M6 a3))]) kR (fun _ h=>h) ?_
   | refine WO.finP [0,1,5,7,8,36,1000005] [] [] [] (e2:=[(0,l94 none a1),(1,l41 none a2),(5,.pb 1000005 0),(7,l41 none w9.1),(8,I6 w9.2),(36,.bool true),(1000005,.hob 3 [] (M6 a3))]) kR ?_
   | refine WO.finN hG [0,1,5,7,8,36,1000005] [] [] [] (e2:=[(0,l94 none a1),(1,l41 none a2),(5,.pb 1000005 0),(7,l41 none w9.1),(8,I6 w9.2),(36,.bool true),(1000005,.hob 3 [] (M6 a3))]) kR ?_
  exact hK11 true h
 obtain⟨w12,hw12,h⟩:=qd h;refine WO.ck 2 (F:=20) (l:=[l94 none a1,l41 none a2]) (C:=[]) (r:=.bool w12) (qdo a1 a2 w12 hw12) ?_
 first
  | refine WO.fin [0,1,5,7,8,36,1000005] [] [] [] (e2:=[(0,l94 none a1),(1,l41 none a2),(5,.pb 1000005 0),(7,l41 none w9.1),(8,I6 w9.2),(36,.bool (!w12)),(1000005,.hob 3 [] (M6 a3))]) kR (fun _ h=>h) ?_
  | refine WO.finP [0,1,5,7,8,36,1000005] [] [] [] (e2:=[(0,l94 none a1),(1,l41 none a2),(5,.pb 1000005 0),(7,l41 none w9.1),(8,I6 w9.2),(36,.bool (!w12)),(1000005,.hob 3 [] (M6 a3))]) kR ?_
  | refine WO.finN hG [0,1,5,7,8,36,1000005] [] [] [] (e2:=[(0,l94 none a1),(1,l41 none a2),(5,.pb 1000005 0),(7,l41 none w9.1),(8,I6 w9.2),(36,.bool (!w12)),(1000005,.hob 3 [] (M6 a3))]) kR ?_
 exact hK11 (!w12) h
end Go.AM
namespace Go.AM
open Go.Proofs Go.Sort
open Classical
variable {w:List Int} {out:List (rufact×Bool)}
theorem and7 {x:Int} (h0:0<=x) (h7:x<=7):iAnd .i64 x 7=x:=by
 have:x=0\/x=1\/x=2\/x=3\/x=4\/x=5\/x=6\/x=7:=by omega
 rcases this with rfl | rfl | rfl | rfl | rfl | rfl | rfl | rfl <;> rfl
def A16 (v:List Int):Prop:=v.length=8/\∀ i,i<8->1<=v.getD i 0/\v.getD i 0<=6
theorem A16.V8 {v:List Int} (h:A16 v):V8 v:=⟨h.1,fun i=>by
 rcases Nat.lt_or_ge i 8 with hi | hi
 ·have:=h.2 i hi;omega
 rw[List.getD_eq_getElem?_getD,List.getElem?_eq_none (by have:=h.1;omega)];simp⟩
theorem A16.bnd {v:List Int} (h:A16 v) {args:List Int} (ha:arg7 args):bnd v args:=fun x hx h0=>by
 have h1:=ha x hx;have:=h.2 x.toNat oM;omega
theorem qhr (n:Int):0<=A1 .u64 n:=by
 have h:A1 .u64 n=n % 18446744073709551616:=by simp[A1,IntKind.signed,IntKind.bits]
 rw[h];omega
theorem qeJ (K:List Int->Option Bool):∀ (r:List Nat) (k:Nat) (v:List Int),v.length=8->k+r.length=8->(∀ i,i<k->1<=v.getD i 0/\v.getD i 0<=6)->∃ u,jy K r k v=K u/\A16 u
 | [],k,v,hv,hk,h=>⟨v,by rw[jy],hv,fun i hi=>h i (by simpa using (by simp at hk;omega:i<k))⟩
 | x::r,k,v,hv,hk,h=>by
  rw[List.length_cons]at hk;rw[jy,Nv (dec8 (by omega) (by omega)),get8 hv (by omega) (by omega)];simp only[A3];rw[Nv (dec8 (by omega) (by omega)),Nv (dT (by omega))];have h0:=qhr (v.getD ((k:Int)).toNat 0);have h1:(A1 .u64 (v.getD ((k:Int)).toNat 0)).tmod 6<6:=Int.tmod_lt_of_pos _ oM;have h2:0<=(A1 .u64 (v.getD ((k:Int)).toNat 0)).tmod 6:=Int.tmod_nonneg _ h0;rw[show A1 .i64 ((A1 .u64 (v.getD ((k:Int)).toNat 0)).tmod 6)=(A1 .u64 (v.getD ((k:Int)).toNat 0)).tmod 6 from wrap64 (by omega) (by omega),wrap64 (by omega) (by omega)];rw[show 0+A0 (k:Int) * 1=k from by omega]
  refine qeJ K r (k+1) _ (by rw[List.length_set];exact hv) oM fun i hi=>?_
  rw[ZD _ _ _ (by omega)];split
  ·omega
  exact h i oM
theorem DT {w:List Int} (hw:w.length=8) (K:apiFact->Option apiFact) (rel:Int):∀ (args:List Int) (k:Nat) (acc:List Int),arg7 args->acc.length+args.length<=1000->jF w K args k rel acc=K ⟨rel,acc++groundA w args⟩
 | [],k,acc,_,_=>by rw[jF];simp[groundA]
 | x::args,k,acc,ha,hl=>by
  have hx:=ha x (A5 ..)
  have ha':arg7 args:=fun y hy=>ha y (A6 _ hy)
  rw[List.length_cons]at hl;rw[jF];unfold XA
  have e:acc++groundA w (x::args)=(acc++[if x<0 then 0 - x else w.getD x.toNat 0])++groundA w args:=by
   unfold groundA;simp
  by_cases hneg:x<0
  ·rw[dT hneg,cT,wrap64 (by omega) (by omega),Nv (JO (by omega) (by simp;omega)),DT hw K rel args (k+1) _ ha' (by simp;omega),e,if_pos hneg]
  rw[dF hneg,cN,and7 (by omega) hx.2,Nv (dec8 (by omega) hx.2),get8 hw (by omega) hx.2];simp only[A3];rw[Nv (JO (by omega) (by simp;omega)),DT hw K rel args (k+1) _ ha' (by simp;omega),e,if_neg hneg]
theorem qbE {a:rf2Atom} (hw:A16 w) (ha:fitP a.qb a.qa):Zm a w=some (apiF (groundF w (toA a)))/\okU1 (groundF w (toA a)):=by
 have hne:w≠[]:=by intro h;have:=hw.1;rw[h]at this;cases this
 obtain⟨h1,h2,h3⟩:=Jr (a:=toA a) hw.V8 ha (hw.bnd (jh ha));refine⟨?_,h1⟩;unfold Zm;rw[Nv (by cases w <;> simp_all),Nv (qu (by have:=ha.2.1;omega)),DT hw.1 _ _ _ _ _ (jh ha) (by have:=ha.2.1;simp;omega)];unfold Qh;rw[ZC,h2,h3,List.nil_append];rfl
theorem qhm (har:okW (memO out)) {g:rufact} (hg:okU1 g):apiF g∈sortF (apis out)↔memO out g:=by
 rw[qfD];constructor
 ·rintro⟨g',h1,h2⟩
  have e:=congrArg toF h2;rw[(XH (har g' h1)).2,(XH hg).2]at e;exact e ▸ h1
 exact fun h=>⟨g,h,rfl⟩
theorem qbi {w:List Int} (hw:A16 w) {out:List (rufact×Bool)} (har:okW (memO out)) (hlen:out.length<=252) {w9:List apiFact×Int} (hw9:w9.1=sortF (apis out)) (K:Bool->Option Bool):∀ (body:List rf3Lit) (k:Nat) (b:Bool),(∀ x,x∈body->fitP x.qe.qb x.qe.qa)->∃ c,qY w9 w K body k b=K c/\(c=true->b=true/\∀ x,x∈body->(x.qr=true->¬ memO out (groundF w (toA x.qe)))/\(x.qr=false->memO out (groundF w (toA x.qe))))
 | [],k,b,_=>⟨b,by rw[qY],fun h=>⟨h,fun x hx=>by simp at hx⟩⟩
 | x::body,k,b,h=>by
  have h':=fun y (hy:y∈body)=>h y (A6 _ hy)
  rw[qY];unfold JW
  cases b with
  | false =>
   rw[cN];obtain⟨c,h1,h2⟩:=qbi hw har hlen hw9 K body (k+1) false h';exact⟨c,h1,fun hc=>absurd (h2 hc).1 (by simp)⟩
  | true =>
   have hx:=h x (A5 ..);obtain⟨g1,g2⟩:=qbE hw hx;have hgl:lenOk (apiF (groundF w (toA x.qe))).qa=true:=qu (by have:=(XH g2).1.2.1.2;omega);rw[cT,Nv (dT hw.1),g1];simp only[A3];rw[hw9,Dy (VX hlen) hgl];simp only[A3];obtain⟨c,h1,h2⟩:=qbi hw har hlen hw9 K body (k+1) (!(decide (apiF (groundF w (toA x.qe))∈sortF (apis out)) == x.qr)) h';refine⟨c,h1,fun hc=>⟨by trivial,?_⟩⟩;obtain⟨h3,h4⟩:=h2 hc;have e:=qhm har g2;intro y hy
   rcases List.mem_cons.1 hy with rfl | hy
   ·cases hn:y.qr with
    | true =>
     refine⟨fun _ hm=>?_,fun h=>by cases h⟩;rw[hn,dT (e.2 hm)]at h3;simp at h3
    | false =>
     refine⟨(fun h=>by cases h),fun _=>Classical.byContradiction fun hm=>?_⟩;rw[hn,dF (fun h=>hm (e.1 h))]at h3;simp at h3
   exact h4 y hy
theorem qha {ar:Int->Nat} {L:List ruRule} {G:rufact->Prop} (har:okW (memO out)) (hX:LeastR L (memO out) G (memO out)) {r:rf3Rule} (hr:toR r∈L) (ho:okL ar (toR r)) (hw:A16 w) (h:∀ x,x∈r.qc->(x.qr=true->¬ memO out (groundF w (toA x.qe)))/\(x.qr=false->memO out (groundF w (toA x.qe)))):memO out (groundF w (toA r.qf)):=by
 have hb:∀ x,x∈(toR r).qc->∃ y,y∈r.qc/\x=toL y:=fun x hx=>by
  obtain⟨y,hy,rfl⟩:=List.mem_map.1 (show x∈r.qc.map toL from hx);exact⟨y,hy,rfl⟩
 obtain⟨u,u1,u2⟩:=Zp (P:=memO out) (toR r).qc v0 w (fun x hx=>(ho.body x hx).1) V8_0 hw.V8 (Ext.zero w) (fun x hx=>hw.bnd (jh (ho.body x hx).1)) fun x hx=>by
  unfold posB at hx;obtain⟨hx,hn⟩:=List.mem_filter.1 hx;obtain⟨y,hy,rfl⟩:=hb x hx;exact (h y hy).2 (by simpa[toL] using hn)
 obtain⟨c1,c2⟩:=ho.inst har u1
 have hge:∀ a,a∈atomsU (toR r)->groundF u a=groundF w a:=fun a ha=>(u2.groundF (c2 a ha)).symm
 have:=hX.closed (toR r) hr u u1 fun x hx hn hy=>by
  obtain⟨y,hy',rfl⟩:=hb x hx;rw[hge _ (A6 _ (List.mem_map.2 ⟨toL y,hx,rfl⟩))]at hy;exact (h y hy').1 hn hy
 rw[hge _ (A5 ..)]at this;exact this
theorem qeI {ar:Int->Nat} {L:List ruRule} {w:List Int} (hw:A16 w) {out:List (rufact×Bool)} {G:rufact->Prop} (har:okW (memO out)) (hX:LeastR L (memO out) G (memO out)) (hlen:out.length<=252) {w9:List apiFact×Int} (hw9:w9.1=sortF (apis out)) (K:Option Bool):∀ (l:List rf3Rule) (k:Nat),(∀ r,r∈l->toR r∈L/\okL ar (toR r)/\lenOk r.qc=true)->qO w9 w K l k=K
 | [],k,_=>by rw[qO]
 | r::l,k,h=>by
  have ih:=qeI hw har hX hlen hw9 K l (k+1) fun y hy=>h y (A6 _ hy)
  obtain⟨h1,h2,h3⟩:=h r (A5 ..);rw[qO,Nv h3,ih]
  obtain⟨c,e1,e2⟩:=qbi hw har hlen hw9 (jO r w9 w K) r.qc 0 true fun x hx=>(h2.body (toL x) (List.mem_map.2 ⟨x,hx,rfl⟩)).1
  rw[e1];unfold jO JV
  cases c with
  | false=>rw[cN];rfl
  | true =>
   obtain⟨g1,g2⟩:=qbE hw (a:=r.qf) h2.head.1;have hm:=qha har hX h1 h2 hw (e2 rfl).2;have hgl:lenOk (apiF (groundF w (toA r.qf))).qa=true:=qu (by have:=(XH g2).1.2.1.2;omega);rw[cT,Nv (dT hw.1),g1];simp only[A3];rw[hw9,Dy (VX hlen) hgl,dT ((qhm har g2).2 hm)];rfl
theorem qeK {w9:List apiFact×Int} {K:Option Bool} (hw:lenOk w9.1=true):∀ (l:List apiFact) (k:Nat),(∀ x,x∈l->x∈w9.1/\lenOk x.qa=true)->jA w9 K l k=K
 | [],k,_=>by rw[jA]
 | x::l,k,h=>by
  obtain⟨h1,h2⟩:=h x (A5 ..);rw[jA,Dy hw h2,dT h1];simp only[A3,A7,cN]
  exact qeK hw l (k+1) fun y hy=>h y (A6 _ hy)
theorem qeH {fuel:Nat} (hf:400<=fuel) {l:List rf3Rule} {facts:List apiFact} (hl:okRules l) (hfa:okFacts facts) (hv:VR l facts) {out:List (rufact×Bool)} {S:List Bool} (hm:Ql fuel (l.map toR) facts=some (out,true)) (hS:StR (arVR l facts) out S) (K:Option Bool) (hK:K=some true):∀ (fs:List apiFact) (k:Nat),(∀ f,f∈fs->groundP f/\setB S (toF f))->qI l facts K fs k=some true
 | [],k,_=>by rw[qI,hK]
 | f::fs,k,h=>by
  have ih:=qeH hf hl hfa hv hm hS K hK fs (k+1) fun y hy=>h y (A6 _ hy)
  obtain⟨hg,hin⟩:=h f (A5 ..);have hof:NW l=some ((l.take 12).map cvR):=qkM hl.1 (fun r hr=>(hl.2 r hr).2.1);have hfv:YD facts=some ((facts.take 26).map cvF):=qex hfa.1;rw[qI,hof,hfv];simp only[A3];rw[qgS hv,qgc hv]
  refine qkF _ (qjC hf hl hv hg hm hS) fun w hw=>?_
  unfold js
  rcases hw with ⟨h1,rfl⟩ | ⟨h1,⟨h2,rfl⟩ | ⟨d,k',p,h2,h3,h4,h5,h6,h7,h8,h9,t1,t2,t3,t4,rfl⟩⟩
  ·exact absurd hin h1
  ·rw[show ((3:Int) == 0)=false from rfl,cN,show ((3:Int) != 0)=true from rfl,cT,show ((3:Int) != 3)=false from rfl,cN];exact ih
  rw[show ((0:Int) == 0)=true from rfl,cT,h8,qfW (by simp) (fun g hg'=>by rw[List.mem_singleton.1 hg'];have:=hg.2.1.2;omega)];simp only[A3,A7,cN];rw[show ((0:Int) != 0)=false from rfl,cN];exact ih
theorem qaU {fuel:Nat} (hf:400<=fuel) {l:List rf3Rule} {facts:List apiFact} {a:List Int} (hl:okRules l) (hfa:okFacts facts) (ha:a.length=8):Xd fuel l facts a=some true:=by
 obtain⟨n,rfl⟩:∃ n,fuel=n+30:=⟨fuel - 30,by omega⟩;have haw:=qkc n;have hof:NW l=some ((l.take 12).map cvR):=qkM hl.1 (fun r hr=>(hl.2 r hr).2.1);have hfv:YD facts=some ((facts.take 26).map cvF):=qex hfa.1;unfold Xd;rw[Nv (by cases a <;> simp_all),hof,hfv];simp only[A3];by_cases hv:VR l facts
 ·rw[qgS hv,qgc hv]
  have hv4:=mvalid (by omega:4<=n+30) hl hv.1 hv.2.2.2.1 (m:=facts) (by have:=hv.2.1;omega) fun f hf=>by have:=(hv.2.2.1 f hf).2.1.2;omega
  rcases qhW (by omega:300<=n+30) hv.1 hv.okL (by have:=hv.2.1;omega) hv.2.2.1 hv.facts_ar with ⟨out,S,a1,a2,a3⟩ | ⟨a1,a2⟩
  ·have hX:LeastR (l.map toR) (memO out) (fun g=>g∈facts.map toF) (memO out):=by
    rcases qhO (by omega:300<=n+30) hv.1 hv.okL (by have:=hv.2.1;omega) hv.2.2.1 hv.facts_ar with ⟨v,o,v1,v2,v3,m1,m2,m3,m4⟩ | ⟨m0,m1⟩
    ·rw[a1]at m1;cases m1;exact m4
    rw[a1]at m1;cases m1
   have hM:Xv (n+30) (l.map toR) facts=some (sortF (apis out),0):=by
    unfold Xv;rw[hv4,dT hv];simp only[A3,A7,cN];rw[a1];simp only[A3,A7,cN];rw[qfc a3.nt fun g hg=>(a3.ar g hg).1];rfl
   have hlen:out.length<=252:=by
    have:=YI a3.nt.n fun g hg=>(a3.ar g hg).1
    simpa using this
   have hok:okW (memO out):=a3.ar.ok;rw[hM];simp only[A3];rw[show ((0:Int) != 0)=false from rfl,cN,qfi hl hfa,dT hv];simp only[A3,A7];unfold jP;rw[cN,Nv hfa.1];rw[qeK (w9:=(sortF (apis out),0)) (VX hlen) facts 0 fun x hx=>⟨qfD.2 ⟨toF x,hX.sub _ (List.mem_map.2 ⟨x,hx,rfl⟩),qhl (hv.2.2.1 x hx)⟩,qu (by have:=(hv.2.2.1 x hx).2.1.2;omega)⟩];unfold JX;rw[show A4 (A0 8)=A4 8 from rfl,Nv (qu (by simp))]
   obtain⟨u,u1,u2⟩:=qeJ (Jz (n+30) l facts (sortF (apis out),0)) (A4 8) 0 a ha (by simp) fun i hi=>absurd hi oM
   rw[u1];unfold Jz;rw[Nv hl.1,qeI u2 hok hX hlen rfl _ l 0 fun r hr=>⟨List.mem_map.2 ⟨r,hr,rfl⟩,hv.okL r hr,(hl.2 r hr).2.1⟩];unfold jd;rw[Nv (VX hlen)]
   refine qeH hf hl hfa hv a1 a3 _ ?_ _ 0 fun f hf'=>?_
   ·unfold Jy;rw[haw];rfl
   obtain⟨g,hg,rfl⟩:=qfD.1 hf';have:=XH (hok g hg);exact⟨this.1,by rw[this.2];exact (a3.same g).1 hg⟩
  have hM:Xv (n+30) (l.map toR) facts=some ([],8):=by
   unfold Xv;rw[hv4,dT hv];simp only[A3,A7,cN];rw[a1];rfl
  rw[hM];simp only[A3];rw[show ((8:Int) != 0)=true from rfl,cT];unfold jP;rw[cT,show ((8:Int) == 2)=false from rfl,cN,show ((8:Int) == 8)=true from rfl,cT,haw];rfl
 have hM:Xv (n+30) ((l.take 12).map cvR) ((facts.take 26).map cvF)=some ([],2):=by
  unfold Xv;rw[qbZ (by omega) hl,dF hv];rfl
 rw[hM];simp only[A3];rw[show ((2:Int) != 0)=true from rfl,cT];unfold jP;rw[cT,show ((2:Int) == 2)=true from rfl,cT,haw];rfl
theorem Dl (fuel:Nat) (a1:List rf3Rule) (a2:List apiFact) (a3:List Int) (r:Bool) (h:Xd fuel a1 a2 a3=some r):Run Try.prog (.call 14 [l94 none a1,l41 none a2,.agg (List.map (AV.int .i64) a3)] (.bool r)):=.ext0 (Dm fuel a1 a2 a3 r h)
theorem qjz:Reads Try.prog 90 (fun l:List Int=>.agg (l.map (AV.int .i64))) (fun l=>l.length=8/\∀ x,x∈l->wfI .i64 x=true) :=
 qgh kR kR kR qak (fun _=>rfl)
end Go.AM
