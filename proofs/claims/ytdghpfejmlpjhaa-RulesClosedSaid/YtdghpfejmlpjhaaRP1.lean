import Derived.Test.YtdghpfejmlpjhaaRPT
set_option linter.all false
set_option maxRecDepth 100000
open Int renaming toNat→A0
open List renaming replicate→A1
open Go.IntKind renaming wrap→A2
namespace Go.AM
open Go.Proofs
def jv (p1:(List Int)) (a2:Int) (a3:Int) (v11:Bool):Option (Bool×(List Int)) :=
 (bif v11 then (some (false,p1)) else (chk (decide ((0:Int)<=a2/\a2<((6:Nat):Int)/\0<1)) (chk (decide ((0+A0 a2 * 1)<p1.length)) (some (true,(p1.set (0+A0 a2 * 1) a3))))))
def JN (p1:(List Int)) (a2:Int) (a3:Int):Option (Bool×(List Int)) :=
 (bif (decide (a2<0)) then ((jv p1 a2 a3) true) else (bif (decide (a2 >= 6)) then ((jv p1 a2 a3) true) else (bif (decide (a3<1)) then ((jv p1 a2 a3) true) else (bif (decide (a3 > 2)) then ((jv p1 a2 a3) true) else (chk (decide ((0:Int)<=a2/\a2<((6:Nat):Int)/\0<1)) ((p1[(0+A0 a2 * 1)]?).bind fun e8=>(bif (e8 != 0) then (chk (decide ((0:Int)<=a2/\a2<((6:Nat):Int)/\0<1)) ((p1[(0+A0 a2 * 1)]?).bind fun e10=>((jv p1 a2 a3) (e10 != a3)))) else ((jv p1 a2 a3) false))))))))
theorem Yq (p1:(List Int)) (a2:Int) (a3:Int) (r:(Bool×(List Int))) (h:JN p1 a2 a3=some r):Run Try.prog (.callM 103 [.pb 2000000 0,I6 a2,I6 a3] [(2000000,.hob 3 [] (M6 p1))] (.bool r.1) [(2000000,.hob 3 [] (M6 r.2))]):=by
 refine cM Try.func103 rfl (env0:=[(0,.pb 2000000 0),(1,I6 a2),(2,I6 a3),(2000000,.hob 3 [] (M6 p1))]) ?_;unfold JN at h;refine W.seq ?_;let y0:Env:=[(2000000,.hob 3 [] (M6 p1))];let z0:=fun t=>EN ((0,.pb 2000000 0)::(1,I6 a2)::(2,I6 a3)::t);refine W.rt (e2:=z0 y0) ?_;refine W.seq<|W.seq<|W.join (σ:=(Bool)) (fun s=>z0 ((37,.bool s)::y0)) (fun s=>(jv p1 a2 a3) s=some r) (fun v11 h=>?_) (fun hK6=>?_)
 ·unfold jv at h;refine W.ch v11 h (fun h=>?_) (fun h=>?_)
  ·refine W.seq<|W.rt (e2:=((6,.bool false)::y0)) ?_;refine W.wk (e:=((6,.bool false)::y0)) ?_;have hr:PostM Try.prog Try.f103 (.bool false) [(2000000,.hob 3 [] (M6 p1))] .ret [(6,.bool false),(2000000,.hob 3 [] (M6 p1))]:=⟨by kernel_rfl,by kernel_rfl⟩;cases h;exact W.ret hr
  refine W.sw (e:=z0 y0) ?_;refine W.sr ?_;obtain⟨hc14,h⟩:=qi h;refine WO.pi 4 (v:=.pb 2000000 (0+A0 a2 * 1)) hc14 ?_;obtain⟨hc15,h⟩:=qi h;let y1:Env:=[(2000000,.hob 3 [] (M6 (p1.set (0+A0 a2 * 1) a3)))];refine WO.setA (enc:=(AV.int .i64)) (l:=p1) (x:=a3) (s:=2000000) (off:=(0+A0 a2 * 1)) 0 (qX .i64) hc15 (e1:=z0 ((38,.pb 2000000 0)::(39,I6 a2)::(40,I6 a3)::(41,.pb 2000000 0)::(42,.pb 2000000 (0+A0 a2 * 1))::y1))<|WO.fn (e2:=[(2000000,.hob 3 [] (M6 (p1.set (0+A0 a2 * 1) a3)))]) ?_;refine W.seq<|W.rt (e2:=((6,.bool true)::y1)) ?_;refine W.wk (e:=((6,.bool true)::y1)) ?_;have hr:PostM Try.prog Try.f103 (.bool true) [(2000000,.hob 3 [] (M6 (p1.set (0+A0 a2 * 1) a3)))] .ret [(6,.bool true),(2000000,.hob 3 [] (M6 (p1.set (0+A0 a2 * 1) a3)))]:=⟨by kernel_rfl,by kernel_rfl⟩;cases h;exact W.ret hr
 refine W.rg ?_;let z1:=fun t=>z0 ((7,I6 a2)::t);refine WO.bh 3 (fun b=>z1 ((8,.bool b)::(9,.bool b)::y0)) (decide (a2<0)) h (fun h=>?_) (fun h=>?_)
 ·exact WO.fn (hK6 true h)
 let z2:=fun t=>z1 ((8,.bool false)::(9,.bool false)::(10,I6 a2)::t);refine WO.bh 4 (fun b=>z2 ((11,.bool b)::(12,.bool b)::(13,.bool b)::y0)) (decide (a2 >= 6)) h (fun h=>?_) (fun h=>?_)
 ·exact WO.fn (hK6 true h)
 let z3:=fun t=>z2 ((11,.bool false)::(12,.bool false)::(13,.bool false)::(14,I6 a3)::t);refine WO.bh 4 (fun b=>z3 ((15,.bool b)::(16,.bool b)::(17,.bool b)::y0)) (decide (a3<1)) h (fun h=>?_) (fun h=>?_)
 ·exact WO.fn (hK6 true h)
 let z4:=fun t=>z3 ((15,.bool false)::(16,.bool false)::(17,.bool false)::(18,I6 a3)::t);refine WO.bh 4 (fun b=>z4 ((19,.bool b)::(20,.bool b)::(21,.bool b)::y0)) (decide (a3 > 2)) h (fun h=>?_) (fun h=>?_)
 ·exact WO.fn (hK6 true h)
 obtain⟨hc7,h⟩:=qi h;refine WO.pi 3 (v:=.pb 2000000 (0+A0 a2 * 1)) hc7 ?_;obtain⟨e8,he8,h⟩:=qd h;refine WO.pk 0 (cut Try.prog 3 (M6 p1) (0+A0 a2 * 1)) (ZX (qX .i64) kR he8)<|WO.bh 2 (fun b=>z4 ((19,.bool false)::(20,.bool false)::(21,.bool false)::(22,.pb 2000000 0)::(23,I6 a2)::(24,.pb 2000000 0)::(25,.pb 2000000 (0+A0 a2 * 1))::(26,I6 e8)::(27,.bool b)::(28,.bool b)::y0)) (e8 != 0) h (fun h=>?_) (fun h=>?_)
 ·obtain⟨hc9,h⟩:=qi h;refine WO.pi 3 (v:=.pb 2000000 (0+A0 a2 * 1)) hc9 ?_;obtain⟨e10,he10,h⟩:=qd h;exact WO.pk 0 (cut Try.prog 3 (M6 p1) (0+A0 a2 * 1)) (ZX (qX .i64) kR he10)<|WO.fn (hK6 (e10 != a3) h)
 exact WO.fn (hK6 false h)
def Qb (v15:Int):Option Int :=
 (some v15)
def JG (a1:(List Int)) (K7:(Int->Option Int)):Nat->Int->Int->Option Int
 | 0,_,_=>none
 | m1+1,v9,v10=>(bif (decide (v10<(a1.length:Int))) then ((idx a1 v10).bind fun e14=>((JG a1 K7 m1) (if e14<v9 then e14 else v9) (A2 .i64 (v10+1)))) else (K7 v9))
def Xr (fuel:Nat) (a1:(List Int)):Option Int :=
 (bif (decide ((a1.length:Int)<1)) then none else ((idx a1 0).bind fun e6=>(JG a1 (Qb) fuel e6 1)))
theorem NH (fuel:Nat) (a1:(List Int)) (r:Int) (h:Xr fuel a1=some r):Run Try.prog (.call 106 [l3 none a1] (I6 r)):=by
 refine cW Try.func106 rfl (env0:=[(0,l3 none a1)]) ?_;unfold Xr at h;refine W.seq ?_;let z0:=fun t=>EN ((0,l3 none a1)::t);refine W.rt (e2:=z0 []) ?_;refine W.seq<|W.sr<|WO.pq 1 (jM (.int .i64) a1)<|WO.fn (e2:=z0 [(7,.bool (decide ((a1.length:Int)<1)))]) ?_;refine W.ch (decide ((a1.length:Int)<1)) h (fun h=>?_) (fun h=>?_)
 ·cases h
 refine W.sw (e:=z0 []) ?_;refine W.sr ?_;obtain⟨e6,he6,h⟩:=qd h;refine WO.pq 1 (Nl (f:=(AV.int .i64)) he6)<|WO.fn (e2:=z0 [(3,I6 e6)]) ?_;refine W.seq<|W.join (σ:=(Int)) (fun s=>[(3,I6 s)]) (fun s=>(Qb) s=some r) (fun v15 h=>?_) (fun hK7=>?_)
 ·unfold Qb at h;refine W.seq<|W.rt (e2:=[(2,I6 v15)]) ?_;refine W.wk (e:=[(2,I6 v15)]) ?_;cases h;exact W.rr
 refine W.seq<|W.rt (e2:=z0 [(3,I6 e6),(4,.int .i64 1)]) ?_;refine W.block<|W.wk (e:=z0 [(3,I6 e6),(4,.int .i64 1)])<|W.fuel (σ:=(Int×Int)) (fun s=>z0 [(3,I6 s.1),(4,I6 s.2)]) (fun m0 s=>JG a1 (Qb) m0 s.1 s.2=some r) (fun s h=>?_) (fun m1 s h hN1=>?_) fuel (e6,1) h
 ·obtain⟨v9,v10⟩:=s;have h:JG a1 (Qb) 0 v9 v10=some r:=h;rw[JG.eq_1]at h;cases h
 obtain⟨v9,v10⟩:=s;have h:JG a1 (Qb) (m1+1) v9 v10=some r:=h;rw[JG.eq_2]at h;refine W.seq<|W.sr<|WO.pq 2 (jM (.int .i64) a1)<|WO.fn (e2:=z0 [(3,I6 v9),(4,I6 v10),(15,.bool (decide (v10<(a1.length:Int))))]) ?_;refine W.ch (decide (v10<(a1.length:Int))) h (fun h=>?_) (fun h=>?_)
 ·refine W.sw (e:=z0 [(3,I6 v9),(4,I6 v10)]) ?_;refine W.seq<|W.block<|W.rg ?_;obtain⟨e14,he14,h⟩:=qd h;refine WO.pq 3 (Nl (f:=(AV.int .i64)) he14) ?_;let z1:=fun t=>z0 ((3,I6 (if e14<v9 then e14 else v9))::t);refine WO.fn (e2:=z1 [(4,I6 v10)]) ?_;refine W.rt (e2:=z1 [(4,I6 (W6 (v10+1)))]) ?_;exact hN1 ((if e14<v9 then e14 else v9),(W6 (v10+1))) h
 exact W.exit<|W.wk (hK7 v9 h)
def JH (v15:Int):Option Int :=
 (some v15)
def jC (a1:(List Int)) (K7:(Int->Option Int)):Nat->Int->Int->Option Int
 | 0,_,_=>none
 | m1+1,v9,v10=>(bif (decide (v10<(a1.length:Int))) then ((idx a1 v10).bind fun e14=>((jC a1 K7 m1) (if e14 > v9 then e14 else v9) (A2 .i64 (v10+1)))) else (K7 v9))
def JP (fuel:Nat) (a1:(List Int)):Option Int :=
 (bif (decide ((a1.length:Int)<1)) then none else ((idx a1 0).bind fun e6=>(jC a1 (JH) fuel e6 1)))
theorem YJ (fuel:Nat) (a1:(List Int)) (r:Int) (h:JP fuel a1=some r):Run Try.prog (.call 107 [l3 none a1] (I6 r)):=by
 refine cW Try.func107 rfl (env0:=[(0,l3 none a1)]) ?_;unfold JP at h;refine W.seq ?_;let z0:=fun t=>EN ((0,l3 none a1)::t);refine W.rt (e2:=z0 []) ?_;refine W.seq<|W.sr<|WO.pq 1 (jM (.int .i64) a1)<|WO.fn (e2:=z0 [(7,.bool (decide ((a1.length:Int)<1)))]) ?_;refine W.ch (decide ((a1.length:Int)<1)) h (fun h=>?_) (fun h=>?_)
 ·cases h
 refine W.sw (e:=z0 []) ?_;refine W.sr ?_;obtain⟨e6,he6,h⟩:=qd h;refine WO.pq 1 (Nl (f:=(AV.int .i64)) he6)<|WO.fn (e2:=z0 [(3,I6 e6)]) ?_;refine W.seq<|W.join (σ:=(Int)) (fun s=>[(3,I6 s)]) (fun s=>(JH) s=some r) (fun v15 h=>?_) (fun hK7=>?_)
 ·unfold JH at h;refine W.seq<|W.rt (e2:=[(2,I6 v15)]) ?_;refine W.wk (e:=[(2,I6 v15)]) ?_;cases h;exact W.rr
 refine W.seq<|W.rt (e2:=z0 [(3,I6 e6),(4,.int .i64 1)]) ?_;refine W.block<|W.wk (e:=z0 [(3,I6 e6),(4,.int .i64 1)])<|W.fuel (σ:=(Int×Int)) (fun s=>z0 [(3,I6 s.1),(4,I6 s.2)]) (fun m0 s=>jC a1 (JH) m0 s.1 s.2=some r) (fun s h=>?_) (fun m1 s h hN1=>?_) fuel (e6,1) h
 ·obtain⟨v9,v10⟩:=s;have h:jC a1 (JH) 0 v9 v10=some r:=h;rw[jC.eq_1]at h;cases h
 obtain⟨v9,v10⟩:=s;have h:jC a1 (JH) (m1+1) v9 v10=some r:=h;rw[jC.eq_2]at h;refine W.seq<|W.sr<|WO.pq 2 (jM (.int .i64) a1)<|WO.fn (e2:=z0 [(3,I6 v9),(4,I6 v10),(15,.bool (decide (v10<(a1.length:Int))))]) ?_;refine W.ch (decide (v10<(a1.length:Int))) h (fun h=>?_) (fun h=>?_)
 ·refine W.sw (e:=z0 [(3,I6 v9),(4,I6 v10)]) ?_;refine W.seq<|W.block<|W.rg ?_;obtain⟨e14,he14,h⟩:=qd h;refine WO.pq 3 (Nl (f:=(AV.int .i64)) he14) ?_;let z1:=fun t=>z0 ((3,I6 (if e14 > v9 then e14 else v9))::t);refine WO.fn (e2:=z1 [(4,I6 v10)]) ?_;refine W.rt (e2:=z1 [(4,I6 (W6 (v10+1)))]) ?_;exact hN1 ((if e14 > v9 then e14 else v9),(W6 (v10+1))) h
 exact W.exit<|W.wk (hK7 v9 h)
def XL (v8:Bool):Option Bool :=
 (some v8)
def Vo (fuel:Nat) (a1:apiFact):Option Bool :=
 ((JN (A1 6 0) a1.qb (a1.qa.length:Int)).bind fun w5=>(bif w5.1 then ((Xr fuel a1.qa).bind fun w6=>(bif (decide (w6 >= 1)) then ((JP fuel a1.qa).bind fun w7=>((XL) (decide (w7<=6)))) else ((XL) false))) else ((XL) false)))
theorem Dp (fuel:Nat) (a1:apiFact) (r:Bool) (h:Vo fuel a1=some r):Run Try.prog (.call 75 [.agg [I6 a1.qb,l3 none a1.qa]] (.bool r)):=by
 refine cW Try.func75 rfl (env0:=[(0,.agg [I6 a1.qb,l3 none a1.qa])]) ?_;unfold Vo at h;refine W.seq ?_;let z0:=fun t=>EN ((1,.ptr (.agg [I6 a1.qb,l3 none a1.qa]))::t);refine W.rT [1] [1] (e2:=z0 []) ?_;refine W.sr<|WO.sl 1 ?_;let y0:Env:=[(3,.pb 1000003 0),(1000003,.hob 3 [] (M6 (A1 6 0)))];refine WO.mv [.arr 3] (env':=z0 y0) kR<|WO.fn (e2:=z0 y0) ?_;refine W.seq<|W.join (σ:=(Bool)) (fun s=>[(2,.bool s)]) (fun s=>(XL) s=some r) (fun v8 h=>?_) (fun hK4=>?_)
 ·unfold XL at h;refine W.wk (e:=[(2,.bool v8)]) ?_;cases h;exact W.rr
 refine W.rg<|WO.pq 4 (jM (.int .i64) a1.qa) ?_;obtain⟨w5,hw5,h⟩:=qd h;let z1:=fun t=>z0 ((3,.pb 1000003 0)::(4,.ptr (I6 a1.qb))::(5,I6 a1.qb)::(6,.ptr (l3 none a1.qa))::(7,l3 none a1.qa)::(8,I6 (a1.qa.length:Int))::t);refine WO.cm 0 [(1000003,2000000)] [] (F:=103) (args:=[.pb 2000000 0,I6 a1.qb,I6 (a1.qa.length:Int)]) (hp:=[(2000000,.hob 3 [] (M6 (A1 6 0)))]) (hp2:=[(2000000,.hob 3 [] (M6 w5.2))]) (r:=.bool w5.1) (Yq (A1 6 0) a1.qb (a1.qa.length:Int) w5 hw5) (e1:=z1 [(9,.bool w5.1),(1000003,.hob 3 [] (M6 w5.2))])<|WO.bh 1 (fun b=>z1 [(9,.bool b),(10,.bool b),(1000003,.hob 3 [] (M6 w5.2))]) w5.1 h (fun h=>?_) (fun h=>?_)
 ·obtain⟨w6,hw6,h⟩:=qd h;refine WO.ck 2 (F:=106) (l:=[l3 none a1.qa]) (C:=[]) (r:=I6 w6) (NH fuel a1.qa w6 hw6)<|WO.bh 3 (fun b=>z1 [(9,.bool true),(10,.bool true),(11,.ptr (l3 none a1.qa)),(12,l3 none a1.qa),(13,I6 w6),(14,.bool b),(15,.bool b),(16,.bool b),(1000003,.hob 3 [] (M6 w5.2))]) (decide (w6 >= 1)) h (fun h=>?_) (fun h=>?_)
  ·obtain⟨w7,hw7,h⟩:=qd h;exact WO.ck 2 (F:=107) (l:=[l3 none a1.qa]) (C:=[]) (r:=I6 w7) (YJ fuel a1.qa w7 hw7)<|WO.fn (hK4 (decide (w7<=6)) h)
  exact WO.fn (hK4 false h)
 exact WO.fn (hK4 false h)
def XM (v10:(List qm)):Option (List qm) :=
 (some v10)
def Jf (K4:((List qm)->Option (List qm))):List ruLit->Nat->(List qm)->Option (List qm)
 | [],k1,v6=>(K4 v6)
 | x1::r1,k1,v6=>(chk (capOk 32 ((v6++[x1.qe])).length) ((Jf K4 r1 (k1+1)) (v6++[x1.qe])))
def Xi (a1:ruRule):Option (List qm) :=
 (chk (lenOk a1.qc) (Jf (XM) a1.qc 0 [a1.qf]))
theorem VZ (a1:ruRule) (r:(List qm)) (h:Xi a1=some r):Run Try.prog (.call 105 [.agg [I6 a1.qf.qb,l3 none a1.qf.qa,l56 none a1.qc]] (l50 (some 1) r)):=by
 refine cW Try.func105 rfl (env0:=[(0,.agg [I6 a1.qf.qb,l3 none a1.qf.qa,l56 none a1.qc])]) ?_;unfold Xi at h;refine W.seq ?_;let z0:=fun t=>EN ((1,.ptr (.agg [I6 a1.qf.qb,l3 none a1.qf.qa,l56 none a1.qc]))::t);refine W.rT [1] [1] (e2:=z0 []) ?_;refine W.seq<|W.rt (e2:=z0 [(3,l50 (some 8) [a1.qf])]) ?_;refine W.seq<|W.join (σ:=((List qm))) (fun s=>[(3,l50 (some 10300) s)]) (fun s=>(XM) s=some r) (fun v10 h=>?_) (fun hK4=>?_)
 ·unfold XM at h;refine W.seq<|W.rt (e2:=[(2,l50 (some 10300) v10)]) ?_;refine W.weak [2] [] [] [(10300,some 1)] (env':=[(2,l50 (some 1) v10)]) kR ?_;cases h;exact W.rr
 refine W.sr<|WO.pq 2 (jM ZJ a1.qc)<|WO.fn (e2:=[(3,l50 (some 8) [a1.qf]),(10,l56 none a1.qc),(11,I6 (a1.qc.length:Int)),(12,.int .i64 0)]) ?_;refine W.block ?_;obtain⟨hl1,h⟩:=qi h;refine W.weak [3,10,11,12] [] [] [(8,some 10300)] (env':=[(3,l50 (some 10300) [a1.qf]),(10,l56 none a1.qc),(11,I6 (a1.qc.length:Int)),(12,I6 ((0:Nat):Int))]) kR<|W.range (σ:=((List qm))) a1.qc (fun k1 s=>[(3,l50 (some 10300) s),(10,l56 none a1.qc),(11,I6 (a1.qc.length:Int)),(12,I6 (k1:Int))]) (fun r0 k0 s=>Jf (XM) r0 k0 s=some r) (fun v6 h=>?_) (fun x1 r1 k1 s hx1 hk1 h hN1=>?_) [a1.qf] h
 ·rw[Jf.eq_1]at h;refine W.sr<|WO.pq 0 (jB (qM (l:=a1.qc)))<|WO.fn (e2:=[(3,l50 (some 10300) v6),(10,l56 none a1.qc),(11,I6 (a1.qc.length:Int)),(12,I6 ((a1.qc).length:Int)),(13,.bool false)]) ?_;exact W.seq<|W.cF<|W.exit<|W.wk (hK4 v6 h)
 obtain⟨v6,rfl⟩:∃ x,x=s:=⟨s,rfl⟩;rw[Jf.eq_2]at h;refine W.sr<|WO.pq 0 (jB (qZ hk1)) ?_;let z1:=fun t=>EN ((3,l50 (some 10300) v6)::t);refine WO.fn (e2:=z1 [(10,l56 none a1.qc),(11,I6 (a1.qc.length:Int)),(12,I6 (k1:Int)),(13,.bool true)]) ?_;refine W.seq<|W.cT ?_;let y0:Env:=[(10,l56 none a1.qc),(11,I6 (a1.qc.length:Int)),(12,I6 (k1:Int))];refine W.sw (e:=z1 y0) ?_;refine W.seq<|W.block<|W.sr<|WO.pq 0 (ja (f:=ZJ) hx1)<|WO.fi [3,5,10,11,12] [5] (e2:=z1 ((5,.ptr (.agg [.bool x1.qr,I6 x1.qe.qb,l3 none x1.qe.qa]))::y0)) ?_;refine W.rg ?_;obtain⟨hc9,h⟩:=qi h;refine WO.ak 4 20 50 2 YG v6 [x1.qe] hc9<|WO.fn (e2:=((3,l50 (some 20) (v6++[x1.qe]))::y0)) ?_;refine W.rg<|WO.pq 0 (jI (qC hl1 hk1))<|WO.fin [3,10,11,12] [] [] [(20,some 10300)] (e2:=[(3,l50 (some 10300) (v6++[x1.qe])),(10,l56 none a1.qc),(11,I6 (a1.qc.length:Int)),(12,I6 ((k1+1:Nat):Int))]) kR (fun _ h=>h) ?_;exact hN1 (v6++[x1.qe]) h
def jG:Option Bool :=
 (some true)
def Qi (N3:(Option Bool)):Option Bool :=
 N3
def QI (N4:(Option Bool)) (v31:Bool):Option Bool :=
 (bif v31 then (some false) else N4)
def jE (v20:(List (Int×Bool))) (K24:(Option Bool)):List Int->Nat->Option Bool
 | [],k4=>K24
 | x4::r4,k4=>(bif (decide (x4 >= 0)) then (chk (wfI .i64 x4) ((QI (jE v20 K24 r4 (k4+1))) (!(mget keq1 false x4 v20)))) else ((QI (jE v20 K24 r4 (k4+1))) false))
def jn (v20:(List (Int×Bool))) (K21:(Option Bool)):List qm->Nat->Option Bool
 | [],k3=>K21
 | x3::r3,k3=>(chk (lenOk x3.qa) (jE v20 (Qi (jn v20 K21 r3 (k3+1))) x3.qa 0))
def jY (a1:ruRule) (v20:(List (Int×Bool))):Option Bool :=
 ((Xi a1).bind fun w23=>(chk (lenOk w23) (jn v20 (jG) w23 0)))
def JS (N1:((List (Int×Bool))->Option Bool)) (v19:(List (Int×Bool))):Option Bool :=
 (N1 v19)
def QJ (N2:((List (Int×Bool))->Option Bool)) (v18:(List (Int×Bool))):Option Bool :=
 (N2 v18)
def jp (x1:ruLit) (K7:((List (Int×Bool))->Option Bool)):List Int->Nat->(List (Int×Bool))->Option Bool
 | [],k2,v10=>(K7 v10)
 | x2::r2,k2,v10=>(chk (wfI .i64 x2) (bif (mget keq1 false x2 v10) then (chk (wfI .i64 x2) (chk (Nat.blt v10.length 1000000000) ((QJ (jp x1 K7 r2 (k2+1))) (mset keq1 x2 true v10)))) else (chk (wfI .i64 x2) (chk (Nat.blt v10.length 1000000000) ((QJ (jp x1 K7 r2 (k2+1))) (mset keq1 x2 (!x1.qr) v10))))))
def je (K4:((List (Int×Bool))->Option Bool)):List ruLit->Nat->(List (Int×Bool))->Option Bool
 | [],k1,v6=>(K4 v6)
 | x1::r1,k1,v6=>(chk (lenOk x1.qe.qa) (jp x1 (JS (je K4 r1 (k1+1))) x1.qe.qa 0 v6))
def YN (a1:ruRule):Option Bool :=
 (chk (lenOk a1.qc) (je (jY a1) a1.qc 0 ([]:(List (Int×Bool)))))
theorem qaR (a1:ruRule) (r:Bool) (h:YN a1=some r):Run Try.prog (.call 104 [.agg [I6 a1.qf.qb,l3 none a1.qf.qa,l56 none a1.qc]] (.bool r)):=by
 refine cW Try.func104 rfl (env0:=[(0,.agg [I6 a1.qf.qb,l3 none a1.qf.qa,l56 none a1.qc])]) ?_;unfold YN at h;refine W.seq ?_;let z0:=fun t=>EN ((1,.ptr (.agg [I6 a1.qf.qb,l3 none a1.qf.qa,l56 none a1.qc]))::t);refine W.rT [1] [1] (e2:=z0 []) ?_;refine W.seq ?_;let y0:Env:=[(1000012,hobE (AV.int .i64) AV.bool ([]:(List (Int×Bool))))];let z1:=fun t=>z0 ((3,.mb 0 1000012)::t);refine W.rt (e2:=z1 y0) ?_;refine W.seq<|W.join (σ:=((List (Int×Bool)))) (fun s=>z1 [(1000012,hobE (AV.int .i64) AV.bool s)]) (fun s=>(jY a1) s=some r) (fun v20 h=>?_) (fun hK4=>?_)
 ·unfold jY at h;refine W.seq<|W.join (σ:=Unit) (fun s=>[]) (fun s=>(jG)=some r) (fun s h=>?_) (fun hK21=>?_)
  ·unfold jG at h;refine W.seq<|W.rt (e2:=[(2,.bool true)]) ?_;refine W.wk (e:=[(2,.bool true)]) ?_;cases h;exact W.rr
  refine W.sr ?_;obtain⟨w23,hw23,h⟩:=qd h;refine WO.ck 1 (F:=105) (l:=[.agg [I6 a1.qf.qb,l3 none a1.qf.qa,l56 none a1.qc]]) (C:=[]) (r:=l50 (some 1) w23) (VZ a1 w23 hw23)<|WO.pq 0 (jM YG w23) ?_;let y1:Env:=[(1000012,hobE (AV.int .i64) AV.bool v20)];let z2:=fun t=>EN ((3,.mb 0 1000012)::(41,l50 (some 41) w23)::(42,I6 (w23.length:Int))::t);refine WO.fn (e2:=z2 ((43,.int .i64 0)::y1)) ?_;refine W.block ?_;obtain⟨hl3,h⟩:=qi h;refine W.wk<|W.range (σ:=Unit) w23 (fun k3 s=>z2 ((43,I6 (k3:Int))::y1)) (fun r0 k0 s=>jn v20 (jG) r0 k0=some r) (fun s h=>?_) (fun x3 r3 k3 s hx3 hk3 h hN3=>?_) () h
  ·rw[jn.eq_1]at h;refine W.sr<|WO.pq 0 (jB (qM (l:=w23)))<|WO.fn (e2:=z2 ((43,I6 ((w23).length:Int))::(44,.bool false)::y1)) ?_;exact W.seq<|W.cF<|W.exit<|W.wk (hK21 () h)
  rw[jn.eq_2]at h;refine W.sr<|WO.pq 0 (jB (qZ hk3)) ?_;let z3:=fun t=>z2 ((43,I6 (k3:Int))::t);refine WO.fn (e2:=z3 ((44,.bool true)::y1)) ?_;refine W.seq<|W.cT ?_;let y2:Env:=(41,l50 (some 41) w23)::(42,I6 (w23.length:Int))::(43,I6 (k3:Int))::y1;let z4:=fun t=>EN ((3,.mb 0 1000012)::t);refine W.sw (e:=z4 y2) ?_;refine W.seq<|W.join (σ:=Unit) (fun s=>z4 y2) (fun s=>(Qi (jn v20 (jG) r3 (k3+1)))=some r) (fun s h=>?_) (fun hK24=>?_)
  ·unfold Qi at h;exact W.rg<|WO.pq 0 (jI (qC hl3 hk3))<|WO.fn (hN3 () h)
  refine W.block<|W.sr<|WO.pq 0 (ja (f:=YG) hx3)<|WO.fi [3,9,41,42,43,1000012] [9] (e2:=z4 ((9,.ptr (.agg [I6 x3.qb,l3 none x3.qa]))::y2)) ?_;refine W.sr<|WO.pq 2 (jM (.int .i64) x3.qa) ?_;let z5:=fun t=>z3 ((48,l3 none x3.qa)::(49,I6 (x3.qa.length:Int))::t);refine WO.fn (e2:=z5 ((50,.int .i64 0)::y1)) ?_;refine W.block ?_;obtain⟨hl4,h⟩:=qi h;refine W.wk<|W.range (σ:=Unit) x3.qa (fun k4 s=>z5 ((50,I6 (k4:Int))::y1)) (fun r0 k0 s=>jE v20 (Qi (jn v20 (jG) r3 (k3+1))) r0 k0=some r) (fun s h=>?_) (fun x4 r4 k4 s hx4 hk4 h hN4=>?_) () h
  ·rw[jE.eq_1]at h;refine W.sr<|WO.pq 0 (jB (qM (l:=x3.qa)))<|WO.fn (e2:=z5 ((50,I6 ((x3.qa).length:Int))::(51,.bool false)::y1)) ?_;exact W.seq<|W.cF<|W.exit<|W.wk (hK24 () h)
  rw[jE.eq_2]at h;refine W.sr<|WO.pq 0 (jB (qZ hk4)) ?_;let z6:=fun t=>z5 ((50,I6 (k4:Int))::t);refine WO.fn (e2:=z6 ((51,.bool true)::y1)) ?_;refine W.seq<|W.cT ?_;let y3:Env:=(41,l50 (some 41) w23)::(42,I6 (w23.length:Int))::(43,I6 (k3:Int))::(48,l3 none x3.qa)::(49,I6 (x3.qa.length:Int))::(50,I6 (k4:Int))::y1;refine W.sw (e:=z4 y3) ?_;refine W.seq<|W.block<|W.sr<|WO.pq 0 (ja (f:=(AV.int .i64)) hx4)<|WO.fn (e2:=z4 ((11,I6 x4)::y3)) ?_;refine W.seq<|W.join (σ:=(Bool)) (fun s=>z6 ((61,.bool s)::y1)) (fun s=>(QI (jE v20 (Qi (jn v20 (jG) r3 (k3+1))) r4 (k4+1))) s=some r) (fun v31 h=>?_) (fun hK29=>?_)
  ·unfold QI at h;refine W.ch v31 h (fun h=>?_) (fun h=>?_)
   ·refine W.seq<|W.rt (e2:=[(2,.bool false)]) ?_;refine W.wk (e:=[(2,.bool false)]) ?_;cases h;exact W.rr
   refine W.sw (e:=z4 y3) ?_;exact W.rg<|WO.pq 0 (jI (qC hl4 hk4))<|WO.fn (hN4 () h)
  refine W.rg<|WO.bh 3 (fun b=>z4 ((11,I6 x4)::(41,l50 (some 41) w23)::(42,I6 (w23.length:Int))::(43,I6 (k3:Int))::(48,l3 none x3.qa)::(49,I6 (x3.qa.length:Int))::(50,I6 (k4:Int))::(54,I6 x4)::(55,.bool b)::(56,.bool b)::y1)) (decide (x4 >= 0)) h (fun h=>?_) (fun h=>?_)
  ·obtain⟨hc30,h⟩:=qi h;refine WO.pk 2 ((alookup Try.prog 188 [] (mpE (AV.int .i64) AV.bool v20) (I6 x4)).map AV.strip) (congrArg (Option.map AV.strip) (VS (F:=(AV.int .i64)) (G:=AV.bool) (eq:=keq1) (l:=v20) (k:=x4) (z:=false) (kt:=3) (e:=4) (qas hc30) kR (fun x=>by kernel_rfl) (fun x y=>by kernel_rfl) kR)) ?_;exact WO.fn (hK29 (!(mget keq1 false x4 v20)) h)
  exact WO.fn (hK29 false h)
 refine W.sr<|WO.pq 2 (jM ZJ a1.qc) ?_;let z7:=fun t=>z1 ((14,l56 none a1.qc)::(15,I6 (a1.qc.length:Int))::t);refine WO.fn (e2:=z7 ((16,.int .i64 0)::y0)) ?_;refine W.block ?_;obtain⟨hl1,h⟩:=qi h;refine W.wk<|W.range (σ:=((List (Int×Bool)))) a1.qc (fun k1 s=>z7 [(16,I6 (k1:Int)),(1000012,hobE (AV.int .i64) AV.bool s)]) (fun r0 k0 s=>je (jY a1) r0 k0 s=some r) (fun v6 h=>?_) (fun x1 r1 k1 s hx1 hk1 h hN1=>?_) ([]:(List (Int×Bool))) h
 ·rw[je.eq_1]at h;refine W.sr<|WO.pq 0 (jB (qM (l:=a1.qc)))<|WO.fn (e2:=z7 [(16,I6 ((a1.qc).length:Int)),(17,.bool false),(1000012,hobE (AV.int .i64) AV.bool v6)]) ?_;exact W.seq<|W.cF<|W.exit<|W.wk (hK4 v6 h)
 obtain⟨v6,rfl⟩:∃ x,x=s:=⟨s,rfl⟩;rw[je.eq_2]at h;refine W.sr<|WO.pq 0 (jB (qZ hk1)) ?_;let y4:Env:=[(1000012,hobE (AV.int .i64) AV.bool v6)];let z8:=fun t=>z7 ((16,I6 (k1:Int))::t);refine WO.fn (e2:=z8 ((17,.bool true)::y4)) ?_;refine W.seq<|W.cT ?_;let y5:Env:=(14,l56 none a1.qc)::(15,I6 (a1.qc.length:Int))::(16,I6 (k1:Int))::y4;refine W.sw (e:=z1 y5) ?_;refine W.seq<|W.join (σ:=((List (Int×Bool)))) (fun s=>z8 [(1000012,hobE (AV.int .i64) AV.bool s)]) (fun s=>(JS (je (jY a1) r1 (k1+1))) s=some r) (fun v19 h=>?_) (fun hK7=>?_)
 ·unfold JS at h;exact W.rg<|WO.pq 0 (jI (qC hl1 hk1))<|WO.fn (hN1 v19 h)
 refine W.block<|W.sr<|WO.pq 0 (ja (f:=ZJ) hx1) ?_;let z9:=fun t=>z1 ((5,.ptr (.agg [.bool x1.qr,I6 x1.qe.qb,l3 none x1.qe.qa]))::t);refine WO.fi [1,3,5,14,15,16,1000012] [5] (e2:=z9 y5) ?_;refine W.sr<|WO.pq 3 (jM (.int .i64) x1.qe.qa) ?_;let z10:=fun t=>z9 ((14,l56 none a1.qc)::(15,I6 (a1.qc.length:Int))::(16,I6 (k1:Int))::(22,l3 none x1.qe.qa)::(23,I6 (x1.qe.qa.length:Int))::t);refine WO.fn (e2:=z10 ((24,.int .i64 0)::y4)) ?_;refine W.block ?_;obtain⟨hl2,h⟩:=qi h;refine W.wk<|W.range (σ:=((List (Int×Bool)))) x1.qe.qa (fun k2 s=>z10 [(24,I6 (k2:Int)),(1000012,hobE (AV.int .i64) AV.bool s)]) (fun r0 k0 s=>jp x1 (JS (je (jY a1) r1 (k1+1))) r0 k0 s=some r) (fun v10 h=>?_) (fun x2 r2 k2 s hx2 hk2 h hN2=>?_) v6 h
 ·rw[jp.eq_1]at h;refine W.sr<|WO.pq 0 (jB (qM (l:=x1.qe.qa)))<|WO.fn (e2:=z10 [(24,I6 ((x1.qe.qa).length:Int)),(25,.bool false),(1000012,hobE (AV.int .i64) AV.bool v10)]) ?_;exact W.seq<|W.cF<|W.exit<|W.wk (hK7 v10 h)
 obtain⟨v10,rfl⟩:∃ x,x=s:=⟨s,rfl⟩;rw[jp.eq_2]at h;refine W.sr<|WO.pq 0 (jB (qZ hk2)) ?_;let y6:Env:=[(1000012,hobE (AV.int .i64) AV.bool v10)];let z11:=fun t=>z10 ((24,I6 (k2:Int))::t);refine WO.fn (e2:=z11 ((25,.bool true)::y6)) ?_;refine W.seq<|W.cT ?_;let y7:Env:=(14,l56 none a1.qc)::(15,I6 (a1.qc.length:Int))::(16,I6 (k1:Int))::(22,l3 none x1.qe.qa)::(23,I6 (x1.qe.qa.length:Int))::(24,I6 (k2:Int))::y6;refine W.sw (e:=z9 y7) ?_;refine W.seq<|W.join (σ:=((List (Int×Bool)))) (fun s=>z11 [(1000012,hobE (AV.int .i64) AV.bool s)]) (fun s=>(QJ (jp x1 (JS (je (jY a1) r1 (k1+1))) r2 (k2+1))) s=some r) (fun v18 h=>?_) (fun hK11=>?_)
 ·unfold QJ at h;exact W.rg<|WO.pq 0 (jI (qC hl2 hk2))<|WO.fn (hN2 v18 h)
 refine W.block<|W.sr<|WO.pq 0 (ja (f:=(AV.int .i64)) hx2) ?_;let z12:=fun t=>z9 ((7,I6 x2)::t);refine WO.fn (e2:=z12 y7) ?_;refine W.rg ?_;obtain⟨hc13,h⟩:=qi h;refine WO.pk 4 ((alookup Try.prog 188 [] (mpE (AV.int .i64) AV.bool v10) (I6 x2)).map AV.strip) (congrArg (Option.map AV.strip) (VS (F:=(AV.int .i64)) (G:=AV.bool) (eq:=keq1) (l:=v10) (k:=x2) (z:=false) (kt:=3) (e:=4) (qas hc13) kR (fun x=>by kernel_rfl) (fun x y=>by kernel_rfl) kR)) ?_;let z13:=fun t=>z12 ((14,l56 none a1.qc)::(15,I6 (a1.qc.length:Int))::(16,I6 (k1:Int))::(22,l3 none x1.qe.qa)::(23,I6 (x1.qe.qa.length:Int))::(24,I6 (k2:Int))::(28,.mb 0 1000012)::(29,I6 x2)::(30,.mb 0 1000012)::(31,I6 x2)::t);refine WO.bh 1 (fun b=>z13 ((32,.bool b)::(33,.bool b)::y6)) (mget keq1 false x2 v10) h (fun h=>?_) (fun h=>?_)
 ·obtain⟨hc14,h⟩:=qi h;obtain⟨hc15,h⟩:=qi h;refine WO.mapK (F:=(AV.int .i64)) (G:=AV.bool) (eq:=keq1) (l:=v10) (a:=x2) (b:=true) (id:=1000012) (kt:=3) 4 (qas hc14) hc15 (e1:=z13 [(32,.bool true),(33,.bool true),(34,.und),(35,.und),(36,.und),(37,.bool true),(1000012,hobE (AV.int .i64) AV.bool (mset keq1 x2 true v10))]) ?_ (fun x=>by kernel_rfl) (fun x y=>by kernel_rfl);exact WO.fn (hK11 (mset keq1 x2 true v10) h)
 obtain⟨hc16,h⟩:=qi h;obtain⟨hc17,h⟩:=qi h;let y8:Env:=[(1000012,hobE (AV.int .i64) AV.bool (mset keq1 x2 (!x1.qr) v10))];refine WO.mapK (F:=(AV.int .i64)) (G:=AV.bool) (eq:=keq1) (l:=v10) (a:=x2) (b:=(!x1.qr)) (id:=1000012) (kt:=3) 4 (qas hc16) hc17 (e1:=z13 ((32,.bool false)::(33,.bool false)::(34,.ptr (.bool x1.qr))::(35,.bool x1.qr)::(36,.bool (!x1.qr))::(37,.bool (!x1.qr))::y8)) ?_ (fun x=>by kernel_rfl) (fun x y=>by kernel_rfl);exact WO.fn (hK11 (mset keq1 x2 (!x1.qr) v10) h)
def Jl:Option Bool :=
 (some true)
def JI (N2:((List Int)->Option Bool)) (v43:(List Int)):Option Bool :=
 (N2 v43)
def QV (N3:((List Int)->Option Bool)) (v40:(List Int)) (v41:Bool):Option Bool :=
 (bif v41 then (some false) else (N3 v40))
def Je (fuel:Nat) (K24:((List Int)->Option Bool)):List qm->Nat->(List Int)->Option Bool
 | [],k3,v33=>(K24 v33)
 | x3::r3,k3,v33=>((JN v33 x3.qb (x3.qa.length:Int)).bind fun w37=>(bif (!w37.1) then ((QV (Je fuel K24 r3 (k3+1))) w37.2 true) else ((Xr fuel x3.qa).bind fun w38=>(bif (decide (w38<(-6))) then ((QV (Je fuel K24 r3 (k3+1))) w37.2 true) else ((JP fuel x3.qa).bind fun w39=>((QV (Je fuel K24 r3 (k3+1))) w37.2 (decide (w39 >= 8))))))))
def YK (fuel:Nat) (x2:ruRule) (v23:(List Int)) (K24:((List Int)->Option Bool)) (v29:Bool):Option Bool :=
 (bif v29 then (some false) else ((Xi x2).bind fun w32=>(chk (lenOk w32) (Je fuel K24 w32 0 v23))))
def jw (fuel:Nat) (K21:(Option Bool)):List ruRule->Nat->(List Int)->Option Bool
 | [],k2,v23=>K21
 | x2::r2,k2,v23=>(bif (decide ((x2.qc.length:Int) > 3)) then ((YK fuel x2 v23 (JI (jw fuel K21 r2 (k2+1)))) true) else ((YN x2).bind fun w28=>((YK fuel x2 v23 (JI (jw fuel K21 r2 (k2+1)))) (!w28))))
def QO (fuel:Nat) (a1:(List ruRule)) (v20:(List Int)):Option Bool :=
 (chk (lenOk a1) (jw fuel (Jl) a1 0 v20))
def XJ (N1:((List Int)->Option Bool)) (v17:(List Int)) (v18:Bool):Option Bool :=
 (bif v18 then (some false) else (N1 v17))
def JA (fuel:Nat) (K9:((List Int)->Option Bool)):List apiFact->Nat->(List Int)->Option Bool
 | [],k1,v11=>(K9 v11)
 | x1::r1,k1,v11=>((Vo fuel x1).bind fun w15=>(bif (!w15) then ((XJ (JA fuel K9 r1 (k1+1))) v11 true) else ((JN v11 x1.qb (x1.qa.length:Int)).bind fun w16=>((XJ (JA fuel K9 r1 (k1+1))) w16.2 (!w16.1)))))
def ZL (fuel:Nat) (a1:(List ruRule)) (a2:(List apiFact)) (v7:Bool):Option Bool :=
 (bif v7 then (some false) else (chk (lenOk a2) (JA fuel (QO fuel a1) a2 0 (A1 6 0))))
def XY (fuel:Nat) (a1:(List ruRule)) (a2:(List apiFact)):Option Bool :=
 (bif (decide ((a1.length:Int) > 10)) then ((ZL fuel a1 a2) true) else ((ZL fuel a1 a2) (decide ((a2.length:Int) > 20))))
theorem qac (fuel:Nat) (a1:(List ruRule)) (a2:(List apiFact)) (r:Bool) (h:XY fuel a1 a2=some r):Run Try.prog (.call 56 [l54 none a1,l41 none a2] (.bool r)):=by
 refine cW Try.func56 rfl (env0:=[(0,l54 none a1),(1,l41 none a2)]) ?_;unfold XY at h;refine W.seq ?_;let z0:=fun t=>EN ((0,l54 none a1)::t);let z1:=fun t=>z0 ((1,l41 none a2)::t);refine W.rt (e2:=z1 []) ?_;refine W.sr<|WO.sl 1 ?_;let y0:Env:=[(1000005,.hob 3 [] (M6 (A1 6 0)))];let z2:=fun t=>z1 ((5,.pb 1000005 0)::t);refine WO.mv [.arr 5] (env':=z2 y0) kR<|WO.fn (e2:=z2 y0) ?_;refine W.seq<|W.seq<|W.join (σ:=(Bool)) (fun s=>z2 ((19,.bool s)::y0)) (fun s=>(ZL fuel a1 a2) s=some r) (fun v7 h=>?_) (fun hK6=>?_)
 ·unfold ZL at h;refine W.ch v7 h (fun h=>?_) (fun h=>?_)
  ·refine W.seq<|W.rt (e2:=[(4,.bool false)]) ?_;refine W.wk (e:=[(4,.bool false)]) ?_;cases h;exact W.rr
  refine W.sw (e:=z2 y0) ?_;refine W.seq ?_;let z3:=fun t=>z0 ((5,.pb 1000005 0)::t);refine W.join (σ:=((List Int))) (fun s=>z3 [(1000005,.hob 3 [] (M6 s))]) (fun s=>(QO fuel a1) s=some r) (fun v20 h=>?_) (fun hK9=>?_)
  ·unfold QO at h;refine W.seq<|W.join (σ:=Unit) (fun s=>[]) (fun s=>(Jl)=some r) (fun s h=>?_) (fun hK21=>?_)
   ·unfold Jl at h;refine W.seq<|W.rt (e2:=[(4,.bool true)]) ?_;refine W.wk (e:=[(4,.bool true)]) ?_;cases h;exact W.rr
   refine W.sr<|WO.pq 1 (jM XE a1) ?_;let z4:=fun t=>EN ((5,.pb 1000005 0)::(39,l54 none a1)::(40,I6 (a1.length:Int))::t);refine WO.fn (e2:=z4 [(41,.int .i64 0),(1000005,.hob 3 [] (M6 v20))]) ?_;refine W.block ?_;obtain⟨hl2,h⟩:=qi h;refine W.wk<|W.range (σ:=((List Int))) a1 (fun k2 s=>z4 [(41,I6 (k2:Int)),(1000005,.hob 3 [] (M6 s))]) (fun r0 k0 s=>jw fuel (Jl) r0 k0 s=some r) (fun v23 h=>?_) (fun x2 r2 k2 s hx2 hk2 h hN2=>?_) v20 h
   ·rw[jw.eq_1]at h;refine W.sr<|WO.pq 0 (jB (qM (l:=a1)))<|WO.fn (e2:=z4 [(41,I6 ((a1).length:Int)),(42,.bool false),(1000005,.hob 3 [] (M6 v23))]) ?_;exact W.seq<|W.cF<|W.exit<|W.wk (hK21 () h)
   obtain⟨v23,rfl⟩:∃ x,x=s:=⟨s,rfl⟩;rw[jw.eq_2]at h;refine W.sr<|WO.pq 0 (jB (qZ hk2)) ?_;let y1:Env:=[(1000005,.hob 3 [] (M6 v23))];let z5:=fun t=>z4 ((41,I6 (k2:Int))::t);refine WO.fn (e2:=z5 ((42,.bool true)::y1)) ?_;refine W.seq<|W.cT ?_;let y2:Env:=(39,l54 none a1)::(40,I6 (a1.length:Int))::(41,I6 (k2:Int))::y1;let z6:=fun t=>EN ((5,.pb 1000005 0)::t);refine W.sw (e:=z6 y2) ?_;refine W.seq<|W.join (σ:=((List Int))) (fun s=>z5 [(1000005,.hob 3 [] (M6 s))]) (fun s=>(JI (jw fuel (Jl) r2 (k2+1))) s=some r) (fun v43 h=>?_) (fun hK24=>?_)
   ·unfold JI at h;exact W.rg<|WO.pq 0 (jI (qC hl2 hk2))<|WO.fn (hN2 v43 h)
   refine W.block<|W.sr<|WO.pq 0 (ja (f:=XE) hx2) ?_;let y3:Env:=(9,.ptr (.agg [I6 x2.qf.qb,l3 none x2.qf.qa,l56 none x2.qc]))::y2;refine WO.fi [5,9,39,40,41,1000005] [9] (e2:=z6 y3) ?_;refine W.seq<|W.seq ?_;let z7:=fun t=>z6 ((9,.ptr (.agg [I6 x2.qf.qb,l3 none x2.qf.qa,l56 none x2.qc]))::(39,l54 none a1)::(40,I6 (a1.length:Int))::(41,I6 (k2:Int))::t);refine W.join (σ:=(Bool)) (fun s=>z7 ((53,.bool s)::y1)) (fun s=>(YK fuel x2 v23 (JI (jw fuel (Jl) r2 (k2+1)))) s=some r) (fun v29 h=>?_) (fun hK27=>?_)
   ·unfold YK at h;refine W.ch v29 h (fun h=>?_) (fun h=>?_)
    ·refine W.seq<|W.rt (e2:=[(4,.bool false)]) ?_;refine W.wk (e:=[(4,.bool false)]) ?_;cases h;exact W.rr
    refine W.sw (e:=z6 y3) ?_;refine W.sr ?_;obtain⟨w32,hw32,h⟩:=qd h;refine WO.ck 1 (F:=105) (l:=[.agg [I6 x2.qf.qb,l3 none x2.qf.qa,l56 none x2.qc]]) (C:=[]) (r:=l50 (some 1) w32) (VZ x2 w32 hw32)<|WO.pq 0 (jM YG w32) ?_;let z8:=fun t=>z5 ((55,l50 (some 55) w32)::(56,I6 (w32.length:Int))::t);refine WO.fn (e2:=z8 ((57,.int .i64 0)::y1)) ?_;refine W.block ?_;obtain⟨hl3,h⟩:=qi h;refine W.wk<|W.range (σ:=((List Int))) w32 (fun k3 s=>z8 [(57,I6 (k3:Int)),(1000005,.hob 3 [] (M6 s))]) (fun r0 k0 s=>Je fuel (JI (jw fuel (Jl) r2 (k2+1))) r0 k0 s=some r) (fun v33 h=>?_) (fun x3 r3 k3 s hx3 hk3 h hN3=>?_) v23 h
    ·rw[Je.eq_1]at h;refine W.sr<|WO.pq 0 (jB (qM (l:=w32)))<|WO.fn (e2:=z8 [(57,I6 ((w32).length:Int)),(58,.bool false),(1000005,.hob 3 [] (M6 v33))]) ?_;exact W.seq<|W.cF<|W.exit<|W.wk (hK24 v33 h)
    obtain⟨v33,rfl⟩:∃ x,x=s:=⟨s,rfl⟩;rw[Je.eq_2]at h;refine W.sr<|WO.pq 0 (jB (qZ hk3)) ?_;let z9:=fun t=>z8 ((57,I6 (k3:Int))::t);refine WO.fn (e2:=z9 [(58,.bool true),(1000005,.hob 3 [] (M6 v33))]) ?_;refine W.seq<|W.cT ?_;let y4:Env:=[(39,l54 none a1),(40,I6 (a1.length:Int)),(41,I6 (k2:Int)),(55,l50 (some 55) w32),(56,I6 (w32.length:Int)),(57,I6 (k3:Int)),(1000005,.hob 3 [] (M6 v33))];refine W.sw (e:=z6 y4) ?_;refine W.seq<|W.block<|W.sr<|WO.pq 0 (ja (f:=YG) hx3) ?_;let z10:=fun t=>z6 ((11,.ptr (.agg [I6 x3.qb,l3 none x3.qa]))::t);refine WO.fi [5,11,39,40,41,55,56,57,1000005] [11] (e2:=z10 y4) ?_;refine W.seq<|W.join (σ:=((List Int)×Bool)) (fun s=>z9 [(79,.bool s.2),(1000005,.hob 3 [] (M6 s.1))]) (fun s=>(QV (Je fuel (JI (jw fuel (Jl) r2 (k2+1))) r3 (k3+1))) s.1 s.2=some r) (fun s h=>?_) (fun hK36=>?_)
    ·obtain⟨v40,v41⟩:=s;have h:(QV (Je fuel (JI (jw fuel (Jl) r2 (k2+1))) r3 (k3+1))) v40 v41=some r:=h;unfold QV at h;refine W.ch v41 h (fun h=>?_) (fun h=>?_)
     ·refine W.seq<|W.rt (e2:=[(4,.bool false)]) ?_;refine W.wk (e:=[(4,.bool false)]) ?_;cases h;exact W.rr
     refine W.sw (e:=z9 [(1000005,.hob 3 [] (M6 v40))]) ?_;exact W.rg<|WO.pq 0 (jI (qC hl3 hk3))<|WO.fn (hN3 v40 h)
    refine W.rg<|WO.pq 4 (jM (.int .i64) x3.qa) ?_;obtain⟨w37,hw37,h⟩:=qd h;let y5:Env:=[(1000005,.hob 3 [] (M6 w37.2))];let z11:=fun t=>z10 ((39,l54 none a1)::(40,I6 (a1.length:Int))::(41,I6 (k2:Int))::(55,l50 (some 55) w32)::(56,I6 (w32.length:Int))::(57,I6 (k3:Int))::(61,.ptr (I6 x3.qb))::(62,I6 x3.qb)::(63,.ptr (l3 none x3.qa))::(64,l3 none x3.qa)::(65,I6 (x3.qa.length:Int))::(66,.bool w37.1)::t);refine WO.cm 0 [(1000005,2000000)] [] (F:=103) (args:=[.pb 2000000 0,I6 x3.qb,I6 (x3.qa.length:Int)]) (hp:=[(2000000,.hob 3 [] (M6 v33))]) (hp2:=[(2000000,.hob 3 [] (M6 w37.2))]) (r:=.bool w37.1) (Yq v33 x3.qb (x3.qa.length:Int) w37 hw37) (e1:=z11 y5)<|WO.bh 2 (fun b=>z11 ((67,.bool b)::(68,.bool b)::y5)) (!w37.1) h (fun h=>?_) (fun h=>?_)
    ·exact WO.fn (hK36 (w37.2,true) h)
    obtain⟨w38,hw38,h⟩:=qd h;refine WO.ck 2 (F:=106) (l:=[l3 none x3.qa]) (C:=[]) (r:=I6 w38) (NH fuel x3.qa w38 hw38)<|WO.bh 3 (fun b=>z11 ((67,.bool false)::(68,.bool false)::(69,.ptr (l3 none x3.qa))::(70,l3 none x3.qa)::(71,I6 w38)::(72,.bool b)::(73,.bool b)::(74,.bool b)::y5)) (decide (w38<(-6))) h (fun h=>?_) (fun h=>?_)
    ·exact WO.fn (hK36 (w37.2,true) h)
    obtain⟨w39,hw39,h⟩:=qd h;exact WO.ck 2 (F:=107) (l:=[l3 none x3.qa]) (C:=[]) (r:=I6 w39) (YJ fuel x3.qa w39 hw39)<|WO.fn (hK36 (w37.2,(decide (w39 >= 8))) h)
   refine W.rg<|WO.pq 2 (jM ZJ x2.qc)<|WO.bh 2 (fun b=>z7 ((45,.ptr (l56 none x2.qc))::(46,l56 none x2.qc)::(47,I6 (x2.qc.length:Int))::(48,.bool b)::(49,.bool b)::y1)) (decide ((x2.qc.length:Int) > 3)) h (fun h=>?_) (fun h=>?_)
   ·exact WO.fn (hK27 true h)
   obtain⟨w28,hw28,h⟩:=qd h;exact WO.ck 1 (F:=104) (l:=[.agg [I6 x2.qf.qb,l3 none x2.qf.qa,l56 none x2.qc]]) (C:=[]) (r:=.bool w28) (qaR x2 w28 hw28)<|WO.fn (hK27 (!w28) h)
  refine W.sr<|WO.pq 1 (jM qA a2) ?_;let z12:=fun t=>z3 ((20,l41 none a2)::(21,I6 (a2.length:Int))::t);refine WO.fn (e2:=z12 ((22,.int .i64 0)::y0)) ?_;refine W.block ?_;obtain⟨hl1,h⟩:=qi h;refine W.wk<|W.range (σ:=((List Int))) a2 (fun k1 s=>z12 [(22,I6 (k1:Int)),(1000005,.hob 3 [] (M6 s))]) (fun r0 k0 s=>JA fuel (QO fuel a1) r0 k0 s=some r) (fun v11 h=>?_) (fun x1 r1 k1 s hx1 hk1 h hN1=>?_) (A1 6 0) h
  ·rw[JA.eq_1]at h;refine W.sr<|WO.pq 0 (jB (qM (l:=a2)))<|WO.fn (e2:=z12 [(22,I6 ((a2).length:Int)),(23,.bool false),(1000005,.hob 3 [] (M6 v11))]) ?_;exact W.seq<|W.cF<|W.exit<|W.wk (hK9 v11 h)
  obtain⟨v11,rfl⟩:∃ x,x=s:=⟨s,rfl⟩;rw[JA.eq_2]at h;refine W.sr<|WO.pq 0 (jB (qZ hk1)) ?_;let y6:Env:=[(1000005,.hob 3 [] (M6 v11))];let z13:=fun t=>z12 ((22,I6 (k1:Int))::t);refine WO.fn (e2:=z13 ((23,.bool true)::y6)) ?_;refine W.seq<|W.cT ?_;let y7:Env:=(20,l41 none a2)::(21,I6 (a2.length:Int))::(22,I6 (k1:Int))::y6;refine W.sw (e:=z3 y7) ?_;refine W.seq<|W.block<|W.sr<|WO.pq 0 (ja (f:=qA) hx1) ?_;let z14:=fun t=>z3 ((7,.ptr (.agg [I6 x1.qb,l3 none x1.qa]))::t);refine WO.fi [0,5,7,20,21,22,1000005] [7] (e2:=z14 y7) ?_;refine W.seq<|W.join (σ:=((List Int)×Bool)) (fun s=>z13 [(37,.bool s.2),(1000005,.hob 3 [] (M6 s.1))]) (fun s=>(XJ (JA fuel (QO fuel a1) r1 (k1+1))) s.1 s.2=some r) (fun s h=>?_) (fun hK14=>?_)
  ·obtain⟨v17,v18⟩:=s;have h:(XJ (JA fuel (QO fuel a1) r1 (k1+1))) v17 v18=some r:=h;unfold XJ at h;refine W.ch v18 h (fun h=>?_) (fun h=>?_)
   ·refine W.seq<|W.rt (e2:=[(4,.bool false)]) ?_;refine W.wk (e:=[(4,.bool false)]) ?_;cases h;exact W.rr
   refine W.sw (e:=z13 [(1000005,.hob 3 [] (M6 v17))]) ?_;exact W.rg<|WO.pq 0 (jI (qC hl1 hk1))<|WO.fn (hN1 v17 h)
  refine W.rg ?_;obtain⟨w15,hw15,h⟩:=qd h;refine WO.ck 1 (F:=75) (l:=[.agg [I6 x1.qb,l3 none x1.qa]]) (C:=[]) (r:=.bool w15) (Dp fuel x1 w15 hw15) ?_;let z15:=fun t=>z14 ((20,l41 none a2)::(21,I6 (a2.length:Int))::(22,I6 (k1:Int))::(26,.agg [I6 x1.qb,l3 none x1.qa])::(27,.bool w15)::t);refine WO.bh 2 (fun b=>z15 ((28,.bool b)::(29,.bool b)::y6)) (!w15) h (fun h=>?_) (fun h=>?_)
  ·exact WO.fn (hK14 (v11,true) h)
  refine WO.pq 4 (jM (.int .i64) x1.qa) ?_;obtain⟨w16,hw16,h⟩:=qd h;exact WO.cm 0 [(1000005,2000000)] [] (F:=103) (args:=[.pb 2000000 0,I6 x1.qb,I6 (x1.qa.length:Int)]) (hp:=[(2000000,.hob 3 [] (M6 v11))]) (hp2:=[(2000000,.hob 3 [] (M6 w16.2))]) (r:=.bool w16.1) (Yq v11 x1.qb (x1.qa.length:Int) w16 hw16) (e1:=z15 [(28,.bool false),(29,.bool false),(30,.ptr (I6 x1.qb)),(31,I6 x1.qb),(32,.ptr (l3 none x1.qa)),(33,l3 none x1.qa),(34,I6 (x1.qa.length:Int)),(35,.bool w16.1),(1000005,.hob 3 [] (M6 w16.2))])<|WO.fn (hK14 (w16.2,(!w16.1)) h)
 refine W.rg<|WO.pq 1 (jM XE a1)<|WO.bh 2 (fun b=>z2 ((12,l54 none a1)::(13,I6 (a1.length:Int))::(14,.bool b)::(15,.bool b)::y0)) (decide ((a1.length:Int) > 10)) h (fun h=>?_) (fun h=>?_)
 ·exact WO.fn (hK6 true h)
 exact WO.pq 1 (jM qA a2)<|WO.fn (hK6 (decide ((a2.length:Int) > 20)) h)
def qN (fuel:Nat) (v7:Int) (N1:((List Int)->Int->Option ((List Int)×Bool))) (v38:(List Int)) (v39:Bool):Option ((List Int)×Bool) :=
 (bif (!v39) then (some ((snap 0 (A0 6) v38),true)) else ((JP fuel (snap 0 (A0 6) v38)).bind fun w44=>(bif (decide (w44 > 6)) then (some ((snap 0 (([]:(List Int)).length) ([]:(List Int))),false)) else (N1 v38 (A2 .i64 (v7+1))))))
def jD (N2:((List Int)->Bool->Option ((List Int)×Bool))) (v36:(List Int)) (v37:Bool):Option ((List Int)×Bool) :=
 (N2 v36 v37)
def Qc (N3:((List Int)->Bool->Option ((List Int)×Bool))) (v34:(List Int)) (v35:Bool):Option ((List Int)×Bool) :=
 (N3 v34 v35)
def Xh (x2:ruRule) (v17:(List Int)) (v18:Bool) (K19:((List Int)->Bool->Option ((List Int)×Bool))) (v26:Int):Option ((List Int)×Bool) :=
 (chk (decide ((0:Int)<=x2.qf.qb/\x2.qf.qb<(((A0 6):Nat):Int))) ((v17[(0+A0 x2.qf.qb)]?).bind fun e29=>(bif (decide (v26 > e29)) then (chk (decide ((0:Int)<=x2.qf.qb/\x2.qf.qb<(((A0 6):Nat):Int))) ((upd v17 (0+A0 x2.qf.qb) v26).bind fun u32=>(K19 u32 true))) else (K19 v17 v18))))
def jl (x2:ruRule) (K14:((List Int)->Bool->Option ((List Int)×Bool))):List ruLit->Nat->(List Int)->Bool->Option ((List Int)×Bool)
 | [],k3,v17,v18=>(K14 v17 v18)
 | x3::r3,k3,v17,v18=>(chk (decide ((0:Int)<=x3.qe.qb/\x3.qe.qb<(((A0 6):Nat):Int))) ((v17[(0+A0 x3.qe.qb)]?).bind fun e23=>(bif x3.qr then ((Xh x2 v17 v18 (Qc (jl x2 K14 r3 (k3+1)))) (A2 .i64 (e23+1))) else ((Xh x2 v17 v18 (Qc (jl x2 K14 r3 (k3+1)))) e23))))
def qQ (K10:((List Int)->Bool->Option ((List Int)×Bool))):List ruRule->Nat->(List Int)->Bool->Option ((List Int)×Bool)
 | [],k2,v12,v13=>(K10 v12 v13)
 | x2::r2,k2,v12,v13=>(chk (lenOk x2.qc) (jl x2 (jD (qQ K10 r2 (k2+1))) x2.qc 0 v12 v13))
def qz (fuel:Nat) (a1:(List ruRule)):Nat->(List Int)->Int->Option ((List Int)×Bool)
 | 0,_,_=>none
 | m1+1,v6,v7=>(chk (lenOk a1) (qQ (qN fuel v7 (qz fuel a1 m1)) a1 0 v6 false))
def XK (fuel:Nat) (a1:(List ruRule)):Option ((List Int)×Bool) :=
 (chk (mkOk 8 6) (qz fuel a1 fuel (A1 (A0 6) 0) 0))
theorem qdn (fuel:Nat) (a1:(List ruRule)) (r:((List Int)×Bool)) (h:XK fuel a1=some r):Run Try.prog (.call 85 [l54 none a1] (.tup [l3 none r.1,.bool r.2])):=by
 refine cW Try.func85 rfl (env0:=[(0,l54 none a1)]) ?_;unfold XK at h;refine W.sr<|WO.sl 1 ?_;let y0:Env:=[(1200002,.obj 3 1 (M6 ([]:(List Int))))];let z0:=fun t=>EN ((0,l54 none a1)::t);let z1:=fun t=>z0 ((2,.sb 1200002 3 1 0 (([]:(List Int)).length))::t);refine WO.mv [.nil 2 3 1 1200002] (env':=z1 y0) kR<|WO.fn (e2:=z0 []) ?_;refine W.sr ?_;obtain⟨hc4,h⟩:=qi h;let y1:Env:=[(1000012,.obj 3 1 (M6 (A1 (A0 6) 0)))];refine WO.makeK 0 (d:=12) (e:=3) (s:=1) (bytes:=8) (m:=6) (z:=(.int .i64 0)) (zs:=(M6 (A1 (A0 6) 0))) (env1:=[(0,l54 none a1),(12,.sb 1000012 3 1 0 (A0 6))]) kR hc4 (by first | exact qiI | exact (qiI (f:=(AV.int .i64)))) (e1:=z0 ((12,.sb 1000012 3 1 0 (A0 6))::y1)) kR ?_;let z2:=fun t=>z0 ((4,.sb 1000012 3 1 0 (A0 6))::t);refine WO.fn (e2:=z2 y1) ?_;refine W.seq ?_;let y2:Env:=(4,.sb 1000012 3 1 0 (A0 6))::(5,.int .i64 0)::y1;refine W.rt (e2:=z0 y2) ?_;refine W.block<|W.wk (e:=z0 y2)<|W.fuel (σ:=((List Int)×Int)) (fun s=>z2 [(5,I6 s.2),(1000012,.obj 3 1 (M6 s.1))]) (fun m0 s=>qz fuel a1 m0 s.1 s.2=some r) (fun s h=>?_) (fun m1 s h hN1=>?_) fuel ((A1 (A0 6) 0),0) h
 ·obtain⟨v6,v7⟩:=s;have h:qz fuel a1 0 v6 v7=some r:=h;rw[qz.eq_1]at h;cases h
 obtain⟨v6,v7⟩:=s;have h:qz fuel a1 (m1+1) v6 v7=some r:=h;rw[qz.eq_2]at h;refine W.seq<|W.block<|W.seq ?_;let z3:=fun t=>z2 ((5,I6 v7)::t);let z4:=fun t=>z3 ((6,.bool false)::t);refine W.rt (e2:=z4 [(1000012,.obj 3 1 (M6 v6))]) ?_;refine W.seq<|W.join (σ:=((List Int)×Bool)) (fun s=>z3 [(6,.bool s.2),(1000012,.obj 3 1 (M6 s.1))]) (fun s=>(qN fuel v7 (qz fuel a1 m1)) s.1 s.2=some r) (fun s h=>?_) (fun hK10=>?_)
 ·obtain⟨v38,v39⟩:=s;have h:(qN fuel v7 (qz fuel a1 m1)) v38 v39=some r:=h;unfold qN at h;refine W.seq<|W.seq ?_;let y3:Env:=[(1000012,.obj 3 1 (M6 v38))];refine W.rt (e2:=z3 ((55,.bool (!v39))::y3)) ?_;refine W.ch (!v39) h (fun h=>?_) (fun h=>?_)
  ·refine W.seq<|W.rt (e2:=((2,.sb 1000012 3 1 0 (A0 6))::(3,.bool true)::y3)) ?_;let z5:=fun t=>EN ((2,l3 none (snap 0 (A0 6) v38))::(3,.bool true)::t);refine W.mv [.frz 1000012] (env':=z5 []) ((by kernel_rfl:mvAll [(2,.sb 1000012 3 1 0 (A0 6)),(3,.bool true),(1000012,.obj 3 1 (M6 v38))] [.frz 1000012]=[(2,.lst 3 1 none (snapA 0 (A0 6) (M6 v38))),(3,.bool true)]).trans (by first | (simp only[Uz,Vm,Uy];done) | (simp only[Uz,Vm,Uy];kernel_rfl))) ?_;refine W.wk (e:=z5 []) ?_;cases h;exact W.rr
  refine W.sw (e:=z3 y3) ?_;refine W.sr ?_;obtain⟨w44,hw44,h⟩:=qd h;refine WO.callRK 1 (F:=107) (l:=[.lst 3 1 none (snapA 0 (A0 6) (M6 v38))]) (C:=[]) (args:=[l3 none (snap 0 (A0 6) v38)]) (r:=I6 w44) kR (by first | (simp only[Uz,Vm,Uy,List.cons_append,List.nil_append];done) | (simp only[Uz,Vm,Uy,List.cons_append,List.nil_append];kernel_rfl)) kR kR (YJ fuel (snap 0 (A0 6) v38) w44 hw44) (e1:=z3 ((57,.sb 1000012 3 1 0 (A0 6))::(58,I6 w44)::y3)) kR ?_;refine WO.fn (e2:=z3 ((59,.bool (decide (w44 > 6)))::y3)) ?_;refine W.ch (decide (w44 > 6)) h (fun h=>?_) (fun h=>?_)
  ·refine W.sr<|WO.sl 1<|WO.mv [.nil 2 3 1 1200002] (env':=z1 ((4,.sb 1000012 3 1 0 (A0 6))::(5,I6 v7)::(59,.bool (decide (w44 > 6)))::(1000012,.obj 3 1 (M6 v38))::y0)) kR<|WO.fn (e2:=((2,.sb 1200002 3 1 0 (([]:(List Int)).length))::(3,.bool false)::y0)) ?_;let z6:=fun t=>EN ((2,l3 none (snap 0 (([]:(List Int)).length) ([]:(List Int))))::(3,.bool false)::t);refine W.mv [.frz 1200002] (env':=z6 []) ((by kernel_rfl:mvAll [(2,.sb 1200002 3 1 0 (([]:(List Int)).length)),(3,.bool false),(1200002,.obj 3 1 (M6 ([]:(List Int))))] [.frz 1200002]=[(2,.lst 3 1 none (snapA 0 (([]:(List Int)).length) (M6 ([]:(List Int))))),(3,.bool false)]).trans (by first | (simp only[Uz,Vm,Uy];done) | (simp only[Uz,Vm,Uy];kernel_rfl))) ?_;refine W.wk (e:=z6 []) ?_;cases h;exact W.rr
  refine W.sw (e:=z3 y3) ?_;refine W.rt (e2:=z2 ((5,I6 (W6 (v7+1)))::y3)) ?_;exact hN1 (v38,(W6 (v7+1))) h
 refine W.sr<|WO.pq 1 (jM XE a1) ?_;let z7:=fun t=>z4 ((15,l54 none a1)::(16,I6 (a1.length:Int))::t);refine WO.fn (e2:=z7 [(17,.int .i64 0),(1000012,.obj 3 1 (M6 v6))]) ?_;refine W.block ?_;obtain⟨hl2,h⟩:=qi h;refine W.wk<|W.range (σ:=((List Int)×Bool)) a1 (fun k2 s=>z3 [(6,.bool s.2),(15,l54 none a1),(16,I6 (a1.length:Int)),(17,I6 (k2:Int)),(1000012,.obj 3 1 (M6 s.1))]) (fun r0 k0 s=>qQ (qN fuel v7 (qz fuel a1 m1)) r0 k0 s.1 s.2=some r) (fun s h=>?_) (fun x2 r2 k2 s hx2 hk2 h hN2=>?_) (v6,false) h
 ·obtain⟨v12,v13⟩:=s;have h:qQ (qN fuel v7 (qz fuel a1 m1)) [] (a1).length v12 v13=some r:=h;rw[qQ.eq_1]at h;refine W.sr<|WO.pq 0 (jB (qM (l:=a1)))<|WO.fn (e2:=z3 [(6,.bool v13),(15,l54 none a1),(16,I6 (a1.length:Int)),(17,I6 ((a1).length:Int)),(18,.bool false),(1000012,.obj 3 1 (M6 v12))]) ?_;exact W.seq<|W.cF<|W.exit<|W.wk (hK10 (v12,v13) h)
 obtain⟨v12,v13⟩:=s;have h:qQ (qN fuel v7 (qz fuel a1 m1)) (x2::r2) k2 v12 v13=some r:=h;rw[qQ.eq_2]at h;refine W.sr<|WO.pq 0 (jB (qZ hk2)) ?_;let y4:Env:=[(1000012,.obj 3 1 (M6 v12))];let z8:=fun t=>z3 ((6,.bool v13)::t);refine WO.fn (e2:=z8 ((15,l54 none a1)::(16,I6 (a1.length:Int))::(17,I6 (k2:Int))::(18,.bool true)::y4)) ?_;refine W.seq<|W.cT ?_;let y5:Env:=(15,l54 none a1)::(16,I6 (a1.length:Int))::(17,I6 (k2:Int))::y4;refine W.sw (e:=z8 y5) ?_;refine W.seq<|W.join (σ:=((List Int)×Bool)) (fun s=>z3 [(6,.bool s.2),(15,l54 none a1),(16,I6 (a1.length:Int)),(17,I6 (k2:Int)),(1000012,.obj 3 1 (M6 s.1))]) (fun s=>(jD (qQ (qN fuel v7 (qz fuel a1 m1)) r2 (k2+1))) s.1 s.2=some r) (fun s h=>?_) (fun hK14=>?_)
 ·obtain⟨v36,v37⟩:=s;have h:(jD (qQ (qN fuel v7 (qz fuel a1 m1)) r2 (k2+1))) v36 v37=some r:=h;unfold jD at h;exact W.rg<|WO.pq 0 (jI (qC hl2 hk2))<|WO.fn (hN2 (v36,v37) h)
 refine W.block<|W.sr<|WO.pq 0 (ja (f:=XE) hx2) ?_;let z9:=fun t=>z8 ((8,.ptr (.agg [I6 x2.qf.qb,l3 none x2.qf.qa,l56 none x2.qc]))::t);refine WO.fi [0,4,5,6,8,15,16,17,1000012] [8] (e2:=z9 y5) ?_;refine W.sr<|WO.pq 2 (jM ZJ x2.qc) ?_;let z10:=fun t=>z9 ((15,l54 none a1)::(16,I6 (a1.length:Int))::(17,I6 (k2:Int))::(22,l56 none x2.qc)::(23,I6 (x2.qc.length:Int))::t);refine WO.fn (e2:=z10 ((24,.int .i64 0)::y4)) ?_;refine W.block ?_;obtain⟨hl3,h⟩:=qi h;refine W.wk<|W.range (σ:=((List Int)×Bool)) x2.qc (fun k3 s=>z3 [(6,.bool s.2),(8,.ptr (.agg [I6 x2.qf.qb,l3 none x2.qf.qa,l56 none x2.qc])),(15,l54 none a1),(16,I6 (a1.length:Int)),(17,I6 (k2:Int)),(22,l56 none x2.qc),(23,I6 (x2.qc.length:Int)),(24,I6 (k3:Int)),(1000012,.obj 3 1 (M6 s.1))]) (fun r0 k0 s=>jl x2 (jD (qQ (qN fuel v7 (qz fuel a1 m1)) r2 (k2+1))) r0 k0 s.1 s.2=some r) (fun s h=>?_) (fun x3 r3 k3 s hx3 hk3 h hN3=>?_) (v12,v13) h
 ·obtain⟨v17,v18⟩:=s;have h:jl x2 (jD (qQ (qN fuel v7 (qz fuel a1 m1)) r2 (k2+1))) [] (x2.qc).length v17 v18=some r:=h;rw[jl.eq_1]at h;refine W.sr<|WO.pq 0 (jB (qM (l:=x2.qc)))<|WO.fn (e2:=z3 [(6,.bool v18),(8,.ptr (.agg [I6 x2.qf.qb,l3 none x2.qf.qa,l56 none x2.qc])),(15,l54 none a1),(16,I6 (a1.length:Int)),(17,I6 (k2:Int)),(22,l56 none x2.qc),(23,I6 (x2.qc.length:Int)),(24,I6 ((x2.qc).length:Int)),(25,.bool false),(1000012,.obj 3 1 (M6 v17))]) ?_;exact W.seq<|W.cF<|W.exit<|W.wk (hK14 (v17,v18) h)
 obtain⟨v17,v18⟩:=s;have h:jl x2 (jD (qQ (qN fuel v7 (qz fuel a1 m1)) r2 (k2+1))) (x3::r3) k3 v17 v18=some r:=h;rw[jl.eq_2]at h;refine W.sr<|WO.pq 0 (jB (qZ hk3)) ?_;let y6:Env:=[(1000012,.obj 3 1 (M6 v17))];let z11:=fun t=>z3 ((6,.bool v18)::(8,.ptr (.agg [I6 x2.qf.qb,l3 none x2.qf.qa,l56 none x2.qc]))::t);refine WO.fn (e2:=z11 ((15,l54 none a1)::(16,I6 (a1.length:Int))::(17,I6 (k2:Int))::(22,l56 none x2.qc)::(23,I6 (x2.qc.length:Int))::(24,I6 (k3:Int))::(25,.bool true)::y6)) ?_;refine W.seq<|W.cT ?_;let y7:Env:=(15,l54 none a1)::(16,I6 (a1.length:Int))::(17,I6 (k2:Int))::(22,l56 none x2.qc)::(23,I6 (x2.qc.length:Int))::(24,I6 (k3:Int))::y6;refine W.sw (e:=z11 y7) ?_;refine W.seq<|W.join (σ:=((List Int)×Bool)) (fun s=>z3 [(6,.bool s.2),(8,.ptr (.agg [I6 x2.qf.qb,l3 none x2.qf.qa,l56 none x2.qc])),(15,l54 none a1),(16,I6 (a1.length:Int)),(17,I6 (k2:Int)),(22,l56 none x2.qc),(23,I6 (x2.qc.length:Int)),(24,I6 (k3:Int)),(1000012,.obj 3 1 (M6 s.1))]) (fun s=>(Qc (jl x2 (jD (qQ (qN fuel v7 (qz fuel a1 m1)) r2 (k2+1))) r3 (k3+1))) s.1 s.2=some r) (fun s h=>?_) (fun hK19=>?_)
 ·obtain⟨v34,v35⟩:=s;have h:(Qc (jl x2 (jD (qQ (qN fuel v7 (qz fuel a1 m1)) r2 (k2+1))) r3 (k3+1))) v34 v35=some r:=h;unfold Qc at h;exact W.rg<|WO.pq 0 (jI (qC hl3 hk3))<|WO.fn (hN3 (v34,v35) h)
 refine W.block<|W.sr<|WO.pq 0 (ja (f:=ZJ) hx3) ?_;let z12:=fun t=>z11 ((10,.ptr (.agg [.bool x3.qr,I6 x3.qe.qb,l3 none x3.qe.qa]))::t);refine WO.fi [0,4,5,6,8,10,15,16,17,22,23,24,1000012] [10] (e2:=z12 y7) ?_;refine W.sr ?_;obtain⟨hc22,h⟩:=qi h;refine WO.pi 4 (v:=.pe 1000012 1 (0+A0 x3.qe.qb) 0) hc22 ?_;obtain⟨e23,he23,h⟩:=qd h;refine WO.pl 0 (v:=I6 e23) (AV.int .i64) 3 0 he23<|WO.fn (e2:=z12 ((11,I6 e23)::y7)) ?_;refine W.seq<|W.join (σ:=(Int)) (fun s=>z11 ((11,I6 s)::y7)) (fun s=>(Xh x2 v17 v18 (Qc (jl x2 (jD (qQ (qN fuel v7 (qz fuel a1 m1)) r2 (k2+1))) r3 (k3+1)))) s=some r) (fun v26 h=>?_) (fun hK24=>?_)
 ·unfold Xh at h;refine W.sr ?_;obtain⟨hc28,h⟩:=qi h;refine WO.pi 5 (v:=.pe 1000012 1 (0+A0 x2.qf.qb) 0) hc28 ?_;obtain⟨e29,he29,h⟩:=qd h;refine WO.pl 0 (v:=I6 e29) (AV.int .i64) 3 0 he29<|WO.fn (e2:=z11 ((11,I6 v26)::(15,l54 none a1)::(16,I6 (a1.length:Int))::(17,I6 (k2:Int))::(22,l56 none x2.qc)::(23,I6 (x2.qc.length:Int))::(24,I6 (k3:Int))::(45,.bool (decide (v26 > e29)))::y6)) ?_;refine W.ch (decide (v26 > e29)) h (fun h=>?_) (fun h=>?_)
  ·refine W.sr ?_;obtain⟨hc31,h⟩:=qi h;refine WO.pi 5 (v:=.pe 1000012 1 (0+A0 x2.qf.qb) 0) hc31 ?_;obtain⟨u32,hu32,h⟩:=qd h;obtain⟨y33,hyy33,hzy33⟩:=qkm hu32;refine WO.sk 0 (id:=1000012) (e:=3) (s:=1) (off:=0) (vs:=[I6 v26]) (AV.int .i64) hyy33 hzy33 ?_;let y8:Env:=[(8,.ptr (.agg [I6 x2.qf.qb,l3 none x2.qf.qa,l56 none x2.qc])),(15,l54 none a1),(16,I6 (a1.length:Int)),(17,I6 (k2:Int)),(22,l56 none x2.qc),(23,I6 (x2.qc.length:Int)),(24,I6 (k3:Int)),(1000012,.obj 3 1 (M6 u32))];refine WO.fn (e2:=z3 y8) ?_;refine W.rt (e2:=z3 ((6,.bool true)::y8)) ?_;exact hK19 (u32,true) h
  exact W.sw (hK19 (v17,v18) h)
 refine W.seq<|W.rt (e2:=z11 ((11,I6 e23)::(15,l54 none a1)::(16,I6 (a1.length:Int))::(17,I6 (k2:Int))::(22,l56 none x2.qc)::(23,I6 (x2.qc.length:Int))::(24,I6 (k3:Int))::(35,.bool x3.qr)::y6)) ?_;refine W.ch x3.qr h (fun h=>?_) (fun h=>?_)
 ·refine W.rt (e2:=z11 ((11,I6 (W6 (e23+1)))::y7)) ?_;exact hK24 (W6 (e23+1)) h
 exact W.sw (hK24 e23 h)
def ZM (a1:rufact):Option apiFact :=
 (bif (a1.f_b == 0) then (some (apiFact.mk a1.qj [a1.f_a])) else (some (apiFact.mk a1.qj [a1.f_a,a1.f_b])))
theorem Nz (a1:rufact) (r:apiFact) (h:ZM a1=some r):Run Try.prog (.call 108 [.agg [I6 a1.qj,I6 a1.f_a,I6 a1.f_b]] (.agg [I6 r.qb,l3 none r.qa])):=by
 refine cW Try.func108 rfl (env0:=[(0,.agg [I6 a1.qj,I6 a1.f_a,I6 a1.f_b])]) ?_;unfold ZM at h;refine W.seq ?_;let z0:=fun t=>EN ((1,.ptr (.agg [I6 a1.qj,I6 a1.f_a,I6 a1.f_b]))::(2,.box [.int .i64 0,.nils])::t);refine W.rT [1,2] [1] (e2:=z0 []) ?_;refine W.seq<|W.seq<|W.rt (e2:=z0 [(5,.bool (a1.f_b == 0))]) ?_;refine W.ch (a1.f_b == 0) h (fun h=>?_) (fun h=>?_)
 ·refine W.seq<|W.rt (e2:=[(2,.box [I6 a1.qj,l3 none [a1.f_a]])]) ?_;refine W.wk (e:=[(2,.box [I6 a1.qj,l3 none [a1.f_a]])]) ?_;cases h;exact W.rr
 refine W.sw (e:=z0 []) ?_;refine W.seq ?_;let z1:=fun t=>EN ((2,.box [I6 a1.qj,l3 none [a1.f_a,a1.f_b]])::t);refine W.rt (e2:=z1 []) ?_;refine W.wk (e:=z1 []) ?_;cases h;exact W.rr
def JT (a2:qm) (v19:(List Int)):Option rufact :=
 ((v19[0]?).bind fun e21=>((v19[1]?).bind fun e22=>(some (rufact.mk a2.qb e21 e22))))
def Ju (N1:((List Int)->Option rufact)) (v18:(List Int)):Option rufact :=
 (N1 v18)
def qJ (a1:(List Int)) (K6:((List Int)->Option rufact)):List Int->Nat->(List Int)->Option rufact
 | [],k1,v8=>(K6 v8)
 | x1::r1,k1,v8=>(bif (decide (x1<0)) then (chk (decide ((0:Int)<=(k1:Int)/\(k1:Int)<((2:Nat):Int)/\0<1)) (chk (decide ((0+A0 (k1:Int) * 1)<v8.length)) ((Ju (qJ a1 K6 r1 (k1+1))) (v8.set (0+A0 (k1:Int) * 1) (A2 .i64 (0 - x1)))))) else (chk (decide ((0:Int)<=x1/\x1<((8:Nat):Int)/\0<1)) ((a1[(0+A0 x1 * 1)]?).bind fun e15=>(chk (decide ((0:Int)<=(k1:Int)/\(k1:Int)<((2:Nat):Int)/\0<1)) (chk (decide ((0+A0 (k1:Int) * 1)<v8.length)) ((Ju (qJ a1 K6 r1 (k1+1))) (v8.set (0+A0 (k1:Int) * 1) e15)))))))
def qx (a1:(List Int)) (a2:qm):Option rufact :=
 (chk (!a1.isEmpty) (chk (lenOk a2.qa) (qJ a1 (JT a2) a2.qa 0 (A1 2 0))))
theorem Qx (a1:(List Int)) (a2:qm) (r:rufact) (h:qx a1 a2=some r):Run Try.prog (.call 118 [.agg (M6 a1),.agg [I6 a2.qb,l3 none a2.qa]] (.agg [I6 r.qj,I6 r.f_a,I6 r.f_b])):=by
 refine cW Try.func118 rfl (env0:=[(0,.agg (M6 a1)),(1,.agg [I6 a2.qb,l3 none a2.qa])]) ?_;unfold qx at h;refine W.sr ?_;obtain⟨hc4,h⟩:=qi h;refine WO.boxA (enc:=(AV.int .i64)) (l:=a1) (d:=2) 0 (qX .i64) hc4 (e1:=[(0,.agg (M6 a1)),(1,.agg [I6 a2.qb,l3 none a2.qa]),(2,.pb 1000002 0),(1000002,.hob 3 [] (M6 a1))]) ?_;let z0:=fun t=>EN ((2,.pb 1000002 0)::(3,.ptr (.agg [I6 a2.qb,l3 none a2.qa]))::(4,.box [.int .i64 0,.int .i64 0,.int .i64 0])::t);refine WO.fi [2,3,4,1000002] [3] (e2:=z0 [(1000002,.hob 3 [] (M6 a1))]) ?_;refine W.sr<|WO.sl 1 ?_;let y0:Env:=[(1000002,.hob 3 [] (M6 a1)),(1000005,.hob 3 [] (M6 (A1 2 0)))];let z1:=fun t=>z0 ((5,.pb 1000005 0)::t);refine WO.mv [.arr 5] (env':=z1 y0) kR<|WO.fn (e2:=z1 y0) ?_;refine W.seq ?_;let z2:=fun t=>EN ((3,.ptr (.agg [I6 a2.qb,l3 none a2.qa]))::(4,.box [.int .i64 0,.int .i64 0,.int .i64 0])::(5,.pb 1000005 0)::t);refine W.join (σ:=((List Int))) (fun s=>z2 [(1000005,.hob 3 [] (M6 s))]) (fun s=>(JT a2) s=some r) (fun v19 h=>?_) (fun hK6=>?_)
 ·unfold JT at h;refine W.sr ?_;obtain⟨e21,he21,h⟩:=qd h;refine WO.pk 3 (cut Try.prog 3 (M6 v19) 0) (ZX (qX .i64) kR he21) ?_;obtain⟨e22,he22,h⟩:=qd h;refine WO.pk 1 (cut Try.prog 3 (M6 v19) 1) (ZX (qX .i64) kR he22)<|WO.fn (e2:=[(4,.box [I6 a2.qb,I6 e21,I6 e22])]) ?_;refine W.wk (e:=[(4,.box [I6 a2.qb,I6 e21,I6 e22])]) ?_;cases h;exact W.rr
 refine W.sr<|WO.pq 2 (jM (.int .i64) a2.qa) ?_;let z3:=fun t=>z1 ((9,l3 none a2.qa)::(10,I6 (a2.qa.length:Int))::t);refine WO.fn (e2:=z3 ((11,.int .i64 0)::y0)) ?_;refine W.block ?_;obtain⟨hl1,h⟩:=qi h;refine W.wk<|W.range (σ:=((List Int))) a2.qa (fun k1 s=>z3 [(11,I6 (k1:Int)),(1000002,.hob 3 [] (M6 a1)),(1000005,.hob 3 [] (M6 s))]) (fun r0 k0 s=>qJ a1 (JT a2) r0 k0 s=some r) (fun v8 h=>?_) (fun x1 r1 k1 s hx1 hk1 h hN1=>?_) (A1 2 0) h
 ·rw[qJ.eq_1]at h;refine W.sr<|WO.pq 0 (jB (qM (l:=a2.qa)))<|WO.fn (e2:=z3 [(11,I6 ((a2.qa).length:Int)),(12,.bool false),(1000002,.hob 3 [] (M6 a1)),(1000005,.hob 3 [] (M6 v8))]) ?_;exact W.seq<|W.cF<|W.exit<|W.wk (hK6 v8 h)
 obtain⟨v8,rfl⟩:∃ x,x=s:=⟨s,rfl⟩;rw[qJ.eq_2]at h;refine W.sr<|WO.pq 0 (jB (qZ hk1)) ?_;let y1:Env:=[(1000002,.hob 3 [] (M6 a1)),(1000005,.hob 3 [] (M6 v8))];let z4:=fun t=>z3 ((11,I6 (k1:Int))::t);refine WO.fn (e2:=z4 ((12,.bool true)::y1)) ?_;refine W.seq<|W.cT ?_;let y2:Env:=(9,l3 none a2.qa)::(10,I6 (a2.qa.length:Int))::(11,I6 (k1:Int))::y1;refine W.sw (e:=z1 y2) ?_;refine W.seq<|W.join (σ:=((List Int))) (fun s=>z4 [(1000002,.hob 3 [] (M6 a1)),(1000005,.hob 3 [] (M6 s))]) (fun s=>(Ju (qJ a1 (JT a2) r1 (k1+1))) s=some r) (fun v18 h=>?_) (fun hK9=>?_)
 ·unfold Ju at h;exact W.rg<|WO.pq 0 (jI (qC hl1 hk1))<|WO.fn (hN1 v18 h)
 refine W.block<|W.sr<|WO.pq 1 (ja (f:=(AV.int .i64)) hx1) ?_;let z5:=fun t=>z1 ((6,I6 (k1:Int))::(7,I6 x1)::t);refine WO.fn (e2:=z5 y2) ?_;refine W.seq ?_;let z6:=fun t=>z5 ((9,l3 none a2.qa)::(10,I6 (a2.qa.length:Int))::(11,I6 (k1:Int))::(17,.bool (decide (x1<0)))::t);refine W.rt (e2:=z6 y1) ?_;refine W.ch (decide (x1<0)) h (fun h=>?_) (fun h=>?_)
 ·refine W.rg ?_;obtain⟨hc12,h⟩:=qi h;refine WO.pi 3 (v:=.pb 1000005 (0+A0 (k1:Int) * 1)) hc12 ?_;obtain⟨hc13,h⟩:=qi h;let y3:Env:=[(1000002,.hob 3 [] (M6 a1)),(1000005,.hob 3 [] (M6 (v8.set (0+A0 (k1:Int) * 1) (W6 (0 - x1)))))];exact WO.setA (enc:=(AV.int .i64)) (l:=v8) (x:=(W6 (0 - x1))) (s:=1000005) (off:=(0+A0 (k1:Int) * 1)) 0 (qX .i64) hc13 (e1:=z6 ((18,I6 (k1:Int))::(19,I6 x1)::(20,I6 (W6 (0 - x1)))::(21,.pb 1000005 (0+A0 (k1:Int) * 1))::y3))<|WO.fn (hK9 (v8.set (0+A0 (k1:Int) * 1) (W6 (0 - x1))) h)
 refine W.rg ?_;obtain⟨hc14,h⟩:=qi h;refine WO.pi 2 (v:=.pb 1000002 (0+A0 x1 * 1)) hc14 ?_;obtain⟨e15,he15,h⟩:=qd h;refine WO.pk 0 (cut Try.prog 3 (M6 a1) (0+A0 x1 * 1)) (ZX (qX .i64) kR he15) ?_;obtain⟨hc16,h⟩:=qi h;refine WO.pi 0 (v:=.pb 1000005 (0+A0 (k1:Int) * 1)) hc16 ?_;obtain⟨hc17,h⟩:=qi h;let y4:Env:=[(1000002,.hob 3 [] (M6 a1)),(1000005,.hob 3 [] (M6 (v8.set (0+A0 (k1:Int) * 1) e15)))];exact WO.setA (enc:=(AV.int .i64)) (l:=v8) (x:=e15) (s:=1000005) (off:=(0+A0 (k1:Int) * 1)) 0 (qX .i64) hc17 (e1:=z6 ((22,I6 (k1:Int))::(23,I6 x1)::(24,.pb 1000002 (0+A0 x1 * 1))::(25,I6 e15)::(26,.pb 1000005 (0+A0 (k1:Int) * 1))::y4))<|WO.fn (hK9 (v8.set (0+A0 (k1:Int) * 1) e15) h)
def qky (rel:Int):List Int->Option rufact
 | []=>none
 | a::l=>chk (decide ((a::l).length<=1000000)) (some (rufact.mk rel a (l.headD 0)))
def UX (a1:apiFact):Option rufact:=qky a1.qb a1.qa
theorem qck (a1:apiFact) (r:rufact) (h:UX a1=some r):Run Try.prog (.call 81 [.agg [I6 a1.qb,l3 none a1.qa]] (.agg [I6 r.qj,I6 r.f_a,I6 r.f_b])):=by
 unfold UX at h;obtain⟨rel,args⟩:=a1
 cases args with
 | nil=>cases h
 | cons a l =>
  obtain⟨hc,h⟩:=qi (show chk (decide ((a::l).length<=1000000)) _=some r from h);cases h;exact .ext0 (key81 (of_decide_eq_true hc))
def Ua (v12:(List (rufact×Bool))):Option (List (rufact×Bool)) :=
 (some v12)
def QP (K4:((List (rufact×Bool))->Option (List (rufact×Bool)))):List apiFact->Nat->(List (rufact×Bool))->Option (List (rufact×Bool))
 | [],k1,v6=>(K4 v6)
 | x1::r1,k1,v6=>((UX x1).bind fun w9=>(chk (wfI .i64 w9.qj && wfI .i64 w9.f_a && wfI .i64 w9.f_b) (chk (Nat.blt v6.length 1000000000) ((QP K4 r1 (k1+1)) (mset qg w9 true v6)))))
def Xb (a1:(List apiFact)):Option (List (rufact×Bool)) :=
 (chk (lenOk a1) (QP (Ua) a1 0 ([]:(List (rufact×Bool)))))
theorem qae (a1:(List apiFact)) (r:(List (rufact×Bool))) (h:Xb a1=some r):Run Try.prog (.call 73 [l41 none a1] (mpE qh AV.bool r)):=by
 refine cW Try.func73 rfl (env0:=[(0,l41 none a1)]) ?_;unfold Xb at h;refine W.seq<|W.rt (e2:=[(0,l41 none a1)]) ?_;refine W.seq ?_;let y0:Env:=[(1000006,hobE qh AV.bool ([]:(List (rufact×Bool))))];refine W.rt (e2:=((0,l41 none a1)::(3,.mb 0 1000006)::y0)) ?_;refine W.seq ?_;let z0:=fun t=>EN ((3,.mb 0 1000006)::t);refine W.join (σ:=((List (rufact×Bool)))) (fun s=>z0 [(1000006,hobE qh AV.bool s)]) (fun s=>(Ua) s=some r) (fun v12 h=>?_) (fun hK4=>?_)
 ·unfold Ua at h;refine W.seq<|W.rt (e2:=[(2,.mb 0 1000006),(1000006,hobE qh AV.bool v12)]) ?_;refine W.mv [.frz 1000006] (env':=[(2,mpE qh AV.bool v12)]) kR<|W.wk (e:=[(2,mpE qh AV.bool v12)]) ?_;cases h;exact W.rr
 refine W.sr<|WO.pq 1 (jM qA a1) ?_;let z1:=fun t=>z0 ((7,l41 none a1)::(8,I6 (a1.length:Int))::t);refine WO.fn (e2:=z1 ((9,.int .i64 0)::y0)) ?_;refine W.block ?_;obtain⟨hl1,h⟩:=qi h;refine W.wk<|W.range (σ:=((List (rufact×Bool)))) a1 (fun k1 s=>z1 [(9,I6 (k1:Int)),(1000006,hobE qh AV.bool s)]) (fun r0 k0 s=>QP (Ua) r0 k0 s=some r) (fun v6 h=>?_) (fun x1 r1 k1 s hx1 hk1 h hN1=>?_) ([]:(List (rufact×Bool))) h
 ·rw[QP.eq_1]at h;refine W.sr<|WO.pq 0 (jB (qM (l:=a1)))<|WO.fn (e2:=z1 [(9,I6 ((a1).length:Int)),(10,.bool false),(1000006,hobE qh AV.bool v6)]) ?_;exact W.seq<|W.cF<|W.exit<|W.wk (hK4 v6 h)
 obtain⟨v6,rfl⟩:∃ x,x=s:=⟨s,rfl⟩;rw[QP.eq_2]at h;refine W.sr<|WO.pq 0 (jB (qZ hk1)) ?_;let y1:Env:=[(1000006,hobE qh AV.bool v6)];refine WO.fn (e2:=z1 ((9,I6 (k1:Int))::(10,.bool true)::y1)) ?_;refine W.seq<|W.cT ?_;let y2:Env:=(7,l41 none a1)::(8,I6 (a1.length:Int))::(9,I6 (k1:Int))::y1;refine W.sw (e:=z0 y2) ?_;refine W.seq<|W.block<|W.sr<|WO.pq 0 (ja (f:=qA) hx1) ?_;let z2:=fun t=>z0 ((5,.ptr (.agg [I6 x1.qb,l3 none x1.qa]))::t);refine WO.fi [3,5,7,8,9,1000006] [5] (e2:=z2 y2) ?_;refine W.rg ?_;obtain⟨w9,hw9,h⟩:=qd h;refine WO.ck 2 (F:=81) (l:=[.agg [I6 x1.qb,l3 none x1.qa]]) (C:=[]) (r:=.agg [I6 w9.qj,I6 w9.f_a,I6 w9.f_b]) (qck x1 w9 hw9) ?_;obtain⟨hc10,h⟩:=qi h;obtain⟨hc11,h⟩:=qi h;let y3:Env:=[(1000006,hobE qh AV.bool (mset qg w9 true v6))];refine WO.mapK (F:=qh) (G:=AV.bool) (eq:=qg) (l:=v6) (a:=w9) (b:=true) (id:=1000006) (kt:=127) 0 (qcC hc10) hc11 (e1:=z2 ((7,l41 none a1)::(8,I6 (a1.length:Int))::(9,I6 (k1:Int))::(13,.mb 0 1000006)::(14,.agg [I6 x1.qb,l3 none x1.qa])::(15,.agg [I6 w9.qj,I6 w9.f_a,I6 w9.f_b])::y3)) ?_ (fun x=>by kernel_rfl) (fun x y=>by kernel_rfl);refine WO.fn (e2:=z1 ((9,I6 (k1:Int))::y3)) ?_;exact W.rg<|WO.pq 0 (jI (qC hl1 hk1))<|WO.fn (hN1 (mset qg w9 true v6) h)
end Go.AM
