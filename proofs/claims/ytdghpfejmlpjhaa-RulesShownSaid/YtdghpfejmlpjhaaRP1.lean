import Derived.Test.YtdghpfejmlpjhaaRPT
set_option linter.all false
set_option maxRecDepth 100000
open Int renaming toNat→A0
open List renaming replicate→A1
open Go.IntKind renaming wrap→A2
namespace Go.AM
open Go.Proofs
def jx (p1:LA) (a2:Int) (a3:Int) (v11:Bool):Option (Bool×LA) :=
 (bif v11 then (some (false,p1)) else (chk (decide ((0:Int)<=a2/\a2<((6:Nat):Int)/\0<1)) (chk (decide ((0+A0 a2 * 1)<p1.length)) (some (true,(p1.set (0+A0 a2 * 1) a3))))))
def JU (p1:LA) (a2:Int) (a3:Int):Option (Bool×LA) :=
 (bif (decide (a2<0)) then ((jx p1 a2 a3) true) else (bif (decide (a2 >= 6)) then ((jx p1 a2 a3) true) else (bif (decide (a3<1)) then ((jx p1 a2 a3) true) else (bif (decide (a3 > 2)) then ((jx p1 a2 a3) true) else (chk (decide ((0:Int)<=a2/\a2<((6:Nat):Int)/\0<1)) ((p1[(0+A0 a2 * 1)]?).bind fun e8=>(bif (e8 != 0) then (chk (decide ((0:Int)<=a2/\a2<((6:Nat):Int)/\0<1)) ((p1[(0+A0 a2 * 1)]?).bind fun e10=>((jx p1 a2 a3) (e10 != a3)))) else ((jx p1 a2 a3) false))))))))
theorem YA (p1:LA) (a2:Int) (a3:Int) (r:(Bool×LA)) (h:JU p1 a2 a3=some r):Run Try.prog (.callM 103 [.pb 2000000 0,I6 a2,I6 a3] [(2000000,.hob 3 [] (M6 p1))] (.bool r.1) [(2000000,.hob 3 [] (M6 r.2))]):=by
 refine cM Try.func103 rfl (env0:=[(0,.pb 2000000 0),(1,I6 a2),(2,I6 a3),(2000000,.hob 3 [] (M6 p1))]) ?_;unfold JU at h;refine W.seq ?_;let y0:Env:=[(2000000,.hob 3 [] (M6 p1))];let z0:=fun t=>EN ((0,.pb 2000000 0)::(1,I6 a2)::(2,I6 a3)::t);refine W.rt (e2:=z0 y0) ?_;refine W.seq<|W.seq<|W.join (σ:=(Bool)) (fun s=>z0 ((37,.bool s)::y0)) (fun s=>(jx p1 a2 a3) s=some r) (fun v11 h=>?_) (fun hK6=>?_)
 .unfold jx at h;refine W.ch v11 h (fun h=>?_) (fun h=>?_)
  .refine W.seq<|W.rt (e2:=((6,.bool false)::y0)) ?_;refine W.wk (e:=((6,.bool false)::y0)) ?_;have hr:PostM Try.prog Try.f103 (.bool false) [(2000000,.hob 3 [] (M6 p1))] .ret [(6,.bool false),(2000000,.hob 3 [] (M6 p1))]:=⟨by kernel_rfl,by kernel_rfl⟩;cases h;exact W.ret hr
  refine W.sw (e:=z0 y0) ?_;refine W.sr ?_;obtain⟨hc14,h⟩:=qm h;refine WO.pi 4 (v:=.pb 2000000 (0+A0 a2 * 1)) hc14 ?_;obtain⟨hc15,h⟩:=qm h;let y1:Env:=[(2000000,.hob 3 [] (M6 (p1.set (0+A0 a2 * 1) a3)))];refine WO.setA (enc:=(AV.int .i64)) (l:=p1) (x:=a3) (s:=2000000) (off:=(0+A0 a2 * 1)) 0 (qP .i64) hc15 (e1:=z0 ((38,.pb 2000000 0)::(39,I6 a2)::(40,I6 a3)::(41,.pb 2000000 0)::(42,.pb 2000000 (0+A0 a2 * 1))::y1))<|WO.fn (e2:=[(2000000,.hob 3 [] (M6 (p1.set (0+A0 a2 * 1) a3)))]) ?_;refine W.seq<|W.rt (e2:=((6,.bool true)::y1)) ?_;refine W.wk (e:=((6,.bool true)::y1)) ?_;have hr:PostM Try.prog Try.f103 (.bool true) [(2000000,.hob 3 [] (M6 (p1.set (0+A0 a2 * 1) a3)))] .ret [(6,.bool true),(2000000,.hob 3 [] (M6 (p1.set (0+A0 a2 * 1) a3)))]:=⟨by kernel_rfl,by kernel_rfl⟩;cases h;exact W.ret hr
 refine W.rg ?_;let z1:=fun t=>z0 ((7,I6 a2)::t);refine WO.bh 3 (fun b=>z1 ((8,.bool b)::(9,.bool b)::y0)) (decide (a2<0)) h (fun h=>?_) (fun h=>?_)
 .exact WO.fn (hK6 true h)
 let z2:=fun t=>z1 ((8,.bool false)::(9,.bool false)::(10,I6 a2)::t);refine WO.bh 4 (fun b=>z2 ((11,.bool b)::(12,.bool b)::(13,.bool b)::y0)) (decide (a2 >= 6)) h (fun h=>?_) (fun h=>?_)
 .exact WO.fn (hK6 true h)
 let z3:=fun t=>z2 ((11,.bool false)::(12,.bool false)::(13,.bool false)::(14,I6 a3)::t);refine WO.bh 4 (fun b=>z3 ((15,.bool b)::(16,.bool b)::(17,.bool b)::y0)) (decide (a3<1)) h (fun h=>?_) (fun h=>?_)
 .exact WO.fn (hK6 true h)
 let z4:=fun t=>z3 ((15,.bool false)::(16,.bool false)::(17,.bool false)::(18,I6 a3)::t);refine WO.bh 4 (fun b=>z4 ((19,.bool b)::(20,.bool b)::(21,.bool b)::y0)) (decide (a3 > 2)) h (fun h=>?_) (fun h=>?_)
 .exact WO.fn (hK6 true h)
 obtain⟨hc7,h⟩:=qm h;refine WO.pi 3 (v:=.pb 2000000 (0+A0 a2 * 1)) hc7 ?_;obtain⟨e8,he8,h⟩:=qb h;refine WO.pk 0 (cut Try.prog 3 (M6 p1) (0+A0 a2 * 1)) (Uz (qP .i64) kR he8)<|WO.bh 2 (fun b=>z4 ((19,.bool false)::(20,.bool false)::(21,.bool false)::(22,.pb 2000000 0)::(23,I6 a2)::(24,.pb 2000000 0)::(25,.pb 2000000 (0+A0 a2 * 1))::(26,I6 e8)::(27,.bool b)::(28,.bool b)::y0)) (e8 != 0) h (fun h=>?_) (fun h=>?_)
 .obtain⟨hc9,h⟩:=qm h;refine WO.pi 3 (v:=.pb 2000000 (0+A0 a2 * 1)) hc9 ?_;obtain⟨e10,he10,h⟩:=qb h;exact WO.pk 0 (cut Try.prog 3 (M6 p1) (0+A0 a2 * 1)) (Uz (qP .i64) kR he10)<|WO.fn (hK6 (e10 != a3) h)
 exact WO.fn (hK6 false h)
def Qi (v15:Int):LY :=
 (some v15)
def JO (a1:LA) (K7:(Int->LY)):Nat->Int->Int->LY
 | 0,_,_=>none
 | m1+1,v9,v10=>(bif (decide (v10<(a1.length:Int))) then ((idx a1 v10).bind fun e14=>((JO a1 K7 m1) (if e14<v9 then e14 else v9) (A2 .i64 (v10+1)))) else (K7 v9))
def XD (fuel:Nat) (a1:LA):LY :=
 (bif (decide ((a1.length:Int)<1)) then none else ((idx a1 0).bind fun e6=>(JO a1 (Qi) fuel e6 1)))
theorem NS (fuel:Nat) (a1:LA) (r:Int) (h:XD fuel a1=some r):Run Try.prog (.call 106 [l3 none a1] (I6 r)):=by
 refine cW Try.func106 rfl (env0:=[(0,l3 none a1)]) ?_;unfold XD at h;refine W.seq ?_;let z0:=fun t=>EN ((0,l3 none a1)::t);refine W.rt (e2:=z0 []) ?_;refine W.seq<|W.sr<|WO.pq 1 (jM (.int .i64) a1)<|WO.fn (e2:=z0 [(7,.bool (decide ((a1.length:Int)<1)))]) ?_;refine W.ch (decide ((a1.length:Int)<1)) h (fun h=>?_) (fun h=>?_)
 .cases h
 refine W.sw (e:=z0 []) ?_;refine W.sr ?_;obtain⟨e6,he6,h⟩:=qb h;refine WO.pq 1 (ZX (f:=(AV.int .i64)) he6)<|WO.fn (e2:=z0 [(3,I6 e6)]) ?_;refine W.seq<|W.join (σ:=(Int)) (fun s=>[(3,I6 s)]) (fun s=>(Qi) s=some r) (fun v15 h=>?_) (fun hK7=>?_)
 .unfold Qi at h;refine W.seq<|W.rt (e2:=[(2,I6 v15)]) ?_;refine W.wk (e:=[(2,I6 v15)]) ?_;cases h;exact W.rr
 refine W.seq<|W.rt (e2:=z0 [(3,I6 e6),(4,.int .i64 1)]) ?_;refine W.block<|W.wk (e:=z0 [(3,I6 e6),(4,.int .i64 1)])<|W.fuel (σ:=(Int×Int)) (fun s=>z0 [(3,I6 s.1),(4,I6 s.2)]) (fun m0 s=>JO a1 (Qi) m0 s.1 s.2=some r) (fun s h=>?_) (fun m1 s h hN1=>?_) fuel (e6,1) h
 .obtain⟨v9,v10⟩:=s;have h:JO a1 (Qi) 0 v9 v10=some r:=h;rw[JO.eq_1]at h;cases h
 obtain⟨v9,v10⟩:=s;have h:JO a1 (Qi) (m1+1) v9 v10=some r:=h;rw[JO.eq_2]at h;refine W.seq<|W.sr<|WO.pq 2 (jM (.int .i64) a1)<|WO.fn (e2:=z0 [(3,I6 v9),(4,I6 v10),(15,.bool (decide (v10<(a1.length:Int))))]) ?_;refine W.ch (decide (v10<(a1.length:Int))) h (fun h=>?_) (fun h=>?_)
 .refine W.sw (e:=z0 [(3,I6 v9),(4,I6 v10)]) ?_;refine W.seq<|W.block<|W.rg ?_;obtain⟨e14,he14,h⟩:=qb h;refine WO.pq 3 (ZX (f:=(AV.int .i64)) he14) ?_;let z1:=fun t=>z0 ((3,I6 (if e14<v9 then e14 else v9))::t);refine WO.fn (e2:=z1 [(4,I6 v10)]) ?_;refine W.rt (e2:=z1 [(4,I6 (W6 (v10+1)))]) ?_;exact hN1 ((if e14<v9 then e14 else v9),(W6 (v10+1))) h
 exact W.exit<|W.wk (hK7 v9 h)
def JP (v15:Int):LY :=
 (some v15)
def jF (a1:LA) (K7:(Int->LY)):Nat->Int->Int->LY
 | 0,_,_=>none
 | m1+1,v9,v10=>(bif (decide (v10<(a1.length:Int))) then ((idx a1 v10).bind fun e14=>((jF a1 K7 m1) (if e14 > v9 then e14 else v9) (A2 .i64 (v10+1)))) else (K7 v9))
def JW (fuel:Nat) (a1:LA):LY :=
 (bif (decide ((a1.length:Int)<1)) then none else ((idx a1 0).bind fun e6=>(jF a1 (JP) fuel e6 1)))
theorem YP (fuel:Nat) (a1:LA) (r:Int) (h:JW fuel a1=some r):Run Try.prog (.call 107 [l3 none a1] (I6 r)):=by
 refine cW Try.func107 rfl (env0:=[(0,l3 none a1)]) ?_;unfold JW at h;refine W.seq ?_;let z0:=fun t=>EN ((0,l3 none a1)::t);refine W.rt (e2:=z0 []) ?_;refine W.seq<|W.sr<|WO.pq 1 (jM (.int .i64) a1)<|WO.fn (e2:=z0 [(7,.bool (decide ((a1.length:Int)<1)))]) ?_;refine W.ch (decide ((a1.length:Int)<1)) h (fun h=>?_) (fun h=>?_)
 .cases h
 refine W.sw (e:=z0 []) ?_;refine W.sr ?_;obtain⟨e6,he6,h⟩:=qb h;refine WO.pq 1 (ZX (f:=(AV.int .i64)) he6)<|WO.fn (e2:=z0 [(3,I6 e6)]) ?_;refine W.seq<|W.join (σ:=(Int)) (fun s=>[(3,I6 s)]) (fun s=>(JP) s=some r) (fun v15 h=>?_) (fun hK7=>?_)
 .unfold JP at h;refine W.seq<|W.rt (e2:=[(2,I6 v15)]) ?_;refine W.wk (e:=[(2,I6 v15)]) ?_;cases h;exact W.rr
 refine W.seq<|W.rt (e2:=z0 [(3,I6 e6),(4,.int .i64 1)]) ?_;refine W.block<|W.wk (e:=z0 [(3,I6 e6),(4,.int .i64 1)])<|W.fuel (σ:=(Int×Int)) (fun s=>z0 [(3,I6 s.1),(4,I6 s.2)]) (fun m0 s=>jF a1 (JP) m0 s.1 s.2=some r) (fun s h=>?_) (fun m1 s h hN1=>?_) fuel (e6,1) h
 .obtain⟨v9,v10⟩:=s;have h:jF a1 (JP) 0 v9 v10=some r:=h;rw[jF.eq_1]at h;cases h
 obtain⟨v9,v10⟩:=s;have h:jF a1 (JP) (m1+1) v9 v10=some r:=h;rw[jF.eq_2]at h;refine W.seq<|W.sr<|WO.pq 2 (jM (.int .i64) a1)<|WO.fn (e2:=z0 [(3,I6 v9),(4,I6 v10),(15,.bool (decide (v10<(a1.length:Int))))]) ?_;refine W.ch (decide (v10<(a1.length:Int))) h (fun h=>?_) (fun h=>?_)
 .refine W.sw (e:=z0 [(3,I6 v9),(4,I6 v10)]) ?_;refine W.seq<|W.block<|W.rg ?_;obtain⟨e14,he14,h⟩:=qb h;refine WO.pq 3 (ZX (f:=(AV.int .i64)) he14) ?_;let z1:=fun t=>z0 ((3,I6 (if e14 > v9 then e14 else v9))::t);refine WO.fn (e2:=z1 [(4,I6 v10)]) ?_;refine W.rt (e2:=z1 [(4,I6 (W6 (v10+1)))]) ?_;exact hN1 ((if e14 > v9 then e14 else v9),(W6 (v10+1))) h
 exact W.exit<|W.wk (hK7 v9 h)
def XV (v8:Bool):LD :=
 (some v8)
def XW (fuel:Nat) (a1:apiFact):LD :=
 ((JU (A1 6 0) a1.qc (a1.qa.length:Int)).bind fun w5=>(bif w5.1 then ((XD fuel a1.qa).bind fun w6=>(bif (decide (w6 >= 1)) then ((JW fuel a1.qa).bind fun w7=>((XV) (decide (w7<=6)))) else ((XV) false))) else ((XV) false)))
theorem ZD (fuel:Nat) (a1:apiFact) (r:Bool) (h:XW fuel a1=some r):Run Try.prog (.call 75 [.agg [I6 a1.qc,l3 none a1.qa]] (.bool r)):=by
 refine cW Try.func75 rfl (env0:=[(0,.agg [I6 a1.qc,l3 none a1.qa])]) ?_;unfold XW at h;refine W.seq ?_;let z0:=fun t=>EN ((1,.ptr (.agg [I6 a1.qc,l3 none a1.qa]))::t);refine W.rT [1] [1] (e2:=z0 []) ?_;refine W.sr<|WO.sl 1 ?_;let y0:Env:=[(3,.pb 1000003 0),(1000003,.hob 3 [] (M6 (A1 6 0)))];refine WO.mv [.arr 3] (env':=z0 y0) kR<|WO.fn (e2:=z0 y0) ?_;refine W.seq<|W.join (σ:=(Bool)) (fun s=>[(2,.bool s)]) (fun s=>(XV) s=some r) (fun v8 h=>?_) (fun hK4=>?_)
 .unfold XV at h;refine W.wk (e:=[(2,.bool v8)]) ?_;cases h;exact W.rr
 refine W.rg<|WO.pq 4 (jM (.int .i64) a1.qa) ?_;obtain⟨w5,hw5,h⟩:=qb h;let z1:=fun t=>z0 ((3,.pb 1000003 0)::(4,.ptr (I6 a1.qc))::(5,I6 a1.qc)::(6,.ptr (l3 none a1.qa))::(7,l3 none a1.qa)::(8,I6 (a1.qa.length:Int))::t);refine WO.cm 0 [(1000003,2000000)] [] (F:=103) (args:=[.pb 2000000 0,I6 a1.qc,I6 (a1.qa.length:Int)]) (hp:=[(2000000,.hob 3 [] (M6 (A1 6 0)))]) (hp2:=[(2000000,.hob 3 [] (M6 w5.2))]) (r:=.bool w5.1) (YA (A1 6 0) a1.qc (a1.qa.length:Int) w5 hw5) (e1:=z1 [(9,.bool w5.1),(1000003,.hob 3 [] (M6 w5.2))])<|WO.bh 1 (fun b=>z1 [(9,.bool b),(10,.bool b),(1000003,.hob 3 [] (M6 w5.2))]) w5.1 h (fun h=>?_) (fun h=>?_)
 .obtain⟨w6,hw6,h⟩:=qb h;refine WO.ck 2 (F:=106) (l:=[l3 none a1.qa]) (C:=[]) (r:=I6 w6) (NS fuel a1.qa w6 hw6)<|WO.bh 3 (fun b=>z1 [(9,.bool true),(10,.bool true),(11,.ptr (l3 none a1.qa)),(12,l3 none a1.qa),(13,I6 w6),(14,.bool b),(15,.bool b),(16,.bool b),(1000003,.hob 3 [] (M6 w5.2))]) (decide (w6 >= 1)) h (fun h=>?_) (fun h=>?_)
  .obtain⟨w7,hw7,h⟩:=qb h;exact WO.ck 2 (F:=107) (l:=[l3 none a1.qa]) (C:=[]) (r:=I6 w7) (YP fuel a1.qa w7 hw7)<|WO.fn (hK4 (decide (w7<=6)) h)
  exact WO.fn (hK4 false h)
 exact WO.fn (hK4 false h)
def XX (v10:(List qo)):Option (List qo) :=
 (some v10)
def Jn (K4:((List qo)->Option (List qo))):LQ->Nat->(List qo)->Option (List qo)
 | [],k1,v6=>(K4 v6)
 | x1::r1,k1,v6=>(chk (capOk 32 ((v6++[x1.qg])).length) ((Jn K4 r1 (k1+1)) (v6++[x1.qg])))
def Xu (a1:ruRule):Option (List qo) :=
 (chk (lenOk a1.qe) (Jn (XX) a1.qe 0 [a1.qi]))
theorem Uc (a1:ruRule) (r:(List qo)) (h:Xu a1=some r):Run Try.prog (.call 105 [.agg [I6 a1.qi.qc,l3 none a1.qi.qa,l56 none a1.qe]] (l50 (some 1) r)):=by
 refine cW Try.func105 rfl (env0:=[(0,.agg [I6 a1.qi.qc,l3 none a1.qi.qa,l56 none a1.qe])]) ?_;unfold Xu at h;refine W.seq ?_;let z0:=fun t=>EN ((1,.ptr (.agg [I6 a1.qi.qc,l3 none a1.qi.qa,l56 none a1.qe]))::t);refine W.rT [1] [1] (e2:=z0 []) ?_;refine W.seq<|W.rt (e2:=z0 [(3,l50 (some 8) [a1.qi])]) ?_;refine W.seq<|W.join (σ:=((List qo))) (fun s=>[(3,l50 (some 10300) s)]) (fun s=>(XX) s=some r) (fun v10 h=>?_) (fun hK4=>?_)
 .unfold XX at h;refine W.seq<|W.rt (e2:=[(2,l50 (some 10300) v10)]) ?_;refine W.weak [2] [] [] [(10300,some 1)] (env':=[(2,l50 (some 1) v10)]) kR ?_;cases h;exact W.rr
 refine W.sr<|WO.pq 2 (jM XB a1.qe)<|WO.fn (e2:=[(3,l50 (some 8) [a1.qi]),(10,l56 none a1.qe),(11,I6 (a1.qe.length:Int)),(12,.int .i64 0)]) ?_;refine W.block ?_;obtain⟨hl1,h⟩:=qm h;refine W.weak [3,10,11,12] [] [] [(8,some 10300)] (env':=[(3,l50 (some 10300) [a1.qi]),(10,l56 none a1.qe),(11,I6 (a1.qe.length:Int)),(12,I6 ((0:Nat):Int))]) kR<|W.range (σ:=((List qo))) a1.qe (fun k1 s=>[(3,l50 (some 10300) s),(10,l56 none a1.qe),(11,I6 (a1.qe.length:Int)),(12,I6 (k1:Int))]) (fun r0 k0 s=>Jn (XX) r0 k0 s=some r) (fun v6 h=>?_) (fun x1 r1 k1 s hx1 hk1 h hN1=>?_) [a1.qi] h
 .rw[Jn.eq_1]at h;refine W.sr<|WO.pq 0 (jB (ja (l:=a1.qe)))<|WO.fn (e2:=[(3,l50 (some 10300) v6),(10,l56 none a1.qe),(11,I6 (a1.qe.length:Int)),(12,I6 ((a1.qe).length:Int)),(13,.bool false)]) ?_;exact W.seq<|W.cF<|W.exit<|W.wk (hK4 v6 h)
 obtain⟨v6,rfl⟩:∃ x,x=s:=⟨s,rfl⟩;rw[Jn.eq_2]at h;refine W.sr<|WO.pq 0 (jB (jy hk1)) ?_;let z1:=fun t=>EN ((3,l50 (some 10300) v6)::t);refine WO.fn (e2:=z1 [(10,l56 none a1.qe),(11,I6 (a1.qe.length:Int)),(12,I6 (k1:Int)),(13,.bool true)]) ?_;refine W.seq<|W.cT ?_;let y0:Env:=[(10,l56 none a1.qe),(11,I6 (a1.qe.length:Int)),(12,I6 (k1:Int))];refine W.sw (e:=z1 y0) ?_;refine W.seq<|W.block<|W.sr<|WO.pq 0 (jA (f:=XB) hx1)<|WO.fi [3,5,10,11,12] [5] (e2:=z1 ((5,.ptr (.agg [.bool x1.qw,I6 x1.qg.qc,l3 none x1.qg.qa]))::y0)) ?_;refine W.rg ?_;obtain⟨hc9,h⟩:=qm h;refine WO.ak 4 20 50 2 YM v6 [x1.qg] hc9<|WO.fn (e2:=((3,l50 (some 20) (v6++[x1.qg]))::y0)) ?_;refine W.rg<|WO.pq 0 (jI (qN hl1 hk1))<|WO.fin [3,10,11,12] [] [] [(20,some 10300)] (e2:=[(3,l50 (some 10300) (v6++[x1.qg])),(10,l56 none a1.qe),(11,I6 (a1.qe.length:Int)),(12,I6 ((k1+1:Nat):Int))]) kR (fun _ h=>h) ?_;exact hN1 (v6++[x1.qg]) h
def jK:LD :=
 (some true)
def Qn (N3:LD):LD :=
 N3
def QT (N4:LD) (v31:Bool):LD :=
 (bif v31 then (some false) else N4)
def jH (v20:Lb) (K24:LD):LA->Nat->LD
 | [],k4=>K24
 | x4::r4,k4=>(bif (decide (x4 >= 0)) then (chk (wfI .i64 x4) ((QT (jH v20 K24 r4 (k4+1))) (!(mget keq1 false x4 v20)))) else ((QT (jH v20 K24 r4 (k4+1))) false))
def jp (v20:Lb) (K21:LD):List qo->Nat->LD
 | [],k3=>K21
 | x3::r3,k3=>(chk (lenOk x3.qa) (jH v20 (Qn (jp v20 K21 r3 (k3+1))) x3.qa 0))
def jZ (a1:ruRule) (v20:Lb):LD :=
 ((Xu a1).bind fun w23=>(chk (lenOk w23) (jp v20 (jK) w23 0)))
def JZ (N1:(Lb->LD)) (v19:Lb):LD :=
 (N1 v19)
def QU (N2:(Lb->LD)) (v18:Lb):LD :=
 (N2 v18)
def jr (x1:ruLit) (K7:(Lb->LD)):LA->Nat->Lb->LD
 | [],k2,v10=>(K7 v10)
 | x2::r2,k2,v10=>(chk (wfI .i64 x2) (bif (mget keq1 false x2 v10) then (chk (wfI .i64 x2) (chk (Nat.blt v10.length 1000000000) ((QU (jr x1 K7 r2 (k2+1))) (mset keq1 x2 true v10)))) else (chk (wfI .i64 x2) (chk (Nat.blt v10.length 1000000000) ((QU (jr x1 K7 r2 (k2+1))) (mset keq1 x2 (!x1.qw) v10))))))
def jc (K4:(Lb->LD)):LQ->Nat->Lb->LD
 | [],k1,v6=>(K4 v6)
 | x1::r1,k1,v6=>(chk (lenOk x1.qg.qa) (jr x1 (JZ (jc K4 r1 (k1+1))) x1.qg.qa 0 v6))
def YT (a1:ruRule):LD :=
 (chk (lenOk a1.qe) (jc (jZ a1) a1.qe 0 ([]:Lb)))
theorem qbk (a1:ruRule) (r:Bool) (h:YT a1=some r):Run Try.prog (.call 104 [.agg [I6 a1.qi.qc,l3 none a1.qi.qa,l56 none a1.qe]] (.bool r)):=by
 refine cW Try.func104 rfl (env0:=[(0,.agg [I6 a1.qi.qc,l3 none a1.qi.qa,l56 none a1.qe])]) ?_;unfold YT at h;refine W.seq ?_;let z0:=fun t=>EN ((1,.ptr (.agg [I6 a1.qi.qc,l3 none a1.qi.qa,l56 none a1.qe]))::t);refine W.rT [1] [1] (e2:=z0 []) ?_;refine W.seq ?_;let y0:Env:=[(1000012,hobE (AV.int .i64) AV.bool ([]:Lb))];let z1:=fun t=>z0 ((3,.mb 0 1000012)::t);refine W.rt (e2:=z1 y0) ?_;refine W.seq<|W.join (σ:=(Lb)) (fun s=>z1 [(1000012,hobE (AV.int .i64) AV.bool s)]) (fun s=>(jZ a1) s=some r) (fun v20 h=>?_) (fun hK4=>?_)
 .unfold jZ at h;refine W.seq<|W.join (σ:=Unit) (fun s=>[]) (fun s=>(jK)=some r) (fun s h=>?_) (fun hK21=>?_)
  .unfold jK at h;refine W.seq<|W.rt (e2:=[(2,.bool true)]) ?_;refine W.wk (e:=[(2,.bool true)]) ?_;cases h;exact W.rr
  refine W.sr ?_;obtain⟨w23,hw23,h⟩:=qb h;refine WO.ck 1 (F:=105) (l:=[.agg [I6 a1.qi.qc,l3 none a1.qi.qa,l56 none a1.qe]]) (C:=[]) (r:=l50 (some 1) w23) (Uc a1 w23 hw23)<|WO.pq 0 (jM YM w23) ?_;let y1:Env:=[(1000012,hobE (AV.int .i64) AV.bool v20)];let z2:=fun t=>EN ((3,.mb 0 1000012)::(41,l50 (some 41) w23)::(42,I6 (w23.length:Int))::t);refine WO.fn (e2:=z2 ((43,.int .i64 0)::y1)) ?_;refine W.block ?_;obtain⟨hl3,h⟩:=qm h;refine W.wk<|W.range (σ:=Unit) w23 (fun k3 s=>z2 ((43,I6 (k3:Int))::y1)) (fun r0 k0 s=>jp v20 (jK) r0 k0=some r) (fun s h=>?_) (fun x3 r3 k3 s hx3 hk3 h hN3=>?_) () h
  .rw[jp.eq_1]at h;refine W.sr<|WO.pq 0 (jB (ja (l:=w23)))<|WO.fn (e2:=z2 ((43,I6 ((w23).length:Int))::(44,.bool false)::y1)) ?_;exact W.seq<|W.cF<|W.exit<|W.wk (hK21 () h)
  rw[jp.eq_2]at h;refine W.sr<|WO.pq 0 (jB (jy hk3)) ?_;let z3:=fun t=>z2 ((43,I6 (k3:Int))::t);refine WO.fn (e2:=z3 ((44,.bool true)::y1)) ?_;refine W.seq<|W.cT ?_;let y2:Env:=(41,l50 (some 41) w23)::(42,I6 (w23.length:Int))::(43,I6 (k3:Int))::y1;let z4:=fun t=>EN ((3,.mb 0 1000012)::t);refine W.sw (e:=z4 y2) ?_;refine W.seq<|W.join (σ:=Unit) (fun s=>z4 y2) (fun s=>(Qn (jp v20 (jK) r3 (k3+1)))=some r) (fun s h=>?_) (fun hK24=>?_)
  .unfold Qn at h;exact W.rg<|WO.pq 0 (jI (qN hl3 hk3))<|WO.fn (hN3 () h)
  refine W.block<|W.sr<|WO.pq 0 (jA (f:=YM) hx3)<|WO.fi [3,9,41,42,43,1000012] [9] (e2:=z4 ((9,.ptr (.agg [I6 x3.qc,l3 none x3.qa]))::y2)) ?_;refine W.sr<|WO.pq 2 (jM (.int .i64) x3.qa) ?_;let z5:=fun t=>z3 ((48,l3 none x3.qa)::(49,I6 (x3.qa.length:Int))::t);refine WO.fn (e2:=z5 ((50,.int .i64 0)::y1)) ?_;refine W.block ?_;obtain⟨hl4,h⟩:=qm h;refine W.wk<|W.range (σ:=Unit) x3.qa (fun k4 s=>z5 ((50,I6 (k4:Int))::y1)) (fun r0 k0 s=>jH v20 (Qn (jp v20 (jK) r3 (k3+1))) r0 k0=some r) (fun s h=>?_) (fun x4 r4 k4 s hx4 hk4 h hN4=>?_) () h
  .rw[jH.eq_1]at h;refine W.sr<|WO.pq 0 (jB (ja (l:=x3.qa)))<|WO.fn (e2:=z5 ((50,I6 ((x3.qa).length:Int))::(51,.bool false)::y1)) ?_;exact W.seq<|W.cF<|W.exit<|W.wk (hK24 () h)
  rw[jH.eq_2]at h;refine W.sr<|WO.pq 0 (jB (jy hk4)) ?_;let z6:=fun t=>z5 ((50,I6 (k4:Int))::t);refine WO.fn (e2:=z6 ((51,.bool true)::y1)) ?_;refine W.seq<|W.cT ?_;let y3:Env:=(41,l50 (some 41) w23)::(42,I6 (w23.length:Int))::(43,I6 (k3:Int))::(48,l3 none x3.qa)::(49,I6 (x3.qa.length:Int))::(50,I6 (k4:Int))::y1;refine W.sw (e:=z4 y3) ?_;refine W.seq<|W.block<|W.sr<|WO.pq 0 (jA (f:=(AV.int .i64)) hx4)<|WO.fn (e2:=z4 ((11,I6 x4)::y3)) ?_;refine W.seq<|W.join (σ:=(Bool)) (fun s=>z6 ((61,.bool s)::y1)) (fun s=>(QT (jH v20 (Qn (jp v20 (jK) r3 (k3+1))) r4 (k4+1))) s=some r) (fun v31 h=>?_) (fun hK29=>?_)
  .unfold QT at h;refine W.ch v31 h (fun h=>?_) (fun h=>?_)
   .refine W.seq<|W.rt (e2:=[(2,.bool false)]) ?_;refine W.wk (e:=[(2,.bool false)]) ?_;cases h;exact W.rr
   refine W.sw (e:=z4 y3) ?_;exact W.rg<|WO.pq 0 (jI (qN hl4 hk4))<|WO.fn (hN4 () h)
  refine W.rg<|WO.bh 3 (fun b=>z4 ((11,I6 x4)::(41,l50 (some 41) w23)::(42,I6 (w23.length:Int))::(43,I6 (k3:Int))::(48,l3 none x3.qa)::(49,I6 (x3.qa.length:Int))::(50,I6 (k4:Int))::(54,I6 x4)::(55,.bool b)::(56,.bool b)::y1)) (decide (x4 >= 0)) h (fun h=>?_) (fun h=>?_)
  .obtain⟨hc30,h⟩:=qm h;refine WO.pk 2 ((alookup Try.prog 188 [] (mpE (AV.int .i64) AV.bool v20) (I6 x4)).map AV.strip) (congrArg (Option.map AV.strip) (YG (F:=(AV.int .i64)) (G:=AV.bool) (eq:=keq1) (l:=v20) (k:=x4) (z:=false) (kt:=3) (e:=4) (qaI hc30) kR (fun x=>by kernel_rfl) (fun x y=>by kernel_rfl) kR)) ?_;exact WO.fn (hK29 (!(mget keq1 false x4 v20)) h)
  exact WO.fn (hK29 false h)
 refine W.sr<|WO.pq 2 (jM XB a1.qe) ?_;let z7:=fun t=>z1 ((14,l56 none a1.qe)::(15,I6 (a1.qe.length:Int))::t);refine WO.fn (e2:=z7 ((16,.int .i64 0)::y0)) ?_;refine W.block ?_;obtain⟨hl1,h⟩:=qm h;refine W.wk<|W.range (σ:=(Lb)) a1.qe (fun k1 s=>z7 [(16,I6 (k1:Int)),(1000012,hobE (AV.int .i64) AV.bool s)]) (fun r0 k0 s=>jc (jZ a1) r0 k0 s=some r) (fun v6 h=>?_) (fun x1 r1 k1 s hx1 hk1 h hN1=>?_) ([]:Lb) h
 .rw[jc.eq_1]at h;refine W.sr<|WO.pq 0 (jB (ja (l:=a1.qe)))<|WO.fn (e2:=z7 [(16,I6 ((a1.qe).length:Int)),(17,.bool false),(1000012,hobE (AV.int .i64) AV.bool v6)]) ?_;exact W.seq<|W.cF<|W.exit<|W.wk (hK4 v6 h)
 obtain⟨v6,rfl⟩:∃ x,x=s:=⟨s,rfl⟩;rw[jc.eq_2]at h;refine W.sr<|WO.pq 0 (jB (jy hk1)) ?_;let y4:Env:=[(1000012,hobE (AV.int .i64) AV.bool v6)];let z8:=fun t=>z7 ((16,I6 (k1:Int))::t);refine WO.fn (e2:=z8 ((17,.bool true)::y4)) ?_;refine W.seq<|W.cT ?_;let y5:Env:=(14,l56 none a1.qe)::(15,I6 (a1.qe.length:Int))::(16,I6 (k1:Int))::y4;refine W.sw (e:=z1 y5) ?_;refine W.seq<|W.join (σ:=(Lb)) (fun s=>z8 [(1000012,hobE (AV.int .i64) AV.bool s)]) (fun s=>(JZ (jc (jZ a1) r1 (k1+1))) s=some r) (fun v19 h=>?_) (fun hK7=>?_)
 .unfold JZ at h;exact W.rg<|WO.pq 0 (jI (qN hl1 hk1))<|WO.fn (hN1 v19 h)
 refine W.block<|W.sr<|WO.pq 0 (jA (f:=XB) hx1) ?_;let z9:=fun t=>z1 ((5,.ptr (.agg [.bool x1.qw,I6 x1.qg.qc,l3 none x1.qg.qa]))::t);refine WO.fi [1,3,5,14,15,16,1000012] [5] (e2:=z9 y5) ?_;refine W.sr<|WO.pq 3 (jM (.int .i64) x1.qg.qa) ?_;let z10:=fun t=>z9 ((14,l56 none a1.qe)::(15,I6 (a1.qe.length:Int))::(16,I6 (k1:Int))::(22,l3 none x1.qg.qa)::(23,I6 (x1.qg.qa.length:Int))::t);refine WO.fn (e2:=z10 ((24,.int .i64 0)::y4)) ?_;refine W.block ?_;obtain⟨hl2,h⟩:=qm h;refine W.wk<|W.range (σ:=(Lb)) x1.qg.qa (fun k2 s=>z10 [(24,I6 (k2:Int)),(1000012,hobE (AV.int .i64) AV.bool s)]) (fun r0 k0 s=>jr x1 (JZ (jc (jZ a1) r1 (k1+1))) r0 k0 s=some r) (fun v10 h=>?_) (fun x2 r2 k2 s hx2 hk2 h hN2=>?_) v6 h
 .rw[jr.eq_1]at h;refine W.sr<|WO.pq 0 (jB (ja (l:=x1.qg.qa)))<|WO.fn (e2:=z10 [(24,I6 ((x1.qg.qa).length:Int)),(25,.bool false),(1000012,hobE (AV.int .i64) AV.bool v10)]) ?_;exact W.seq<|W.cF<|W.exit<|W.wk (hK7 v10 h)
 obtain⟨v10,rfl⟩:∃ x,x=s:=⟨s,rfl⟩;rw[jr.eq_2]at h;refine W.sr<|WO.pq 0 (jB (jy hk2)) ?_;let y6:Env:=[(1000012,hobE (AV.int .i64) AV.bool v10)];let z11:=fun t=>z10 ((24,I6 (k2:Int))::t);refine WO.fn (e2:=z11 ((25,.bool true)::y6)) ?_;refine W.seq<|W.cT ?_;let y7:Env:=(14,l56 none a1.qe)::(15,I6 (a1.qe.length:Int))::(16,I6 (k1:Int))::(22,l3 none x1.qg.qa)::(23,I6 (x1.qg.qa.length:Int))::(24,I6 (k2:Int))::y6;refine W.sw (e:=z9 y7) ?_;refine W.seq<|W.join (σ:=(Lb)) (fun s=>z11 [(1000012,hobE (AV.int .i64) AV.bool s)]) (fun s=>(QU (jr x1 (JZ (jc (jZ a1) r1 (k1+1))) r2 (k2+1))) s=some r) (fun v18 h=>?_) (fun hK11=>?_)
 .unfold QU at h;exact W.rg<|WO.pq 0 (jI (qN hl2 hk2))<|WO.fn (hN2 v18 h)
 refine W.block<|W.sr<|WO.pq 0 (jA (f:=(AV.int .i64)) hx2) ?_;let z12:=fun t=>z9 ((7,I6 x2)::t);refine WO.fn (e2:=z12 y7) ?_;refine W.rg ?_;obtain⟨hc13,h⟩:=qm h;refine WO.pk 4 ((alookup Try.prog 188 [] (mpE (AV.int .i64) AV.bool v10) (I6 x2)).map AV.strip) (congrArg (Option.map AV.strip) (YG (F:=(AV.int .i64)) (G:=AV.bool) (eq:=keq1) (l:=v10) (k:=x2) (z:=false) (kt:=3) (e:=4) (qaI hc13) kR (fun x=>by kernel_rfl) (fun x y=>by kernel_rfl) kR)) ?_;let z13:=fun t=>z12 ((14,l56 none a1.qe)::(15,I6 (a1.qe.length:Int))::(16,I6 (k1:Int))::(22,l3 none x1.qg.qa)::(23,I6 (x1.qg.qa.length:Int))::(24,I6 (k2:Int))::(28,.mb 0 1000012)::(29,I6 x2)::(30,.mb 0 1000012)::(31,I6 x2)::t);refine WO.bh 1 (fun b=>z13 ((32,.bool b)::(33,.bool b)::y6)) (mget keq1 false x2 v10) h (fun h=>?_) (fun h=>?_)
 .obtain⟨hc14,h⟩:=qm h;obtain⟨hc15,h⟩:=qm h;refine WO.mapK (F:=(AV.int .i64)) (G:=AV.bool) (eq:=keq1) (l:=v10) (a:=x2) (b:=true) (id:=1000012) (kt:=3) 4 (qaI hc14) hc15 (e1:=z13 [(32,.bool true),(33,.bool true),(34,.und),(35,.und),(36,.und),(37,.bool true),(1000012,hobE (AV.int .i64) AV.bool (mset keq1 x2 true v10))]) ?_ (fun x=>by kernel_rfl) (fun x y=>by kernel_rfl);exact WO.fn (hK11 (mset keq1 x2 true v10) h)
 obtain⟨hc16,h⟩:=qm h;obtain⟨hc17,h⟩:=qm h;let y8:Env:=[(1000012,hobE (AV.int .i64) AV.bool (mset keq1 x2 (!x1.qw) v10))];refine WO.mapK (F:=(AV.int .i64)) (G:=AV.bool) (eq:=keq1) (l:=v10) (a:=x2) (b:=(!x1.qw)) (id:=1000012) (kt:=3) 4 (qaI hc16) hc17 (e1:=z13 ((32,.bool false)::(33,.bool false)::(34,.ptr (.bool x1.qw))::(35,.bool x1.qw)::(36,.bool (!x1.qw))::(37,.bool (!x1.qw))::y8)) ?_ (fun x=>by kernel_rfl) (fun x y=>by kernel_rfl);exact WO.fn (hK11 (mset keq1 x2 (!x1.qw) v10) h)
def Jr:LD :=
 (some true)
def JQ (N2:(LA->LD)) (v43:LA):LD :=
 (N2 v43)
def Xk (N3:(LA->LD)) (v40:LA) (v41:Bool):LD :=
 (bif v41 then (some false) else (N3 v40))
def Jm (fuel:Nat) (K24:(LA->LD)):List qo->Nat->LA->LD
 | [],k3,v33=>(K24 v33)
 | x3::r3,k3,v33=>((JU v33 x3.qc (x3.qa.length:Int)).bind fun w37=>(bif (!w37.1) then ((Xk (Jm fuel K24 r3 (k3+1))) w37.2 true) else ((XD fuel x3.qa).bind fun w38=>(bif (decide (w38<(-6))) then ((Xk (Jm fuel K24 r3 (k3+1))) w37.2 true) else ((JW fuel x3.qa).bind fun w39=>((Xk (Jm fuel K24 r3 (k3+1))) w37.2 (decide (w39 >= 8))))))))
def YQ (fuel:Nat) (x2:ruRule) (v23:LA) (K24:(LA->LD)) (v29:Bool):LD :=
 (bif v29 then (some false) else ((Xu x2).bind fun w32=>(chk (lenOk w32) (Jm fuel K24 w32 0 v23))))
def jC (fuel:Nat) (K21:LD):LH->Nat->LA->LD
 | [],k2,v23=>K21
 | x2::r2,k2,v23=>(bif (decide ((x2.qe.length:Int) > 3)) then ((YQ fuel x2 v23 (JQ (jC fuel K21 r2 (k2+1)))) true) else ((YT x2).bind fun w28=>((YQ fuel x2 v23 (JQ (jC fuel K21 r2 (k2+1)))) (!w28))))
def Xd (fuel:Nat) (a1:LH) (v20:LA):LD :=
 (chk (lenOk a1) (jC fuel (Jr) a1 0 v20))
def XT (N1:(LA->LD)) (v17:LA) (v18:Bool):LD :=
 (bif v18 then (some false) else (N1 v17))
def JE (fuel:Nat) (K9:(LA->LD)):LG->Nat->LA->LD
 | [],k1,v11=>(K9 v11)
 | x1::r1,k1,v11=>((XW fuel x1).bind fun w15=>(bif (!w15) then ((XT (JE fuel K9 r1 (k1+1))) v11 true) else ((JU v11 x1.qc (x1.qa.length:Int)).bind fun w16=>((XT (JE fuel K9 r1 (k1+1))) w16.2 (!w16.1)))))
def ZL (fuel:Nat) (a1:LH) (a2:LG) (v7:Bool):LD :=
 (bif v7 then (some false) else (chk (lenOk a2) (JE fuel (Xd fuel a1) a2 0 (A1 6 0))))
def Xp (fuel:Nat) (a1:LH) (a2:LG):LD :=
 (bif (decide ((a1.length:Int) > 10)) then ((ZL fuel a1 a2) true) else ((ZL fuel a1 a2) (decide ((a2.length:Int) > 20))))
theorem Nb (fuel:Nat) (a1:LH) (a2:LG) (r:Bool) (h:Xp fuel a1 a2=some r):Run Try.prog (.call 56 [l54 none a1,l41 none a2] (.bool r)):=by
 refine cW Try.func56 rfl (env0:=[(0,l54 none a1),(1,l41 none a2)]) ?_;unfold Xp at h;refine W.seq ?_;let z0:=fun t=>EN ((0,l54 none a1)::t);let z1:=fun t=>z0 ((1,l41 none a2)::t);refine W.rt (e2:=z1 []) ?_;refine W.sr<|WO.sl 1 ?_;let y0:Env:=[(1000005,.hob 3 [] (M6 (A1 6 0)))];let z2:=fun t=>z1 ((5,.pb 1000005 0)::t);refine WO.mv [.arr 5] (env':=z2 y0) kR<|WO.fn (e2:=z2 y0) ?_;refine W.seq<|W.seq<|W.join (σ:=(Bool)) (fun s=>z2 ((19,.bool s)::y0)) (fun s=>(ZL fuel a1 a2) s=some r) (fun v7 h=>?_) (fun hK6=>?_)
 .unfold ZL at h;refine W.ch v7 h (fun h=>?_) (fun h=>?_)
  .refine W.seq<|W.rt (e2:=[(4,.bool false)]) ?_;refine W.wk (e:=[(4,.bool false)]) ?_;cases h;exact W.rr
  refine W.sw (e:=z2 y0) ?_;refine W.seq ?_;let z3:=fun t=>z0 ((5,.pb 1000005 0)::t);refine W.join (σ:=(LA)) (fun s=>z3 [(1000005,.hob 3 [] (M6 s))]) (fun s=>(Xd fuel a1) s=some r) (fun v20 h=>?_) (fun hK9=>?_)
  .unfold Xd at h;refine W.seq<|W.join (σ:=Unit) (fun s=>[]) (fun s=>(Jr)=some r) (fun s h=>?_) (fun hK21=>?_)
   .unfold Jr at h;refine W.seq<|W.rt (e2:=[(4,.bool true)]) ?_;refine W.wk (e:=[(4,.bool true)]) ?_;cases h;exact W.rr
   refine W.sr<|WO.pq 1 (jM Xa a1) ?_;let z4:=fun t=>EN ((5,.pb 1000005 0)::(39,l54 none a1)::(40,I6 (a1.length:Int))::t);refine WO.fn (e2:=z4 [(41,.int .i64 0),(1000005,.hob 3 [] (M6 v20))]) ?_;refine W.block ?_;obtain⟨hl2,h⟩:=qm h;refine W.wk<|W.range (σ:=(LA)) a1 (fun k2 s=>z4 [(41,I6 (k2:Int)),(1000005,.hob 3 [] (M6 s))]) (fun r0 k0 s=>jC fuel (Jr) r0 k0 s=some r) (fun v23 h=>?_) (fun x2 r2 k2 s hx2 hk2 h hN2=>?_) v20 h
   .rw[jC.eq_1]at h;refine W.sr<|WO.pq 0 (jB (ja (l:=a1)))<|WO.fn (e2:=z4 [(41,I6 ((a1).length:Int)),(42,.bool false),(1000005,.hob 3 [] (M6 v23))]) ?_;exact W.seq<|W.cF<|W.exit<|W.wk (hK21 () h)
   obtain⟨v23,rfl⟩:∃ x,x=s:=⟨s,rfl⟩;rw[jC.eq_2]at h;refine W.sr<|WO.pq 0 (jB (jy hk2)) ?_;let y1:Env:=[(1000005,.hob 3 [] (M6 v23))];let z5:=fun t=>z4 ((41,I6 (k2:Int))::t);refine WO.fn (e2:=z5 ((42,.bool true)::y1)) ?_;refine W.seq<|W.cT ?_;let y2:Env:=(39,l54 none a1)::(40,I6 (a1.length:Int))::(41,I6 (k2:Int))::y1;let z6:=fun t=>EN ((5,.pb 1000005 0)::t);refine W.sw (e:=z6 y2) ?_;refine W.seq<|W.join (σ:=(LA)) (fun s=>z5 [(1000005,.hob 3 [] (M6 s))]) (fun s=>(JQ (jC fuel (Jr) r2 (k2+1))) s=some r) (fun v43 h=>?_) (fun hK24=>?_)
   .unfold JQ at h;exact W.rg<|WO.pq 0 (jI (qN hl2 hk2))<|WO.fn (hN2 v43 h)
   refine W.block<|W.sr<|WO.pq 0 (jA (f:=Xa) hx2) ?_;let y3:Env:=(9,.ptr (.agg [I6 x2.qi.qc,l3 none x2.qi.qa,l56 none x2.qe]))::y2;refine WO.fi [5,9,39,40,41,1000005] [9] (e2:=z6 y3) ?_;refine W.seq<|W.seq ?_;let z7:=fun t=>z6 ((9,.ptr (.agg [I6 x2.qi.qc,l3 none x2.qi.qa,l56 none x2.qe]))::(39,l54 none a1)::(40,I6 (a1.length:Int))::(41,I6 (k2:Int))::t);refine W.join (σ:=(Bool)) (fun s=>z7 ((53,.bool s)::y1)) (fun s=>(YQ fuel x2 v23 (JQ (jC fuel (Jr) r2 (k2+1)))) s=some r) (fun v29 h=>?_) (fun hK27=>?_)
   .unfold YQ at h;refine W.ch v29 h (fun h=>?_) (fun h=>?_)
    .refine W.seq<|W.rt (e2:=[(4,.bool false)]) ?_;refine W.wk (e:=[(4,.bool false)]) ?_;cases h;exact W.rr
    refine W.sw (e:=z6 y3) ?_;refine W.sr ?_;obtain⟨w32,hw32,h⟩:=qb h;refine WO.ck 1 (F:=105) (l:=[.agg [I6 x2.qi.qc,l3 none x2.qi.qa,l56 none x2.qe]]) (C:=[]) (r:=l50 (some 1) w32) (Uc x2 w32 hw32)<|WO.pq 0 (jM YM w32) ?_;let z8:=fun t=>z5 ((55,l50 (some 55) w32)::(56,I6 (w32.length:Int))::t);refine WO.fn (e2:=z8 ((57,.int .i64 0)::y1)) ?_;refine W.block ?_;obtain⟨hl3,h⟩:=qm h;refine W.wk<|W.range (σ:=(LA)) w32 (fun k3 s=>z8 [(57,I6 (k3:Int)),(1000005,.hob 3 [] (M6 s))]) (fun r0 k0 s=>Jm fuel (JQ (jC fuel (Jr) r2 (k2+1))) r0 k0 s=some r) (fun v33 h=>?_) (fun x3 r3 k3 s hx3 hk3 h hN3=>?_) v23 h
    .rw[Jm.eq_1]at h;refine W.sr<|WO.pq 0 (jB (ja (l:=w32)))<|WO.fn (e2:=z8 [(57,I6 ((w32).length:Int)),(58,.bool false),(1000005,.hob 3 [] (M6 v33))]) ?_;exact W.seq<|W.cF<|W.exit<|W.wk (hK24 v33 h)
    obtain⟨v33,rfl⟩:∃ x,x=s:=⟨s,rfl⟩;rw[Jm.eq_2]at h;refine W.sr<|WO.pq 0 (jB (jy hk3)) ?_;let z9:=fun t=>z8 ((57,I6 (k3:Int))::t);refine WO.fn (e2:=z9 [(58,.bool true),(1000005,.hob 3 [] (M6 v33))]) ?_;refine W.seq<|W.cT ?_;let y4:Env:=[(39,l54 none a1),(40,I6 (a1.length:Int)),(41,I6 (k2:Int)),(55,l50 (some 55) w32),(56,I6 (w32.length:Int)),(57,I6 (k3:Int)),(1000005,.hob 3 [] (M6 v33))];refine W.sw (e:=z6 y4) ?_;refine W.seq<|W.block<|W.sr<|WO.pq 0 (jA (f:=YM) hx3) ?_;let z10:=fun t=>z6 ((11,.ptr (.agg [I6 x3.qc,l3 none x3.qa]))::t);refine WO.fi [5,11,39,40,41,55,56,57,1000005] [11] (e2:=z10 y4) ?_;refine W.seq<|W.join (σ:=(LA×Bool)) (fun s=>z9 [(79,.bool s.2),(1000005,.hob 3 [] (M6 s.1))]) (fun s=>(Xk (Jm fuel (JQ (jC fuel (Jr) r2 (k2+1))) r3 (k3+1))) s.1 s.2=some r) (fun s h=>?_) (fun hK36=>?_)
    .obtain⟨v40,v41⟩:=s;have h:(Xk (Jm fuel (JQ (jC fuel (Jr) r2 (k2+1))) r3 (k3+1))) v40 v41=some r:=h;unfold Xk at h;refine W.ch v41 h (fun h=>?_) (fun h=>?_)
     .refine W.seq<|W.rt (e2:=[(4,.bool false)]) ?_;refine W.wk (e:=[(4,.bool false)]) ?_;cases h;exact W.rr
     refine W.sw (e:=z9 [(1000005,.hob 3 [] (M6 v40))]) ?_;exact W.rg<|WO.pq 0 (jI (qN hl3 hk3))<|WO.fn (hN3 v40 h)
    refine W.rg<|WO.pq 4 (jM (.int .i64) x3.qa) ?_;obtain⟨w37,hw37,h⟩:=qb h;let y5:Env:=[(1000005,.hob 3 [] (M6 w37.2))];let z11:=fun t=>z10 ((39,l54 none a1)::(40,I6 (a1.length:Int))::(41,I6 (k2:Int))::(55,l50 (some 55) w32)::(56,I6 (w32.length:Int))::(57,I6 (k3:Int))::(61,.ptr (I6 x3.qc))::(62,I6 x3.qc)::(63,.ptr (l3 none x3.qa))::(64,l3 none x3.qa)::(65,I6 (x3.qa.length:Int))::(66,.bool w37.1)::t);refine WO.cm 0 [(1000005,2000000)] [] (F:=103) (args:=[.pb 2000000 0,I6 x3.qc,I6 (x3.qa.length:Int)]) (hp:=[(2000000,.hob 3 [] (M6 v33))]) (hp2:=[(2000000,.hob 3 [] (M6 w37.2))]) (r:=.bool w37.1) (YA v33 x3.qc (x3.qa.length:Int) w37 hw37) (e1:=z11 y5)<|WO.bh 2 (fun b=>z11 ((67,.bool b)::(68,.bool b)::y5)) (!w37.1) h (fun h=>?_) (fun h=>?_)
    .exact WO.fn (hK36 (w37.2,true) h)
    obtain⟨w38,hw38,h⟩:=qb h;refine WO.ck 2 (F:=106) (l:=[l3 none x3.qa]) (C:=[]) (r:=I6 w38) (NS fuel x3.qa w38 hw38)<|WO.bh 3 (fun b=>z11 ((67,.bool false)::(68,.bool false)::(69,.ptr (l3 none x3.qa))::(70,l3 none x3.qa)::(71,I6 w38)::(72,.bool b)::(73,.bool b)::(74,.bool b)::y5)) (decide (w38<(-6))) h (fun h=>?_) (fun h=>?_)
    .exact WO.fn (hK36 (w37.2,true) h)
    obtain⟨w39,hw39,h⟩:=qb h;exact WO.ck 2 (F:=107) (l:=[l3 none x3.qa]) (C:=[]) (r:=I6 w39) (YP fuel x3.qa w39 hw39)<|WO.fn (hK36 (w37.2,(decide (w39 >= 8))) h)
   refine W.rg<|WO.pq 2 (jM XB x2.qe)<|WO.bh 2 (fun b=>z7 ((45,.ptr (l56 none x2.qe))::(46,l56 none x2.qe)::(47,I6 (x2.qe.length:Int))::(48,.bool b)::(49,.bool b)::y1)) (decide ((x2.qe.length:Int) > 3)) h (fun h=>?_) (fun h=>?_)
   .exact WO.fn (hK27 true h)
   obtain⟨w28,hw28,h⟩:=qb h;exact WO.ck 1 (F:=104) (l:=[.agg [I6 x2.qi.qc,l3 none x2.qi.qa,l56 none x2.qe]]) (C:=[]) (r:=.bool w28) (qbk x2 w28 hw28)<|WO.fn (hK27 (!w28) h)
  refine W.sr<|WO.pq 1 (jM qH a2) ?_;let z12:=fun t=>z3 ((20,l41 none a2)::(21,I6 (a2.length:Int))::t);refine WO.fn (e2:=z12 ((22,.int .i64 0)::y0)) ?_;refine W.block ?_;obtain⟨hl1,h⟩:=qm h;refine W.wk<|W.range (σ:=(LA)) a2 (fun k1 s=>z12 [(22,I6 (k1:Int)),(1000005,.hob 3 [] (M6 s))]) (fun r0 k0 s=>JE fuel (Xd fuel a1) r0 k0 s=some r) (fun v11 h=>?_) (fun x1 r1 k1 s hx1 hk1 h hN1=>?_) (A1 6 0) h
  .rw[JE.eq_1]at h;refine W.sr<|WO.pq 0 (jB (ja (l:=a2)))<|WO.fn (e2:=z12 [(22,I6 ((a2).length:Int)),(23,.bool false),(1000005,.hob 3 [] (M6 v11))]) ?_;exact W.seq<|W.cF<|W.exit<|W.wk (hK9 v11 h)
  obtain⟨v11,rfl⟩:∃ x,x=s:=⟨s,rfl⟩;rw[JE.eq_2]at h;refine W.sr<|WO.pq 0 (jB (jy hk1)) ?_;let y6:Env:=[(1000005,.hob 3 [] (M6 v11))];let z13:=fun t=>z12 ((22,I6 (k1:Int))::t);refine WO.fn (e2:=z13 ((23,.bool true)::y6)) ?_;refine W.seq<|W.cT ?_;let y7:Env:=(20,l41 none a2)::(21,I6 (a2.length:Int))::(22,I6 (k1:Int))::y6;refine W.sw (e:=z3 y7) ?_;refine W.seq<|W.block<|W.sr<|WO.pq 0 (jA (f:=qH) hx1) ?_;let z14:=fun t=>z3 ((7,.ptr (.agg [I6 x1.qc,l3 none x1.qa]))::t);refine WO.fi [0,5,7,20,21,22,1000005] [7] (e2:=z14 y7) ?_;refine W.seq<|W.join (σ:=(LA×Bool)) (fun s=>z13 [(37,.bool s.2),(1000005,.hob 3 [] (M6 s.1))]) (fun s=>(XT (JE fuel (Xd fuel a1) r1 (k1+1))) s.1 s.2=some r) (fun s h=>?_) (fun hK14=>?_)
  .obtain⟨v17,v18⟩:=s;have h:(XT (JE fuel (Xd fuel a1) r1 (k1+1))) v17 v18=some r:=h;unfold XT at h;refine W.ch v18 h (fun h=>?_) (fun h=>?_)
   .refine W.seq<|W.rt (e2:=[(4,.bool false)]) ?_;refine W.wk (e:=[(4,.bool false)]) ?_;cases h;exact W.rr
   refine W.sw (e:=z13 [(1000005,.hob 3 [] (M6 v17))]) ?_;exact W.rg<|WO.pq 0 (jI (qN hl1 hk1))<|WO.fn (hN1 v17 h)
  refine W.rg ?_;obtain⟨w15,hw15,h⟩:=qb h;refine WO.ck 1 (F:=75) (l:=[.agg [I6 x1.qc,l3 none x1.qa]]) (C:=[]) (r:=.bool w15) (ZD fuel x1 w15 hw15) ?_;let z15:=fun t=>z14 ((20,l41 none a2)::(21,I6 (a2.length:Int))::(22,I6 (k1:Int))::(26,.agg [I6 x1.qc,l3 none x1.qa])::(27,.bool w15)::t);refine WO.bh 2 (fun b=>z15 ((28,.bool b)::(29,.bool b)::y6)) (!w15) h (fun h=>?_) (fun h=>?_)
  .exact WO.fn (hK14 (v11,true) h)
  refine WO.pq 4 (jM (.int .i64) x1.qa) ?_;obtain⟨w16,hw16,h⟩:=qb h;exact WO.cm 0 [(1000005,2000000)] [] (F:=103) (args:=[.pb 2000000 0,I6 x1.qc,I6 (x1.qa.length:Int)]) (hp:=[(2000000,.hob 3 [] (M6 v11))]) (hp2:=[(2000000,.hob 3 [] (M6 w16.2))]) (r:=.bool w16.1) (YA v11 x1.qc (x1.qa.length:Int) w16 hw16) (e1:=z15 [(28,.bool false),(29,.bool false),(30,.ptr (I6 x1.qc)),(31,I6 x1.qc),(32,.ptr (l3 none x1.qa)),(33,l3 none x1.qa),(34,I6 (x1.qa.length:Int)),(35,.bool w16.1),(1000005,.hob 3 [] (M6 w16.2))])<|WO.fn (hK14 (w16.2,(!w16.1)) h)
 refine W.rg<|WO.pq 1 (jM Xa a1)<|WO.bh 2 (fun b=>z2 ((12,l54 none a1)::(13,I6 (a1.length:Int))::(14,.bool b)::(15,.bool b)::y0)) (decide ((a1.length:Int) > 10)) h (fun h=>?_) (fun h=>?_)
 .exact WO.fn (hK6 true h)
 exact WO.pq 1 (jM qH a2)<|WO.fn (hK6 (decide ((a2.length:Int) > 20)) h)
def qO (fuel:Nat) (v7:Int) (N1:(LA->Int->LZ)) (v38:LA) (v39:Bool):LZ :=
 (bif (!v39) then (some ((snap 0 (A0 6) v38),true)) else ((JW fuel (snap 0 (A0 6) v38)).bind fun w44=>(bif (decide (w44 > 6)) then (some ((snap 0 (([]:LA).length) ([]:LA)),false)) else (N1 v38 (A2 .i64 (v7+1))))))
def jG (N2:(LA->Bool->LZ)) (v36:LA) (v37:Bool):LZ :=
 (N2 v36 v37)
def Qj (N3:(LA->Bool->LZ)) (v34:LA) (v35:Bool):LZ :=
 (N3 v34 v35)
def Xt (x2:ruRule) (v17:LA) (v18:Bool) (K19:(LA->Bool->LZ)) (v26:Int):LZ :=
 (chk (decide ((0:Int)<=x2.qi.qc/\x2.qi.qc<(((A0 6):Nat):Int))) ((v17[(0+A0 x2.qi.qc)]?).bind fun e29=>(bif (decide (v26 > e29)) then (chk (decide ((0:Int)<=x2.qi.qc/\x2.qi.qc<(((A0 6):Nat):Int))) ((upd v17 (0+A0 x2.qi.qc) v26).bind fun u32=>(K19 u32 true))) else (K19 v17 v18))))
def jj (x2:ruRule) (K14:(LA->Bool->LZ)):LQ->Nat->LA->Bool->LZ
 | [],k3,v17,v18=>(K14 v17 v18)
 | x3::r3,k3,v17,v18=>(chk (decide ((0:Int)<=x3.qg.qc/\x3.qg.qc<(((A0 6):Nat):Int))) ((v17[(0+A0 x3.qg.qc)]?).bind fun e23=>(bif x3.qw then ((Xt x2 v17 v18 (Qj (jj x2 K14 r3 (k3+1)))) (A2 .i64 (e23+1))) else ((Xt x2 v17 v18 (Qj (jj x2 K14 r3 (k3+1)))) e23))))
def qR (K10:(LA->Bool->LZ)):LH->Nat->LA->Bool->LZ
 | [],k2,v12,v13=>(K10 v12 v13)
 | x2::r2,k2,v12,v13=>(chk (lenOk x2.qe) (jj x2 (jG (qR K10 r2 (k2+1))) x2.qe 0 v12 v13))
def qD (fuel:Nat) (a1:LH):Nat->LA->Int->LZ
 | 0,_,_=>none
 | m1+1,v6,v7=>(chk (lenOk a1) (qR (qO fuel v7 (qD fuel a1 m1)) a1 0 v6 false))
def XU (fuel:Nat) (a1:LH):LZ :=
 (chk (mkOk 8 6) (qD fuel a1 fuel (A1 (A0 6) 0) 0))
theorem qdH (fuel:Nat) (a1:LH) (r:(LA×Bool)) (h:XU fuel a1=some r):Run Try.prog (.call 85 [l54 none a1] (.tup [l3 none r.1,.bool r.2])):=by
 refine cW Try.func85 rfl (env0:=[(0,l54 none a1)]) ?_;unfold XU at h;refine W.sr<|WO.sl 1 ?_;let y0:Env:=[(1200002,.obj 3 1 (M6 ([]:LA)))];let z0:=fun t=>EN ((0,l54 none a1)::t);let z1:=fun t=>z0 ((2,.sb 1200002 3 1 0 (([]:LA).length))::t);refine WO.mv [.nil 2 3 1 1200002] (env':=z1 y0) kR<|WO.fn (e2:=z0 []) ?_;refine W.sr ?_;obtain⟨hc4,h⟩:=qm h;let y1:Env:=[(1000012,.obj 3 1 (M6 (A1 (A0 6) 0)))];refine WO.makeK 0 (d:=12) (e:=3) (s:=1) (bytes:=8) (m:=6) (z:=(.int .i64 0)) (zs:=(M6 (A1 (A0 6) 0))) (env1:=[(0,l54 none a1),(12,.sb 1000012 3 1 0 (A0 6))]) kR hc4 (by first | exact qiM | exact (qiM (f:=(AV.int .i64)))) (e1:=z0 ((12,.sb 1000012 3 1 0 (A0 6))::y1)) kR ?_;let z2:=fun t=>z0 ((4,.sb 1000012 3 1 0 (A0 6))::t);refine WO.fn (e2:=z2 y1) ?_;refine W.seq ?_;let y2:Env:=(4,.sb 1000012 3 1 0 (A0 6))::(5,.int .i64 0)::y1;refine W.rt (e2:=z0 y2) ?_;refine W.block<|W.wk (e:=z0 y2)<|W.fuel (σ:=(LA×Int)) (fun s=>z2 [(5,I6 s.2),(1000012,.obj 3 1 (M6 s.1))]) (fun m0 s=>qD fuel a1 m0 s.1 s.2=some r) (fun s h=>?_) (fun m1 s h hN1=>?_) fuel ((A1 (A0 6) 0),0) h
 .obtain⟨v6,v7⟩:=s;have h:qD fuel a1 0 v6 v7=some r:=h;rw[qD.eq_1]at h;cases h
 obtain⟨v6,v7⟩:=s;have h:qD fuel a1 (m1+1) v6 v7=some r:=h;rw[qD.eq_2]at h;refine W.seq<|W.block<|W.seq ?_;let z3:=fun t=>z2 ((5,I6 v7)::t);let z4:=fun t=>z3 ((6,.bool false)::t);refine W.rt (e2:=z4 [(1000012,.obj 3 1 (M6 v6))]) ?_;refine W.seq<|W.join (σ:=(LA×Bool)) (fun s=>z3 [(6,.bool s.2),(1000012,.obj 3 1 (M6 s.1))]) (fun s=>(qO fuel v7 (qD fuel a1 m1)) s.1 s.2=some r) (fun s h=>?_) (fun hK10=>?_)
 .obtain⟨v38,v39⟩:=s;have h:(qO fuel v7 (qD fuel a1 m1)) v38 v39=some r:=h;unfold qO at h;refine W.seq<|W.seq ?_;let y3:Env:=[(1000012,.obj 3 1 (M6 v38))];refine W.rt (e2:=z3 ((55,.bool (!v39))::y3)) ?_;refine W.ch (!v39) h (fun h=>?_) (fun h=>?_)
  .refine W.seq<|W.rt (e2:=((2,.sb 1000012 3 1 0 (A0 6))::(3,.bool true)::y3)) ?_;let z5:=fun t=>EN ((2,l3 none (snap 0 (A0 6) v38))::(3,.bool true)::t);refine W.mv [.frz 1000012] (env':=z5 []) ((by kernel_rfl:mvAll [(2,.sb 1000012 3 1 0 (A0 6)),(3,.bool true),(1000012,.obj 3 1 (M6 v38))] [.frz 1000012]=[(2,.lst 3 1 none (snapA 0 (A0 6) (M6 v38))),(3,.bool true)]).trans (by first | (simp only[UE,Vp,UD];done) | (simp only[UE,Vp,UD];kernel_rfl))) ?_;refine W.wk (e:=z5 []) ?_;cases h;exact W.rr
  refine W.sw (e:=z3 y3) ?_;refine W.sr ?_;obtain⟨w44,hw44,h⟩:=qb h;refine WO.callRK 1 (F:=107) (l:=[.lst 3 1 none (snapA 0 (A0 6) (M6 v38))]) (C:=[]) (args:=[l3 none (snap 0 (A0 6) v38)]) (r:=I6 w44) kR (by first | (simp only[UE,Vp,UD,List.cons_append,List.nil_append];done) | (simp only[UE,Vp,UD,List.cons_append,List.nil_append];kernel_rfl)) kR kR (YP fuel (snap 0 (A0 6) v38) w44 hw44) (e1:=z3 ((57,.sb 1000012 3 1 0 (A0 6))::(58,I6 w44)::y3)) kR ?_;refine WO.fn (e2:=z3 ((59,.bool (decide (w44 > 6)))::y3)) ?_;refine W.ch (decide (w44 > 6)) h (fun h=>?_) (fun h=>?_)
  .refine W.sr<|WO.sl 1<|WO.mv [.nil 2 3 1 1200002] (env':=z1 ((4,.sb 1000012 3 1 0 (A0 6))::(5,I6 v7)::(59,.bool (decide (w44 > 6)))::(1000012,.obj 3 1 (M6 v38))::y0)) kR<|WO.fn (e2:=((2,.sb 1200002 3 1 0 (([]:LA).length))::(3,.bool false)::y0)) ?_;let z6:=fun t=>EN ((2,l3 none (snap 0 (([]:LA).length) ([]:LA)))::(3,.bool false)::t);refine W.mv [.frz 1200002] (env':=z6 []) ((by kernel_rfl:mvAll [(2,.sb 1200002 3 1 0 (([]:LA).length)),(3,.bool false),(1200002,.obj 3 1 (M6 ([]:LA)))] [.frz 1200002]=[(2,.lst 3 1 none (snapA 0 (([]:LA).length) (M6 ([]:LA)))),(3,.bool false)]).trans (by first | (simp only[UE,Vp,UD];done) | (simp only[UE,Vp,UD];kernel_rfl))) ?_;refine W.wk (e:=z6 []) ?_;cases h;exact W.rr
  refine W.sw (e:=z3 y3) ?_;refine W.rt (e2:=z2 ((5,I6 (W6 (v7+1)))::y3)) ?_;exact hN1 (v38,(W6 (v7+1))) h
 refine W.sr<|WO.pq 1 (jM Xa a1) ?_;let z7:=fun t=>z4 ((15,l54 none a1)::(16,I6 (a1.length:Int))::t);refine WO.fn (e2:=z7 [(17,.int .i64 0),(1000012,.obj 3 1 (M6 v6))]) ?_;refine W.block ?_;obtain⟨hl2,h⟩:=qm h;refine W.wk<|W.range (σ:=(LA×Bool)) a1 (fun k2 s=>z3 [(6,.bool s.2),(15,l54 none a1),(16,I6 (a1.length:Int)),(17,I6 (k2:Int)),(1000012,.obj 3 1 (M6 s.1))]) (fun r0 k0 s=>qR (qO fuel v7 (qD fuel a1 m1)) r0 k0 s.1 s.2=some r) (fun s h=>?_) (fun x2 r2 k2 s hx2 hk2 h hN2=>?_) (v6,false) h
 .obtain⟨v12,v13⟩:=s;have h:qR (qO fuel v7 (qD fuel a1 m1)) [] (a1).length v12 v13=some r:=h;rw[qR.eq_1]at h;refine W.sr<|WO.pq 0 (jB (ja (l:=a1)))<|WO.fn (e2:=z3 [(6,.bool v13),(15,l54 none a1),(16,I6 (a1.length:Int)),(17,I6 ((a1).length:Int)),(18,.bool false),(1000012,.obj 3 1 (M6 v12))]) ?_;exact W.seq<|W.cF<|W.exit<|W.wk (hK10 (v12,v13) h)
 obtain⟨v12,v13⟩:=s;have h:qR (qO fuel v7 (qD fuel a1 m1)) (x2::r2) k2 v12 v13=some r:=h;rw[qR.eq_2]at h;refine W.sr<|WO.pq 0 (jB (jy hk2)) ?_;let y4:Env:=[(1000012,.obj 3 1 (M6 v12))];let z8:=fun t=>z3 ((6,.bool v13)::t);refine WO.fn (e2:=z8 ((15,l54 none a1)::(16,I6 (a1.length:Int))::(17,I6 (k2:Int))::(18,.bool true)::y4)) ?_;refine W.seq<|W.cT ?_;let y5:Env:=(15,l54 none a1)::(16,I6 (a1.length:Int))::(17,I6 (k2:Int))::y4;refine W.sw (e:=z8 y5) ?_;refine W.seq<|W.join (σ:=(LA×Bool)) (fun s=>z3 [(6,.bool s.2),(15,l54 none a1),(16,I6 (a1.length:Int)),(17,I6 (k2:Int)),(1000012,.obj 3 1 (M6 s.1))]) (fun s=>(jG (qR (qO fuel v7 (qD fuel a1 m1)) r2 (k2+1))) s.1 s.2=some r) (fun s h=>?_) (fun hK14=>?_)
 .obtain⟨v36,v37⟩:=s;have h:(jG (qR (qO fuel v7 (qD fuel a1 m1)) r2 (k2+1))) v36 v37=some r:=h;unfold jG at h;exact W.rg<|WO.pq 0 (jI (qN hl2 hk2))<|WO.fn (hN2 (v36,v37) h)
 refine W.block<|W.sr<|WO.pq 0 (jA (f:=Xa) hx2) ?_;let z9:=fun t=>z8 ((8,.ptr (.agg [I6 x2.qi.qc,l3 none x2.qi.qa,l56 none x2.qe]))::t);refine WO.fi [0,4,5,6,8,15,16,17,1000012] [8] (e2:=z9 y5) ?_;refine W.sr<|WO.pq 2 (jM XB x2.qe) ?_;let z10:=fun t=>z9 ((15,l54 none a1)::(16,I6 (a1.length:Int))::(17,I6 (k2:Int))::(22,l56 none x2.qe)::(23,I6 (x2.qe.length:Int))::t);refine WO.fn (e2:=z10 ((24,.int .i64 0)::y4)) ?_;refine W.block ?_;obtain⟨hl3,h⟩:=qm h;refine W.wk<|W.range (σ:=(LA×Bool)) x2.qe (fun k3 s=>z3 [(6,.bool s.2),(8,.ptr (.agg [I6 x2.qi.qc,l3 none x2.qi.qa,l56 none x2.qe])),(15,l54 none a1),(16,I6 (a1.length:Int)),(17,I6 (k2:Int)),(22,l56 none x2.qe),(23,I6 (x2.qe.length:Int)),(24,I6 (k3:Int)),(1000012,.obj 3 1 (M6 s.1))]) (fun r0 k0 s=>jj x2 (jG (qR (qO fuel v7 (qD fuel a1 m1)) r2 (k2+1))) r0 k0 s.1 s.2=some r) (fun s h=>?_) (fun x3 r3 k3 s hx3 hk3 h hN3=>?_) (v12,v13) h
 .obtain⟨v17,v18⟩:=s;have h:jj x2 (jG (qR (qO fuel v7 (qD fuel a1 m1)) r2 (k2+1))) [] (x2.qe).length v17 v18=some r:=h;rw[jj.eq_1]at h;refine W.sr<|WO.pq 0 (jB (ja (l:=x2.qe)))<|WO.fn (e2:=z3 [(6,.bool v18),(8,.ptr (.agg [I6 x2.qi.qc,l3 none x2.qi.qa,l56 none x2.qe])),(15,l54 none a1),(16,I6 (a1.length:Int)),(17,I6 (k2:Int)),(22,l56 none x2.qe),(23,I6 (x2.qe.length:Int)),(24,I6 ((x2.qe).length:Int)),(25,.bool false),(1000012,.obj 3 1 (M6 v17))]) ?_;exact W.seq<|W.cF<|W.exit<|W.wk (hK14 (v17,v18) h)
 obtain⟨v17,v18⟩:=s;have h:jj x2 (jG (qR (qO fuel v7 (qD fuel a1 m1)) r2 (k2+1))) (x3::r3) k3 v17 v18=some r:=h;rw[jj.eq_2]at h;refine W.sr<|WO.pq 0 (jB (jy hk3)) ?_;let y6:Env:=[(1000012,.obj 3 1 (M6 v17))];let z11:=fun t=>z3 ((6,.bool v18)::(8,.ptr (.agg [I6 x2.qi.qc,l3 none x2.qi.qa,l56 none x2.qe]))::t);refine WO.fn (e2:=z11 ((15,l54 none a1)::(16,I6 (a1.length:Int))::(17,I6 (k2:Int))::(22,l56 none x2.qe)::(23,I6 (x2.qe.length:Int))::(24,I6 (k3:Int))::(25,.bool true)::y6)) ?_;refine W.seq<|W.cT ?_;let y7:Env:=(15,l54 none a1)::(16,I6 (a1.length:Int))::(17,I6 (k2:Int))::(22,l56 none x2.qe)::(23,I6 (x2.qe.length:Int))::(24,I6 (k3:Int))::y6;refine W.sw (e:=z11 y7) ?_;refine W.seq<|W.join (σ:=(LA×Bool)) (fun s=>z3 [(6,.bool s.2),(8,.ptr (.agg [I6 x2.qi.qc,l3 none x2.qi.qa,l56 none x2.qe])),(15,l54 none a1),(16,I6 (a1.length:Int)),(17,I6 (k2:Int)),(22,l56 none x2.qe),(23,I6 (x2.qe.length:Int)),(24,I6 (k3:Int)),(1000012,.obj 3 1 (M6 s.1))]) (fun s=>(Qj (jj x2 (jG (qR (qO fuel v7 (qD fuel a1 m1)) r2 (k2+1))) r3 (k3+1))) s.1 s.2=some r) (fun s h=>?_) (fun hK19=>?_)
 .obtain⟨v34,v35⟩:=s;have h:(Qj (jj x2 (jG (qR (qO fuel v7 (qD fuel a1 m1)) r2 (k2+1))) r3 (k3+1))) v34 v35=some r:=h;unfold Qj at h;exact W.rg<|WO.pq 0 (jI (qN hl3 hk3))<|WO.fn (hN3 (v34,v35) h)
 refine W.block<|W.sr<|WO.pq 0 (jA (f:=XB) hx3) ?_;let z12:=fun t=>z11 ((10,.ptr (.agg [.bool x3.qw,I6 x3.qg.qc,l3 none x3.qg.qa]))::t);refine WO.fi [0,4,5,6,8,10,15,16,17,22,23,24,1000012] [10] (e2:=z12 y7) ?_;refine W.sr ?_;obtain⟨hc22,h⟩:=qm h;refine WO.pi 4 (v:=.pe 1000012 1 (0+A0 x3.qg.qc) 0) hc22 ?_;obtain⟨e23,he23,h⟩:=qb h;refine WO.pl 0 (v:=I6 e23) (AV.int .i64) 3 0 he23<|WO.fn (e2:=z12 ((11,I6 e23)::y7)) ?_;refine W.seq<|W.join (σ:=(Int)) (fun s=>z11 ((11,I6 s)::y7)) (fun s=>(Xt x2 v17 v18 (Qj (jj x2 (jG (qR (qO fuel v7 (qD fuel a1 m1)) r2 (k2+1))) r3 (k3+1)))) s=some r) (fun v26 h=>?_) (fun hK24=>?_)
 .unfold Xt at h;refine W.sr ?_;obtain⟨hc28,h⟩:=qm h;refine WO.pi 5 (v:=.pe 1000012 1 (0+A0 x2.qi.qc) 0) hc28 ?_;obtain⟨e29,he29,h⟩:=qb h;refine WO.pl 0 (v:=I6 e29) (AV.int .i64) 3 0 he29<|WO.fn (e2:=z11 ((11,I6 v26)::(15,l54 none a1)::(16,I6 (a1.length:Int))::(17,I6 (k2:Int))::(22,l56 none x2.qe)::(23,I6 (x2.qe.length:Int))::(24,I6 (k3:Int))::(45,.bool (decide (v26 > e29)))::y6)) ?_;refine W.ch (decide (v26 > e29)) h (fun h=>?_) (fun h=>?_)
  .refine W.sr ?_;obtain⟨hc31,h⟩:=qm h;refine WO.pi 5 (v:=.pe 1000012 1 (0+A0 x2.qi.qc) 0) hc31 ?_;obtain⟨u32,hu32,h⟩:=qb h;obtain⟨y33,hyy33,hzy33⟩:=qkt hu32;refine WO.sk 0 (id:=1000012) (e:=3) (s:=1) (off:=0) (vs:=[I6 v26]) (AV.int .i64) hyy33 hzy33 ?_;let y8:Env:=[(8,.ptr (.agg [I6 x2.qi.qc,l3 none x2.qi.qa,l56 none x2.qe])),(15,l54 none a1),(16,I6 (a1.length:Int)),(17,I6 (k2:Int)),(22,l56 none x2.qe),(23,I6 (x2.qe.length:Int)),(24,I6 (k3:Int)),(1000012,.obj 3 1 (M6 u32))];refine WO.fn (e2:=z3 y8) ?_;refine W.rt (e2:=z3 ((6,.bool true)::y8)) ?_;exact hK19 (u32,true) h
  exact W.sw (hK19 (v17,v18) h)
 refine W.seq<|W.rt (e2:=z11 ((11,I6 e23)::(15,l54 none a1)::(16,I6 (a1.length:Int))::(17,I6 (k2:Int))::(22,l56 none x2.qe)::(23,I6 (x2.qe.length:Int))::(24,I6 (k3:Int))::(35,.bool x3.qw)::y6)) ?_;refine W.ch x3.qw h (fun h=>?_) (fun h=>?_)
 .refine W.rt (e2:=z11 ((11,I6 (W6 (e23+1)))::y7)) ?_;exact hK24 (W6 (e23+1)) h
 exact W.sw (hK24 e23 h)
def ZM (a1:rufact):Option apiFact :=
 (bif (a1.f_b == 0) then (some (apiFact.mk a1.qn [a1.f_a])) else (some (apiFact.mk a1.qn [a1.f_a,a1.f_b])))
theorem NL (a1:rufact) (r:apiFact) (h:ZM a1=some r):Run Try.prog (.call 108 [.agg [I6 a1.qn,I6 a1.f_a,I6 a1.f_b]] (.agg [I6 r.qc,l3 none r.qa])):=by
 refine cW Try.func108 rfl (env0:=[(0,.agg [I6 a1.qn,I6 a1.f_a,I6 a1.f_b])]) ?_;unfold ZM at h;refine W.seq ?_;let z0:=fun t=>EN ((1,.ptr (.agg [I6 a1.qn,I6 a1.f_a,I6 a1.f_b]))::(2,.box [.int .i64 0,.nils])::t);refine W.rT [1,2] [1] (e2:=z0 []) ?_;refine W.seq<|W.seq<|W.rt (e2:=z0 [(5,.bool (a1.f_b == 0))]) ?_;refine W.ch (a1.f_b == 0) h (fun h=>?_) (fun h=>?_)
 .refine W.seq<|W.rt (e2:=[(2,.box [I6 a1.qn,l3 none [a1.f_a]])]) ?_;refine W.wk (e:=[(2,.box [I6 a1.qn,l3 none [a1.f_a]])]) ?_;cases h;exact W.rr
 refine W.sw (e:=z0 []) ?_;refine W.seq ?_;let z1:=fun t=>EN ((2,.box [I6 a1.qn,l3 none [a1.f_a,a1.f_b]])::t);refine W.rt (e2:=z1 []) ?_;refine W.wk (e:=z1 []) ?_;cases h;exact W.rr
def Qb (a2:qo) (v19:LA):Option rufact :=
 ((v19[0]?).bind fun e21=>((v19[1]?).bind fun e22=>(some (rufact.mk a2.qc e21 e22))))
def JA (N1:(LA->Option rufact)) (v18:LA):Option rufact :=
 (N1 v18)
def qL (a1:LA) (K6:(LA->Option rufact)):LA->Nat->LA->Option rufact
 | [],k1,v8=>(K6 v8)
 | x1::r1,k1,v8=>(bif (decide (x1<0)) then (chk (decide ((0:Int)<=(k1:Int)/\(k1:Int)<((2:Nat):Int)/\0<1)) (chk (decide ((0+A0 (k1:Int) * 1)<v8.length)) ((JA (qL a1 K6 r1 (k1+1))) (v8.set (0+A0 (k1:Int) * 1) (A2 .i64 (0 - x1)))))) else (chk (decide ((0:Int)<=x1/\x1<((8:Nat):Int)/\0<1)) ((a1[(0+A0 x1 * 1)]?).bind fun e15=>(chk (decide ((0:Int)<=(k1:Int)/\(k1:Int)<((2:Nat):Int)/\0<1)) (chk (decide ((0+A0 (k1:Int) * 1)<v8.length)) ((JA (qL a1 K6 r1 (k1+1))) (v8.set (0+A0 (k1:Int) * 1) e15)))))))
def qA (a1:LA) (a2:qo):Option rufact :=
 (chk (!a1.isEmpty) (chk (lenOk a2.qa) (qL a1 (Qb a2) a2.qa 0 (A1 2 0))))
theorem JT (a1:LA) (a2:qo) (r:rufact) (h:qA a1 a2=some r):Run Try.prog (.call 118 [.agg (M6 a1),.agg [I6 a2.qc,l3 none a2.qa]] (.agg [I6 r.qn,I6 r.f_a,I6 r.f_b])):=by
 refine cW Try.func118 rfl (env0:=[(0,.agg (M6 a1)),(1,.agg [I6 a2.qc,l3 none a2.qa])]) ?_;unfold qA at h;refine W.sr ?_;obtain⟨hc4,h⟩:=qm h;refine WO.boxA (enc:=(AV.int .i64)) (l:=a1) (d:=2) 0 (qP .i64) hc4 (e1:=[(0,.agg (M6 a1)),(1,.agg [I6 a2.qc,l3 none a2.qa]),(2,.pb 1000002 0),(1000002,.hob 3 [] (M6 a1))]) ?_;let z0:=fun t=>EN ((2,.pb 1000002 0)::(3,.ptr (.agg [I6 a2.qc,l3 none a2.qa]))::(4,.box [.int .i64 0,.int .i64 0,.int .i64 0])::t);refine WO.fi [2,3,4,1000002] [3] (e2:=z0 [(1000002,.hob 3 [] (M6 a1))]) ?_;refine W.sr<|WO.sl 1 ?_;let y0:Env:=[(1000002,.hob 3 [] (M6 a1)),(1000005,.hob 3 [] (M6 (A1 2 0)))];let z1:=fun t=>z0 ((5,.pb 1000005 0)::t);refine WO.mv [.arr 5] (env':=z1 y0) kR<|WO.fn (e2:=z1 y0) ?_;refine W.seq ?_;let z2:=fun t=>EN ((3,.ptr (.agg [I6 a2.qc,l3 none a2.qa]))::(4,.box [.int .i64 0,.int .i64 0,.int .i64 0])::(5,.pb 1000005 0)::t);refine W.join (σ:=(LA)) (fun s=>z2 [(1000005,.hob 3 [] (M6 s))]) (fun s=>(Qb a2) s=some r) (fun v19 h=>?_) (fun hK6=>?_)
 .unfold Qb at h;refine W.sr ?_;obtain⟨e21,he21,h⟩:=qb h;refine WO.pk 3 (cut Try.prog 3 (M6 v19) 0) (Uz (qP .i64) kR he21) ?_;obtain⟨e22,he22,h⟩:=qb h;refine WO.pk 1 (cut Try.prog 3 (M6 v19) 1) (Uz (qP .i64) kR he22)<|WO.fn (e2:=[(4,.box [I6 a2.qc,I6 e21,I6 e22])]) ?_;refine W.wk (e:=[(4,.box [I6 a2.qc,I6 e21,I6 e22])]) ?_;cases h;exact W.rr
 refine W.sr<|WO.pq 2 (jM (.int .i64) a2.qa) ?_;let z3:=fun t=>z1 ((9,l3 none a2.qa)::(10,I6 (a2.qa.length:Int))::t);refine WO.fn (e2:=z3 ((11,.int .i64 0)::y0)) ?_;refine W.block ?_;obtain⟨hl1,h⟩:=qm h;refine W.wk<|W.range (σ:=(LA)) a2.qa (fun k1 s=>z3 [(11,I6 (k1:Int)),(1000002,.hob 3 [] (M6 a1)),(1000005,.hob 3 [] (M6 s))]) (fun r0 k0 s=>qL a1 (Qb a2) r0 k0 s=some r) (fun v8 h=>?_) (fun x1 r1 k1 s hx1 hk1 h hN1=>?_) (A1 2 0) h
 .rw[qL.eq_1]at h;refine W.sr<|WO.pq 0 (jB (ja (l:=a2.qa)))<|WO.fn (e2:=z3 [(11,I6 ((a2.qa).length:Int)),(12,.bool false),(1000002,.hob 3 [] (M6 a1)),(1000005,.hob 3 [] (M6 v8))]) ?_;exact W.seq<|W.cF<|W.exit<|W.wk (hK6 v8 h)
 obtain⟨v8,rfl⟩:∃ x,x=s:=⟨s,rfl⟩;rw[qL.eq_2]at h;refine W.sr<|WO.pq 0 (jB (jy hk1)) ?_;let y1:Env:=[(1000002,.hob 3 [] (M6 a1)),(1000005,.hob 3 [] (M6 v8))];let z4:=fun t=>z3 ((11,I6 (k1:Int))::t);refine WO.fn (e2:=z4 ((12,.bool true)::y1)) ?_;refine W.seq<|W.cT ?_;let y2:Env:=(9,l3 none a2.qa)::(10,I6 (a2.qa.length:Int))::(11,I6 (k1:Int))::y1;refine W.sw (e:=z1 y2) ?_;refine W.seq<|W.join (σ:=(LA)) (fun s=>z4 [(1000002,.hob 3 [] (M6 a1)),(1000005,.hob 3 [] (M6 s))]) (fun s=>(JA (qL a1 (Qb a2) r1 (k1+1))) s=some r) (fun v18 h=>?_) (fun hK9=>?_)
 .unfold JA at h;exact W.rg<|WO.pq 0 (jI (qN hl1 hk1))<|WO.fn (hN1 v18 h)
 refine W.block<|W.sr<|WO.pq 1 (jA (f:=(AV.int .i64)) hx1) ?_;let z5:=fun t=>z1 ((6,I6 (k1:Int))::(7,I6 x1)::t);refine WO.fn (e2:=z5 y2) ?_;refine W.seq ?_;let z6:=fun t=>z5 ((9,l3 none a2.qa)::(10,I6 (a2.qa.length:Int))::(11,I6 (k1:Int))::(17,.bool (decide (x1<0)))::t);refine W.rt (e2:=z6 y1) ?_;refine W.ch (decide (x1<0)) h (fun h=>?_) (fun h=>?_)
 .refine W.rg ?_;obtain⟨hc12,h⟩:=qm h;refine WO.pi 3 (v:=.pb 1000005 (0+A0 (k1:Int) * 1)) hc12 ?_;obtain⟨hc13,h⟩:=qm h;let y3:Env:=[(1000002,.hob 3 [] (M6 a1)),(1000005,.hob 3 [] (M6 (v8.set (0+A0 (k1:Int) * 1) (W6 (0 - x1)))))];exact WO.setA (enc:=(AV.int .i64)) (l:=v8) (x:=(W6 (0 - x1))) (s:=1000005) (off:=(0+A0 (k1:Int) * 1)) 0 (qP .i64) hc13 (e1:=z6 ((18,I6 (k1:Int))::(19,I6 x1)::(20,I6 (W6 (0 - x1)))::(21,.pb 1000005 (0+A0 (k1:Int) * 1))::y3))<|WO.fn (hK9 (v8.set (0+A0 (k1:Int) * 1) (W6 (0 - x1))) h)
 refine W.rg ?_;obtain⟨hc14,h⟩:=qm h;refine WO.pi 2 (v:=.pb 1000002 (0+A0 x1 * 1)) hc14 ?_;obtain⟨e15,he15,h⟩:=qb h;refine WO.pk 0 (cut Try.prog 3 (M6 a1) (0+A0 x1 * 1)) (Uz (qP .i64) kR he15) ?_;obtain⟨hc16,h⟩:=qm h;refine WO.pi 0 (v:=.pb 1000005 (0+A0 (k1:Int) * 1)) hc16 ?_;obtain⟨hc17,h⟩:=qm h;let y4:Env:=[(1000002,.hob 3 [] (M6 a1)),(1000005,.hob 3 [] (M6 (v8.set (0+A0 (k1:Int) * 1) e15)))];exact WO.setA (enc:=(AV.int .i64)) (l:=v8) (x:=e15) (s:=1000005) (off:=(0+A0 (k1:Int) * 1)) 0 (qP .i64) hc17 (e1:=z6 ((22,I6 (k1:Int))::(23,I6 x1)::(24,.pb 1000002 (0+A0 x1 * 1))::(25,I6 e15)::(26,.pb 1000005 (0+A0 (k1:Int) * 1))::y4))<|WO.fn (hK9 (v8.set (0+A0 (k1:Int) * 1) e15) h)
def qkF (rel:Int):LA->Option rufact
 | []=>none
 | a::l=>chk (decide ((a::l).length<=1000000)) (some (rufact.mk rel a (l.headD 0)))
def VG (a1:apiFact):Option rufact:=qkF a1.qc a1.qa
theorem Nd (a1:apiFact) (r:rufact) (h:VG a1=some r):Run Try.prog (.call 81 [.agg [I6 a1.qc,l3 none a1.qa]] (.agg [I6 r.qn,I6 r.f_a,I6 r.f_b])):=by
 unfold VG at h;obtain⟨rel,args⟩:=a1
 cases args with
 | nil=>cases h
 | cons a l =>
  obtain⟨hc,h⟩:=qm (show chk (decide ((a::l).length<=1000000)) _=some r from h);cases h;exact .ext0 (key81 (of_decide_eq_true hc))
def Ud (v12:LB):Option LB :=
 (some v12)
def Xe (K4:(LB->Option LB)):LG->Nat->LB->Option LB
 | [],k1,v6=>(K4 v6)
 | x1::r1,k1,v6=>((VG x1).bind fun w9=>(chk (wfI .i64 w9.qn && wfI .i64 w9.f_a && wfI .i64 w9.f_b) (chk (Nat.blt v6.length 1000000000) ((Xe K4 r1 (k1+1)) (mset qf w9 true v6)))))
def QS (a1:LG):Option LB :=
 (chk (lenOk a1) (Xe (Ud) a1 0 ([]:LB)))
theorem Nf (a1:LG) (r:LB) (h:QS a1=some r):Run Try.prog (.call 73 [l41 none a1] (mpE qh AV.bool r)):=by
 refine cW Try.func73 rfl (env0:=[(0,l41 none a1)]) ?_;unfold QS at h;refine W.seq<|W.rt (e2:=[(0,l41 none a1)]) ?_;refine W.seq ?_;let y0:Env:=[(1000006,hobE qh AV.bool ([]:LB))];refine W.rt (e2:=((0,l41 none a1)::(3,.mb 0 1000006)::y0)) ?_;refine W.seq ?_;let z0:=fun t=>EN ((3,.mb 0 1000006)::t);refine W.join (σ:=(LB)) (fun s=>z0 [(1000006,hobE qh AV.bool s)]) (fun s=>(Ud) s=some r) (fun v12 h=>?_) (fun hK4=>?_)
 .unfold Ud at h;refine W.seq<|W.rt (e2:=[(2,.mb 0 1000006),(1000006,hobE qh AV.bool v12)]) ?_;refine W.mv [.frz 1000006] (env':=[(2,mpE qh AV.bool v12)]) kR<|W.wk (e:=[(2,mpE qh AV.bool v12)]) ?_;cases h;exact W.rr
 refine W.sr<|WO.pq 1 (jM qH a1) ?_;let z1:=fun t=>z0 ((7,l41 none a1)::(8,I6 (a1.length:Int))::t);refine WO.fn (e2:=z1 ((9,.int .i64 0)::y0)) ?_;refine W.block ?_;obtain⟨hl1,h⟩:=qm h;refine W.wk<|W.range (σ:=(LB)) a1 (fun k1 s=>z1 [(9,I6 (k1:Int)),(1000006,hobE qh AV.bool s)]) (fun r0 k0 s=>Xe (Ud) r0 k0 s=some r) (fun v6 h=>?_) (fun x1 r1 k1 s hx1 hk1 h hN1=>?_) ([]:LB) h
 .rw[Xe.eq_1]at h;refine W.sr<|WO.pq 0 (jB (ja (l:=a1)))<|WO.fn (e2:=z1 [(9,I6 ((a1).length:Int)),(10,.bool false),(1000006,hobE qh AV.bool v6)]) ?_;exact W.seq<|W.cF<|W.exit<|W.wk (hK4 v6 h)
 obtain⟨v6,rfl⟩:∃ x,x=s:=⟨s,rfl⟩;rw[Xe.eq_2]at h;refine W.sr<|WO.pq 0 (jB (jy hk1)) ?_;let y1:Env:=[(1000006,hobE qh AV.bool v6)];refine WO.fn (e2:=z1 ((9,I6 (k1:Int))::(10,.bool true)::y1)) ?_;refine W.seq<|W.cT ?_;let y2:Env:=(7,l41 none a1)::(8,I6 (a1.length:Int))::(9,I6 (k1:Int))::y1;refine W.sw (e:=z0 y2) ?_;refine W.seq<|W.block<|W.sr<|WO.pq 0 (jA (f:=qH) hx1) ?_;let z2:=fun t=>z0 ((5,.ptr (.agg [I6 x1.qc,l3 none x1.qa]))::t);refine WO.fi [3,5,7,8,9,1000006] [5] (e2:=z2 y2) ?_;refine W.rg ?_;obtain⟨w9,hw9,h⟩:=qb h;refine WO.ck 2 (F:=81) (l:=[.agg [I6 x1.qc,l3 none x1.qa]]) (C:=[]) (r:=.agg [I6 w9.qn,I6 w9.f_a,I6 w9.f_b]) (Nd x1 w9 hw9) ?_;obtain⟨hc10,h⟩:=qm h;obtain⟨hc11,h⟩:=qm h;let y3:Env:=[(1000006,hobE qh AV.bool (mset qf w9 true v6))];refine WO.mapK (F:=qh) (G:=AV.bool) (eq:=qf) (l:=v6) (a:=w9) (b:=true) (id:=1000006) (kt:=127) 0 (Nw hc10) hc11 (e1:=z2 ((7,l41 none a1)::(8,I6 (a1.length:Int))::(9,I6 (k1:Int))::(13,.mb 0 1000006)::(14,.agg [I6 x1.qc,l3 none x1.qa])::(15,.agg [I6 w9.qn,I6 w9.f_a,I6 w9.f_b])::y3)) ?_ (fun x=>by kernel_rfl) (fun x y=>by kernel_rfl);refine WO.fn (e2:=z1 ((9,I6 (k1:Int))::y3)) ?_;exact W.rg<|WO.pq 0 (jI (qN hl1 hk1))<|WO.fn (hN1 (mset qf w9 true v6) h)
end Go.AM
