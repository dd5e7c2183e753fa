import Derived.Test.YtdghpfejmlpjhaaRAT
set_option linter.all false
set_option maxRecDepth 100000
open Int renaming toNat→A0
open List renaming map→A1, range→A3, replicate→A4
open Go.IntKind renaming wrap→A2
namespace Go.AM
open Go.Proofs
def QL (v11:Bool):LD :=
 (some v11)
def XT (a1:apiFact):LD :=
 (bif (decide (a1.qc >= 0)) then (bif (decide (a1.qc<=5)) then (bif (decide ((a1.qa.length:Int) >= 1)) then ((QL) (decide ((a1.qa.length:Int)<=2))) else ((QL) false)) else ((QL) false)) else ((QL) false))
def YK (N1:LD) (v8:Bool):LD :=
 (bif v8 then (some false) else N1)
def JD (K3:LD):LA->Nat->LD
 | [],k1=>K3
 | x1::r1,k1=>(bif (decide (x1<1)) then ((YK (JD K3 r1 (k1+1))) true) else ((YK (JD K3 r1 (k1+1))) (decide (x1 > 6))))
def YX (a1:apiFact):LD :=
 (chk (lenOk a1.qa) (JD (XT a1) a1.qa 0))
theorem VZ (a1:apiFact) (r:Bool) (h:YX a1=some r):Run Try.prog (.call 33 [.agg [I6 a1.qc,l3 none a1.qa]] (.bool r)):=by
 refine cW Try.func33 rfl (env0:=[(0,.agg [I6 a1.qc,l3 none a1.qa])]) ?_;unfold YX at h;refine W.seq ?_;let z0:=fun t=>EN ((1,.ptr (.agg [I6 a1.qc,l3 none a1.qa]))::t);refine W.rT [1] [1] (e2:=z0 []) ?_;refine W.seq<|W.join (σ:=Unit) (fun s=>z0 []) (fun s=>(XT a1)=some r) (fun s h=>?_) (fun hK3=>?_)
 .unfold XT at h;refine W.seq<|W.join (σ:=(Bool)) (fun s=>[(2,.bool s)]) (fun s=>(QL) s=some r) (fun v11 h=>?_) (fun hK10=>?_)
  .unfold QL at h;refine W.wk (e:=[(2,.bool v11)]) ?_;cases h;exact W.rr
  refine W.rg ?_;let z1:=fun t=>z0 ((19,.ptr (I6 a1.qc))::(20,I6 a1.qc)::t);refine WO.bh 4 (fun b=>z1 [(21,.bool b),(22,.bool b)]) (decide (a1.qc >= 0)) h (fun h=>?_) (fun h=>?_)
  .let z2:=fun t=>z1 ((21,.bool true)::(22,.bool true)::(23,.ptr (I6 a1.qc))::(24,I6 a1.qc)::t);refine WO.bh 5 (fun b=>z2 [(25,.bool b),(26,.bool b),(27,.bool b)]) (decide (a1.qc<=5)) h (fun h=>?_) (fun h=>?_)
   .refine WO.pq 2 (jM (.int .i64) a1.qa)<|WO.bh 3 (fun b=>z2 [(25,.bool true),(26,.bool true),(27,.bool true),(28,.ptr (l3 none a1.qa)),(29,l3 none a1.qa),(30,I6 (a1.qa.length:Int)),(31,.bool b),(32,.bool b),(33,.bool b)]) (decide ((a1.qa.length:Int) >= 1)) h (fun h=>?_) (fun h=>?_)
    .exact WO.pq 2 (jM (.int .i64) a1.qa)<|WO.fn (hK10 (decide ((a1.qa.length:Int)<=2)) h)
    exact WO.fn (hK10 false h)
   exact WO.fn (hK10 false h)
  exact WO.fn (hK10 false h)
 refine W.sr<|WO.pq 2 (jM (.int .i64) a1.qa) ?_;let z3:=fun t=>z0 ((6,l3 none a1.qa)::(7,I6 (a1.qa.length:Int))::t);refine WO.fn (e2:=z3 [(8,.int .i64 0)]) ?_;refine W.block ?_;obtain⟨hl1,h⟩:=qg h;refine W.wk<|W.range (σ:=Unit) a1.qa (fun k1 s=>z3 [(8,I6 (k1:Int))]) (fun r0 k0 s=>JD (XT a1) r0 k0=some r) (fun s h=>?_) (fun x1 r1 k1 s hx1 hk1 h hN1=>?_) () h
 .rw[JD.eq_1]at h;refine W.sr<|WO.pq 0 (jB (qL (l:=a1.qa)))<|WO.fn (e2:=z3 [(8,I6 ((a1.qa).length:Int)),(9,.bool false)]) ?_;exact W.seq<|W.cF<|W.exit<|W.wk (hK3 () h)
 rw[JD.eq_2]at h;refine W.sr<|WO.pq 0 (jB (qW hk1)) ?_;let z4:=fun t=>z3 ((8,I6 (k1:Int))::t);refine WO.fn (e2:=z4 [(9,.bool true)]) ?_;refine W.seq<|W.cT ?_;let y0:Env:=[(6,l3 none a1.qa),(7,I6 (a1.qa.length:Int)),(8,I6 (k1:Int))];refine W.sw (e:=z0 y0) ?_;refine W.seq<|W.block<|W.sr<|WO.pq 0 (qX (f:=(AV.int .i64)) hx1)<|WO.fn (e2:=z0 ((4,I6 x1)::y0)) ?_;refine W.seq<|W.join (σ:=(Bool)) (fun s=>z4 [(17,.bool s)]) (fun s=>(YK (JD (XT a1) r1 (k1+1))) s=some r) (fun v8 h=>?_) (fun hK7=>?_)
 .unfold YK at h;refine W.ch v8 h (fun h=>?_) (fun h=>?_)
  .refine W.seq<|W.rt (e2:=[(2,.bool false)]) ?_;refine W.wk (e:=[(2,.bool false)]) ?_;cases h;exact W.rr
  refine W.sw (e:=z0 y0) ?_;exact W.rg<|WO.pq 0 (jI (qz hl1 hk1))<|WO.fn (hN1 () h)
 refine W.rg<|WO.bh 3 (fun b=>z0 [(4,I6 x1),(6,l3 none a1.qa),(7,I6 (a1.qa.length:Int)),(8,I6 (k1:Int)),(12,I6 x1),(13,.bool b),(14,.bool b)]) (decide (x1<1)) h (fun h=>?_) (fun h=>?_)
 .exact WO.fn (hK7 true h)
 exact WO.fn (hK7 (decide (x1 > 6)) h)
def XD (v11:Bool):LD :=
 (some v11)
def Zf (a1:rf2Atom):LD :=
 (bif (decide (a1.qc >= 0)) then (bif (decide (a1.qc<=5)) then (bif (decide ((a1.qa.length:Int) >= 1)) then ((XD) (decide ((a1.qa.length:Int)<=2))) else ((XD) false)) else ((XD) false)) else ((XD) false))
def Vi (N1:LD) (v8:Bool):LD :=
 (bif v8 then (some false) else N1)
def QC (K3:LD):LA->Nat->LD
 | [],k1=>K3
 | x1::r1,k1=>(bif (decide (x1<(-6))) then ((Vi (QC K3 r1 (k1+1))) true) else ((Vi (QC K3 r1 (k1+1))) (decide (x1 > 7))))
def UQ (a1:rf2Atom):LD :=
 (chk (lenOk a1.qa) (QC (Zf a1) a1.qa 0))
theorem qaa (a1:rf2Atom) (r:Bool) (h:UQ a1=some r):Run Try.prog (.call 61 [.agg [I6 a1.qc,l3 none a1.qa]] (.bool r)):=by
 refine cW Try.func61 rfl (env0:=[(0,.agg [I6 a1.qc,l3 none a1.qa])]) ?_;unfold UQ at h;refine W.seq ?_;let z0:=fun t=>EN ((1,.ptr (.agg [I6 a1.qc,l3 none a1.qa]))::t);refine W.rT [1] [1] (e2:=z0 []) ?_;refine W.seq<|W.join (σ:=Unit) (fun s=>z0 []) (fun s=>(Zf a1)=some r) (fun s h=>?_) (fun hK3=>?_)
 .unfold Zf at h;refine W.seq<|W.join (σ:=(Bool)) (fun s=>[(2,.bool s)]) (fun s=>(XD) s=some r) (fun v11 h=>?_) (fun hK10=>?_)
  .unfold XD at h;refine W.wk (e:=[(2,.bool v11)]) ?_;cases h;exact W.rr
  refine W.rg ?_;let z1:=fun t=>z0 ((19,.ptr (I6 a1.qc))::(20,I6 a1.qc)::t);refine WO.bh 4 (fun b=>z1 [(21,.bool b),(22,.bool b)]) (decide (a1.qc >= 0)) h (fun h=>?_) (fun h=>?_)
  .let z2:=fun t=>z1 ((21,.bool true)::(22,.bool true)::(23,.ptr (I6 a1.qc))::(24,I6 a1.qc)::t);refine WO.bh 5 (fun b=>z2 [(25,.bool b),(26,.bool b),(27,.bool b)]) (decide (a1.qc<=5)) h (fun h=>?_) (fun h=>?_)
   .refine WO.pq 2 (jM (.int .i64) a1.qa)<|WO.bh 3 (fun b=>z2 [(25,.bool true),(26,.bool true),(27,.bool true),(28,.ptr (l3 none a1.qa)),(29,l3 none a1.qa),(30,I6 (a1.qa.length:Int)),(31,.bool b),(32,.bool b),(33,.bool b)]) (decide ((a1.qa.length:Int) >= 1)) h (fun h=>?_) (fun h=>?_)
    .exact WO.pq 2 (jM (.int .i64) a1.qa)<|WO.fn (hK10 (decide ((a1.qa.length:Int)<=2)) h)
    exact WO.fn (hK10 false h)
   exact WO.fn (hK10 false h)
  exact WO.fn (hK10 false h)
 refine W.sr<|WO.pq 2 (jM (.int .i64) a1.qa) ?_;let z3:=fun t=>z0 ((6,l3 none a1.qa)::(7,I6 (a1.qa.length:Int))::t);refine WO.fn (e2:=z3 [(8,.int .i64 0)]) ?_;refine W.block ?_;obtain⟨hl1,h⟩:=qg h;refine W.wk<|W.range (σ:=Unit) a1.qa (fun k1 s=>z3 [(8,I6 (k1:Int))]) (fun r0 k0 s=>QC (Zf a1) r0 k0=some r) (fun s h=>?_) (fun x1 r1 k1 s hx1 hk1 h hN1=>?_) () h
 .rw[QC.eq_1]at h;refine W.sr<|WO.pq 0 (jB (qL (l:=a1.qa)))<|WO.fn (e2:=z3 [(8,I6 ((a1.qa).length:Int)),(9,.bool false)]) ?_;exact W.seq<|W.cF<|W.exit<|W.wk (hK3 () h)
 rw[QC.eq_2]at h;refine W.sr<|WO.pq 0 (jB (qW hk1)) ?_;let z4:=fun t=>z3 ((8,I6 (k1:Int))::t);refine WO.fn (e2:=z4 [(9,.bool true)]) ?_;refine W.seq<|W.cT ?_;let y0:Env:=[(6,l3 none a1.qa),(7,I6 (a1.qa.length:Int)),(8,I6 (k1:Int))];refine W.sw (e:=z0 y0) ?_;refine W.seq<|W.block<|W.sr<|WO.pq 0 (qX (f:=(AV.int .i64)) hx1)<|WO.fn (e2:=z0 ((4,I6 x1)::y0)) ?_;refine W.seq<|W.join (σ:=(Bool)) (fun s=>z4 [(17,.bool s)]) (fun s=>(Vi (QC (Zf a1) r1 (k1+1))) s=some r) (fun v8 h=>?_) (fun hK7=>?_)
 .unfold Vi at h;refine W.ch v8 h (fun h=>?_) (fun h=>?_)
  .refine W.seq<|W.rt (e2:=[(2,.bool false)]) ?_;refine W.wk (e:=[(2,.bool false)]) ?_;cases h;exact W.rr
  refine W.sw (e:=z0 y0) ?_;exact W.rg<|WO.pq 0 (jI (qz hl1 hk1))<|WO.fn (hN1 () h)
 refine W.rg<|WO.bh 3 (fun b=>z0 [(4,I6 x1),(6,l3 none a1.qa),(7,I6 (a1.qa.length:Int)),(8,I6 (k1:Int)),(12,I6 x1),(13,.bool b),(14,.bool b)]) (decide (x1<(-6))) h (fun h=>?_) (fun h=>?_)
 .exact WO.fn (hK7 true h)
 exact WO.fn (hK7 (decide (x1 > 7)) h)
def Zi (v12:Int):La :=
 (some v12)
def Vk (N1:(Int->La)) (v11:Int):La :=
 (N1 v11)
def QG (K4:(Int->La)):LA->Nat->Int->La
 | [],k1,v6=>(K4 v6)
 | x1::r1,k1,v6=>(bif (decide (x1 >= 0)) then (chk (decide (0<=x1)) ((Vk (QG K4 r1 (k1+1))) (iOr .i64 v6 (iShl .i64 1 x1)))) else ((Vk (QG K4 r1 (k1+1))) v6))
def Uc (a1:rf2Atom):La :=
 (chk (lenOk a1.qa) (QG (Zi) a1.qa 0 0))
theorem Ng (a1:rf2Atom) (r:Int) (h:Uc a1=some r):Run Try.prog (.call 62 [.agg [I6 a1.qc,l3 none a1.qa]] (I6 r)):=by
 refine cW Try.func62 rfl (env0:=[(0,.agg [I6 a1.qc,l3 none a1.qa])]) ?_;unfold Uc at h;refine W.seq ?_;let z0:=fun t=>EN ((1,.ptr (.agg [I6 a1.qc,l3 none a1.qa]))::t);refine W.rT [1] [1] (e2:=z0 []) ?_;refine W.seq<|W.rt (e2:=z0 [(3,.int .i64 0)]) ?_;refine W.seq<|W.join (σ:=(Int)) (fun s=>[(3,I6 s)]) (fun s=>(Zi) s=some r) (fun v12 h=>?_) (fun hK4=>?_)
 .unfold Zi at h;refine W.seq<|W.rt (e2:=[(2,I6 v12)]) ?_;refine W.wk (e:=[(2,I6 v12)]) ?_;cases h;exact W.rr
 refine W.sr<|WO.pq 2 (jM (.int .i64) a1.qa) ?_;let z1:=fun t=>EN ((3,.int .i64 0)::(7,l3 none a1.qa)::(8,I6 (a1.qa.length:Int))::t);refine WO.fn (e2:=z1 [(9,.int .i64 0)]) ?_;refine W.block ?_;obtain⟨hl1,h⟩:=qg h;refine W.wk<|W.range (σ:=(Int)) a1.qa (fun k1 s=>[(3,I6 s),(7,l3 none a1.qa),(8,I6 (a1.qa.length:Int)),(9,I6 (k1:Int))]) (fun r0 k0 s=>QG (Zi) r0 k0 s=some r) (fun v6 h=>?_) (fun x1 r1 k1 s hx1 hk1 h hN1=>?_) 0 h
 .rw[QG.eq_1]at h;refine W.sr<|WO.pq 0 (jB (qL (l:=a1.qa)))<|WO.fn (e2:=[(3,I6 v6),(7,l3 none a1.qa),(8,I6 (a1.qa.length:Int)),(9,I6 ((a1.qa).length:Int)),(10,.bool false)]) ?_;exact W.seq<|W.cF<|W.exit<|W.wk (hK4 v6 h)
 obtain⟨v6,rfl⟩:∃ x,x=s:=⟨s,rfl⟩;rw[QG.eq_2]at h;refine W.sr<|WO.pq 0 (jB (qW hk1))<|WO.fn (e2:=[(3,I6 v6),(7,l3 none a1.qa),(8,I6 (a1.qa.length:Int)),(9,I6 (k1:Int)),(10,.bool true)]) ?_;refine W.seq<|W.cT ?_;let y0:Env:=[(7,l3 none a1.qa),(8,I6 (a1.qa.length:Int)),(9,I6 (k1:Int))];refine W.sw (e:=((3,I6 v6)::y0)) ?_;refine W.seq<|W.join (σ:=(Int)) (fun s=>((3,I6 s)::y0)) (fun s=>(Vk (QG (Zi) r1 (k1+1))) s=some r) (fun v11 h=>?_) (fun hK7=>?_)
 .unfold Vk at h;exact W.rg<|WO.pq 0 (jI (qz hl1 hk1))<|WO.fn (hN1 v11 h)
 refine W.block<|W.sr<|WO.pq 0 (qX (f:=(AV.int .i64)) hx1)<|WO.fn (e2:=((3,I6 v6)::(5,I6 x1)::y0)) ?_;refine W.seq<|W.rt (e2:=[(3,I6 v6),(5,I6 x1),(7,l3 none a1.qa),(8,I6 (a1.qa.length:Int)),(9,I6 (k1:Int)),(14,.bool (decide (x1 >= 0)))]) ?_;refine W.ch (decide (x1 >= 0)) h (fun h=>?_) (fun h=>?_)
 .refine W.rg ?_;obtain⟨hc10,h⟩:=qg h;exact WO.pk 2 (if x1<0 then none else some (I6 (iShl .i64 1 x1))) (if_neg (qdr hc10))<|WO.fn (hK7 (iOr .i64 v6 (iShl .i64 1 x1)) h)
 exact W.sw (hK7 v6 h)
def Qd:LD :=
 (some true)
def XO (N4:LD):LD :=
 N4
def YG (N5:LD) (v67:Bool):LD :=
 (bif v67 then (some false) else N5)
def Qc (x4:qq) (K61:LD):Lg->Nat->LD
 | [],k5=>K61
 | x5::r5,k5=>(bif (x4.f_0 == x5.f_0) then ((YG (Qc x4 K61 r5 (k5+1))) (x4.f_1 != x5.f_1)) else ((YG (Qc x4 K61 r5 (k5+1))) false))
def JJ (v58:Lg) (K59:LD):Lg->Nat->LD
 | [],k4=>K59
 | x4::r4,k4=>(chk (lenOk v58) (Qc x4 (XO (JJ v58 K59 r4 (k4+1))) v58 0))
def jC (v58:Lg):LD :=
 (chk (lenOk v58) (JJ v58 (Qd) v58 0))
def Jo (N2:(Lg->LD)) (v53:Lg) (v54:Int) (v55:Int):LD :=
 (bif (v54 != v55) then (some false) else (N2 v53))
def XP (x3:rf3Lit) (v36:Lg) (N3:(Lg->Int->Int->LD)) (v51:Int) (v52:Int):LD :=
 (N3 (v36++[(qq.mk x3.qe.qc (x3.qe.qa.length:Int))]) v51 v52)
def jv (K34:(Lg->Int->Int->LD)):Lp->Nat->Lg->Int->Int->LD
 | [],k3,v36,v37,v38=>(K34 v36 v37 v38)
 | x3::r3,k3,v36,v37,v38=>((UQ x3.qe).bind fun w43=>(bif (!w43) then (some false) else (chk (capOk 16 ((v36++[(qq.mk x3.qe.qc (x3.qe.qa.length:Int))])).length) ((Uc x3.qe).bind fun w48=>(bif (!x3.qu) then ((Uc x3.qe).bind fun w50=>((XP x3 v36 (jv K34 r3 (k3+1))) (iOr .i64 v37 w48) (iOr .i64 v38 w50))) else ((XP x3 v36 (jv K34 r3 (k3+1))) (iOr .i64 v37 w48) v38))))))
def YH (x2:rf3Rule) (v22:Lg) (N2:(Lg->LD)) (v28:Bool):LD :=
 (bif v28 then (some false) else (chk (capOk 16 ((v22++[(qq.mk x2.qf.qc (x2.qf.qa.length:Int))])).length) ((Uc x2.qf).bind fun w33=>(chk (lenOk x2.qd) (jv (Jo N2) x2.qd 0 (v22++[(qq.mk x2.qf.qc (x2.qf.qa.length:Int))]) w33 0)))))
def jm (K20:(Lg->LD)):LN->Nat->Lg->LD
 | [],k2,v22=>(K20 v22)
 | x2::r2,k2,v22=>((UQ x2.qf).bind fun w27=>(bif (!w27) then ((YH x2 v22 (jm K20 r2 (k2+1))) true) else ((YH x2 v22 (jm K20 r2 (k2+1))) (decide ((x2.qd.length:Int) > 3)))))
def Zy (a1:LN) (v19:Lg):LD :=
 (chk (lenOk a1) (jm (jC) a1 0 v19))
def Xa (K9:(Lg->LD)):LG->Nat->Lg->LD
 | [],k1,v11=>(K9 v11)
 | x1::r1,k1,v11=>((YX x1).bind fun w16=>(bif (!w16) then (some false) else (chk (capOk 16 ((v11++[(qq.mk x1.qc (x1.qa.length:Int))])).length) ((Xa K9 r1 (k1+1)) (v11++[(qq.mk x1.qc (x1.qa.length:Int))])))))
def Zz (a1:LN) (a2:LG) (v6:Bool):LD :=
 (bif v6 then (some false) else (chk (lenOk a2) (Xa (Zy a1) a2 0 ([]:Lg))))
def VF (a1:LN) (a2:LG):LD :=
 (bif (decide ((a1.length:Int) > 10)) then ((Zz a1 a2) true) else ((Zz a1 a2) (decide ((a2.length:Int) > 20))))
theorem qdk (a1:LN) (a2:LG) (r:Bool) (h:VF a1 a2=some r):Run Try.prog (.call 20 [l94 none a1,l41 none a2] (.bool r)):=by
 refine cW Try.func20 rfl (env0:=[(0,l94 none a1),(1,l41 none a2)]) ?_;unfold VF at h;refine W.seq ?_;let z0:=fun t=>EN ((0,l94 none a1)::t);let z1:=fun t=>z0 ((1,l41 none a2)::t);refine W.rt (e2:=z1 []) ?_;refine W.seq<|W.seq<|W.join (σ:=(Bool)) (fun s=>z1 [(25,.bool s)]) (fun s=>(Zz a1 a2) s=some r) (fun v6 h=>?_) (fun hK5=>?_)
 .unfold Zz at h;refine W.ch v6 h (fun h=>?_) (fun h=>?_)
  .refine W.seq<|W.rt (e2:=[(4,.bool false)]) ?_;refine W.wk (e:=[(4,.bool false)]) ?_;cases h;exact W.rr
  refine W.sw (e:=z1 []) ?_;refine W.seq<|W.rt (e2:=z1 [(5,.nils)]) ?_;refine W.seq<|W.join (σ:=(Lg)) (fun s=>z0 [(5,l112 (some 10500) s)]) (fun s=>(Zy a1) s=some r) (fun v19 h=>?_) (fun hK9=>?_)
  .unfold Zy at h;refine W.seq<|W.join (σ:=(Lg)) (fun s=>[(5,l112 (some 10500) s)]) (fun s=>(jC) s=some r) (fun v58 h=>?_) (fun hK20=>?_)
   .unfold jC at h;refine W.seq<|W.join (σ:=Unit) (fun s=>[]) (fun s=>(Qd)=some r) (fun s h=>?_) (fun hK59=>?_)
    .unfold Qd at h;refine W.seq<|W.rt (e2:=[(4,.bool true)]) ?_;refine W.wk (e:=[(4,.bool true)]) ?_;cases h;exact W.rr
    refine W.sr<|WO.pq 1 (jM Yk v58) ?_;let z2:=fun t=>EN ((5,l112 (some 10500) v58)::t);let z3:=fun t=>z2 ((115,l112 (some 10500) v58)::(116,I6 (v58.length:Int))::t);refine WO.fn (e2:=z3 [(117,.int .i64 0)]) ?_;refine W.block ?_;obtain⟨hl4,h⟩:=qg h;refine W.wk<|W.range (σ:=Unit) v58 (fun k4 s=>z3 [(117,I6 (k4:Int))]) (fun r0 k0 s=>JJ v58 (Qd) r0 k0=some r) (fun s h=>?_) (fun x4 r4 k4 s hx4 hk4 h hN4=>?_) () h
    .rw[JJ.eq_1]at h;refine W.sr<|WO.pq 0 (jB (qL (l:=v58)))<|WO.fn (e2:=z3 [(117,I6 ((v58).length:Int)),(118,.bool false)]) ?_;exact W.seq<|W.cF<|W.exit<|W.wk (hK59 () h)
    rw[JJ.eq_2]at h;refine W.sr<|WO.pq 0 (jB (qW hk4))<|WO.fn (e2:=z3 [(117,I6 (k4:Int)),(118,.bool true)]) ?_;refine W.seq<|W.cT ?_;let y0:Env:=[(115,l112 (some 10500) v58),(116,I6 (v58.length:Int)),(117,I6 (k4:Int))];refine W.sw (e:=z2 y0) ?_;refine W.seq<|W.join (σ:=Unit) (fun s=>z2 y0) (fun s=>(XO (JJ v58 (Qd) r4 (k4+1)))=some r) (fun s h=>?_) (fun hK61=>?_)
    .unfold XO at h;exact W.rg<|WO.pq 0 (jI (qz hl4 hk4))<|WO.fn (hN4 () h)
    refine W.block<|W.sr<|WO.pq 0 (qX (f:=Yk) hx4) ?_;let z4:=fun t=>z2 ((15,.ptr (.agg [I6 x4.f_0,I6 x4.f_1]))::t);refine WO.fi [5,15,115,116,117] [15] (e2:=z4 y0) ?_;refine W.sr<|WO.pq 1 (jM Yk v58) ?_;let z5:=fun t=>z4 ((115,l112 (some 10500) v58)::(116,I6 (v58.length:Int))::(117,I6 (k4:Int))::(121,l112 (some 10500) v58)::(122,I6 (v58.length:Int))::t);refine WO.fn (e2:=z5 [(123,.int .i64 0)]) ?_;refine W.block ?_;obtain⟨hl5,h⟩:=qg h;refine W.wk<|W.range (σ:=Unit) v58 (fun k5 s=>z5 [(123,I6 (k5:Int))]) (fun r0 k0 s=>Qc x4 (XO (JJ v58 (Qd) r4 (k4+1))) r0 k0=some r) (fun s h=>?_) (fun x5 r5 k5 s hx5 hk5 h hN5=>?_) () h
    .rw[Qc.eq_1]at h;refine W.sr<|WO.pq 0 (jB (qL (l:=v58)))<|WO.fn (e2:=z5 [(123,I6 ((v58).length:Int)),(124,.bool false)]) ?_;exact W.seq<|W.cF<|W.exit<|W.wk (hK61 () h)
    rw[Qc.eq_2]at h;refine W.sr<|WO.pq 0 (jB (qW hk5)) ?_;let z6:=fun t=>z5 ((123,I6 (k5:Int))::t);refine WO.fn (e2:=z6 [(124,.bool true)]) ?_;refine W.seq<|W.cT ?_;let y1:Env:=[(115,l112 (some 10500) v58),(116,I6 (v58.length:Int)),(117,I6 (k4:Int)),(121,l112 (some 10500) v58),(122,I6 (v58.length:Int)),(123,I6 (k5:Int))];refine W.sw (e:=z4 y1) ?_;refine W.seq<|W.block<|W.sr<|WO.pq 0 (qX (f:=Yk) hx5) ?_;let z7:=fun t=>z4 ((17,.ptr (.agg [I6 x5.f_0,I6 x5.f_1]))::t);refine WO.fi [5,15,17,115,116,117,121,122,123] [17] (e2:=z7 y1) ?_;refine W.seq<|W.join (σ:=(Bool)) (fun s=>z6 [(138,.bool s)]) (fun s=>(YG (Qc x4 (XO (JJ v58 (Qd) r4 (k4+1))) r5 (k5+1))) s=some r) (fun v67 h=>?_) (fun hK66=>?_)
    .unfold YG at h;refine W.ch v67 h (fun h=>?_) (fun h=>?_)
     .refine W.seq<|W.rt (e2:=[(4,.bool false)]) ?_;refine W.wk (e:=[(4,.bool false)]) ?_;cases h;exact W.rr
     refine W.sw (e:=z4 y1) ?_;exact W.rg<|WO.pq 0 (jI (qz hl5 hk5))<|WO.fn (hN5 () h)
    refine W.rg<|WO.bh 6 (fun b=>z7 [(115,l112 (some 10500) v58),(116,I6 (v58.length:Int)),(117,I6 (k4:Int)),(121,l112 (some 10500) v58),(122,I6 (v58.length:Int)),(123,I6 (k5:Int)),(127,.ptr (I6 x4.f_0)),(128,I6 x4.f_0),(129,.ptr (I6 x5.f_0)),(130,I6 x5.f_0),(131,.bool b),(132,.bool b)]) (x4.f_0 == x5.f_0) h (fun h=>?_) (fun h=>?_)
    .exact WO.fn (hK66 (x4.f_1 != x5.f_1) h)
    exact WO.fn (hK66 false h)
   refine W.sr<|WO.pq 1 (jM Jk a1) ?_;let z8:=fun t=>EN ((5,l112 (some 10500) v19)::(45,l94 none a1)::(46,I6 (a1.length:Int))::t);refine WO.fn (e2:=z8 [(47,.int .i64 0)]) ?_;refine W.block ?_;obtain⟨hl2,h⟩:=qg h;refine W.wk<|W.range (σ:=(Lg)) a1 (fun k2 s=>[(5,l112 (some 10500) s),(45,l94 none a1),(46,I6 (a1.length:Int)),(47,I6 (k2:Int))]) (fun r0 k0 s=>jm (jC) r0 k0 s=some r) (fun v22 h=>?_) (fun x2 r2 k2 s hx2 hk2 h hN2=>?_) v19 h
   .rw[jm.eq_1]at h;refine W.sr<|WO.pq 0 (jB (qL (l:=a1)))<|WO.fn (e2:=[(5,l112 (some 10500) v22),(45,l94 none a1),(46,I6 (a1.length:Int)),(47,I6 ((a1).length:Int)),(48,.bool false)]) ?_;exact W.seq<|W.cF<|W.exit<|W.wk (hK20 v22 h)
   obtain⟨v22,rfl⟩:∃ x,x=s:=⟨s,rfl⟩;rw[jm.eq_2]at h;refine W.sr<|WO.pq 0 (jB (qW hk2)) ?_;let z9:=fun t=>EN ((5,l112 (some 10500) v22)::t);refine WO.fn (e2:=z9 [(45,l94 none a1),(46,I6 (a1.length:Int)),(47,I6 (k2:Int)),(48,.bool true)]) ?_;refine W.seq<|W.cT ?_;let y2:Env:=[(45,l94 none a1),(46,I6 (a1.length:Int)),(47,I6 (k2:Int))];refine W.sw (e:=z9 y2) ?_;refine W.seq<|W.block<|W.sr<|WO.pq 0 (qX (f:=Jk) hx2) ?_;let y3:Env:=(9,.ptr (.agg [I6 x2.qf.qc,l3 none x2.qf.qa,l96 none x2.qd]))::y2;refine WO.fi [5,9,45,46,47] [9] (e2:=z9 y3) ?_;refine W.seq<|W.seq ?_;let z10:=fun t=>z9 ((9,.ptr (.agg [I6 x2.qf.qc,l3 none x2.qf.qa,l96 none x2.qd]))::(45,l94 none a1)::(46,I6 (a1.length:Int))::(47,I6 (k2:Int))::t);refine W.join (σ:=(Bool)) (fun s=>z10 [(60,.bool s)]) (fun s=>(YH x2 v22 (jm (jC) r2 (k2+1))) s=some r) (fun v28 h=>?_) (fun hK26=>?_)
   .unfold YH at h;refine W.ch v28 h (fun h=>?_) (fun h=>?_)
    .refine W.seq<|W.rt (e2:=[(4,.bool false)]) ?_;refine W.wk (e:=[(4,.bool false)]) ?_;cases h;exact W.rr
    refine W.sw (e:=z9 y3) ?_;refine W.sr<|WO.pq 7 (jM (.int .i64) x2.qf.qa) ?_;obtain⟨hc31,h⟩:=qg h;refine WO.ak 2 71 112 2 Yk v22 [(qq.mk x2.qf.qc (x2.qf.qa.length:Int))] hc31 ?_;let z11:=fun t=>EN ((5,l112 (some 71) (v22++[(qq.mk x2.qf.qc (x2.qf.qa.length:Int))]))::t);refine WO.fn (e2:=z11 y3) ?_;refine W.sr ?_;obtain⟨w33,hw33,h⟩:=qb h;refine WO.ck 2 (F:=62) (l:=[.agg [I6 x2.qf.qc,l3 none x2.qf.qa]]) (C:=[]) (r:=I6 w33) (Ng x2.qf w33 hw33)<|WO.fn (e2:=z11 ((9,.ptr (.agg [I6 x2.qf.qc,l3 none x2.qf.qa,l96 none x2.qd]))::(10,I6 w33)::(11,.int .i64 0)::y2)) ?_;refine W.seq<|W.join (σ:=(Lg×Int×Int)) (fun s=>((5,l112 (some 10500) s.1)::(10,I6 s.2.1)::(11,I6 s.2.2)::y2)) (fun s=>(Jo (jm (jC) r2 (k2+1))) s.1 s.2.1 s.2.2=some r) (fun s h=>?_) (fun hK34=>?_)
    .obtain⟨v53,v54,v55⟩:=s;have h:(Jo (jm (jC) r2 (k2+1))) v53 v54 v55=some r:=h;unfold Jo at h;refine W.seq ?_;let z12:=fun t=>EN ((5,l112 (some 10500) v53)::(45,l94 none a1)::(46,I6 (a1.length:Int))::t);refine W.rt (e2:=z12 [(47,I6 (k2:Int)),(113,.bool (v54 != v55))]) ?_;refine W.ch (v54 != v55) h (fun h=>?_) (fun h=>?_)
     .refine W.seq<|W.rt (e2:=[(4,.bool false)]) ?_;refine W.wk (e:=[(4,.bool false)]) ?_;cases h;exact W.rr
     refine W.sw (e:=((5,l112 (some 10500) v53)::y2)) ?_;exact W.rg<|WO.pq 0 (jI (qz hl2 hk2))<|WO.fn (hN2 v53 h)
    refine W.sr<|WO.pq 2 (jM JL x2.qd)<|WO.fn (e2:=z11 [(10,I6 w33),(11,.int .i64 0),(45,l94 none a1),(46,I6 (a1.length:Int)),(47,I6 (k2:Int)),(76,l96 none x2.qd),(77,I6 (x2.qd.length:Int)),(78,.int .i64 0)]) ?_;refine W.block ?_;obtain⟨hl3,h⟩:=qg h;refine W.weak [5,10,11,45,46,47,76,77,78] [] [] [(71,some 10500)] (env':=[(5,l112 (some 10500) (v22++[(qq.mk x2.qf.qc (x2.qf.qa.length:Int))])),(10,I6 w33),(11,.int .i64 0),(45,l94 none a1),(46,I6 (a1.length:Int)),(47,I6 (k2:Int)),(76,l96 none x2.qd),(77,I6 (x2.qd.length:Int)),(78,I6 ((0:Nat):Int))]) kR<|W.range (σ:=(Lg×Int×Int)) x2.qd (fun k3 s=>[(5,l112 (some 10500) s.1),(10,I6 s.2.1),(11,I6 s.2.2),(45,l94 none a1),(46,I6 (a1.length:Int)),(47,I6 (k2:Int)),(76,l96 none x2.qd),(77,I6 (x2.qd.length:Int)),(78,I6 (k3:Int))]) (fun r0 k0 s=>jv (Jo (jm (jC) r2 (k2+1))) r0 k0 s.1 s.2.1 s.2.2=some r) (fun s h=>?_) (fun x3 r3 k3 s hx3 hk3 h hN3=>?_) ((v22++[(qq.mk x2.qf.qc (x2.qf.qa.length:Int))]),w33,0) h
    .obtain⟨v36,v37,v38⟩:=s;have h:jv (Jo (jm (jC) r2 (k2+1))) [] (x2.qd).length v36 v37 v38=some r:=h;rw[jv.eq_1]at h;refine W.sr<|WO.pq 0 (jB (qL (l:=x2.qd))) ?_;let z13:=fun t=>EN ((5,l112 (some 10500) v36)::(10,I6 v37)::(11,I6 v38)::t);refine WO.fn (e2:=z13 [(45,l94 none a1),(46,I6 (a1.length:Int)),(47,I6 (k2:Int)),(76,l96 none x2.qd),(77,I6 (x2.qd.length:Int)),(78,I6 ((x2.qd).length:Int)),(79,.bool false)]) ?_;exact W.seq<|W.cF<|W.exit<|W.wk (hK34 (v36,v37,v38) h)
    obtain⟨v36,v37,v38⟩:=s;have h:jv (Jo (jm (jC) r2 (k2+1))) (x3::r3) k3 v36 v37 v38=some r:=h;rw[jv.eq_2]at h;refine W.sr<|WO.pq 0 (jB (qW hk3)) ?_;let z14:=fun t=>EN ((5,l112 (some 10500) v36)::(10,I6 v37)::t);refine WO.fn (e2:=z14 [(11,I6 v38),(45,l94 none a1),(46,I6 (a1.length:Int)),(47,I6 (k2:Int)),(76,l96 none x2.qd),(77,I6 (x2.qd.length:Int)),(78,I6 (k3:Int)),(79,.bool true)]) ?_;refine W.seq<|W.cT ?_;let y4:Env:=[(45,l94 none a1),(46,I6 (a1.length:Int)),(47,I6 (k2:Int)),(76,l96 none x2.qd),(77,I6 (x2.qd.length:Int)),(78,I6 (k3:Int))];refine W.sw (e:=z14 ((11,I6 v38)::y4)) ?_;refine W.seq ?_;let z15:=fun t=>EN ((5,l112 (some 96) (v36++[(qq.mk x3.qe.qc (x3.qe.qa.length:Int))]))::t);refine W.join (σ:=(Int×Int)) (fun s=>z15 ((10,I6 s.1)::(11,I6 s.2)::y4)) (fun s=>(XP x3 v36 (jv (Jo (jm (jC) r2 (k2+1))) r3 (k3+1))) s.1 s.2=some r) (fun s h=>?_) (fun hK39=>?_)
    .obtain⟨v51,v52⟩:=s;have h:(XP x3 v36 (jv (Jo (jm (jC) r2 (k2+1))) r3 (k3+1))) v51 v52=some r:=h;unfold XP at h;refine W.rg<|WO.pq 0 (jI (qz hl3 hk3))<|WO.fin [5,10,11,45,46,47,76,77,78] [] [] [(96,some 10500)] (e2:=[(5,l112 (some 10500) (v36++[(qq.mk x3.qe.qc (x3.qe.qa.length:Int))])),(10,I6 v51),(11,I6 v52),(45,l94 none a1),(46,I6 (a1.length:Int)),(47,I6 (k2:Int)),(76,l96 none x2.qd),(77,I6 (x2.qd.length:Int)),(78,I6 ((k3+1:Nat):Int))]) kR (fun _ h=>h) ?_;exact hN3 ((v36++[(qq.mk x3.qe.qc (x3.qe.qa.length:Int))]),v51,v52) h
    refine W.block<|W.sr<|WO.pq 0 (qX (f:=JL) hx3) ?_;let y5:Env:=(11,I6 v38)::(13,.ptr (.agg [.bool x3.qu,I6 x3.qe.qc,l3 none x3.qe.qa]))::y4;refine WO.fi [5,10,11,13,45,46,47,76,77,78] [13] (e2:=z14 y5) ?_;refine W.seq<|W.sr ?_;obtain⟨w43,hw43,h⟩:=qb h;refine WO.ck 2 (F:=61) (l:=[.agg [I6 x3.qe.qc,l3 none x3.qe.qa]]) (C:=[]) (r:=.bool w43) (qaa x3.qe w43 hw43)<|WO.fn (e2:=z14 [(11,I6 v38),(13,.ptr (.agg [.bool x3.qu,I6 x3.qe.qc,l3 none x3.qe.qa])),(45,l94 none a1),(46,I6 (a1.length:Int)),(47,I6 (k2:Int)),(76,l96 none x2.qd),(77,I6 (x2.qd.length:Int)),(78,I6 (k3:Int)),(85,.bool (!w43))]) ?_;refine W.ch (!w43) h (fun h=>?_) (fun h=>?_)
    .refine W.seq<|W.rt (e2:=[(4,.bool false)]) ?_;refine W.wk (e:=[(4,.bool false)]) ?_;cases h;exact W.rr
    refine W.sw (e:=z14 y5) ?_;refine W.sr<|WO.pq 7 (jM (.int .i64) x3.qe.qa) ?_;obtain⟨hc46,h⟩:=qg h;refine WO.ak 2 96 112 2 Yk v36 [(qq.mk x3.qe.qc (x3.qe.qa.length:Int))] hc46<|WO.fn (e2:=z15 ((10,I6 v37)::y5)) ?_;refine W.sr ?_;obtain⟨w48,hw48,h⟩:=qb h;refine WO.ck 3 (F:=62) (l:=[.agg [I6 x3.qe.qc,l3 none x3.qe.qa]]) (C:=[]) (r:=I6 w48) (Ng x3.qe w48 hw48) ?_;let z16:=fun t=>z15 ((10,I6 (iOr .i64 v37 w48))::t);refine WO.fn (e2:=z16 y5) ?_;refine W.seq<|W.rt (e2:=z16 [(11,I6 v38),(13,.ptr (.agg [.bool x3.qu,I6 x3.qe.qc,l3 none x3.qe.qa])),(45,l94 none a1),(46,I6 (a1.length:Int)),(47,I6 (k2:Int)),(76,l96 none x2.qd),(77,I6 (x2.qd.length:Int)),(78,I6 (k3:Int)),(104,.bool (!x3.qu))]) ?_;refine W.ch (!x3.qu) h (fun h=>?_) (fun h=>?_)
    .refine W.rg ?_;obtain⟨w50,hw50,h⟩:=qb h;exact WO.ck 3 (F:=62) (l:=[.agg [I6 x3.qe.qc,l3 none x3.qe.qa]]) (C:=[]) (r:=I6 w50) (Ng x3.qe w50 hw50)<|WO.fn (hK39 ((iOr .i64 v37 w48),(iOr .i64 v38 w50)) h)
    exact W.sw (hK39 ((iOr .i64 v37 w48),v38) h)
   refine W.rg ?_;obtain⟨w27,hw27,h⟩:=qb h;refine WO.ck 2 (F:=61) (l:=[.agg [I6 x2.qf.qc,l3 none x2.qf.qa]]) (C:=[]) (r:=.bool w27) (qaa x2.qf w27 hw27)<|WO.bh 2 (fun b=>z10 [(51,.ptr (.agg [I6 x2.qf.qc,l3 none x2.qf.qa])),(52,.agg [I6 x2.qf.qc,l3 none x2.qf.qa]),(53,.bool w27),(54,.bool b),(55,.bool b)]) (!w27) h (fun h=>?_) (fun h=>?_)
   .exact WO.fn (hK26 true h)
   exact WO.pq 2 (jM JL x2.qd)<|WO.fn (hK26 (decide ((x2.qd.length:Int) > 3)) h)
  refine W.sr<|WO.pq 1 (jM qP a2)<|WO.fn (e2:=z0 [(5,.nils),(26,l41 none a2),(27,I6 (a2.length:Int)),(28,.int .i64 0)]) ?_;refine W.block ?_;obtain⟨hl1,h⟩:=qg h;refine W.weak [0,5,26,27,28] [] [(5,0,112,2,10500)] [] (env':=z0 [(5,l112 (some 10500) ([]:Lg)),(26,l41 none a2),(27,I6 (a2.length:Int)),(28,I6 ((0:Nat):Int))]) kR<|W.range (σ:=(Lg)) a2 (fun k1 s=>z0 [(5,l112 (some 10500) s),(26,l41 none a2),(27,I6 (a2.length:Int)),(28,I6 (k1:Int))]) (fun r0 k0 s=>Xa (Zy a1) r0 k0 s=some r) (fun v11 h=>?_) (fun x1 r1 k1 s hx1 hk1 h hN1=>?_) ([]:Lg) h
  .rw[Xa.eq_1]at h;refine W.sr<|WO.pq 0 (jB (qL (l:=a2)))<|WO.fn (e2:=z0 [(5,l112 (some 10500) v11),(26,l41 none a2),(27,I6 (a2.length:Int)),(28,I6 ((a2).length:Int)),(29,.bool false)]) ?_;exact W.seq<|W.cF<|W.exit<|W.wk (hK9 v11 h)
  obtain⟨v11,rfl⟩:∃ x,x=s:=⟨s,rfl⟩;rw[Xa.eq_2]at h;refine W.sr<|WO.pq 0 (jB (qW hk1)) ?_;let z17:=fun t=>z0 ((5,l112 (some 10500) v11)::t);refine WO.fn (e2:=z17 [(26,l41 none a2),(27,I6 (a2.length:Int)),(28,I6 (k1:Int)),(29,.bool true)]) ?_;refine W.seq<|W.cT ?_;let y6:Env:=[(26,l41 none a2),(27,I6 (a2.length:Int)),(28,I6 (k1:Int))];refine W.sw (e:=z17 y6) ?_;refine W.seq<|W.block<|W.sr<|WO.pq 0 (qX (f:=qP) hx1) ?_;let y7:Env:=(5,l112 (some 10500) v11)::(7,.ptr (.agg [I6 x1.qc,l3 none x1.qa]))::y6;refine WO.fi [0,5,7,26,27,28] [7] (e2:=z0 y7) ?_;refine W.seq<|W.sr ?_;obtain⟨w16,hw16,h⟩:=qb h;refine WO.ck 1 (F:=33) (l:=[.agg [I6 x1.qc,l3 none x1.qa]]) (C:=[]) (r:=.bool w16) (VZ x1 w16 hw16)<|WO.fn (e2:=z17 [(7,.ptr (.agg [I6 x1.qc,l3 none x1.qa])),(26,l41 none a2),(27,I6 (a2.length:Int)),(28,I6 (k1:Int)),(34,.bool (!w16))]) ?_;refine W.ch (!w16) h (fun h=>?_) (fun h=>?_)
  .refine W.seq<|W.rt (e2:=[(4,.bool false)]) ?_;refine W.wk (e:=[(4,.bool false)]) ?_;cases h;exact W.rr
  refine W.sw (e:=z0 y7) ?_;refine W.rg<|WO.pq 5 (jM (.int .i64) x1.qa) ?_;obtain⟨hc18,h⟩:=qg h;refine WO.ak 2 43 112 2 Yk v11 [(qq.mk x1.qc (x1.qa.length:Int))] hc18<|WO.fn (e2:=z0 ((5,l112 (some 43) (v11++[(qq.mk x1.qc (x1.qa.length:Int))]))::y6)) ?_;refine W.rg<|WO.pq 0 (jI (qz hl1 hk1))<|WO.fin [0,5,26,27,28] [] [] [(43,some 10500)] (e2:=z0 [(5,l112 (some 10500) (v11++[(qq.mk x1.qc (x1.qa.length:Int))])),(26,l41 none a2),(27,I6 (a2.length:Int)),(28,I6 ((k1+1:Nat):Int))]) kR (fun _ h=>h) ?_;exact hN1 (v11++[(qq.mk x1.qc (x1.qa.length:Int))]) h
 refine W.rg<|WO.pq 1 (jM Jk a1)<|WO.bh 2 (fun b=>z1 [(18,l94 none a1),(19,I6 (a1.length:Int)),(20,.bool b),(21,.bool b)]) (decide ((a1.length:Int) > 10)) h (fun h=>?_) (fun h=>?_)
 .exact WO.fn (hK5 true h)
 exact WO.pq 1 (jM qP a2)<|WO.fn (hK5 (decide ((a2.length:Int) > 20)) h)
def Yf (v30:LA):Lc :=
 (some ((snap 0 (A0 6) v30),0))
def QD (v30:LA) (K31:Lc):LQ->Nat->Lc
 | [],k4=>K31
 | x4::r4,k4=>(chk (decide ((0:Int)<=(k4:Int)/\(k4:Int)<(((A0 6):Nat):Int))) ((v30[(0+A0 (k4:Int))]?).bind fun e36=>(bif (decide (e36 > 5)) then (some ((snap 0 (([]:LA).length) ([]:LA)),8)) else (QD v30 K31 r4 (k4+1)))))
def JA (v30:LA):Lc :=
 (chk (lenOk (A3 (A0 (((A0 6):Nat):Int)))) (QD v30 (Yf v30) (A3 (A0 (((A0 6):Nat):Int))) 0))
def QE (N1:(LA->Lc)) (v29:LA):Lc :=
 (N1 v29)
def Xs (N2:(LA->Lc)) (v28:LA):Lc :=
 (N2 v28)
def Xr (x2:rf3Rule) (v14:LA) (N3:(LA->Lc)) (v22:Int):Lc :=
 (chk (decide ((0:Int)<=x2.qf.qc/\x2.qf.qc<(((A0 6):Nat):Int))) ((v14[(0+A0 x2.qf.qc)]?).bind fun e24=>(chk (decide ((0:Int)<=x2.qf.qc/\x2.qf.qc<(((A0 6):Nat):Int))) ((upd v14 (0+A0 x2.qf.qc) (if v22 > e24 then v22 else e24)).bind fun u26=>(N3 u26)))))
def Jp (x2:rf3Rule) (K11:(LA->Lc)):Lp->Nat->LA->Lc
 | [],k3,v14=>(K11 v14)
 | x3::r3,k3,v14=>(chk (decide ((0:Int)<=x3.qe.qc/\x3.qe.qc<(((A0 6):Nat):Int))) ((v14[(0+A0 x3.qe.qc)]?).bind fun e19=>(bif x3.qu then ((Xr x2 v14 (Jp x2 K11 r3 (k3+1))) (A2 .i64 (e19+1))) else ((Xr x2 v14 (Jp x2 K11 r3 (k3+1))) e19))))
def Jq (K8:(LA->Lc)):LN->Nat->LA->Lc
 | [],k2,v10=>(K8 v10)
 | x2::r2,k2,v10=>(chk (lenOk x2.qd) (Jp x2 (Xs (Jq K8 r2 (k2+1))) x2.qd 0 v10))
def jL (a1:LN) (K5:(LA->Lc)):LQ->Nat->LA->Lc
 | [],k1,v7=>(K5 v7)
 | x1::r1,k1,v7=>(chk (lenOk a1) (Jq (QE (jL a1 K5 r1 (k1+1))) a1 0 v7))
def YW (a1:LN):Lc :=
 (chk (mkOk 8 6) (chk (lenOk (A3 (A0 60))) (jL a1 (JA) (A3 (A0 60)) 0 (A4 (A0 6) 0))))
theorem qcj (a1:LN) (r:(LA×Int)) (h:YW a1=some r):Run Try.prog (.call 40 [l94 none a1] (.tup [l3 none r.1,I6 r.2])):=by
 refine cW Try.func40 rfl (env0:=[(0,l94 none a1)]) ?_;unfold YW at h;refine W.sr<|WO.sl 1 ?_;let y0:Env:=[(1200002,.obj 3 1 (M6 ([]:LA)))];let z0:=fun t=>EN ((0,l94 none a1)::t);refine WO.mv [.nil 2 3 1 1200002] (env':=z0 ((2,.sb 1200002 3 1 0 (([]:LA).length))::y0)) kR<|WO.fn (e2:=z0 []) ?_;refine W.sr ?_;obtain⟨hc4,h⟩:=qg h;let y1:Env:=[(1000012,.obj 3 1 (M6 (A4 (A0 6) 0)))];refine WO.makeK 0 (d:=12) (e:=3) (s:=1) (bytes:=8) (m:=6) (z:=(.int .i64 0)) (zs:=(M6 (A4 (A0 6) 0))) (env1:=[(0,l94 none a1),(12,.sb 1000012 3 1 0 (A0 6))]) kR hc4 (by first | exact qbP | exact (qbP (f:=(AV.int .i64)))) (e1:=z0 ((12,.sb 1000012 3 1 0 (A0 6))::y1)) kR ?_;let z1:=fun t=>z0 ((4,.sb 1000012 3 1 0 (A0 6))::t);refine WO.fn (e2:=z1 y1) ?_;refine W.seq ?_;let z2:=fun t=>EN ((4,.sb 1000012 3 1 0 (A0 6))::t);refine W.join (σ:=(LA)) (fun s=>z2 [(1000012,.obj 3 1 (M6 s))]) (fun s=>(JA) s=some r) (fun v30 h=>?_) (fun hK5=>?_)
 .unfold JA at h;refine W.seq ?_;let y2:Env:=[(1000012,.obj 3 1 (M6 v30))];refine W.join (σ:=Unit) (fun s=>z2 y2) (fun s=>(Yf v30)=some r) (fun s h=>?_) (fun hK31=>?_)
  .unfold Yf at h;refine W.seq<|W.rt (e2:=((2,.sb 1000012 3 1 0 (A0 6))::(3,.int .i64 0)::y2)) ?_;let z3:=fun t=>EN ((2,l3 none (snap 0 (A0 6) v30))::(3,.int .i64 0)::t);refine W.mv [.frz 1000012] (env':=z3 []) ((by kernel_rfl:mvAll [(2,.sb 1000012 3 1 0 (A0 6)),(3,.int .i64 0),(1000012,.obj 3 1 (M6 v30))] [.frz 1000012]=[(2,.lst 3 1 none (snapA 0 (A0 6) (M6 v30))),(3,.int .i64 0)]).trans (by first | (simp only[YC,XK,YB];done) | (simp only[YC,XK,YB];kernel_rfl))) ?_;refine W.wk (e:=z3 []) ?_;cases h;exact W.rr
  refine W.seq ?_;let z4:=fun t=>z2 ((54,.sb 1000012 3 1 0 (A0 6))::(55,I6 (((A0 6):Nat):Int))::t);refine W.rt (e2:=z4 ((56,.int .i64 0)::y2)) ?_;refine W.block ?_;obtain⟨hl4,h⟩:=qg h;refine W.wk<|W.range (σ:=Unit) (A3 (A0 (((A0 6):Nat):Int))) (fun k4 s=>z4 ((56,I6 (k4:Int))::y2)) (fun r0 k0 s=>QD v30 (Yf v30) r0 k0=some r) (fun s h=>?_) (fun x4 r4 k4 s hx4 hk4 h hN4=>?_) () h
  .rw[QD.eq_1]at h;refine W.sr<|WO.pq 0 (jB (VJ (n:=(((A0 6):Nat):Int))))<|WO.fn (e2:=z4 ((56,I6 (((A3 (A0 (((A0 6):Nat):Int)))).length:Int))::(57,.bool false)::y2)) ?_;exact W.seq<|W.cF<|W.exit<|W.wk (hK31 () h)
  rw[QD.eq_2]at h;refine W.sr<|WO.pq 0 (jB (UV hk4))<|WO.fn (e2:=z4 ((56,I6 (k4:Int))::(57,.bool true)::y2)) ?_;refine W.seq<|W.cT ?_;let y3:Env:=(54,.sb 1000012 3 1 0 (A0 6))::(55,I6 (((A0 6):Nat):Int))::(56,I6 (k4:Int))::y2;refine W.sw (e:=z2 y3) ?_;refine W.seq<|W.block<|W.sr ?_;obtain⟨hc35,h⟩:=qg h;refine WO.pi 0 (v:=.pe 1000012 1 (0+A0 (k4:Int)) 0) hc35 ?_;obtain⟨e36,he36,h⟩:=qb h;refine WO.pl 0 (v:=I6 e36) (AV.int .i64) 3 0 he36<|WO.fn (e2:=z2 ((11,I6 e36)::y3)) ?_;refine W.seq<|W.rt (e2:=z4 ((56,I6 (k4:Int))::(61,.bool (decide (e36 > 5)))::y2)) ?_;refine W.ch (decide (e36 > 5)) h (fun h=>?_) (fun h=>?_)
  .refine W.sr<|WO.sl 1 ?_;let z5:=fun t=>EN ((2,.sb 1200002 3 1 0 (([]:LA).length))::t);refine WO.mv [.nil 2 3 1 1200002] (env':=z5 ((4,.sb 1000012 3 1 0 (A0 6))::(54,.sb 1000012 3 1 0 (A0 6))::(55,I6 (((A0 6):Nat):Int))::(56,I6 (k4:Int))::(61,.bool (decide (e36 > 5)))::(1000012,.obj 3 1 (M6 v30))::y0)) kR<|WO.fn (e2:=z5 ((3,.int .i64 8)::y0)) ?_;let z6:=fun t=>EN ((2,l3 none (snap 0 (([]:LA).length) ([]:LA)))::(3,.int .i64 8)::t);refine W.mv [.frz 1200002] (env':=z6 []) ((by kernel_rfl:mvAll [(2,.sb 1200002 3 1 0 (([]:LA).length)),(3,.int .i64 8),(1200002,.obj 3 1 (M6 ([]:LA)))] [.frz 1200002]=[(2,.lst 3 1 none (snapA 0 (([]:LA).length) (M6 ([]:LA)))),(3,.int .i64 8)]).trans (by first | (simp only[YC,XK,YB];done) | (simp only[YC,XK,YB];kernel_rfl))) ?_;refine W.wk (e:=z6 []) ?_;cases h;exact W.rr
  refine W.sw (e:=z2 y3) ?_;exact W.rg<|WO.pq 0 (jI (qz hl4 hk4))<|WO.fn (hN4 () h)
 refine W.seq<|W.rt (e2:=z1 ((13,.int .i64 0)::y1)) ?_;refine W.block ?_;obtain⟨hl1,h⟩:=qg h;refine W.wk<|W.range (σ:=(LA)) (A3 (A0 60)) (fun k1 s=>z1 [(13,I6 (k1:Int)),(1000012,.obj 3 1 (M6 s))]) (fun r0 k0 s=>jL a1 (JA) r0 k0 s=some r) (fun v7 h=>?_) (fun x1 r1 k1 s hx1 hk1 h hN1=>?_) (A4 (A0 6) 0) h
 .rw[jL.eq_1]at h;refine W.sr<|WO.pq 0 (jB (VJ (n:=60)))<|WO.fn (e2:=z1 [(13,I6 (((A3 (A0 60))).length:Int)),(14,.bool false),(1000012,.obj 3 1 (M6 v7))]) ?_;exact W.seq<|W.cF<|W.exit<|W.wk (hK5 v7 h)
 obtain⟨v7,rfl⟩:∃ x,x=s:=⟨s,rfl⟩;rw[jL.eq_2]at h;refine W.sr<|WO.pq 0 (jB (UV hk1)) ?_;let y4:Env:=[(1000012,.obj 3 1 (M6 v7))];let z7:=fun t=>z1 ((13,I6 (k1:Int))::t);refine WO.fn (e2:=z7 ((14,.bool true)::y4)) ?_;refine W.seq<|W.cT<|W.sw (e:=z7 y4) ?_;refine W.seq<|W.join (σ:=(LA)) (fun s=>z7 [(1000012,.obj 3 1 (M6 s))]) (fun s=>(QE (jL a1 (JA) r1 (k1+1))) s=some r) (fun v29 h=>?_) (fun hK8=>?_)
 .unfold QE at h;exact W.rg<|WO.pq 0 (jI (qz hl1 hk1))<|WO.fn (hN1 v29 h)
 refine W.block<|W.sr<|WO.pq 1 (jM Jk a1) ?_;let z8:=fun t=>z7 ((15,l94 none a1)::(16,I6 (a1.length:Int))::t);refine WO.fn (e2:=z8 ((17,.int .i64 0)::y4)) ?_;refine W.block ?_;obtain⟨hl2,h⟩:=qg h;refine W.wk<|W.range (σ:=(LA)) a1 (fun k2 s=>z8 [(17,I6 (k2:Int)),(1000012,.obj 3 1 (M6 s))]) (fun r0 k0 s=>Jq (QE (jL a1 (JA) r1 (k1+1))) r0 k0 s=some r) (fun v10 h=>?_) (fun x2 r2 k2 s hx2 hk2 h hN2=>?_) v7 h
 .rw[Jq.eq_1]at h;refine W.sr<|WO.pq 0 (jB (qL (l:=a1)))<|WO.fn (e2:=z8 [(17,I6 ((a1).length:Int)),(18,.bool false),(1000012,.obj 3 1 (M6 v10))]) ?_;exact W.seq<|W.cF<|W.exit<|W.wk (hK8 v10 h)
 obtain⟨v10,rfl⟩:∃ x,x=s:=⟨s,rfl⟩;rw[Jq.eq_2]at h;refine W.sr<|WO.pq 0 (jB (qW hk2)) ?_;let y5:Env:=[(1000012,.obj 3 1 (M6 v10))];let z9:=fun t=>z8 ((17,I6 (k2:Int))::t);refine WO.fn (e2:=z9 ((18,.bool true)::y5)) ?_;refine W.seq<|W.cT ?_;let y6:Env:=(13,I6 (k1:Int))::(15,l94 none a1)::(16,I6 (a1.length:Int))::(17,I6 (k2:Int))::y5;refine W.sw (e:=z1 y6) ?_;refine W.seq<|W.join (σ:=(LA)) (fun s=>z9 [(1000012,.obj 3 1 (M6 s))]) (fun s=>(Xs (Jq (QE (jL a1 (JA) r1 (k1+1))) r2 (k2+1))) s=some r) (fun v28 h=>?_) (fun hK11=>?_)
 .unfold Xs at h;exact W.rg<|WO.pq 0 (jI (qz hl2 hk2))<|WO.fn (hN2 v28 h)
 refine W.block<|W.sr<|WO.pq 0 (qX (f:=Jk) hx2) ?_;let z10:=fun t=>z1 ((6,.ptr (.agg [I6 x2.qf.qc,l3 none x2.qf.qa,l96 none x2.qd]))::t);refine WO.fi [0,4,6,13,15,16,17,1000012] [6] (e2:=z10 y6) ?_;refine W.sr<|WO.pq 2 (jM JL x2.qd) ?_;let z11:=fun t=>z10 ((13,I6 (k1:Int))::(15,l94 none a1)::(16,I6 (a1.length:Int))::(17,I6 (k2:Int))::(22,l96 none x2.qd)::(23,I6 (x2.qd.length:Int))::t);refine WO.fn (e2:=z11 ((24,.int .i64 0)::y5)) ?_;refine W.block ?_;obtain⟨hl3,h⟩:=qg h;refine W.wk<|W.range (σ:=(LA)) x2.qd (fun k3 s=>z11 [(24,I6 (k3:Int)),(1000012,.obj 3 1 (M6 s))]) (fun r0 k0 s=>Jp x2 (Xs (Jq (QE (jL a1 (JA) r1 (k1+1))) r2 (k2+1))) r0 k0 s=some r) (fun v14 h=>?_) (fun x3 r3 k3 s hx3 hk3 h hN3=>?_) v10 h
 .rw[Jp.eq_1]at h;refine W.sr<|WO.pq 0 (jB (qL (l:=x2.qd)))<|WO.fn (e2:=z11 [(24,I6 ((x2.qd).length:Int)),(25,.bool false),(1000012,.obj 3 1 (M6 v14))]) ?_;exact W.seq<|W.cF<|W.exit<|W.wk (hK11 v14 h)
 obtain⟨v14,rfl⟩:∃ x,x=s:=⟨s,rfl⟩;rw[Jp.eq_2]at h;refine W.sr<|WO.pq 0 (jB (qW hk3)) ?_;let y7:Env:=[(1000012,.obj 3 1 (M6 v14))];refine WO.fn (e2:=z11 ((24,I6 (k3:Int))::(25,.bool true)::y7)) ?_;refine W.seq<|W.cT ?_;let y8:Env:=(13,I6 (k1:Int))::(15,l94 none a1)::(16,I6 (a1.length:Int))::(17,I6 (k2:Int))::(22,l96 none x2.qd)::(23,I6 (x2.qd.length:Int))::(24,I6 (k3:Int))::y7;refine W.sw (e:=z10 y8) ?_;refine W.seq<|W.block<|W.sr<|WO.pq 0 (qX (f:=JL) hx3) ?_;let z12:=fun t=>z10 ((8,.ptr (.agg [.bool x3.qu,I6 x3.qe.qc,l3 none x3.qe.qa]))::t);refine WO.fi [0,4,6,8,13,15,16,17,22,23,24,1000012] [8] (e2:=z12 y8) ?_;refine W.sr ?_;obtain⟨hc18,h⟩:=qg h;refine WO.pi 4 (v:=.pe 1000012 1 (0+A0 x3.qe.qc) 0) hc18 ?_;obtain⟨e19,he19,h⟩:=qb h;refine WO.pl 0 (v:=I6 e19) (AV.int .i64) 3 0 he19<|WO.fn (e2:=z12 ((9,I6 e19)::y8)) ?_;refine W.seq<|W.join (σ:=(Int)) (fun s=>z10 ((9,I6 s)::y8)) (fun s=>(Xr x2 v14 (Jp x2 (Xs (Jq (QE (jL a1 (JA) r1 (k1+1))) r2 (k2+1))) r3 (k3+1))) s=some r) (fun v22 h=>?_) (fun hK20=>?_)
 .unfold Xr at h;refine W.rg ?_;obtain⟨hc23,h⟩:=qg h;refine WO.pi 8 (v:=.pe 1000012 1 (0+A0 x2.qf.qc) 0) hc23 ?_;obtain⟨e24,he24,h⟩:=qb h;refine WO.pl 0 (v:=I6 e24) (AV.int .i64) 3 0 he24 ?_;obtain⟨hc25,h⟩:=qg h;refine WO.pi 2 (v:=.pe 1000012 1 (0+A0 x2.qf.qc) 0) hc25 ?_;obtain⟨u26,hu26,h⟩:=qb h;obtain⟨y27,hyy27,hzy27⟩:=qfz hu26;refine WO.sk 0 (id:=1000012) (e:=3) (s:=1) (off:=0) (vs:=[I6 (if v22 > e24 then v22 else e24)]) (AV.int .i64) hyy27 hzy27<|WO.fn (e2:=z11 [(24,I6 (k3:Int)),(1000012,.obj 3 1 (M6 u26))]) ?_;exact W.rg<|WO.pq 0 (jI (qz hl3 hk3))<|WO.fn (hN3 u26 h)
 refine W.seq<|W.rt (e2:=z10 ((9,I6 e19)::(13,I6 (k1:Int))::(15,l94 none a1)::(16,I6 (a1.length:Int))::(17,I6 (k2:Int))::(22,l96 none x2.qd)::(23,I6 (x2.qd.length:Int))::(24,I6 (k3:Int))::(35,.bool x3.qu)::y7)) ?_;refine W.ch x3.qu h (fun h=>?_) (fun h=>?_)
 .refine W.rt (e2:=z10 ((9,I6 (W6 (e19+1)))::y8)) ?_;exact hK20 (W6 (e19+1)) h
 exact W.sw (hK20 e19 h)
def Qq (a1:Int) (a2:LA):La :=
 (bif ((a2.length:Int) == 1) then ((idx a2 0).bind fun e7=>(some (A2 .i64 ((A2 .i64 ((A2 .i64 (a1 * 42))+e7)) - 1)))) else ((idx a2 0).bind fun e9=>((idx a2 1).bind fun e10=>(some (A2 .i64 ((A2 .i64 ((A2 .i64 ((A2 .i64 (a1 * 42))+(A2 .i64 (e9 * 6))))+e10)) - 1))))))
theorem Qw (a1:Int) (a2:LA) (r:Int) (h:Qq a1 a2=some r):Run Try.prog (.call 95 [I6 a1,l3 none a2] (I6 r)):=by
 refine cW Try.func95 rfl (env0:=[(0,I6 a1),(1,l3 none a2)]) ?_;unfold Qq at h;refine W.seq ?_;let z0:=fun t=>EN ((0,I6 a1)::(1,l3 none a2)::t);refine W.rt (e2:=z0 []) ?_;refine W.seq<|W.sr<|WO.pq 1 (jM (.int .i64) a2)<|WO.fn (e2:=z0 [(7,.bool ((a2.length:Int) == 1))]) ?_;refine W.ch ((a2.length:Int) == 1) h (fun h=>?_) (fun h=>?_)
 .refine W.sr ?_;obtain⟨e7,he7,h⟩:=qb h;refine WO.pq 3 (Xu (f:=(AV.int .i64)) he7) ?_;let z1:=fun t=>EN ((4,I6 (W6 ((W6 ((W6 (a1 * 42))+e7)) - 1)))::t);refine WO.fn (e2:=z1 []) ?_;refine W.wk (e:=z1 []) ?_;cases h;exact W.rr
 refine W.sw (e:=z0 []) ?_;refine W.sr ?_;obtain⟨e9,he9,h⟩:=qb h;refine WO.pq 3 (Xu (f:=(AV.int .i64)) he9) ?_;obtain⟨e10,he10,h⟩:=qb h;refine WO.pq 4 (Xu (f:=(AV.int .i64)) he10) ?_;let z2:=fun t=>EN ((4,I6 (W6 ((W6 ((W6 ((W6 (a1 * 42))+(W6 (e9 * 6))))+e10)) - 1)))::t);refine WO.fn (e2:=z2 []) ?_;refine W.wk (e:=z2 []) ?_;cases h;exact W.rr
def VG (v12:LI):Lm :=
 (chk (decide (v12.length=252)) (chk (decide (v12.length=252/\(A4 252 false).length=252)) (chk (decide (v12.length=252)) (some v12))))
def Zh (K4:(LI->Lm)):LG->Nat->LI->Lm
 | [],k1,v6=>(K4 v6)
 | x1::r1,k1,v6=>((Qq x1.qc x1.qa).bind fun w9=>(chk (decide ((0:Int)<=w9/\w9<((252:Nat):Int)/\0<1)) (chk (decide ((0+A0 w9 * 1)<v6.length)) ((Zh K4 r1 (k1+1)) (v6.set (0+A0 w9 * 1) true)))))
def qaU (a1:LG):Lm :=
 (chk (lenOk a1) (Zh (VG) a1 0 (A4 252 false)))
theorem qck (a1:LG) (r:LI) (h:qaU a1=some r):Run Try.prog (.call 63 [l41 none a1] (.agg (A1 AV.bool r))):=by
 refine cW Try.func63 rfl (env0:=[(0,l41 none a1)]) ?_;unfold qaU at h;refine W.sr<|WO.sl 1 ?_;let z0:=fun t=>EN ((0,l41 none a1)::(2,.pb 1000002 0)::t);refine WO.mv [.arr 2] (env':=z0 [(1000002,hZ)]) kR<|WO.fn (e2:=z0 [(1000002,hZ)]) ?_;refine W.sr<|WO.sl 1 ?_;let y0:Env:=[(1000002,hZ),(1000003,hZ)];refine WO.mv [.arr 3] (env':=z0 ((3,.pb 1000003 0)::y0)) kR<|WO.fn (e2:=z0 ((3,.pb 1000003 0)::y0)) ?_;refine W.seq ?_;let z1:=fun t=>EN ((2,.pb 1000002 0)::(3,.pb 1000003 0)::t);refine W.join (σ:=(LI)) (fun s=>z1 [(1000002,hZ),(1000003,hB s)]) (fun s=>(VG) s=some r) (fun v12 h=>?_) (fun hK4=>?_)
 .unfold VG at h;refine W.sr ?_;obtain⟨hc14,h⟩:=qg h;refine WO.pk 0 (cut Try.prog 33 (A1 AV.bool v12) 0) (qE qB (sz:=252) kR (oT hc14)) ?_;obtain⟨hc15,h⟩:=qg h;refine WO.storeA (enc:=AV.bool) (l:=v12) (l':=(A4 252 false)) (s:=1000002) (sz:=252) 0 qB hc15 (e1:=z1 [(19,.agg (A1 AV.bool v12)),(1000002,hB v12),(1000003,hB v12)])<|WO.fn (e2:=[(2,.pb 1000002 0),(1000002,hB v12)]) ?_;refine W.wk (e:=[(2,.pb 1000002 0),(1000002,hB v12)]) ?_;obtain⟨hn16,h⟩:=qg h;have hr:jK Try.prog Try.f63 [(2,.pb 1000002 0),(1000002,hB v12)]=some (.agg (A1 AV.bool v12)):=(by kernel_rfl:jK Try.prog Try.f63 [(2,.pb 1000002 0),(1000002,hB v12)]=(cut Try.prog 33 (A1 AV.bool v12) 0).map AV.strip).trans (by rw[qE qB (sz:=252) (by kernel_rfl) (oT hn16)];rfl);cases h;exact W.ret hr
 refine W.sr<|WO.pq 1 (jM qP a1) ?_;let z2:=fun t=>z1 ((6,l41 none a1)::(7,I6 (a1.length:Int))::t);refine WO.fn (e2:=z2 ((8,.int .i64 0)::y0)) ?_;refine W.block ?_;obtain⟨hl1,h⟩:=qg h;refine W.wk<|W.range (σ:=(LI)) a1 (fun k1 s=>z2 [(8,I6 (k1:Int)),(1000002,hZ),(1000003,hB s)]) (fun r0 k0 s=>Zh (VG) r0 k0 s=some r) (fun v6 h=>?_) (fun x1 r1 k1 s hx1 hk1 h hN1=>?_) (A4 252 false) h
 .rw[Zh.eq_1]at h;refine W.sr<|WO.pq 0 (jB (qL (l:=a1)))<|WO.fn (e2:=z2 [(8,I6 ((a1).length:Int)),(9,.bool false),(1000002,hZ),(1000003,hB v6)]) ?_;exact W.seq<|W.cF<|W.exit<|W.wk (hK4 v6 h)
 obtain⟨v6,rfl⟩:∃ x,x=s:=⟨s,rfl⟩;rw[Zh.eq_2]at h;refine W.sr<|WO.pq 0 (jB (qW hk1))<|WO.fn (e2:=z2 [(8,I6 (k1:Int)),(9,.bool true),(1000002,hZ),(1000003,hB v6)]) ?_;refine W.seq<|W.cT ?_;let y1:Env:=[(6,l41 none a1),(7,I6 (a1.length:Int)),(8,I6 (k1:Int)),(1000002,hZ),(1000003,hB v6)];refine W.sw (e:=z1 y1) ?_;refine W.seq<|W.block<|W.sr<|WO.pq 0 (qX (f:=qP) hx1) ?_;let z3:=fun t=>z1 ((5,.ptr (.agg [I6 x1.qc,l3 none x1.qa]))::t);refine WO.fi [2,3,5,6,7,8,1000002,1000003] [5] (e2:=z3 y1) ?_;refine W.rg ?_;obtain⟨w9,hw9,h⟩:=qb h;refine WO.ck 4 (F:=95) (l:=[I6 x1.qc,l3 none x1.qa]) (C:=[]) (r:=I6 w9) (Qw x1.qc x1.qa w9 hw9) ?_;obtain⟨hc10,h⟩:=qg h;refine WO.pi 0 (v:=.pb 1000003 (0+A0 w9 * 1)) hc10 ?_;obtain⟨hc11,h⟩:=qg h;let y2:Env:=[(1000002,hZ),(1000003,.hob 3 [] (A1 AV.bool (v6.set (0+A0 w9 * 1) true)))];refine WO.setA (enc:=AV.bool) (l:=v6) (x:=true) (s:=1000003) (off:=(0+A0 w9 * 1)) 0 qB hc11 (e1:=z3 ((6,l41 none a1)::(7,I6 (a1.length:Int))::(8,I6 (k1:Int))::(12,.ptr (I6 x1.qc))::(13,I6 x1.qc)::(14,.ptr (l3 none x1.qa))::(15,l3 none x1.qa)::(16,I6 w9)::(17,.pb 1000003 (0+A0 w9 * 1))::y2))<|WO.fn (e2:=z2 ((8,I6 (k1:Int))::y2)) ?_;exact W.rg<|WO.pq 0 (jI (qz hl1 hk1))<|WO.fn (hN1 (v6.set (0+A0 w9 * 1) true) h)
def NM (a1:Int):Option apiFact :=
 (bif (decide (((a1).tmod 42) >= 6)) then (some (apiFact.mk (A2 .i64 ((a1).tdiv 42)) [(A2 .i64 ((((a1).tmod 42)).tdiv 6)),(A2 .i64 (((((a1).tmod 42)).tmod 6)+1))])) else (some (apiFact.mk (A2 .i64 ((a1).tdiv 42)) [(A2 .i64 (((a1).tmod 42)+1))])))
theorem qeV (a1:Int) (r:apiFact) (h:NM a1=some r):Run Try.prog (.call 69 [I6 a1] (.agg [I6 r.qc,l3 none r.qa])):=by
 refine cW Try.func69 rfl (env0:=[(0,I6 a1)]) ?_;unfold NM at h;refine W.seq ?_;let z0:=fun t=>EN ((0,I6 a1)::(2,.box [.int .i64 0,.nils])::t);refine W.rt (e2:=z0 []) ?_;refine W.seq<|W.seq<|W.rt (e2:=z0 [(3,I6 ((a1).tmod 42))]) ?_;refine W.seq<|W.rt (e2:=z0 [(3,I6 ((a1).tmod 42)),(7,.bool (decide (((a1).tmod 42) >= 6)))]) ?_;refine W.ch (decide (((a1).tmod 42) >= 6)) h (fun h=>?_) (fun h=>?_)
 .refine W.seq ?_;let z1:=fun t=>EN ((2,.box [I6 (W6 ((a1).tdiv 42)),l3 none [(W6 ((((a1).tmod 42)).tdiv 6)),(W6 (((((a1).tmod 42)).tmod 6)+1))]])::t);refine W.rt (e2:=z1 []) ?_;refine W.wk (e:=z1 []) ?_;cases h;exact W.rr
 refine W.sw (e:=z0 []) ?_;refine W.seq ?_;let z2:=fun t=>EN ((2,.box [I6 (W6 ((a1).tdiv 42)),l3 none [(W6 (((a1).tmod 42)+1))]])::t);refine W.rt (e2:=z2 []) ?_;refine W.wk (e:=z2 []) ?_;cases h;exact W.rr
def qV (v65:Li):LX :=
 (some v65)
def qO (N1:(Li->LX)) (v64:Li):LX :=
 (N1 v64)
def jk (a1:rf3Rule) (a2:LI) (a3:Int) (v25:Li) (K0:(rf3Rule->LI->Int->LA->LX)) (K26:(Li->LX)) (v57:LA) (v58:Bool):LX :=
 (bif v58 then (chk (decide (a2.length=252)) (chk (decide (v57.length=8)) ((K0 a1 a2 (A2 .i64 (a3+1)) v57).bind fun w62=>(chk (capOk 64 ((v25++w62)).length) (K26 (v25++w62)))))) else (K26 v25))
def jA (N2:(LA->Bool->LX)) (v55:LA) (v56:Bool):LX :=
 (N2 v55 v56)
def qF (w31:apiFact) (K38:(LA->Bool->LX)):LA->Nat->LA->Bool->LX
 | [],k2,v40,v41=>(K38 v40 v41)
 | x2::r2,k2,v40,v41=>(bif (decide (x2<0)) then (bif v41 then ((idx w31.qa (k2:Int)).bind fun e45=>((jA (qF w31 K38 r2 (k2+1))) v40 (e45 == (A2 .i64 (0 - x2))))) else ((jA (qF w31 K38 r2 (k2+1))) v40 false)) else (chk (decide ((0:Int)<=x2/\x2<((8:Nat):Int)/\0<1)) ((v40[(0+A0 x2 * 1)]?).bind fun e48=>(bif (e48 != 0) then (bif v41 then ((idx w31.qa (k2:Int)).bind fun e49=>(chk (decide ((0:Int)<=x2/\x2<((8:Nat):Int)/\0<1)) ((v40[(0+A0 x2 * 1)]?).bind fun e51=>((jA (qF w31 K38 r2 (k2+1))) v40 (e49 == e51))))) else ((jA (qF w31 K38 r2 (k2+1))) v40 false)) else ((idx w31.qa (k2:Int)).bind fun e52=>(chk (decide ((0:Int)<=x2/\x2<((8:Nat):Int)/\0<1)) (chk (decide ((0+A0 x2 * 1)<v40.length)) ((jA (qF w31 K38 r2 (k2+1))) (v40.set (0+A0 x2 * 1) e52) v41))))))))
def jX (a1:rf3Rule) (a2:LI) (a3:Int) (a4:LA) (e14:rf3Lit) (v25:Li) (w31:apiFact) (K0:(rf3Rule->LI->Int->LA->LX)) (K26:(Li->LX)) (v34:Bool):LX :=
 (bif v34 then (K26 v25) else (chk (decide (a4.length=8)) (chk (decide (a4.length=8/\(A4 8 0).length=8)) (chk (lenOk e14.qe.qa) (qF w31 (jk a1 a2 a3 v25 K0 K26) e14.qe.qa 0 a4 true)))))
def qH (a1:rf3Rule) (a2:LI) (a3:Int) (a4:LA) (e14:rf3Lit) (K0:(rf3Rule->LI->Int->LA->LX)) (K22:(Li->LX)):LQ->Nat->Li->LX
 | [],k1,v25=>(K22 v25)
 | x1::r1,k1,v25=>(chk (decide ((0:Int)<=(k1:Int)/\(k1:Int)<((252:Nat):Int))) ((a2[A0 (k1:Int) * 1]?).bind fun e29=>((NM (k1:Int)).bind fun w31=>(bif (!e29) then ((jX a1 a2 a3 a4 e14 v25 w31 K0 (qO (qH a1 a2 a3 a4 e14 K0 K22 r1 (k1+1)))) true) else (bif (w31.qc != e14.qe.qc) then ((jX a1 a2 a3 a4 e14 v25 w31 K0 (qO (qH a1 a2 a3 a4 e14 K0 K22 r1 (k1+1)))) true) else ((jX a1 a2 a3 a4 e14 v25 w31 K0 (qO (qH a1 a2 a3 a4 e14 K0 K22 r1 (k1+1)))) ((w31.qa.length:Int) != (e14.qe.qa.length:Int))))))))
def qA:Nat->rf3Rule->LI->Int->LA->LX
 | 0,_,_,_,_=>none
 | fuel+1,a1,a2,a3,a4=>(chk (!a2.isEmpty) (chk (!a4.isEmpty) (bif (a3 == (a1.qd.length:Int)) then (chk (decide (a4.length=8)) (chk (decide (a4.length=8)) (some [a4]))) else ((idx a1.qd a3).bind fun e14=>(bif e14.qu then (chk (decide (a2.length=252)) (chk (decide (a4.length=8)) (((qA fuel) a1 a2 (A2 .i64 (a3+1)) a4).bind fun w20=>(some w20)))) else (chk (decide (a2.length=252)) (chk (lenOk (A3 (A0 252))) (qH a1 a2 a3 a4 e14 (qA fuel) (qV) (A3 (A0 252)) 0 ([]:Li)))))))))
theorem Zp:∀ (fuel:Nat) (a1:rf3Rule) (a2:LI) (a3:Int) (a4:LA) (r:Li) (h:qA fuel a1 a2 a3 a4=some r),Run Try.prog (.call 96 [.agg [I6 a1.qf.qc,l3 none a1.qf.qa,l96 none a1.qd],.agg (A1 AV.bool a2),I6 a3,.agg (M6 a4)] (l90 none r)):=by
 intro fuel
 induction fuel with
 | zero=>intro a1 a2 a3 a4 r h;cases h
 | succ fuel ih =>
  intro a1 a2 a3 a4 r h;refine cW Try.func96 rfl (env0:=[(0,.agg [I6 a1.qf.qc,l3 none a1.qf.qa,l96 none a1.qd]),(1,.agg (A1 AV.bool a2)),(2,I6 a3),(3,.agg (M6 a4))]) ?_;rw[qA.eq_2]at h;refine W.sr ?_;obtain⟨hc6,h⟩:=qg h;let z0:=fun t=>EN ((0,.agg [I6 a1.qf.qc,l3 none a1.qf.qa,l96 none a1.qd])::(1,.agg (A1 AV.bool a2))::(2,I6 a3)::(3,.agg (M6 a4))::(4,.box [I6 a1.qf.qc,l3 none a1.qf.qa,l96 none a1.qd])::(5,.pb 1000005 0)::t);refine WO.boxA (enc:=AV.bool) (l:=a2) (d:=5) 1 qB hc6 (e1:=z0 [(1000005,hB a2)]) ?_;obtain⟨hc7,h⟩:=qg h;let y0:Env:=[(1000005,hB a2),(1000007,.hob 3 [] (M6 a4))];refine WO.boxA (enc:=(AV.int .i64)) (l:=a4) (d:=7) 0 (qy .i64) hc7 (e1:=z0 ((7,.pb 1000007 0)::y0)) ?_;let y1:Env:=(4,.ptr (.agg [I6 a1.qf.qc,l3 none a1.qf.qa,l96 none a1.qd]))::(5,.pb 1000005 0)::(7,.pb 1000007 0)::y0;let z1:=fun t=>EN ((2,I6 a3)::t);refine WO.fi [2,4,5,7,1000005,1000007] [4] (e2:=z1 y1) ?_;refine W.seq<|W.sr<|WO.pq 3 (jM JL a1.qd) ?_;let z2:=fun t=>z1 ((4,.ptr (.agg [I6 a1.qf.qc,l3 none a1.qf.qa,l96 none a1.qd]))::(5,.pb 1000005 0)::(7,.pb 1000007 0)::t);let z3:=fun t=>z2 ((22,.bool (a3 == (a1.qd.length:Int)))::t);refine WO.fn (e2:=z3 y0) ?_;refine W.ch (a3 == (a1.qd.length:Int)) h (fun h=>?_) (fun h=>?_)
  .refine W.sr ?_;obtain⟨hc11,h⟩:=qg h;refine WO.pk 0 (cut Try.prog 90 (M6 a4) 0) (qE (qy .i64) (sz:=8) kR (oT hc11)) ?_;obtain⟨hc12,h⟩:=qg h;refine WO.litA (enc:=(AV.int .i64)) (l:=a4) (d:=24) (t:=157) (e:=90) (s:=8) 0 (qy .i64) (oT hc12) (e1:=z3 ((23,.agg (M6 a4))::(24,l90 (some 24) [a4])::y0))<|WO.fn (e2:=[(8,l90 (some 24) [a4])]) ?_;refine W.weak [8] [] [] [(24,none)] (env':=[(8,l90 none [a4])]) kR ?_;cases h;exact W.rr
  refine W.sw (e:=z1 y1) ?_;refine W.sr ?_;obtain⟨e14,he14,h⟩:=qb h;refine WO.pq 3 (Xu (f:=JL) he14) ?_;let y2:Env:=(4,.ptr (.agg [I6 a1.qf.qc,l3 none a1.qf.qa,l96 none a1.qd]))::(5,.pb 1000005 0)::(7,.pb 1000007 0)::(9,.ptr (.agg [.bool e14.qu,I6 e14.qe.qc,l3 none e14.qe.qa]))::y0;refine WO.fi [2,4,5,7,9,1000005,1000007] [9] (e2:=z1 y2) ?_;refine W.seq<|W.seq ?_;let z4:=fun t=>z2 ((9,.ptr (.agg [.bool e14.qu,I6 e14.qe.qc,l3 none e14.qe.qa]))::t);refine W.rt (e2:=z4 ((31,.bool e14.qu)::y0)) ?_;refine W.ch e14.qu h (fun h=>?_) (fun h=>?_)
  .refine W.sr ?_;obtain⟨hc18,h⟩:=qg h;refine WO.pk 1 (cut Try.prog 33 (A1 AV.bool a2) 0) (qE qB (sz:=252) kR (oT hc18)) ?_;obtain⟨hc19,h⟩:=qg h;refine WO.pk 2 (cut Try.prog 90 (M6 a4) 0) (qE (qy .i64) (sz:=8) kR (oT hc19)) ?_;obtain⟨w20,hw20,h⟩:=qb h;refine WO.ck 0 (F:=96) (l:=[.agg [I6 a1.qf.qc,l3 none a1.qf.qa,l96 none a1.qd],.agg (A1 AV.bool a2),I6 (W6 (a3+1)),.agg (M6 a4)]) (C:=[]) (r:=l90 none w20) (ih a1 a2 (W6 (a3+1)) a4 w20 hw20)<|WO.fn (e2:=[(8,l90 none w20)]) ?_;refine W.wk (e:=[(8,l90 none w20)]) ?_;cases h;exact W.rr
  refine W.sw (e:=z1 y2) ?_;refine W.seq<|W.rt (e2:=z4 ((10,.nils)::y0)) ?_;refine W.seq<|W.join (σ:=(Li)) (fun s=>[(10,l90 (some 11000) s)]) (fun s=>(qV) s=some r) (fun v65 h=>?_) (fun hK22=>?_)
  .unfold qV at h;refine W.seq<|W.rt (e2:=[(8,l90 (some 11000) v65)]) ?_;refine W.weak [8] [] [] [(11000,none)] (env':=[(8,l90 none v65)]) kR ?_;cases h;exact W.rr
  refine W.sr ?_;obtain⟨hc24,h⟩:=qg h;refine WO.pk 0 (cut Try.prog 33 (A1 AV.bool a2) 0) (qE qB (sz:=252) kR (oT hc24))<|WO.fn (e2:=z4 ((10,.nils)::(38,.agg (A1 AV.bool a2))::(39,.int .i64 0)::y0)) ?_;refine W.block ?_;obtain⟨hl1,h⟩:=qg h;refine W.weak [2,4,5,7,9,10,38,39,1000005,1000007] [] [(10,0,90,8,11000)] [] (env':=z4 ((10,l90 (some 11000) ([]:Li))::(38,.agg (A1 AV.bool a2))::(39,I6 ((0:Nat):Int))::y0)) kR<|W.range (σ:=(Li)) (A3 (A0 252)) (fun k1 s=>z4 ((10,l90 (some 11000) s)::(38,.agg (A1 AV.bool a2))::(39,I6 (k1:Int))::y0)) (fun r0 k0 s=>qH a1 a2 a3 a4 e14 (qA fuel) (qV) r0 k0 s=some r) (fun v25 h=>?_) (fun x1 r1 k1 s hx1 hk1 h hN1=>?_) ([]:Li) h
  .rw[qH.eq_1]at h;refine W.sr<|WO.pq 0 (jB (VJ (n:=252)))<|WO.fn (e2:=z4 ((10,l90 (some 11000) v25)::(38,.agg (A1 AV.bool a2))::(39,I6 (((A3 (A0 252))).length:Int))::(40,.bool false)::y0)) ?_;exact W.seq<|W.cF<|W.exit<|W.wk (hK22 v25 h)
  obtain⟨v25,rfl⟩:∃ x,x=s:=⟨s,rfl⟩;rw[qH.eq_2]at h;refine W.sr<|WO.pq 0 (jB (UV hk1)) ?_;let z5:=fun t=>z4 ((10,l90 (some 11000) v25)::t);refine WO.fn (e2:=z5 ((38,.agg (A1 AV.bool a2))::(39,I6 (k1:Int))::(40,.bool true)::y0)) ?_;refine W.seq<|W.cT ?_;let y3:Env:=(4,.ptr (.agg [I6 a1.qf.qc,l3 none a1.qf.qa,l96 none a1.qd]))::(5,.pb 1000005 0)::(7,.pb 1000007 0)::(9,.ptr (.agg [.bool e14.qu,I6 e14.qe.qc,l3 none e14.qe.qa]))::(10,l90 (some 11000) v25)::(38,.agg (A1 AV.bool a2))::(39,I6 (k1:Int))::y0;refine W.sw (e:=z1 y3) ?_;refine W.seq ?_;let y4:Env:=(38,.agg (A1 AV.bool a2))::(39,I6 (k1:Int))::y0;refine W.join (σ:=(Li)) (fun s=>z4 ((10,l90 (some 11000) s)::y4)) (fun s=>(qO (qH a1 a2 a3 a4 e14 (qA fuel) (qV) r1 (k1+1))) s=some r) (fun v64 h=>?_) (fun hK26=>?_)
  .unfold qO at h;exact W.rg<|WO.pq 0 (jI (qz hl1 hk1))<|WO.fn (hN1 v64 h)
  refine W.block<|W.sr ?_;obtain⟨hc28,h⟩:=qg h;obtain⟨e29,he29,h⟩:=qb h;refine WO.pk 1 (if (0:Int)<=(k1:Int)/\(k1:Int)<((252:Nat):Int) then cut Try.prog 4 (A1 AV.strip (A1 AV.bool a2)) (A0 (k1:Int) * 1) else none) (qei qB kR (oT hc28) he29)<|WO.fn (e2:=z5 ((11,I6 (k1:Int))::(12,.bool e29)::y4)) ?_;refine W.sr ?_;obtain⟨w31,hw31,h⟩:=qb h;refine WO.ck 1 (F:=69) (l:=[I6 (k1:Int)]) (C:=[]) (r:=.agg [I6 w31.qc,l3 none w31.qa]) (qeV (k1:Int) w31 hw31) ?_;let y5:Env:=(13,.ptr (.agg [I6 w31.qc,l3 none w31.qa]))::y4;let z6:=fun t=>z5 ((12,.bool e29)::t);refine WO.fi [2,4,5,7,9,10,12,13,38,39,1000005,1000007] [13] (e2:=z6 y5) ?_;refine W.seq<|W.seq ?_;let z7:=fun t=>z5 ((13,.ptr (.agg [I6 w31.qc,l3 none w31.qa]))::t);let z8:=fun t=>z7 ((38,.agg (A1 AV.bool a2))::(39,I6 (k1:Int))::t);refine W.join (σ:=(Bool)) (fun s=>z8 ((64,.bool s)::y0)) (fun s=>(jX a1 a2 a3 a4 e14 v25 w31 (qA fuel) (qO (qH a1 a2 a3 a4 e14 (qA fuel) (qV) r1 (k1+1)))) s=some r) (fun v34 h=>?_) (fun hK33=>?_)
  .unfold jX at h;refine W.ch v34 h (fun h=>?_) (fun h=>?_)
   .exact W.exit<|W.wk (hK26 v25 h)
   refine W.sw (e:=z5 y5) ?_;refine W.sr ?_;obtain⟨hc36,h⟩:=qg h;refine WO.pk 0 (cut Try.prog 90 (M6 a4) 0) (qE (qy .i64) (sz:=8) kR (oT hc36))<|WO.sl 1 ?_;let z9:=fun t=>z7 ((14,.pb 1000014 0)::t);let z10:=fun t=>z9 ((38,.agg (A1 AV.bool a2))::(39,I6 (k1:Int))::(65,.agg (M6 a4))::t);refine WO.mv [.arr 14] (env':=z10 [(1000005,hB a2),(1000007,.hob 3 [] (M6 a4)),(1000014,.hob 3 [] (M6 (A4 8 0)))]) kR ?_;obtain⟨hc37,h⟩:=qg h;let y6:Env:=[(1000005,hB a2),(1000007,.hob 3 [] (M6 a4)),(1000014,.hob 3 [] (M6 a4))];refine WO.storeA (enc:=(AV.int .i64)) (l:=a4) (l':=(A4 8 0)) (s:=1000014) (sz:=8) 0 (qy .i64) hc37 (e1:=z10 y6) ?_;let z11:=fun t=>z9 ((15,.bool true)::(38,.agg (A1 AV.bool a2))::(39,I6 (k1:Int))::t);refine WO.fn (e2:=z11 y6) ?_;refine W.seq ?_;let z12:=fun t=>z5 ((14,.pb 1000014 0)::t);refine W.join (σ:=(LA×Bool)) (fun s=>z12 [(15,.bool s.2),(38,.agg (A1 AV.bool a2)),(39,I6 (k1:Int)),(1000005,hB a2),(1000007,.hob 3 [] (M6 a4)),(1000014,.hob 3 [] (M6 s.1))]) (fun s=>(jk a1 a2 a3 v25 (qA fuel) (qO (qH a1 a2 a3 a4 e14 (qA fuel) (qV) r1 (k1+1)))) s.1 s.2=some r) (fun s h=>?_) (fun hK38=>?_)
   .obtain⟨v57,v58⟩:=s;have h:(jk a1 a2 a3 v25 (qA fuel) (qO (qH a1 a2 a3 a4 e14 (qA fuel) (qV) r1 (k1+1)))) v57 v58=some r:=h;unfold jk at h;refine W.seq<|W.rt (e2:=z12 [(38,.agg (A1 AV.bool a2)),(39,I6 (k1:Int)),(114,.bool v58),(1000005,hB a2),(1000007,.hob 3 [] (M6 a4)),(1000014,.hob 3 [] (M6 v57))]) ?_;refine W.ch v58 h (fun h=>?_) (fun h=>?_)
    .refine W.rg ?_;obtain⟨hc60,h⟩:=qg h;refine WO.pk 2 (cut Try.prog 33 (A1 AV.bool a2) 0) (qE qB (sz:=252) kR (oT hc60)) ?_;obtain⟨hc61,h⟩:=qg h;refine WO.pk 2 (cut Try.prog 90 (M6 v57) 0) (qE (qy .i64) (sz:=8) kR (oT hc61)) ?_;obtain⟨w62,hw62,h⟩:=qb h;refine WO.ck 0 (F:=96) (l:=[.agg [I6 a1.qf.qc,l3 none a1.qf.qa,l96 none a1.qd],.agg (A1 AV.bool a2),I6 (W6 (a3+1)),.agg (M6 v57)]) (C:=[]) (r:=l90 none w62) (ih a1 a2 (W6 (a3+1)) v57 w62 hw62) ?_;obtain⟨hc63,h⟩:=qg h;refine WO.ak 0 122 90 8 (fun l=>AV.agg (M6 l)) v25 w62 hc63 ?_;refine WO.fin [2,4,5,7,9,10,38,39,1000005,1000007] [] [] [(122,some 11000)] (e2:=z4 ((10,l90 (some 11000) (v25++w62))::y4)) kR (fun _ h=>h) ?_;exact hK26 (v25++w62) h
    exact W.sw (hK26 v25 h)
   refine W.sr<|WO.pq 3 (jM (.int .i64) e14.qe.qa) ?_;let z13:=fun t=>z11 ((68,l3 none e14.qe.qa)::(69,I6 (e14.qe.qa.length:Int))::t);refine WO.fn (e2:=z13 ((70,.int .i64 0)::y6)) ?_;refine W.block ?_;obtain⟨hl2,h⟩:=qg h;refine W.wk<|W.range (σ:=(LA×Bool)) e14.qe.qa (fun k2 s=>z9 [(15,.bool s.2),(38,.agg (A1 AV.bool a2)),(39,I6 (k1:Int)),(68,l3 none e14.qe.qa),(69,I6 (e14.qe.qa.length:Int)),(70,I6 (k2:Int)),(1000005,hB a2),(1000007,.hob 3 [] (M6 a4)),(1000014,.hob 3 [] (M6 s.1))]) (fun r0 k0 s=>qF w31 (jk a1 a2 a3 v25 (qA fuel) (qO (qH a1 a2 a3 a4 e14 (qA fuel) (qV) r1 (k1+1)))) r0 k0 s.1 s.2=some r) (fun s h=>?_) (fun x2 r2 k2 s hx2 hk2 h hN2=>?_) (a4,true) h
   .obtain⟨v40,v41⟩:=s;have h:qF w31 (jk a1 a2 a3 v25 (qA fuel) (qO (qH a1 a2 a3 a4 e14 (qA fuel) (qV) r1 (k1+1)))) [] (e14.qe.qa).length v40 v41=some r:=h;rw[qF.eq_1]at h;refine W.sr<|WO.pq 0 (jB (qL (l:=e14.qe.qa))) ?_;let y7:Env:=[(1000005,hB a2),(1000007,.hob 3 [] (M6 a4)),(1000014,.hob 3 [] (M6 v40))];refine WO.fn (e2:=z9 ((15,.bool v41)::(38,.agg (A1 AV.bool a2))::(39,I6 (k1:Int))::(68,l3 none e14.qe.qa)::(69,I6 (e14.qe.qa.length:Int))::(70,I6 ((e14.qe.qa).length:Int))::(71,.bool false)::y7)) ?_;exact W.seq<|W.cF<|W.exit<|W.wk (hK38 (v40,v41) h)
   obtain⟨v40,v41⟩:=s;have h:qF w31 (jk a1 a2 a3 v25 (qA fuel) (qO (qH a1 a2 a3 a4 e14 (qA fuel) (qV) r1 (k1+1)))) (x2::r2) k2 v40 v41=some r:=h;rw[qF.eq_2]at h;refine W.sr<|WO.pq 0 (jB (qW hk2)) ?_;let y8:Env:=[(1000005,hB a2),(1000007,.hob 3 [] (M6 a4)),(1000014,.hob 3 [] (M6 v40))];let z14:=fun t=>z9 ((15,.bool v41)::(38,.agg (A1 AV.bool a2))::(39,I6 (k1:Int))::(68,l3 none e14.qe.qa)::(69,I6 (e14.qe.qa.length:Int))::(70,I6 (k2:Int))::t);refine WO.fn (e2:=z14 ((71,.bool true)::y8)) ?_;refine W.seq<|W.cT ?_;let y9:Env:=(38,.agg (A1 AV.bool a2))::(39,I6 (k1:Int))::(68,l3 none e14.qe.qa)::(69,I6 (e14.qe.qa.length:Int))::(70,I6 (k2:Int))::y8;let z15:=fun t=>z9 ((15,.bool v41)::t);refine W.sw (e:=z15 y9) ?_;refine W.seq<|W.join (σ:=(LA×Bool)) (fun s=>z9 [(15,.bool s.2),(38,.agg (A1 AV.bool a2)),(39,I6 (k1:Int)),(68,l3 none e14.qe.qa),(69,I6 (e14.qe.qa.length:Int)),(70,I6 (k2:Int)),(1000005,hB a2),(1000007,.hob 3 [] (M6 a4)),(1000014,.hob 3 [] (M6 s.1))]) (fun s=>(jA (qF w31 (jk a1 a2 a3 v25 (qA fuel) (qO (qH a1 a2 a3 a4 e14 (qA fuel) (qV) r1 (k1+1)))) r2 (k2+1))) s.1 s.2=some r) (fun s h=>?_) (fun hK42=>?_)
   .obtain⟨v55,v56⟩:=s;have h:(jA (qF w31 (jk a1 a2 a3 v25 (qA fuel) (qO (qH a1 a2 a3 a4 e14 (qA fuel) (qV) r1 (k1+1)))) r2 (k2+1))) v55 v56=some r:=h;unfold jA at h;exact W.rg<|WO.pq 0 (jI (qz hl2 hk2))<|WO.fn (hN2 (v55,v56) h)
   refine W.block<|W.sr<|WO.pq 1 (qX (f:=(AV.int .i64)) hx2) ?_;let z16:=fun t=>z15 ((16,I6 (k2:Int))::(17,I6 x2)::t);refine WO.fn (e2:=z16 y9) ?_;refine W.block<|W.seq ?_;let z17:=fun t=>z16 ((38,.agg (A1 AV.bool a2))::(39,I6 (k1:Int))::(68,l3 none e14.qe.qa)::(69,I6 (e14.qe.qa.length:Int))::(70,I6 (k2:Int))::t);refine W.rt (e2:=z17 ((82,.bool (decide (x2<0)))::y8)) ?_;refine W.ch (decide (x2<0)) h (fun h=>?_) (fun h=>?_)
   .refine W.rg<|WO.bh 2 (fun b=>z9 ((15,.bool b)::(16,I6 (k2:Int))::(17,I6 x2)::(38,.agg (A1 AV.bool a2))::(39,I6 (k1:Int))::(68,l3 none e14.qe.qa)::(69,I6 (e14.qe.qa.length:Int))::(70,I6 (k2:Int))::(82,.bool (decide (x2<0)))::(85,.bool b)::(86,.bool b)::y8)) v41 h (fun h=>?_) (fun h=>?_)
    .obtain⟨e45,he45,h⟩:=qb h;exact WO.pq 3 (Xu (f:=(AV.int .i64)) he45)<|WO.fn (hK42 (v40,(e45 == (W6 (0 - x2)))) h)
    exact WO.fn (hK42 (v40,false) h)
   refine W.sr ?_;obtain⟨hc47,h⟩:=qg h;refine WO.pi 1 (v:=.pb 1000014 (0+A0 x2 * 1)) hc47 ?_;obtain⟨e48,he48,h⟩:=qb h;refine WO.pk 0 (cut Try.prog 3 (M6 v40) (0+A0 x2 * 1)) (QQ (qy .i64) kR he48)<|WO.fn (e2:=z17 ((96,.bool (e48 != 0))::y8)) ?_;refine W.ch (e48 != 0) h (fun h=>?_) (fun h=>?_)
   .refine W.rg<|WO.bh 2 (fun b=>z9 ((15,.bool b)::(16,I6 (k2:Int))::(17,I6 x2)::(38,.agg (A1 AV.bool a2))::(39,I6 (k1:Int))::(68,l3 none e14.qe.qa)::(69,I6 (e14.qe.qa.length:Int))::(70,I6 (k2:Int))::(96,.bool (e48 != 0))::(101,.bool b)::(102,.bool b)::y8)) v41 h (fun h=>?_) (fun h=>?_)
    .obtain⟨e49,he49,h⟩:=qb h;refine WO.pq 3 (Xu (f:=(AV.int .i64)) he49) ?_;obtain⟨hc50,h⟩:=qg h;refine WO.pi 2 (v:=.pb 1000014 (0+A0 x2 * 1)) hc50 ?_;obtain⟨e51,he51,h⟩:=qb h;exact WO.pk 0 (cut Try.prog 3 (M6 v40) (0+A0 x2 * 1)) (QQ (qy .i64) kR he51)<|WO.fn (hK42 (v40,(e49 == e51)) h)
    exact WO.fn (hK42 (v40,false) h)
   refine W.rg ?_;obtain⟨e52,he52,h⟩:=qb h;refine WO.pq 4 (Xu (f:=(AV.int .i64)) he52) ?_;obtain⟨hc53,h⟩:=qg h;refine WO.pi 1 (v:=.pb 1000014 (0+A0 x2 * 1)) hc53 ?_;obtain⟨hc54,h⟩:=qg h;let y10:Env:=[(1000005,hB a2),(1000007,.hob 3 [] (M6 a4)),(1000014,.hob 3 [] (M6 (v40.set (0+A0 x2 * 1) e52)))];exact WO.setA (enc:=(AV.int .i64)) (l:=v40) (x:=e52) (s:=1000014) (off:=(0+A0 x2 * 1)) 0 (qy .i64) hc54 (e1:=z17 ((75,I6 x2)::(76,.ptr (l3 none w31.qa))::(77,l3 none w31.qa)::(78,I6 (k2:Int))::(79,.ptr (I6 e52))::(80,I6 e52)::(81,.pb 1000014 (0+A0 x2 * 1))::(96,.bool (e48 != 0))::y10))<|WO.fn (hK42 ((v40.set (0+A0 x2 * 1) e52),v41) h)
  refine W.rg ?_;let z18:=fun t=>z6 ((13,.ptr (.agg [I6 w31.qc,l3 none w31.qa]))::(38,.agg (A1 AV.bool a2))::(39,I6 (k1:Int))::(45,.bool e29)::t);refine WO.bh 3 (fun b=>z18 ((46,.bool b)::(47,.bool b)::y0)) (!e29) h (fun h=>?_) (fun h=>?_)
  .exact WO.fn (hK33 true h)
  refine WO.bh 8 (fun b=>z18 ((46,.bool false)::(47,.bool false)::(48,.ptr (I6 w31.qc))::(49,I6 w31.qc)::(50,.ptr (.agg [I6 e14.qe.qc,l3 none e14.qe.qa]))::(51,.ptr (I6 e14.qe.qc))::(52,I6 e14.qe.qc)::(53,.bool b)::(54,.bool b)::(55,.bool b)::y0)) (w31.qc != e14.qe.qc) h (fun h=>?_) (fun h=>?_)
  .exact WO.fn (hK33 true h)
  exact WO.pq 2 (jM (.int .i64) w31.qa)<|WO.pq 3 (jM (.int .i64) e14.qe.qa)<|WO.fn (hK33 ((w31.qa.length:Int) != (e14.qe.qa.length:Int)) h)
def Yu (a1:rf2Atom) (v17:LA):La :=
 ((Qq a1.qc v17).bind fun w19=>(some w19))
def Zw (N1:(LA->La)) (v16:LA):La :=
 (N1 v16)
def Qb (a2:LA) (K6:(LA->La)):LA->Nat->LA->La
 | [],k1,v8=>(K6 v8)
 | x1::r1,k1,v8=>(bif (decide (x1<0)) then (chk (capOk 8 ((v8++[(A2 .i64 (0 - x1))])).length) ((Zw (Qb a2 K6 r1 (k1+1))) (v8++[(A2 .i64 (0 - x1))]))) else (chk (decide ((0:Int)<=x1/\x1<((8:Nat):Int)/\0<1)) ((a2[(0+A0 x1 * 1)]?).bind fun e14=>(chk (capOk 8 ((v8++[e14])).length) ((Zw (Qb a2 K6 r1 (k1+1))) (v8++[e14]))))))
def Xq (a1:rf2Atom) (a2:LA):La :=
 (chk (!a2.isEmpty) (chk (lenOk a1.qa) (Qb a2 (Yu a1) a1.qa 0 ([]:LA))))
theorem XL (a1:rf2Atom) (a2:LA) (r:Int) (h:Xq a1 a2=some r):Run Try.prog (.call 97 [.agg [I6 a1.qc,l3 none a1.qa],.agg (M6 a2)] (I6 r)):=by
 refine cW Try.func97 rfl (env0:=[(0,.agg [I6 a1.qc,l3 none a1.qa]),(1,.agg (M6 a2))]) ?_;unfold Xq at h;refine W.sr ?_;obtain⟨hc4,h⟩:=qg h;let y0:Env:=[(1000003,.hob 3 [] (M6 a2))];refine WO.boxA (enc:=(AV.int .i64)) (l:=a2) (d:=3) 1 (qy .i64) hc4 (e1:=((0,.agg [I6 a1.qc,l3 none a1.qa])::(1,.agg (M6 a2))::(2,.box [I6 a1.qc,l3 none a1.qa])::(3,.pb 1000003 0)::y0)) ?_;let z0:=fun t=>EN ((2,.ptr (.agg [I6 a1.qc,l3 none a1.qa]))::(3,.pb 1000003 0)::t);refine WO.fi [2,3,1000003] [2] (e2:=z0 y0) ?_;refine W.seq<|W.rt (e2:=z0 ((5,.nils)::y0)) ?_;refine W.seq ?_;let z1:=fun t=>EN ((2,.ptr (.agg [I6 a1.qc,l3 none a1.qa]))::t);refine W.join (σ:=(LA)) (fun s=>z1 [(5,l3 (some 10500) s)]) (fun s=>(Yu a1) s=some r) (fun v17 h=>?_) (fun hK6=>?_)
 .unfold Yu at h;refine W.sr ?_;obtain⟨w19,hw19,h⟩:=qb h;refine WO.ck 3 (F:=95) (l:=[I6 a1.qc,l3 none v17]) (C:=[]) (r:=I6 w19) (Qw a1.qc v17 w19 hw19)<|WO.fn (e2:=[(4,I6 w19)]) ?_;refine W.wk (e:=[(4,I6 w19)]) ?_;cases h;exact W.rr
 refine W.sr<|WO.pq 2 (jM (.int .i64) a1.qa)<|WO.fn (e2:=z0 ((5,.nils)::(9,l3 none a1.qa)::(10,I6 (a1.qa.length:Int))::(11,.int .i64 0)::y0)) ?_;refine W.block ?_;obtain⟨hl1,h⟩:=qg h;refine W.weak [2,3,5,9,10,11,1000003] [] [(5,0,3,1,10500)] [] (env':=z0 ((5,l3 (some 10500) ([]:LA))::(9,l3 none a1.qa)::(10,I6 (a1.qa.length:Int))::(11,I6 ((0:Nat):Int))::y0)) kR<|W.range (σ:=(LA)) a1.qa (fun k1 s=>z0 ((5,l3 (some 10500) s)::(9,l3 none a1.qa)::(10,I6 (a1.qa.length:Int))::(11,I6 (k1:Int))::y0)) (fun r0 k0 s=>Qb a2 (Yu a1) r0 k0 s=some r) (fun v8 h=>?_) (fun x1 r1 k1 s hx1 hk1 h hN1=>?_) ([]:LA) h
 .rw[Qb.eq_1]at h;refine W.sr<|WO.pq 0 (jB (qL (l:=a1.qa)))<|WO.fn (e2:=z0 ((5,l3 (some 10500) v8)::(9,l3 none a1.qa)::(10,I6 (a1.qa.length:Int))::(11,I6 ((a1.qa).length:Int))::(12,.bool false)::y0)) ?_;exact W.seq<|W.cF<|W.exit<|W.wk (hK6 v8 h)
 obtain⟨v8,rfl⟩:∃ x,x=s:=⟨s,rfl⟩;rw[Qb.eq_2]at h;refine W.sr<|WO.pq 0 (jB (qW hk1)) ?_;let z2:=fun t=>z0 ((5,l3 (some 10500) v8)::t);refine WO.fn (e2:=z2 ((9,l3 none a1.qa)::(10,I6 (a1.qa.length:Int))::(11,I6 (k1:Int))::(12,.bool true)::y0)) ?_;refine W.seq<|W.cT ?_;let y1:Env:=(9,l3 none a1.qa)::(10,I6 (a1.qa.length:Int))::(11,I6 (k1:Int))::y0;refine W.sw (e:=z2 y1) ?_;refine W.seq<|W.join (σ:=(LA)) (fun s=>z0 ((5,l3 (some 10500) s)::y1)) (fun s=>(Zw (Qb a2 (Yu a1) r1 (k1+1))) s=some r) (fun v16 h=>?_) (fun hK9=>?_)
 .unfold Zw at h;exact W.rg<|WO.pq 0 (jI (qz hl1 hk1))<|WO.fn (hN1 v16 h)
 refine W.block<|W.sr<|WO.pq 0 (qX (f:=(AV.int .i64)) hx1)<|WO.fn (e2:=z2 ((7,I6 x1)::y1)) ?_;refine W.seq<|W.rt (e2:=z2 ((7,I6 x1)::(9,l3 none a1.qa)::(10,I6 (a1.qa.length:Int))::(11,I6 (k1:Int))::(16,.bool (decide (x1<0)))::y0)) ?_;refine W.ch (decide (x1<0)) h (fun h=>?_) (fun h=>?_)
 .refine W.rg ?_;obtain⟨hc12,h⟩:=qg h;refine WO.ak 4 21 3 1 (.int .i64) v8 [(W6 (0 - x1))] hc12<|WO.fin [2,3,5,9,10,11,1000003] [] [] [(21,some 10500)] (e2:=z0 ((5,l3 (some 10500) (v8++[(W6 (0 - x1))]))::y1)) kR (fun _ h=>h) ?_;exact hK9 (v8++[(W6 (0 - x1))]) h
 refine W.rg ?_;obtain⟨hc13,h⟩:=qg h;refine WO.pi 2 (v:=.pb 1000003 (0+A0 x1 * 1)) hc13 ?_;obtain⟨e14,he14,h⟩:=qb h;refine WO.pk 0 (cut Try.prog 3 (M6 a2) (0+A0 x1 * 1)) (QQ (qy .i64) kR he14) ?_;obtain⟨hc15,h⟩:=qg h;refine WO.ak 1 27 3 1 (.int .i64) v8 [e14] hc15<|WO.fin [2,3,5,9,10,11,1000003] [] [] [(27,some 10500)] (e2:=z0 ((5,l3 (some 10500) (v8++[e14]))::y1)) kR (fun _ h=>h) ?_;exact hK9 (v8++[e14]) h
end Go.AM
