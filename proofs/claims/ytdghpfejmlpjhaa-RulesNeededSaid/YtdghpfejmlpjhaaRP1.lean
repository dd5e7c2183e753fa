/- s -/
import Derived.Test.YtdghpfejmlpjhaaRPT
set_option maxRecDepth 100000
set_option linter.unusedVariables false
set_option linter.unusedSimpArgs false
namespace Go.AM
open Go.Proofs
def jg (p1:(List Int)) (a2:Int) (a3:Int) (v11:Bool):Option (Bool×(List Int)) :=
 (bif v11 then (some (false,p1)) else (chk (decide ((0:Int)≤a2∧a2<((6:Nat):Int)∧0<1)) (chk (decide ((0+Int.toNat a2 * 1)<p1.length)) (some (true,(p1.set (0+Int.toNat a2 * 1) a3))))))
def Jy (p1:(List Int)) (a2:Int) (a3:Int):Option (Bool×(List Int)) :=
 (bif (decide (a2<0)) then ((jg p1 a2 a3) true) else (bif (decide (a2 ≥ 6)) then ((jg p1 a2 a3) true) else (bif (decide (a3<1)) then ((jg p1 a2 a3) true) else (bif (decide (a3 > 2)) then ((jg p1 a2 a3) true) else (chk (decide ((0:Int)≤a2∧a2<((6:Nat):Int)∧0<1)) ((p1[(0+Int.toNat a2 * 1)]?).bind fun e8=>(bif (e8 != 0) then (chk (decide ((0:Int)≤a2∧a2<((6:Nat):Int)∧0<1)) ((p1[(0+Int.toNat a2 * 1)]?).bind fun e10=>((jg p1 a2 a3) (e10 != a3)))) else ((jg p1 a2 a3) false))))))))
theorem Xm (p1:(List Int)) (a2:Int) (a3:Int) (r:(Bool×(List Int))) (h:Jy p1 a2 a3=some r):Run Try.prog (.callM 103 [.pb 2000000 0,I6 a2,I6 a3] [(2000000,.hob 3 [] (M6 p1))] (.bool r.1) [(2000000,.hob 3 [] (M6 r.2))]):=by
 refine cM Try.func103 rfl (env0:=[(0,.pb 2000000 0),(1,I6 a2),(2,I6 a3),(2000000,.hob 3 [] (M6 p1))]) ?_;unfold Jy at h;refine W.seq ?_
 let z0:=fun t=>EN ((0,.pb 2000000 0)::(1,I6 a2)::(2,I6 a3)::t)
 refine W.rt (e2:=z0 [(2000000,.hob 3 [] (M6 p1))]) ?_;refine W.seq ?_;refine W.seq ?_;refine W.join (σ:=(Bool)) (fun s=>z0 [(37,.bool s),(2000000,.hob 3 [] (M6 p1))]) (fun s=>(jg p1 a2 a3) s=some r) (fun v11 h=>?_) (fun hK6=>?_)
 ·have h:(jg p1 a2 a3) v11=some r:=h;unfold jg at h;refine W.cb v11 (fun hb=>?_) (fun hb=>?_)
  ·replace h:=qv hb h;refine W.seq ?_;refine W.rt (e2:=[(6,.bool false),(2000000,.hob 3 [] (M6 p1))]) ?_;refine W.wk (env':=[(6,.bool false),(2000000,.hob 3 [] (M6 p1))]) ?_;have hr:PostM Try.prog Try.f103 (.bool false) [(2000000,.hob 3 [] (M6 p1))] .ret [(6,.bool false),(2000000,.hob 3 [] (M6 p1))]:=⟨by kernel_rfl,by kernel_rfl⟩;cases h;exact W.ret hr
  replace h:=qw hb h;refine W.skip ?_;refine W.wk (env':=z0 [(2000000,.hob 3 [] (M6 p1))]) ?_;refine W.seq ?_;refine W.rg ?_;obtain⟨hc14,h⟩:=qi h
  let z1:=fun t=>z0 ((38,.pb 2000000 0)::(39,I6 a2)::(40,I6 a3)::(41,.pb 2000000 0)::(42,.pb 2000000 (0+Int.toNat a2 * 1))::t)
  refine WO.pi 4 (v:=.pb 2000000 (0+Int.toNat a2 * 1)) hc14 (e1:=z1 [(2000000,.hob 3 [] (M6 p1))]) ?_;obtain⟨hc15,h⟩:=qi h;refine WO.setA (enc:=(AV.int .i64)) (l:=p1) (x:=a3) (s:=2000000) (off:=(0+Int.toNat a2 * 1)) 0 (qC .i64) hc15 (e1:=z1 [(2000000,.hob 3 [] (M6 (p1.set (0+Int.toNat a2 * 1) a3)))]) ?_;refine WO.fn (e2:=[(2000000,.hob 3 [] (M6 (p1.set (0+Int.toNat a2 * 1) a3)))]) ?_;refine W.seq ?_
  let z2:=fun t=>EN ((6,.bool true)::(2000000,.hob 3 [] (M6 (p1.set (0+Int.toNat a2 * 1) a3)))::t)
  refine W.rt (e2:=z2 []) ?_;refine W.wk (env':=z2 []) ?_;have hr:PostM Try.prog Try.f103 (.bool true) [(2000000,.hob 3 [] (M6 (p1.set (0+Int.toNat a2 * 1) a3)))] .ret [(6,.bool true),(2000000,.hob 3 [] (M6 (p1.set (0+Int.toNat a2 * 1) a3)))]:=⟨by kernel_rfl,by kernel_rfl⟩;cases h;exact W.ret hr
 refine W.rg ?_
 let z3:=fun t=>z0 ((7,I6 a2)::t)
 refine WO.bk 3 (fun b=>z3 [(8,.bool b),(9,.bool b),(2000000,.hob 3 [] (M6 p1))]) (decide (a2<0)) (fun hb=>?_) (fun hb=>?_)
 ·replace h:=qv hb h;refine WO.fn (e2:=z0 [(37,.bool true),(2000000,.hob 3 [] (M6 p1))]) ?_;exact hK6 true h
 replace h:=qw hb h
 let z4:=fun t=>z3 ((8,.bool false)::(9,.bool false)::(10,I6 a2)::t)
 refine WO.bk 4 (fun b=>z4 [(11,.bool b),(12,.bool b),(13,.bool b),(2000000,.hob 3 [] (M6 p1))]) (decide (a2 ≥ 6)) (fun hb=>?_) (fun hb=>?_)
 ·replace h:=qv hb h;refine WO.fn (e2:=z0 [(37,.bool true),(2000000,.hob 3 [] (M6 p1))]) ?_;exact hK6 true h
 replace h:=qw hb h
 let z5:=fun t=>z4 ((11,.bool false)::(12,.bool false)::(13,.bool false)::(14,I6 a3)::t)
 refine WO.bk 4 (fun b=>z5 [(15,.bool b),(16,.bool b),(17,.bool b),(2000000,.hob 3 [] (M6 p1))]) (decide (a3<1)) (fun hb=>?_) (fun hb=>?_)
 ·replace h:=qv hb h;refine WO.fn (e2:=z0 [(37,.bool true),(2000000,.hob 3 [] (M6 p1))]) ?_;exact hK6 true h
 replace h:=qw hb h
 let z6:=fun t=>z5 ((15,.bool false)::(16,.bool false)::(17,.bool false)::(18,I6 a3)::t)
 refine WO.bk 4 (fun b=>z6 [(19,.bool b),(20,.bool b),(21,.bool b),(2000000,.hob 3 [] (M6 p1))]) (decide (a3 > 2)) (fun hb=>?_) (fun hb=>?_)
 ·replace h:=qv hb h;refine WO.fn (e2:=z0 [(37,.bool true),(2000000,.hob 3 [] (M6 p1))]) ?_;exact hK6 true h
 replace h:=qw hb h;obtain⟨hc7,h⟩:=qi h
 let z7:=fun t=>z6 ((19,.bool false)::(20,.bool false)::(21,.bool false)::(22,.pb 2000000 0)::(23,I6 a2)::(24,.pb 2000000 0)::(25,.pb 2000000 (0+Int.toNat a2 * 1))::t)
 refine WO.pi 3 (v:=.pb 2000000 (0+Int.toNat a2 * 1)) hc7 (e1:=z7 [(2000000,.hob 3 [] (M6 p1))]) ?_;obtain⟨e8,he8,h⟩:=qf h
 let z8:=fun t=>z7 ((26,I6 e8)::t)
 refine WO.pk 0 (cut Try.prog 3 (M6 p1) (0+Int.toNat a2 * 1)) (v:=I6 e8) (YX (qC .i64) (by kernel_rfl) he8) (e1:=z8 [(2000000,.hob 3 [] (M6 p1))]) ?_;refine WO.bk 2 (fun b=>z8 [(27,.bool b),(28,.bool b),(2000000,.hob 3 [] (M6 p1))]) (e8 != 0) (fun hb=>?_) (fun hb=>?_)
 ·replace h:=qv hb h;obtain⟨hc9,h⟩:=qi h
  let z9:=fun t=>z8 ((27,.bool true)::(28,.bool true)::(29,.pb 2000000 0)::(30,I6 a2)::(31,.pb 2000000 0)::(32,.pb 2000000 (0+Int.toNat a2 * 1))::t)
  refine WO.pi 3 (v:=.pb 2000000 (0+Int.toNat a2 * 1)) hc9 (e1:=z9 [(2000000,.hob 3 [] (M6 p1))]) ?_;obtain⟨e10,he10,h⟩:=qf h;refine WO.pk 0 (cut Try.prog 3 (M6 p1) (0+Int.toNat a2 * 1)) (v:=I6 e10) (YX (qC .i64) (by kernel_rfl) he10) (e1:=z9 [(33,I6 e10),(2000000,.hob 3 [] (M6 p1))]) ?_;refine WO.fn (e2:=z0 [(37,.bool (e10 != a3)),(2000000,.hob 3 [] (M6 p1))]) ?_;exact hK6 (e10 != a3) h
 replace h:=qw hb h;refine WO.fn (e2:=z0 [(37,.bool false),(2000000,.hob 3 [] (M6 p1))]) ?_;exact hK6 false h
def Jp (v15:Int):Option Int :=
 (some v15)
def Jo (a1:(List Int)) (K7:(Int→Option Int)):Nat→Int→Int→Option Int
 | 0,_,_=>none
 | m1+1,v9,v10=>(bif (decide (v10<(a1.length:Int))) then ((idx a1 v10).bind fun e14=>((Jo a1 K7 m1) (if e14<v9 then e14 else v9) (IntKind.wrap .i64 (v10+1)))) else (K7 v9))
def QD (fuel:Nat) (a1:(List Int)):Option Int :=
 (bif (decide ((a1.length:Int)<1)) then none else ((idx a1 0).bind fun e6=>(Jo a1 (Jp) fuel e6 1)))
theorem ZT (fuel:Nat) (a1:(List Int)) (r:Int) (h:QD fuel a1=some r):Run Try.prog (.call 106 [l3 none a1] (I6 r)):=by
 refine cW Try.func106 rfl (env0:=[(0,l3 none a1)]) ?_;unfold QD at h;refine W.seq ?_
 let z0:=fun t=>EN ((0,l3 none a1)::t)
 refine W.rt (e2:=z0 []) ?_;refine W.seq ?_;refine W.seq ?_;refine W.rg ?_;refine WO.pk 1 (some (I6 ((M6 a1).length:Int))) (v:=I6 (a1.length:Int)) (by rw[List.length_map]) (e1:=z0 [(5,l3 none a1),(6,I6 (a1.length:Int))]) ?_;refine WO.fn (e2:=z0 [(7,.bool (decide ((a1.length:Int)<1)))]) ?_;refine W.cb (decide ((a1.length:Int)<1)) (fun hb=>?_) (fun hb=>?_)
 ·replace h:=qv hb h;cases h
 replace h:=qw hb h;refine W.skip ?_;refine W.wk (env':=z0 []) ?_;refine W.seq ?_;refine W.rg ?_;obtain⟨e6,he6,h⟩:=qf h;refine WO.pk 1 (if (0:Int)≤0 then ((M6 a1)[Int.toNat 0]?).map AV.ptr else none) (v:=.ptr (I6 e6)) (Vo (f:=(AV.int .i64)) he6) (e1:=z0 [(9,l3 none a1),(10,.ptr (I6 e6))]) ?_;refine WO.fn (e2:=z0 [(3,I6 e6)]) ?_;refine W.seq ?_;refine W.join (σ:=(Int)) (fun s=>[(3,I6 s)]) (fun s=>(Jp) s=some r) (fun v15 h=>?_) (fun hK7=>?_)
 ·have h:(Jp) v15=some r:=h;unfold Jp at h;refine W.seq ?_;refine W.rt (e2:=[(2,I6 v15)]) ?_;refine W.wk (env':=[(2,I6 v15)]) ?_;cases h;exact W.ret (show qq _ _ _=some _ by kernel_rfl)
 refine W.seq ?_;refine W.rt (e2:=z0 [(3,I6 e6),(4,.int .i64 1)]) ?_;refine W.block ?_;refine W.wk (env':=z0 [(3,I6 e6),(4,.int .i64 1)]) ?_;refine W.fuel (σ:=(Int×Int)) (fun s=>z0 [(3,I6 s.1),(4,I6 s.2)]) (fun m0 s=>Jo a1 (Jp) m0 s.1 s.2=some r) (fun s h=>?_) (fun m1 s h hN1=>?_) fuel (e6,1) h
 ·obtain⟨v9,v10⟩:=s;have h:Jo a1 (Jp) 0 v9 v10=some r:=h;rw[Jo.eq_1]at h;cases h
 ·obtain⟨v9,v10⟩:=s;have h:Jo a1 (Jp) (m1+1) v9 v10=some r:=h;rw[Jo.eq_2]at h;refine W.seq ?_;refine W.seq ?_;refine W.rg ?_
  let z1:=fun t=>z0 ((3,I6 v9)::(4,I6 v10)::t)
  refine WO.pk 2 (some (I6 ((M6 a1).length:Int))) (v:=I6 (a1.length:Int)) (by rw[List.length_map]) (e1:=z1 [(12,I6 v10),(13,l3 none a1),(14,I6 (a1.length:Int))]) ?_;refine WO.fn (e2:=z1 [(15,.bool (decide (v10<(a1.length:Int))))]) ?_;refine W.cb (decide (v10<(a1.length:Int))) (fun hb=>?_) (fun hb=>?_)
  ·replace h:=qv hb h;refine W.skip ?_;refine W.wk (env':=z1 []) ?_;refine W.seq ?_;refine W.block ?_;refine W.rg ?_;obtain⟨e14,he14,h⟩:=qf h;refine WO.pk 3 (if (0:Int)≤v10 then ((M6 a1)[Int.toNat v10]?).map AV.ptr else none) (v:=.ptr (I6 e14)) (Vo (f:=(AV.int .i64)) he14) (e1:=z1 [(18,I6 v9),(19,l3 none a1),(20,I6 v10),(21,.ptr (I6 e14))]) ?_
   let z2:=fun t=>z0 ((3,I6 (if e14<v9 then e14 else v9))::t)
   refine WO.fn (e2:=z2 [(4,I6 v10)]) ?_;refine W.rt (e2:=z2 [(4,I6 (W6 (v10+1)))]) ?_;exact hN1 ((if e14<v9 then e14 else v9),(W6 (v10+1))) h
  replace h:=qw hb h;refine W.exit ?_;refine W.wk (env':=[(3,I6 v9)]) ?_;exact hK7 v9 h
def jX (v15:Int):Option Int :=
 (some v15)
def jy (a1:(List Int)) (K7:(Int→Option Int)):Nat→Int→Int→Option Int
 | 0,_,_=>none
 | m1+1,v9,v10=>(bif (decide (v10<(a1.length:Int))) then ((idx a1 v10).bind fun e14=>((jy a1 K7 m1) (if e14 > v9 then e14 else v9) (IntKind.wrap .i64 (v10+1)))) else (K7 v9))
def JA (fuel:Nat) (a1:(List Int)):Option Int :=
 (bif (decide ((a1.length:Int)<1)) then none else ((idx a1 0).bind fun e6=>(jy a1 (jX) fuel e6 1)))
theorem Xx (fuel:Nat) (a1:(List Int)) (r:Int) (h:JA fuel a1=some r):Run Try.prog (.call 107 [l3 none a1] (I6 r)):=by
 refine cW Try.func107 rfl (env0:=[(0,l3 none a1)]) ?_;unfold JA at h;refine W.seq ?_
 let z0:=fun t=>EN ((0,l3 none a1)::t)
 refine W.rt (e2:=z0 []) ?_;refine W.seq ?_;refine W.seq ?_;refine W.rg ?_;refine WO.pk 1 (some (I6 ((M6 a1).length:Int))) (v:=I6 (a1.length:Int)) (by rw[List.length_map]) (e1:=z0 [(5,l3 none a1),(6,I6 (a1.length:Int))]) ?_;refine WO.fn (e2:=z0 [(7,.bool (decide ((a1.length:Int)<1)))]) ?_;refine W.cb (decide ((a1.length:Int)<1)) (fun hb=>?_) (fun hb=>?_)
 ·replace h:=qv hb h;cases h
 replace h:=qw hb h;refine W.skip ?_;refine W.wk (env':=z0 []) ?_;refine W.seq ?_;refine W.rg ?_;obtain⟨e6,he6,h⟩:=qf h;refine WO.pk 1 (if (0:Int)≤0 then ((M6 a1)[Int.toNat 0]?).map AV.ptr else none) (v:=.ptr (I6 e6)) (Vo (f:=(AV.int .i64)) he6) (e1:=z0 [(9,l3 none a1),(10,.ptr (I6 e6))]) ?_;refine WO.fn (e2:=z0 [(3,I6 e6)]) ?_;refine W.seq ?_;refine W.join (σ:=(Int)) (fun s=>[(3,I6 s)]) (fun s=>(jX) s=some r) (fun v15 h=>?_) (fun hK7=>?_)
 ·have h:(jX) v15=some r:=h;unfold jX at h;refine W.seq ?_;refine W.rt (e2:=[(2,I6 v15)]) ?_;refine W.wk (env':=[(2,I6 v15)]) ?_;cases h;exact W.ret (show qq _ _ _=some _ by kernel_rfl)
 refine W.seq ?_;refine W.rt (e2:=z0 [(3,I6 e6),(4,.int .i64 1)]) ?_;refine W.block ?_;refine W.wk (env':=z0 [(3,I6 e6),(4,.int .i64 1)]) ?_;refine W.fuel (σ:=(Int×Int)) (fun s=>z0 [(3,I6 s.1),(4,I6 s.2)]) (fun m0 s=>jy a1 (jX) m0 s.1 s.2=some r) (fun s h=>?_) (fun m1 s h hN1=>?_) fuel (e6,1) h
 ·obtain⟨v9,v10⟩:=s;have h:jy a1 (jX) 0 v9 v10=some r:=h;rw[jy.eq_1]at h;cases h
 ·obtain⟨v9,v10⟩:=s;have h:jy a1 (jX) (m1+1) v9 v10=some r:=h;rw[jy.eq_2]at h;refine W.seq ?_;refine W.seq ?_;refine W.rg ?_
  let z1:=fun t=>z0 ((3,I6 v9)::(4,I6 v10)::t)
  refine WO.pk 2 (some (I6 ((M6 a1).length:Int))) (v:=I6 (a1.length:Int)) (by rw[List.length_map]) (e1:=z1 [(12,I6 v10),(13,l3 none a1),(14,I6 (a1.length:Int))]) ?_;refine WO.fn (e2:=z1 [(15,.bool (decide (v10<(a1.length:Int))))]) ?_;refine W.cb (decide (v10<(a1.length:Int))) (fun hb=>?_) (fun hb=>?_)
  ·replace h:=qv hb h;refine W.skip ?_;refine W.wk (env':=z1 []) ?_;refine W.seq ?_;refine W.block ?_;refine W.rg ?_;obtain⟨e14,he14,h⟩:=qf h;refine WO.pk 3 (if (0:Int)≤v10 then ((M6 a1)[Int.toNat v10]?).map AV.ptr else none) (v:=.ptr (I6 e14)) (Vo (f:=(AV.int .i64)) he14) (e1:=z1 [(18,I6 v9),(19,l3 none a1),(20,I6 v10),(21,.ptr (I6 e14))]) ?_
   let z2:=fun t=>z0 ((3,I6 (if e14 > v9 then e14 else v9))::t)
   refine WO.fn (e2:=z2 [(4,I6 v10)]) ?_;refine W.rt (e2:=z2 [(4,I6 (W6 (v10+1)))]) ?_;exact hN1 ((if e14 > v9 then e14 else v9),(W6 (v10+1))) h
  replace h:=qw hb h;refine W.exit ?_;refine W.wk (env':=[(3,I6 v9)]) ?_;exact hK7 v9 h
def Qk (v8:Bool):Option Bool :=
 (some v8)
def Zf (fuel:Nat) (a1:apiFact):Option Bool :=
 ((Jy (List.replicate 6 0) a1.qb (a1.qa.length:Int)).bind fun w5=>(bif w5.1 then ((QD fuel a1.qa).bind fun w6=>(bif (decide (w6 ≥ 1)) then ((JA fuel a1.qa).bind fun w7=>((Qk) (decide (w7≤6)))) else ((Qk) false))) else ((Qk) false)))
theorem Dv (fuel:Nat) (a1:apiFact) (r:Bool) (h:Zf fuel a1=some r):Run Try.prog (.call 75 [.agg [I6 a1.qb,l3 none a1.qa]] (.bool r)):=by
 refine cW Try.func75 rfl (env0:=[(0,.agg [I6 a1.qb,l3 none a1.qa])]) ?_;unfold Zf at h;refine W.seq ?_
 let z0:=fun t=>EN ((1,.ptr (.agg [I6 a1.qb,l3 none a1.qa]))::t)
 refine W.regT [1] [1] [] [] (e2:=z0 []) (by kernel_rfl) (by kernel_rfl) (fun _ h=>h) ?_;refine W.seq ?_;refine W.rg ?_;refine WO.steps 1 (e1:=z0 [(3,.box [.int .i64 0,.int .i64 0,.int .i64 0,.int .i64 0,.int .i64 0,.int .i64 0])]) (by kernel_rfl) ?_
 let z1:=fun t=>z0 ((3,.pb 1000003 0)::t)
 let z2:=fun t=>z1 ((1000003,.hob 3 [] (M6 (List.replicate 6 0)))::t)
 refine WO.mv [.arr 3] (env':=z2 []) (by kernel_rfl) ?_;refine WO.fn (e2:=z2 []) ?_;refine W.seq ?_;refine W.join (σ:=(Bool)) (fun s=>[(2,.bool s)]) (fun s=>(Qk) s=some r) (fun v8 h=>?_) (fun hK4=>?_)
 ·have h:(Qk) v8=some r:=h;unfold Qk at h;refine W.wk (env':=[(2,.bool v8)]) ?_;cases h;exact W.ret (show qq _ _ _=some _ by kernel_rfl)
 refine W.rg ?_
 let z3:=fun t=>z1 ((4,.ptr (I6 a1.qb))::(5,I6 a1.qb)::(6,.ptr (l3 none a1.qa))::(7,l3 none a1.qa)::(8,I6 (a1.qa.length:Int))::t)
 refine WO.pk 4 (some (I6 ((M6 a1.qa).length:Int))) (v:=I6 (a1.qa.length:Int)) (by rw[List.length_map]) (e1:=z3 [(1000003,.hob 3 [] (M6 (List.replicate 6 0)))]) ?_;obtain⟨w5,hw5,h⟩:=qf h;refine WO.cm 0 [(1000003,2000000)] [] (F:=103) (args:=[.pb 2000000 0,I6 a1.qb,I6 (a1.qa.length:Int)]) (hp:=[(2000000,.hob 3 [] (M6 (List.replicate 6 0)))]) (hp2:=[(2000000,.hob 3 [] (M6 w5.2))]) (r:=.bool w5.1) (Xm (List.replicate 6 0) a1.qb (a1.qa.length:Int) w5 hw5) (e1:=z3 [(9,.bool w5.1),(1000003,.hob 3 [] (M6 w5.2))]) ?_;refine WO.bk 1 (fun b=>z3 [(9,.bool b),(10,.bool b),(1000003,.hob 3 [] (M6 w5.2))]) w5.1 (fun hb=>?_) (fun hb=>?_)
 ·replace h:=qv hb h;obtain⟨w6,hw6,h⟩:=qf h
  let z4:=fun t=>z3 ((9,.bool true)::(10,.bool true)::(11,.ptr (l3 none a1.qa))::(12,l3 none a1.qa)::(13,I6 w6)::t)
  refine WO.ck 2 (F:=106) (l:=[l3 none a1.qa]) (C:=[]) (r:=I6 w6) (ZT fuel a1.qa w6 hw6) (e1:=z4 [(1000003,.hob 3 [] (M6 w5.2))]) ?_;refine WO.bk 3 (fun b=>z4 [(14,.bool b),(15,.bool b),(16,.bool b),(1000003,.hob 3 [] (M6 w5.2))]) (decide (w6 ≥ 1)) (fun hb=>?_) (fun hb=>?_)
  ·replace h:=qv hb h;obtain⟨w7,hw7,h⟩:=qf h;refine WO.ck 2 (F:=107) (l:=[l3 none a1.qa]) (C:=[]) (r:=I6 w7) (Xx fuel a1.qa w7 hw7) (e1:=z4 [(14,.bool true),(15,.bool true),(16,.bool true),(17,.ptr (l3 none a1.qa)),(18,l3 none a1.qa),(19,I6 w7),(1000003,.hob 3 [] (M6 w5.2))]) ?_;refine WO.fn (e2:=[(2,.bool (decide (w7≤6)))]) ?_;exact hK4 (decide (w7≤6)) h
  replace h:=qw hb h;refine WO.fn (e2:=[(2,.bool false)]) ?_;exact hK4 false h
 replace h:=qw hb h;refine WO.fn (e2:=[(2,.bool false)]) ?_;exact hK4 false h
def Jk (v10:(List qj)):Option (List qj) :=
 (some v10)
def jr (K4:((List qj)→Option (List qj))):List ruLit→Nat→(List qj)→Option (List qj)
 | [],k1,v6=>(K4 v6)
 | x1::r1,k1,v6=>(chk (capOk 32 ((v6++[x1.qe])).length) ((jr K4 r1 (k1+1)) (v6++[x1.qe])))
def Qt (a1:ruRule):Option (List qj) :=
 (chk (lenOk a1.qd) (jr (Jk) a1.qd 0 [a1.qc]))
theorem YK (a1:ruRule) (r:(List qj)) (h:Qt a1=some r):Run Try.prog (.call 105 [.agg [I6 a1.qc.qb,l3 none a1.qc.qa,l56 none a1.qd]] (l50 (some 1) r)):=by
 refine cW Try.func105 rfl (env0:=[(0,.agg [I6 a1.qc.qb,l3 none a1.qc.qa,l56 none a1.qd])]) ?_;unfold Qt at h;refine W.seq ?_
 let z0:=fun t=>EN ((1,.ptr (.agg [I6 a1.qc.qb,l3 none a1.qc.qa,l56 none a1.qd]))::t)
 refine W.regT [1] [1] [] [] (e2:=z0 []) (by kernel_rfl) (by kernel_rfl) (fun _ h=>h) ?_;refine W.seq ?_
 let z1:=fun t=>z0 ((3,l50 (some 8) [a1.qc])::t)
 refine W.rt (e2:=z1 []) ?_;refine W.seq ?_;refine W.join (σ:=((List qj))) (fun s=>[(3,l50 (some 10300) s)]) (fun s=>(Jk) s=some r) (fun v10 h=>?_) (fun hK4=>?_)
 ·have h:(Jk) v10=some r:=h;unfold Jk at h;refine W.seq ?_;refine W.rt (e2:=[(2,l50 (some 10300) v10)]) ?_;refine W.weak [2] [] [] [(10300,some 1)] (env':=[(2,l50 (some 1) v10)]) (by kernel_rfl) ?_;cases h;exact W.ret (show qq _ _ _=some _ by kernel_rfl)
 refine W.seq ?_;refine W.rg ?_;refine WO.pk 2 (some (I6 ((List.map jV a1.qd).length:Int))) (v:=I6 (a1.qd.length:Int)) (by rw[List.length_map]) (e1:=z1 [(9,.ptr (l56 none a1.qd)),(10,l56 none a1.qd),(11,I6 (a1.qd.length:Int))]) ?_;refine WO.fn (e2:=[(3,l50 (some 8) [a1.qc]),(10,l56 none a1.qd),(11,I6 (a1.qd.length:Int)),(12,.int .i64 0)]) ?_;refine W.block ?_;obtain⟨hl1,h⟩:=qi h;refine W.weak [3,10,11,12] [] [] [(8,some 10300)] (env':=[(3,l50 (some 10300) [a1.qc]),(10,l56 none a1.qd),(11,I6 (a1.qd.length:Int)),(12,I6 ((0:Nat):Int))]) (by kernel_rfl) ?_;refine W.range (σ:=((List qj))) a1.qd (fun k1 s=>[(3,l50 (some 10300) s),(10,l56 none a1.qd),(11,I6 (a1.qd.length:Int)),(12,I6 (k1:Int))]) (fun r0 k0 s=>jr (Jk) r0 k0 s=some r) (fun v6 h=>?_) (fun x1 r1 k1 s hx1 hk1 h hN1=>?_) [a1.qc] h
 ·have h:jr (Jk) [] (a1.qd).length v6=some r:=h;rw[jr.eq_1]at h;refine W.seq ?_;refine W.rg ?_
  let z2:=fun t=>EN ((3,l50 (some 10300) v6)::(10,l56 none a1.qd)::(11,I6 (a1.qd.length:Int))::(12,I6 ((a1.qd).length:Int))::(13,.bool false)::t)
  refine WO.pk 0 (some (.bool (decide (((a1.qd).length:Int)<(a1.qd.length:Int))))) (v:=.bool false) (by rw[jw (l:=a1.qd)]) (e1:=z2 []) ?_;refine WO.fn (e2:=z2 []) ?_;refine W.seq ?_;refine W.cb false (fun h=>Bool.noConfusion h) (fun _=>?_);refine W.exit ?_;refine W.wk (env':=[(3,l50 (some 10300) v6)]) ?_;exact hK4 v6 h
 ·obtain⟨v6,rfl⟩:∃ x,x=s:=⟨s,rfl⟩;have h:jr (Jk) (x1::r1) k1 v6=some r:=h;rw[jr.eq_2]at h;refine W.seq ?_;refine W.rg ?_
  let z3:=fun t=>EN ((3,l50 (some 10300) v6)::(10,l56 none a1.qd)::(11,I6 (a1.qd.length:Int))::(12,I6 (k1:Int))::t)
  refine WO.pk 0 (some (.bool (decide ((k1:Int)<(a1.qd.length:Int))))) (v:=.bool true) (by rw[jT hk1]) (e1:=z3 [(13,.bool true)]) ?_;refine WO.fn (e2:=z3 [(13,.bool true)]) ?_;refine W.seq ?_;refine W.cb true (fun _=>?_) (fun h=>Bool.noConfusion h);refine W.skip ?_;refine W.wk (env':=z3 []) ?_;refine W.seq ?_;refine W.block ?_;refine W.seq ?_;refine W.rg ?_;refine WO.pk 0 (if (0:Int)≤(k1:Int) then ((List.map jV a1.qd)[Int.toNat (k1:Int)]?).map AV.ptr else none) (v:=.ptr (.agg [.bool x1.qn,I6 x1.qe.qb,l3 none x1.qe.qa])) (jU (f:=jV) hx1) (e1:=z3 [(14,.ptr (.agg [.bool x1.qn,I6 x1.qe.qb,l3 none x1.qe.qa]))]) ?_;refine WO.fin [3,5,10,11,12] [5] [] [] (e2:=[(3,l50 (some 10300) v6),(5,.ptr (.agg [.bool x1.qn,I6 x1.qe.qb,l3 none x1.qe.qa])),(10,l56 none a1.qd),(11,I6 (a1.qd.length:Int)),(12,I6 (k1:Int))]) (by kernel_rfl) (fun _ h=>h) ?_;refine W.rg ?_;obtain⟨hc9,h⟩:=qi h;refine WO.appendK 4 (d:=20) (e:=50) (s:=2) (bytes:=32) (xs:=(List.map JJ v6)) (ys:=(List.map JJ [x1.qe])) (zs:=(List.map JJ (v6++[x1.qe]))) (env1:=[(3,l50 none v6),(5,.ptr (.agg [.bool x1.qn,I6 x1.qe.qb,l3 none x1.qe.qa])),(10,l56 none a1.qd),(11,I6 (a1.qd.length:Int)),(12,I6 (k1:Int)),(16,l50 none v6),(17,.ptr (.agg [I6 x1.qe.qb,l3 none x1.qe.qa])),(18,.agg [I6 x1.qe.qb,l3 none x1.qe.qa]),(19,l50 (some 19) [x1.qe])]) (by kernel_rfl) (List.map_append.symm) (by rw[List.length_map];exact hc9) (e1:=[(3,l50 none v6),(5,.ptr (.agg [.bool x1.qn,I6 x1.qe.qb,l3 none x1.qe.qa])),(10,l56 none a1.qd),(11,I6 (a1.qd.length:Int)),(12,I6 (k1:Int)),(16,l50 none v6),(17,.ptr (.agg [I6 x1.qe.qb,l3 none x1.qe.qa])),(18,.agg [I6 x1.qe.qb,l3 none x1.qe.qa]),(19,l50 (some 19) [x1.qe]),(20,l50 (some 20) (v6++[x1.qe]))]) (by kernel_rfl) ?_
  let z4:=fun t=>EN ((3,l50 (some 20) (v6++[x1.qe]))::(10,l56 none a1.qd)::(11,I6 (a1.qd.length:Int))::(12,I6 (k1:Int))::t)
  refine WO.fn (e2:=z4 []) ?_;refine W.rg ?_;refine WO.pk 0 (some (I6 (IntKind.wrap .i64 ((k1:Int)+1)))) (v:=I6 ((k1+1:Nat):Int)) (by rw[qX hl1 hk1]) (e1:=z4 [(21,I6 ((k1+1:Nat):Int))]) ?_;refine WO.fin [3,10,11,12] [] [] [(20,some 10300)] (e2:=[(3,l50 (some 10300) (v6++[x1.qe])),(10,l56 none a1.qd),(11,I6 (a1.qd.length:Int)),(12,I6 ((k1+1:Nat):Int))]) (by kernel_rfl) (fun _ h=>h) ?_;exact hN1 (v6++[x1.qe]) h
def qD:Option Bool :=
 (some true)
def jp (N3:(Option Bool)):Option Bool :=
 N3
def JK (N4:(Option Bool)) (v31:Bool):Option Bool :=
 (bif v31 then (some false) else N4)
def qY (v20:(List (Int×Bool))) (K24:(Option Bool)):List Int→Nat→Option Bool
 | [],k4=>K24
 | x4::r4,k4=>(bif (decide (x4 ≥ 0)) then (chk (wfI .i64 x4) ((JK (qY v20 K24 r4 (k4+1))) (!(mget keq1 false x4 v20)))) else ((JK (qY v20 K24 r4 (k4+1))) false))
def qE (v20:(List (Int×Bool))) (K21:(Option Bool)):List qj→Nat→Option Bool
 | [],k3=>K21
 | x3::r3,k3=>(chk (lenOk x3.qa) (qY v20 (jp (qE v20 K21 r3 (k3+1))) x3.qa 0))
def qH (a1:ruRule) (v20:(List (Int×Bool))):Option Bool :=
 ((Qt a1).bind fun w23=>(chk (lenOk w23) (qE v20 (qD) w23 0)))
def jm (N1:((List (Int×Bool))→Option Bool)) (v19:(List (Int×Bool))):Option Bool :=
 (N1 v19)
def JL (N2:((List (Int×Bool))→Option Bool)) (v18:(List (Int×Bool))):Option Bool :=
 (N2 v18)
def qR (x1:ruLit) (K7:((List (Int×Bool))→Option Bool)):List Int→Nat→(List (Int×Bool))→Option Bool
 | [],k2,v10=>(K7 v10)
 | x2::r2,k2,v10=>(chk (wfI .i64 x2) (bif (mget keq1 false x2 v10) then (chk (wfI .i64 x2) (chk (Nat.blt v10.length 1000000000) ((JL (qR x1 K7 r2 (k2+1))) (mset keq1 x2 true v10)))) else (chk (wfI .i64 x2) (chk (Nat.blt v10.length 1000000000) ((JL (qR x1 K7 r2 (k2+1))) (mset keq1 x2 (!x1.qn) v10))))))
def qB (K4:((List (Int×Bool))→Option Bool)):List ruLit→Nat→(List (Int×Bool))→Option Bool
 | [],k1,v6=>(K4 v6)
 | x1::r1,k1,v6=>(chk (lenOk x1.qe.qa) (qR x1 (jm (qB K4 r1 (k1+1))) x1.qe.qa 0 v6))
def Xz (a1:ruRule):Option Bool :=
 (chk (lenOk a1.qd) (qB (qH a1) a1.qd 0 ([]:(List (Int×Bool)))))
theorem Ni (a1:ruRule) (r:Bool) (h:Xz a1=some r):Run Try.prog (.call 104 [.agg [I6 a1.qc.qb,l3 none a1.qc.qa,l56 none a1.qd]] (.bool r)):=by
 refine cW Try.func104 rfl (env0:=[(0,.agg [I6 a1.qc.qb,l3 none a1.qc.qa,l56 none a1.qd])]) ?_;unfold Xz at h;refine W.seq ?_
 let z0:=fun t=>EN ((1,.ptr (.agg [I6 a1.qc.qb,l3 none a1.qc.qa,l56 none a1.qd]))::t)
 refine W.regT [1] [1] [] [] (e2:=z0 []) (by kernel_rfl) (by kernel_rfl) (fun _ h=>h) ?_;refine W.seq ?_
 let z1:=fun t=>z0 ((3,.mb 0 1000012)::t)
 refine W.rt (e2:=z1 [(1000012,hobE (AV.int .i64) AV.bool ([]:(List (Int×Bool))))]) ?_;refine W.seq ?_;refine W.join (σ:=((List (Int×Bool)))) (fun s=>z1 [(1000012,hobE (AV.int .i64) AV.bool s)]) (fun s=>(qH a1) s=some r) (fun v20 h=>?_) (fun hK4=>?_)
 ·have h:(qH a1) v20=some r:=h;unfold qH at h;refine W.seq ?_;refine W.join (σ:=Unit) (fun s=>[]) (fun s=>(qD)=some r) (fun s h=>?_) (fun hK21=>?_)
  ·have h:(qD)=some r:=h;unfold qD at h;refine W.seq ?_;refine W.rt (e2:=[(2,.bool true)]) ?_;refine W.wk (env':=[(2,.bool true)]) ?_;cases h;exact W.ret (show qq _ _ _=some _ by kernel_rfl)
  refine W.seq ?_;refine W.rg ?_;obtain⟨w23,hw23,h⟩:=qf h
  let z2:=fun t=>z1 ((40,.agg [I6 a1.qc.qb,l3 none a1.qc.qa,l56 none a1.qd])::(41,l50 (some 41) w23)::t)
  refine WO.ck 1 (F:=105) (l:=[.agg [I6 a1.qc.qb,l3 none a1.qc.qa,l56 none a1.qd]]) (C:=[]) (r:=l50 (some 1) w23) (YK a1 w23 hw23) (e1:=z2 [(1000012,hobE (AV.int .i64) AV.bool v20)]) ?_;refine WO.pk 0 (some (I6 ((List.map JJ w23).length:Int))) (v:=I6 (w23.length:Int)) (by rw[List.length_map]) (e1:=z2 [(42,I6 (w23.length:Int)),(1000012,hobE (AV.int .i64) AV.bool v20)]) ?_
  let z3:=fun t=>EN ((3,.mb 0 1000012)::(41,l50 (some 41) w23)::(42,I6 (w23.length:Int))::t)
  refine WO.fn (e2:=z3 [(43,.int .i64 0),(1000012,hobE (AV.int .i64) AV.bool v20)]) ?_;refine W.block ?_;obtain⟨hl3,h⟩:=qi h;refine W.wk (env':=z3 [(43,I6 ((0:Nat):Int)),(1000012,hobE (AV.int .i64) AV.bool v20)]) ?_;refine W.range (σ:=Unit) w23 (fun k3 s=>z3 [(43,I6 (k3:Int)),(1000012,hobE (AV.int .i64) AV.bool v20)]) (fun r0 k0 s=>qE v20 (qD) r0 k0=some r) (fun s h=>?_) (fun x3 r3 k3 s hx3 hk3 h hN3=>?_) () h
  ·have h:qE v20 (qD) [] (w23).length=some r:=h;rw[qE.eq_1]at h;refine W.seq ?_;refine W.rg ?_
   let z4:=fun t=>z3 ((43,I6 ((w23).length:Int))::(44,.bool false)::(1000012,hobE (AV.int .i64) AV.bool v20)::t)
   refine WO.pk 0 (some (.bool (decide (((w23).length:Int)<(w23.length:Int))))) (v:=.bool false) (by rw[jw (l:=w23)]) (e1:=z4 []) ?_;refine WO.fn (e2:=z4 []) ?_;refine W.seq ?_;refine W.cb false (fun h=>Bool.noConfusion h) (fun _=>?_);refine W.exit ?_;refine W.wk (env':=[]) ?_;exact hK21 () h
  ·have h:qE v20 (qD) (x3::r3) k3=some r:=h;rw[qE.eq_2]at h;refine W.seq ?_;refine W.rg ?_
   let z5:=fun t=>z3 ((43,I6 (k3:Int))::t)
   let z6:=fun t=>z5 ((44,.bool true)::(1000012,hobE (AV.int .i64) AV.bool v20)::t)
   refine WO.pk 0 (some (.bool (decide ((k3:Int)<(w23.length:Int))))) (v:=.bool true) (by rw[jT hk3]) (e1:=z6 []) ?_;refine WO.fn (e2:=z6 []) ?_;refine W.seq ?_;refine W.cb true (fun _=>?_) (fun h=>Bool.noConfusion h);refine W.skip ?_
   let z7:=fun t=>z5 ((1000012,hobE (AV.int .i64) AV.bool v20)::t)
   refine W.wk (env':=z7 []) ?_;refine W.seq ?_;refine W.join (σ:=Unit) (fun s=>z7 []) (fun s=>(jp (qE v20 (qD) r3 (k3+1)))=some r) (fun s h=>?_) (fun hK24=>?_)
   ·have h:(jp (qE v20 (qD) r3 (k3+1)))=some r:=h;unfold jp at h;refine W.rg ?_;refine WO.pk 0 (some (I6 (IntKind.wrap .i64 ((k3:Int)+1)))) (v:=I6 ((k3+1:Nat):Int)) (by rw[qX hl3 hk3]) (e1:=z5 [(63,I6 ((k3+1:Nat):Int)),(1000012,hobE (AV.int .i64) AV.bool v20)]) ?_;refine WO.fn (e2:=z3 [(43,I6 ((k3+1:Nat):Int)),(1000012,hobE (AV.int .i64) AV.bool v20)]) ?_;exact hN3 () h
   refine W.block ?_;refine W.seq ?_;refine W.rg ?_;refine WO.pk 0 (if (0:Int)≤(k3:Int) then ((List.map JJ w23)[Int.toNat (k3:Int)]?).map AV.ptr else none) (v:=.ptr (.agg [I6 x3.qb,l3 none x3.qa])) (jU (f:=JJ) hx3) (e1:=z5 [(45,.ptr (.agg [I6 x3.qb,l3 none x3.qa])),(1000012,hobE (AV.int .i64) AV.bool v20)]) ?_
   let z8:=fun t=>EN ((3,.mb 0 1000012)::t)
   let z9:=fun t=>z8 ((9,.ptr (.agg [I6 x3.qb,l3 none x3.qa]))::(41,l50 (some 41) w23)::(42,I6 (w23.length:Int))::(43,I6 (k3:Int))::t)
   refine WO.fin [3,9,41,42,43,1000012] [9] [] [] (e2:=z9 [(1000012,hobE (AV.int .i64) AV.bool v20)]) (by kernel_rfl) (fun _ h=>h) ?_;refine W.seq ?_;refine W.rg ?_;refine WO.pk 2 (some (I6 ((M6 x3.qa).length:Int))) (v:=I6 (x3.qa.length:Int)) (by rw[List.length_map]) (e1:=z9 [(47,.ptr (l3 none x3.qa)),(48,l3 none x3.qa),(49,I6 (x3.qa.length:Int)),(1000012,hobE (AV.int .i64) AV.bool v20)]) ?_
   let z10:=fun t=>z5 ((48,l3 none x3.qa)::(49,I6 (x3.qa.length:Int))::t)
   refine WO.fn (e2:=z10 [(50,.int .i64 0),(1000012,hobE (AV.int .i64) AV.bool v20)]) ?_;refine W.block ?_;obtain⟨hl4,h⟩:=qi h;refine W.wk (env':=z10 [(50,I6 ((0:Nat):Int)),(1000012,hobE (AV.int .i64) AV.bool v20)]) ?_;refine W.range (σ:=Unit) x3.qa (fun k4 s=>z10 [(50,I6 (k4:Int)),(1000012,hobE (AV.int .i64) AV.bool v20)]) (fun r0 k0 s=>qY v20 (jp (qE v20 (qD) r3 (k3+1))) r0 k0=some r) (fun s h=>?_) (fun x4 r4 k4 s hx4 hk4 h hN4=>?_) () h
   ·have h:qY v20 (jp (qE v20 (qD) r3 (k3+1))) [] (x3.qa).length=some r:=h;rw[qY.eq_1]at h;refine W.seq ?_;refine W.rg ?_
    let z11:=fun t=>z10 ((50,I6 ((x3.qa).length:Int))::(51,.bool false)::(1000012,hobE (AV.int .i64) AV.bool v20)::t)
    refine WO.pk 0 (some (.bool (decide (((x3.qa).length:Int)<(x3.qa.length:Int))))) (v:=.bool false) (by rw[jw (l:=x3.qa)]) (e1:=z11 []) ?_;refine WO.fn (e2:=z11 []) ?_;refine W.seq ?_;refine W.cb false (fun h=>Bool.noConfusion h) (fun _=>?_);refine W.exit ?_;refine W.wk (env':=z7 []) ?_;exact hK24 () h
   ·have h:qY v20 (jp (qE v20 (qD) r3 (k3+1))) (x4::r4) k4=some r:=h;rw[qY.eq_2]at h;refine W.seq ?_;refine W.rg ?_
    let z12:=fun t=>z10 ((50,I6 (k4:Int))::t)
    let z13:=fun t=>z12 ((51,.bool true)::(1000012,hobE (AV.int .i64) AV.bool v20)::t)
    refine WO.pk 0 (some (.bool (decide ((k4:Int)<(x3.qa.length:Int))))) (v:=.bool true) (by rw[jT hk4]) (e1:=z13 []) ?_;refine WO.fn (e2:=z13 []) ?_;refine W.seq ?_;refine W.cb true (fun _=>?_) (fun h=>Bool.noConfusion h);refine W.skip ?_
    let z14:=fun t=>z12 ((1000012,hobE (AV.int .i64) AV.bool v20)::t)
    refine W.wk (env':=z14 []) ?_;refine W.seq ?_;refine W.block ?_;refine W.seq ?_;refine W.rg ?_;refine WO.pk 0 (if (0:Int)≤(k4:Int) then ((M6 x3.qa)[Int.toNat (k4:Int)]?).map AV.ptr else none) (v:=.ptr (I6 x4)) (jU (f:=(AV.int .i64)) hx4) (e1:=z12 [(52,.ptr (I6 x4)),(1000012,hobE (AV.int .i64) AV.bool v20)]) ?_
    let z15:=fun t=>z8 ((11,I6 x4)::(41,l50 (some 41) w23)::(42,I6 (w23.length:Int))::(43,I6 (k3:Int))::(48,l3 none x3.qa)::(49,I6 (x3.qa.length:Int))::(50,I6 (k4:Int))::t)
    refine WO.fn (e2:=z15 [(1000012,hobE (AV.int .i64) AV.bool v20)]) ?_;refine W.seq ?_;refine W.join (σ:=(Bool)) (fun s=>z12 [(61,.bool s),(1000012,hobE (AV.int .i64) AV.bool v20)]) (fun s=>(JK (qY v20 (jp (qE v20 (qD) r3 (k3+1))) r4 (k4+1))) s=some r) (fun v31 h=>?_) (fun hK29=>?_)
    ·have h:(JK (qY v20 (jp (qE v20 (qD) r3 (k3+1))) r4 (k4+1))) v31=some r:=h;unfold JK at h;refine W.cb v31 (fun hb=>?_) (fun hb=>?_)
     ·replace h:=qv hb h;refine W.seq ?_;refine W.rt (e2:=[(2,.bool false)]) ?_;refine W.wk (env':=[(2,.bool false)]) ?_;cases h;exact W.ret (show qq _ _ _=some _ by kernel_rfl)
     replace h:=qw hb h;refine W.skip ?_;refine W.wk (env':=z14 []) ?_;refine W.rg ?_;refine WO.pk 0 (some (I6 (IntKind.wrap .i64 ((k4:Int)+1)))) (v:=I6 ((k4+1:Nat):Int)) (by rw[qX hl4 hk4]) (e1:=z12 [(62,I6 ((k4+1:Nat):Int)),(1000012,hobE (AV.int .i64) AV.bool v20)]) ?_;refine WO.fn (e2:=z10 [(50,I6 ((k4+1:Nat):Int)),(1000012,hobE (AV.int .i64) AV.bool v20)]) ?_;exact hN4 () h
    refine W.rg ?_;refine WO.bk 3 (fun b=>z15 [(54,I6 x4),(55,.bool b),(56,.bool b),(1000012,hobE (AV.int .i64) AV.bool v20)]) (decide (x4 ≥ 0)) (fun hb=>?_) (fun hb=>?_)
    ·replace h:=qv hb h;obtain⟨hc30,h⟩:=qi h;refine WO.pk 2 ((alookup Try.prog 188 [] (mpE (AV.int .i64) AV.bool v20) (I6 x4)).map AV.strip) (v:=.bool (mget keq1 false x4 v20)) (congrArg (Option.map AV.strip) (Up (F:=(AV.int .i64)) (G:=AV.bool) (eq:=keq1) (l:=v20) (k:=x4) (z:=false) (kt:=3) (e:=4) (UK hc30) (by kernel_rfl) (fun x=>by kernel_rfl) (fun x y=>by kernel_rfl) (by kernel_rfl))) (e1:=z15 [(54,I6 x4),(55,.bool true),(56,.bool true),(57,.mb 0 1000012),(58,I6 x4),(59,.bool (mget keq1 false x4 v20)),(1000012,hobE (AV.int .i64) AV.bool v20)]) ?_;refine WO.fn (e2:=z12 [(61,.bool (!(mget keq1 false x4 v20))),(1000012,hobE (AV.int .i64) AV.bool v20)]) ?_;exact hK29 (!(mget keq1 false x4 v20)) h
    replace h:=qw hb h;refine WO.fn (e2:=z12 [(61,.bool false),(1000012,hobE (AV.int .i64) AV.bool v20)]) ?_;exact hK29 false h
 refine W.seq ?_;refine W.rg ?_;refine WO.pk 2 (some (I6 ((List.map jV a1.qd).length:Int))) (v:=I6 (a1.qd.length:Int)) (by rw[List.length_map]) (e1:=z1 [(13,.ptr (l56 none a1.qd)),(14,l56 none a1.qd),(15,I6 (a1.qd.length:Int)),(1000012,hobE (AV.int .i64) AV.bool ([]:(List (Int×Bool))))]) ?_
 let z16:=fun t=>z1 ((14,l56 none a1.qd)::(15,I6 (a1.qd.length:Int))::t)
 refine WO.fn (e2:=z16 [(16,.int .i64 0),(1000012,hobE (AV.int .i64) AV.bool ([]:(List (Int×Bool))))]) ?_;refine W.block ?_;obtain⟨hl1,h⟩:=qi h;refine W.wk (env':=z16 [(16,I6 ((0:Nat):Int)),(1000012,hobE (AV.int .i64) AV.bool ([]:(List (Int×Bool))))]) ?_;refine W.range (σ:=((List (Int×Bool)))) a1.qd (fun k1 s=>z16 [(16,I6 (k1:Int)),(1000012,hobE (AV.int .i64) AV.bool s)]) (fun r0 k0 s=>qB (qH a1) r0 k0 s=some r) (fun v6 h=>?_) (fun x1 r1 k1 s hx1 hk1 h hN1=>?_) ([]:(List (Int×Bool))) h
 ·have h:qB (qH a1) [] (a1.qd).length v6=some r:=h;rw[qB.eq_1]at h;refine W.seq ?_;refine W.rg ?_
  let z17:=fun t=>z16 ((16,I6 ((a1.qd).length:Int))::(17,.bool false)::(1000012,hobE (AV.int .i64) AV.bool v6)::t)
  refine WO.pk 0 (some (.bool (decide (((a1.qd).length:Int)<(a1.qd.length:Int))))) (v:=.bool false) (by rw[jw (l:=a1.qd)]) (e1:=z17 []) ?_;refine WO.fn (e2:=z17 []) ?_;refine W.seq ?_;refine W.cb false (fun h=>Bool.noConfusion h) (fun _=>?_);refine W.exit ?_;refine W.wk (env':=z1 [(1000012,hobE (AV.int .i64) AV.bool v6)]) ?_;exact hK4 v6 h
 ·obtain⟨v6,rfl⟩:∃ x,x=s:=⟨s,rfl⟩;have h:qB (qH a1) (x1::r1) k1 v6=some r:=h;rw[qB.eq_2]at h;refine W.seq ?_;refine W.rg ?_
  let z18:=fun t=>z16 ((16,I6 (k1:Int))::t)
  let z19:=fun t=>z18 ((17,.bool true)::(1000012,hobE (AV.int .i64) AV.bool v6)::t)
  refine WO.pk 0 (some (.bool (decide ((k1:Int)<(a1.qd.length:Int))))) (v:=.bool true) (by rw[jT hk1]) (e1:=z19 []) ?_;refine WO.fn (e2:=z19 []) ?_;refine W.seq ?_;refine W.cb true (fun _=>?_) (fun h=>Bool.noConfusion h);refine W.skip ?_;refine W.wk (env':=z18 [(1000012,hobE (AV.int .i64) AV.bool v6)]) ?_;refine W.seq ?_;refine W.join (σ:=((List (Int×Bool)))) (fun s=>z18 [(1000012,hobE (AV.int .i64) AV.bool s)]) (fun s=>(jm (qB (qH a1) r1 (k1+1))) s=some r) (fun v19 h=>?_) (fun hK7=>?_)
  ·have h:(jm (qB (qH a1) r1 (k1+1))) v19=some r:=h;unfold jm at h;refine W.rg ?_;refine WO.pk 0 (some (I6 (IntKind.wrap .i64 ((k1:Int)+1)))) (v:=I6 ((k1+1:Nat):Int)) (by rw[qX hl1 hk1]) (e1:=z18 [(39,I6 ((k1+1:Nat):Int)),(1000012,hobE (AV.int .i64) AV.bool v19)]) ?_;refine WO.fn (e2:=z16 [(16,I6 ((k1+1:Nat):Int)),(1000012,hobE (AV.int .i64) AV.bool v19)]) ?_;exact hN1 v19 h
  refine W.block ?_;refine W.seq ?_;refine W.rg ?_;refine WO.pk 0 (if (0:Int)≤(k1:Int) then ((List.map jV a1.qd)[Int.toNat (k1:Int)]?).map AV.ptr else none) (v:=.ptr (.agg [.bool x1.qn,I6 x1.qe.qb,l3 none x1.qe.qa])) (jU (f:=jV) hx1) (e1:=z18 [(18,.ptr (.agg [.bool x1.qn,I6 x1.qe.qb,l3 none x1.qe.qa])),(1000012,hobE (AV.int .i64) AV.bool v6)]) ?_
  let z20:=fun t=>z1 ((5,.ptr (.agg [.bool x1.qn,I6 x1.qe.qb,l3 none x1.qe.qa]))::(14,l56 none a1.qd)::(15,I6 (a1.qd.length:Int))::(16,I6 (k1:Int))::t)
  refine WO.fin [1,3,5,14,15,16,1000012] [5] [] [] (e2:=z20 [(1000012,hobE (AV.int .i64) AV.bool v6)]) (by kernel_rfl) (fun _ h=>h) ?_;refine W.seq ?_;refine W.rg ?_;refine WO.pk 3 (some (I6 ((M6 x1.qe.qa).length:Int))) (v:=I6 (x1.qe.qa.length:Int)) (by rw[List.length_map]) (e1:=z20 [(20,.ptr (.agg [I6 x1.qe.qb,l3 none x1.qe.qa])),(21,.ptr (l3 none x1.qe.qa)),(22,l3 none x1.qe.qa),(23,I6 (x1.qe.qa.length:Int)),(1000012,hobE (AV.int .i64) AV.bool v6)]) ?_
  let z21:=fun t=>z20 ((22,l3 none x1.qe.qa)::(23,I6 (x1.qe.qa.length:Int))::t)
  refine WO.fn (e2:=z21 [(24,.int .i64 0),(1000012,hobE (AV.int .i64) AV.bool v6)]) ?_;refine W.block ?_;obtain⟨hl2,h⟩:=qi h;refine W.wk (env':=z21 [(24,I6 ((0:Nat):Int)),(1000012,hobE (AV.int .i64) AV.bool v6)]) ?_;refine W.range (σ:=((List (Int×Bool)))) x1.qe.qa (fun k2 s=>z21 [(24,I6 (k2:Int)),(1000012,hobE (AV.int .i64) AV.bool s)]) (fun r0 k0 s=>qR x1 (jm (qB (qH a1) r1 (k1+1))) r0 k0 s=some r) (fun v10 h=>?_) (fun x2 r2 k2 s hx2 hk2 h hN2=>?_) v6 h
  ·have h:qR x1 (jm (qB (qH a1) r1 (k1+1))) [] (x1.qe.qa).length v10=some r:=h;rw[qR.eq_1]at h;refine W.seq ?_;refine W.rg ?_
   let z22:=fun t=>z21 ((24,I6 ((x1.qe.qa).length:Int))::(25,.bool false)::(1000012,hobE (AV.int .i64) AV.bool v10)::t)
   refine WO.pk 0 (some (.bool (decide (((x1.qe.qa).length:Int)<(x1.qe.qa.length:Int))))) (v:=.bool false) (by rw[jw (l:=x1.qe.qa)]) (e1:=z22 []) ?_;refine WO.fn (e2:=z22 []) ?_;refine W.seq ?_;refine W.cb false (fun h=>Bool.noConfusion h) (fun _=>?_);refine W.exit ?_;refine W.wk (env':=z18 [(1000012,hobE (AV.int .i64) AV.bool v10)]) ?_;exact hK7 v10 h
  ·obtain⟨v10,rfl⟩:∃ x,x=s:=⟨s,rfl⟩;have h:qR x1 (jm (qB (qH a1) r1 (k1+1))) (x2::r2) k2 v10=some r:=h;rw[qR.eq_2]at h;refine W.seq ?_;refine W.rg ?_
   let z23:=fun t=>z21 ((24,I6 (k2:Int))::t)
   let z24:=fun t=>z23 ((25,.bool true)::(1000012,hobE (AV.int .i64) AV.bool v10)::t)
   refine WO.pk 0 (some (.bool (decide ((k2:Int)<(x1.qe.qa.length:Int))))) (v:=.bool true) (by rw[jT hk2]) (e1:=z24 []) ?_;refine WO.fn (e2:=z24 []) ?_;refine W.seq ?_;refine W.cb true (fun _=>?_) (fun h=>Bool.noConfusion h);refine W.skip ?_;refine W.wk (env':=z23 [(1000012,hobE (AV.int .i64) AV.bool v10)]) ?_;refine W.seq ?_;refine W.join (σ:=((List (Int×Bool)))) (fun s=>z23 [(1000012,hobE (AV.int .i64) AV.bool s)]) (fun s=>(JL (qR x1 (jm (qB (qH a1) r1 (k1+1))) r2 (k2+1))) s=some r) (fun v18 h=>?_) (fun hK11=>?_)
   ·have h:(JL (qR x1 (jm (qB (qH a1) r1 (k1+1))) r2 (k2+1))) v18=some r:=h;unfold JL at h;refine W.rg ?_;refine WO.pk 0 (some (I6 (IntKind.wrap .i64 ((k2:Int)+1)))) (v:=I6 ((k2+1:Nat):Int)) (by rw[qX hl2 hk2]) (e1:=z23 [(38,I6 ((k2+1:Nat):Int)),(1000012,hobE (AV.int .i64) AV.bool v18)]) ?_;refine WO.fn (e2:=z21 [(24,I6 ((k2+1:Nat):Int)),(1000012,hobE (AV.int .i64) AV.bool v18)]) ?_;exact hN2 v18 h
   refine W.block ?_;refine W.seq ?_;refine W.rg ?_;refine WO.pk 0 (if (0:Int)≤(k2:Int) then ((M6 x1.qe.qa)[Int.toNat (k2:Int)]?).map AV.ptr else none) (v:=.ptr (I6 x2)) (jU (f:=(AV.int .i64)) hx2) (e1:=z23 [(26,.ptr (I6 x2)),(1000012,hobE (AV.int .i64) AV.bool v10)]) ?_
   let z25:=fun t=>z1 ((5,.ptr (.agg [.bool x1.qn,I6 x1.qe.qb,l3 none x1.qe.qa]))::(7,I6 x2)::(14,l56 none a1.qd)::(15,I6 (a1.qd.length:Int))::(16,I6 (k1:Int))::(22,l3 none x1.qe.qa)::(23,I6 (x1.qe.qa.length:Int))::(24,I6 (k2:Int))::t)
   refine WO.fn (e2:=z25 [(1000012,hobE (AV.int .i64) AV.bool v10)]) ?_;refine W.rg ?_;obtain⟨hc13,h⟩:=qi h
   let z26:=fun t=>z25 ((28,.mb 0 1000012)::(29,I6 x2)::(30,.mb 0 1000012)::(31,I6 x2)::t)
   refine WO.pk 4 ((alookup Try.prog 188 [] (mpE (AV.int .i64) AV.bool v10) (I6 x2)).map AV.strip) (v:=.bool (mget keq1 false x2 v10)) (congrArg (Option.map AV.strip) (Up (F:=(AV.int .i64)) (G:=AV.bool) (eq:=keq1) (l:=v10) (k:=x2) (z:=false) (kt:=3) (e:=4) (UK hc13) (by kernel_rfl) (fun x=>by kernel_rfl) (fun x y=>by kernel_rfl) (by kernel_rfl))) (e1:=z26 [(32,.bool (mget keq1 false x2 v10)),(1000012,hobE (AV.int .i64) AV.bool v10)]) ?_;refine WO.bk 1 (fun b=>z26 [(32,.bool b),(33,.bool b),(1000012,hobE (AV.int .i64) AV.bool v10)]) (mget keq1 false x2 v10) (fun hb=>?_) (fun hb=>?_)
   ·replace h:=qv hb h;obtain⟨hc14,h⟩:=qi h;obtain⟨hc15,h⟩:=qi h;refine WO.mapK (F:=(AV.int .i64)) (G:=AV.bool) (eq:=keq1) (l:=v10) (a:=x2) (b:=true) (id:=1000012) (kt:=3) 4 (UK hc14) hc15 (e1:=z26 [(32,.bool true),(33,.bool true),(34,.und),(35,.und),(36,.und),(37,.bool true),(1000012,hobE (AV.int .i64) AV.bool (mset keq1 x2 true v10))]) ?_ (fun x=>by kernel_rfl) (fun x y=>by kernel_rfl);refine WO.fn (e2:=z23 [(1000012,hobE (AV.int .i64) AV.bool (mset keq1 x2 true v10))]) ?_;exact hK11 (mset keq1 x2 true v10) h
   replace h:=qw hb h;obtain⟨hc16,h⟩:=qi h;obtain⟨hc17,h⟩:=qi h;refine WO.mapK (F:=(AV.int .i64)) (G:=AV.bool) (eq:=keq1) (l:=v10) (a:=x2) (b:=(!x1.qn)) (id:=1000012) (kt:=3) 4 (UK hc16) hc17 (e1:=z26 [(32,.bool false),(33,.bool false),(34,.ptr (.bool x1.qn)),(35,.bool x1.qn),(36,.bool (!x1.qn)),(37,.bool (!x1.qn)),(1000012,hobE (AV.int .i64) AV.bool (mset keq1 x2 (!x1.qn) v10))]) ?_ (fun x=>by kernel_rfl) (fun x y=>by kernel_rfl);refine WO.fn (e2:=z23 [(1000012,hobE (AV.int .i64) AV.bool (mset keq1 x2 (!x1.qn) v10))]) ?_;exact hK11 (mset keq1 x2 (!x1.qn) v10) h
def qT:Option Bool :=
 (some true)
def ju (N2:((List Int)→Option Bool)) (v43:(List Int)):Option Bool :=
 (N2 v43)
def Qj (N3:((List Int)→Option Bool)) (v40:(List Int)) (v41:Bool):Option Bool :=
 (bif v41 then (some false) else (N3 v40))
def jx (fuel:Nat) (K24:((List Int)→Option Bool)):List qj→Nat→(List Int)→Option Bool
 | [],k3,v33=>(K24 v33)
 | x3::r3,k3,v33=>((Jy v33 x3.qb (x3.qa.length:Int)).bind fun w37=>(bif (!w37.1) then ((Qj (jx fuel K24 r3 (k3+1))) w37.2 true) else ((QD fuel x3.qa).bind fun w38=>(bif (decide (w38<(-6))) then ((Qj (jx fuel K24 r3 (k3+1))) w37.2 true) else ((JA fuel x3.qa).bind fun w39=>((Qj (jx fuel K24 r3 (k3+1))) w37.2 (decide (w39 ≥ 8))))))))
def QM (fuel:Nat) (x2:ruRule) (v23:(List Int)) (K24:((List Int)→Option Bool)) (v29:Bool):Option Bool :=
 (bif v29 then (some false) else ((Qt x2).bind fun w32=>(chk (lenOk w32) (jx fuel K24 w32 0 v23))))
def qP (fuel:Nat) (K21:(Option Bool)):List ruRule→Nat→(List Int)→Option Bool
 | [],k2,v23=>K21
 | x2::r2,k2,v23=>(bif (decide ((x2.qd.length:Int) > 3)) then ((QM fuel x2 v23 (ju (qP fuel K21 r2 (k2+1)))) true) else ((Xz x2).bind fun w28=>((QM fuel x2 v23 (ju (qP fuel K21 r2 (k2+1)))) (!w28))))
def Jx (fuel:Nat) (a1:(List ruRule)) (v20:(List Int)):Option Bool :=
 (chk (lenOk a1) (qP fuel (qT) a1 0 v20))
def QN (N1:((List Int)→Option Bool)) (v17:(List Int)) (v18:Bool):Option Bool :=
 (bif v18 then (some false) else (N1 v17))
def jG (fuel:Nat) (K9:((List Int)→Option Bool)):List apiFact→Nat→(List Int)→Option Bool
 | [],k1,v11=>(K9 v11)
 | x1::r1,k1,v11=>((Zf fuel x1).bind fun w15=>(bif (!w15) then ((QN (jG fuel K9 r1 (k1+1))) v11 true) else ((Jy v11 x1.qb (x1.qa.length:Int)).bind fun w16=>((QN (jG fuel K9 r1 (k1+1))) w16.2 (!w16.1)))))
def Xr (fuel:Nat) (a1:(List ruRule)) (a2:(List apiFact)) (v7:Bool):Option Bool :=
 (bif v7 then (some false) else (chk (lenOk a2) (jG fuel (Jx fuel a1) a2 0 (List.replicate 6 0))))
def Qo (fuel:Nat) (a1:(List ruRule)) (a2:(List apiFact)):Option Bool :=
 (bif (decide ((a1.length:Int) > 10)) then ((Xr fuel a1 a2) true) else ((Xr fuel a1 a2) (decide ((a2.length:Int) > 20))))
theorem Zx (fuel:Nat) (a1:(List ruRule)) (a2:(List apiFact)) (r:Bool) (h:Qo fuel a1 a2=some r):Run Try.prog (.call 56 [l54 none a1,l41 none a2] (.bool r)):=by
 refine cW Try.func56 rfl (env0:=[(0,l54 none a1),(1,l41 none a2)]) ?_;unfold Qo at h;refine W.seq ?_
 let z0:=fun t=>EN ((0,l54 none a1)::t)
 let z1:=fun t=>z0 ((1,l41 none a2)::t)
 refine W.rt (e2:=z1 []) ?_;refine W.seq ?_;refine W.rg ?_;refine WO.steps 1 (e1:=z1 [(5,.box [.int .i64 0,.int .i64 0,.int .i64 0,.int .i64 0,.int .i64 0,.int .i64 0])]) (by kernel_rfl) ?_
 let z2:=fun t=>z1 ((5,.pb 1000005 0)::t)
 let z3:=fun t=>z2 ((1000005,.hob 3 [] (M6 (List.replicate 6 0)))::t)
 refine WO.mv [.arr 5] (env':=z3 []) (by kernel_rfl) ?_;refine WO.fn (e2:=z3 []) ?_;refine W.seq ?_;refine W.seq ?_;refine W.join (σ:=(Bool)) (fun s=>z2 [(19,.bool s),(1000005,.hob 3 [] (M6 (List.replicate 6 0)))]) (fun s=>(Xr fuel a1 a2) s=some r) (fun v7 h=>?_) (fun hK6=>?_)
 ·have h:(Xr fuel a1 a2) v7=some r:=h;unfold Xr at h;refine W.cb v7 (fun hb=>?_) (fun hb=>?_)
  ·replace h:=qv hb h;refine W.seq ?_;refine W.rt (e2:=[(4,.bool false)]) ?_;refine W.wk (env':=[(4,.bool false)]) ?_;cases h;exact W.ret (show qq _ _ _=some _ by kernel_rfl)
  replace h:=qw hb h;refine W.skip ?_;refine W.wk (env':=z3 []) ?_;refine W.seq ?_
  let z4:=fun t=>z0 ((5,.pb 1000005 0)::t)
  refine W.join (σ:=((List Int))) (fun s=>z4 [(1000005,.hob 3 [] (M6 s))]) (fun s=>(Jx fuel a1) s=some r) (fun v20 h=>?_) (fun hK9=>?_)
  ·have h:(Jx fuel a1) v20=some r:=h;unfold Jx at h;refine W.seq ?_;refine W.join (σ:=Unit) (fun s=>[]) (fun s=>(qT)=some r) (fun s h=>?_) (fun hK21=>?_)
   ·have h:(qT)=some r:=h;unfold qT at h;refine W.seq ?_;refine W.rt (e2:=[(4,.bool true)]) ?_;refine W.wk (env':=[(4,.bool true)]) ?_;cases h;exact W.ret (show qq _ _ _=some _ by kernel_rfl)
   refine W.seq ?_;refine W.rg ?_;refine WO.pk 1 (some (I6 ((List.map ja a1).length:Int))) (v:=I6 (a1.length:Int)) (by rw[List.length_map]) (e1:=z4 [(39,l54 none a1),(40,I6 (a1.length:Int)),(1000005,.hob 3 [] (M6 v20))]) ?_
   let z5:=fun t=>EN ((5,.pb 1000005 0)::(39,l54 none a1)::(40,I6 (a1.length:Int))::t)
   refine WO.fn (e2:=z5 [(41,.int .i64 0),(1000005,.hob 3 [] (M6 v20))]) ?_;refine W.block ?_;obtain⟨hl2,h⟩:=qi h;refine W.wk (env':=z5 [(41,I6 ((0:Nat):Int)),(1000005,.hob 3 [] (M6 v20))]) ?_;refine W.range (σ:=((List Int))) a1 (fun k2 s=>z5 [(41,I6 (k2:Int)),(1000005,.hob 3 [] (M6 s))]) (fun r0 k0 s=>qP fuel (qT) r0 k0 s=some r) (fun v23 h=>?_) (fun x2 r2 k2 s hx2 hk2 h hN2=>?_) v20 h
   ·have h:qP fuel (qT) [] (a1).length v23=some r:=h;rw[qP.eq_1]at h;refine W.seq ?_;refine W.rg ?_
    let z6:=fun t=>z5 ((41,I6 ((a1).length:Int))::(42,.bool false)::(1000005,.hob 3 [] (M6 v23))::t)
    refine WO.pk 0 (some (.bool (decide (((a1).length:Int)<(a1.length:Int))))) (v:=.bool false) (by rw[jw (l:=a1)]) (e1:=z6 []) ?_;refine WO.fn (e2:=z6 []) ?_;refine W.seq ?_;refine W.cb false (fun h=>Bool.noConfusion h) (fun _=>?_);refine W.exit ?_;refine W.wk (env':=[]) ?_;exact hK21 () h
   ·obtain⟨v23,rfl⟩:∃ x,x=s:=⟨s,rfl⟩;have h:qP fuel (qT) (x2::r2) k2 v23=some r:=h;rw[qP.eq_2]at h;refine W.seq ?_;refine W.rg ?_
    let z7:=fun t=>z5 ((41,I6 (k2:Int))::t)
    let z8:=fun t=>z7 ((42,.bool true)::(1000005,.hob 3 [] (M6 v23))::t)
    refine WO.pk 0 (some (.bool (decide ((k2:Int)<(a1.length:Int))))) (v:=.bool true) (by rw[jT hk2]) (e1:=z8 []) ?_;refine WO.fn (e2:=z8 []) ?_;refine W.seq ?_;refine W.cb true (fun _=>?_) (fun h=>Bool.noConfusion h);refine W.skip ?_;refine W.wk (env':=z7 [(1000005,.hob 3 [] (M6 v23))]) ?_;refine W.seq ?_;refine W.join (σ:=((List Int))) (fun s=>z7 [(1000005,.hob 3 [] (M6 s))]) (fun s=>(ju (qP fuel (qT) r2 (k2+1))) s=some r) (fun v43 h=>?_) (fun hK24=>?_)
    ·have h:(ju (qP fuel (qT) r2 (k2+1))) v43=some r:=h;unfold ju at h;refine W.rg ?_;refine WO.pk 0 (some (I6 (IntKind.wrap .i64 ((k2:Int)+1)))) (v:=I6 ((k2+1:Nat):Int)) (by rw[qX hl2 hk2]) (e1:=z7 [(81,I6 ((k2+1:Nat):Int)),(1000005,.hob 3 [] (M6 v43))]) ?_;refine WO.fn (e2:=z5 [(41,I6 ((k2+1:Nat):Int)),(1000005,.hob 3 [] (M6 v43))]) ?_;exact hN2 v43 h
    refine W.block ?_;refine W.seq ?_;refine W.rg ?_;refine WO.pk 0 (if (0:Int)≤(k2:Int) then ((List.map ja a1)[Int.toNat (k2:Int)]?).map AV.ptr else none) (v:=.ptr (.agg [I6 x2.qc.qb,l3 none x2.qc.qa,l56 none x2.qd])) (jU (f:=ja) hx2) (e1:=z7 [(43,.ptr (.agg [I6 x2.qc.qb,l3 none x2.qc.qa,l56 none x2.qd])),(1000005,.hob 3 [] (M6 v23))]) ?_
    let z9:=fun t=>EN ((5,.pb 1000005 0)::(9,.ptr (.agg [I6 x2.qc.qb,l3 none x2.qc.qa,l56 none x2.qd]))::(39,l54 none a1)::(40,I6 (a1.length:Int))::(41,I6 (k2:Int))::t)
    refine WO.fin [5,9,39,40,41,1000005] [9] [] [] (e2:=z9 [(1000005,.hob 3 [] (M6 v23))]) (by kernel_rfl) (fun _ h=>h) ?_;refine W.seq ?_;refine W.seq ?_;refine W.join (σ:=(Bool)) (fun s=>z9 [(53,.bool s),(1000005,.hob 3 [] (M6 v23))]) (fun s=>(QM fuel x2 v23 (ju (qP fuel (qT) r2 (k2+1)))) s=some r) (fun v29 h=>?_) (fun hK27=>?_)
    ·have h:(QM fuel x2 v23 (ju (qP fuel (qT) r2 (k2+1)))) v29=some r:=h;unfold QM at h;refine W.cb v29 (fun hb=>?_) (fun hb=>?_)
     ·replace h:=qv hb h;refine W.seq ?_;refine W.rt (e2:=[(4,.bool false)]) ?_;refine W.wk (env':=[(4,.bool false)]) ?_;cases h;exact W.ret (show qq _ _ _=some _ by kernel_rfl)
     replace h:=qw hb h;refine W.skip ?_;refine W.wk (env':=z9 [(1000005,.hob 3 [] (M6 v23))]) ?_;refine W.seq ?_;refine W.rg ?_;obtain⟨w32,hw32,h⟩:=qf h
     let z10:=fun t=>z9 ((54,.agg [I6 x2.qc.qb,l3 none x2.qc.qa,l56 none x2.qd])::(55,l50 (some 55) w32)::t)
     refine WO.ck 1 (F:=105) (l:=[.agg [I6 x2.qc.qb,l3 none x2.qc.qa,l56 none x2.qd]]) (C:=[]) (r:=l50 (some 1) w32) (YK x2 w32 hw32) (e1:=z10 [(1000005,.hob 3 [] (M6 v23))]) ?_;refine WO.pk 0 (some (I6 ((List.map JJ w32).length:Int))) (v:=I6 (w32.length:Int)) (by rw[List.length_map]) (e1:=z10 [(56,I6 (w32.length:Int)),(1000005,.hob 3 [] (M6 v23))]) ?_
     let z11:=fun t=>z7 ((55,l50 (some 55) w32)::(56,I6 (w32.length:Int))::t)
     refine WO.fn (e2:=z11 [(57,.int .i64 0),(1000005,.hob 3 [] (M6 v23))]) ?_;refine W.block ?_;obtain⟨hl3,h⟩:=qi h;refine W.wk (env':=z11 [(57,I6 ((0:Nat):Int)),(1000005,.hob 3 [] (M6 v23))]) ?_;refine W.range (σ:=((List Int))) w32 (fun k3 s=>z11 [(57,I6 (k3:Int)),(1000005,.hob 3 [] (M6 s))]) (fun r0 k0 s=>jx fuel (ju (qP fuel (qT) r2 (k2+1))) r0 k0 s=some r) (fun v33 h=>?_) (fun x3 r3 k3 s hx3 hk3 h hN3=>?_) v23 h
     ·have h:jx fuel (ju (qP fuel (qT) r2 (k2+1))) [] (w32).length v33=some r:=h;rw[jx.eq_1]at h;refine W.seq ?_;refine W.rg ?_
      let z12:=fun t=>z11 ((57,I6 ((w32).length:Int))::(58,.bool false)::(1000005,.hob 3 [] (M6 v33))::t)
      refine WO.pk 0 (some (.bool (decide (((w32).length:Int)<(w32.length:Int))))) (v:=.bool false) (by rw[jw (l:=w32)]) (e1:=z12 []) ?_;refine WO.fn (e2:=z12 []) ?_;refine W.seq ?_;refine W.cb false (fun h=>Bool.noConfusion h) (fun _=>?_);refine W.exit ?_;refine W.wk (env':=z7 [(1000005,.hob 3 [] (M6 v33))]) ?_;exact hK24 v33 h
     ·obtain⟨v33,rfl⟩:∃ x,x=s:=⟨s,rfl⟩;have h:jx fuel (ju (qP fuel (qT) r2 (k2+1))) (x3::r3) k3 v33=some r:=h;rw[jx.eq_2]at h;refine W.seq ?_;refine W.rg ?_
      let z13:=fun t=>z11 ((57,I6 (k3:Int))::t)
      let z14:=fun t=>z13 ((58,.bool true)::(1000005,.hob 3 [] (M6 v33))::t)
      refine WO.pk 0 (some (.bool (decide ((k3:Int)<(w32.length:Int))))) (v:=.bool true) (by rw[jT hk3]) (e1:=z14 []) ?_;refine WO.fn (e2:=z14 []) ?_;refine W.seq ?_;refine W.cb true (fun _=>?_) (fun h=>Bool.noConfusion h);refine W.skip ?_;refine W.wk (env':=z13 [(1000005,.hob 3 [] (M6 v33))]) ?_;refine W.seq ?_;refine W.block ?_;refine W.seq ?_;refine W.rg ?_;refine WO.pk 0 (if (0:Int)≤(k3:Int) then ((List.map JJ w32)[Int.toNat (k3:Int)]?).map AV.ptr else none) (v:=.ptr (.agg [I6 x3.qb,l3 none x3.qa])) (jU (f:=JJ) hx3) (e1:=z13 [(59,.ptr (.agg [I6 x3.qb,l3 none x3.qa])),(1000005,.hob 3 [] (M6 v33))]) ?_
      let z15:=fun t=>EN ((5,.pb 1000005 0)::(11,.ptr (.agg [I6 x3.qb,l3 none x3.qa]))::(39,l54 none a1)::(40,I6 (a1.length:Int))::(41,I6 (k2:Int))::(55,l50 (some 55) w32)::(56,I6 (w32.length:Int))::(57,I6 (k3:Int))::t)
      refine WO.fin [5,11,39,40,41,55,56,57,1000005] [11] [] [] (e2:=z15 [(1000005,.hob 3 [] (M6 v33))]) (by kernel_rfl) (fun _ h=>h) ?_;refine W.seq ?_;refine W.join (σ:=((List Int)×Bool)) (fun s=>z13 [(79,.bool s.2),(1000005,.hob 3 [] (M6 s.1))]) (fun s=>(Qj (jx fuel (ju (qP fuel (qT) r2 (k2+1))) r3 (k3+1))) s.1 s.2=some r) (fun s h=>?_) (fun hK36=>?_)
      ·obtain⟨v40,v41⟩:=s;have h:(Qj (jx fuel (ju (qP fuel (qT) r2 (k2+1))) r3 (k3+1))) v40 v41=some r:=h;unfold Qj at h;refine W.cb v41 (fun hb=>?_) (fun hb=>?_)
       ·replace h:=qv hb h;refine W.seq ?_;refine W.rt (e2:=[(4,.bool false)]) ?_;refine W.wk (env':=[(4,.bool false)]) ?_;cases h;exact W.ret (show qq _ _ _=some _ by kernel_rfl)
       replace h:=qw hb h;refine W.skip ?_;refine W.wk (env':=z13 [(1000005,.hob 3 [] (M6 v40))]) ?_;refine W.rg ?_;refine WO.pk 0 (some (I6 (IntKind.wrap .i64 ((k3:Int)+1)))) (v:=I6 ((k3+1:Nat):Int)) (by rw[qX hl3 hk3]) (e1:=z13 [(80,I6 ((k3+1:Nat):Int)),(1000005,.hob 3 [] (M6 v40))]) ?_;refine WO.fn (e2:=z11 [(57,I6 ((k3+1:Nat):Int)),(1000005,.hob 3 [] (M6 v40))]) ?_;exact hN3 v40 h
      refine W.rg ?_
      let z16:=fun t=>z15 ((61,.ptr (I6 x3.qb))::(62,I6 x3.qb)::(63,.ptr (l3 none x3.qa))::(64,l3 none x3.qa)::(65,I6 (x3.qa.length:Int))::t)
      refine WO.pk 4 (some (I6 ((M6 x3.qa).length:Int))) (v:=I6 (x3.qa.length:Int)) (by rw[List.length_map]) (e1:=z16 [(1000005,.hob 3 [] (M6 v33))]) ?_;obtain⟨w37,hw37,h⟩:=qf h
      let z17:=fun t=>z16 ((66,.bool w37.1)::t)
      refine WO.cm 0 [(1000005,2000000)] [] (F:=103) (args:=[.pb 2000000 0,I6 x3.qb,I6 (x3.qa.length:Int)]) (hp:=[(2000000,.hob 3 [] (M6 v33))]) (hp2:=[(2000000,.hob 3 [] (M6 w37.2))]) (r:=.bool w37.1) (Xm v33 x3.qb (x3.qa.length:Int) w37 hw37) (e1:=z17 [(1000005,.hob 3 [] (M6 w37.2))]) ?_;refine WO.bk 2 (fun b=>z17 [(67,.bool b),(68,.bool b),(1000005,.hob 3 [] (M6 w37.2))]) (!w37.1) (fun hb=>?_) (fun hb=>?_)
      ·replace h:=qv hb h;refine WO.fn (e2:=z13 [(79,.bool true),(1000005,.hob 3 [] (M6 w37.2))]) ?_;exact hK36 (w37.2,true) h
      replace h:=qw hb h;obtain⟨w38,hw38,h⟩:=qf h
      let z18:=fun t=>z17 ((67,.bool false)::(68,.bool false)::(69,.ptr (l3 none x3.qa))::(70,l3 none x3.qa)::(71,I6 w38)::t)
      refine WO.ck 2 (F:=106) (l:=[l3 none x3.qa]) (C:=[]) (r:=I6 w38) (ZT fuel x3.qa w38 hw38) (e1:=z18 [(1000005,.hob 3 [] (M6 w37.2))]) ?_;refine WO.bk 3 (fun b=>z18 [(72,.bool b),(73,.bool b),(74,.bool b),(1000005,.hob 3 [] (M6 w37.2))]) (decide (w38<(-6))) (fun hb=>?_) (fun hb=>?_)
      ·replace h:=qv hb h;refine WO.fn (e2:=z13 [(79,.bool true),(1000005,.hob 3 [] (M6 w37.2))]) ?_;exact hK36 (w37.2,true) h
      replace h:=qw hb h;obtain⟨w39,hw39,h⟩:=qf h;refine WO.ck 2 (F:=107) (l:=[l3 none x3.qa]) (C:=[]) (r:=I6 w39) (Xx fuel x3.qa w39 hw39) (e1:=z18 [(72,.bool false),(73,.bool false),(74,.bool false),(75,.ptr (l3 none x3.qa)),(76,l3 none x3.qa),(77,I6 w39),(1000005,.hob 3 [] (M6 w37.2))]) ?_;refine WO.fn (e2:=z13 [(79,.bool (decide (w39 ≥ 8))),(1000005,.hob 3 [] (M6 w37.2))]) ?_;exact hK36 (w37.2,(decide (w39 ≥ 8))) h
    refine W.rg ?_
    let z19:=fun t=>z9 ((45,.ptr (l56 none x2.qd))::(46,l56 none x2.qd)::(47,I6 (x2.qd.length:Int))::t)
    refine WO.pk 2 (some (I6 ((List.map jV x2.qd).length:Int))) (v:=I6 (x2.qd.length:Int)) (by rw[List.length_map]) (e1:=z19 [(1000005,.hob 3 [] (M6 v23))]) ?_;refine WO.bk 2 (fun b=>z19 [(48,.bool b),(49,.bool b),(1000005,.hob 3 [] (M6 v23))]) (decide ((x2.qd.length:Int) > 3)) (fun hb=>?_) (fun hb=>?_)
    ·replace h:=qv hb h;refine WO.fn (e2:=z9 [(53,.bool true),(1000005,.hob 3 [] (M6 v23))]) ?_;exact hK27 true h
    replace h:=qw hb h;obtain⟨w28,hw28,h⟩:=qf h;refine WO.ck 1 (F:=104) (l:=[.agg [I6 x2.qc.qb,l3 none x2.qc.qa,l56 none x2.qd]]) (C:=[]) (r:=.bool w28) (Ni x2 w28 hw28) (e1:=z19 [(48,.bool false),(49,.bool false),(50,.agg [I6 x2.qc.qb,l3 none x2.qc.qa,l56 none x2.qd]),(51,.bool w28),(1000005,.hob 3 [] (M6 v23))]) ?_;refine WO.fn (e2:=z9 [(53,.bool (!w28)),(1000005,.hob 3 [] (M6 v23))]) ?_;exact hK27 (!w28) h
  refine W.seq ?_;refine W.rg ?_;refine WO.pk 1 (some (I6 ((List.map qg a2).length:Int))) (v:=I6 (a2.length:Int)) (by rw[List.length_map]) (e1:=z2 [(20,l41 none a2),(21,I6 (a2.length:Int)),(1000005,.hob 3 [] (M6 (List.replicate 6 0)))]) ?_
  let z20:=fun t=>z4 ((20,l41 none a2)::(21,I6 (a2.length:Int))::t)
  refine WO.fn (e2:=z20 [(22,.int .i64 0),(1000005,.hob 3 [] (M6 (List.replicate 6 0)))]) ?_;refine W.block ?_;obtain⟨hl1,h⟩:=qi h;refine W.wk (env':=z20 [(22,I6 ((0:Nat):Int)),(1000005,.hob 3 [] (M6 (List.replicate 6 0)))]) ?_;refine W.range (σ:=((List Int))) a2 (fun k1 s=>z20 [(22,I6 (k1:Int)),(1000005,.hob 3 [] (M6 s))]) (fun r0 k0 s=>jG fuel (Jx fuel a1) r0 k0 s=some r) (fun v11 h=>?_) (fun x1 r1 k1 s hx1 hk1 h hN1=>?_) (List.replicate 6 0) h
  ·have h:jG fuel (Jx fuel a1) [] (a2).length v11=some r:=h;rw[jG.eq_1]at h;refine W.seq ?_;refine W.rg ?_
   let z21:=fun t=>z20 ((22,I6 ((a2).length:Int))::(23,.bool false)::(1000005,.hob 3 [] (M6 v11))::t)
   refine WO.pk 0 (some (.bool (decide (((a2).length:Int)<(a2.length:Int))))) (v:=.bool false) (by rw[jw (l:=a2)]) (e1:=z21 []) ?_;refine WO.fn (e2:=z21 []) ?_;refine W.seq ?_;refine W.cb false (fun h=>Bool.noConfusion h) (fun _=>?_);refine W.exit ?_;refine W.wk (env':=z4 [(1000005,.hob 3 [] (M6 v11))]) ?_;exact hK9 v11 h
  ·obtain⟨v11,rfl⟩:∃ x,x=s:=⟨s,rfl⟩;have h:jG fuel (Jx fuel a1) (x1::r1) k1 v11=some r:=h;rw[jG.eq_2]at h;refine W.seq ?_;refine W.rg ?_
   let z22:=fun t=>z20 ((22,I6 (k1:Int))::t)
   let z23:=fun t=>z22 ((23,.bool true)::(1000005,.hob 3 [] (M6 v11))::t)
   refine WO.pk 0 (some (.bool (decide ((k1:Int)<(a2.length:Int))))) (v:=.bool true) (by rw[jT hk1]) (e1:=z23 []) ?_;refine WO.fn (e2:=z23 []) ?_;refine W.seq ?_;refine W.cb true (fun _=>?_) (fun h=>Bool.noConfusion h);refine W.skip ?_;refine W.wk (env':=z22 [(1000005,.hob 3 [] (M6 v11))]) ?_;refine W.seq ?_;refine W.block ?_;refine W.seq ?_;refine W.rg ?_;refine WO.pk 0 (if (0:Int)≤(k1:Int) then ((List.map qg a2)[Int.toNat (k1:Int)]?).map AV.ptr else none) (v:=.ptr (.agg [I6 x1.qb,l3 none x1.qa])) (jU (f:=qg) hx1) (e1:=z22 [(24,.ptr (.agg [I6 x1.qb,l3 none x1.qa])),(1000005,.hob 3 [] (M6 v11))]) ?_
   let z24:=fun t=>z4 ((7,.ptr (.agg [I6 x1.qb,l3 none x1.qa]))::(20,l41 none a2)::(21,I6 (a2.length:Int))::(22,I6 (k1:Int))::t)
   refine WO.fin [0,5,7,20,21,22,1000005] [7] [] [] (e2:=z24 [(1000005,.hob 3 [] (M6 v11))]) (by kernel_rfl) (fun _ h=>h) ?_;refine W.seq ?_;refine W.join (σ:=((List Int)×Bool)) (fun s=>z22 [(37,.bool s.2),(1000005,.hob 3 [] (M6 s.1))]) (fun s=>(QN (jG fuel (Jx fuel a1) r1 (k1+1))) s.1 s.2=some r) (fun s h=>?_) (fun hK14=>?_)
   ·obtain⟨v17,v18⟩:=s;have h:(QN (jG fuel (Jx fuel a1) r1 (k1+1))) v17 v18=some r:=h;unfold QN at h;refine W.cb v18 (fun hb=>?_) (fun hb=>?_)
    ·replace h:=qv hb h;refine W.seq ?_;refine W.rt (e2:=[(4,.bool false)]) ?_;refine W.wk (env':=[(4,.bool false)]) ?_;cases h;exact W.ret (show qq _ _ _=some _ by kernel_rfl)
    replace h:=qw hb h;refine W.skip ?_;refine W.wk (env':=z22 [(1000005,.hob 3 [] (M6 v17))]) ?_;refine W.rg ?_;refine WO.pk 0 (some (I6 (IntKind.wrap .i64 ((k1:Int)+1)))) (v:=I6 ((k1+1:Nat):Int)) (by rw[qX hl1 hk1]) (e1:=z22 [(38,I6 ((k1+1:Nat):Int)),(1000005,.hob 3 [] (M6 v17))]) ?_;refine WO.fn (e2:=z20 [(22,I6 ((k1+1:Nat):Int)),(1000005,.hob 3 [] (M6 v17))]) ?_;exact hN1 v17 h
   refine W.rg ?_;obtain⟨w15,hw15,h⟩:=qf h
   let z25:=fun t=>z24 ((26,.agg [I6 x1.qb,l3 none x1.qa])::(27,.bool w15)::t)
   refine WO.ck 1 (F:=75) (l:=[.agg [I6 x1.qb,l3 none x1.qa]]) (C:=[]) (r:=.bool w15) (Dv fuel x1 w15 hw15) (e1:=z25 [(1000005,.hob 3 [] (M6 v11))]) ?_;refine WO.bk 2 (fun b=>z25 [(28,.bool b),(29,.bool b),(1000005,.hob 3 [] (M6 v11))]) (!w15) (fun hb=>?_) (fun hb=>?_)
   ·replace h:=qv hb h;refine WO.fn (e2:=z22 [(37,.bool true),(1000005,.hob 3 [] (M6 v11))]) ?_;exact hK14 (v11,true) h
   replace h:=qw hb h
   let z26:=fun t=>z25 ((28,.bool false)::(29,.bool false)::(30,.ptr (I6 x1.qb))::(31,I6 x1.qb)::(32,.ptr (l3 none x1.qa))::(33,l3 none x1.qa)::(34,I6 (x1.qa.length:Int))::t)
   refine WO.pk 4 (some (I6 ((M6 x1.qa).length:Int))) (v:=I6 (x1.qa.length:Int)) (by rw[List.length_map]) (e1:=z26 [(1000005,.hob 3 [] (M6 v11))]) ?_;obtain⟨w16,hw16,h⟩:=qf h;refine WO.cm 0 [(1000005,2000000)] [] (F:=103) (args:=[.pb 2000000 0,I6 x1.qb,I6 (x1.qa.length:Int)]) (hp:=[(2000000,.hob 3 [] (M6 v11))]) (hp2:=[(2000000,.hob 3 [] (M6 w16.2))]) (r:=.bool w16.1) (Xm v11 x1.qb (x1.qa.length:Int) w16 hw16) (e1:=z26 [(35,.bool w16.1),(1000005,.hob 3 [] (M6 w16.2))]) ?_;refine WO.fn (e2:=z22 [(37,.bool (!w16.1)),(1000005,.hob 3 [] (M6 w16.2))]) ?_;exact hK14 (w16.2,(!w16.1)) h
 refine W.rg ?_
 let z27:=fun t=>z2 ((12,l54 none a1)::(13,I6 (a1.length:Int))::t)
 refine WO.pk 1 (some (I6 ((List.map ja a1).length:Int))) (v:=I6 (a1.length:Int)) (by rw[List.length_map]) (e1:=z27 [(1000005,.hob 3 [] (M6 (List.replicate 6 0)))]) ?_;refine WO.bk 2 (fun b=>z27 [(14,.bool b),(15,.bool b),(1000005,.hob 3 [] (M6 (List.replicate 6 0)))]) (decide ((a1.length:Int) > 10)) (fun hb=>?_) (fun hb=>?_)
 ·replace h:=qv hb h;refine WO.fn (e2:=z2 [(19,.bool true),(1000005,.hob 3 [] (M6 (List.replicate 6 0)))]) ?_;exact hK6 true h
 replace h:=qw hb h;refine WO.pk 1 (some (I6 ((List.map qg a2).length:Int))) (v:=I6 (a2.length:Int)) (by rw[List.length_map]) (e1:=z27 [(14,.bool false),(15,.bool false),(16,l41 none a2),(17,I6 (a2.length:Int)),(1000005,.hob 3 [] (M6 (List.replicate 6 0)))]) ?_;refine WO.fn (e2:=z2 [(19,.bool (decide ((a2.length:Int) > 20))),(1000005,.hob 3 [] (M6 (List.replicate 6 0)))]) ?_;exact hK6 (decide ((a2.length:Int) > 20)) h
def qI (fuel:Nat) (v7:Int) (N1:((List Int)→Int→Option ((List Int)×Bool))) (v38:(List Int)) (v39:Bool):Option ((List Int)×Bool) :=
 (bif (!v39) then (some ((snap 0 (Int.toNat 6) v38),true)) else ((JA fuel (snap 0 (Int.toNat 6) v38)).bind fun w44=>(bif (decide (w44 > 6)) then (some ((snap 0 (([]:(List Int)).length) ([]:(List Int))),false)) else (N1 v38 (IntKind.wrap .i64 (v7+1))))))
def jn (N2:((List Int)→Bool→Option ((List Int)×Bool))) (v36:(List Int)) (v37:Bool):Option ((List Int)×Bool) :=
 (N2 v36 v37)
def Jr (N3:((List Int)→Bool→Option ((List Int)×Bool))) (v34:(List Int)) (v35:Bool):Option ((List Int)×Bool) :=
 (N3 v34 v35)
def Qb (x2:ruRule) (v17:(List Int)) (v18:Bool) (K19:((List Int)→Bool→Option ((List Int)×Bool))) (v26:Int):Option ((List Int)×Bool) :=
 (chk (decide ((0:Int)≤x2.qc.qb∧x2.qc.qb<(((Int.toNat 6):Nat):Int))) ((v17[(0+Int.toNat x2.qc.qb)]?).bind fun e29=>(bif (decide (v26 > e29)) then (chk (decide ((0:Int)≤x2.qc.qb∧x2.qc.qb<(((Int.toNat 6):Nat):Int))) ((upd v17 (0+Int.toNat x2.qc.qb) v26).bind fun u32=>(K19 u32 true))) else (K19 v17 v18))))
def jd (x2:ruRule) (K14:((List Int)→Bool→Option ((List Int)×Bool))):List ruLit→Nat→(List Int)→Bool→Option ((List Int)×Bool)
 | [],k3,v17,v18=>(K14 v17 v18)
 | x3::r3,k3,v17,v18=>(chk (decide ((0:Int)≤x3.qe.qb∧x3.qe.qb<(((Int.toNat 6):Nat):Int))) ((v17[(0+Int.toNat x3.qe.qb)]?).bind fun e23=>(bif x3.qn then ((Qb x2 v17 v18 (Jr (jd x2 K14 r3 (k3+1)))) (IntKind.wrap .i64 (e23+1))) else ((Qb x2 v17 v18 (Jr (jd x2 K14 r3 (k3+1)))) e23))))
def qK (K10:((List Int)→Bool→Option ((List Int)×Bool))):List ruRule→Nat→(List Int)→Bool→Option ((List Int)×Bool)
 | [],k2,v12,v13=>(K10 v12 v13)
 | x2::r2,k2,v12,v13=>(chk (lenOk x2.qd) (jd x2 (jn (qK K10 r2 (k2+1))) x2.qd 0 v12 v13))
def qx (fuel:Nat) (a1:(List ruRule)):Nat→(List Int)→Int→Option ((List Int)×Bool)
 | 0,_,_=>none
 | m1+1,v6,v7=>(chk (lenOk a1) (qK (qI fuel v7 (qx fuel a1 m1)) a1 0 v6 false))
def QO (fuel:Nat) (a1:(List ruRule)):Option ((List Int)×Bool) :=
 (chk (mkOk 8 6) (qx fuel a1 fuel (List.replicate (Int.toNat 6) 0) 0))
theorem Du (fuel:Nat) (a1:(List ruRule)) (r:((List Int)×Bool)) (h:QO fuel a1=some r):Run Try.prog (.call 85 [l54 none a1] (.tup [l3 none r.1,.bool r.2])):=by
 refine cW Try.func85 rfl (env0:=[(0,l54 none a1)]) ?_;unfold QO at h;refine W.seq ?_;refine W.rg ?_
 let z0:=fun t=>EN ((0,l54 none a1)::t)
 refine WO.steps 1 (e1:=z0 [(2,.nils)]) (by kernel_rfl) ?_
 let z1:=fun t=>z0 ((2,.sb 1200002 3 1 0 (([]:(List Int)).length))::t)
 refine WO.mv [.nil 2 3 1 1200002] (env':=z1 [(1200002,.obj 3 1 (M6 ([]:(List Int))))]) (by kernel_rfl) ?_;refine WO.fn (e2:=z0 []) ?_;refine W.seq ?_;refine W.rg ?_;obtain⟨hc4,h⟩:=qi h;refine WO.makeK 0 (d:=12) (e:=3) (s:=1) (bytes:=8) (m:=6) (z:=(.int .i64 0)) (zs:=(M6 (List.replicate (Int.toNat 6) 0))) (env1:=[(0,l54 none a1),(12,.sb 1000012 3 1 0 (Int.toNat 6))]) (by kernel_rfl) hc4 (by first | exact qdZ | exact (qdZ (f:=(AV.int .i64)))) (e1:=z0 [(12,.sb 1000012 3 1 0 (Int.toNat 6)),(1000012,.obj 3 1 (M6 (List.replicate (Int.toNat 6) 0)))]) (by kernel_rfl) ?_
 let z2:=fun t=>z0 ((4,.sb 1000012 3 1 0 (Int.toNat 6))::t)
 refine WO.fn (e2:=z2 [(1000012,.obj 3 1 (M6 (List.replicate (Int.toNat 6) 0)))]) ?_;refine W.seq ?_
 let z3:=fun t=>z2 ((5,.int .i64 0)::(1000012,.obj 3 1 (M6 (List.replicate (Int.toNat 6) 0)))::t)
 refine W.rt (e2:=z3 []) ?_;refine W.block ?_;refine W.wk (env':=z3 []) ?_;refine W.fuel (σ:=((List Int)×Int)) (fun s=>z2 [(5,I6 s.2),(1000012,.obj 3 1 (M6 s.1))]) (fun m0 s=>qx fuel a1 m0 s.1 s.2=some r) (fun s h=>?_) (fun m1 s h hN1=>?_) fuel ((List.replicate (Int.toNat 6) 0),0) h
 ·obtain⟨v6,v7⟩:=s;have h:qx fuel a1 0 v6 v7=some r:=h;rw[qx.eq_1]at h;cases h
 ·obtain⟨v6,v7⟩:=s;have h:qx fuel a1 (m1+1) v6 v7=some r:=h;rw[qx.eq_2]at h;refine W.seq ?_;refine W.block ?_;refine W.seq ?_
  let z4:=fun t=>z2 ((5,I6 v7)::t)
  let z5:=fun t=>z4 ((6,.bool false)::t)
  refine W.rt (e2:=z5 [(1000012,.obj 3 1 (M6 v6))]) ?_;refine W.seq ?_;refine W.join (σ:=((List Int)×Bool)) (fun s=>z4 [(6,.bool s.2),(1000012,.obj 3 1 (M6 s.1))]) (fun s=>(qI fuel v7 (qx fuel a1 m1)) s.1 s.2=some r) (fun s h=>?_) (fun hK10=>?_)
  ·obtain⟨v38,v39⟩:=s;have h:(qI fuel v7 (qx fuel a1 m1)) v38 v39=some r:=h;unfold qI at h;refine W.seq ?_;refine W.seq ?_;refine W.rt (e2:=z4 [(55,.bool (!v39)),(1000012,.obj 3 1 (M6 v38))]) ?_;refine W.cb (!v39) (fun hb=>?_) (fun hb=>?_)
   ·replace h:=qv hb h;refine W.seq ?_;refine W.rt (e2:=[(2,.sb 1000012 3 1 0 (Int.toNat 6)),(3,.bool true),(1000012,.obj 3 1 (M6 v38))]) ?_
    let z6:=fun t=>EN ((2,l3 none (snap 0 (Int.toNat 6) v38))::(3,.bool true)::t)
    refine W.mv [.frz 1000012] (env':=z6 []) ((by kernel_rfl:mvAll [(2,.sb 1000012 3 1 0 (Int.toNat 6)),(3,.bool true),(1000012,.obj 3 1 (M6 v38))] [.frz 1000012]=[(2,.lst 3 1 none (snapA 0 (Int.toNat 6) (M6 v38))),(3,.bool true)]).trans (by first | (simp only[QW,Qs,QV];done) | (simp only[QW,Qs,QV];kernel_rfl))) ?_;refine W.wk (env':=z6 []) ?_;cases h;exact W.ret (show qq _ _ _=some _ by kernel_rfl)
   replace h:=qw hb h;refine W.skip ?_;refine W.wk (env':=z4 [(1000012,.obj 3 1 (M6 v38))]) ?_;refine W.seq ?_;refine W.rg ?_;obtain⟨w44,hw44,h⟩:=qf h;refine WO.callRK 1 (F:=107) (l:=[.lst 3 1 none (snapA 0 (Int.toNat 6) (M6 v38))]) (C:=[]) (args:=[l3 none (snap 0 (Int.toNat 6) v38)]) (r:=I6 w44) (by kernel_rfl) (by first | (simp only[QW,Qs,QV,List.cons_append,List.nil_append];done) | (simp only[QW,Qs,QV,List.cons_append,List.nil_append];kernel_rfl)) (by kernel_rfl) (by kernel_rfl) (Xx fuel (snap 0 (Int.toNat 6) v38) w44 hw44) (e1:=z4 [(57,.sb 1000012 3 1 0 (Int.toNat 6)),(58,I6 w44),(1000012,.obj 3 1 (M6 v38))]) (by kernel_rfl) ?_;refine WO.fn (e2:=z4 [(59,.bool (decide (w44 > 6))),(1000012,.obj 3 1 (M6 v38))]) ?_;refine W.cb (decide (w44 > 6)) (fun hb=>?_) (fun hb=>?_)
   ·replace h:=qv hb h;refine W.seq ?_;refine W.rg ?_;refine WO.steps 1 (e1:=z0 [(2,.nils),(4,.sb 1000012 3 1 0 (Int.toNat 6)),(5,I6 v7),(59,.bool (decide (w44 > 6))),(1000012,.obj 3 1 (M6 v38))]) (by kernel_rfl) ?_;refine WO.mv [.nil 2 3 1 1200002] (env':=z1 [(4,.sb 1000012 3 1 0 (Int.toNat 6)),(5,I6 v7),(59,.bool (decide (w44 > 6))),(1000012,.obj 3 1 (M6 v38)),(1200002,.obj 3 1 (M6 ([]:(List Int))))]) (by kernel_rfl) ?_;refine WO.fn (e2:=[(2,.sb 1200002 3 1 0 (([]:(List Int)).length)),(3,.bool false),(1200002,.obj 3 1 (M6 ([]:(List Int))))]) ?_
    let z7:=fun t=>EN ((2,l3 none (snap 0 (([]:(List Int)).length) ([]:(List Int))))::(3,.bool false)::t)
    refine W.mv [.frz 1200002] (env':=z7 []) ((by kernel_rfl:mvAll [(2,.sb 1200002 3 1 0 (([]:(List Int)).length)),(3,.bool false),(1200002,.obj 3 1 (M6 ([]:(List Int))))] [.frz 1200002]=[(2,.lst 3 1 none (snapA 0 (([]:(List Int)).length) (M6 ([]:(List Int))))),(3,.bool false)]).trans (by first | (simp only[QW,Qs,QV];done) | (simp only[QW,Qs,QV];kernel_rfl))) ?_;refine W.wk (env':=z7 []) ?_;cases h;exact W.ret (show qq _ _ _=some _ by kernel_rfl)
   replace h:=qw hb h;refine W.skip ?_;refine W.wk (env':=z4 [(1000012,.obj 3 1 (M6 v38))]) ?_;refine W.rt (e2:=z2 [(5,I6 (W6 (v7+1))),(1000012,.obj 3 1 (M6 v38))]) ?_;exact hN1 (v38,(W6 (v7+1))) h
  refine W.seq ?_;refine W.rg ?_
  let z8:=fun t=>z5 ((15,l54 none a1)::(16,I6 (a1.length:Int))::t)
  refine WO.pk 1 (some (I6 ((List.map ja a1).length:Int))) (v:=I6 (a1.length:Int)) (by rw[List.length_map]) (e1:=z8 [(1000012,.obj 3 1 (M6 v6))]) ?_;refine WO.fn (e2:=z8 [(17,.int .i64 0),(1000012,.obj 3 1 (M6 v6))]) ?_;refine W.block ?_;obtain⟨hl2,h⟩:=qi h;refine W.wk (env':=z8 [(17,I6 ((0:Nat):Int)),(1000012,.obj 3 1 (M6 v6))]) ?_;refine W.range (σ:=((List Int)×Bool)) a1 (fun k2 s=>z4 [(6,.bool s.2),(15,l54 none a1),(16,I6 (a1.length:Int)),(17,I6 (k2:Int)),(1000012,.obj 3 1 (M6 s.1))]) (fun r0 k0 s=>qK (qI fuel v7 (qx fuel a1 m1)) r0 k0 s.1 s.2=some r) (fun s h=>?_) (fun x2 r2 k2 s hx2 hk2 h hN2=>?_) (v6,false) h
  ·obtain⟨v12,v13⟩:=s;have h:qK (qI fuel v7 (qx fuel a1 m1)) [] (a1).length v12 v13=some r:=h;rw[qK.eq_1]at h;refine W.seq ?_;refine W.rg ?_
   let z9:=fun t=>z4 ((6,.bool v13)::(15,l54 none a1)::(16,I6 (a1.length:Int))::(17,I6 ((a1).length:Int))::(18,.bool false)::(1000012,.obj 3 1 (M6 v12))::t)
   refine WO.pk 0 (some (.bool (decide (((a1).length:Int)<(a1.length:Int))))) (v:=.bool false) (by rw[jw (l:=a1)]) (e1:=z9 []) ?_;refine WO.fn (e2:=z9 []) ?_;refine W.seq ?_;refine W.cb false (fun h=>Bool.noConfusion h) (fun _=>?_);refine W.exit ?_;refine W.wk (env':=z4 [(6,.bool v13),(1000012,.obj 3 1 (M6 v12))]) ?_;exact hK10 (v12,v13) h
  ·obtain⟨v12,v13⟩:=s;have h:qK (qI fuel v7 (qx fuel a1 m1)) (x2::r2) k2 v12 v13=some r:=h;rw[qK.eq_2]at h;refine W.seq ?_;refine W.rg ?_
   let z10:=fun t=>z4 ((6,.bool v13)::(15,l54 none a1)::(16,I6 (a1.length:Int))::(17,I6 (k2:Int))::t)
   let z11:=fun t=>z10 ((18,.bool true)::(1000012,.obj 3 1 (M6 v12))::t)
   refine WO.pk 0 (some (.bool (decide ((k2:Int)<(a1.length:Int))))) (v:=.bool true) (by rw[jT hk2]) (e1:=z11 []) ?_;refine WO.fn (e2:=z11 []) ?_;refine W.seq ?_;refine W.cb true (fun _=>?_) (fun h=>Bool.noConfusion h);refine W.skip ?_;refine W.wk (env':=z10 [(1000012,.obj 3 1 (M6 v12))]) ?_;refine W.seq ?_;refine W.join (σ:=((List Int)×Bool)) (fun s=>z4 [(6,.bool s.2),(15,l54 none a1),(16,I6 (a1.length:Int)),(17,I6 (k2:Int)),(1000012,.obj 3 1 (M6 s.1))]) (fun s=>(jn (qK (qI fuel v7 (qx fuel a1 m1)) r2 (k2+1))) s.1 s.2=some r) (fun s h=>?_) (fun hK14=>?_)
   ·obtain⟨v36,v37⟩:=s;have h:(jn (qK (qI fuel v7 (qx fuel a1 m1)) r2 (k2+1))) v36 v37=some r:=h;unfold jn at h;refine W.rg ?_
    let z12:=fun t=>z4 ((6,.bool v37)::(15,l54 none a1)::(16,I6 (a1.length:Int))::t)
    refine WO.pk 0 (some (I6 (IntKind.wrap .i64 ((k2:Int)+1)))) (v:=I6 ((k2+1:Nat):Int)) (by rw[qX hl2 hk2]) (e1:=z12 [(17,I6 (k2:Int)),(53,I6 ((k2+1:Nat):Int)),(1000012,.obj 3 1 (M6 v36))]) ?_;refine WO.fn (e2:=z12 [(17,I6 ((k2+1:Nat):Int)),(1000012,.obj 3 1 (M6 v36))]) ?_;exact hN2 (v36,v37) h
   refine W.block ?_;refine W.seq ?_;refine W.rg ?_;refine WO.pk 0 (if (0:Int)≤(k2:Int) then ((List.map ja a1)[Int.toNat (k2:Int)]?).map AV.ptr else none) (v:=.ptr (.agg [I6 x2.qc.qb,l3 none x2.qc.qa,l56 none x2.qd])) (jU (f:=ja) hx2) (e1:=z10 [(19,.ptr (.agg [I6 x2.qc.qb,l3 none x2.qc.qa,l56 none x2.qd])),(1000012,.obj 3 1 (M6 v12))]) ?_
   let z13:=fun t=>z4 ((6,.bool v13)::(8,.ptr (.agg [I6 x2.qc.qb,l3 none x2.qc.qa,l56 none x2.qd]))::(15,l54 none a1)::(16,I6 (a1.length:Int))::(17,I6 (k2:Int))::t)
   refine WO.fin [0,4,5,6,8,15,16,17,1000012] [8] [] [] (e2:=z13 [(1000012,.obj 3 1 (M6 v12))]) (by kernel_rfl) (fun _ h=>h) ?_;refine W.seq ?_;refine W.rg ?_;refine WO.pk 2 (some (I6 ((List.map jV x2.qd).length:Int))) (v:=I6 (x2.qd.length:Int)) (by rw[List.length_map]) (e1:=z13 [(21,.ptr (l56 none x2.qd)),(22,l56 none x2.qd),(23,I6 (x2.qd.length:Int)),(1000012,.obj 3 1 (M6 v12))]) ?_
   let z14:=fun t=>z13 ((22,l56 none x2.qd)::(23,I6 (x2.qd.length:Int))::t)
   refine WO.fn (e2:=z14 [(24,.int .i64 0),(1000012,.obj 3 1 (M6 v12))]) ?_;refine W.block ?_;obtain⟨hl3,h⟩:=qi h;refine W.wk (env':=z14 [(24,I6 ((0:Nat):Int)),(1000012,.obj 3 1 (M6 v12))]) ?_;refine W.range (σ:=((List Int)×Bool)) x2.qd (fun k3 s=>z4 [(6,.bool s.2),(8,.ptr (.agg [I6 x2.qc.qb,l3 none x2.qc.qa,l56 none x2.qd])),(15,l54 none a1),(16,I6 (a1.length:Int)),(17,I6 (k2:Int)),(22,l56 none x2.qd),(23,I6 (x2.qd.length:Int)),(24,I6 (k3:Int)),(1000012,.obj 3 1 (M6 s.1))]) (fun r0 k0 s=>jd x2 (jn (qK (qI fuel v7 (qx fuel a1 m1)) r2 (k2+1))) r0 k0 s.1 s.2=some r) (fun s h=>?_) (fun x3 r3 k3 s hx3 hk3 h hN3=>?_) (v12,v13) h
   ·obtain⟨v17,v18⟩:=s;have h:jd x2 (jn (qK (qI fuel v7 (qx fuel a1 m1)) r2 (k2+1))) [] (x2.qd).length v17 v18=some r:=h;rw[jd.eq_1]at h;refine W.seq ?_;refine W.rg ?_
    let z15:=fun t=>z4 ((6,.bool v18)::(8,.ptr (.agg [I6 x2.qc.qb,l3 none x2.qc.qa,l56 none x2.qd]))::(15,l54 none a1)::(16,I6 (a1.length:Int))::(17,I6 (k2:Int))::(22,l56 none x2.qd)::(23,I6 (x2.qd.length:Int))::(24,I6 ((x2.qd).length:Int))::(25,.bool false)::(1000012,.obj 3 1 (M6 v17))::t)
    refine WO.pk 0 (some (.bool (decide (((x2.qd).length:Int)<(x2.qd.length:Int))))) (v:=.bool false) (by rw[jw (l:=x2.qd)]) (e1:=z15 []) ?_;refine WO.fn (e2:=z15 []) ?_;refine W.seq ?_;refine W.cb false (fun h=>Bool.noConfusion h) (fun _=>?_);refine W.exit ?_;refine W.wk (env':=z4 [(6,.bool v18),(15,l54 none a1),(16,I6 (a1.length:Int)),(17,I6 (k2:Int)),(1000012,.obj 3 1 (M6 v17))]) ?_;exact hK14 (v17,v18) h
   ·obtain⟨v17,v18⟩:=s;have h:jd x2 (jn (qK (qI fuel v7 (qx fuel a1 m1)) r2 (k2+1))) (x3::r3) k3 v17 v18=some r:=h;rw[jd.eq_2]at h;refine W.seq ?_;refine W.rg ?_
    let z16:=fun t=>z4 ((6,.bool v18)::(8,.ptr (.agg [I6 x2.qc.qb,l3 none x2.qc.qa,l56 none x2.qd]))::t)
    let z17:=fun t=>z16 ((15,l54 none a1)::(16,I6 (a1.length:Int))::(17,I6 (k2:Int))::(22,l56 none x2.qd)::(23,I6 (x2.qd.length:Int))::(24,I6 (k3:Int))::t)
    let z18:=fun t=>z17 ((25,.bool true)::(1000012,.obj 3 1 (M6 v17))::t)
    refine WO.pk 0 (some (.bool (decide ((k3:Int)<(x2.qd.length:Int))))) (v:=.bool true) (by rw[jT hk3]) (e1:=z18 []) ?_;refine WO.fn (e2:=z18 []) ?_;refine W.seq ?_;refine W.cb true (fun _=>?_) (fun h=>Bool.noConfusion h);refine W.skip ?_;refine W.wk (env':=z17 [(1000012,.obj 3 1 (M6 v17))]) ?_;refine W.seq ?_;refine W.join (σ:=((List Int)×Bool)) (fun s=>z4 [(6,.bool s.2),(8,.ptr (.agg [I6 x2.qc.qb,l3 none x2.qc.qa,l56 none x2.qd])),(15,l54 none a1),(16,I6 (a1.length:Int)),(17,I6 (k2:Int)),(22,l56 none x2.qd),(23,I6 (x2.qd.length:Int)),(24,I6 (k3:Int)),(1000012,.obj 3 1 (M6 s.1))]) (fun s=>(Jr (jd x2 (jn (qK (qI fuel v7 (qx fuel a1 m1)) r2 (k2+1))) r3 (k3+1))) s.1 s.2=some r) (fun s h=>?_) (fun hK19=>?_)
    ·obtain⟨v34,v35⟩:=s;have h:(Jr (jd x2 (jn (qK (qI fuel v7 (qx fuel a1 m1)) r2 (k2+1))) r3 (k3+1))) v34 v35=some r:=h;unfold Jr at h;refine W.rg ?_
     let z19:=fun t=>z4 ((6,.bool v35)::(8,.ptr (.agg [I6 x2.qc.qb,l3 none x2.qc.qa,l56 none x2.qd]))::(15,l54 none a1)::(16,I6 (a1.length:Int))::(17,I6 (k2:Int))::(22,l56 none x2.qd)::(23,I6 (x2.qd.length:Int))::t)
     refine WO.pk 0 (some (I6 (IntKind.wrap .i64 ((k3:Int)+1)))) (v:=I6 ((k3+1:Nat):Int)) (by rw[qX hl3 hk3]) (e1:=z19 [(24,I6 (k3:Int)),(52,I6 ((k3+1:Nat):Int)),(1000012,.obj 3 1 (M6 v34))]) ?_;refine WO.fn (e2:=z19 [(24,I6 ((k3+1:Nat):Int)),(1000012,.obj 3 1 (M6 v34))]) ?_;exact hN3 (v34,v35) h
    refine W.block ?_;refine W.seq ?_;refine W.rg ?_;refine WO.pk 0 (if (0:Int)≤(k3:Int) then ((List.map jV x2.qd)[Int.toNat (k3:Int)]?).map AV.ptr else none) (v:=.ptr (.agg [.bool x3.qn,I6 x3.qe.qb,l3 none x3.qe.qa])) (jU (f:=jV) hx3) (e1:=z17 [(26,.ptr (.agg [.bool x3.qn,I6 x3.qe.qb,l3 none x3.qe.qa])),(1000012,.obj 3 1 (M6 v17))]) ?_
    let z20:=fun t=>z16 ((10,.ptr (.agg [.bool x3.qn,I6 x3.qe.qb,l3 none x3.qe.qa]))::(15,l54 none a1)::(16,I6 (a1.length:Int))::(17,I6 (k2:Int))::(22,l56 none x2.qd)::(23,I6 (x2.qd.length:Int))::(24,I6 (k3:Int))::t)
    refine WO.fin [0,4,5,6,8,10,15,16,17,22,23,24,1000012] [10] [] [] (e2:=z20 [(1000012,.obj 3 1 (M6 v17))]) (by kernel_rfl) (fun _ h=>h) ?_;refine W.seq ?_;refine W.rg ?_;obtain⟨hc22,h⟩:=qi h
    let z21:=fun t=>z20 ((28,.sb 1000012 3 1 0 (Int.toNat 6))::(29,.ptr (.agg [I6 x3.qe.qb,l3 none x3.qe.qa]))::(30,.ptr (I6 x3.qe.qb))::(31,I6 x3.qe.qb)::(32,.pe 1000012 1 (0+Int.toNat x3.qe.qb) 0)::t)
    refine WO.pi 4 (v:=.pe 1000012 1 (0+Int.toNat x3.qe.qb) 0) hc22 (e1:=z21 [(1000012,.obj 3 1 (M6 v17))]) ?_;obtain⟨e23,he23,h⟩:=qf h;refine WO.pl 0 (v:=I6 e23) (AV.int .i64) 3 0 he23 (e1:=z21 [(33,I6 e23),(1000012,.obj 3 1 (M6 v17))]) ?_;refine WO.fn (e2:=z16 [(10,.ptr (.agg [.bool x3.qn,I6 x3.qe.qb,l3 none x3.qe.qa])),(11,I6 e23),(15,l54 none a1),(16,I6 (a1.length:Int)),(17,I6 (k2:Int)),(22,l56 none x2.qd),(23,I6 (x2.qd.length:Int)),(24,I6 (k3:Int)),(1000012,.obj 3 1 (M6 v17))]) ?_;refine W.seq ?_;refine W.join (σ:=(Int)) (fun s=>z16 [(11,I6 s),(15,l54 none a1),(16,I6 (a1.length:Int)),(17,I6 (k2:Int)),(22,l56 none x2.qd),(23,I6 (x2.qd.length:Int)),(24,I6 (k3:Int)),(1000012,.obj 3 1 (M6 v17))]) (fun s=>(Qb x2 v17 v18 (Jr (jd x2 (jn (qK (qI fuel v7 (qx fuel a1 m1)) r2 (k2+1))) r3 (k3+1)))) s=some r) (fun v26 h=>?_) (fun hK24=>?_)
    ·have h:(Qb x2 v17 v18 (Jr (jd x2 (jn (qK (qI fuel v7 (qx fuel a1 m1)) r2 (k2+1))) r3 (k3+1)))) v26=some r:=h;unfold Qb at h;refine W.seq ?_;refine W.rg ?_;obtain⟨hc28,h⟩:=qi h
     let z22:=fun t=>z16 ((11,I6 v26)::(15,l54 none a1)::(16,I6 (a1.length:Int))::(17,I6 (k2:Int))::(22,l56 none x2.qd)::(23,I6 (x2.qd.length:Int))::(24,I6 (k3:Int))::t)
     let z23:=fun t=>z22 ((38,I6 v26)::(39,.sb 1000012 3 1 0 (Int.toNat 6))::(40,.ptr (.agg [I6 x2.qc.qb,l3 none x2.qc.qa]))::(41,.ptr (I6 x2.qc.qb))::(42,I6 x2.qc.qb)::(43,.pe 1000012 1 (0+Int.toNat x2.qc.qb) 0)::t)
     refine WO.pi 5 (v:=.pe 1000012 1 (0+Int.toNat x2.qc.qb) 0) hc28 (e1:=z23 [(1000012,.obj 3 1 (M6 v17))]) ?_;obtain⟨e29,he29,h⟩:=qf h;refine WO.pl 0 (v:=I6 e29) (AV.int .i64) 3 0 he29 (e1:=z23 [(44,I6 e29),(1000012,.obj 3 1 (M6 v17))]) ?_
     let z24:=fun t=>z22 ((45,.bool (decide (v26 > e29)))::t)
     refine WO.fn (e2:=z24 [(1000012,.obj 3 1 (M6 v17))]) ?_;refine W.cb (decide (v26 > e29)) (fun hb=>?_) (fun hb=>?_)
     ·replace h:=qv hb h;refine W.seq ?_;refine W.rg ?_;obtain⟨hc31,h⟩:=qi h
      let z25:=fun t=>z24 ((46,.sb 1000012 3 1 0 (Int.toNat 6))::(47,.ptr (.agg [I6 x2.qc.qb,l3 none x2.qc.qa]))::(48,.ptr (I6 x2.qc.qb))::(49,I6 x2.qc.qb)::(50,I6 v26)::(51,.pe 1000012 1 (0+Int.toNat x2.qc.qb) 0)::t)
      refine WO.pi 5 (v:=.pe 1000012 1 (0+Int.toNat x2.qc.qb) 0) hc31 (e1:=z25 [(1000012,.obj 3 1 (M6 v17))]) ?_;obtain⟨u32,hu32,h⟩:=qf h;obtain⟨y33,hyy33,hzy33⟩:=qbu hu32;refine WO.sk 0 (id:=1000012) (e:=3) (s:=1) (off:=0) (vs:=[I6 v26]) (AV.int .i64) hyy33 hzy33 (e1:=z25 [(1000012,.obj 3 1 (M6 u32))]) ?_;refine WO.fn (e2:=z4 [(8,.ptr (.agg [I6 x2.qc.qb,l3 none x2.qc.qa,l56 none x2.qd])),(15,l54 none a1),(16,I6 (a1.length:Int)),(17,I6 (k2:Int)),(22,l56 none x2.qd),(23,I6 (x2.qd.length:Int)),(24,I6 (k3:Int)),(1000012,.obj 3 1 (M6 u32))]) ?_;refine W.rt (e2:=z4 [(6,.bool true),(8,.ptr (.agg [I6 x2.qc.qb,l3 none x2.qc.qa,l56 none x2.qd])),(15,l54 none a1),(16,I6 (a1.length:Int)),(17,I6 (k2:Int)),(22,l56 none x2.qd),(23,I6 (x2.qd.length:Int)),(24,I6 (k3:Int)),(1000012,.obj 3 1 (M6 u32))]) ?_;exact hK19 (u32,true) h
     replace h:=qw hb h;refine W.skip ?_;refine W.wk (env':=z17 [(1000012,.obj 3 1 (M6 v17))]) ?_;exact hK19 (v17,v18) h
    refine W.seq ?_
    let z26:=fun t=>z16 ((11,I6 e23)::(15,l54 none a1)::(16,I6 (a1.length:Int))::(17,I6 (k2:Int))::(22,l56 none x2.qd)::(23,I6 (x2.qd.length:Int))::(24,I6 (k3:Int))::t)
    refine W.rt (e2:=z26 [(35,.bool x3.qn),(1000012,.obj 3 1 (M6 v17))]) ?_;refine W.cb x3.qn (fun hb=>?_) (fun hb=>?_)
    ·replace h:=qv hb h;refine W.rt (e2:=z16 [(11,I6 (W6 (e23+1))),(15,l54 none a1),(16,I6 (a1.length:Int)),(17,I6 (k2:Int)),(22,l56 none x2.qd),(23,I6 (x2.qd.length:Int)),(24,I6 (k3:Int)),(1000012,.obj 3 1 (M6 v17))]) ?_;exact hK24 (W6 (e23+1)) h
    replace h:=qw hb h;refine W.skip ?_;refine W.wk (env':=z26 [(1000012,.obj 3 1 (M6 v17))]) ?_;exact hK24 e23 h
def YL (a1:rufact):Option apiFact :=
 (bif (a1.f_b == 0) then (some (apiFact.mk a1.ql [a1.f_a])) else (some (apiFact.mk a1.ql [a1.f_a,a1.f_b])))
theorem ZN (a1:rufact) (r:apiFact) (h:YL a1=some r):Run Try.prog (.call 108 [.agg [I6 a1.ql,I6 a1.f_a,I6 a1.f_b]] (.agg [I6 r.qb,l3 none r.qa])):=by
 refine cW Try.func108 rfl (env0:=[(0,.agg [I6 a1.ql,I6 a1.f_a,I6 a1.f_b])]) ?_;unfold YL at h;refine W.seq ?_
 let z0:=fun t=>EN ((1,.ptr (.agg [I6 a1.ql,I6 a1.f_a,I6 a1.f_b]))::(2,.box [.int .i64 0,.nils])::t)
 refine W.regT [1,2] [1] [] [] (e2:=z0 []) (by kernel_rfl) (by kernel_rfl) (fun _ h=>h) ?_;refine W.seq ?_;refine W.seq ?_;refine W.rt (e2:=z0 [(5,.bool (a1.f_b == 0))]) ?_;refine W.cb (a1.f_b == 0) (fun hb=>?_) (fun hb=>?_)
 ·replace h:=qv hb h;refine W.seq ?_;refine W.rt (e2:=[(2,.box [I6 a1.ql,l3 none [a1.f_a]])]) ?_;refine W.wk (env':=[(2,.box [I6 a1.ql,l3 none [a1.f_a]])]) ?_;cases h;exact W.ret (show qq _ _ _=some _ by kernel_rfl)
 replace h:=qw hb h;refine W.skip ?_;refine W.wk (env':=z0 []) ?_;refine W.seq ?_
 let z1:=fun t=>EN ((2,.box [I6 a1.ql,l3 none [a1.f_a,a1.f_b]])::t)
 refine W.rt (e2:=z1 []) ?_;refine W.wk (env':=z1 []) ?_;cases h;exact W.ret (show qq _ _ _=some _ by kernel_rfl)
def jc (a2:qj) (v19:(List Int)):Option rufact :=
 ((v19[0]?).bind fun e21=>((v19[1]?).bind fun e22=>(some (rufact.mk a2.qb e21 e22))))
def jE (N1:((List Int)→Option rufact)) (v18:(List Int)):Option rufact :=
 (N1 v18)
def qA (a1:(List Int)) (K6:((List Int)→Option rufact)):List Int→Nat→(List Int)→Option rufact
 | [],k1,v8=>(K6 v8)
 | x1::r1,k1,v8=>(bif (decide (x1<0)) then (chk (decide ((0:Int)≤(k1:Int)∧(k1:Int)<((2:Nat):Int)∧0<1)) (chk (decide ((0+Int.toNat (k1:Int) * 1)<v8.length)) ((jE (qA a1 K6 r1 (k1+1))) (v8.set (0+Int.toNat (k1:Int) * 1) (IntKind.wrap .i64 (0 - x1)))))) else (chk (decide ((0:Int)≤x1∧x1<((8:Nat):Int)∧0<1)) ((a1[(0+Int.toNat x1 * 1)]?).bind fun e15=>(chk (decide ((0:Int)≤(k1:Int)∧(k1:Int)<((2:Nat):Int)∧0<1)) (chk (decide ((0+Int.toNat (k1:Int) * 1)<v8.length)) ((jE (qA a1 K6 r1 (k1+1))) (v8.set (0+Int.toNat (k1:Int) * 1) e15)))))))
def qQ (a1:(List Int)) (a2:qj):Option rufact :=
 (chk (!a1.isEmpty) (chk (lenOk a2.qa) (qA a1 (jc a2) a2.qa 0 (List.replicate 2 0))))
theorem XX (a1:(List Int)) (a2:qj) (r:rufact) (h:qQ a1 a2=some r):Run Try.prog (.call 118 [.agg (M6 a1),.agg [I6 a2.qb,l3 none a2.qa]] (.agg [I6 r.ql,I6 r.f_a,I6 r.f_b])):=by
 refine cW Try.func118 rfl (env0:=[(0,.agg (M6 a1)),(1,.agg [I6 a2.qb,l3 none a2.qa])]) ?_;unfold qQ at h;refine W.seq ?_;refine W.rg ?_;obtain⟨hc4,h⟩:=qi h;refine WO.boxA (enc:=(AV.int .i64)) (l:=a1) (d:=2) 0 (qC .i64) hc4 (e1:=[(0,.agg (M6 a1)),(1,.agg [I6 a2.qb,l3 none a2.qa]),(2,.pb 1000002 0),(1000002,.hob 3 [] (M6 a1))]) ?_
 let z0:=fun t=>EN ((2,.pb 1000002 0)::(3,.ptr (.agg [I6 a2.qb,l3 none a2.qa]))::(4,.box [.int .i64 0,.int .i64 0,.int .i64 0])::t)
 refine WO.fin [2,3,4,1000002] [3] [] [] (e2:=z0 [(1000002,.hob 3 [] (M6 a1))]) (by kernel_rfl) (fun _ h=>h) ?_;refine W.seq ?_;refine W.rg ?_;refine WO.steps 1 (e1:=z0 [(5,.box [.int .i64 0,.int .i64 0]),(1000002,.hob 3 [] (M6 a1))]) (by kernel_rfl) ?_
 let z1:=fun t=>z0 ((5,.pb 1000005 0)::t)
 let z2:=fun t=>z1 ((1000002,.hob 3 [] (M6 a1))::(1000005,.hob 3 [] (M6 (List.replicate 2 0)))::t)
 refine WO.mv [.arr 5] (env':=z2 []) (by kernel_rfl) ?_;refine WO.fn (e2:=z2 []) ?_;refine W.seq ?_
 let z3:=fun t=>EN ((3,.ptr (.agg [I6 a2.qb,l3 none a2.qa]))::(4,.box [.int .i64 0,.int .i64 0,.int .i64 0])::(5,.pb 1000005 0)::t)
 refine W.join (σ:=((List Int))) (fun s=>z3 [(1000005,.hob 3 [] (M6 s))]) (fun s=>(jc a2) s=some r) (fun v19 h=>?_) (fun hK6=>?_)
 ·have h:(jc a2) v19=some r:=h;unfold jc at h;refine W.seq ?_;refine W.rg ?_;obtain⟨e21,he21,h⟩:=qf h
  let z4:=fun t=>z3 ((28,.ptr (I6 a2.qb))::(29,I6 a2.qb)::(30,.pb 1000005 0)::(31,I6 e21)::t)
  refine WO.pk 3 (cut Try.prog 3 (M6 v19) 0) (v:=I6 e21) (YX (qC .i64) (by kernel_rfl) he21) (e1:=z4 [(1000005,.hob 3 [] (M6 v19))]) ?_;obtain⟨e22,he22,h⟩:=qf h;refine WO.pk 1 (cut Try.prog 3 (M6 v19) 1) (v:=I6 e22) (YX (qC .i64) (by kernel_rfl) he22) (e1:=z4 [(32,.pb 1000005 1),(33,I6 e22),(1000005,.hob 3 [] (M6 v19))]) ?_;refine WO.fn (e2:=[(4,.box [I6 a2.qb,I6 e21,I6 e22])]) ?_;refine W.wk (env':=[(4,.box [I6 a2.qb,I6 e21,I6 e22])]) ?_;cases h;exact W.ret (show qq _ _ _=some _ by kernel_rfl)
 refine W.seq ?_;refine W.rg ?_;refine WO.pk 2 (some (I6 ((M6 a2.qa).length:Int))) (v:=I6 (a2.qa.length:Int)) (by rw[List.length_map]) (e1:=z1 [(8,.ptr (l3 none a2.qa)),(9,l3 none a2.qa),(10,I6 (a2.qa.length:Int)),(1000002,.hob 3 [] (M6 a1)),(1000005,.hob 3 [] (M6 (List.replicate 2 0)))]) ?_
 let z5:=fun t=>z1 ((9,l3 none a2.qa)::(10,I6 (a2.qa.length:Int))::t)
 refine WO.fn (e2:=z5 [(11,.int .i64 0),(1000002,.hob 3 [] (M6 a1)),(1000005,.hob 3 [] (M6 (List.replicate 2 0)))]) ?_;refine W.block ?_;obtain⟨hl1,h⟩:=qi h;refine W.wk (env':=z5 [(11,I6 ((0:Nat):Int)),(1000002,.hob 3 [] (M6 a1)),(1000005,.hob 3 [] (M6 (List.replicate 2 0)))]) ?_;refine W.range (σ:=((List Int))) a2.qa (fun k1 s=>z5 [(11,I6 (k1:Int)),(1000002,.hob 3 [] (M6 a1)),(1000005,.hob 3 [] (M6 s))]) (fun r0 k0 s=>qA a1 (jc a2) r0 k0 s=some r) (fun v8 h=>?_) (fun x1 r1 k1 s hx1 hk1 h hN1=>?_) (List.replicate 2 0) h
 ·have h:qA a1 (jc a2) [] (a2.qa).length v8=some r:=h;rw[qA.eq_1]at h;refine W.seq ?_;refine W.rg ?_
  let z6:=fun t=>z5 ((11,I6 ((a2.qa).length:Int))::(12,.bool false)::(1000002,.hob 3 [] (M6 a1))::(1000005,.hob 3 [] (M6 v8))::t)
  refine WO.pk 0 (some (.bool (decide (((a2.qa).length:Int)<(a2.qa.length:Int))))) (v:=.bool false) (by rw[jw (l:=a2.qa)]) (e1:=z6 []) ?_;refine WO.fn (e2:=z6 []) ?_;refine W.seq ?_;refine W.cb false (fun h=>Bool.noConfusion h) (fun _=>?_);refine W.exit ?_;refine W.wk (env':=z3 [(1000005,.hob 3 [] (M6 v8))]) ?_;exact hK6 v8 h
 ·obtain⟨v8,rfl⟩:∃ x,x=s:=⟨s,rfl⟩;have h:qA a1 (jc a2) (x1::r1) k1 v8=some r:=h;rw[qA.eq_2]at h;refine W.seq ?_;refine W.rg ?_
  let z7:=fun t=>z5 ((11,I6 (k1:Int))::t)
  let z8:=fun t=>z7 ((12,.bool true)::(1000002,.hob 3 [] (M6 a1))::(1000005,.hob 3 [] (M6 v8))::t)
  refine WO.pk 0 (some (.bool (decide ((k1:Int)<(a2.qa.length:Int))))) (v:=.bool true) (by rw[jT hk1]) (e1:=z8 []) ?_;refine WO.fn (e2:=z8 []) ?_;refine W.seq ?_;refine W.cb true (fun _=>?_) (fun h=>Bool.noConfusion h);refine W.skip ?_
  let z9:=fun t=>z7 ((1000002,.hob 3 [] (M6 a1))::t)
  refine W.wk (env':=z9 [(1000005,.hob 3 [] (M6 v8))]) ?_;refine W.seq ?_;refine W.join (σ:=((List Int))) (fun s=>z9 [(1000005,.hob 3 [] (M6 s))]) (fun s=>(jE (qA a1 (jc a2) r1 (k1+1))) s=some r) (fun v18 h=>?_) (fun hK9=>?_)
  ·have h:(jE (qA a1 (jc a2) r1 (k1+1))) v18=some r:=h;unfold jE at h;refine W.rg ?_;refine WO.pk 0 (some (I6 (IntKind.wrap .i64 ((k1:Int)+1)))) (v:=I6 ((k1+1:Nat):Int)) (by rw[qX hl1 hk1]) (e1:=z7 [(27,I6 ((k1+1:Nat):Int)),(1000002,.hob 3 [] (M6 a1)),(1000005,.hob 3 [] (M6 v18))]) ?_;refine WO.fn (e2:=z5 [(11,I6 ((k1+1:Nat):Int)),(1000002,.hob 3 [] (M6 a1)),(1000005,.hob 3 [] (M6 v18))]) ?_;exact hN1 v18 h
  refine W.block ?_;refine W.seq ?_;refine W.rg ?_;refine WO.pk 1 (if (0:Int)≤(k1:Int) then ((M6 a2.qa)[Int.toNat (k1:Int)]?).map AV.ptr else none) (v:=.ptr (I6 x1)) (jU (f:=(AV.int .i64)) hx1) (e1:=z7 [(13,I6 (k1:Int)),(14,.ptr (I6 x1)),(1000002,.hob 3 [] (M6 a1)),(1000005,.hob 3 [] (M6 v8))]) ?_
  let z10:=fun t=>z1 ((6,I6 (k1:Int))::(7,I6 x1)::(9,l3 none a2.qa)::(10,I6 (a2.qa.length:Int))::(11,I6 (k1:Int))::t)
  refine WO.fn (e2:=z10 [(1000002,.hob 3 [] (M6 a1)),(1000005,.hob 3 [] (M6 v8))]) ?_;refine W.seq ?_
  let z11:=fun t=>z10 ((17,.bool (decide (x1<0)))::t)
  refine W.rt (e2:=z11 [(1000002,.hob 3 [] (M6 a1)),(1000005,.hob 3 [] (M6 v8))]) ?_;refine W.cb (decide (x1<0)) (fun hb=>?_) (fun hb=>?_)
  ·replace h:=qv hb h;refine W.rg ?_;obtain⟨hc12,h⟩:=qi h
   let z12:=fun t=>z11 ((18,I6 (k1:Int))::(19,I6 x1)::(20,I6 (W6 (0 - x1)))::(21,.pb 1000005 (0+Int.toNat (k1:Int) * 1))::(1000002,.hob 3 [] (M6 a1))::t)
   refine WO.pi 3 (v:=.pb 1000005 (0+Int.toNat (k1:Int) * 1)) hc12 (e1:=z12 [(1000005,.hob 3 [] (M6 v8))]) ?_;obtain⟨hc13,h⟩:=qi h;refine WO.setA (enc:=(AV.int .i64)) (l:=v8) (x:=(W6 (0 - x1))) (s:=1000005) (off:=(0+Int.toNat (k1:Int) * 1)) 0 (qC .i64) hc13 (e1:=z12 [(1000005,.hob 3 [] (M6 (v8.set (0+Int.toNat (k1:Int) * 1) (W6 (0 - x1)))))]) ?_;refine WO.fn (e2:=z9 [(1000005,.hob 3 [] (M6 (v8.set (0+Int.toNat (k1:Int) * 1) (W6 (0 - x1)))))]) ?_;exact hK9 (v8.set (0+Int.toNat (k1:Int) * 1) (W6 (0 - x1))) h
  replace h:=qw hb h;refine W.rg ?_;obtain⟨hc14,h⟩:=qi h
  let z13:=fun t=>z11 ((22,I6 (k1:Int))::(23,I6 x1)::(24,.pb 1000002 (0+Int.toNat x1 * 1))::t)
  refine WO.pi 2 (v:=.pb 1000002 (0+Int.toNat x1 * 1)) hc14 (e1:=z13 [(1000002,.hob 3 [] (M6 a1)),(1000005,.hob 3 [] (M6 v8))]) ?_;obtain⟨e15,he15,h⟩:=qf h;refine WO.pk 0 (cut Try.prog 3 (M6 a1) (0+Int.toNat x1 * 1)) (v:=I6 e15) (YX (qC .i64) (by kernel_rfl) he15) (e1:=z13 [(25,I6 e15),(1000002,.hob 3 [] (M6 a1)),(1000005,.hob 3 [] (M6 v8))]) ?_;obtain⟨hc16,h⟩:=qi h
  let z14:=fun t=>z13 ((25,I6 e15)::(26,.pb 1000005 (0+Int.toNat (k1:Int) * 1))::(1000002,.hob 3 [] (M6 a1))::t)
  refine WO.pi 0 (v:=.pb 1000005 (0+Int.toNat (k1:Int) * 1)) hc16 (e1:=z14 [(1000005,.hob 3 [] (M6 v8))]) ?_;obtain⟨hc17,h⟩:=qi h;refine WO.setA (enc:=(AV.int .i64)) (l:=v8) (x:=e15) (s:=1000005) (off:=(0+Int.toNat (k1:Int) * 1)) 0 (qC .i64) hc17 (e1:=z14 [(1000005,.hob 3 [] (M6 (v8.set (0+Int.toNat (k1:Int) * 1) e15)))]) ?_;refine WO.fn (e2:=z9 [(1000005,.hob 3 [] (M6 (v8.set (0+Int.toNat (k1:Int) * 1) e15)))]) ?_;exact hK9 (v8.set (0+Int.toNat (k1:Int) * 1) e15) h
def qfD (rel:Int):List Int→Option rufact
 | []=>none
 | a::l=>chk (decide ((a::l).length≤1000000)) (some (rufact.mk rel a (l.headD 0)))
def ZW (a1:apiFact):Option rufact:=qfD a1.qb a1.qa
theorem qcV (a1:apiFact) (r:rufact) (h:ZW a1=some r):Run Try.prog (.call 81 [.agg [I6 a1.qb,l3 none a1.qa]] (.agg [I6 r.ql,I6 r.f_a,I6 r.f_b])):=by
 unfold ZW at h;obtain⟨rel,args⟩:=a1
 cases args with
 | nil=>cases h
 | cons a l =>
  obtain⟨hc,h⟩:=qi (show chk (decide ((a::l).length≤1000000)) _=some r from h);cases h;exact .ext0 (key81 (of_decide_eq_true hc))
def QG (v12:(List (rufact×Bool))):Option (List (rufact×Bool)) :=
 (some v12)
def JI (K4:((List (rufact×Bool))→Option (List (rufact×Bool)))):List apiFact→Nat→(List (rufact×Bool))→Option (List (rufact×Bool))
 | [],k1,v6=>(K4 v6)
 | x1::r1,k1,v6=>((ZW x1).bind fun w9=>(chk (wfI .i64 w9.ql && wfI .i64 w9.f_a && wfI .i64 w9.f_b) (chk (Nat.blt v6.length 1000000000) ((JI K4 r1 (k1+1)) (mset qp w9 true v6)))))
def Yu (a1:(List apiFact)):Option (List (rufact×Bool)) :=
 (chk (lenOk a1) (JI (QG) a1 0 ([]:(List (rufact×Bool)))))
theorem qaS (a1:(List apiFact)) (r:(List (rufact×Bool))) (h:Yu a1=some r):Run Try.prog (.call 73 [l41 none a1] (mpE qh AV.bool r)):=by
 refine cW Try.func73 rfl (env0:=[(0,l41 none a1)]) ?_;unfold Yu at h;refine W.seq ?_;refine W.rt (e2:=[(0,l41 none a1)]) ?_;refine W.seq ?_;refine W.rt (e2:=[(0,l41 none a1),(3,.mb 0 1000006),(1000006,hobE qh AV.bool ([]:(List (rufact×Bool))))]) ?_;refine W.seq ?_
 let z0:=fun t=>EN ((3,.mb 0 1000006)::t)
 refine W.join (σ:=((List (rufact×Bool)))) (fun s=>z0 [(1000006,hobE qh AV.bool s)]) (fun s=>(QG) s=some r) (fun v12 h=>?_) (fun hK4=>?_)
 ·have h:(QG) v12=some r:=h;unfold QG at h;refine W.seq ?_;refine W.rt (e2:=[(2,.mb 0 1000006),(1000006,hobE qh AV.bool v12)]) ?_;refine W.mv [.frz 1000006] (env':=[(2,mpE qh AV.bool v12)]) (by kernel_rfl) ?_;refine W.wk (env':=[(2,mpE qh AV.bool v12)]) ?_;cases h;exact W.ret (show qq _ _ _=some _ by kernel_rfl)
 refine W.seq ?_;refine W.rg ?_;refine WO.pk 1 (some (I6 ((List.map qg a1).length:Int))) (v:=I6 (a1.length:Int)) (by rw[List.length_map]) (e1:=[(0,l41 none a1),(3,.mb 0 1000006),(7,l41 none a1),(8,I6 (a1.length:Int)),(1000006,hobE qh AV.bool ([]:(List (rufact×Bool))))]) ?_
 let z1:=fun t=>z0 ((7,l41 none a1)::(8,I6 (a1.length:Int))::t)
 refine WO.fn (e2:=z1 [(9,.int .i64 0),(1000006,hobE qh AV.bool ([]:(List (rufact×Bool))))]) ?_;refine W.block ?_;obtain⟨hl1,h⟩:=qi h;refine W.wk (env':=z1 [(9,I6 ((0:Nat):Int)),(1000006,hobE qh AV.bool ([]:(List (rufact×Bool))))]) ?_;refine W.range (σ:=((List (rufact×Bool)))) a1 (fun k1 s=>z1 [(9,I6 (k1:Int)),(1000006,hobE qh AV.bool s)]) (fun r0 k0 s=>JI (QG) r0 k0 s=some r) (fun v6 h=>?_) (fun x1 r1 k1 s hx1 hk1 h hN1=>?_) ([]:(List (rufact×Bool))) h
 ·have h:JI (QG) [] (a1).length v6=some r:=h;rw[JI.eq_1]at h;refine W.seq ?_;refine W.rg ?_
  let z2:=fun t=>z1 ((9,I6 ((a1).length:Int))::(10,.bool false)::(1000006,hobE qh AV.bool v6)::t)
  refine WO.pk 0 (some (.bool (decide (((a1).length:Int)<(a1.length:Int))))) (v:=.bool false) (by rw[jw (l:=a1)]) (e1:=z2 []) ?_;refine WO.fn (e2:=z2 []) ?_;refine W.seq ?_;refine W.cb false (fun h=>Bool.noConfusion h) (fun _=>?_);refine W.exit ?_;refine W.wk (env':=z0 [(1000006,hobE qh AV.bool v6)]) ?_;exact hK4 v6 h
 ·obtain⟨v6,rfl⟩:∃ x,x=s:=⟨s,rfl⟩;have h:JI (QG) (x1::r1) k1 v6=some r:=h;rw[JI.eq_2]at h;refine W.seq ?_;refine W.rg ?_
  let z3:=fun t=>z1 ((9,I6 (k1:Int))::t)
  let z4:=fun t=>z3 ((10,.bool true)::(1000006,hobE qh AV.bool v6)::t)
  refine WO.pk 0 (some (.bool (decide ((k1:Int)<(a1.length:Int))))) (v:=.bool true) (by rw[jT hk1]) (e1:=z4 []) ?_;refine WO.fn (e2:=z4 []) ?_;refine W.seq ?_;refine W.cb true (fun _=>?_) (fun h=>Bool.noConfusion h);refine W.skip ?_;refine W.wk (env':=z3 [(1000006,hobE qh AV.bool v6)]) ?_;refine W.seq ?_;refine W.block ?_;refine W.seq ?_;refine W.rg ?_;refine WO.pk 0 (if (0:Int)≤(k1:Int) then ((List.map qg a1)[Int.toNat (k1:Int)]?).map AV.ptr else none) (v:=.ptr (.agg [I6 x1.qb,l3 none x1.qa])) (jU (f:=qg) hx1) (e1:=z3 [(11,.ptr (.agg [I6 x1.qb,l3 none x1.qa])),(1000006,hobE qh AV.bool v6)]) ?_
  let z5:=fun t=>z0 ((5,.ptr (.agg [I6 x1.qb,l3 none x1.qa]))::(7,l41 none a1)::(8,I6 (a1.length:Int))::(9,I6 (k1:Int))::t)
  refine WO.fin [3,5,7,8,9,1000006] [5] [] [] (e2:=z5 [(1000006,hobE qh AV.bool v6)]) (by kernel_rfl) (fun _ h=>h) ?_;refine W.rg ?_;obtain⟨w9,hw9,h⟩:=qf h
  let z6:=fun t=>z5 ((13,.mb 0 1000006)::(14,.agg [I6 x1.qb,l3 none x1.qa])::(15,.agg [I6 w9.ql,I6 w9.f_a,I6 w9.f_b])::t)
  refine WO.ck 2 (F:=81) (l:=[.agg [I6 x1.qb,l3 none x1.qa]]) (C:=[]) (r:=.agg [I6 w9.ql,I6 w9.f_a,I6 w9.f_b]) (qcV x1 w9 hw9) (e1:=z6 [(1000006,hobE qh AV.bool v6)]) ?_;obtain⟨hc10,h⟩:=qi h;obtain⟨hc11,h⟩:=qi h;refine WO.mapK (F:=qh) (G:=AV.bool) (eq:=qp) (l:=v6) (a:=w9) (b:=true) (id:=1000006) (kt:=127) 0 (qds hc10) hc11 (e1:=z6 [(1000006,hobE qh AV.bool (mset qp w9 true v6))]) ?_ (fun x=>by kernel_rfl) (fun x y=>by kernel_rfl);refine WO.fn (e2:=z3 [(1000006,hobE qh AV.bool (mset qp w9 true v6))]) ?_;refine W.rg ?_;refine WO.pk 0 (some (I6 (IntKind.wrap .i64 ((k1:Int)+1)))) (v:=I6 ((k1+1:Nat):Int)) (by rw[qX hl1 hk1]) (e1:=z3 [(16,I6 ((k1+1:Nat):Int)),(1000006,hobE qh AV.bool (mset qp w9 true v6))]) ?_;refine WO.fn (e2:=z1 [(9,I6 ((k1+1:Nat):Int)),(1000006,hobE qh AV.bool (mset qp w9 true v6))]) ?_;exact hN1 (mset qp w9 true v6) h
end Go.AM
