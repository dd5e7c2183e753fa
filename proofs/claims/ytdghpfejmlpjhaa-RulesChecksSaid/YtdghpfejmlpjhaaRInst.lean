import Derived.Test.YtdghpfejmlpjhaaRP1
import Derived.Test.YtdghpfejmlpjhaaRAT
set_option linter.all false
set_option maxRecDepth 100000
open Int renaming toNat→A0, natCast_nonneg→C0
open List renaming setIfInBounds_toArray→A1, set_cons_zero→A2, set_cons_succ→A3, getElem_toArray→A4, getElem_cons_succ→A5, getElem_cons_zero→A6, replicate→A8, getElem?_eq_getElem→A9, length_map→B4, drop_eq_getElem_cons→B7, getElem?_eq_none→C7, drop_eq_nil_of_le→C8
open Nat renaming le_refl→A7, lt_or_ge→B1
open Bool renaming and_eq_true→B0
namespace Go.AM
open Go.Proofs
def qv (a2:qo) (a3:rufact) (v33:(List Int)) (v34:(List Int)):Option ((List Int)×Bool) :=
 (chk (decide (v33.length=8)) (chk (decide (v33.length=8∧v34.length=8)) (chk (decide (v33.length=8)) (some (v33,(a2.qb == a3.qr))))))
def qH (v9:(List Int)) (N1:((List Int)→(List Int)→Option ((List Int)×Bool))) (v32:(List Int)):Option ((List Int)×Bool) :=
 (N1 v32 v9)
def qz (x1:Int) (v8:(List Int)) (v9:(List Int)) (e14:Int) (K10:((List Int)→Option ((List Int)×Bool))) (v24:Bool):Option ((List Int)×Bool) :=
 (bif v24 then (chk (decide (v8.length=8)) (chk (decide (v8.length=8∧v9.length=8)) (chk (decide (v8.length=8)) (some (v8,false))))) else (bif (decide (x1≥0)) then (chk (decide ((0:Int)≤x1∧x1<((8:Nat):Int)∧0<1)) (chk (decide ((0+A0 x1*1)<v8.length)) (K10 (v8.set (0+A0 x1*1) e14)))) else (K10 v8)))
def qn (a3:rufact) (K6:((List Int)→(List Int)→Option ((List Int)×Bool))):List Int→Nat→(List Int)→(List Int)→Option ((List Int)×Bool)
 | [],k1,v8,v9=>(K6 v8 v9)
 | x1::r1,k1,v8,v9=>(chk (decide ((0:Int)≤(k1:Int)∧(k1:Int)<((2:Nat):Int))) ((([a3.f_a,a3.f_b]:List Int)[A0 (k1:Int)*1]?).bind fun e14=>(bif (decide (x1<0)) then (bif ((IntKind.wrap .i64 (0 - x1)) != e14) then ((qz x1 v8 v9 e14 (qH v9 (qn a3 K6 r1 (k1+1)))) true) else (bif (decide (x1≥0)) then (chk (decide ((0:Int)≤x1∧x1<((8:Nat):Int)∧0<1)) ((v8[(0+A0 x1*1)]?).bind fun e17=>(bif (e17 != 0) then (chk (decide ((0:Int)≤x1∧x1<((8:Nat):Int)∧0<1)) ((v8[(0+A0 x1*1)]?).bind fun e19=>((qz x1 v8 v9 e14 (qH v9 (qn a3 K6 r1 (k1+1)))) (e19 != e14)))) else ((qz x1 v8 v9 e14 (qH v9 (qn a3 K6 r1 (k1+1)))) false)))) else ((qz x1 v8 v9 e14 (qH v9 (qn a3 K6 r1 (k1+1)))) false))) else (bif (decide (x1≥0)) then (chk (decide ((0:Int)≤x1∧x1<((8:Nat):Int)∧0<1)) ((v8[(0+A0 x1*1)]?).bind fun e21=>(bif (e21 != 0) then (chk (decide ((0:Int)≤x1∧x1<((8:Nat):Int)∧0<1)) ((v8[(0+A0 x1*1)]?).bind fun e23=>((qz x1 v8 v9 e14 (qH v9 (qn a3 K6 r1 (k1+1)))) (e23 != e14)))) else ((qz x1 v8 v9 e14 (qH v9 (qn a3 K6 r1 (k1+1)))) false)))) else ((qz x1 v8 v9 e14 (qH v9 (qn a3 K6 r1 (k1+1)))) false)))))
def jT (a1:(List Int)) (a2:qo) (a3:rufact):Option ((List Int)×Bool) :=
 (chk (!a1.isEmpty) (chk (lenOk a2.qa) (qn a3 (qv a2 a3) a2.qa 0 a1 (A8 8 0))))
theorem Vp (a1:(List Int)) (a2:qo) (a3:rufact) (r:((List Int)×Bool)) (h:jT a1 a2 a3=some r):Run Try.prog (.call 129 [.agg (M6 a1),.agg [I6 a2.qb,l3 none a2.qa],.agg [I6 a3.qr,I6 a3.f_a,I6 a3.f_b]] (.tup [.agg (M6 r.1),.bool r.2])):=by
 refine cW Try.func129 rfl (env0:=[(0,.agg (M6 a1)),(1,.agg [I6 a2.qb,l3 none a2.qa]),(2,.agg [I6 a3.qr,I6 a3.f_a,I6 a3.f_b])]) ?_;unfold jT at h;refine W.sr ?_;obtain⟨hc5,h⟩:=qi h;let z0:=fun t=>EN ((0,.agg (M6 a1))::(1,.agg [I6 a2.qb,l3 none a2.qa])::(2,.agg [I6 a3.qr,I6 a3.f_a,I6 a3.f_b])::(3,.pb 1000003 0)::t);refine WO.boxA (enc:=(AV.int .i64)) (l:=a1) (d:=3) 0 (qt .i64) hc5 (e1:=z0 [(1000003,.hob 3 [] (M6 a1))]) ?_;let z1:=fun t=>z0 ((4,.box [I6 a2.qb,l3 none a2.qa])::(5,.box [I6 a3.qr,I6 a3.f_a,I6 a3.f_b])::t);refine WO.steps 3 (e1:=z1 [(6,.box [.int .i64 0,.int .i64 0,.int .i64 0,.int .i64 0,.int .i64 0,.int .i64 0,.int .i64 0,.int .i64 0]),(1000003,.hob 3 [] (M6 a1))]) (by kernel_rfl)<|WO.mv [.arr 6] (env':=z1 [(6,.pb 1000006 0),(1000003,.hob 3 [] (M6 a1)),(1000006,.hob 3 [] (M6 (A8 8 0)))]) (by kernel_rfl) ?_;let z2:=fun t=>EN ((3,.pb 1000003 0)::(4,.ptr (.agg [I6 a2.qb,l3 none a2.qa]))::(5,.ptr (.agg [I6 a3.qr,I6 a3.f_a,I6 a3.f_b]))::(6,.pb 1000006 0)::t);refine WO.fi [3,4,5,6,1000003,1000006] [4,5] (e2:=z2 [(1000003,.hob 3 [] (M6 a1)),(1000006,.hob 3 [] (M6 (A8 8 0)))]) ?_;refine W.seq<|W.join (σ:=((List Int)×(List Int))) (fun s=>z2 [(1000003,.hob 3 [] (M6 s.1)),(1000006,.hob 3 [] (M6 s.2))]) (fun s=>(qv a2 a3) s.1 s.2=some r) (fun s h=>?_) (fun hK6=>?_)
 ·obtain⟨v33,v34⟩:=s;have h:(qv a2 a3) v33 v34=some r:=h;unfold qv at h;refine W.seq ?_;obtain⟨hc36,h⟩:=qi h;obtain⟨hc37,h⟩:=qi h;refine W.regionA (e1:=z2 [(7,.bool (a2.qb == a3.qr)),(60,.agg (M6 v33)),(61,.ptr (I6 a2.qb)),(62,I6 a2.qb),(63,.ptr (I6 a3.qr)),(64,I6 a3.qr),(65,.bool (a2.qb == a3.qr)),(1000003,.hob 3 [] (M6 v33)),(1000006,.hob 3 [] (M6 v33))]) (by kernel_rfl) ?_ ?_
  ·generalize hall:Array.toList _=all;let y0:Nat×AV:=(3,.pb 1000003 0);let y1:Nat×AV:=(4,.ptr (.agg [I6 a2.qb,l3 none a2.qa]));let y2:Nat×AV:=(5,.ptr (.agg [I6 a3.qr,I6 a3.f_a,I6 a3.f_b]));let y3:Nat×AV:=(6,.pb 1000006 0);let y4:Nat×AV:=(1000003,.hob 3 [] (M6 v33));let y5:Nat×AV:=(61,.ptr (I6 a2.qb));let y6:Nat×AV:=(63,.ptr (I6 a3.qr));let y7:Nat×AV:=(60,.agg (M6 v33));let y8:Nat×AV:=(62,I6 a2.qb);let y9:Nat×AV:=(64,I6 a3.qr);let y10:Nat×AV:=(1000006,.hob 3 [] (M6 v33));let y11:Nat×AV:=(1000006,.hob 3 [] (M6 v34));let y12:Nat×AV:=(65,.bool (a2.qb == a3.qr));let y13:Nat×AV:=(7,.bool (a2.qb == a3.qr))
   let A:=fun R E=>Run Try.prog (.any 66 all R E ([y0,y1,y2,y3,y13,y7,y5,y8,y6,y9,y12,y4,y10]))
   have s_:A [] [y0,y1,y2,y3,y13,y7,y5,y8,y6,y9,y12,y4,y10]:=.anyNil
   have s7:Run Try.prog (.any 66 all [7] ([y0,y1,y2,y3,y7,y5,y8,y6,y9,y12,y4,y10]) ([y0,y1,y2,y3,y13,y7,y5,y8,y6,y9,y12,y4,y10])):=by subst hall;exact Run.anyL [(7,[y0,y1,y2,y3,y13,y7,y5,y8,y6,y9,y12,y4,y10])] (by kernel_rfl) (by kernel_rfl) (.cons (by kernel_rfl) .nil) (.cons s_ .nil)
   have s67:Run Try.prog (.any 66 all [6,7] ([y0,y1,y2,y3,y7,y5,y8,y6,y9,y12,y4,y11]) ([y0,y1,y2,y3,y13,y7,y5,y8,y6,y9,y12,y4,y10])):=by subst hall;exact Run.anyL [(6,[y0,y1,y2,y3,y7,y5,y8,y6,y9,y12,y4,y10])] (by kernel_rfl) (by kernel_rfl) (.cons ((QF (enc:=(AV.int .i64)) (l:=v33) (l':=v34) (s:=1000006) (sz:=8) (qt .i64) hc37 (by kernel_rfl)).trans (by kernel_rfl)) .nil) (.cons s7 .nil)
   have s57:Run Try.prog (.any 66 all [5,7] ([y0,y1,y2,y3,y7,y5,y8,y6,y9,y4,y10]) ([y0,y1,y2,y3,y13,y7,y5,y8,y6,y9,y12,y4,y10])):=by subst hall;exact Run.anyL [(5,[y0,y1,y2,y3,y7,y5,y8,y6,y9,y12,y4,y10])] (by kernel_rfl) (by kernel_rfl) (.cons (by kernel_rfl) .nil) (.cons s7 .nil)
   have s567:Run Try.prog (.any 66 all [5,6,7] ([y0,y1,y2,y3,y7,y5,y8,y6,y9,y4,y11]) ([y0,y1,y2,y3,y13,y7,y5,y8,y6,y9,y12,y4,y10])):=by subst hall;exact Run.anyL [(5,[y0,y1,y2,y3,y7,y5,y8,y6,y9,y12,y4,y11]),(6,[y0,y1,y2,y3,y7,y5,y8,y6,y9,y4,y10])] (by kernel_rfl) (by kernel_rfl) (.cons (by kernel_rfl) (.cons ((QF (enc:=(AV.int .i64)) (l:=v33) (l':=v34) (s:=1000006) (sz:=8) (qt .i64) hc37 (by kernel_rfl)).trans (by kernel_rfl)) .nil)) (.cons s67 (.cons s57 .nil))
   have s457:Run Try.prog (.any 66 all [4,5,7] ([y0,y1,y2,y3,y7,y5,y8,y6,y4,y10]) ([y0,y1,y2,y3,y13,y7,y5,y8,y6,y9,y12,y4,y10])):=by subst hall;exact Run.anyL [(4,[y0,y1,y2,y3,y7,y5,y8,y6,y9,y4,y10])] (by kernel_rfl) (by kernel_rfl) (.cons (by kernel_rfl) .nil) (.cons s57 .nil)
   have s257:Run Try.prog (.any 66 all [2,5,7] ([y0,y1,y2,y3,y7,y5,y6,y9,y4,y10]) ([y0,y1,y2,y3,y13,y7,y5,y8,y6,y9,y12,y4,y10])):=by subst hall;exact Run.anyL [(2,[y0,y1,y2,y3,y7,y5,y8,y6,y9,y4,y10])] (by kernel_rfl) (by kernel_rfl) (.cons (by kernel_rfl) .nil) (.cons s57 .nil)
   have s067:Run Try.prog (.any 66 all [0,6,7] ([y0,y1,y2,y3,y5,y8,y6,y9,y12,y4,y11]) ([y0,y1,y2,y3,y13,y7,y5,y8,y6,y9,y12,y4,y10])):=by subst hall;exact Run.anyL [(0,[y0,y1,y2,y3,y7,y5,y8,y6,y9,y12,y4,y11])] (by kernel_rfl) (by kernel_rfl) (.cons (Xn (cut Try.prog 178 (M6 v33) 0) (v:=.agg (M6 v33)) (by kernel_rfl) (qA (qt .i64) (sz:=8) (by kernel_rfl) (oT hc36)) (by kernel_rfl)) .nil) (.cons s67 .nil)
   have s4567:Run Try.prog (.any 66 all [4,5,6,7] ([y0,y1,y2,y3,y7,y5,y8,y6,y4,y11]) ([y0,y1,y2,y3,y13,y7,y5,y8,y6,y9,y12,y4,y10])):=by subst hall;exact Run.anyL [(4,[y0,y1,y2,y3,y7,y5,y8,y6,y9,y4,y11]),(6,[y0,y1,y2,y3,y7,y5,y8,y6,y4,y10])] (by kernel_rfl) (by kernel_rfl) (.cons (by kernel_rfl) (.cons ((QF (enc:=(AV.int .i64)) (l:=v33) (l':=v34) (s:=1000006) (sz:=8) (qt .i64) hc37 (by kernel_rfl)).trans (by kernel_rfl)) .nil)) (.cons s567 (.cons s457 .nil))
   have s3457:Run Try.prog (.any 66 all [3,4,5,7] ([y0,y1,y2,y3,y7,y5,y8,y4,y10]) ([y0,y1,y2,y3,y13,y7,y5,y8,y6,y9,y12,y4,y10])):=by subst hall;exact Run.anyL [(3,[y0,y1,y2,y3,y7,y5,y8,y6,y4,y10])] (by kernel_rfl) (by kernel_rfl) (.cons (by kernel_rfl) .nil) (.cons s457 .nil)
   have s2567:Run Try.prog (.any 66 all [2,5,6,7] ([y0,y1,y2,y3,y7,y5,y6,y9,y4,y11]) ([y0,y1,y2,y3,y13,y7,y5,y8,y6,y9,y12,y4,y10])):=by subst hall;exact Run.anyL [(2,[y0,y1,y2,y3,y7,y5,y8,y6,y9,y4,y11]),(6,[y0,y1,y2,y3,y7,y5,y6,y9,y4,y10])] (by kernel_rfl) (by kernel_rfl) (.cons (by kernel_rfl) (.cons ((QF (enc:=(AV.int .i64)) (l:=v33) (l':=v34) (s:=1000006) (sz:=8) (qt .i64) hc37 (by kernel_rfl)).trans (by kernel_rfl)) .nil)) (.cons s567 (.cons s257 .nil))
   have s2457:Run Try.prog (.any 66 all [2,4,5,7] ([y0,y1,y2,y3,y7,y5,y6,y4,y10]) ([y0,y1,y2,y3,y13,y7,y5,y8,y6,y9,y12,y4,y10])):=by subst hall;exact Run.anyL [(2,[y0,y1,y2,y3,y7,y5,y8,y6,y4,y10]),(4,[y0,y1,y2,y3,y7,y5,y6,y9,y4,y10])] (by kernel_rfl) (by kernel_rfl) (.cons (by kernel_rfl) (.cons (by kernel_rfl) .nil)) (.cons s457 (.cons s257 .nil))
   have s1257:Run Try.prog (.any 66 all [1,2,5,7] ([y0,y1,y2,y3,y7,y6,y9,y4,y10]) ([y0,y1,y2,y3,y13,y7,y5,y8,y6,y9,y12,y4,y10])):=by subst hall;exact Run.anyL [(1,[y0,y1,y2,y3,y7,y5,y6,y9,y4,y10])] (by kernel_rfl) (by kernel_rfl) (.cons (by kernel_rfl) .nil) (.cons s257 .nil)
   have s0567:Run Try.prog (.any 66 all [0,5,6,7] ([y0,y1,y2,y3,y5,y8,y6,y9,y4,y11]) ([y0,y1,y2,y3,y13,y7,y5,y8,y6,y9,y12,y4,y10])):=by subst hall;exact Run.anyL [(0,[y0,y1,y2,y3,y7,y5,y8,y6,y9,y4,y11]),(5,[y0,y1,y2,y3,y5,y8,y6,y9,y12,y4,y11])] (by kernel_rfl) (by kernel_rfl) (.cons (Xn (cut Try.prog 178 (M6 v33) 0) (v:=.agg (M6 v33)) (by kernel_rfl) (qA (qt .i64) (sz:=8) (by kernel_rfl) (oT hc36)) (by kernel_rfl)) (.cons (by kernel_rfl) .nil)) (.cons s567 (.cons s067 .nil))
   have s34567:Run Try.prog (.any 66 all [3,4,5,6,7] ([y0,y1,y2,y3,y7,y5,y8,y4,y11]) ([y0,y1,y2,y3,y13,y7,y5,y8,y6,y9,y12,y4,y10])):=by subst hall;exact Run.anyL [(3,[y0,y1,y2,y3,y7,y5,y8,y6,y4,y11]),(6,[y0,y1,y2,y3,y7,y5,y8,y4,y10])] (by kernel_rfl) (by kernel_rfl) (.cons (by kernel_rfl) (.cons ((QF (enc:=(AV.int .i64)) (l:=v33) (l':=v34) (s:=1000006) (sz:=8) (qt .i64) hc37 (by kernel_rfl)).trans (by kernel_rfl)) .nil)) (.cons s4567 (.cons s3457 .nil))
   have s24567:Run Try.prog (.any 66 all [2,4,5,6,7] ([y0,y1,y2,y3,y7,y5,y6,y4,y11]) ([y0,y1,y2,y3,y13,y7,y5,y8,y6,y9,y12,y4,y10])):=by subst hall;exact Run.anyL [(2,[y0,y1,y2,y3,y7,y5,y8,y6,y4,y11]),(4,[y0,y1,y2,y3,y7,y5,y6,y9,y4,y11]),(6,[y0,y1,y2,y3,y7,y5,y6,y4,y10])] (by kernel_rfl) (by kernel_rfl) (.cons (by kernel_rfl) (.cons (by kernel_rfl) (.cons ((QF (enc:=(AV.int .i64)) (l:=v33) (l':=v34) (s:=1000006) (sz:=8) (qt .i64) hc37 (by kernel_rfl)).trans (by kernel_rfl)) .nil))) (.cons s4567 (.cons s2567 (.cons s2457 .nil)))
   have s23457:Run Try.prog (.any 66 all [2,3,4,5,7] ([y0,y1,y2,y3,y7,y5,y4,y10]) ([y0,y1,y2,y3,y13,y7,y5,y8,y6,y9,y12,y4,y10])):=by subst hall;exact Run.anyL [(2,[y0,y1,y2,y3,y7,y5,y8,y4,y10]),(3,[y0,y1,y2,y3,y7,y5,y6,y4,y10])] (by kernel_rfl) (by kernel_rfl) (.cons (by kernel_rfl) (.cons (by kernel_rfl) .nil)) (.cons s3457 (.cons s2457 .nil))
   have s12567:Run Try.prog (.any 66 all [1,2,5,6,7] ([y0,y1,y2,y3,y7,y6,y9,y4,y11]) ([y0,y1,y2,y3,y13,y7,y5,y8,y6,y9,y12,y4,y10])):=by subst hall;exact Run.anyL [(1,[y0,y1,y2,y3,y7,y5,y6,y9,y4,y11]),(6,[y0,y1,y2,y3,y7,y6,y9,y4,y10])] (by kernel_rfl) (by kernel_rfl) (.cons (by kernel_rfl) (.cons ((QF (enc:=(AV.int .i64)) (l:=v33) (l':=v34) (s:=1000006) (sz:=8) (qt .i64) hc37 (by kernel_rfl)).trans (by kernel_rfl)) .nil)) (.cons s2567 (.cons s1257 .nil))
   have s12457:Run Try.prog (.any 66 all [1,2,4,5,7] ([y0,y1,y2,y3,y7,y6,y4,y10]) ([y0,y1,y2,y3,y13,y7,y5,y8,y6,y9,y12,y4,y10])):=by subst hall;exact Run.anyL [(1,[y0,y1,y2,y3,y7,y5,y6,y4,y10]),(4,[y0,y1,y2,y3,y7,y6,y9,y4,y10])] (by kernel_rfl) (by kernel_rfl) (.cons (by kernel_rfl) (.cons (by kernel_rfl) .nil)) (.cons s2457 (.cons s1257 .nil))
   have s04567:Run Try.prog (.any 66 all [0,4,5,6,7] ([y0,y1,y2,y3,y5,y8,y6,y4,y11]) ([y0,y1,y2,y3,y13,y7,y5,y8,y6,y9,y12,y4,y10])):=by subst hall;exact Run.anyL [(0,[y0,y1,y2,y3,y7,y5,y8,y6,y4,y11]),(4,[y0,y1,y2,y3,y5,y8,y6,y9,y4,y11])] (by kernel_rfl) (by kernel_rfl) (.cons (Xn (cut Try.prog 178 (M6 v33) 0) (v:=.agg (M6 v33)) (by kernel_rfl) (qA (qt .i64) (sz:=8) (by kernel_rfl) (oT hc36)) (by kernel_rfl)) (.cons (by kernel_rfl) .nil)) (.cons s4567 (.cons s0567 .nil))
   have s02567:Run Try.prog (.any 66 all [0,2,5,6,7] ([y0,y1,y2,y3,y5,y6,y9,y4,y11]) ([y0,y1,y2,y3,y13,y7,y5,y8,y6,y9,y12,y4,y10])):=by subst hall;exact Run.anyL [(0,[y0,y1,y2,y3,y7,y5,y6,y9,y4,y11]),(2,[y0,y1,y2,y3,y5,y8,y6,y9,y4,y11])] (by kernel_rfl) (by kernel_rfl) (.cons (Xn (cut Try.prog 178 (M6 v33) 0) (v:=.agg (M6 v33)) (by kernel_rfl) (qA (qt .i64) (sz:=8) (by kernel_rfl) (oT hc36)) (by kernel_rfl)) (.cons (by kernel_rfl) .nil)) (.cons s2567 (.cons s0567 .nil))
   have s234567:Run Try.prog (.any 66 all [2,3,4,5,6,7] ([y0,y1,y2,y3,y7,y5,y4,y11]) ([y0,y1,y2,y3,y13,y7,y5,y8,y6,y9,y12,y4,y10])):=by subst hall;exact Run.anyL [(2,[y0,y1,y2,y3,y7,y5,y8,y4,y11]),(3,[y0,y1,y2,y3,y7,y5,y6,y4,y11]),(6,[y0,y1,y2,y3,y7,y5,y4,y10])] (by kernel_rfl) (by kernel_rfl) (.cons (by kernel_rfl) (.cons (by kernel_rfl) (.cons ((QF (enc:=(AV.int .i64)) (l:=v33) (l':=v34) (s:=1000006) (sz:=8) (qt .i64) hc37 (by kernel_rfl)).trans (by kernel_rfl)) .nil))) (.cons s34567 (.cons s24567 (.cons s23457 .nil)))
   have s124567:Run Try.prog (.any 66 all [1,2,4,5,6,7] ([y0,y1,y2,y3,y7,y6,y4,y11]) ([y0,y1,y2,y3,y13,y7,y5,y8,y6,y9,y12,y4,y10])):=by subst hall;exact Run.anyL [(1,[y0,y1,y2,y3,y7,y5,y6,y4,y11]),(4,[y0,y1,y2,y3,y7,y6,y9,y4,y11]),(6,[y0,y1,y2,y3,y7,y6,y4,y10])] (by kernel_rfl) (by kernel_rfl) (.cons (by kernel_rfl) (.cons (by kernel_rfl) (.cons ((QF (enc:=(AV.int .i64)) (l:=v33) (l':=v34) (s:=1000006) (sz:=8) (qt .i64) hc37 (by kernel_rfl)).trans (by kernel_rfl)) .nil))) (.cons s24567 (.cons s12567 (.cons s12457 .nil)))
   have s123457:Run Try.prog (.any 66 all [1,2,3,4,5,7] ([y0,y1,y2,y3,y7,y4,y10]) ([y0,y1,y2,y3,y13,y7,y5,y8,y6,y9,y12,y4,y10])):=by subst hall;exact Run.anyL [(1,[y0,y1,y2,y3,y7,y5,y4,y10]),(3,[y0,y1,y2,y3,y7,y6,y4,y10])] (by kernel_rfl) (by kernel_rfl) (.cons (by kernel_rfl) (.cons (by kernel_rfl) .nil)) (.cons s23457 (.cons s12457 .nil))
   have s034567:Run Try.prog (.any 66 all [0,3,4,5,6,7] ([y0,y1,y2,y3,y5,y8,y4,y11]) ([y0,y1,y2,y3,y13,y7,y5,y8,y6,y9,y12,y4,y10])):=by subst hall;exact Run.anyL [(0,[y0,y1,y2,y3,y7,y5,y8,y4,y11]),(3,[y0,y1,y2,y3,y5,y8,y6,y4,y11])] (by kernel_rfl) (by kernel_rfl) (.cons (Xn (cut Try.prog 178 (M6 v33) 0) (v:=.agg (M6 v33)) (by kernel_rfl) (qA (qt .i64) (sz:=8) (by kernel_rfl) (oT hc36)) (by kernel_rfl)) (.cons (by kernel_rfl) .nil)) (.cons s34567 (.cons s04567 .nil))
   have s024567:Run Try.prog (.any 66 all [0,2,4,5,6,7] ([y0,y1,y2,y3,y5,y6,y4,y11]) ([y0,y1,y2,y3,y13,y7,y5,y8,y6,y9,y12,y4,y10])):=by subst hall;exact Run.anyL [(0,[y0,y1,y2,y3,y7,y5,y6,y4,y11]),(2,[y0,y1,y2,y3,y5,y8,y6,y4,y11]),(4,[y0,y1,y2,y3,y5,y6,y9,y4,y11])] (by kernel_rfl) (by kernel_rfl) (.cons (Xn (cut Try.prog 178 (M6 v33) 0) (v:=.agg (M6 v33)) (by kernel_rfl) (qA (qt .i64) (sz:=8) (by kernel_rfl) (oT hc36)) (by kernel_rfl)) (.cons (by kernel_rfl) (.cons (by kernel_rfl) .nil))) (.cons s24567 (.cons s04567 (.cons s02567 .nil)))
   have s012567:Run Try.prog (.any 66 all [0,1,2,5,6,7] ([y0,y1,y2,y3,y6,y9,y4,y11]) ([y0,y1,y2,y3,y13,y7,y5,y8,y6,y9,y12,y4,y10])):=by subst hall;exact Run.anyL [(0,[y0,y1,y2,y3,y7,y6,y9,y4,y11]),(1,[y0,y1,y2,y3,y5,y6,y9,y4,y11])] (by kernel_rfl) (by kernel_rfl) (.cons (Xn (cut Try.prog 178 (M6 v33) 0) (v:=.agg (M6 v33)) (by kernel_rfl) (qA (qt .i64) (sz:=8) (by kernel_rfl) (oT hc36)) (by kernel_rfl)) (.cons (by kernel_rfl) .nil)) (.cons s12567 (.cons s02567 .nil))
   have s1234567:Run Try.prog (.any 66 all [1,2,3,4,5,6,7] ([y0,y1,y2,y3,y7,y4,y11]) ([y0,y1,y2,y3,y13,y7,y5,y8,y6,y9,y12,y4,y10])):=by subst hall;exact Run.anyL [(1,[y0,y1,y2,y3,y7,y5,y4,y11]),(3,[y0,y1,y2,y3,y7,y6,y4,y11]),(6,[y0,y1,y2,y3,y7,y4,y10])] (by kernel_rfl) (by kernel_rfl) (.cons (by kernel_rfl) (.cons (by kernel_rfl) (.cons ((QF (enc:=(AV.int .i64)) (l:=v33) (l':=v34) (s:=1000006) (sz:=8) (qt .i64) hc37 (by kernel_rfl)).trans (by kernel_rfl)) .nil))) (.cons s234567 (.cons s124567 (.cons s123457 .nil)))
   have s0234567:Run Try.prog (.any 66 all [0,2,3,4,5,6,7] ([y0,y1,y2,y3,y5,y4,y11]) ([y0,y1,y2,y3,y13,y7,y5,y8,y6,y9,y12,y4,y10])):=by subst hall;exact Run.anyL [(0,[y0,y1,y2,y3,y7,y5,y4,y11]),(2,[y0,y1,y2,y3,y5,y8,y4,y11]),(3,[y0,y1,y2,y3,y5,y6,y4,y11])] (by kernel_rfl) (by kernel_rfl) (.cons (Xn (cut Try.prog 178 (M6 v33) 0) (v:=.agg (M6 v33)) (by kernel_rfl) (qA (qt .i64) (sz:=8) (by kernel_rfl) (oT hc36)) (by kernel_rfl)) (.cons (by kernel_rfl) (.cons (by kernel_rfl) .nil))) (.cons s234567 (.cons s034567 (.cons s024567 .nil)))
   have s0124567:Run Try.prog (.any 66 all [0,1,2,4,5,6,7] ([y0,y1,y2,y3,y6,y4,y11]) ([y0,y1,y2,y3,y13,y7,y5,y8,y6,y9,y12,y4,y10])):=by subst hall;exact Run.anyL [(0,[y0,y1,y2,y3,y7,y6,y4,y11]),(1,[y0,y1,y2,y3,y5,y6,y4,y11]),(4,[y0,y1,y2,y3,y6,y9,y4,y11])] (by kernel_rfl) (by kernel_rfl) (.cons (Xn (cut Try.prog 178 (M6 v33) 0) (v:=.agg (M6 v33)) (by kernel_rfl) (qA (qt .i64) (sz:=8) (by kernel_rfl) (oT hc36)) (by kernel_rfl)) (.cons (by kernel_rfl) (.cons (by kernel_rfl) .nil))) (.cons s124567 (.cons s024567 (.cons s012567 .nil)))
   have s01234567:Run Try.prog (.any 66 all [0,1,2,3,4,5,6,7] ([y0,y1,y2,y3,y4,y11]) ([y0,y1,y2,y3,y13,y7,y5,y8,y6,y9,y12,y4,y10])):=by subst hall;exact Run.anyL [(0,[y0,y1,y2,y3,y7,y4,y11]),(1,[y0,y1,y2,y3,y5,y4,y11]),(3,[y0,y1,y2,y3,y6,y4,y11])] (by kernel_rfl) (by kernel_rfl) (.cons (Xn (cut Try.prog 178 (M6 v33) 0) (v:=.agg (M6 v33)) (by kernel_rfl) (qA (qt .i64) (sz:=8) (by kernel_rfl) (oT hc36)) (by kernel_rfl)) (.cons (by kernel_rfl) (.cons (by kernel_rfl) .nil))) (.cons s1234567 (.cons s0234567 (.cons s0124567 .nil)))
   exact s01234567
  let z3:=fun t=>EN ((6,.pb 1000006 0)::(7,.bool (a2.qb == a3.qr))::(1000006,.hob 3 [] (M6 v33))::t);refine WO.fn (e2:=z3 []) ?_;refine W.wk (e:=z3 []) ?_;obtain⟨hn38,h⟩:=qi h;have hr:ju Try.prog Try.f129 [(6,.pb 1000006 0),(7,.bool (a2.qb == a3.qr)),(1000006,.hob 3 [] (M6 v33))]=some (.tup [.agg (M6 v33),.bool (a2.qb == a3.qr)]):=(by kernel_rfl:ju Try.prog Try.f129 [(6,.pb 1000006 0),(7,.bool (a2.qb == a3.qr)),(1000006,.hob 3 [] (M6 v33))]=match optAll [(cut Try.prog 178 (M6 v33) 0).map AV.strip,some (.bool (a2.qb == a3.qr))] with | some l=>some (.tup (l.map AV.strip)) | none=>none).trans (by rw[qA (qt .i64) (sz:=8) (by kernel_rfl) (oT hn38)];rfl);cases h;exact W.ret hr
 refine W.sr<|WO.pq 2 (jM (.int .i64) a2.qa) (e1:=z2 [(11,.ptr (l3 none a2.qa)),(12,l3 none a2.qa),(13,I6 (a2.qa.length:Int)),(1000003,.hob 3 [] (M6 a1)),(1000006,.hob 3 [] (M6 (A8 8 0)))]) ?_;let z4:=fun t=>z2 ((12,l3 none a2.qa)::(13,I6 (a2.qa.length:Int))::t);refine WO.fn (e2:=z4 [(14,.int .i64 0),(1000003,.hob 3 [] (M6 a1)),(1000006,.hob 3 [] (M6 (A8 8 0)))]) ?_;refine W.block ?_;obtain⟨hl1,h⟩:=qi h;refine W.wk (e:=z4 [(14,I6 ((0:Nat):Int)),(1000003,.hob 3 [] (M6 a1)),(1000006,.hob 3 [] (M6 (A8 8 0)))])<|W.range (σ:=((List Int)×(List Int))) a2.qa (fun k1 s=>z4 [(14,I6 (k1:Int)),(1000003,.hob 3 [] (M6 s.1)),(1000006,.hob 3 [] (M6 s.2))]) (fun r0 k0 s=>qn a3 (qv a2 a3) r0 k0 s.1 s.2=some r) (fun s h=>?_) (fun x1 r1 k1 s hx1 hk1 h hN1=>?_) (a1,(A8 8 0)) h
 ·obtain⟨v8,v9⟩:=s;have h:qn a3 (qv a2 a3) [] (a2.qa).length v8 v9=some r:=h;rw[qn.eq_1]at h;refine W.sr ?_;let z5:=fun t=>z4 ((14,I6 ((a2.qa).length:Int))::(15,.bool false)::(1000003,.hob 3 [] (M6 v8))::(1000006,.hob 3 [] (M6 v9))::t);refine WO.pq 0 (jB (qJ (l:=a2.qa))) (e1:=z5 [])<|WO.fn (e2:=z5 []) ?_;refine W.seq<|W.cF<|W.exit<|W.wk (e:=z2 [(1000003,.hob 3 [] (M6 v8)),(1000006,.hob 3 [] (M6 v9))]) ?_;exact hK6 (v8,v9) h
 ·obtain⟨v8,v9⟩:=s;have h:qn a3 (qv a2 a3) (x1::r1) k1 v8 v9=some r:=h;rw[qn.eq_2]at h;refine W.sr ?_;let z6:=fun t=>z4 ((14,I6 (k1:Int))::t);let z7:=fun t=>z6 ((15,.bool true)::(1000003,.hob 3 [] (M6 v8))::(1000006,.hob 3 [] (M6 v9))::t);refine WO.pq 0 (jB (qU hk1)) (e1:=z7 [])<|WO.fn (e2:=z7 []) ?_;refine W.seq<|W.cT<|W.skip ?_;let z8:=fun t=>z6 ((1000003,.hob 3 [] (M6 v8))::(1000006,.hob 3 [] (M6 v9))::t);refine W.wk (e:=z8 [])<|W.seq<|W.join (σ:=((List Int))) (fun s=>z6 [(1000003,.hob 3 [] (M6 s)),(1000006,.hob 3 [] (M6 v9))]) (fun s=>(qH v9 (qn a3 (qv a2 a3) r1 (k1+1))) s=some r) (fun v32 h=>?_) (fun hK10=>?_)
  ·unfold qH at h;refine W.rg<|WO.pq 0 (jI (qy hl1 hk1)) (e1:=z6 [(59,I6 ((k1+1:Nat):Int)),(1000003,.hob 3 [] (M6 v32)),(1000006,.hob 3 [] (M6 v9))])<|WO.fn (e2:=z4 [(14,I6 ((k1+1:Nat):Int)),(1000003,.hob 3 [] (M6 v32)),(1000006,.hob 3 [] (M6 v9))]) ?_;exact hN1 (v32,v9) h
  refine W.block<|W.sr<|WO.pq 1 (qV (f:=(AV.int .i64)) hx1) (e1:=z6 [(16,I6 (k1:Int)),(17,.ptr (I6 x1)),(1000003,.hob 3 [] (M6 v8)),(1000006,.hob 3 [] (M6 v9))]) ?_;let z9:=fun t=>z2 ((8,I6 (k1:Int))::(9,I6 x1)::(12,l3 none a2.qa)::(13,I6 (a2.qa.length:Int))::(14,I6 (k1:Int))::t);refine WO.fn (e2:=z9 [(1000003,.hob 3 [] (M6 v8)),(1000006,.hob 3 [] (M6 v9))]) ?_;refine W.sr ?_;obtain⟨hc13,h⟩:=qi h;obtain⟨e14,he14,h⟩:=qe h;refine WO.pk 6 (if (0:Int)≤(k1:Int)∧(k1:Int)<((2:Nat):Int) then cut Try.prog 3 (List.map AV.strip (M6 ([a3.f_a,a3.f_b]:List Int))) (A0 (k1:Int)*1) else none) (qdd (qt .i64) (by kernel_rfl) (oT hc13) he14) (e1:=z9 [(19,.ptr (I6 a3.f_a)),(20,I6 a3.f_a),(21,.ptr (I6 a3.f_b)),(22,I6 a3.f_b),(23,.agg (M6 ([a3.f_a,a3.f_b]:List Int))),(24,I6 (k1:Int)),(25,I6 e14),(1000003,.hob 3 [] (M6 v8)),(1000006,.hob 3 [] (M6 v9))]) ?_;let z10:=fun t=>z2 ((9,I6 x1)::(10,I6 e14)::(12,l3 none a2.qa)::(13,I6 (a2.qa.length:Int))::(14,I6 (k1:Int))::t);refine WO.fn (e2:=z10 [(1000003,.hob 3 [] (M6 v8)),(1000006,.hob 3 [] (M6 v9))]) ?_;refine W.block<|W.seq<|W.join (σ:=(Bool)) (fun s=>z10 [(26,.bool s),(1000003,.hob 3 [] (M6 v8)),(1000006,.hob 3 [] (M6 v9))]) (fun s=>(qz x1 v8 v9 e14 (qH v9 (qn a3 (qv a2 a3) r1 (k1+1)))) s=some r) (fun v24 h=>?_) (fun hK15=>?_)
  ·unfold qz at h;refine W.ch v24 h (fun h=>?_) (fun h=>?_)
   ·refine W.sr ?_;obtain⟨hc26,h⟩:=qi h;let z11:=fun t=>z10 ((26,.bool v24)::(52,.agg (M6 v8))::(1000003,.hob 3 [] (M6 v8))::t);refine WO.pk 0 (cut Try.prog 178 (M6 v8) 0) (qA (qt .i64) (sz:=8) (by kernel_rfl) (oT hc26)) (e1:=z11 [(1000006,.hob 3 [] (M6 v9))]) ?_;obtain⟨hc27,h⟩:=qi h;refine WO.storeA (enc:=(AV.int .i64)) (l:=v8) (l':=v9) (s:=1000006) (sz:=8) 0 (qt .i64) hc27 (e1:=z11 [(1000006,.hob 3 [] (M6 v8))]) ?_;let z12:=fun t=>EN ((6,.pb 1000006 0)::(7,.bool false)::(1000006,.hob 3 [] (M6 v8))::t);refine WO.fn (e2:=z12 []) ?_;refine W.wk (e:=z12 []) ?_;obtain⟨hn28,h⟩:=qi h;have hr:ju Try.prog Try.f129 [(6,.pb 1000006 0),(7,.bool false),(1000006,.hob 3 [] (M6 v8))]=some (.tup [.agg (M6 v8),.bool false]):=(by kernel_rfl:ju Try.prog Try.f129 [(6,.pb 1000006 0),(7,.bool false),(1000006,.hob 3 [] (M6 v8))]=match optAll [(cut Try.prog 178 (M6 v8) 0).map AV.strip,some (.bool false)] with | some l=>some (.tup (l.map AV.strip)) | none=>none).trans (by rw[qA (qt .i64) (sz:=8) (by kernel_rfl) (oT hn28)];rfl);cases h;exact W.ret hr
   refine W.seq ?_;let z13:=fun t=>z10 ((53,.bool (decide (x1≥0)))::t);refine W.rt (e2:=z13 [(1000003,.hob 3 [] (M6 v8)),(1000006,.hob 3 [] (M6 v9))]) ?_;refine W.ch (decide (x1≥0)) h (fun h=>?_) (fun h=>?_)
   ·refine W.rg ?_;obtain⟨hc30,h⟩:=qi h;let z14:=fun t=>z13 ((56,I6 x1)::(57,I6 e14)::(58,.pb 1000003 (0+A0 x1*1))::t);refine WO.pi 2 (v:=.pb 1000003 (0+A0 x1*1)) hc30 (e1:=z14 [(1000003,.hob 3 [] (M6 v8)),(1000006,.hob 3 [] (M6 v9))]) ?_;obtain⟨hc31,h⟩:=qi h;refine WO.setA (enc:=(AV.int .i64)) (l:=v8) (x:=e14) (s:=1000003) (off:=(0+A0 x1*1)) 0 (qt .i64) hc31 (e1:=z14 [(1000003,.hob 3 [] (M6 (v8.set (0+A0 x1*1) e14))),(1000006,.hob 3 [] (M6 v9))])<|WO.fn (e2:=z6 [(1000003,.hob 3 [] (M6 (v8.set (0+A0 x1*1) e14))),(1000006,.hob 3 [] (M6 v9))]) ?_;exact hK10 (v8.set (0+A0 x1*1) e14) h
   refine W.sw (e:=z8 []) ?_;exact hK10 v8 h
  refine W.rg ?_;let z15:=fun t=>z10 ((27,I6 x1)::t);refine WO.bh 3 (fun b=>z15 [(28,.bool b),(29,.bool b),(1000003,.hob 3 [] (M6 v8)),(1000006,.hob 3 [] (M6 v9))]) (decide (x1<0)) h (fun h=>?_) (fun h=>?_)
  ·let z16:=fun t=>z15 ((28,.bool true)::(29,.bool true)::(30,I6 x1)::(31,I6 (W6 (0 - x1)))::(32,I6 e14)::t);refine WO.bh 6 (fun b=>z16 [(33,.bool b),(34,.bool b),(35,.bool b),(1000003,.hob 3 [] (M6 v8)),(1000006,.hob 3 [] (M6 v9))]) ((W6 (0 - x1)) != e14) h (fun h=>?_) (fun h=>?_)
   ·refine WO.fn (e2:=z10 [(26,.bool true),(1000003,.hob 3 [] (M6 v8)),(1000006,.hob 3 [] (M6 v9))]) ?_;exact hK15 true h
   let z17:=fun t=>z16 ((33,.bool false)::(34,.bool false)::(35,.bool false)::(36,I6 x1)::t);refine WO.bh 3 (fun b=>z17 [(37,.bool b),(38,.bool b),(1000003,.hob 3 [] (M6 v8)),(1000006,.hob 3 [] (M6 v9))]) (decide (x1≥0)) h (fun h=>?_) (fun h=>?_)
   ·obtain⟨hc16,h⟩:=qi h;let z18:=fun t=>z17 ((37,.bool true)::(38,.bool true)::(39,I6 x1)::(40,.pb 1000003 (0+A0 x1*1))::t);refine WO.pi 1 (v:=.pb 1000003 (0+A0 x1*1)) hc16 (e1:=z18 [(1000003,.hob 3 [] (M6 v8)),(1000006,.hob 3 [] (M6 v9))]) ?_;obtain⟨e17,he17,h⟩:=qe h;let z19:=fun t=>z18 ((41,I6 e17)::t);refine WO.pk 0 (cut Try.prog 3 (M6 v8) (0+A0 x1*1)) (Yv (qt .i64) (by kernel_rfl) he17) (e1:=z19 [(1000003,.hob 3 [] (M6 v8)),(1000006,.hob 3 [] (M6 v9))])<|WO.bh 3 (fun b=>z19 [(42,.bool b),(43,.bool b),(44,.bool b),(1000003,.hob 3 [] (M6 v8)),(1000006,.hob 3 [] (M6 v9))]) (e17 != 0) h (fun h=>?_) (fun h=>?_)
    ·obtain⟨hc18,h⟩:=qi h;let z20:=fun t=>z19 ((42,.bool true)::(43,.bool true)::(44,.bool true)::(45,I6 x1)::(46,.pb 1000003 (0+A0 x1*1))::t);refine WO.pi 1 (v:=.pb 1000003 (0+A0 x1*1)) hc18 (e1:=z20 [(1000003,.hob 3 [] (M6 v8)),(1000006,.hob 3 [] (M6 v9))]) ?_;obtain⟨e19,he19,h⟩:=qe h;refine WO.pk 0 (cut Try.prog 3 (M6 v8) (0+A0 x1*1)) (Yv (qt .i64) (by kernel_rfl) he19) (e1:=z20 [(47,I6 e19),(1000003,.hob 3 [] (M6 v8)),(1000006,.hob 3 [] (M6 v9))])<|WO.fn (e2:=z10 [(26,.bool (e19 != e14)),(1000003,.hob 3 [] (M6 v8)),(1000006,.hob 3 [] (M6 v9))]) ?_;exact hK15 (e19 != e14) h
    refine WO.fn (e2:=z10 [(26,.bool false),(1000003,.hob 3 [] (M6 v8)),(1000006,.hob 3 [] (M6 v9))]) ?_;exact hK15 false h
   refine WO.fn (e2:=z10 [(26,.bool false),(1000003,.hob 3 [] (M6 v8)),(1000006,.hob 3 [] (M6 v9))]) ?_;exact hK15 false h
  let z21:=fun t=>z15 ((28,.bool false)::(29,.bool false)::(30,.und)::(31,.und)::(32,.und)::(33,.und)::(34,.bool false)::(35,.bool false)::(36,I6 x1)::t);refine WO.bh 9 (fun b=>z21 [(37,.bool b),(38,.bool b),(1000003,.hob 3 [] (M6 v8)),(1000006,.hob 3 [] (M6 v9))]) (decide (x1≥0)) h (fun h=>?_) (fun h=>?_)
  ·obtain⟨hc20,h⟩:=qi h;let z22:=fun t=>z21 ((37,.bool true)::(38,.bool true)::(39,I6 x1)::(40,.pb 1000003 (0+A0 x1*1))::t);refine WO.pi 1 (v:=.pb 1000003 (0+A0 x1*1)) hc20 (e1:=z22 [(1000003,.hob 3 [] (M6 v8)),(1000006,.hob 3 [] (M6 v9))]) ?_;obtain⟨e21,he21,h⟩:=qe h;let z23:=fun t=>z22 ((41,I6 e21)::t);refine WO.pk 0 (cut Try.prog 3 (M6 v8) (0+A0 x1*1)) (Yv (qt .i64) (by kernel_rfl) he21) (e1:=z23 [(1000003,.hob 3 [] (M6 v8)),(1000006,.hob 3 [] (M6 v9))])<|WO.bh 3 (fun b=>z23 [(42,.bool b),(43,.bool b),(44,.bool b),(1000003,.hob 3 [] (M6 v8)),(1000006,.hob 3 [] (M6 v9))]) (e21 != 0) h (fun h=>?_) (fun h=>?_)
   ·obtain⟨hc22,h⟩:=qi h;let z24:=fun t=>z23 ((42,.bool true)::(43,.bool true)::(44,.bool true)::(45,I6 x1)::(46,.pb 1000003 (0+A0 x1*1))::t);refine WO.pi 1 (v:=.pb 1000003 (0+A0 x1*1)) hc22 (e1:=z24 [(1000003,.hob 3 [] (M6 v8)),(1000006,.hob 3 [] (M6 v9))]) ?_;obtain⟨e23,he23,h⟩:=qe h;refine WO.pk 0 (cut Try.prog 3 (M6 v8) (0+A0 x1*1)) (Yv (qt .i64) (by kernel_rfl) he23) (e1:=z24 [(47,I6 e23),(1000003,.hob 3 [] (M6 v8)),(1000006,.hob 3 [] (M6 v9))])<|WO.fn (e2:=z10 [(26,.bool (e23 != e14)),(1000003,.hob 3 [] (M6 v8)),(1000006,.hob 3 [] (M6 v9))]) ?_;exact hK15 (e23 != e14) h
   refine WO.fn (e2:=z10 [(26,.bool false),(1000003,.hob 3 [] (M6 v8)),(1000006,.hob 3 [] (M6 v9))]) ?_;exact hK15 false h
  refine WO.fn (e2:=z10 [(26,.bool false),(1000003,.hob 3 [] (M6 v8)),(1000006,.hob 3 [] (M6 v9))]) ?_;exact hK15 false h
end Go.AM
namespace Go.AM
abbrev lF (l:List rufact):AV:=.lst 127 3 none (l.map qj)
def wfF (f:rufact):Bool:=wfI .i64 f.qr&&wfI .i64 f.f_a&&wfI .i64 f.f_b
def freeP (no:List (rufact×Bool)) (v:List Int):List ruLit→Option Bool
 | []=>some true
 | x::body=>bif x.qp then (ja v x.qc).bind fun f=>chk (wfF f) (bif mget qu false f no then some false else freeP no v body) else freeP no v body
def fitL (k:List Int→Option (List (List Int))) (a:qo) (v:List Int):List rufact→Option (List (List Int))
 | []=>some []
 | g::gs=>(jT v a g).bind fun p=>(bif p.2 then k p.1 else some []).bind fun l=>(fitL k a v gs).bind fun m=>some (l++m)
def tryP (all:List ruLit) (no:List (rufact×Bool)) (bl:List (Int×List rufact)):List ruLit→List Int→Option (List (List Int))
 | [],v=>(freeP no v all).bind fun ok=>some (bif ok then [v] else [])
 | x::body,v=>bif x.qp then tryP all no bl body v else chk (wfI .i64 x.qc.qb) (fitL (tryP all no bl body) x.qc v (mget keq1 [] x.qc.qb bl))
abbrev valsV (v:List Int):Value:=.agg (v.map (Value.int .i64)).toArray
abbrev factV (f:rufact):Value:=.agg #[.int .i64 f.qr,.int .i64 f.f_a,.int .i64 f.f_b]
end Go.AM
namespace Go.Proofs
open Go.RowKit Go.AM
open Go.ChangeMaps (setBlock)
abbrev retU:Ending:=.returned (.tuple #[])
structure CB (D:List (List Int)→Prop) (g:Nat) (caps:Array Value) (M0:Mem) (S:List (List Int)→Mem→World→Prop):Prop where
 pre:∀ {a b},D (a++b)→D a
 enter:∀ args w,(callFunc g args).run Try.prog w=.ok (.enter g args) w
 cons:∀ {d M w},S d M w→Cons M w∧Sub M0 M
 grow:∀ {d M M' w w'},S d M w→Below w.heap.size w w'→Sub M M'→(∀ b o,b<w.heap.size→M' b o=M b o)→Cons M' w'→S d M' w'
 down:∀ {d M M' w},S d M w→Sub M0 M'→Sub M' M→S d M' w
 call:∀ {d M w} (v:List Int),v.length=8→D (d++[v])→S d M w→Calls Try.prog g (#[valsV v]++caps) w fun e w'=>e=retU∧S (d++[v]) M w'
def tryV (br bn bf bt bb:Nat):Value:=.func (.func 128) #[] #[.pointer (some ⟨br,0,none⟩),.pointer (some ⟨bn,0,none⟩),.pointer (some ⟨bf,0,none⟩),.pointer (some ⟨bt,0,none⟩),.pointer (some ⟨bb,0,none⟩)]
structure TE (M:Mem) (br bn bf bt bb:Nat) (body:List ruLit) (no:List (rufact×Bool)) (bl:List (Int×List rufact)) (g:Nat) (caps:Array Value):Prop where
 r:∃ bv,M br 2=some bv∧R M (l56 none body) bv
 n:∃ mv,M bn 0=some mv∧R M (mpE qj AV.bool no) mv
 f:M bf 0=some (.func (.func g) #[] caps)
 t:M bt 0=some (tryV br bn bf bt bb)
 b:∃ mv,M bb 0=some mv∧R M (mpE (AV.int .i64) lF bl) mv
 len:body.length≤1000
theorem TE.mono {M M':Mem} {br bn bf bt bb:Nat} {body:List ruLit} {no:List (rufact×Bool)} {bl:List (Int×List rufact)} {g:Nat} {caps:Array Value} (h:TE M br bn bf bt bb body no bl g caps) (hs:Sub M M'):TE M' br bn bf bt bb body no bl g caps:=by
 obtain⟨⟨bv,h1,h2⟩,⟨mv,h3,h4⟩,h5,h6,⟨mv2,h7,h8⟩,h9⟩:=h;exact⟨⟨bv,hs _ _ _ h1,h2.mono hs⟩,⟨mv,hs _ _ _ h3,h4.mono hs⟩,hs _ _ _ h5,hs _ _ _ h6,⟨mv2,hs _ _ _ h7,h8.mono hs⟩,h9⟩
theorem qaj {M:Mem} {e k:Nat} {xs:List AV} {v:Value} (h:R M (.lst e k none xs) v):∃ a cap,v=.slice a xs.length cap∧∀ i x,xs[i]? = some x→∃ b off,a=some ⟨b,off,none⟩∧∀ j c,x.cells[j]? = some c→∃ u,M b (off+(i*k+j))=some u∧R M c u:=by
 cases h with
 | lstn=>exact⟨none,0,rfl,fun i x hx=>by simp at hx⟩
 | lste _ _ _ ad cap=>exact⟨some ad,cap,rfl,fun i x hx=>by simp at hx⟩
 | lst us h1 h2 h5 h3 h4 =>
  rename_i b off cap;refine⟨some ⟨b,off,none⟩,cap,rfl,fun i x hx=>⟨b,off,rfl,fun j c hc=>?_⟩⟩;have hk:=h2 x (List.mem_of_getElem? hx)
  have hj:j<k:=by rw[← hk];exact (List.getElem?_eq_some_iff.1 hc).1
  have hf:=(YH h2 hx j hj).trans hc;exact⟨us (i*k+j),h3 _ _ hf,h4 _ _ hf⟩
theorem Vn {M:Mem} {e k:Nat} {l:Option Nat} {xs:List AV} {v:Value} (h:R M (.lst e k l xs) v):∃ a cap,v=.slice a xs.length cap:=by
 cases h with
 | lstn=>exact⟨none,0,rfl⟩
 | lste _ _ _ ad cap=>exact⟨some ad,cap,rfl⟩
 | lst us h1 h2 h5 h3 h4=>exact⟨_,_,rfl⟩
theorem qdA {M:Mem} {body:List ruLit} {v:Value} (h:R M (l56 none body) v):∃ a cap,v=.slice a body.length cap∧∀ i x,body[i]? = some x→∃ b off av,a=some ⟨b,off,none⟩∧M b (off+i*3)=some (.bool x.qp)∧M b (off+i*3+1)=some (.int .i64 x.qc.qb)∧M b (off+i*3+2)=some av∧R M (l3 none x.qc.qa) av∧∃ aa ac,av=.slice aa x.qc.qa.length ac:=by
 obtain⟨a,cap,rfl,hc⟩:=qaj h;refine⟨a,cap,by rw[B4],fun i x hx=>?_⟩;obtain⟨b,off,rfl,hcell⟩:=hc i (Xo x) (by simp[hx]);obtain⟨u0,h0,r0⟩:=hcell 0 _ rfl;obtain⟨u1,h1,r1⟩:=hcell 1 _ rfl;obtain⟨u2,h2,r2⟩:=hcell 2 _ rfl;cases r0;cases r1;obtain⟨aa,ac,e⟩:=Vn r2;exact⟨b,off,u2,rfl,h0,h1,h2,r2,aa,ac,by rw[e,B4]⟩
theorem qbV {M:Mem} {l:List rufact} {v:Value} (h:R M (lF l) v):∃ a cap,v=.slice a l.length cap∧∀ i x,l[i]? = some x→∃ b off,a=some ⟨b,off,none⟩∧M b (off+i*3)=some (.int .i64 x.qr)∧M b (off+i*3+1)=some (.int .i64 x.f_a)∧M b (off+i*3+2)=some (.int .i64 x.f_b):=by
 obtain⟨a,cap,rfl,hc⟩:=qaj h;refine⟨a,cap,by rw[B4],fun i x hx=>?_⟩;obtain⟨b,off,rfl,hcell⟩:=hc i (qj x) (by simp[hx]);obtain⟨u0,h0,r0⟩:=hcell 0 _ rfl;obtain⟨u1,h1,r1⟩:=hcell 1 _ rfl;obtain⟨u2,h2,r2⟩:=hcell 2 _ rfl;cases r0;cases r1;cases r2;exact⟨b,off,rfl,h0,h1,h2⟩
theorem qfT (M:Mem) (v:List Int):R M (.agg (v.map (AV.int .i64))) (valsV v):=by
 refine .agg (by simp) fun j c u hc hu=>?_
 rw[List.getElem?_map,Option.map_eq_some_iff]at hc hu;obtain⟨x,h1,rfl⟩:=hc;obtain⟨y,h2,rfl⟩:=hu;rw[h1]at h2;cases h2;exact .int _ _
theorem qiA {M:Mem} {v:List Int} {u:Value} (h:R M (.agg (v.map (AV.int .i64))) u):u=valsV v:=by
 obtain⟨vs,rfl,hl,hr⟩:=h.agg_inv
 have:vs=v.map (Value.int .i64):=by
  refine List.ext_getElem? fun i=>?_
  rw[List.getElem?_map];by_cases hi:i<v.length
  ·have hi2:i<vs.length:=by rw[← hl];simpa using hi
   rw[A9 hi2,A9 hi];have:=hr i (AV.int .i64 v[i]) vs[i] (by simp[hi]) (A9 hi2);rw[this.int_inv];rfl
  ·rw[C7 (by rw[← hl];simpa using hi),C7 (by omega)];rfl
 rw[this]
theorem eight {v:List Int} (h:v.length=8):∃ a0 a1 a2 a3 a4 a5 a6 a7,v=[a0,a1,a2,a3,a4,a5,a6,a7]:=by
 match v,h with
 | [a0,a1,a2,a3,a4,a5,a6,a7],_=>exact⟨_,_,_,_,_,_,_,_,rfl⟩
def skipsOk (md:Region.Mode) (ops:Array Oper):List Nat→Array Bool→Act→Bool
 | [],_,_=>true
 | i::r,listed,a=>Region.free md ops listed i&&(((Region.ready md ops listed).contains i)&&(match ops[i]? with
  | some o=>!Region.wanted o (yielded ops a.tmps)&&skipsOk md ops r (listed.setIfInBounds i true) (a.put o.dst undef)
  | none=>false))
def skipL:List Nat→Array Bool→Array Bool
 | [],l=>l
 | i::r,l=>skipL r (l.setIfInBounds i true)
def skipA (ops:Array Oper):List Nat→Act→Act
 | [],a=>a
 | i::r,a=>skipA ops r (match ops[i]? with | some o=>a.put o.dst undef | none=>a)
theorem Da {P:Program} {ops:Array Oper} {Q:Exit→Act→World→Prop} {md:Region.Mode} {S:World→Prop} (hs:Region.noSelect ops=true) {w:World} (hS:S w) (hq:∀ c a d v w,Q (.panic c) (a.put d v) w→Q (.panic c) a w):∀ (L:List Nat) {fuel:Nat} {listed:Array Bool} {a:Act},skipsOk md ops L listed a=true →
  wpAnyH P md ops Q S fuel (skipL L listed) (skipA ops L a) w→wpAnyH P md ops Q S (fuel+L.length) listed a w
 | [],fuel,listed,a,_,h=>h
 | i::r,fuel,listed,a,hk,h=>by
  simp only[skipsOk,B0]at hk;obtain⟨h1,h2,h3⟩:=hk
  cases ho:ops[i]? with
  | none=>rw[ho]at h3;cases h3
  | some o =>
   rw[ho]at h3;simp only[B0,Bool.not_eq_true']at h3
   have h4:wpAnyH P md ops Q S fuel (skipL r (listed.setIfInBounds i true)) (skipA ops r (a.put o.dst undef)) w:=by
    have:skipA ops (i::r) a=skipA ops r (a.put o.dst undef):=by simp only[skipA,ho]
    rw[← this];exact h
   exact wpAnyH_take ho hs h1 h2 (fun c b w' hh=>hq _ _ _ _ _ hh) (Or.inr ⟨h3.1,rfl⟩) hS (Da hs hS hq r h3.2 h4)
def mbox (M:Mem) (b:Nat) (cs:Array Value):Mem:=fun b' o=>if b'=b then cs[o]? else M b' o
theorem NR {M:Mem} {b o:Nat} {cs:Array Value}:mbox M b cs b o=cs[o]?:=by simp[mbox]
theorem HE {M:Mem} {b b' o:Nat} {cs:Array Value} (h:b'≠b):mbox M b cs b' o=M b' o:=by simp[mbox,h]
theorem ZR {M:Mem} {w:World} {b:Nat} {cs:Array Value} (hC:Cons M w) (h:w.heap.size≤b):Sub M (mbox M b cs):=fun b' o u hu=>by
 have:=UT (hC _ _ _ hu);rw[HE (by omega)];exact hu
theorem qcZ {M:Mem} {w:World} {b:Nat} {t:TypeId} {fz:Nat×Nat} {cs:Array Value} (hC:Cons M w) (h:w.heap[b]? = some (.cells cs t fz)) (hv:∀ (j:Nat) u,cs[j]? = some u→isTup u=false):Cons (mbox M b cs) w:=fun b' o u hu=>by
 unfold mbox at hu;split at hu
 ·rename_i e;subst e;unfold mc;rw[h];exact JP hu (hv _ _ hu)
 ·exact hC _ _ _ hu
theorem CB.box {D:List (List Int)→Prop} {g:Nat} {caps:Array Value} {M0:Mem} {S:List (List Int)→Mem→World→Prop} (hcb:CB D g caps M0 S) {d:List (List Int)} {M:Mem} {w:World} (hS:S d M w) {cs:Array Value} {t:TypeId} (hv:∀ (j:Nat) u,cs[j]? = some u→isTup u=false):S d (mbox M w.heap.size cs) (w.alloc (.cells cs t)):=by
 obtain⟨hC,_⟩:=hcb.cons hS;exact hcb.grow hS ((Below.refl _ _).alloc (A7 _) _) (ZR hC (A7 _)) (fun b o hb=>HE (by omega)) (qcZ (hC.alloc _) (heap_alloc_new _ _) hv)
theorem tup8 {x0 x1 x2 x3 x4 x5 x6 x7:Int}:∀ (j:Nat) u,(#[.int .i64 x0,.int .i64 x1,.int .i64 x2,.int .i64 x3,.int .i64 x4,.int .i64 x5,.int .i64 x6,.int .i64 x7]:Array Value)[j]? = some u→isTup u=false:=fun j u h=>by
 match j,h with
 | 0,h | 1,h | 2,h | 3,h | 4,h | 5,h | 6,h | 7,h=>cases h;rfl
theorem tup3 {x0:Bool} {x1:Int} {aa:Option Addr} {n ac:Nat}:∀ (j:Nat) u,(#[.bool x0,.int .i64 x1,.slice aa n ac]:Array Value)[j]? = some u→isTup u=false:=fun j u h=>by
 match j,h with
 | 0,h | 1,h | 2,h=>cases h;rfl
theorem qiI {M:Mem} {no:List (rufact×Bool)} {mv:Value} (hm:R M (mpE qj AV.bool no) mv) {f:rufact} (hf:wfF f=true):∀ w,Cons M w→(Instr.lookup 105 mv (.agg #[.int .i64 f.qr,.int .i64 f.f_a,.int .i64 f.f_b]) false).run Try.prog w=.ok (.bool (mget qu false f no)) w:=by
 intro w hC
 have hk:(qj f).keyV=some (.agg #[.int .i64 f.qr,.int .i64 f.f_a,.int .i64 f.f_b]):=by
  unfold wfF at hf;rw[B0,B0]at hf;simp only[qj,AV.keyV,keyVs,hf.1.1,hf.1.2,hf.2]
 have hr:=VD (P:=Try.prog) (t:=105) (kt:=127) (e:=4) (F:=qj) (G:=AV.bool) (eq:=qu) (l:=no) (k:=f) (z:=false) (by rw[hk];rfl) (by kernel_rfl) (fun x=>by kernel_rfl) (fun x y=>rfl) (by kernel_rfl);obtain⟨v,h1,h2⟩:=qbC (kt:=127) (e:=4) (w:=w) hC hm (by kernel_rfl) hk hr;cases h2;exact h1
theorem Dr {M:Mem} {ks vs:List AV} {v:Value} (h:R M (.mpv ks vs) v):∃ mo,v=.map mo:=by
 generalize hx:AV.mpv ks vs=x at h
 cases h<;>first | exact⟨_,rfl⟩ | cases hx
theorem qfx {M:Mem} {f:rufact} {v:Value} (h:R M (.agg [.int .i64 f.qr,.int .i64 f.f_a,.int .i64 f.f_b]) v):v=factV f:=by
 obtain⟨vs,rfl,hl,hr⟩:=h.agg_inv
 match vs,hl with
 | [u0,u1,u2],_ =>
  have r0:=hr 0 _ _ rfl rfl;have r1:=hr 1 _ _ rfl rfl;have r2:=hr 2 _ _ rfl rfl;rw[r0.int_inv,r1.int_inv,r2.int_inv]
theorem CB.drew {D:List (List Int)→Prop} {g:Nat} {caps:Array Value} {M0:Mem} {S:List (List Int)→Mem→World→Prop} (hcb:CB D g caps M0 S) {d:List (List Int)} {M:Mem} {w:World} (hS:S d M w):S d M w.drew :=
 hcb.grow hS ⟨rfl,rfl,rfl,A7 _,fun _ _=>rfl⟩ (Sub.refl M) (fun _ _ _=>rfl) (hcb.cons hS).1
theorem jK {M:Mem} {w:World} (hC:Cons M w) {b o:Nat} {v:Value} (h:M b o=some v) (ht:isTup v=false):w.cell? ⟨b,o,none⟩=some v:=Qj (hC _ _ _ h) ht
theorem qgP {M:Mem} {rel:Int} {args:List Int} {av:Value} (h:R M (l3 none args) av):R M (.agg [.int .i64 rel,l3 none args]) (.agg #[.int .i64 rel,av]):=by
 refine .agg (vs:=[.int .i64 rel,av]) rfl fun j c v hc hv=>?_
 match j,hc,hv with
 | 0,hc,hv=>cases hc;cases hv;exact .int _ _
 | 1,hc,hv=>cases hc;cases hv;exact h
set_option maxHeartbeats 4000000 in
theorem Try.leaf128 (D:List (List Int)→Prop) (g:Nat) (caps:Array Value) (M0:Mem) (S:List (List Int)→Mem→World→Prop) (hcb:CB D g caps M0 S) (br bn bf bt bb:Nat) (body:List ruLit) (no:List (rufact×Bool)) (bl:List (Int×List rufact)) (ht:TE M0 br bn bf bt bb body no bl g caps)
  (v:List Int) (out d:List (List Int)) (M:Mem) (w:World) (hv:v.length=8) (h:tryP body no bl [] v=some out) (hD:D (d++out)) (hS:S d M w) :
   Calls Try.prog 128 #[.int .i64 (body.length:Nat),valsV v,.pointer (some ⟨br,0,none⟩),.pointer (some ⟨bn,0,none⟩),.pointer (some ⟨bf,0,none⟩),.pointer (some ⟨bt,0,none⟩),.pointer (some ⟨bb,0,none⟩)] w fun e w'=>e=retU∧S (d++out) M w':=by
  have mixed:=mixedP;have t3:=Try.underlying3;have a3:=Try.isAgg3;have z3:=Try.sizeOf3;have v3:=Try.zeroValue3;have u3:=run_underlying Try.underlying3;have t4:=Try.underlying4;have a4:=Try.isAgg4;have z4:=Try.sizeOf4;have v4:=Try.zeroValue4;have u4:=run_underlying Try.underlying4;have t50:=Try.underlying50;have a50:=Try.isAgg50;have z50:=Try.sizeOf50;have v50:=Try.zeroValue50;have u50:=run_underlying Try.underlying50;have t52:=Try.underlying52;have a52:=Try.isAgg52;have z52:=Try.sizeOf52;have v52:=Try.zeroValue52;have u52:=run_underlying Try.underlying52;have t54:=Try.underlying54;have a54:=Try.isAgg54;have z54:=Try.sizeOf54;have v54:=Try.zeroValue54;have u54:=run_underlying Try.underlying54;have t56:=Try.underlying56;have a56:=Try.isAgg56;have z56:=Try.sizeOf56;have v56:=Try.zeroValue56;have u56:=run_underlying Try.underlying56;have t105:=Try.underlying105;have a105:=Try.isAgg105;have z105:=Try.sizeOf105;have v105:=Try.zeroValue105;have u105:=run_underlying Try.underlying105;have t127:=Try.underlying127;have a127:=Try.isAgg127;have z127:=Try.sizeOf127;have v127:=Try.zeroValue127;have u127:=run_underlying Try.underlying127;have t150:=Try.underlying150;have a150:=Try.isAgg150;have z150:=Try.sizeOf150;have v150:=Try.zeroValue150;have u150:=run_underlying Try.underlying150;have t178:=Try.underlying178;have a178:=Try.isAgg178;have z178:=Try.sizeOf178;have v178:=Try.zeroValue178;have u178:=run_underlying Try.underlying178;have t180:=Try.underlying180;have a180:=Try.isAgg180;have z180:=Try.sizeOf180;have v180:=Try.zeroValue180;have u180:=run_underlying Try.underlying180;have t191:=Try.underlying191;have a191:=Try.isAgg191;have z191:=Try.sizeOf191;have v191:=Try.zeroValue191;have u191:=run_underlying Try.underlying191;have t192:=Try.underlying192;have a192:=Try.isAgg192;have z192:=Try.sizeOf192;have v192:=Try.zeroValue192;have u192:=run_underlying Try.underlying192;obtain⟨hC,hM0⟩:=hcb.cons hS;obtain⟨bv,q1,q2⟩:=ht.r;obtain⟨ba,bc,rfl,hbody⟩:=qdA q2;obtain⟨x0,x1,x2,x3,x4,x5,x6,x7,rfl⟩:=eight hv;have hlen:=ht.len
  have c1:∀ o,(w.alloc o).cell? ⟨br,2,none⟩=some (.slice ba body.length bc):=fun o=>Qj ((hC.alloc o) _ _ _ (hM0 _ _ _ q1)) rfl
  obtain⟨ok,hok,h⟩:=qe h;obtain⟨w1,ew1⟩:∃ w1,w1=w.alloc (.cells #[.int .i64 x0,.int .i64 x1,.int .i64 x2,.int .i64 x3,.int .i64 x4,.int .i64 x5,.int .i64 x6,.int .i64 x7] 178):=⟨_,rfl⟩;obtain⟨M1,eM1⟩:∃ M1,M1=mbox M w.heap.size #[.int .i64 x0,.int .i64 x1,.int .i64 x2,.int .i64 x3,.int .i64 x4,.int .i64 x5,.int .i64 x6,.int .i64 x7]:=⟨_,rfl⟩
  have S1:S d M1 w1:=by rw[ew1,eM1];exact hcb.box hS tup8
  have s1:Sub M M1:=by rw[eM1];exact ZR hC (A7 _)
  have b8:∀ j:Nat,M1 w.heap.size j=(#[.int .i64 x0,.int .i64 x1,.int .i64 x2,.int .i64 x3,.int .i64 x4,.int .i64 x5,.int .i64 x6,.int .i64 x7]:Array Value)[j]?:=fun j=>by rw[eM1,NR]
  have HW:=(show Hid (w1=_) from ew1);clear ew1 eM1
  go_enter Try.func128,Try.ntmps128
  go_wp2
  rw[← HW.out]
  go_loopw [24] (fun i wr=>∃ k:Nat,k≤body.length∧i=.int .i64 k∧freeP no [x0,x1,x2,x3,x4,x5,x6,x7] (body.drop k)=some ok∧∃ M',Sub M1 M'∧S d M' wr)
   (fun i _=>body.length - (RowKit.intOf i).toNat)
  case atStart=>exact⟨0,Nat.zero_le _,rfl,hok,M1,Sub.refl _,S1⟩
  case round =>
   obtain⟨k,hk,rfl,hfr,M2,s2,S2⟩:=hrel;obtain⟨C2,_⟩:=hcb.cons S2
   rcases B1 k body.length with hk1 | hk1
   ·obtain⟨b,off,av,rfl,e0,e1,e2,rav,aa,ac,rfl⟩:=hbody k _ (A9 hk1);rw[B7 hk1]at hfr;have j0:(0:Int)≤(k:Int):=C0 _
    have j1:(k:Int)<(body.length:Int):=by omega
    have sM:Sub M M2:=Sub.trans s1 s2;have f0:=Qj (C2 _ _ _ (sM _ _ _ (hM0 _ _ _ e0))) rfl;have f1:=Qj (C2 _ _ _ (sM _ _ _ (hM0 _ _ _ e1))) rfl;have f2:=Qj (C2 _ _ _ (sM _ _ _ (hM0 _ _ _ e2))) rfl;generalize body[k]=x at hfr e0 e1 e2 rav f0 f1 f2;obtain⟨nt,⟨rel,args⟩⟩:=x;obtain⟨w2,ew2⟩:∃ w2,w2=wr.alloc (.cells #[.bool nt,.int .i64 rel,.slice aa args.length ac] 56):=⟨_,rfl⟩;obtain⟨M3,eM3⟩:∃ M3,M3=mbox M2 wr.heap.size #[.bool nt,.int .i64 rel,.slice aa args.length ac]:=⟨_,rfl⟩
    have S3:S d M3 w2:=by rw[ew2,eM3];exact hcb.box S2 tup3
    have s3:Sub M2 M3:=by rw[eM3];exact ZR C2 (A7 _)
    have b10:∀ j:Nat,M3 wr.heap.size j=(#[.bool nt,.int .i64 rel,.slice aa args.length ac]:Array Value)[j]?:=fun j=>by rw[eM3,NR]
    have S4:=hcb.drew S3;obtain⟨C4,_⟩:=hcb.cons S4;have s0:Sub M0 M3:=Sub.trans hM0 (Sub.trans sM s3);obtain⟨mv,n1,n2⟩:=ht.n;obtain⟨mo,rfl⟩:=Dr n2
    have KK:∀ w' M',Sub M3 M'→Cons M' w'→w'.cell? ⟨wr.heap.size,0,none⟩=some (.bool nt)∧w'.cell? ⟨wr.heap.size,1,none⟩=some (.int .i64 rel)∧w'.cell? ⟨wr.heap.size,2,none⟩=some (.slice aa args.length ac)∧w'.cell? ⟨bn,0,none⟩=some (.map mo)∧w'.cell? ⟨w.heap.size,0,none⟩=some (.int .i64 x0)∧w'.cell? ⟨w.heap.size,1,none⟩=some (.int .i64 x1)∧w'.cell? ⟨w.heap.size,2,none⟩=some (.int .i64 x2)∧w'.cell? ⟨w.heap.size,3,none⟩=some (.int .i64 x3)∧w'.cell? ⟨w.heap.size,4,none⟩=some (.int .i64 x4)∧w'.cell? ⟨w.heap.size,5,none⟩=some (.int .i64 x5)∧w'.cell? ⟨w.heap.size,6,none⟩=some (.int .i64 x6)∧w'.cell? ⟨w.heap.size,7,none⟩=some (.int .i64 x7):=fun w' M' hs hC'=>⟨jK hC' (hs _ _ _ (b10 0)) rfl,jK hC' (hs _ _ _ (b10 1)) rfl,jK hC' (hs _ _ _ (b10 2)) rfl,jK hC' (hs _ _ _ (s0 _ _ _ n1)) rfl,jK hC' (hs _ _ _ (s3 _ _ _ (s2 _ _ _ (b8 0)))) rfl,jK hC' (hs _ _ _ (s3 _ _ _ (s2 _ _ _ (b8 1)))) rfl,jK hC' (hs _ _ _ (s3 _ _ _ (s2 _ _ _ (b8 2)))) rfl,jK hC' (hs _ _ _ (s3 _ _ _ (s2 _ _ _ (b8 3)))) rfl,jK hC' (hs _ _ _ (s3 _ _ _ (s2 _ _ _ (b8 4)))) rfl,jK hC' (hs _ _ _ (s3 _ _ _ (s2 _ _ _ (b8 5)))) rfl,jK hC' (hs _ _ _ (s3 _ _ _ (s2 _ _ _ (b8 6)))) rfl,jK hC' (hs _ _ _ (s3 _ _ _ (s2 _ _ _ (b8 7)))) rfl⟩
    have HW2:=(show Hid (w2=_) from ew2)
    have c118:=fun f (hgr:ja [x0,x1,x2,x3,x4,x5,x6,x7] ⟨rel,args⟩=some f)=>qge (Yd [x0,x1,x2,x3,x4,x5,x6,x7] ⟨rel,args⟩ f hgr) M3 w2.drew [valsV [x0,x1,x2,x3,x4,x5,x6,x7],.agg #[.int .i64 rel,.slice aa args.length ac]] (glob0 M3) C4 rfl (fun j a b ha hb=>by
     match j,ha,hb with
     | 0,ha,hb=>cases ha;cases hb;exact qfT _ _
     | 1,ha,hb=>cases ha;cases hb;exact qgP (rav.mono s0))
    have h118:=(show Hid _ from c118);clear ew2 eM3 c118
    go_wp2
    rw[← HW2.out]
    cases nt with
    | false =>
     have hfr:freeP no [x0,x1,x2,x3,x4,x5,x6,x7] (List.drop (k+1) body)=some ok:=hfr;have K0:=KK w2.drew M3 (Sub.refl _) C4;obtain⟨an,ean⟩:∃ an,an=args.length:=⟨_,rfl⟩;rw[← ean]at K0 ⊢;refine wp_region_held_drew (S:=(fun w'=>w'.cell? ⟨wr.heap.size,0,none⟩=some (.bool false)∧w'.cell? ⟨wr.heap.size,1,none⟩=some (.int .i64 rel)∧w'.cell? ⟨wr.heap.size,2,none⟩=some (.slice aa an ac)∧w'.cell? ⟨bn,0,none⟩=some (.map mo)∧w'.cell? ⟨w.heap.size,0,none⟩=some (.int .i64 x0)∧w'.cell? ⟨w.heap.size,1,none⟩=some (.int .i64 x1)∧w'.cell? ⟨w.heap.size,2,none⟩=some (.int .i64 x2)∧w'.cell? ⟨w.heap.size,3,none⟩=some (.int .i64 x3)∧w'.cell? ⟨w.heap.size,4,none⟩=some (.int .i64 x4)∧w'.cell? ⟨w.heap.size,5,none⟩=some (.int .i64 x5)∧w'.cell? ⟨w.heap.size,6,none⟩=some (.int .i64 x6)∧w'.cell? ⟨w.heap.size,7,none⟩=some (.int .i64 x7))) (by kernel_rfl) K0 (fun hHeld=>?_);refine tkH (i:=0) (v:=.pointer (some ⟨wr.heap.size,0,none⟩)) rfl (Or.inl ⟨by kernel_rfl,fun w' hw'=>?_⟩) hHeld ?_
     ·obtain⟨q0,q1,q2,q3,q4,q5,q6,q7,q8,q9,q10,q11⟩:=hw';go_simp
     simp only[Act.put,A4,A5,A6,A1,A2,A3];refine tkH (i:=1) (v:=.bool false) rfl (Or.inl ⟨by kernel_rfl,fun w' hw'=>?_⟩) hHeld ?_
     ·obtain⟨q0,q1,q2,q3,q4,q5,q6,q7,q8,q9,q10,q11⟩:=hw';go_simp
     simp only[Act.put,A4,A5,A6,A1,A2,A3];refine tkH (i:=2) (v:=.bool false) rfl (Or.inl ⟨by kernel_rfl,fun w' hw'=>?_⟩) hHeld ?_
     ·obtain⟨q0,q1,q2,q3,q4,q5,q6,q7,q8,q9,q10,q11⟩:=hw';go_simp
     simp only[Act.put,A4,A5,A6,A1,A2,A3];refine Da (by kernel_rfl) hHeld (fun _ _ d _ _ h=>by cases d<;>exact h) [3,4,5,6,7,8] (fuel:=1) (by kernel_rfl) ?_;simp only[skipL,skipA,Act.put,List.getElem?_toArray,List.getElem?_cons_succ,List.getElem?_cons_zero,A1,A2,A3];refine tkH (i:=9) (v:=.bool false) rfl (Or.inl ⟨by kernel_rfl,fun w' hw'=>?_⟩) hHeld ?_
     ·obtain⟨q0,q1,q2,q3,q4,q5,q6,q7,q8,q9,q10,q11⟩:=hw';go_simp
     simp only[Act.put,A4,A5,A6,A1,A2,A3];refine wpAnyH_done (by kernel_rfl) ?_ _
     go_wp2
     go_roundw
     case rel=>exact⟨k+1,hk1,by go_num,hfr,M3,Sub.trans s2 s3,S4⟩
     case measure=>simp[RowKit.intOf];omega
    | true =>
     obtain⟨f,hgr,hfr⟩:=qe (show ((ja [x0,x1,x2,x3,x4,x5,x6,x7] ⟨rel,args⟩).bind _)=some ok from hfr);obtain⟨hwf,hfr⟩:=qi hfr
     have LK:=fun w' M' (hs:Sub M3 M') (hC':Cons M' w')=>qiI (n2.mono (Sub.trans s0 hs)) hwf w' hC'
     obtain⟨bq,ebq⟩:∃ bq,bq=mget qu false f no:=⟨_,rfl⟩;rw[← ebq]at hfr LK;have K0:_∧_:=⟨LK w2.drew M3 (Sub.refl _) C4,KK w2.drew M3 (Sub.refl _) C4⟩;obtain⟨an,ean⟩:∃ an,an=args.length:=⟨_,rfl⟩;have c118:=h118.out f hgr;rw[← ean]at K0 KK c118 ⊢;clear h118 ean;clear ebq;refine wp_region_held_drew (S:=(fun w'=>(Instr.lookup 105 (.map mo) (.agg #[.int .i64 f.qr,.int .i64 f.f_a,.int .i64 f.f_b]) false).run Try.prog w'=.ok (.bool bq) w'∧w'.cell? ⟨wr.heap.size,0,none⟩=some (.bool true)∧w'.cell? ⟨wr.heap.size,1,none⟩=some (.int .i64 rel)∧w'.cell? ⟨wr.heap.size,2,none⟩=some (.slice aa an ac)∧w'.cell? ⟨bn,0,none⟩=some (.map mo)∧w'.cell? ⟨w.heap.size,0,none⟩=some (.int .i64 x0)∧w'.cell? ⟨w.heap.size,1,none⟩=some (.int .i64 x1)∧w'.cell? ⟨w.heap.size,2,none⟩=some (.int .i64 x2)∧w'.cell? ⟨w.heap.size,3,none⟩=some (.int .i64 x3)∧w'.cell? ⟨w.heap.size,4,none⟩=some (.int .i64 x4)∧w'.cell? ⟨w.heap.size,5,none⟩=some (.int .i64 x5)∧w'.cell? ⟨w.heap.size,6,none⟩=some (.int .i64 x6)∧w'.cell? ⟨w.heap.size,7,none⟩=some (.int .i64 x7))) (by kernel_rfl) K0 (fun hHeld=>?_);refine tkH (i:=0) (v:=.pointer (some ⟨wr.heap.size,0,none⟩)) rfl (Or.inl ⟨by kernel_rfl,fun w' hw'=>?_⟩) hHeld ?_
     ·obtain⟨q0,q1,q2,q3,q4,q5,q6,q7,q8,q9,q10,q11,q12⟩:=hw';go_simp
     simp only[Act.put,A4,A5,A6,A1,A2,A3];refine tkH (i:=1) (v:=.bool true) rfl (Or.inl ⟨by kernel_rfl,fun w' hw'=>?_⟩) hHeld ?_
     ·obtain⟨q0,q1,q2,q3,q4,q5,q6,q7,q8,q9,q10,q11,q12⟩:=hw';go_simp
     simp only[Act.put,A4,A5,A6,A1,A2,A3];refine tkH (i:=2) (v:=.bool true) rfl (Or.inl ⟨by kernel_rfl,fun w' hw'=>?_⟩) hHeld ?_
     ·obtain⟨q0,q1,q2,q3,q4,q5,q6,q7,q8,q9,q10,q11,q12⟩:=hw';go_simp
     simp only[Act.put,A4,A5,A6,A1,A2,A3];refine tkH (i:=3) (v:=.map mo) rfl (Or.inl ⟨by kernel_rfl,fun w' hw'=>?_⟩) hHeld ?_
     ·obtain⟨q0,q1,q2,q3,q4,q5,q6,q7,q8,q9,q10,q11,q12⟩:=hw';go_simp
     simp only[Act.put,A4,A5,A6,A1,A2,A3];refine tkH (i:=4) (v:=.agg #[.int .i64 x0,.int .i64 x1,.int .i64 x2,.int .i64 x3,.int .i64 x4,.int .i64 x5,.int .i64 x6,.int .i64 x7]) rfl (Or.inl ⟨by kernel_rfl,fun w' hw'=>?_⟩) hHeld ?_
     ·obtain⟨q0,q1,q2,q3,q4,q5,q6,q7,q8,q9,q10,q11,q12⟩:=hw';go_simp
     simp only[Act.put,A4,A5,A6,A1,A2,A3];refine tkH (i:=5) (v:=.pointer (some ⟨wr.heap.size,1,none⟩)) rfl (Or.inl ⟨by kernel_rfl,fun w' hw'=>?_⟩) hHeld ?_
     ·obtain⟨q0,q1,q2,q3,q4,q5,q6,q7,q8,q9,q10,q11,q12⟩:=hw';go_simp
     simp only[Act.put,A4,A5,A6,A1,A2,A3];refine tkH (i:=6) (v:=.agg #[.int .i64 rel,.slice aa an ac]) rfl (Or.inl ⟨by kernel_rfl,fun w' hw'=>?_⟩) hHeld ?_
     ·obtain⟨q0,q1,q2,q3,q4,q5,q6,q7,q8,q9,q10,q11,q12⟩:=hw';go_simp
     simp only[Act.put,A4,A5,A6,A1,A2,A3];refine wpAnyH_ready (rs:=[7]) (by kernel_rfl) (by simp) (AllReadyH.cons rfl (fun K hK=>?_) AllReadyH.nil);rw[if_pos (by kernel_rfl)];go_simp
     go_at_call 118
     refine Calls.mono c118 ?_
     rintro e w5 ⟨fv,M5,rfl,hB5,s5,C5,o5,r5,_⟩
     obtain rfl:=qfx r5;have S5:=hcb.grow S4 hB5 s5 o5 C5;have K5:_∧_:=⟨LK w5 M5 s5 C5,KK w5 M5 s5 C5⟩
     go_wp2_with fail
     refine hK.out _ _ K5 (fun hHeld=>?_);clear hK K;refine tkH (i:=8) (v:=.bool bq) rfl (Or.inl ⟨by kernel_rfl,fun w' hw'=>?_⟩) hHeld ?_
     ·obtain⟨q0,q1,q2,q3,q4,q5,q6,q7,q8,q9,q10,q11,q12⟩:=hw';go_simp
     simp only[Act.put,A4,A5,A6,A1,A2,A3];refine tkH (i:=9) (v:=.bool bq) rfl (Or.inl ⟨by kernel_rfl,fun w' hw'=>?_⟩) hHeld ?_
     ·obtain⟨q0,q1,q2,q3,q4,q5,q6,q7,q8,q9,q10,q11,q12⟩:=hw';go_simp
     simp only[Act.put,A4,A5,A6,A1,A2,A3];refine wpAnyH_done (by kernel_rfl) ?_ _
     cases bq with
     | true =>
      cases hfr;cases h
      go_wp2
      refine bodyPost_ret (results_none rfl _ _ _) rfl ?_;exact⟨rfl,by simpa using hcb.down S5 hM0 (Sub.trans sM (Sub.trans s3 s5))⟩
     | false =>
      go_wp2
      go_roundw
      case rel=>exact⟨k+1,hk1,by go_num,hfr,M5,Sub.trans s2 (Sub.trans s3 s5),S5⟩
      case measure=>simp[RowKit.intOf];omega
   ·have hkl:k=body.length:=by omega
    subst hkl;rw[List.drop_length]at hfr;cases hfr;cases h;have hcall:=hcb.call [x0,x1,x2,x3,x4,x5,x6,x7] rfl hD S2;have f1:=jK C2 (s2 _ _ _ (s1 _ _ _ (hM0 _ _ _ ht.f))) rfl;have hen:=hcb.enter
    have k8:∀ (j:Nat) u,(#[.int .i64 x0,.int .i64 x1,.int .i64 x2,.int .i64 x3,.int .i64 x4,.int .i64 x5,.int .i64 x6,.int .i64 x7]:Array Value)[j]? = some u→wr.cell? ⟨w.heap.size,j,none⟩=some u:=fun j u hu=>jK C2 (s2 _ _ _ ((b8 j).trans hu)) (tup8 j u hu)
    have k80:=k8 0 _ rfl;have k81:=k8 1 _ rfl;have k82:=k8 2 _ rfl;have k83:=k8 3 _ rfl;have k84:=k8 4 _ rfl;have k85:=k8 5 _ rfl;have k86:=k8 6 _ rfl;have k87:=k8 7 _ rfl
    go_wp2_with fail
    refine Calls.mono hcall ?_
    rintro e w5 ⟨rfl,S5⟩
    go_wp2
    refine bodyPost_ret (results_none rfl _ _ _) rfl ?_;exact⟨rfl,hcb.down S5 hM0 (Sub.trans s1 s2)⟩
theorem qft (a3:rufact) (a2:qo):∀ (args:List Int) (k1:Nat) (v8 v9:List Int) (p:List Int×Bool),qn a3 (qv a2 a3) args k1 v8 v9=some p→p.1.length=8:=by
 intro args
 induction args with
 | nil =>
  intro k1 v8 v9 p h;unfold qn qv at h;obtain⟨h1,h⟩:=qi h;obtain⟨h2,h⟩:=qi h;obtain⟨h3,h⟩:=qi h;cases h
  simpa using h1
 | cons x args ih =>
  intro k1 v8 v9 p h
  have key:∀ e14 v24,qz x v8 v9 e14 (qH v9 (qn a3 (qv a2 a3) args (k1+1))) v24=some p→p.1.length=8:=by
   intro e14 v24 h;unfold qz at h
   cases v24 with
   | true =>
    simp only[cT]at h;obtain⟨h1,h⟩:=qi h;obtain⟨h2,h⟩:=qi h;obtain⟨h3,h⟩:=qi h;cases h
    simpa using h1
   | false =>
    simp only[cN]at h
    cases hx:decide (x≥0) with
    | true =>
     rw[hx]at h;simp only[cT]at h;obtain⟨h1,h⟩:=qi h;obtain⟨h2,h⟩:=qi h;exact ih _ _ _ _ h
    | false =>
     rw[hx]at h;simp only[cN]at h;exact ih _ _ _ _ h
  unfold qn at h;obtain⟨h1,h⟩:=qi h;obtain⟨e14,h2,h⟩:=qe h;have key:=key e14;generalize qz x v8 v9 e14 (qH v9 (qn a3 (qv a2 a3) args (k1+1)))=J at h key
  have kk:∀ (c:Bool) (A B:Option (List Int×Bool)),(bif c then A else B)=some p→A=some p∨B=some p:=fun c A B h=>by cases c;exact .inr h;exact .inl h
  rcases kk _ _ _ h with h | h
  ·rcases kk _ _ _ h with h | h
   ·exact key _ h
   ·rcases kk _ _ _ h with h | h
    ·obtain⟨_,h⟩:=qi h;obtain⟨_,_,h⟩:=qe h
     rcases kk _ _ _ h with h | h
     ·obtain⟨_,h⟩:=qi h;obtain⟨_,_,h⟩:=qe h;exact key _ h
     ·exact key _ h
    ·exact key _ h
  ·rcases kk _ _ _ h with h | h
   ·obtain⟨_,h⟩:=qi h;obtain⟨_,_,h⟩:=qe h
    rcases kk _ _ _ h with h | h
    ·obtain⟨_,h⟩:=qi h;obtain⟨_,_,h⟩:=qe h;exact key _ h
    ·exact key _ h
   ·exact key _ h
theorem qjn {v:List Int} {a:qo} {f:rufact} {p:List Int×Bool} (h:jT v a f=some p):p.1.length=8:=by
 unfold jT at h;obtain⟨_,h⟩:=qi h;obtain⟨_,h⟩:=qi h;exact qft _ _ _ _ _ _ _ h
theorem tup3i {x0 x1 x2:Int}:∀ (j:Nat) u,(#[.int .i64 x0,.int .i64 x1,.int .i64 x2]:Array Value)[j]? = some u→isTup u=false:=fun j u h=>by
 match j,h with
 | 0,h | 1,h | 2,h=>cases h;rfl
theorem qkk (M:Mem) (f:rufact):R M (.agg [.int .i64 f.qr,.int .i64 f.f_a,.int .i64 f.f_b]) (factV f):=by
 refine .agg (vs:=[.int .i64 f.qr,.int .i64 f.f_a,.int .i64 f.f_b]) rfl fun j c v hc hv=>?_
 match j,hc,hv with
 | 0,hc,hv | 1,hc,hv | 2,hc,hv=>cases hc;cases hv;exact .int _ _
theorem qjo {M:Mem} {v:List Int} {b:Bool} {u:Value} (h:R M (.tup [.agg (v.map (AV.int .i64)),.bool b]) u):u=.tuple #[valsV v,.bool b]:=by
 generalize hx:AV.tup [.agg (v.map (AV.int .i64)),.bool b]=x at h;cases h<;>cases hx;rename_i vs hl hr
 match vs,hl with
 | [u0,u1],_ =>
  rw[qiA (hr 0 _ _ rfl rfl),(hr 1 _ _ rfl rfl).bool_inv]
theorem qkg {M:Mem} {bl:List (Int×List rufact)} {mv:Value} (hm:R M (mpE (AV.int .i64) lF bl) mv) {rel:Int} (hf:wfI .i64 rel=true):∀ w,Cons M w→∃ v,(Instr.lookup 191 mv (.int .i64 rel) false).run Try.prog w=.ok v w∧R M (lF (mget keq1 [] rel bl)) v:=by
 intro w hC
 have hk:(AV.int .i64 rel).keyV=some (.int .i64 rel):=by
  simp only[AV.keyV,hf]
 have he:∀ x y:Int,akeq (AV.int .i64 x) (AV.int .i64 y)=keq1 x y:=fun x y=>by simp[akeq,keq1,kbeq]
 have ht:XK Try.prog 191=some (3,150):=by kernel_rfl
 have hal:∀ r,(match findA (AV.int .i64 rel) (bl.map fun p=>AV.int .i64 p.1) with | some j=>(bl.map fun p=>lF p.2)[j]? | none=>zeroA1 Try.prog 150)=some r→alookup Try.prog 191 [] (mpE (AV.int .i64) lF bl) (.int .i64 rel)=some r:=fun r hr=>by
  unfold alookup mpE;rw[ht];simp only[Zq];rw[show keyFits Try.prog 3 (AV.int .i64 rel)=true by kernel_rfl,hk,DA (P:=Try.prog) (kt:=3) (fun x=>by kernel_rfl) bl];exact hr
 rcases qaq (G:=lF) he [] rel bl with ⟨j,h1,h2⟩ | ⟨h1,h2⟩
 ·exact qbC (kt:=3) (e:=150) (w:=w) hC hm (by kernel_rfl) hk (hal _ (by rw[h1];exact h2))
 ·obtain⟨v,g1,g2⟩:=qbC (kt:=3) (e:=150) (w:=w) (r:=.nils) hC hm (by kernel_rfl) hk (hal _ (by rw[h1];kernel_rfl));rw[h2];exact⟨v,g1,by rw[g2.nils_inv];exact .lstn _ _ _⟩
theorem Try.enter128:∀ args w,(callFunc 128 args).run Try.prog w=.ok (.enter 128 args) w:=fun args w=>by
 have h := Try.func128;have h1 : Try.f128.name ≠ "runtime.NumGoroutine" := oT (by kernel_rfl)
 have h2:Try.f128.body≠none:=fun e=>absurd (show Try.f128.body.isNone=false by kernel_rfl) (by rw[e];decide)
 simp[callFunc,h,h1,h2]
set_option maxHeartbeats 4000000 in
theorem Try.node128 (D:List (List Int)→Prop) (g:Nat) (caps:Array Value) (M0:Mem) (S:List (List Int)→Mem→World→Prop) (hcb:CB D g caps M0 S) (br bn bf bt bb:Nat) (body:List ruLit) (no:List (rufact×Bool)) (bl:List (Int×List rufact)) (ht:TE M0 br bn bf bt bb body no bl g caps) (hbl:∀ rel,(mget keq1 [] rel bl).length≤1000000)
  (k:Nat) (nt:Bool) (rel:Int) (args:List Int) (rest:List ruLit) (hk:body.drop k=⟨nt,⟨rel,args⟩⟩::rest) (ih:∀ (v:List Int) (out d:List (List Int)) (M:Mem) (w:World),v.length=8→tryP body no bl rest v=some out→D (d++out)→S d M w →
   Calls Try.prog 128 #[.int .i64 ((k+1:Nat):Int),valsV v,.pointer (some ⟨br,0,none⟩),.pointer (some ⟨bn,0,none⟩),.pointer (some ⟨bf,0,none⟩),.pointer (some ⟨bt,0,none⟩),.pointer (some ⟨bb,0,none⟩)] w fun e w'=>e=retU∧S (d++out) M w')
  (v:List Int) (out d:List (List Int)) (M:Mem) (w:World) (hv:v.length=8) (h:tryP body no bl (⟨nt,⟨rel,args⟩⟩::rest) v=some out) (hD:D (d++out)) (hS:S d M w) :
   Calls Try.prog 128 #[.int .i64 (k:Nat),valsV v,.pointer (some ⟨br,0,none⟩),.pointer (some ⟨bn,0,none⟩),.pointer (some ⟨bf,0,none⟩),.pointer (some ⟨bt,0,none⟩),.pointer (some ⟨bb,0,none⟩)] w fun e w'=>e=retU∧S (d++out) M w':=by
  have mixed:=mixedP;have t3:=Try.underlying3;have a3:=Try.isAgg3;have z3:=Try.sizeOf3;have v3:=Try.zeroValue3;have u3:=run_underlying Try.underlying3;have t4:=Try.underlying4;have a4:=Try.isAgg4;have z4:=Try.sizeOf4;have v4:=Try.zeroValue4;have u4:=run_underlying Try.underlying4;have t50:=Try.underlying50;have a50:=Try.isAgg50;have z50:=Try.sizeOf50;have v50:=Try.zeroValue50;have u50:=run_underlying Try.underlying50;have t52:=Try.underlying52;have a52:=Try.isAgg52;have z52:=Try.sizeOf52;have v52:=Try.zeroValue52;have u52:=run_underlying Try.underlying52;have t54:=Try.underlying54;have a54:=Try.isAgg54;have z54:=Try.sizeOf54;have v54:=Try.zeroValue54;have u54:=run_underlying Try.underlying54;have t56:=Try.underlying56;have a56:=Try.isAgg56;have z56:=Try.sizeOf56;have v56:=Try.zeroValue56;have u56:=run_underlying Try.underlying56;have t105:=Try.underlying105;have a105:=Try.isAgg105;have z105:=Try.sizeOf105;have v105:=Try.zeroValue105;have u105:=run_underlying Try.underlying105;have t127:=Try.underlying127;have a127:=Try.isAgg127;have z127:=Try.sizeOf127;have v127:=Try.zeroValue127;have u127:=run_underlying Try.underlying127;have t150:=Try.underlying150;have a150:=Try.isAgg150;have z150:=Try.sizeOf150;have v150:=Try.zeroValue150;have u150:=run_underlying Try.underlying150;have t178:=Try.underlying178;have a178:=Try.isAgg178;have z178:=Try.sizeOf178;have v178:=Try.zeroValue178;have u178:=run_underlying Try.underlying178;have t180:=Try.underlying180;have a180:=Try.isAgg180;have z180:=Try.sizeOf180;have v180:=Try.zeroValue180;have u180:=run_underlying Try.underlying180;have t183:=Try.underlying183;have a183:=Try.isAgg183;have z183:=Try.sizeOf183;have v183:=Try.zeroValue183;have u183:=run_underlying Try.underlying183;have t191:=Try.underlying191;have a191:=Try.isAgg191;have z191:=Try.sizeOf191;have v191:=Try.zeroValue191;have u191:=run_underlying Try.underlying191;have t192:=Try.underlying192;have a192:=Try.isAgg192;have z192:=Try.sizeOf192;have v192:=Try.zeroValue192;have u192:=run_underlying Try.underlying192;obtain⟨hC,hM0⟩:=hcb.cons hS;obtain⟨bv,q1,q2⟩:=ht.r;obtain⟨ba,bc,rfl,hbody⟩:=qdA q2;obtain⟨x0,x1,x2,x3,x4,x5,x6,x7,rfl⟩:=eight hv;have hlen:=ht.len
  have hk1:k<body.length:=by
   rcases B1 k body.length with h1 | h1
   ·exact h1
   ·rw[C8 h1]at hk;cases hk
  have hkx:body[k]? = some ⟨nt,⟨rel,args⟩⟩:=by
   have:=congrArg (fun l=>l[0]?) hk
   simpa using this
  obtain⟨b,off,av,rfl,e0,e1,e2,rav,aa,ac,rfl⟩:=hbody k _ hkx;clear hbody
  have c1:∀ o,(w.alloc o).cell? ⟨br,2,none⟩=some (.slice (some ⟨b,off,none⟩) body.length bc):=fun o=>Qj ((hC.alloc o) _ _ _ (hM0 _ _ _ q1)) rfl
  have c2:∀ o,(w.alloc o).cell? ⟨b,off+k*3,none⟩=some (.bool nt):=fun o=>Qj ((hC.alloc o) _ _ _ (hM0 _ _ _ e0)) rfl
  have c3:∀ o,(w.alloc o).cell? ⟨b,off+k*3+1,none⟩=some (.int .i64 rel):=fun o=>Qj ((hC.alloc o) _ _ _ (hM0 _ _ _ e1)) rfl
  have c4:∀ o,(w.alloc o).cell? ⟨b,off+k*3+2,none⟩=some (.slice aa args.length ac):=fun o=>Qj ((hC.alloc o) _ _ _ (hM0 _ _ _ e2)) rfl
  obtain⟨w1,ew1⟩:∃ w1,w1=w.alloc (.cells #[.int .i64 x0,.int .i64 x1,.int .i64 x2,.int .i64 x3,.int .i64 x4,.int .i64 x5,.int .i64 x6,.int .i64 x7] 178):=⟨_,rfl⟩;obtain⟨M1,eM1⟩:∃ M1,M1=mbox M w.heap.size #[.int .i64 x0,.int .i64 x1,.int .i64 x2,.int .i64 x3,.int .i64 x4,.int .i64 x5,.int .i64 x6,.int .i64 x7]:=⟨_,rfl⟩
  have S1:S d M1 w1:=by rw[ew1,eM1];exact hcb.box hS tup8
  have s1:Sub M M1:=by rw[eM1];exact ZR hC (A7 _)
  have b8:∀ j:Nat,M1 w.heap.size j=(#[.int .i64 x0,.int .i64 x1,.int .i64 x2,.int .i64 x3,.int .i64 x4,.int .i64 x5,.int .i64 x6,.int .i64 x7]:Array Value)[j]?:=fun j=>by rw[eM1,NR]
  obtain⟨C1,_⟩:=hcb.cons S1
  have z1:w1.heap.size=w.heap.size+1:=by rw[ew1];simp
  obtain⟨w2,ew2⟩:∃ w2,w2=w1.alloc (.cells #[.bool nt,.int .i64 rel,.slice aa args.length ac] 56):=⟨_,rfl⟩;obtain⟨M2,eM2⟩:∃ M2,M2=mbox M1 w1.heap.size #[.bool nt,.int .i64 rel,.slice aa args.length ac]:=⟨_,rfl⟩
  have S2:S d M2 w2:=by rw[ew2,eM2];exact hcb.box S1 tup3
  have s2:Sub M1 M2:=by rw[eM2];exact ZR C1 (A7 _)
  have b11:∀ j:Nat,M2 (w.heap.size+1) j=(#[.bool nt,.int .i64 rel,.slice aa args.length ac]:Array Value)[j]?:=fun j=>by rw[eM2,z1,NR]
  have HW:=(show Hid (w2=_) from ew2);have HW1:=(show Hid (w1=_) from ew1);have sM:Sub M M2:=Sub.trans s1 s2;have s0:Sub M0 M2:=Sub.trans hM0 sM;obtain⟨C2,_⟩:=hcb.cons S2
  have KK:∀ w' M',Sub M2 M'→Cons M' w'→(∀ (j:Nat) u,(#[.int .i64 x0,.int .i64 x1,.int .i64 x2,.int .i64 x3,.int .i64 x4,.int .i64 x5,.int .i64 x6,.int .i64 x7]:Array Value)[j]? = some u→w'.cell? ⟨w.heap.size,j,none⟩=some u)∧w'.cell? ⟨w.heap.size+1,0,none⟩=some (.bool nt)∧w'.cell? ⟨w.heap.size+1,1,none⟩=some (.int .i64 rel)∧w'.cell? ⟨w.heap.size+1,2,none⟩=some (.slice aa args.length ac)∧w'.cell? ⟨bt,0,none⟩=some (tryV br bn bf bt bb):=fun w' M' hs hC'=>⟨fun j u hu=>jK hC' (hs _ _ _ (s2 _ _ _ ((b8 j).trans hu))) (tup8 j u hu),jK hC' (hs _ _ _ (b11 0)) rfl,jK hC' (hs _ _ _ (b11 1)) rfl,jK hC' (hs _ _ _ (b11 2)) rfl,jK hC' (hs _ _ _ (s0 _ _ _ ht.t)) rfl⟩
  unfold tryV at KK;have en128:=Try.enter128
  have n1:((k:Int) == (body.length:Int))=false:=by simp;omega
  have n2:¬ (k:Int)=(body.length:Int):=by omega
  have j0:(0:Int)≤(k:Int):=C0 _
  have j1:(k:Int)<(body.length:Int):=by omega
  have ew12:=ew2;rw[ew1]at ew12;have HW2:=(show Hid (w2=_) from ew12);clear ew1 ew2 eM1 eM2 ew12
  cases nt with
  | true =>
   have hcall:=ih [x0,x1,x2,x3,x4,x5,x6,x7] out d M2 w2 rfl h hD S2;obtain⟨k8,k1,k2,k3,k4⟩:=KK w2 M2 (Sub.refl _) C2;have k80:=k8 0 _ rfl;have k81:=k8 1 _ rfl;have k82:=k8 2 _ rfl;have k83:=k8 3 _ rfl;have k84:=k8 4 _ rfl;have k85:=k8 5 _ rfl;have k86:=k8 6 _ rfl;have k87:=k8 7 _ rfl;rw[HW2.out]at k80 k81 k82 k83 k84 k85 k86 k87 k1 k2 k3 k4
   go_enter Try.func128,Try.ntmps128
   go_wp2_with fail
   rw[← HW2.out];refine Calls.mono hcall ?_
   rintro e w5 ⟨rfl,S5⟩
   go_wp2
   refine bodyPost_ret (results_none rfl _ _ _) rfl ?_;exact⟨rfl,hcb.down S5 hM0 sM⟩
  | false =>
   obtain⟨hwr,h⟩:=qi (show chk (wfI .i64 rel) (fitL (tryP body no bl rest) ⟨rel,args⟩ [x0,x1,x2,x3,x4,x5,x6,x7] (mget keq1 [] rel bl))=some out from h);obtain⟨mv,r1,r2⟩:=ht.b;obtain⟨mo,rfl⟩:=Dr r2;obtain⟨lv,hlk,rlv⟩:=qkg r2 hwr w2 (fun b o u hu=>C2 _ _ _ (s0 _ _ _ hu));obtain⟨la,lc,rfl,hfacts⟩:=qbV rlv;have hgl:=hbl rel;generalize mget keq1 [] rel bl=gs at h hlk rlv hfacts hgl;have kb:=jK C2 (s0 _ _ _ r1) rfl;obtain⟨k8,k1,k2,k3,k4⟩:=KK w2 M2 (Sub.refl _) C2;have k80:=k8 0 _ rfl;have k81:=k8 1 _ rfl;have k82:=k8 2 _ rfl;have k83:=k8 3 _ rfl;have k84:=k8 4 _ rfl;have k85:=k8 5 _ rfl;have k86:=k8 6 _ rfl;have k87:=k8 7 _ rfl;rw[HW2.out]at k80 k81 k82 k83 k84 k85 k86 k87 k1 k2 k3 k4 kb hlk
   go_enter Try.func128,Try.ntmps128
   go_wp2
   rw[← HW2.out];clear k80 k81 k82 k83 k84 k85 k86 k87 k1 k2 k3 k4 kb hlk c1 c2 c3 c4 k8
   go_loopw [60] (fun i wr=>∃ j:Nat,j≤gs.length∧i=.int .i64 j∧∃ done left M',out=done++left∧fitL (tryP body no bl rest) ⟨rel,args⟩ [x0,x1,x2,x3,x4,x5,x6,x7] (gs.drop j)=some left∧Sub M2 M'∧S (d++done) M' wr)
    (fun i _=>gs.length - (RowKit.intOf i).toNat)
   case atStart=>exact⟨0,Nat.zero_le _,rfl,[],out,M2,rfl,h,Sub.refl _,by simpa using S2⟩
   case round =>
    obtain⟨j,hj,rfl,done,left,M3,rfl,hf,s3,S3⟩:=hrel;obtain⟨C3,_⟩:=hcb.cons S3
    rcases B1 j gs.length with hj1 | hj1
    ·obtain⟨fb,fo,rfl,g0,g1,g2⟩:=hfacts j _ (A9 hj1);rw[B7 hj1]at hf;have i0:(0:Int)≤(j:Int):=C0 _
     have i1:(j:Int)<(gs.length:Int):=by omega
     have f0:=jK C3 (s3 _ _ _ (s0 _ _ _ g0)) rfl;have f1:=jK C3 (s3 _ _ _ (s0 _ _ _ g1)) rfl;have f2:=jK C3 (s3 _ _ _ (s0 _ _ _ g2)) rfl;generalize gs[j]=x at hf g0 g1 g2 f0 f1 f2;obtain⟨frel,fa,fb2⟩:=x;obtain⟨p,hp,hf⟩:=qe (show ((jT [x0,x1,x2,x3,x4,x5,x6,x7] ⟨rel,args⟩ ⟨frel,fa,fb2⟩).bind _)=some left from hf);obtain⟨l1,hl1,hf⟩:=qe hf;obtain⟨l2,hl2,hf⟩:=qe hf;cases hf;have hpl:=qjn hp;obtain⟨pv,pb⟩:=p;obtain⟨y0,y1,y2,y3,y4,y5,y6,y7,rfl⟩:=eight hpl;obtain⟨w3,ew3⟩:∃ w3,w3=wr.alloc (.cells #[.int .i64 frel,.int .i64 fa,.int .i64 fb2] 127):=⟨_,rfl⟩;obtain⟨M4,eM4⟩:∃ M4,M4=mbox M3 wr.heap.size #[.int .i64 frel,.int .i64 fa,.int .i64 fb2]:=⟨_,rfl⟩
     have S4:S (d++done) M4 w3:=by rw[ew3,eM4];exact hcb.box S3 tup3i
     have s4:Sub M3 M4:=by rw[eM4];exact ZR C3 (A7 _)
     obtain⟨C4,_⟩:=hcb.cons S4;obtain⟨k8,k1,k2,k3,k4⟩:=KK w3 M4 (Sub.trans s3 s4) C4;have k80:=k8 0 _ rfl;have k81:=k8 1 _ rfl;have k82:=k8 2 _ rfl;have k83:=k8 3 _ rfl;have k84:=k8 4 _ rfl;have k85:=k8 5 _ rfl;have k86:=k8 6 _ rfl;have k87:=k8 7 _ rfl
     have c129:=qge (Vp [x0,x1,x2,x3,x4,x5,x6,x7] ⟨rel,args⟩ ⟨frel,fa,fb2⟩ _ hp) M4 w3 [valsV [x0,x1,x2,x3,x4,x5,x6,x7],.agg #[.int .i64 rel,.slice aa args.length ac],factV ⟨frel,fa,fb2⟩] (glob0 M4) C4 rfl (fun j a b ha hb=>by
      match j,ha,hb with
      | 0,ha,hb=>cases ha;cases hb;exact qfT _ _
      | 1,ha,hb=>cases ha;cases hb;exact qgP (R.mono (Sub.trans s0 (Sub.trans s3 s4)) rav)
      | 2,ha,hb=>cases ha;cases hb;exact qkk _ _)
     have HW3:=(show Hid (w3=_) from ew3);rw[ew3]at k80 k81 k82 k83 k84 k85 k86 k87 k1 k2 k3 k4;have HC:=(show Hid _ from c129);clear ew3 eM4 c129 hfacts
     go_wp2_with fail
     rw[← HW3.out];refine Calls.mono HC.out ?_
     rintro e w5 ⟨pv,M5,rfl,hB5,s5,C5,o5,r5,_⟩
     obtain rfl:=qjo r5;have S5:=hcb.grow S4 hB5 s5 o5 C5;obtain⟨w6,ew6⟩:∃ w6,w6=w5.alloc (.cells #[.int .i64 y0,.int .i64 y1,.int .i64 y2,.int .i64 y3,.int .i64 y4,.int .i64 y5,.int .i64 y6,.int .i64 y7] 178):=⟨_,rfl⟩;obtain⟨M6,eM6⟩:∃ M6,M6=mbox M5 w5.heap.size #[.int .i64 y0,.int .i64 y1,.int .i64 y2,.int .i64 y3,.int .i64 y4,.int .i64 y5,.int .i64 y6,.int .i64 y7]:=⟨_,rfl⟩
     have S6:S (d++done) M6 w6:=by rw[ew6,eM6];exact hcb.box S5 tup8
     have s6:Sub M5 M6:=by rw[eM6];exact ZR C5 (A7 _)
     have b14:∀ j:Nat,M6 w5.heap.size j=(#[.int .i64 y0,.int .i64 y1,.int .i64 y2,.int .i64 y3,.int .i64 y4,.int .i64 y5,.int .i64 y6,.int .i64 y7]:Array Value)[j]?:=fun j=>by rw[eM6,NR]
     have s26:Sub M2 M6:=Sub.trans s3 (Sub.trans s4 (Sub.trans s5 s6));obtain⟨C6,_⟩:=hcb.cons S6;obtain⟨k8,k1,k2,k3,k4⟩:=KK w6 M6 s26 C6
     have m8:∀ (j:Nat) u,(#[.int .i64 y0,.int .i64 y1,.int .i64 y2,.int .i64 y3,.int .i64 y4,.int .i64 y5,.int .i64 y6,.int .i64 y7]:Array Value)[j]? = some u→w6.cell? ⟨w5.heap.size,j,none⟩=some u:=fun j u hu=>jK C6 ((b14 j).trans hu) (tup8 j u hu)
     have m80:=m8 0 _ rfl;have m81:=m8 1 _ rfl;have m82:=m8 2 _ rfl;have m83:=m8 3 _ rfl;have m84:=m8 4 _ rfl;have m85:=m8 5 _ rfl;have m86:=m8 6 _ rfl;have m87:=m8 7 _ rfl;have HW6:=(show Hid (w6=_) from ew6);clear eM6 k80 k81 k82 k83 k84 k85 k86 k87
     cases pb with
     | false =>
      cases hl1;clear k1 k2 k3 k4 m80 m81 m82 m83 m84 m85 m86 m87 ew6
      go_wp2
      rw[← HW6.out]
      go_roundw
      case rel=>exact⟨j+1,hj1,by go_num,done,l2,M6,by simp,hl2,s26,S6⟩
      case measure=>simp[RowKit.intOf];omega
     | true =>
      have hcall:=ih _ l1 _ M6 w6 rfl hl1 (by have h9:=hD;rw[← List.append_assoc,← List.append_assoc]at h9;exact hcb.pre h9) S6;rw[ew6]at k1 k2 k3 k4 m80 m81 m82 m83 m84 m85 m86 m87;clear ew6
      go_wp2_with fail
      rw[← HW6.out];refine Calls.mono hcall ?_
      rintro e w7 ⟨rfl,S7⟩
      go_wp2
      go_roundw
      case rel=>exact⟨j+1,hj1,by go_num,done++l1,l2,M6,by simp,hl2,s26,by simpa using S7⟩
      case measure=>simp[RowKit.intOf];omega
    ·have hjl:j=gs.length:=by omega
     subst hjl;rw[List.drop_length]at hf;cases hf
     go_wp2
     refine bodyPost_end (results_none rfl _ _ _) rfl ?_;exact⟨rfl,by simpa using hcb.down S3 hM0 (Sub.trans sM s3)⟩
theorem Try.try128 (D:List (List Int)→Prop) (g:Nat) (caps:Array Value) (M0:Mem) (S:List (List Int)→Mem→World→Prop) (hcb:CB D g caps M0 S) (br bn bf bt bb:Nat) (body:List ruLit) (no:List (rufact×Bool)) (bl:List (Int×List rufact)) (ht:TE M0 br bn bf bt bb body no bl g caps) (hbl:∀ rel,(mget keq1 [] rel bl).length≤1000000) :
  ∀ (rest:List ruLit) (k:Nat) (v:List Int) (out d:List (List Int)) (M:Mem) (w:World),body.drop k=rest→k≤body.length→v.length=8→tryP body no bl rest v=some out→D (d++out)→S d M w →
   Calls Try.prog 128 #[.int .i64 (k:Nat),valsV v,.pointer (some ⟨br,0,none⟩),.pointer (some ⟨bn,0,none⟩),.pointer (some ⟨bf,0,none⟩),.pointer (some ⟨bt,0,none⟩),.pointer (some ⟨bb,0,none⟩)] w fun e w'=>e=retU∧S (d++out) M w':=by
 intro rest
 induction rest with
 | nil =>
  intro k v out d M w hk hkl hv h hD hS
  have hkk:k=body.length:=by
   have:=congrArg List.length hk;rw[List.length_drop]at this;simp at this;omega
  subst hkk;exact Try.leaf128 D g caps M0 S hcb br bn bf bt bb body no bl ht v out d M w hv h hD hS
 | cons x rest ih =>
  intro k v out d M w hk hkl hv h hD hS
  have hk1:k<body.length:=by
   rcases B1 k body.length with h1 | h1
   ·exact h1
   ·rw[C8 h1]at hk;cases hk
  have hd:body.drop (k+1)=rest:=by
   rw[B7 hk1]at hk;exact (List.cons.inj hk).2
  obtain⟨nt,⟨rel,args⟩⟩:=x;exact Try.node128 D g caps M0 S hcb br bn bf bt bb body no bl ht hbl k nt rel args rest hk (fun v out d M w h1 h2 h3 h4=>ih (k+1) v out d M w hd hk1 h1 h2 h3 h4) v out d M w hv h hD hS
end Go.Proofs
