import Derived.Test.YtdghpfejmlpjhaaRY2
import Derived.OwnWalk
set_option linter.all false
set_option maxRecDepth 100000
open List renaming replicate→A0, mem_cons_of_mem→A1, mem_cons_self→A2, map_cons→A5, length_map→A6, filter_cons→A7, map_congr_left→A8, length_set→B1, length_cons→C0, take_of_length_le→C7, map_nil→D0, getD_eq_getElem?_getD→D1, getElem?_replicate→D2, eq_nil_of_length_eq_zero→D3
open Int renaming toNat→A3
open Option renaming bind_some→A4
open Go.IntKind renaming wrap→A9
namespace Go.AM
open Go.Proofs
def Dj (fuel:Nat) (a1:qr) (a2:Int):Option ruProof :=
 ((js fuel a1 a2 510).bind fun w6=>(some w6.1))
theorem qdI (fuel:Nat) (a1:qr) (a2:Int) (r:ruProof) (h:Dj fuel a1 a2=some r):Run Try.prog (.call 54 [.agg [I6 a1.ql,I6 a1.qd.qc,l3 none a1.qd.qa,l85 none a1.qj],I6 a2] (.agg [I6 r.ql,I6 r.qd.qc,l3 none r.qd.qa,l77 none r.qj])):=by
 refine cW Try.func54 rfl (env0:=[(0,.agg [I6 a1.ql,I6 a1.qd.qc,l3 none a1.qd.qa,l85 none a1.qj]),(1,I6 a2)]) ?_;unfold Dj at h;refine W.seq ?_;let z0:=fun t=>EN ((1,I6 a2)::(2,.ptr (.agg [I6 a1.ql,I6 a1.qd.qc,l3 none a1.qd.qa,l85 none a1.qj]))::(4,.box [.int .i64 0,.int .i64 0,.nils,.nils])::t);refine W.rT [1,2,4] [2] (e2:=z0 []) ?_;refine W.seq<|W.rt (e2:=z0 [(5,.box [.int .i64 510])]) ?_;refine W.sr ?_;obtain⟨w6,hw6,h⟩:=qb h;refine WO.cm 2 [(5,2000002)] [] (F:=100) (args:=[.agg [I6 a1.ql,I6 a1.qd.qc,l3 none a1.qd.qa,l85 none a1.qj],I6 a2,.pb 2000002 0]) (hp:=[(2000002,.box [.int .i64 510])]) (hp2:=[(2000002,.box [I6 w6.2])]) (r:=.agg [I6 w6.1.ql,I6 w6.1.qd.qc,l3 none w6.1.qd.qa,l77 none w6.1.qj]) (qaw fuel a1 a2 510 w6 hw6) (e1:=z0 [(5,.box [I6 w6.2]),(6,.agg [I6 a1.ql,I6 a1.qd.qc,l3 none a1.qd.qa,l85 none a1.qj]),(7,I6 a2),(8,.agg [I6 w6.1.ql,I6 w6.1.qd.qc,l3 none w6.1.qd.qa,l77 none w6.1.qj])]) ?_;let z1:=fun t=>EN ((4,.box [I6 w6.1.ql,I6 w6.1.qd.qc,l3 none w6.1.qd.qa,l77 none w6.1.qj])::t);refine WO.fn (e2:=z1 []) ?_;refine W.wk (e:=z1 []) ?_;cases h;exact W.rr
def DU (a1:LA) (a2:qo) (a3:apiFact):LZ :=
 (chk (!a1.isEmpty) (bif ((a3.qa.length:Int) != (a2.qa.length:Int)) then (chk (decide (a1.length=8)) (chk (decide (a1.length=8/\(A0 8 0).length=8)) (chk (decide (a1.length=8)) (some (a1,false))))) else (chk (decide (a1.length=8)) ((VG a3).bind fun w14=>((jn a1 a2 w14).bind fun w15=>(chk (decide (w15.1.length=8/\(A0 8 0).length=8)) (chk (decide (w15.1.length=8)) (some (w15.1,w15.2)))))))))
theorem qcE (a1:LA) (a2:qo) (a3:apiFact) (r:(LA×Bool)) (h:DU a1 a2 a3=some r):Run Try.prog (.call 122 [.agg (M6 a1),.agg [I6 a2.qc,l3 none a2.qa],.agg [I6 a3.qc,l3 none a3.qa]] (.tup [.agg (M6 r.1),.bool r.2])):=by
 refine cW Try.func122 rfl (env0:=[(0,.agg (M6 a1)),(1,.agg [I6 a2.qc,l3 none a2.qa]),(2,.agg [I6 a3.qc,l3 none a3.qa])]) ?_;unfold DU at h;refine W.sr ?_;obtain⟨hc5,h⟩:=qm h;let z0:=fun t=>EN ((0,.agg (M6 a1))::(1,.agg [I6 a2.qc,l3 none a2.qa])::(2,.agg [I6 a3.qc,l3 none a3.qa])::(3,.pb 1000003 0)::t);refine WO.boxA (enc:=(AV.int .i64)) (l:=a1) (d:=3) 0 (qP .i64) hc5 (e1:=z0 [(1000003,.hob 3 [] (M6 a1))])<|WO.sl 3 ?_;let y0:Env:=[(1000003,.hob 3 [] (M6 a1)),(1000006,.hob 3 [] (M6 (A0 8 0)))];refine WO.mv [.arr 6] (env':=z0 ((4,.box [I6 a2.qc,l3 none a2.qa])::(5,.box [I6 a3.qc,l3 none a3.qa])::(6,.pb 1000006 0)::y0)) kR ?_;let y1:Env:=(4,.ptr (.agg [I6 a2.qc,l3 none a2.qa]))::(5,.ptr (.agg [I6 a3.qc,l3 none a3.qa]))::(6,.pb 1000006 0)::y0;let z1:=fun t=>EN ((3,.pb 1000003 0)::t);refine WO.fi [3,4,5,6,1000003,1000006] [4,5] (e2:=z1 y1) ?_;refine W.seq<|W.sr<|WO.pq 2 (jM (.int .i64) a3.qa)<|WO.pq 2 (jM (.int .i64) a2.qa) ?_;let z2:=fun t=>z1 ((4,.ptr (.agg [I6 a2.qc,l3 none a2.qa]))::(5,.ptr (.agg [I6 a3.qc,l3 none a3.qa]))::(6,.pb 1000006 0)::t);let z3:=fun t=>z2 ((14,.bool ((a3.qa.length:Int) != (a2.qa.length:Int)))::t);refine WO.fn (e2:=z3 y0) ?_;refine W.ch ((a3.qa.length:Int) != (a2.qa.length:Int)) h (fun h=>?_) (fun h=>?_)
 .refine W.sr ?_;obtain⟨hc9,h⟩:=qm h;refine WO.pk 0 (cut Try.prog 178 (M6 a1) 0) (Xx (qP .i64) (sz:=8) kR (of_decide_eq_true hc9)) ?_;obtain⟨hc10,h⟩:=qm h;refine WO.storeA (enc:=(AV.int .i64)) (l:=a1) (l':=(A0 8 0)) (s:=1000006) (sz:=8) 0 (qP .i64) hc10 (e1:=z3 [(15,.agg (M6 a1)),(1000003,.hob 3 [] (M6 a1)),(1000006,.hob 3 [] (M6 a1))]) ?_;let z4:=fun t=>EN ((6,.pb 1000006 0)::(7,.bool false)::(1000006,.hob 3 [] (M6 a1))::t);refine WO.fn (e2:=z4 []) ?_;refine W.wk (e:=z4 []) ?_;obtain⟨hn11,h⟩:=qm h;have hr:jX Try.prog Try.f122 [(6,.pb 1000006 0),(7,.bool false),(1000006,.hob 3 [] (M6 a1))]=some (.tup [.agg (M6 a1),.bool false]):=(by kernel_rfl:jX Try.prog Try.f122 [(6,.pb 1000006 0),(7,.bool false),(1000006,.hob 3 [] (M6 a1))]=match optAll [(cut Try.prog 178 (M6 a1) 0).map AV.strip,some (.bool false)] with | some l=>some (.tup (l.map AV.strip)) | none=>none).trans (by rw[Xx (qP .i64) (sz:=8) (by kernel_rfl) (of_decide_eq_true hn11)];rfl);cases h;exact W.ret hr
 refine W.sw (e:=z1 y1) ?_;refine W.sr ?_;obtain⟨hc13,h⟩:=qm h;refine WO.pk 0 (cut Try.prog 178 (M6 a1) 0) (Xx (qP .i64) (sz:=8) kR (of_decide_eq_true hc13)) ?_;obtain⟨w14,hw14,h⟩:=qb h;refine WO.ck 2 (F:=81) (l:=[.agg [I6 a3.qc,l3 none a3.qa]]) (C:=[]) (r:=.agg [I6 w14.qn,I6 w14.f_a,I6 w14.f_b]) (Nd a3 w14 hw14) ?_;obtain⟨w15,hw15,h⟩:=qb h;refine WO.ck 0 (F:=129) (l:=[.agg (M6 a1),.agg [I6 a2.qc,l3 none a2.qa],.agg [I6 w14.qn,I6 w14.f_a,I6 w14.f_b]]) (C:=[]) (r:=.tup [.agg (M6 w15.1),.bool w15.2]) (VD a1 a2 w14 w15 hw15) ?_;obtain⟨hc16,h⟩:=qm h;let y2:Env:=[(1000006,.hob 3 [] (M6 w15.1))];refine WO.storeA (enc:=(AV.int .i64)) (l:=w15.1) (l':=(A0 8 0)) (s:=1000006) (sz:=8) 2 (qP .i64) hc16 (e1:=z2 ((16,.agg (M6 a1))::(17,.agg [I6 a2.qc,l3 none a2.qa])::(18,.agg [I6 a3.qc,l3 none a3.qa])::(19,.agg [I6 w14.qn,I6 w14.f_a,I6 w14.f_b])::(20,.tup [.agg (M6 w15.1),.bool w15.2])::(21,.agg (M6 w15.1))::(22,.bool w15.2)::(1000003,.hob 3 [] (M6 a1))::y2))<|WO.fn (e2:=((6,.pb 1000006 0)::(7,.bool w15.2)::y2)) ?_;refine W.wk (e:=((6,.pb 1000006 0)::(7,.bool w15.2)::y2)) ?_;obtain⟨hn17,h⟩:=qm h;have hr:jX Try.prog Try.f122 [(6,.pb 1000006 0),(7,.bool w15.2),(1000006,.hob 3 [] (M6 w15.1))]=some (.tup [.agg (M6 w15.1),.bool w15.2]):=(by kernel_rfl:jX Try.prog Try.f122 [(6,.pb 1000006 0),(7,.bool w15.2),(1000006,.hob 3 [] (M6 w15.1))]=match optAll [(cut Try.prog 178 (M6 w15.1) 0).map AV.strip,some (.bool w15.2)] with | some l=>some (.tup (l.map AV.strip)) | none=>none).trans (by rw[Xx (qP .i64) (sz:=8) (by kernel_rfl) (of_decide_eq_true hn17)];rfl);cases h;exact W.ret hr
def Xn:LS :=
 (some (0,0))
def ZG (a4:apiFact) (v10:LA) (v11:Int) (N1:(LA->Int->LS)) (v80:LA):LS :=
 ((QW a4.qc a4.qa).bind fun w83=>(chk (decide ((0:Int)<=w83/\w83<((252:Nat):Int)/\0<1)) ((v80[(0+A3 w83 * 1)]?).bind fun e85=>(bif (decide (e85 > 0)) then (some (v11,e85)) else (chk (decide (v80.length=252)) (chk (decide (v10.length=252)) (chk (decide (v80.length=252/\v10.length=252)) (bif (v80 == v10) then (some (0,0)) else (chk (decide (v80.length=252)) (chk (decide (v80.length=252/\v10.length=252)) (N1 v80 (A9 .i64 (v11+1)))))))))))))
def DF (N4:(LA->LS)) (v79:LA):LS :=
 (N4 v79)
def qdK (N5:(LA->LS)) (v78:LA):LS :=
 (N5 v78)
def Yq (v46:LA) (v63:Int) (w66:Int) (K47:(LA->LS)) (v75:Bool):LS :=
 (bif v75 then (chk (decide ((0:Int)<=w66/\w66<((252:Nat):Int)/\0<1)) (chk (decide ((0+A3 w66 * 1)<v46.length)) (K47 (v46.set (0+A3 w66 * 1) v63)))) else (K47 v46))
def ZF (a3:LM) (x4:rf3Rule) (x5:LA) (v46:LA) (K47:(LA->LS)) (v63:Int):LS :=
 (chk (decide (x5.length=8)) ((XZ x4.qi x5).bind fun w66=>(chk (decide (x5.length=8)) (chk (decide (a3.length=252)) ((NX x4 x5 a3).bind fun w70=>(bif w70 then (bif (decide (v63<=500)) then (chk (decide ((0:Int)<=w66/\w66<((252:Nat):Int)/\0<1)) ((v46[(0+A3 w66 * 1)]?).bind fun e72=>(bif (e72 == 0) then ((Yq v46 v63 w66 K47) true) else (chk (decide ((0:Int)<=w66/\w66<((252:Nat):Int)/\0<1)) ((v46[(0+A3 w66 * 1)]?).bind fun e74=>((Yq v46 v63 w66 K47) (decide (v63<e74)))))))) else ((Yq v46 v63 w66 K47) false)) else ((Yq v46 v63 w66 K47) false)))))))
def Ut (N6:(Int->LS)) (v62:Int):LS :=
 (N6 v62)
def Yb (x5:LA) (v10:LA) (K52:(Int->LS)):Lq->Nat->Int->LS
 | [],k6,v54=>(K52 v54)
 | x6::r6,k6,v54=>(bif (!x6.qw) then (chk (decide (x5.length=8)) ((XZ x6.qg x5).bind fun w59=>(chk (decide ((0:Int)<=w59/\w59<((252:Nat):Int)/\0<1)) ((v10[(0+A3 w59 * 1)]?).bind fun e61=>((Ut (Yb x5 v10 K52 r6 (k6+1))) (A9 .i64 (v54+e61))))))) else ((Ut (Yb x5 v10 K52 r6 (k6+1))) v54))
def YY (a3:LM) (x4:rf3Rule) (v10:LA) (K41:(LA->LS)):Li->Nat->LA->LS
 | [],k5,v46=>(K41 v46)
 | x5::r5,k5,v46=>(chk (decide (x5.length=8)) (chk (decide (x5.length=8/\(A0 8 0).length=8)) (chk (lenOk x4.qe) (Yb x5 v10 (ZF a3 x4 x5 v46 (qdK (YY a3 x4 v10 K41 r5 (k5+1)))) x4.qe 0 1))))
def Yc (fuel:Nat) (a3:LM) (v10:LA) (v28:LM) (K38:(LA->LS)):LN->Nat->LA->LS
 | [],k4,v40=>(K38 v40)
 | x4::r4,k4,v40=>(chk (decide (v28.length=252)) ((jV fuel x4 v28 0 (A0 8 0)).bind fun w45=>(chk (lenOk w45) (YY a3 x4 v10 (DF (Yc fuel a3 v10 v28 K38 r4 (k4+1))) w45 0 v40))))
def Uu (fuel:Nat) (a1:LN) (a3:LM) (a4:apiFact) (v10:LA) (v11:Int) (v28:LM) (N1:(LA->Int->LS)) (v37:LA):LS :=
 (chk (lenOk a1) (Yc fuel a3 v10 v28 (ZG a4 v10 v11 N1) a1 0 v37))
def YZ (K29:(LA->LS)):LG->Nat->LA->LS
 | [],k3,v31=>(K29 v31)
 | x3::r3,k3,v31=>((QW x3.qc x3.qa).bind fun w34=>(chk (decide ((0:Int)<=w34/\w34<((252:Nat):Int)/\0<1)) (chk (decide ((0+A3 w34 * 1)<v31.length)) ((YZ K29 r3 (k3+1)) (v31.set (0+A3 w34 * 1) 1)))))
def Uv (fuel:Nat) (a1:LN) (a2:LG) (a3:LM) (a4:apiFact) (v10:LA) (v11:Int) (N1:(LA->Int->LS)) (v28:LM):LS :=
 (chk (lenOk a2) (YZ (Uu fuel a1 a3 a4 v10 v11 v28 N1) a2 0 v10))
def Za (v10:LA) (K19:(LM->LS)):LP->Nat->LM->LS
 | [],k2,v21=>(K19 v21)
 | x2::r2,k2,v21=>(chk (decide ((0:Int)<=(k2:Int)/\(k2:Int)<((252:Nat):Int)/\0<1)) ((v10[(0+A3 (k2:Int) * 1)]?).bind fun e25=>(chk (decide ((0:Int)<=(k2:Int)/\(k2:Int)<((252:Nat):Int)/\0<1)) (chk (decide ((0+A3 (k2:Int) * 1)<v21.length)) ((Za v10 K19 r2 (k2+1)) (v21.set (0+A3 (k2:Int) * 1) (decide (e25 > 0))))))))
def JR (fuel:Nat) (a1:LN) (a2:LG) (a3:LM) (a4:apiFact) (K8:LS):Nat->LA->Int->LS
 | 0,_,_=>none
 | m1+1,v10,v11=>(bif (decide (v11<=40)) then (chk (decide (v10.length=252)) (chk (decide (v10.length=252/\(A0 252 0).length=252)) (chk (lenOk (List.range (A3 252))) (Za v10 (Uv fuel a1 a2 a3 a4 v10 v11 (JR fuel a1 a2 a3 a4 K8 m1)) (List.range (A3 252)) 0 (A0 252 false))))) else K8)
def Vr (fuel:Nat) (a1:LN) (a2:LG) (a3:LM) (a4:apiFact):LS :=
 (chk (!a3.isEmpty) (JR fuel a1 a2 a3 a4 (Xn) fuel (A0 252 0) 1))
def Jg:LY :=
 (some (-1))
def qV (g2:(ruProof->LD)) (K4:LY):LU->Nat->LY
 | [],k1=>K4
 | x1::r1,k1=>((g2 x1).bind fun w9=>(bif w9 then (some (k1:Int)) else (qV g2 K4 r1 (k1+1))))
def QD (a1:LU) (g2:(ruProof->LD)):LY :=
 (chk (lenOk a1) (qV g2 (Jg) a1 0))
theorem Uo (a1:LU) (g2:(ruProof->LD)) (F_g2:Nat) (C_g2:LJ) (hok_g2:okFn Try.prog F_g2=true) (hrun_g2:∀ (x0:ruProof) r,g2 x0=some r->Run Try.prog (.call F_g2 ([.agg [I6 x0.ql,I6 x0.qd.qc,l3 none x0.qd.qa,l77 none x0.qj]]++C_g2) (.bool r))) (r:Int) (h:QD a1 g2=some r):Run Try.prog (.call 130 [l77 none a1,.clo F_g2 C_g2] (I6 r)):=by
 refine cW Try.func130 rfl (env0:=[(0,l77 none a1),(1,.clo F_g2 C_g2)]) ?_;unfold QD at h;refine W.seq ?_;let z0:=fun t=>EN ((0,l77 none a1)::(1,.clo F_g2 C_g2)::t);refine W.rt (e2:=z0 []) ?_;refine W.seq<|W.join (σ:=Unit) (fun s=>[]) (fun s=>(Jg)=some r) (fun s h=>?_) (fun hK4=>?_)
 .unfold Jg at h;refine W.seq<|W.rt (e2:=[(4,I6 (-1))]) ?_;refine W.wk (e:=[(4,I6 (-1))]) ?_;cases h;exact W.rr
 refine W.sr<|WO.pq 1 (jM qZ a1) ?_;let z1:=fun t=>z0 ((7,I6 (a1.length:Int))::t);refine WO.fn (e2:=z1 [(8,.int .i64 0)]) ?_;refine W.block ?_;obtain⟨hl1,h⟩:=qm h;refine W.wk<|W.range (σ:=Unit) a1 (fun k1 s=>z1 [(8,I6 (k1:Int))]) (fun r0 k0 s=>qV g2 (Jg) r0 k0=some r) (fun s h=>?_) (fun x1 r1 k1 s hx1 hk1 h hN1=>?_) () h
 .rw[qV.eq_1]at h;refine W.sr<|WO.pq 0 (jB (ja (l:=a1)))<|WO.fn (e2:=z1 [(8,I6 ((a1).length:Int)),(9,.bool false)]) ?_;exact W.seq<|W.cF<|W.exit<|W.wk (hK4 () h)
 rw[qV.eq_2]at h;refine W.sr<|WO.pq 0 (jB (jy hk1))<|WO.fn (e2:=z1 [(8,I6 (k1:Int)),(9,.bool true)]) ?_;refine W.seq<|W.cT ?_;let y0:Env:=[(7,I6 (a1.length:Int)),(8,I6 (k1:Int))];refine W.sw (e:=z0 y0) ?_;refine W.seq<|W.block<|W.seq ?_;let z2:=fun t=>z0 ((5,I6 (k1:Int))::t);refine W.rt (e2:=z2 y0) ?_;refine W.sr<|WO.pk 3 (if (0:Int)<=(k1:Int) then ((List.map qZ a1)[A3 (k1:Int)]?).map AV.ptr else none) ((jA (f:=qZ) hx1).trans (congrArg (fun y=>some (AV.ptr y)) (Qh x1))) ?_;obtain⟨w9,hw9,h⟩:=qb h;let z3:=fun t=>z2 ((7,I6 (a1.length:Int))::(8,I6 (k1:Int))::t);refine WO.callK 1 (F:=F_g2) (l:=[.agg [I6 x1.ql,I6 x1.qd.qc,l3 none x1.qd.qa,l77 none x1.qj]]) (C:=C_g2) (r:=.bool w9) kR hok_g2 (hrun_g2 x1 w9 hw9) (e1:=z3 [(11,.clo F_g2 C_g2),(12,l77 none a1),(13,I6 (k1:Int)),(14,.ptr (.agg [I6 x1.ql,I6 x1.qd.qc,l3 none x1.qd.qa,l77 none x1.qj])),(15,.agg [I6 x1.ql,I6 x1.qd.qc,l3 none x1.qd.qa,l77 none x1.qj]),(16,.bool w9)]) kR<|WO.fn (e2:=z3 [(16,.bool w9)]) ?_;refine W.ch w9 h (fun h=>?_) (fun h=>?_)
 .refine W.seq<|W.rt (e2:=[(4,I6 (k1:Int))]) ?_;refine W.wk (e:=[(4,I6 (k1:Int))]) ?_;cases h;exact W.rr
 refine W.sw (e:=z0 y0) ?_;exact W.rg<|WO.pq 0 (jI (qN hl1 hk1))<|WO.fn (hN1 () h)
def Jj (a1:LU) (g2:(ruProof->LD)):LD :=
 ((QD a1 g2).bind fun w5=>(some (decide (w5 >= 0))))
theorem Vb (a1:LU) (g2:(ruProof->LD)) (F_g2:Nat) (C_g2:LJ) (hok_g2:okFn Try.prog F_g2=true) (hrun_g2:∀ (x0:ruProof) r,g2 x0=some r->Run Try.prog (.call F_g2 ([.agg [I6 x0.ql,I6 x0.qd.qc,l3 none x0.qd.qa,l77 none x0.qj]]++C_g2) (.bool r))) (r:Bool) (h:Jj a1 g2=some r):Run Try.prog (.call 123 [l77 none a1,.clo F_g2 C_g2] (.bool r)):=by
 refine cW Try.func123 rfl (env0:=[(0,l77 none a1),(1,.clo F_g2 C_g2)]) ?_;unfold Jj at h;refine W.seq<|W.rt (e2:=[(0,l77 none a1),(1,.clo F_g2 C_g2)]) ?_;refine W.sr ?_;obtain⟨w5,hw5,h⟩:=qb h;refine WO.ck 2 (F:=130) (l:=[l77 none a1,.clo F_g2 C_g2]) (C:=[]) (r:=I6 w5) (Uo a1 g2 F_g2 C_g2 hok_g2 hrun_g2 w5 hw5)<|WO.fn (e2:=[(4,.bool (decide (w5 >= 0)))]) ?_;refine W.wk (e:=[(4,.bool (decide (w5 >= 0)))]) ?_;cases h;exact W.rr
def QV (R0:(ruProof->LH->LB->LB->LD)) (a1:ruProof) (c2:LH) (c3:LB) (c4:LB):LD :=
 ((R0 a1 c2 c3 c4).bind fun w7=>(some (!w7)))
theorem NU (R0:(ruProof->LH->LB->LB->LD)) (hR0:∀ (x0:ruProof) (x1:LH) (x2:LB) (x3:LB) r,R0 x0 x1 x2 x3=some r->Run Try.prog (.call 102 [.agg [I6 x0.ql,I6 x0.qd.qc,l3 none x0.qd.qa,l77 none x0.qj],l54 none x1,mpE qh AV.bool x2,mpE qh AV.bool x3] (.bool r))) (a1:ruProof) (c2:LH) (c3:LB) (c4:LB) (r:Bool) (h:QV R0 a1 c2 c3 c4=some r):Run Try.prog (.call 124 [.agg [I6 a1.ql,I6 a1.qd.qc,l3 none a1.qd.qa,l77 none a1.qj],.ptr (l54 none c2),.ptr (mpE qh AV.bool c3),.ptr (mpE qh AV.bool c4)] (.bool r)):=by
 refine cW Try.func124 rfl (env0:=[(0,.agg [I6 a1.ql,I6 a1.qd.qc,l3 none a1.qd.qa,l77 none a1.qj]),(1,.ptr (l54 none c2)),(2,.ptr (mpE qh AV.bool c3)),(3,.ptr (mpE qh AV.bool c4))]) ?_;unfold QV at h;refine W.seq<|W.rT [1,2,3,4] [4] (e2:=[(1,.ptr (l54 none c2)),(2,.ptr (mpE qh AV.bool c3)),(3,.ptr (mpE qh AV.bool c4)),(4,.ptr (.agg [I6 a1.ql,I6 a1.qd.qc,l3 none a1.qd.qa,l77 none a1.qj]))]) ?_;refine W.sr ?_;obtain⟨w7,hw7,h⟩:=qb h;refine WO.ck 4 (F:=102) (l:=[.agg [I6 a1.ql,I6 a1.qd.qc,l3 none a1.qd.qa,l77 none a1.qj],l54 none c2,mpE qh AV.bool c3,mpE qh AV.bool c4]) (C:=[]) (r:=.bool w7) (hR0 a1 c2 c3 c4 w7 hw7)<|WO.fn (e2:=[(5,.bool (!w7))]) ?_;refine W.wk (e:=[(5,.bool (!w7))]) ?_;cases h;exact W.rr
def Qu (v15:Bool):LD :=
 (some v15)
def Jb (a1:ruProof) (a2:LH) (a3:LB) (a4:LB) (K0:(ruProof->LH->LB->LB->LD)):LD :=
 ((Jj a1.qj (fun y1=>QV K0 y1 a2 a3 a4)).bind fun w68=>(some (!w68)))
def Qs (N2:LD) (v65:Bool):LD :=
 (bif v65 then (some false) else N2)
def jg (a4:LB) (v50:LA) (K57:LD):LQ->Nat->LD
 | [],k2=>K57
 | x2::r2,k2=>(bif x2.qw then (chk (decide (v50.length=8)) ((qA v50 x2.qg).bind fun w63=>(chk (wfI .i64 w63.qn && wfI .i64 w63.f_a && wfI .i64 w63.f_b) ((Qs (jg a4 v50 K57 r2 (k2+1))) (mget qf false w63 a4))))) else ((Qs (jg a4 v50 K57 r2 (k2+1))) false))
def JG (a1:ruProof) (a2:LH) (a3:LB) (a4:LB) (e21:ruRule) (v50:LA) (K0:(ruProof->LH->LB->LB->LD)) (v55:Bool):LD :=
 (bif v55 then (some false) else (chk (lenOk e21.qe) (jg a4 v50 (Jb a1 a2 a3 a4 K0) e21.qe 0)))
def qF (a1:ruProof) (a2:LH) (a3:LB) (a4:LB) (e21:ruRule) (K0:(ruProof->LH->LB->LB->LD)) (v50:LA) (v51:Bool) (v52:Int):LD :=
 (bif (!v51) then ((JG a1 a2 a3 a4 e21 v50 K0) true) else ((JG a1 a2 a3 a4 e21 v50 K0) (v52 != (a1.qj.length:Int))))
def jk (N1:(LA->Bool->Int->LD)) (v47:LA) (v48:Bool) (v49:Int):LD :=
 (N1 v47 v48 v49)
def Qt (a1:ruProof) (x1:ruLit) (v28:LA) (v30:Int) (K31:(LA->Bool->Int->LD)) (v40:Bool):LD :=
 (bif v40 then (some false) else (chk (decide (v28.length=8)) ((idx a1.qj v30).bind fun e44=>((DU v28 x1.qg e44.qd).bind fun w45=>(chk (decide (w45.1.length=8/\v28.length=8)) (K31 w45.1 w45.2 (A9 .i64 (v30+1))))))))
def JH (fuel:Nat) (a1:ruProof) (x1:ruLit) (v28:LA) (v29:Bool) (v30:Int) (K31:(LA->Bool->Int->LD)) (v35:Bool):LD :=
 (bif v35 then (K31 v28 v29 v30) else (bif (v30 == (a1.qj.length:Int)) then ((Qt a1 x1 v28 v30 K31) true) else ((idx a1.qj v30).bind fun e38=>((XW fuel e38.qd).bind fun w39=>((Qt a1 x1 v28 v30 K31) (!w39))))))
def qC (fuel:Nat) (a1:ruProof) (K26:(LA->Bool->Int->LD)):LQ->Nat->LA->Bool->Int->LD
 | [],k1,v28,v29,v30=>(K26 v28 v29 v30)
 | x1::r1,k1,v28,v29,v30=>(bif x1.qw then ((JH fuel a1 x1 v28 v29 v30 (jk (qC fuel a1 K26 r1 (k1+1)))) true) else ((JH fuel a1 x1 v28 v29 v30 (jk (qC fuel a1 K26 r1 (k1+1)))) (!v29)))
def JI (fuel:Nat) (a1:ruProof) (a2:LH) (a3:LB) (a4:LB) (K0:(ruProof->LH->LB->LB->LD)) (v18:Bool):LD :=
 (bif v18 then (some false) else ((idx a2 a1.ql).bind fun e21=>((DU (A0 8 0) e21.qi a1.qd).bind fun w23=>(chk (decide (w23.1.length=8/\(A0 8 0).length=8)) (chk (lenOk e21.qe) (qC fuel a1 (qF a1 a2 a3 a4 e21 K0) e21.qe 0 w23.1 w23.2 0))))))
def qz:Nat->ruProof->LH->LB->LB->LD
 | 0,_,_,_,_=>none
 | fuel+1,a1,a2,a3,a4=>((XW fuel a1.qd).bind fun w8=>(bif (!w8) then (some false) else (bif (a1.ql == (-1)) then (bif ((a1.qj.length:Int) == 0) then ((VG a1.qd).bind fun w13=>(chk (wfI .i64 w13.qn && wfI .i64 w13.f_a && wfI .i64 w13.f_b) ((Qu) (mget qf false w13 a3)))) else ((Qu) false)) else (bif (decide (a1.ql<0)) then ((JI fuel a1 a2 a3 a4 (qz fuel)) true) else ((JI fuel a1 a2 a3 a4 (qz fuel)) (decide (a1.ql >= (a2.length:Int))))))))
theorem DR:∀ (fuel:Nat) (a1:ruProof) (a2:LH) (a3:LB) (a4:LB) (r:Bool) (h:qz fuel a1 a2 a3 a4=some r),Run Try.prog (.call 102 [.agg [I6 a1.ql,I6 a1.qd.qc,l3 none a1.qd.qa,l77 none a1.qj],l54 none a2,mpE qh AV.bool a3,mpE qh AV.bool a4] (.bool r)):=by
 intro fuel
 induction fuel with
 | zero=>intro a1 a2 a3 a4 r h;cases h
 | succ fuel ih =>
  intro a1 a2 a3 a4 r h;refine cW Try.func102 rfl (env0:=[(0,.agg [I6 a1.ql,I6 a1.qd.qc,l3 none a1.qd.qa,l77 none a1.qj]),(1,l54 none a2),(2,mpE qh AV.bool a3),(3,mpE qh AV.bool a4)]) ?_;rw[qz.eq_2]at h;refine W.seq ?_;let y0:Env:=[(5,.ptr (l54 none a2)),(6,.ptr (mpE qh AV.bool a3)),(7,.ptr (mpE qh AV.bool a4))];let z0:=fun t=>EN ((4,.ptr (.agg [I6 a1.ql,I6 a1.qd.qc,l3 none a1.qd.qa,l77 none a1.qj]))::t);refine W.rT [4,5,6,7] [4,5,6,7] (e2:=z0 y0) ?_;refine W.seq<|W.sr ?_;obtain⟨w8,hw8,h⟩:=qb h;refine WO.ck 2 (F:=75) (l:=[.agg [I6 a1.qd.qc,l3 none a1.qd.qa]]) (C:=[]) (r:=.bool w8) (ZD fuel a1.qd w8 hw8) ?_;let z1:=fun t=>z0 ((5,.ptr (l54 none a2))::(6,.ptr (mpE qh AV.bool a3))::(7,.ptr (mpE qh AV.bool a4))::t);refine WO.fn (e2:=z1 [(20,.bool (!w8))]) ?_;refine W.ch (!w8) h (fun h=>?_) (fun h=>?_)
  .refine W.seq<|W.rt (e2:=[(8,.bool false)]) ?_;refine W.wk (e:=[(8,.bool false)]) ?_;cases h;exact W.rr
  refine W.sw (e:=z0 y0) ?_;refine W.seq<|W.seq ?_;let z2:=fun t=>z1 ((23,.bool (a1.ql == (-1)))::t);refine W.rt (e2:=z2 []) ?_;refine W.ch (a1.ql == (-1)) h (fun h=>?_) (fun h=>?_)
  .refine W.seq<|W.join (σ:=(Bool)) (fun s=>[(8,.bool s)]) (fun s=>(Qu) s=some r) (fun v15 h=>?_) (fun hK12=>?_)
   .unfold Qu at h;refine W.wk (e:=[(8,.bool v15)]) ?_;cases h;exact W.rr
   refine W.rg<|WO.pq 2 (jM qZ a1.qj)<|WO.bh 2 (fun b=>z2 [(24,.ptr (l77 none a1.qj)),(25,l77 none a1.qj),(26,I6 (a1.qj.length:Int)),(27,.bool b),(28,.bool b)]) ((a1.qj.length:Int) == 0) h (fun h=>?_) (fun h=>?_)
   .obtain⟨w13,hw13,h⟩:=qb h;refine WO.ck 3 (F:=81) (l:=[.agg [I6 a1.qd.qc,l3 none a1.qd.qa]]) (C:=[]) (r:=.agg [I6 w13.qn,I6 w13.f_a,I6 w13.f_b]) (Nd a1.qd w13 hw13) ?_;obtain⟨hc14,h⟩:=qm h;refine WO.pk 0 ((alookup Try.prog 105 [] (mpE qh AV.bool a3) (.agg [I6 w13.qn,I6 w13.f_a,I6 w13.f_b])).map AV.strip) (congrArg (Option.map AV.strip) (YG (F:=qh) (G:=AV.bool) (eq:=qf) (l:=a3) (k:=w13) (z:=false) (kt:=127) (e:=4) (Nw hc14) kR (fun x=>by kernel_rfl) (fun x y=>by kernel_rfl) kR)) ?_;exact WO.fn (hK12 (mget qf false w13 a3) h)
   exact WO.fn (hK12 false h)
  refine W.sw (e:=z0 y0) ?_;refine W.seq<|W.seq<|W.join (σ:=(Bool)) (fun s=>z1 [(44,.bool s)]) (fun s=>(JI fuel a1 a2 a3 a4 (qz fuel)) s=some r) (fun v18 h=>?_) (fun hK17=>?_)
  .unfold JI at h;refine W.ch v18 h (fun h=>?_) (fun h=>?_)
   .refine W.seq<|W.rt (e2:=[(8,.bool false)]) ?_;refine W.wk (e:=[(8,.bool false)]) ?_;cases h;exact W.rr
   refine W.sw (e:=z0 y0) ?_;refine W.sr ?_;obtain⟨e21,he21,h⟩:=qb h;refine WO.pq 3 (ZX (f:=Xa) he21) ?_;let z3:=fun t=>z1 ((9,.ptr (.agg [I6 e21.qi.qc,l3 none e21.qi.qa,l56 none e21.qe]))::t);refine WO.fi [4,5,6,7,9] [9] (e2:=z3 []) ?_;refine W.sr ?_;obtain⟨w23,hw23,h⟩:=qb h;refine WO.ck 5 (F:=122) (l:=[.agg (M6 (A0 8 0)),.agg [I6 e21.qi.qc,l3 none e21.qi.qa],.agg [I6 a1.qd.qc,l3 none a1.qd.qa]]) (C:=[]) (r:=.tup [.agg (M6 w23.1),.bool w23.2]) (qcE (A0 8 0) e21.qi a1.qd w23 hw23)<|WO.sl 4 ?_;let z4:=fun t=>z3 ((10,.pb 1000010 0)::t);let z5:=fun t=>z4 ((50,.tup [.agg (M6 w23.1),.bool w23.2])::(51,.agg (M6 (A0 8 0)))::(52,.ptr (.agg [I6 e21.qi.qc,l3 none e21.qi.qa]))::(53,.agg [I6 e21.qi.qc,l3 none e21.qi.qa])::(54,.ptr (.agg [I6 a1.qd.qc,l3 none a1.qd.qa]))::(55,.agg [I6 a1.qd.qc,l3 none a1.qd.qa])::(56,.tup [.agg (M6 w23.1),.bool w23.2])::(57,.agg (M6 w23.1))::(58,.bool w23.2)::t);refine WO.mv [.arr 10] (env':=z5 [(1000010,.hob 3 [] (M6 (A0 8 0)))]) kR ?_;obtain⟨hc24,h⟩:=qm h;let y1:Env:=[(1000010,.hob 3 [] (M6 w23.1))];refine WO.storeA (enc:=(AV.int .i64)) (l:=w23.1) (l':=(A0 8 0)) (s:=1000010) (sz:=8) 0 (qP .i64) hc24 (e1:=z5 y1) ?_;let z6:=fun t=>z4 ((11,.bool w23.2)::t);refine WO.fn (e2:=z6 y1) ?_;refine W.seq ?_;let z7:=fun t=>z6 ((12,.int .i64 0)::t);refine W.rt (e2:=z7 y1) ?_;refine W.seq<|W.join (σ:=(LA×Bool×Int)) (fun s=>z4 [(11,.bool s.2.1),(12,I6 s.2.2),(1000010,.hob 3 [] (M6 s.1))]) (fun s=>(qF a1 a2 a3 a4 e21 (qz fuel)) s.1 s.2.1 s.2.2=some r) (fun s h=>?_) (fun hK26=>?_)
   .obtain⟨v50,v51,v52⟩:=s;have h:(qF a1 a2 a3 a4 e21 (qz fuel)) v50 v51 v52=some r:=h;unfold qF at h;refine W.seq<|W.seq ?_;let y2:Env:=[(1000010,.hob 3 [] (M6 v50))];refine W.join (σ:=(Bool)) (fun s=>z4 ((111,.bool s)::y2)) (fun s=>(JG a1 a2 a3 a4 e21 v50 (qz fuel)) s=some r) (fun v55 h=>?_) (fun hK54=>?_)
    .unfold JG at h;refine W.ch v55 h (fun h=>?_) (fun h=>?_)
     .refine W.seq<|W.rt (e2:=[(8,.bool false)]) ?_;refine W.wk (e:=[(8,.bool false)]) ?_;cases h;exact W.rr
     refine W.sw (e:=z4 y2) ?_;refine W.seq<|W.join (σ:=Unit) (fun s=>z0 y0) (fun s=>(Jb a1 a2 a3 a4 (qz fuel))=some r) (fun s h=>?_) (fun hK57=>?_)
     .unfold Jb at h;refine W.sr ?_;obtain⟨w68,hw68,h⟩:=qb h;refine WO.ck 3 (F:=123) (l:=[l77 none a1.qj,.clo 124 [.ptr (l54 none a2),.ptr (mpE qh AV.bool a3),.ptr (mpE qh AV.bool a4)]]) (C:=[]) (r:=.bool w68) (Vb a1.qj (fun y1=>QV (qz fuel) y1 a2 a3 a4) 124 [.ptr (l54 none a2),.ptr (mpE qh AV.bool a3),.ptr (mpE qh AV.bool a4)] kR (fun y1 r h=>NU (qz fuel) ih y1 a2 a3 a4 r h) w68 hw68) ?_;refine WO.fn (e2:=[(8,.bool (!w68))]) ?_;refine W.wk (e:=[(8,.bool (!w68))]) ?_;cases h;exact W.rr
     refine W.sr<|WO.pq 2 (jM XB e21.qe) ?_;let z8:=fun t=>z1 ((10,.pb 1000010 0)::(113,l56 none e21.qe)::(114,I6 (e21.qe.length:Int))::t);refine WO.fn (e2:=z8 ((115,.int .i64 0)::y2)) ?_;refine W.block ?_;obtain⟨hl2,h⟩:=qm h;refine W.wk<|W.range (σ:=Unit) e21.qe (fun k2 s=>z8 ((115,I6 (k2:Int))::y2)) (fun r0 k0 s=>jg a4 v50 (Jb a1 a2 a3 a4 (qz fuel)) r0 k0=some r) (fun s h=>?_) (fun x2 r2 k2 s hx2 hk2 h hN2=>?_) () h
     .rw[jg.eq_1]at h;refine W.sr<|WO.pq 0 (jB (ja (l:=e21.qe)))<|WO.fn (e2:=z8 ((115,I6 ((e21.qe).length:Int))::(116,.bool false)::y2)) ?_;exact W.seq<|W.cF<|W.exit<|W.wk (hK57 () h)
     rw[jg.eq_2]at h;refine W.sr<|WO.pq 0 (jB (jy hk2)) ?_;let z9:=fun t=>z8 ((115,I6 (k2:Int))::t);refine WO.fn (e2:=z9 ((116,.bool true)::y2)) ?_;refine W.seq<|W.cT ?_;let y3:Env:=(5,.ptr (l54 none a2))::(6,.ptr (mpE qh AV.bool a3))::(7,.ptr (mpE qh AV.bool a4))::(10,.pb 1000010 0)::(113,l56 none e21.qe)::(114,I6 (e21.qe.length:Int))::(115,I6 (k2:Int))::y2;refine W.sw (e:=z0 y3) ?_;refine W.seq<|W.block<|W.sr<|WO.pq 0 (jA (f:=XB) hx2) ?_;let y4:Env:=(113,l56 none e21.qe)::(114,I6 (e21.qe.length:Int))::(115,I6 (k2:Int))::y2;let z10:=fun t=>z1 ((10,.pb 1000010 0)::(16,.ptr (.agg [.bool x2.qw,I6 x2.qg.qc,l3 none x2.qg.qa]))::t);refine WO.fi [4,5,6,7,10,16,113,114,115,1000010] [16] (e2:=z10 y4) ?_;refine W.seq<|W.join (σ:=(Bool)) (fun s=>z9 ((128,.bool s)::y2)) (fun s=>(Qs (jg a4 v50 (Jb a1 a2 a3 a4 (qz fuel)) r2 (k2+1))) s=some r) (fun v65 h=>?_) (fun hK61=>?_)
     .unfold Qs at h;refine W.ch v65 h (fun h=>?_) (fun h=>?_)
      .refine W.seq<|W.rt (e2:=[(8,.bool false)]) ?_;refine W.wk (e:=[(8,.bool false)]) ?_;cases h;exact W.rr
      refine W.sw (e:=z0 y3) ?_;exact W.rg<|WO.pq 0 (jI (qN hl2 hk2))<|WO.fn (hN2 () h)
     refine W.rg<|WO.bh 3 (fun b=>z10 ((113,l56 none e21.qe)::(114,I6 (e21.qe.length:Int))::(115,I6 (k2:Int))::(119,.ptr (.bool x2.qw))::(120,.bool b)::(121,.bool b)::y2)) x2.qw h (fun h=>?_) (fun h=>?_)
     .obtain⟨hc62,h⟩:=qm h;refine WO.pk 1 (cut Try.prog 178 (M6 v50) 0) (Xx (qP .i64) (sz:=8) kR (of_decide_eq_true hc62)) ?_;obtain⟨w63,hw63,h⟩:=qb h;refine WO.ck 2 (F:=118) (l:=[.agg (M6 v50),.agg [I6 x2.qg.qc,l3 none x2.qg.qa]]) (C:=[]) (r:=.agg [I6 w63.qn,I6 w63.f_a,I6 w63.f_b]) (JT v50 x2.qg w63 hw63) ?_;obtain⟨hc64,h⟩:=qm h;refine WO.pk 0 ((alookup Try.prog 105 [] (mpE qh AV.bool a4) (.agg [I6 w63.qn,I6 w63.f_a,I6 w63.f_b])).map AV.strip) (congrArg (Option.map AV.strip) (YG (F:=qh) (G:=AV.bool) (eq:=qf) (l:=a4) (k:=w63) (z:=false) (kt:=127) (e:=4) (Nw hc64) kR (fun x=>by kernel_rfl) (fun x y=>by kernel_rfl) kR)) ?_;exact WO.fn (hK61 (mget qf false w63 a4) h)
     exact WO.fn (hK61 false h)
    refine W.rg<|WO.bh 3 (fun b=>z4 ((11,.bool v51)::(12,I6 v52)::(103,.bool v51)::(104,.bool b)::(105,.bool b)::y2)) (!v51) h (fun h=>?_) (fun h=>?_)
    .exact WO.fn (hK54 true h)
    exact WO.pq 3 (jM qZ a1.qj)<|WO.fn (hK54 (v52 != (a1.qj.length:Int)) h)
   refine W.sr<|WO.pq 2 (jM XB e21.qe) ?_;let z11:=fun t=>z7 ((60,l56 none e21.qe)::(61,I6 (e21.qe.length:Int))::t);refine WO.fn (e2:=z11 ((62,.int .i64 0)::y1)) ?_;refine W.block ?_;obtain⟨hl1,h⟩:=qm h;refine W.wk<|W.range (σ:=(LA×Bool×Int)) e21.qe (fun k1 s=>z4 [(11,.bool s.2.1),(12,I6 s.2.2),(60,l56 none e21.qe),(61,I6 (e21.qe.length:Int)),(62,I6 (k1:Int)),(1000010,.hob 3 [] (M6 s.1))]) (fun r0 k0 s=>qC fuel a1 (qF a1 a2 a3 a4 e21 (qz fuel)) r0 k0 s.1 s.2.1 s.2.2=some r) (fun s h=>?_) (fun x1 r1 k1 s hx1 hk1 h hN1=>?_) (w23.1,w23.2,0) h
   .obtain⟨v28,v29,v30⟩:=s;have h:qC fuel a1 (qF a1 a2 a3 a4 e21 (qz fuel)) [] (e21.qe).length v28 v29 v30=some r:=h;rw[qC.eq_1]at h;refine W.sr<|WO.pq 0 (jB (ja (l:=e21.qe)))<|WO.fn (e2:=z4 [(11,.bool v29),(12,I6 v30),(60,l56 none e21.qe),(61,I6 (e21.qe.length:Int)),(62,I6 ((e21.qe).length:Int)),(63,.bool false),(1000010,.hob 3 [] (M6 v28))]) ?_;exact W.seq<|W.cF<|W.exit<|W.wk (hK26 (v28,v29,v30) h)
   obtain⟨v28,v29,v30⟩:=s;have h:qC fuel a1 (qF a1 a2 a3 a4 e21 (qz fuel)) (x1::r1) k1 v28 v29 v30=some r:=h;rw[qC.eq_2]at h;refine W.sr<|WO.pq 0 (jB (jy hk1)) ?_;let y5:Env:=[(1000010,.hob 3 [] (M6 v28))];let z12:=fun t=>z4 ((11,.bool v29)::(12,I6 v30)::t);refine WO.fn (e2:=z12 ((60,l56 none e21.qe)::(61,I6 (e21.qe.length:Int))::(62,I6 (k1:Int))::(63,.bool true)::y5)) ?_;refine W.seq<|W.cT ?_;let y6:Env:=(60,l56 none e21.qe)::(61,I6 (e21.qe.length:Int))::(62,I6 (k1:Int))::y5;refine W.sw (e:=z12 y6) ?_;refine W.seq<|W.join (σ:=(LA×Bool×Int)) (fun s=>z4 [(11,.bool s.2.1),(12,I6 s.2.2),(60,l56 none e21.qe),(61,I6 (e21.qe.length:Int)),(62,I6 (k1:Int)),(1000010,.hob 3 [] (M6 s.1))]) (fun s=>(jk (qC fuel a1 (qF a1 a2 a3 a4 e21 (qz fuel)) r1 (k1+1))) s.1 s.2.1 s.2.2=some r) (fun s h=>?_) (fun hK31=>?_)
   .obtain⟨v47,v48,v49⟩:=s;have h:(jk (qC fuel a1 (qF a1 a2 a3 a4 e21 (qz fuel)) r1 (k1+1))) v47 v48 v49=some r:=h;unfold jk at h;exact W.rg<|WO.pq 0 (jI (qN hl1 hk1))<|WO.fn (hN1 (v47,v48,v49) h)
   refine W.block<|W.sr<|WO.pq 0 (jA (f:=XB) hx1) ?_;let y7:Env:=(12,I6 v30)::(14,.ptr (.agg [.bool x1.qw,I6 x1.qg.qc,l3 none x1.qg.qa]))::y6;let z13:=fun t=>z4 ((11,.bool v29)::t);refine WO.fi [4,5,6,7,9,10,11,12,14,60,61,62,1000010] [14] (e2:=z13 y7) ?_;refine W.seq<|W.seq ?_;let z14:=fun t=>z12 ((14,.ptr (.agg [.bool x1.qw,I6 x1.qg.qc,l3 none x1.qg.qa]))::(60,l56 none e21.qe)::(61,I6 (e21.qe.length:Int))::(62,I6 (k1:Int))::t);refine W.join (σ:=(Bool)) (fun s=>z14 ((71,.bool s)::y5)) (fun s=>(JH fuel a1 x1 v28 v29 v30 (jk (qC fuel a1 (qF a1 a2 a3 a4 e21 (qz fuel)) r1 (k1+1)))) s=some r) (fun v35 h=>?_) (fun hK34=>?_)
   .unfold JH at h;refine W.ch v35 h (fun h=>?_) (fun h=>?_)
    .exact W.exit<|W.wk (hK31 (v28,v29,v30) h)
    let y8:Env:=(5,.ptr (l54 none a2))::(6,.ptr (mpE qh AV.bool a3))::(7,.ptr (mpE qh AV.bool a4))::(9,.ptr (.agg [I6 e21.qi.qc,l3 none e21.qi.qa,l56 none e21.qe]))::(10,.pb 1000010 0)::y7;refine W.sw (e:=z0 y8) ?_;refine W.seq<|W.seq ?_;let z15:=fun t=>z4 ((12,I6 v30)::(14,.ptr (.agg [.bool x1.qw,I6 x1.qg.qc,l3 none x1.qg.qa]))::(60,l56 none e21.qe)::(61,I6 (e21.qe.length:Int))::(62,I6 (k1:Int))::t);refine W.join (σ:=(Bool)) (fun s=>z15 ((86,.bool s)::y5)) (fun s=>(Qt a1 x1 v28 v30 (jk (qC fuel a1 (qF a1 a2 a3 a4 e21 (qz fuel)) r1 (k1+1)))) s=some r) (fun v40 h=>?_) (fun hK37=>?_)
    .unfold Qt at h;refine W.ch v40 h (fun h=>?_) (fun h=>?_)
     .refine W.seq<|W.rt (e2:=[(8,.bool false)]) ?_;refine W.wk (e:=[(8,.bool false)]) ?_;cases h;exact W.rr
     refine W.sw (e:=z0 y8) ?_;refine W.sr ?_;obtain⟨hc43,h⟩:=qm h;refine WO.pk 0 (cut Try.prog 178 (M6 v28) 0) (Xx (qP .i64) (sz:=8) kR (of_decide_eq_true hc43)) ?_;obtain⟨e44,he44,h⟩:=qb h;refine WO.pk 5 (if (0:Int)<=v30 then ((List.map qZ a1.qj)[A3 v30]?).map AV.ptr else none) ((ZX (f:=qZ) he44).trans (congrArg (fun y=>some (AV.ptr y)) (Qh e44))) ?_;obtain⟨w45,hw45,h⟩:=qb h;refine WO.ck 2 (F:=122) (l:=[.agg (M6 v28),.agg [I6 x1.qg.qc,l3 none x1.qg.qa],.agg [I6 e44.qd.qc,l3 none e44.qd.qa]]) (C:=[]) (r:=.tup [.agg (M6 w45.1),.bool w45.2]) (qcE v28 x1.qg e44.qd w45 hw45) ?_;obtain⟨hc46,h⟩:=qm h;refine WO.storeA (enc:=(AV.int .i64)) (l:=w45.1) (l':=v28) (s:=1000010) (sz:=8) 3 (qP .i64) hc46 (e1:=z15 [(87,.tup [.agg (M6 w45.1),.bool w45.2]),(88,.agg (M6 v28)),(89,.ptr (.agg [I6 x1.qg.qc,l3 none x1.qg.qa])),(90,.agg [I6 x1.qg.qc,l3 none x1.qg.qa]),(91,.ptr (l77 none a1.qj)),(92,l77 none a1.qj),(93,I6 v30),(94,.ptr (.agg [I6 e44.ql,I6 e44.qd.qc,l3 none e44.qd.qa,l77 none e44.qj])),(95,.ptr (.agg [I6 e44.qd.qc,l3 none e44.qd.qa])),(96,.agg [I6 e44.qd.qc,l3 none e44.qd.qa]),(97,.tup [.agg (M6 w45.1),.bool w45.2]),(98,.agg (M6 w45.1)),(99,.bool w45.2),(1000010,.hob 3 [] (M6 w45.1))]) ?_;let y9:Env:=[(60,l56 none e21.qe),(61,I6 (e21.qe.length:Int)),(62,I6 (k1:Int)),(1000010,.hob 3 [] (M6 w45.1))];refine WO.fn (e2:=z4 ((11,.bool w45.2)::(12,I6 v30)::y9)) ?_;refine W.rt (e2:=z4 ((11,.bool w45.2)::(12,I6 (W6 (v30+1)))::y9)) ?_;exact hK31 (w45.1,w45.2,(W6 (v30+1))) h
    refine W.rg<|WO.pq 3 (jM qZ a1.qj)<|WO.bh 2 (fun b=>z15 ((72,I6 v30)::(73,.ptr (l77 none a1.qj))::(74,l77 none a1.qj)::(75,I6 (a1.qj.length:Int))::(76,.bool b)::(77,.bool b)::y5)) (v30 == (a1.qj.length:Int)) h (fun h=>?_) (fun h=>?_)
    .exact WO.fn (hK37 true h)
    obtain⟨e38,he38,h⟩:=qb h;refine WO.pk 3 (if (0:Int)<=v30 then ((List.map qZ a1.qj)[A3 v30]?).map AV.ptr else none) ((ZX (f:=qZ) he38).trans (congrArg (fun y=>some (AV.ptr y)) (Qh e38))) ?_;obtain⟨w39,hw39,h⟩:=qb h;exact WO.ck 2 (F:=75) (l:=[.agg [I6 e38.qd.qc,l3 none e38.qd.qa]]) (C:=[]) (r:=.bool w39) (ZD fuel e38.qd w39 hw39)<|WO.fn (hK37 (!w39) h)
   refine W.rg<|WO.bh 3 (fun b=>z14 ((66,.ptr (.bool x1.qw))::(67,.bool b)::(68,.bool b)::y5)) x1.qw h (fun h=>?_) (fun h=>?_)
   .exact WO.fn (hK34 true h)
   exact WO.fn (hK34 (!v29) h)
  refine W.rg<|WO.bh 4 (fun b=>z1 [(35,.ptr (I6 a1.ql)),(36,I6 a1.ql),(37,.bool b),(38,.bool b)]) (decide (a1.ql<0)) h (fun h=>?_) (fun h=>?_)
  .exact WO.fn (hK17 true h)
  exact WO.pq 3 (jM Xa a2)<|WO.fn (hK17 (decide (a1.ql >= (a2.length:Int))) h)
def YU (v18:Bool):Option (Bool×Int) :=
 (some (v18,0))
def Ym (fuel:Nat) (a1:LH) (a2:LG) (a3:ruProof):Option (Bool×Int) :=
 ((Xp fuel a1 a2).bind fun w7=>(bif (!w7) then (some (false,2)) else ((Qc fuel a1 a2).bind fun w10=>(bif (!w10.2) then (some (false,8)) else ((jD fuel a3 500 40).bind fun w15=>(bif (decide (w15 >= 0)) then ((QS a2).bind fun w16=>((qz fuel a3 a1 w16 w10.1).bind fun w17=>((YU) w17))) else ((YU) false)))))))
theorem qav (fuel:Nat) (a1:LH) (a2:LG) (a3:ruProof) (r:(Bool×Int)) (h:Ym fuel a1 a2 a3=some r):Run Try.prog (.call 55 [l54 none a1,l41 none a2,.agg [I6 a3.ql,I6 a3.qd.qc,l3 none a3.qd.qa,l77 none a3.qj]] (.tup [.bool r.1,I6 r.2])):=by
 refine cW Try.func55 rfl (env0:=[(0,l54 none a1),(1,l41 none a2),(2,.agg [I6 a3.ql,I6 a3.qd.qc,l3 none a3.qd.qa,l77 none a3.qj])]) ?_;unfold Ym at h;refine W.seq ?_;let y0:Env:=[(1,l41 none a2),(5,.ptr (.agg [I6 a3.ql,I6 a3.qd.qc,l3 none a3.qd.qa,l77 none a3.qj]))];let z0:=fun t=>EN ((0,l54 none a1)::t);refine W.rT [0,1,5] [5] (e2:=z0 y0) ?_;refine W.seq<|W.sr ?_;obtain⟨w7,hw7,h⟩:=qb h;refine WO.ck 2 (F:=56) (l:=[l54 none a1,l41 none a2]) (C:=[]) (r:=.bool w7) (Nb fuel a1 a2 w7 hw7) ?_;let z1:=fun t=>z0 ((1,l41 none a2)::(5,.ptr (.agg [I6 a3.ql,I6 a3.qd.qc,l3 none a3.qd.qa,l77 none a3.qj]))::t);refine WO.fn (e2:=z1 [(13,.bool (!w7))]) ?_;refine W.ch (!w7) h (fun h=>?_) (fun h=>?_)
 .refine W.seq<|W.rt (e2:=[(6,.bool false),(7,.int .i64 2)]) ?_;refine W.wk (e:=[(6,.bool false),(7,.int .i64 2)]) ?_;cases h;exact W.rr
 refine W.sw (e:=z0 y0) ?_;refine W.sr ?_;obtain⟨w10,hw10,h⟩:=qb h;refine WO.ck 2 (F:=57) (l:=[l54 none a1,l41 none a2]) (C:=[]) (r:=.tup [mpE qh AV.bool w10.1,.bool w10.2]) (Nc fuel a1 a2 w10 hw10) ?_;let z2:=fun t=>z1 ((8,mpE qh AV.bool w10.1)::t);refine WO.fn (e2:=z2 [(9,.bool w10.2)]) ?_;refine W.seq<|W.seq<|W.rt (e2:=z2 [(21,.bool (!w10.2))]) ?_;refine W.ch (!w10.2) h (fun h=>?_) (fun h=>?_)
 .refine W.seq<|W.rt (e2:=[(6,.bool false),(7,.int .i64 8)]) ?_;refine W.wk (e:=[(6,.bool false),(7,.int .i64 8)]) ?_;cases h;exact W.rr
 refine W.sw (e:=z2 []) ?_;refine W.seq<|W.join (σ:=(Bool)) (fun s=>[(6,.bool s),(7,.int .i64 0)]) (fun s=>(YU) s=some r) (fun v18 h=>?_) (fun hK14=>?_)
 .unfold YU at h;refine W.wk (e:=[(6,.bool v18),(7,.int .i64 0)]) ?_;cases h;exact W.rr
 refine W.rg ?_;obtain⟨w15,hw15,h⟩:=qb h;refine WO.ck 1 (F:=101) (l:=[.agg [I6 a3.ql,I6 a3.qd.qc,l3 none a3.qd.qa,l77 none a3.qj],.int .i64 500,.int .i64 40]) (C:=[]) (r:=I6 w15) (DQ fuel a3 500 40 w15 hw15)<|WO.bh 2 (fun b=>z2 [(22,.agg [I6 a3.ql,I6 a3.qd.qc,l3 none a3.qd.qa,l77 none a3.qj]),(23,I6 w15),(24,.bool b),(25,.bool b)]) (decide (w15 >= 0)) h (fun h=>?_) (fun h=>?_)
 .obtain⟨w16,hw16,h⟩:=qb h;refine WO.ck 3 (F:=73) (l:=[l41 none a2]) (C:=[]) (r:=mpE qh AV.bool w16) (Nf a2 w16 hw16) ?_;obtain⟨w17,hw17,h⟩:=qb h;exact WO.ck 1 (F:=102) (l:=[.agg [I6 a3.ql,I6 a3.qd.qc,l3 none a3.qd.qa,l77 none a3.qj],l54 none a1,mpE qh AV.bool w16,mpE qh AV.bool w10.1]) (C:=[]) (r:=.bool w17) (DR fuel a3 a1 w16 w10.1 w17 hw17)<|WO.fn (hK14 w17 h)
 exact WO.fn (hK14 false h)
end Go.AM
namespace Go.AM
open Go.Proofs Go.Sort
open Classical
variable {u v w:LA} {a:qo} {f:apiFact} {x:ruLit} {subs:LG} {X:rufact->Prop}
def Ext (v w:LA):Prop:=∀ i,v.getD i 0≠0->w.getD i 0=v.getD i 0
theorem Ext.refl (v:LA):Ext v v:=fun _ _=>rfl
theorem Ext.trans (h:Ext u v) (k:Ext v w):Ext u w:=fun i hi=>by rw[k i (by rw[h i hi];exact hi),h i hi]
theorem Ext.zero (w:LA):Ext v0 w:=fun i hi=>by
 refine absurd ?_ hi;rw[D1,D2];split <;> rfl
theorem Ext.bnd {u w args:LA} (h:Ext u w) (hb:Go.AM.bnd u args):Go.AM.bnd w args:=fun x hx h0=>by rw[h _ (hb x hx h0)];exact hb x hx h0
theorem Ext.ground {args:LA} (h:Ext u w) (hb:Go.AM.bnd u args):groundA w args=groundA u args:=by
 unfold groundA
 refine A8 fun x hx=>?_
 split
 .rfl
 rename_i h0;exact h _ (hb x hx oM)
theorem Ext.groundF {u w:LA} (h:Ext u w) {a:qo} (hb:Go.AM.bnd u a.qa):groundF w a=groundF u a:=by
 unfold Go.AM.groundF;rw[h.ground hb]
theorem Zv:∀ {xs es v u:LA},fitA v xs es=some u->V8 v->arg7 xs->es16 es->xs.length=es.length->Ext v u/\groundA u xs=es
 | [],es,v,u,h,hv,_,_,hl=>by
  rw[fitA]at h;cases h;have:es=[]:=D3 hl.symm;subst this;exact⟨Ext.refl _,rfl⟩
 | x::xs,[],v,u,h,_,_,_,_=>by cases h
 | x::xs,e::es,v,u,h,hv,ha,he,hl=>by
  have hx:=ha x (A2 ..)
  have ha':arg7 xs:=fun y hy=>ha y (A1 _ hy)
  have h1:=he e (A2 ..)
  have he':es16 es:=fun y hy=>he y (A1 _ hy)
  have hl':xs.length=es.length:=by simpa using hl
  unfold fitA at h;split at h
  .rename_i hneg;split at h
   .rename_i hq;obtain⟨a,b⟩:=Zv h hv ha' he' hl';refine⟨a,?_⟩;unfold groundA at b ⊢;rw[A5,b,if_pos hneg,hq]
   cases h
  rename_i hneg;split at h
  .cases h
  rename_i hq
  have hlt:x.toNat<v.length:=by rw[hv.1];omega
  have hv':V8 (v.set x.toNat e):=⟨by rw[B1,hv.1],fun i=>by
   rw[Va _ _ _ hlt];have:=hv.2 i
   split <;> omega⟩
  obtain⟨a,b⟩:=Zv h hv' ha' he' hl'
  have hxe:(v.set x.toNat e).getD x.toNat 0=e:=by rw[Va _ _ _ hlt,if_pos rfl]
  refine⟨fun i hi=>?_,?_⟩
  .have hvi:(v.set x.toNat e).getD i 0=v.getD i 0:=by
    rw[Va _ _ _ hlt];split
    .rename_i hix;subst hix;exact (Classical.byContradiction fun hne=>hq ⟨hi,fun q=>hne q.symm⟩)
    rfl
   rw[<- hvi];exact a i (by rw[hvi];exact hi)
  unfold groundA at b ⊢;rw[A5,b,if_neg hneg,a x.toNat (by rw[hxe];omega),hxe]
theorem VS:∀ {xs es v w:LA},Ext v w->v.length=8->arg7 xs->groundA w xs=es->(∀ e,e∈es->e≠0)->∃ u,fitA v xs es=some u/\Ext u w
 | [],es,v,w,h,_,_,_,_=>⟨v,by rw[fitA],h⟩
 | x::xs,es,v,w,h,hv,ha,hg,hz=>by
  have hx:=ha x (A2 ..)
  have ha':arg7 xs:=fun y hy=>ha y (A1 _ hy)
  unfold groundA at hg;rw[A5]at hg;subst hg
  have hz':=fun e he=>hz e (A1 _ he)
  have hz1:=hz _ (A2 ..);unfold fitA;by_cases hneg:x<0
  .rw[if_pos hneg,if_pos hneg,if_pos rfl];exact VS h hv ha' rfl hz'
  rw[if_neg hneg,if_neg hneg];rw[if_neg hneg]at hz1;rw[if_neg (fun q=>q.2 (h _ q.1).symm)]
  have hlt:x.toNat<v.length:=by rw[hv];omega
  refine VS (fun i hi=>?_) (by rw[B1,hv]) ha' rfl hz';rw[Va _ _ _ hlt]at hi ⊢;split
  .rename_i hix;rw[hix]
  rename_i hix;rw[if_neg hix]at hi;exact h i hi
theorem V8.zero:V8 v0:=V8_0
theorem qbx (f:rufact) (a:qo) {b:Bool} (hrel:(a.qc == f.qn)=b):∀ (args:LA) (k:Nat) (v:LA),arg7 args->k+args.length<=2->v.length=8 ->
  match fitA v args (([f.f_a,f.f_b]:LA).drop k) with
  | some u=>qq f (qu a f) args k v (A0 8 0)=some (u,b)
  | none=>∃ u,qq f (qu a f) args k v (A0 8 0)=some (u,false)/\u.length=8
 | [],k,v,_,_,hv=>by
  rw[fitA];show qq f (qu a f) [] k v (A0 8 0)=_;rw[qq];unfold qu;rw[NH (dT hv),NH (dT ⟨hv,by simp⟩),NH (dT hv),hrel]
 | x::args,k,v,ha,hk,hv=>by
  rw[C0]at hk;have hx:=ha x (A2 ..)
  have ha':arg7 args:=fun y hy=>ha y (A1 _ hy)
  obtain⟨e,he,hd⟩:∃ e,([f.f_a,f.f_b]:LA)[A3 (k:Int) * 1]? = some e/\([f.f_a,f.f_b]:LA).drop k=e::([f.f_a,f.f_b]:LA).drop (k+1):=by
   match k,hk with
   | 0,_=>exact⟨f.f_a,rfl,rfl⟩
   | 1,_=>exact⟨f.f_b,rfl,rfl⟩
   | k+2,hk=>omega
  rw[qq,NH (dT ⟨by omega,by omega⟩),he,hd];simp only[A4];unfold fitA;by_cases hneg:x<0
  .rw[dT hneg,cT,if_pos hneg,dF (show ¬ x >= 0 by omega),cN,wrap64 (by omega) (by omega)];by_cases hq:0 - x=e
   .rw[if_pos hq,show ((0 - x) != e)=false by rw[hq];exact bne_self_eq_false ..,  cN];unfold qx qB;rw[cN,dF (show ¬ x >= 0 by omega),cN];exact qbx f a hrel args (k+1) v ha' oM hv
   rw[if_neg hq,show ((0 - x) != e)=true from bne_iff_ne.2 hq,cT];unfold qx;rw[cT,NH (dT hv),NH (dT ⟨hv,by simp⟩),NH (dT hv)];exact⟨_,rfl,hv⟩
  rw[dF hneg,cN,if_neg hneg,dT (show x >= 0 by omega),cT,NH (dec8 (by omega) hx.2),get8 hv (by omega) hx.2];simp only[A4]
  have go:qx x v (A0 8 0) e (qB (A0 8 0) (qq f (qu a f) args (k+1))) false=qq f (qu a f) args (k+1) (v.set x.toNat e) (A0 8 0):=by
   unfold qx qB;rw[cN,dT (show x >= 0 by omega),cT,NH (dec8 (by omega) hx.2),NH (dT (by omega)),Nat.zero_add,Nat.mul_one]
  have hrec:=qbx f a hrel args (k+1) (v.set x.toNat e) ha' oM (by rw[B1,hv]);by_cases hz:v.getD x.toNat 0=0
  .rw[show (v.getD x.toNat 0 != 0)=false by simp only[hz,bne_self_eq_false],cN,go,if_neg (fun h=>h.1 hz)];exact hrec
  rw[show (v.getD x.toNat 0 != 0)=true from bne_iff_ne.2 hz,cT,NH (dec8 (by omega) hx.2)];by_cases hq:v.getD x.toNat 0=e
  .rw[show (v.getD x.toNat 0 != e)=false by simp only[hq,bne_self_eq_false],go,if_neg (fun h=>h.2 hq)];exact hrec
  rw[show (v.getD x.toNat 0 != e)=true from bne_iff_ne.2 hq,if_pos ⟨hz,hq⟩];unfold qx;rw[cT,NH (dT hv),NH (dT ⟨hv,by simp⟩),NH (dT hv)];exact⟨_,rfl,hv⟩
theorem qjc (hv:v.length=8) (ha:arg7 a.qa) (hl:a.qa.length<=2) (hf:groundP f) :
  ∃ p,DU v a f=some p/\p.1.length=8/\(p.2=true↔a.qc=f.qc/\a.qa.length=f.qa.length/\(fitA v a.qa f.qa).isSome=true)/\(p.2=true->fitA v a.qa f.qa=some p.1):=by
 unfold DU;rw[NH (by cases v <;> simp_all)];by_cases hlen:f.qa.length=a.qa.length
 .rw[show ((f.qa.length:Int) != (a.qa.length:Int))=false by simp[hlen],cN,NH (dT hv),qcm hf];simp only[A4];have hok:=Xz hf
  have hab:fitA v a.qa [(toF f).f_a,(toF f).f_b]=fitA v a.qa f.qa:=by
   have:=qjd (f:=toF f) (v:=v) (args:=a.qa) (by rw[hok.2];exact hlen);rw[hok.2]at this;exact this
  have h:=qbx (toF f) a (b:=a.qc == (toF f).qn) rfl a.qa 0 v ha oM hv;rw[List.drop_zero,hab]at h
  have e:jn v a (toF f)=qq (toF f) (qu a (toF f)) a.qa 0 v (A0 8 0):=by
   unfold jn;rw[NH (by cases v <;> simp_all),NH (qy (by omega))]
  rw[e]
  cases hfa:fitA v a.qa f.qa with
  | some u =>
   rw[hfa]at h;have hul:=qaO hfa;have h:qq (toF f) (qu a (toF f)) a.qa 0 v (A0 8 0)=some (u,a.qc == (toF f).qn):=h;rw[h];simp only[A4];rw[NH (dT ⟨by omega,by simp⟩),NH (dT (by omega))];refine⟨_,rfl,by simp only;omega,?_,fun _=>rfl⟩;simp only[Option.isSome_some,and_true,beq_iff_eq];exact⟨fun q=>⟨q,hlen.symm⟩,fun q=>q.1⟩
  | none =>
   rw[hfa]at h;obtain⟨u,hu,hul⟩:=h;rw[hu];simp only[A4];rw[NH (dT ⟨hul,by simp⟩),NH (dT hul)];exact⟨_,rfl,hul,by simp,fun q=>(by cases q)⟩
 rw[show ((f.qa.length:Int) != (a.qa.length:Int))=true by simp;omega,cT,NH (dT hv),NH (dT ⟨hv,by simp⟩),NH (dT hv)];exact⟨_,rfl,hv,⟨fun q=>(by cases q),fun q=>absurd q.2.1.symm hlen⟩,fun q=>(by cases q)⟩
def posB (body:LQ):LQ:=body.filter fun x=>!x.qw
def MatchP (X:rufact->Prop) (r:ruRule) (f:apiFact) (subs:LG):Prop :=
 ∃ w,V8 w/\(∀ a,a∈atomsU r->bnd w a.qa)/\groundF w r.qi=toF f/\(posB r.qe).map (fun x=>groundF w x.qg)=subs.map toF/\FreeP X w r.qe
def chainV:LQ->LA->LG->Option LA
 | [],v,_=>some v
 | x::body,v,subs=>if x.qw=true then chainV body v subs else match subs with
  | []=>none
  | s::subs=>if groundP s/\x.qg.qc=s.qc/\x.qg.qa.length=s.qa.length then (fitA v x.qg.qa s.qa).bind fun u=>chainV body u subs else none
theorem qal {body:LQ} (h:x.qw=true):chainV (x::body) v subs=chainV body v subs:=by
 cases subs <;> simp[chainV,h]
theorem qdv {body:LQ} (h:¬ x.qw=true):chainV (x::body) v []=none:=by
 simp[chainV,h]
theorem Hw {body:LQ} {s:apiFact} (h:¬ x.qw=true):chainV (x::body) v (s::subs)=if groundP s/\x.qg.qc=s.qc/\x.qg.qa.length=s.qa.length then (fitA v x.qg.qa s.qa).bind fun u=>chainV body u subs else none:=by
 simp[chainV,h]
theorem Ny (hw:V8 w) (ha:fitP a.qc a.qa) (hb:bnd w a.qa) (hf:groundP f):groundF w a=toF f↔a.qc=f.qc/\groundA w a.qa=f.qa:=by
 obtain⟨c,d,e⟩:=Jw hw ha hb;obtain⟨g,h⟩:=Xz hf;constructor
 .intro q;refine⟨?_,?_⟩
  .rw[<- e,q];rfl
  rw[<- d,q,h]
 rintro⟨q1,q2⟩
 unfold groundF toF;rw[q1,q2]
theorem ZT:∀ (body:LQ) (v u:LA) (subs:LG),(∀ x,x∈body->fitP x.qg.qc x.qg.qa)->V8 v->chainV body v subs=some u->(posB body).length=subs.length ->
  V8 u/\Ext v u/\(∀ x,x∈posB body->bnd u x.qg.qa)/\(posB body).map (fun x=>groundF u x.qg)=subs.map toF
 | [],v,u,subs,_,hv,h,hl=>by
  rw[chainV]at h;cases h;have:subs=[]:=D3 (by simpa[posB] using hl.symm);subst this;exact⟨hv,Ext.refl _,fun x hx=>by simp[posB]at hx,rfl⟩
 | x::body,v,u,subs,hx,hv,h,hl=>by
  have hx':=fun y (hy:y∈body)=>hx y (A1 _ hy)
  by_cases hn:x.qw=true
  .rw[qal hn]at h
   have e:posB (x::body)=posB body:=by unfold posB;rw[A7,if_neg (by simp[hn])]
   rw[e]at hl ⊢;exact ZT body v u subs hx' hv h hl
  have e:posB (x::body)=x::posB body:=by unfold posB;rw[A7,if_pos (by simp[hn])]
  rw[e]at hl ⊢
  match subs,h,hl with
  | [],h,_=>rw[qdv hn]at h;cases h
  | s::subs,h,hl =>
   rw[Hw hn]at h;split at h
   .rename_i hs;obtain⟨hg,hr,hle⟩:=hs;obtain⟨u1,h1,h2⟩:=qb h;have hfx:=hx x (A2 ..);obtain⟨a1,a2,a3⟩:=QB h1 hv (qI hfx) hg.2.2;obtain⟨b1,b2⟩:=Zv h1 hv (qI hfx) hg.2.2 hle;obtain⟨c1,c2,c3,c4⟩:=ZT body u1 u subs hx' a1 h2 (by simpa using hl);refine⟨c1,b1.trans c2,fun y hy=>?_,?_⟩
    .rcases List.mem_cons.1 hy with rfl | hy
     .exact c2.bnd a3
     exact c3 y hy
    rw[A5,A5,c4,c2.groundF a3,(Ny a1 hfx a3 hg).2 ⟨hr,b2⟩]
   cases h
theorem Hv:∀ (body:LQ) (v w:LA) (subs:LG),(∀ x,x∈body->fitP x.qg.qc x.qg.qa)->V8 v->Ext v w->V8 w->(∀ x,x∈body->bnd w x.qg.qa)->(∀ s,s∈subs->groundP s)->(posB body).map (fun x=>groundF w x.qg)=subs.map toF ->
  ∃ u,chainV body v subs=some u/\Ext u w
 | [],v,w,subs,_,_,h,_,_,_,_=>⟨v,by rw[chainV],h⟩
 | x::body,v,w,subs,hx,hv,h,hw,hb,hs,hm=>by
  have hx':=fun y (hy:y∈body)=>hx y (A1 _ hy)
  have hb':=fun y (hy:y∈body)=>hb y (A1 _ hy)
  by_cases hn:x.qw=true
  .rw[qal hn]
   have e:posB (x::body)=posB body:=by unfold posB;rw[A7,if_neg (by simp[hn])]
   rw[e]at hm;exact Hv body v w subs hx' hv h hw hb' hs hm
  have e:posB (x::body)=x::posB body:=by unfold posB;rw[A7,if_pos (by simp[hn])]
  rw[e,A5]at hm
  match subs,hm,hs with
  | [],hm,_=>cases hm
  | s::subs,hm,hs =>
   rw[A5,List.cons.injEq]at hm;have hg:=hs s (A2 ..);have hfx:=hx x (A2 ..);obtain⟨q1,q2⟩:=(Ny hw hfx (hb x (A2 ..)) hg).1 hm.1
   have hle:x.qg.qa.length=s.qa.length:=by rw[<- q2];unfold groundA;rw[A6]
   obtain⟨u1,h1,h2⟩:=VS h hv.1 (qI hfx) q2 (fun e he=>by have:=hg.2.2 e he;omega);obtain⟨a1,a2,a3⟩:=QB h1 hv (qI hfx) hg.2.2;obtain⟨u,h3,h4⟩:=Hv body u1 w subs hx' a1 h2 hw hb' (fun y hy=>hs y (A1 _ hy)) hm.2;refine⟨u,?_,h4⟩;rw[Hw hn,if_pos ⟨hg,q1,hle⟩,h1];exact h3
theorem qiO {r:ruRule} (h:okU r) (hp:∀ x,x∈posB r.qe->bnd w x.qg.qa):∀ a,a∈atomsU r->bnd w a.qa:=fun t ht x hx h0=>by
 obtain⟨y,y1,y2,y3⟩:=h.2.1 t ht x hx h0;exact hp y (List.mem_filter.2 ⟨y1,by rw[y2];rfl⟩) x y3 h0
theorem Hh {r:ruRule} (h:okU r) (hf:groundP f) (hs:∀ s,s∈subs->groundP s) :
  MatchP X r f subs↔r.qi.qc=f.qc/\r.qi.qa.length=f.qa.length/\∃ v1 u,fitA v0 r.qi.qa f.qa=some v1/\chainV r.qe v1 subs=some u/\(posB r.qe).length=subs.length/\FreeP X u r.qe:=by
 have hat:∀ a,a∈atomsU r->fitP a.qc a.qa:=h.2.2;have hhd:=hat r.qi (A2 ..)
 have hbd:∀ x,x∈r.qe->fitP x.qg.qc x.qg.qa:=fun x hx=>hat _ (A1 _ (List.mem_map.2 ⟨x,hx,rfl⟩))
 constructor
 .rintro⟨w,w1,w2,w3,w4,w5⟩
  obtain⟨q1,q2⟩:=(Ny w1 hhd (w2 _ (A2 ..)) hf).1 w3
  have hle:r.qi.qa.length=f.qa.length:=by rw[<- q2];unfold groundA;rw[A6]
  obtain⟨v1,h1,h2⟩:=VS (Ext.zero w) V8_0.1 (qI hhd) q2 (fun e he=>by have:=hf.2.2 e he;omega);obtain⟨a1,a2,a3⟩:=QB h1 V8_0 (qI hhd) hf.2.2
  have hbw:∀ x,x∈r.qe->bnd w x.qg.qa:=fun x hx=>w2 _ (A1 _ (List.mem_map.2 ⟨x,hx,rfl⟩))
  obtain⟨u,h3,h4⟩:=Hv r.qe v1 w subs hbd a1 h2 w1 hbw hs w4
  have hlen:(posB r.qe).length=subs.length:=by have:=congrArg List.length w4;simpa using this
  obtain⟨c1,c2,c3,c4⟩:=ZT r.qe v1 u subs hbd a1 h3 hlen;have hbu:=qiO h c3;refine⟨q1,hle,v1,u,h1,h3,hlen,fun x hx hn hy=>w5 x hx hn ?_⟩;rw[h4.groundF (hbu _ (A1 _ (List.mem_map.2 ⟨x,hx,rfl⟩)))];exact hy
 rintro⟨q1,hle,v1,u,h1,h3,hlen,h5⟩
 obtain⟨a1,a2,a3⟩:=QB h1 V8_0 (qI hhd) hf.2.2;obtain⟨b1,b2⟩:=Zv h1 V8_0 (qI hhd) hf.2.2 hle;obtain⟨c1,c2,c3,c4⟩:=ZT r.qe v1 u subs hbd a1 h3 hlen;refine⟨u,c1,qiO h c3,?_,c4,h5⟩;rw[c2.groundF a3];exact (Ny a1 hhd a3 hf).2 ⟨q1,b2⟩
theorem Zq {P:rufact->Prop}:∀ (body:LQ) (v w:LA),(∀ x,x∈body->fitP x.qg.qc x.qg.qa)->V8 v->V8 w->Ext v w->(∀ x,x∈body->bnd w x.qg.qa)->(∀ x,x∈posB body->P (groundF w x.qg))->∃ u,InstP P body v u/\Ext u w
 | [],v,w,_,_,_,h,_,_=>⟨v,rfl,h⟩
 | x::body,v,w,hx,hv,hw,h,hb,hp=>by
  have hx':=fun y (hy:y∈body)=>hx y (A1 _ hy)
  have hb':=fun y (hy:y∈body)=>hb y (A1 _ hy)
  by_cases hn:x.qw=true
  .have e:posB (x::body)=posB body:=by unfold posB;rw[A7,if_neg (by simp[hn])]
   rw[e]at hp;obtain⟨u,h1,h2⟩:=Zq body v w hx' hv hw h hb' hp;exact⟨u,.inl ⟨hn,h1⟩,h2⟩
  have hn':x.qw=false:=by simpa using hn
  have e:posB (x::body)=x::posB body:=by unfold posB;rw[A7,if_pos (by simp[hn])]
  rw[e]at hp;have hfx:=hx x (A2 ..);obtain⟨c,d,e2⟩:=Jw hw hfx (hb x (A2 ..));have h16:=ZV c;rw[d]at h16;obtain⟨u1,h1,h2⟩:=VS h hv.1 (qI hfx) rfl (fun e he=>by have:=h16 e he;omega);obtain⟨a1,a2,a3⟩:=QB h1 hv (qI hfx) h16
  obtain⟨u,h3,h4⟩:=Zq body u1 w hx' a1 hw h2 hb' fun y hy=>hp y (A1 _ hy)
  refine⟨u,.inr ⟨hn',_,u1,hp x (A2 ..),e2,?_,by rw[d];exact h1,h3⟩,h4⟩;rw[d];unfold groundA;rw[A6]
theorem qid {ar:Int->Nat} {r:ruRule} (h:okL ar r) (hs:∀ s,s∈subs->groundP s) :
  MatchP X r f subs↔∃ w,InstP (fun g=>g∈subs.map toF) r.qe v0 w/\FreeP X w r.qe/\groundF w r.qi=toF f/\(posB r.qe).map (fun x=>groundF w x.qg)=subs.map toF:=by
 have hbd:∀ x,x∈r.qe->fitP x.qg.qc x.qg.qa:=fun x hx=>(h.body x hx).1
 have hok:okW fun g=>g∈subs.map toF:=fun g hg=>by
  obtain⟨s,h1,rfl⟩:=List.mem_map.1 hg;exact (Xz (hs s h1)).1
 constructor
 .rintro⟨w,w1,w2,w3,w4,w5⟩
  have hbw:∀ x,x∈r.qe->bnd w x.qg.qa:=fun x hx=>w2 _ (A1 _ (List.mem_map.2 ⟨x,hx,rfl⟩))
  obtain⟨u,h1,h2⟩:=Zq (P:=fun g=>g∈subs.map toF) r.qe v0 w hbd V8_0 w1 (Ext.zero w) hbw (fun x hx=>by rw[<- w4];exact List.mem_map.2 ⟨x,hx,rfl⟩);obtain⟨c1,c2⟩:=h.inst hok h1;refine⟨u,h1,fun x hx hn hy=>w5 x hx hn ?_,?_,?_⟩
  .rw[h2.groundF (c2 _ (A1 _ (List.mem_map.2 ⟨x,hx,rfl⟩)))];exact hy
  .rw[<- h2.groundF (c2 _ (A2 ..))];exact w3
  rw[<- w4]
  refine A8 fun x hx=>?_
  exact (h2.groundF (c2 _ (A1 _ (List.mem_map.2 ⟨x,(List.mem_filter.1 hx).1,rfl⟩)))).symm
 rintro⟨w,w1,w2,w3,w4⟩
 obtain⟨c1,c2⟩:=h.inst hok w1;exact⟨w,c1,c2,w3,w4,w2⟩
abbrev z6:LA:=A0 6 0
theorem qcb {f:rufact} (h:okU1 f):groundP (apiF f)/\toF (apiF f)=f:=by
  have h16:=ZV h
  have hl:1<=(argsF f).length/\(argsF f).length<=2:=by
    unfold argsF;split <;> simp
  rw[Vz];refine⟨⟨⟨h.r0,h.r5⟩,hl,h16⟩,?_⟩;unfold toF mkF argsF;obtain⟨r,a,b⟩:=f;by_cases hb:b=0
  . subst hb;rfl
  . simp only
    rw[if_neg hb];rfl
theorem qfm {out:LB} (hn:NT out) (ho:∀ g,g∈out.map Prod.fst->okU1 g):XG out=some (sortF (apis out)):=by
  have hsm:=YO hn.n ho;rw[A6]at hsm;unfold XG;rw[NH (by rw[Bool.and_eq_true,qew hn.n,dT (by omega)];exact⟨rfl,rfl⟩)]
end Go.AM
namespace Go.AM
open Go.Proofs Go.Sort
open Classical
variable {l m:LG} {f:apiFact} {out:LB}
theorem qgX (a2:LA) (K:LD):∀ (r:LA) (k:Nat),k+r.length=a2.length->jm a2 K r k=if r=a2.drop k then K else some false
 | [],k,h=>by
  rw[jm,List.drop_of_length_le (by simp at h;omega),if_pos rfl]
 | x::r,k,h=>by
  rw[C0]at h
  have hk:k<a2.length:=by omega
  rw[jm,qgX a2 K r (k+1) (by omega),List.drop_eq_getElem_cons hk]
  have hi:idx a2 (k:Int)=some a2[k]:=by
   unfold idx;rw[if_pos (by omega),Int.toNat_natCast,List.getElem?_eq_getElem hk]
  rw[hi];simp only[A4,List.cons.injEq];by_cases hx:x=a2[k]
  .rw[show (x != a2[k])=false by simp[hx],cN];simp only[hx,true_and]
  rw[show (x != a2[k])=true by simpa using hx,cT,if_neg (fun h=>hx h.1)]
theorem qkd {a b:LA} (h:lenOk a=true):Xh a b=some (decide (a=b)):=by
 unfold Xh;by_cases hl:a.length=b.length
 .rw[show ((a.length:Int) != (b.length:Int))=false by simp[hl],cN,NH h,qgX b _ a 0 (by omega)];unfold Qx;simp only[List.drop_zero];by_cases he:a=b
  .rw[if_pos he,dT he]
  rw[if_neg he,dF he]
 rw[show ((a.length:Int) != (b.length:Int))=true by simp;omega,cT,dF (fun e=>hl (by rw[e]))]
theorem qgL {g:apiFact->LD} {p:apiFact->Bool}:∀ (l:LG) (k:Nat),(∀ x,x∈l->g x=some (p x))->∃ i,qW g Jh l k=some i/\(decide (i >= 0)=l.any p)
 | [],k,_=>⟨-1,by rw[qW];rfl,by simp⟩
 | x::l,k,h=>by
  obtain⟨i,h1,h2⟩:=qgL l (k+1) fun y hy=>h y (A1 _ hy)
  rw[qW,h x (A2 ..)];simp only[A4]
  cases hp:p x with
  | true=>exact⟨k,rfl,by simp[hp]⟩
  | false=>exact⟨i,by rw[cN];exact h1,by rw[h2,List.any_cons,hp,Bool.false_or]⟩
theorem qfH {g:apiFact->LD} {p:apiFact->Bool} (hl:lenOk l=true) (h:∀ x,x∈l->g x=some (p x)):Jk l g=some (l.any p):=by
 obtain⟨i,h1,h2⟩:=qgL l 0 h;unfold Jk QE;rw[NH hl,h1];simp only[A4];rw[h2]
theorem qdn {a b:apiFact}:a=b↔a.qc=b.qc/\a.qa=b.qa:=by
 obtain⟨r,x⟩:=a;obtain⟨s,y⟩:=b;simp
theorem qhu (hl:lenOk l=true) (hf:lenOk f.qa=true):Zo l f=some (decide (f∈l)):=by
 unfold Zo;rw[qfH (p:=fun x=>decide (f=x)) hl fun x hx=>?_]
 .simp only[A4]
  congr 1
  rw[Bool.eq_iff_iff,List.any_eq_true,decide_eq_true_eq];constructor
  .rintro⟨x,hx,he⟩
   rw[of_decide_eq_true he];exact hx
  intro h;exact⟨f,h,dT rfl⟩
 unfold Zd;by_cases h1:f.qc=x.qc
 .rw[show (f.qc == x.qc)=true by simp[h1],cT,qkd hf];simp only[A4,Qy]
  congr 1
  exact decide_eq_decide.2 ⟨fun h=>qdn.2 ⟨h1,h⟩,fun h=>(qdn.1 h).2⟩
 rw[show (f.qc == x.qc)=false by simpa using h1,cN];unfold Qy;rw[dF (fun h=>h1 (qdn.1 h).1)]
def cutF (f:apiFact):apiFact:=⟨f.qc,f.qa.take 5⟩
theorem qie (f:apiFact):Hi f=some (cutF f):=by
 unfold Hi;have h:=qcw (l:=f.qa) 5;rw[show ((5:Nat):Int)=5 from rfl]at h;rw[h];simp only[A4];rw[qbA (by rw[List.length_take];omega)];rfl
theorem qhp (h:groundP f):apiF (toF f)=f:=by
 rw[Vz,(Xz h).2];rfl
theorem qma:f∈sortF (apis out)↔∃ g,g∈out.map Prod.fst/\apiF g=f:=by
 have hp:(sortF (apis out)).Perm (apis out):=List.mergeSort_perm ..;rw[hp.mem_iff];unfold apis;rw[List.mem_map];constructor
 .rintro⟨p,hp,rfl⟩;exact⟨p.1,List.mem_map.2 ⟨p,hp,rfl⟩,rfl⟩
 rintro⟨g,hg,rfl⟩
 obtain⟨p,hp,rfl⟩:=List.mem_map.1 hg;exact⟨p,hp,rfl⟩
theorem qgd {l:LN} (hl:l.length<=10) (h:∀ r,r∈l->okR r):(l.take 12).map cvR=l.map toR:=by
 rw[C7 (by omega)]
 exact A8 fun r hr=>qlo (h r hr)
theorem qgU (hm:m.length<=26) (h:∀ f,f∈m->f.qa.length<=9):(m.take 26).map cvF=m:=by
 rw[C7 hm]
 conv=>rhs;rw[<- List.map_id m]
 refine A8 fun f hf=>?_
 unfold cvF;rw[C7 (h f hf)];rfl
theorem mvalid {fuel:Nat} (hf:4<=fuel) {l:LN} (ho:okRules l) (hl:l.length<=10) (h:∀ r,r∈l->okR r) (hm:m.length<=26) (h9:∀ f,f∈m->f.qa.length<=9):Xp fuel (l.map toR) m=some (decide (VR l m)):=by
 have:=DN hf (facts:=m) ho;rw[qgd hl h,qgU hm h9]at this;exact this
theorem qfU (h:out.length<=252):lenOk (sortF (apis out))=true:=qy (by rw[Vo,A6];omega)
end Go.AM
namespace Go.Proofs
open Go.RowKit Go.AM
open Go.ChangeMaps (setBlock)
end Go.Proofs
namespace Go.AM
open Go.Proofs
end Go.AM
namespace Go.AM
open Go.Proofs
end Go.AM
namespace Go.AM
open Go.Proofs Go.Sort
open Classical
variable {l:LN} {facts:LG}
structure FoundP (L:LH) (G:rufact->Prop) (yes open':rufact->Prop):Prop where
 ex:∃ could,LeastR L yes G could/\LeastR L could G yes/\∀ g,open' g↔¬ yes g/\could g
theorem qjw {g:rufact}:¬ setB (A0 252 false) g:=fun h=>by
 have:=h.2;rw[D1,D2]at this;split at this <;> simp at this
theorem StR.empty {ar:Int->Nat}:StR ar [] (A0 252 false):=⟨NT.empty,fun g hg=>by simp at hg,by simp,fun g=>⟨fun h=>by simp at h,fun h=>absurd h qjw⟩⟩
theorem qgV (hv:VR l facts):(facts.take 26).map cvF=facts:=qgU (by have:=hv.2.1;omega) fun f hf=>by have:=(hv.2.2.1 f hf).2.1.2;omega
theorem qge (hv:VR l facts):(l.take 12).map cvR=l.map toR:=qgd hv.1 hv.2.2.2.1
end Go.AM
namespace Go.AM
open Go.Proofs Go.Sort
open Classical
mutual
def hT:ruProof->Nat
 | .mk _ _ s=>1+hTs s
def hTs:LU->Nat
 | []=>0
 | x::r=>max (hT x) (hTs r)
end
mutual
def nT:ruProof->Nat
 | .mk _ _ s=>1+nTs s
def nTs:LU->Nat
 | []=>0
 | x::r=>nT x+nTs r
end
mutual
def okT:ruProof->Prop
 | .mk _ f s=>f.qa.length<=5/\s.length<=6/\okTs s
def okTs:LU->Prop
 | []=>True
 | x::r=>okT x/\okTs r
end
mutual
def ownT:ruProof->qr
 | .mk r f s=>.mk r f (ownTs s)
def ownTs:LU->List qr
 | []=>[]
 | x::r=>ownT x::ownTs r
end
mutual
def okQ:qr->Prop
 | .mk _ _ s=>lenOk s=true/\okQs s
def okQs:List qr->Prop
 | []=>True
 | x::r=>okQ x/\okQs r
end
theorem qaM (p:ruProof):hT p=1+hTs p.qj:=by
 obtain⟨a,b,c⟩:=p;rw[hT];rfl
theorem qiQ (p:ruProof):nT p=1+nTs p.qj:=by
 obtain⟨a,b,c⟩:=p;rw[nT];rfl
theorem Nr (p:ruProof):okT p↔p.qd.qa.length<=5/\p.qj.length<=6/\okTs p.qj:=by
 obtain⟨a,b,c⟩:=p;rw[okT];exact Iff.rfl
theorem qkS (p:qr):okQ p↔lenOk p.qj=true/\okQs p.qj:=by
 obtain⟨a,b,c⟩:=p;rw[okQ];exact Iff.rfl
theorem qbp:∀ l,ownTs l=l.map ownT
 | []=>by rw[ownTs];rfl
 | x::r=>by rw[ownTs,qbp r];rfl
theorem qgq (p:ruProof):(ownT p).ql=p.ql:=by
 obtain⟨a,b,c⟩:=p;rw[ownT];rfl
theorem qaC (p:ruProof):(ownT p).qd=p.qd:=by
 obtain⟨a,b,c⟩:=p;rw[ownT];rfl
theorem Dg (p:ruProof):(ownT p).qj=p.qj.map ownT:=by
 obtain⟨a,b,c⟩:=p;rw[ownT,<- qbp];rfl
theorem Uj:∀ {l:LU} {x:ruProof},x∈l->hT x<=hTs l
 | y::l,x,h=>by
  rw[hTs]
  rcases List.mem_cons.1 h with rfl | h
  .exact Nat.le_max_left ..
  exact Nat.le_trans (Uj h) (Nat.le_max_right ..)
theorem VK:∀ {l:LU} {x:ruProof},okTs l->x∈l->okT x
 | y::l,x,k,h=>by
  rw[okTs]at k
  rcases List.mem_cons.1 h with rfl | h
  .exact k.1
  exact VK k.2 h
theorem qgt:∀ {l:LU} {x:ruProof},okTs l->okT x->okTs (l++[x])
 | [],x,_,h=>by
  show okTs [x];rw[okTs,okTs];exact⟨h,trivial⟩
 | y::l,x,k,h=>by
  rw[okTs]at k;rw[List.cons_append,okTs];exact⟨k.1,qgt k.2 h⟩
theorem qja:∀ {l:LU} {x:ruProof} {n:Nat},hTs l<=n->hT x<=n->hTs (l++[x])<=n
 | [],x,n,_,h=>by
  show hTs [x]<=n;rw[hTs,hTs];omega
 | y::l,x,n,k,h=>by
  rw[hTs]at k;rw[List.cons_append,hTs];have:=qja (l:=l) (by omega:hTs l<=n) h;omega
theorem qbw (p:ruProof):1<=hT p:=by rw[qaM];omega
theorem qfV {deep:Nat} {K0:ruProof->Int->Int->LY}:∀ (l:LU) (k left:Nat),deep<=100->left<=500->(∀ x,x∈l->∀ u:Nat,u<=500->K0 x (u:Int) (deep:Int)=some (if nT x<=u/\hT x<=deep then ((u - nT x:Nat):Int) else -1)) ->
  jR ((deep:Int)+1) K0 Qr l k (left:Int)=some (if nTs l<=left/\hTs l<=deep then ((left - nTs l:Nat):Int) else -1)
 | [],k,left,_,_,_=>by
  rw[jR,nTs,hTs,if_pos ⟨by omega,by omega⟩];rfl
 | x::l,k,left,hd,hl,h=>by
  have hx:=h x (A2 ..) left hl;rw[jR,Int.add_sub_cancel];rw[wrap64 (by omega) (by omega),hx];simp only[A4];rw[nTs,hTs];by_cases hc:nT x<=left/\hT x<=deep
  .rw[if_pos hc,dF (by omega),cN,qfV l (k+1) (left - nT x) hd (by omega) fun y hy=>h y (A1 _ hy)]
   congr 1
   by_cases hq:nTs l<=left - nT x/\hTs l<=deep
   .rw[if_pos hq,if_pos ⟨by omega,by omega⟩];omega
   rw[if_neg hq,if_neg (by omega)]
  rw[if_neg hc,dT (by omega),cT,if_neg (by omega)]
theorem qef:∀ (fuel:Nat) (p:ruProof) (left deep:Nat),hT p<=fuel->okT p->left<=500->deep<=100->jD fuel p (left:Int) (deep:Int)=some (if nT p<=left/\hT p<=deep then ((left - nT p:Nat):Int) else -1)
 | 0,p,left,deep,hf,_,_,_=>by have:=qbw p;omega
 | fuel+1,p,left,deep,hf,ho,hl,hd=>by
  obtain⟨o1,o2,o3⟩:=(Nr p).1 ho;have h1:=qaM p;have h2:=qiQ p;rw[jD];by_cases c1:left=0
  .rw[dT (by omega),cT,if_neg (by omega)];rfl
  by_cases c2:deep=0
  .rw[dF (by omega),cN,dT (by omega),if_neg (by omega)];rfl
  obtain⟨l,rfl⟩:∃ l,left=l+1:=⟨left - 1,by omega⟩;obtain⟨d,rfl⟩:∃ d,deep=d+1:=⟨deep - 1,by omega⟩;rw[dF (by omega),cN,dF (by omega)];unfold QG;rw[cN,NH (qy (by omega)),wrap64 (by omega) (by omega)]
  have:=qfV (deep:=d) (K0:=jD fuel) p.qj 0 l oM oM fun x hx u hu=>qef fuel x u d (by have:=Uj hx;omega) (VK o3 hx) hu oM
  rw[show ((l+1:Nat):Int) - 1=(l:Int) by omega,show ((d+1:Nat):Int)=(d:Int)+1 by omega,this]
  congr 1
  by_cases hq:nTs p.qj<=l/\hTs p.qj<=d
  .rw[if_pos hq,if_pos ⟨by omega,by omega⟩];omega
  rw[if_neg hq,if_neg (by omega)]
theorem qiF {K0:qr->LY}:∀ (l:LU) (k v:Nat),v<=500->(∀ x,x∈l->K0 (ownT x)=some (if nT x<=500 then (nT x:Int) else 501)) ->
  ZN K0 qbL (l.map ownT) k (v:Int)=some (if v+nTs l<=500 then ((v+nTs l:Nat):Int) else 501)
 | [],k,v,hv,_=>by
  rw[D0,ZN,nTs,if_pos (by omega)];rfl
 | x::l,k,v,hv,h=>by
  rw[A5,ZN,h x (A2 ..)];simp only[A4];rw[nTs];by_cases hx:nT x<=500
  .rw[if_pos hx,wrap64 (by omega) (by omega)];by_cases hq:v+nT x<=500
   .rw[dF (by omega),cN]
    have:=qiF l (k+1) (v+nT x) hq fun y hy=>h y (A1 _ hy)
    rw[show (v:Int)+(nT x:Int)=((v+nT x:Nat):Int) by omega,this,Nat.add_assoc]
   rw[dT (by omega),cT,if_neg (by omega)]
  rw[if_neg hx,wrap64 (by omega) (by omega),dT (by omega),cT,if_neg (by omega)]
theorem qcA:∀ (fuel:Nat) (p:ruProof),hT p<=fuel->okT p->VI fuel (ownT p)=some (if nT p<=500 then (nT p:Int) else 501)
 | 0,p,hf,_=>by have:=qbw p;omega
 | fuel+1,p,hf,ho=>by
  obtain⟨o1,o2,o3⟩:=(Nr p).1 ho;have h1:=qaM p;rw[VI,Dg,NH (qy (by rw[A6];omega))]
  have:=qiF (K0:=VI fuel) p.qj 0 1 oM fun x hx=>qcA fuel x (by have:=Uj hx;omega) (VK o3 hx)
  rw[<- qiQ]at this;exact this
theorem qha {d:Nat} (hd:d<=39) {K0:qr->Int->LY} (K:Int->LY):∀ (l:LU) (k v:Nat),v<=41->(∀ x,x∈l->K0 (ownT x) (d:Int)=some (if hT x<=d then (hT x:Int) else 41)) ->
  QH ((d:Int)+1) K0 K (l.map ownT) k (v:Int)=K (if hTs l<=d then ((max v (hTs l):Nat):Int) else 41)
 | [],k,v,hv,_=>by
  rw[D0,QH,hTs,if_pos (by omega),Nat.max_eq_left (by omega)]
 | x::l,k,v,hv,h=>by
  rw[A5,QH,Int.add_sub_cancel,wrap64 (by omega) (by omega),h x (A2 ..)];simp only[A4];rw[hTs]
  have ih:=fun v' hv'=>qha hd K l (k+1) v' hv' fun y hy=>h y (A1 _ hy)
  by_cases hx:hT x<=d
  .rw[if_pos hx,show (if (hT x:Int) > (v:Int) then (hT x:Int) else (v:Int))=((max v (hT x):Nat):Int) by split <;> omega,ih _ (by omega)]
   congr 1
   by_cases hq:hTs l<=d
   .rw[if_pos hq,if_pos (by omega)];omega
   rw[if_neg hq,if_neg (by omega)]
  rw[if_neg hx,show (if (41:Int) > (v:Int) then (41:Int) else (v:Int))=((41:Nat):Int) by split <;> omega,ih _ (by omega),if_neg (show ¬ max (hT x) (hTs l)<=d by omega)]
  congr 1
  split <;> omega
theorem Dt:∀ (fuel:Nat) (p:ruProof) (left:Nat),hT p<=fuel->okT p->left<=40->Qo fuel (ownT p) (left:Int)=some (if hT p<=left then (hT p:Int) else 41)
 | 0,p,left,hf,_,_=>by have:=qbw p;omega
 | fuel+1,p,left,hf,ho,hl=>by
  obtain⟨o1,o2,o3⟩:=(Nr p).1 ho;have h1:=qaM p;rw[Qo];by_cases c:left=0
  .subst c;rw[show (((0:Nat):Int) == 0)=true from rfl,cT,if_neg (by omega)]
  obtain⟨d,rfl⟩:∃ d,left=d+1:=⟨left - 1,by omega⟩;rw[show (((d+1:Nat):Int) == 0)=false from beq_eq_false_iff_ne.2 (by omega),cN,Dg,NH (qy (by rw[A6];omega))]
  have:=qha (d:=d) oM (K0:=Qo fuel) Yd p.qj 0 0 oM fun x hx=>Dt fuel x d (by have:=Uj hx;omega) (VK o3 hx) oM
  rw[show ((d+1:Nat):Int)=(d:Int)+1 by omega,show (0:Int)=((0:Nat):Int) from rfl,this];unfold Yd
  congr 1
  by_cases hq:hTs p.qj<=d
  .rw[if_pos hq,wrap64 (by omega) (by omega),if_pos (by omega),if_pos (by omega)];omega
  rw[if_neg hq,wrap64 (by omega) (by omega),if_neg (show ¬ (41:Int)+1<41 by omega),if_neg (by omega)]
theorem qkR {K0:ruProof->Option qr} (K:qr->Option qr) (a b:Int) (c:LA):∀ (l:LU) (k:Nat) (acc:List qr),acc.length+l.length<=1000->(∀ x,x∈l->K0 x=some (ownT x)) ->
  jJ K0 K l k a b c acc=K (qr.mk a (apiFact.mk b c) (acc++l.map ownT))
 | [],k,acc,_,_=>by rw[jJ,D0,List.append_nil]
 | x::l,k,acc,hl,h=>by
  rw[C0]at hl;rw[jJ,h x (A2 ..)];simp only[A4];rw[NH (Xc (by omega) (by simp;omega)),qkR K a b c l (k+1) (acc++[ownT x]) (by simp;omega) fun y hy=>h y (A1 _ hy),A5,List.append_assoc];rfl
theorem qfv:∀ (fuel:Nat) (p:ruProof),hT p<=fuel->okT p->Ja fuel p=some (ownT p)
 | 0,p,hf,_=>by have:=qbw p;omega
 | fuel+1,p,hf,ho=>by
  obtain⟨o1,o2,o3⟩:=(Nr p).1 ho;have h1:=qaM p;rw[Ja,NH (qy (by omega)),qkR _ _ _ _ p.qj 0 [] (by simp;omega) fun x hx=>qfv fuel x (by have:=Uj hx;omega) (VK o3 hx),List.nil_append];obtain⟨r,⟨f1,f2⟩,s⟩:=p;unfold Qa;rw[ownT,qbp];rfl
theorem qjf {deep:Nat} (hd:deep<=100) {K0:qr->Int->Int->Lj} (a b:Int) (c:LA) (hc:c.length<=5):∀ (l:List qr) (k left:Nat) (acc:LU),left<=1000->acc.length<=k->acc.length<=6->okTs acc->hTs acc<=deep ->
  (∀ x,x∈l->1<=deep->∀ u:Nat,1<=u->u<=1000->∃ p n,K0 x ((deep:Int) - 1) (u:Int)=some (p,((n:Nat):Int))/\okT p/\hT p<=deep/\n<=1000) ->
  ∃ s n,qT (deep:Int) K0 jd l k (left:Int) a b c acc=some (ruProof.mk a (apiFact.mk b c) s,((n:Nat):Int))/\okTs s/\s.length<=6/\hTs s<=deep/\n<=1000
 | [],k,left,acc,hl,_,h6,h1,h2,_=>⟨acc,left,by rw[qT];rfl,h1,h6,h2,hl⟩
 | x::l,k,left,acc,hl,hk,h6,h1,h2,h=>by
  have stop:∃ s n,jd (left:Int) (ruProof.mk a (apiFact.mk b c) acc)=some (ruProof.mk a (apiFact.mk b c) s,((n:Nat):Int))/\okTs s/\s.length<=6/\hTs s<=deep/\n<=1000:=⟨acc,left,rfl,h1,h6,h2,hl⟩;rw[qT];unfold JV;by_cases c1:deep=0
  .rw[dT (by omega),cT,cT];exact stop
  rw[dF (by omega),cN];by_cases c2:k > 5
  .rw[dT (by omega),cT,cT];exact stop
  rw[dF (by omega),cN];by_cases c3:left=0
  .rw[dT (by omega),cT];exact stop
  rw[dF (by omega),cN,wrap64 (by omega) (by omega)];obtain⟨p,n,e1,e2,e3,e4⟩:=h x (A2 ..) oM left oM hl;rw[e1];simp only[A4];rw[NH (Xc (by omega) (by simp;omega))]
  exact qjf hd a b c hc l (k+1) n (acc++[p]) e4 (by simp;omega) (by simp;omega) (qgt h1 e2) (qja h2 e3) fun y hy=>h y (A1 _ hy)
theorem qgu:∀ {l:List qr} {x:qr},okQs l->x∈l->okQ x
 | y::l,x,k,h=>by
  rw[okQs]at k
  rcases List.mem_cons.1 h with rfl | h
  .exact k.1
  exact qgu k.2 h
theorem qhb:∀ (deep fuel:Nat) (q:qr) (left:Nat),deep+1<=fuel->deep<=100->okQ q->1<=left->left<=1000->∃ p n,js fuel q (deep:Int) (left:Int)=some (p,((n:Nat):Int))/\okT p/\hT p<=deep+1/\n<=1000
 | deep,0,q,left,hf,_,_,_,_=>by omega
 | deep,fuel+1,q,left,hf,hd,hq,h1,h2=>by
  obtain⟨q1,q2⟩:=(qkS q).1 hq;rw[js,qie];simp only[A4]
  have hc:(cutF q.qd).qa.length<=5:=by
   unfold cutF;simp only[List.length_take];omega
  obtain⟨s,n,e1,e2,e3,e4,e5⟩:=qjf hd q.ql (cutF q.qd).qc (cutF q.qd).qa hc q.qj 0 (left - 1) [] (K0:=js fuel) oM (by simp) (by simp) (by rw[okTs];trivial) (by rw[hTs];omega) fun x hx hdp u hu1 hu2=>by
   obtain⟨d,rfl⟩:∃ d,deep=d+1:=⟨deep - 1,by omega⟩;obtain⟨p,n,e1,e2,e3,e4⟩:=qhb d fuel x u oM oM (qgu q2 hx) hu1 hu2;exact⟨p,n,by rw[show ((d+1:Nat):Int) - 1=(d:Int) by omega];exact e1,e2,e3,e4⟩
  rw[NH q1,wrap64 (by omega) (by omega),show (left:Int) - 1=((left - 1:Nat):Int) by omega,e1];refine⟨_,n,rfl,(Nr _).2 ⟨hc,e3,e2⟩,?_,e5⟩;rw[hT];omega
end Go.AM
